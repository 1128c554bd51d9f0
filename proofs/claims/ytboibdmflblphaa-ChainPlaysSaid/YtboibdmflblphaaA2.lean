/- A2 of the seat. -/
import Derived.Test.YtboibdmflblphaaA1
namespace Go.Proofs.Ytboibdmflblphaa
open Go Fw
theorem fa_32_0_A2 : FA Try.prog 32 0 0 := fun _ _ _ => by kernel_rfl
theorem sc_3_A2 : scalB Try.prog 3 = true := by kernel_rfl
theorem fa_32_3_A2 : FA Try.prog 32 3 3 := fun _ _ _ => by kernel_rfl
theorem fa_32_2_A2 : FA Try.prog 32 2 2 := fun _ _ _ => by kernel_rfl
theorem fa_32_4_A2 : FA Try.prog 32 4 4 := fun _ _ _ => by kernel_rfl
theorem sc_9_A2 : scalB Try.prog 9 = true := by kernel_rfl
theorem fa_32_1_A2 : FA Try.prog 32 1 1 := fun _ _ _ => by kernel_rfl
theorem st_9_A2 : strB Try.prog 9 = true := by kernel_rfl
theorem sc_22_A2 : scalB Try.prog 22 = true := by kernel_rfl
theorem ag_32_A2 : aggB Try.prog 32 = some 5 := by kernel_rfl
theorem bs_22_1_A2 : ∀ (x0_0 : Int) (x0_1 : Int) (x0_2 : Int) (x0_3 : Int) (x0_4 : ByteArray), News Try.prog (Instr.buildSlice 22 1 #[(0, .agg #[.int .i64 x0_0, .int .i64 x0_1, .int .i64 x0_2, .int .i64 x0_3, .string x0_4])]) (.cells #[.int .i64 x0_0, .int .i64 x0_1, .int .i64 x0_2, .int .i64 x0_3, .string x0_4] 32) fun b => .slice (some ⟨b, 0, none⟩) 1 1 := by intros; intro w; kernel_rfl
theorem tl_22_A2 : SlT Try.prog 22 32 5 48 (.agg #[.int .i64 0, .int .i64 0, .int .i64 0, .int .i64 0, .string { data := #[] }]) := ⟨by kernel_rfl, by kernel_rfl, by kernel_rfl, by kernel_rfl, by decide⟩
theorem sz_22_A2 : sizeB Try.prog 22 = some 1 := by kernel_rfl
theorem fa_144_9_A2 : FA Try.prog 144 9 330 := fun _ _ _ => by kernel_rfl
theorem sc_25_A2 : scalB Try.prog 25 = true := by kernel_rfl
theorem cb_26_A2 : callB Try.prog 26 = true := by kernel_rfl
theorem fa_144_5_A2 : FA Try.prog 144 5 5 := fun _ _ _ => by kernel_rfl
theorem sz_3_A2 : sizeB Try.prog 3 = some 1 := by kernel_rfl
theorem fa_144_13_A2 : FA Try.prog 144 13 334 := fun _ _ _ => by kernel_rfl
theorem fa_142_0_A2 : FA Try.prog 142 0 0 := fun _ _ _ => by kernel_rfl
theorem sc_140_A2 : scalB Try.prog 140 = true := by kernel_rfl
theorem fa_144_1_A2 : FA Try.prog 144 1 1 := fun _ _ _ => by kernel_rfl
theorem fa_144_4_A2 : FA Try.prog 144 4 4 := fun _ _ _ => by kernel_rfl
theorem bl_32_0_1_2_4_A2 : ∀ (x0 : Int) (x1 : Int) (x2 : Int) (x4 : ByteArray), ∀ w : World, (Instr.build 32 #[(0, .int .i64 x0), (1, .int .i64 x1), (2, .int .i64 x2), (4, .string x4)]).run Try.prog w = .ok (.agg #[.int .i64 x0, .int .i64 x1, .int .i64 x2, .int .i64 0, .string x4]) w := by intros; kernel_rfl
theorem cb_107_A2 : callB Try.prog 107 = true := by kernel_rfl
theorem fa_144_10_A2 : FA Try.prog 144 10 331 := fun _ _ _ => by kernel_rfl
theorem sz_4_A2 : sizeB Try.prog 4 = some 1 := by kernel_rfl
theorem fa_144_0_A2 : FA Try.prog 144 0 0 := fun _ _ _ => by kernel_rfl
theorem fa_144_2_A2 : FA Try.prog 144 2 2 := fun _ _ _ => by kernel_rfl
theorem cb_35_A2 : callB Try.prog 35 = true := by kernel_rfl
theorem fa_144_7_A2 : FA Try.prog 144 7 8 := fun _ _ _ => by kernel_rfl
theorem fa_138_1_A2 : FA Try.prog 138 1 1 := fun _ _ _ => by kernel_rfl
theorem fa_138_0_A2 : FA Try.prog 138 0 0 := fun _ _ _ => by kernel_rfl
theorem bl_32_0_1_2_3_4_A2 : ∀ (x0 : Int) (x1 : Int) (x2 : Int) (x3 : Int) (x4 : ByteArray), ∀ w : World, (Instr.build 32 #[(0, .int .i64 x0), (1, .int .i64 x1), (2, .int .i64 x2), (3, .int .i64 x3), (4, .string x4)]).run Try.prog w = .ok (.agg #[.int .i64 x0, .int .i64 x1, .int .i64 x2, .int .i64 x3, .string x4]) w := by intros; kernel_rfl
theorem zr_32_A2 : zeroB Try.prog 32 = some (.agg #[.int .i64 0, .int .i64 0, .int .i64 0, .int .i64 0, .string { data := #[] }]) := by kernel_rfl
theorem sz_32_A2 : sizeB Try.prog 32 = some 5 := by kernel_rfl
theorem fa_144_3_A2 : FA Try.prog 144 3 3 := fun _ _ _ => by kernel_rfl
theorem sz_9_A2 : sizeB Try.prog 9 = some 1 := by kernel_rfl
open VoteM AgrM

def _root_.Go.Proofs.Ytboibdmflblphaa.AgrM.ASt.beg (a : ASt) (r : Int) : ASt := { a with round := r, step := 1, seen := false }
theorem begin_beg {a : ASt} {r : Int} (h : ¬ 64 ≤ r) : a.begin r = a.beg r := by unfold ASt.begin ASt.beg; rw [if_neg h]
theorem aF_331 (a : ASt) (vb : Nat) (mu : Value) : aF a vb mu 331 = .bool a.seen := rfl
theorem aF_332 (a : ASt) (vb : Nat) (mu : Value) : aF a vb mu 332 = .bool a.done := rfl
theorem aF_beg (a : ASt) (vb : Nat) (mu : Value) (r : Int) : upd (upd (upd (aF a vb mu) 4 (.int .i64 r)) 5 (.int .i64 1)) 331 (.bool false) = aF (a.beg r) vb mu := by
 rw [aF_round, aF_step, aF_seen]
 rfl

set_option maxRecDepth 100000 in
set_option maxHeartbeats 2000000 in
theorem c109 (q : Wrd) (w0 : World) : Cl Try.prog 109 #[wrdV q] w0 (RetQ w0 fun v => v = .int .i64 (if checkW q = true then 0 else 1)) := by
 have M : Sep (fun _ => False) w0 w0 _ := Sep.nil _ w0
 refine enter (vs := [_]) Try.func109 rfl rfl rfl ?_
 intro a F
 refine wp_seq ?_
 refine wp_region_l [.wr, .ind] ([0, 1]) rfl ?_
 refine s_bxA F M rfl rfl rfl rfl rfl ?_; (clear F a M; try clear w); intro b1 w M a F
 refine s_I F rfl rfl rfl rfl rfl rfl ?_; clear F a; intro a F
 refine t_endM M ?_; (clear M; try clear w); intro w M
 refine wp_seq ?_
 refine wp_region_l [.ind] ([0]) rfl ?_
 refine s_I F rfl rfl rfl rfl rfl rfl ?_; clear F a; intro a F
 refine t_endM M ?_; (clear M; try clear w); intro w M
 refine wp_seq ?_
 refine wp_seq ?_
 refine wp_region_l [.ind, .rd] ([0, 1]) rfl ?_
 refine s_fa0 F rfl rfl rfl rfl fa_32_0_A2 rfl ?_; clear F a; intro a F
 refine s_ld F rfl rfl rfl rfl sc_3_A2 rfl (by exact cell_of_blk M.h0 (lit rfl)) ?_; clear F a; intro a F
 refine t_endM M ?_; (clear M; try clear w); intro w M
 refine wp_block ?_
 refine wp_seq ?_
 replace F := F.keep [0, 1, 2, 3, 5] rfl
 refine wp_region_l [.ind, .ind] ([0, 1]) rfl ?_
 refine s_rn 2 F rfl rfl ?_; clear F a; intro a F
 refine t_endM M ?_; (clear M; try clear w); intro w M
 refine cutX (X := (Bool)) (m0 := []) F [0, 1, 2, 5] rfl M (fun (o : Bool) => (o = ((decide (q.kind = 1) && decide (-1 ≤ q.valid ∧ q.valid < q.round ∧ q.value ≠ VoteM.empty)) || (decide (q.kind = 2 ∨ q.kind = 3) && decide (q.valid = 0))))) (fun (o : Bool) => [(3, .bool o)]) (fun (o : Bool) => []) ?_ ?_
 refine c_if F rfl ?_ ?_
 clear F; intro hc0 F
 try rw [hc0] at F
 replace hc0 := of_decide_eq_true hc0
 replace F := F.keep [0, 1, 2, 3, 5] rfl
 refine wp_region_l [.ind, .rd, .ind, .ind, .ind, .rd, .ind, .rd, .ind, .ind, .ind, .ind, .rd, .ind, .ind, .ind] ([0, 1, 2, 3, 4, 5, 6, 7, 8, 9, 10, 11, 12, 13, 14, 15]) rfl ?_
 refine s_fa0 F rfl rfl rfl rfl fa_32_3_A2 rfl ?_; clear F a; intro a F
 refine s_ld F rfl rfl rfl rfl sc_3_A2 rfl (by exact cell_of_blk M.h0 (lit rfl)) ?_; clear F a; intro a F
 refine s_rn 2 F rfl rfl ?_; clear F a; intro a F
 refine bsplit F 11 rfl ?_ ?_
 clear F; intro hc1 F
 try rw [hc1] at F
 replace hc1 := of_decide_eq_true hc1
 refine s_fa0 F rfl rfl rfl rfl fa_32_3_A2 rfl ?_; clear F a; intro a F
 refine s_ld F rfl rfl rfl rfl sc_3_A2 rfl (by exact cell_of_blk M.h0 (lit rfl)) ?_; clear F a; intro a F
 refine s_fa0 F rfl rfl rfl rfl fa_32_2_A2 rfl ?_; clear F a; intro a F
 refine s_ld F rfl rfl rfl rfl sc_3_A2 rfl (by exact cell_of_blk M.h0 (lit rfl)) ?_; clear F a; intro a F
 refine s_rn 3 F rfl rfl ?_; clear F a; intro a F
 refine bsplit F 18 rfl ?_ ?_
 clear F; intro hc2 F
 try rw [hc2] at F
 replace hc2 := of_decide_eq_true hc2
 refine s_fa0 F rfl rfl rfl rfl fa_32_4_A2 rfl ?_; clear F a; intro a F
 refine s_ld F rfl rfl rfl rfl sc_9_A2 rfl (by exact cell_of_blk M.h0 (lit rfl)) ?_; clear F a; intro a F
 refine s_rn 3 F rfl rfl ?_; clear F a; intro a F
 refine t_endM M ?_; (clear M; try clear w); intro w M
 refine joined (_) (by clear M F; unfold VoteM.empty; grind) (F.keep [3, 0, 1, 2, 5] rfl) ?_
 try dsimp only [List.cons_append, List.nil_append]
 refine M.pick ?_; repeat (first | exact PkG.nil | refine PkG.cons 0 rfl rfl ?_)
 clear F; intro hc3 F
 try rw [hc3] at F
 replace hc3 := of_decide_eq_false hc3
 refine s_rn 5 F rfl rfl ?_; clear F a; intro a F
 refine t_endM M ?_; (clear M; try clear w); intro w M
 refine joined (_) (by clear M F; unfold VoteM.empty; grind) (F.keep [3, 0, 1, 2, 5] rfl) ?_
 try dsimp only [List.cons_append, List.nil_append]
 refine M.pick ?_; repeat (first | exact PkG.nil | refine PkG.cons 0 rfl rfl ?_)
 clear F; intro hc4 F
 try rw [hc4] at F
 replace hc4 := of_decide_eq_false hc4
 refine s_rn 12 F rfl rfl ?_; clear F a; intro a F
 refine t_endM M ?_; (clear M; try clear w); intro w M
 refine joined (_) (by clear M F; unfold VoteM.empty; grind) (F.keep [3, 0, 1, 2, 5] rfl) ?_
 try dsimp only [List.cons_append, List.nil_append]
 refine M.pick ?_; repeat (first | exact PkG.nil | refine PkG.cons 0 rfl rfl ?_)
 clear F; intro hc5 F
 try rw [hc5] at F
 replace hc5 := of_decide_eq_false hc5
 refine wp_seq ?_
 refine wp_seq ?_
 replace F := F.keep [0, 1, 2, 3, 5] rfl
 refine wp_region_l [.ind, .ind] ([0, 1]) rfl ?_
 refine s_rn 2 F rfl rfl ?_; clear F a; intro a F
 refine t_endM M ?_; (clear M; try clear w); intro w M
 refine c_if F rfl ?_ ?_
 clear F; intro hc6 F
 try rw [hc6] at F
 replace hc6 := of_decide_eq_true hc6
 refine wp_skip ?_
 refine c_t F rfl ?_
 replace F := F.keep [0, 1, 2, 3, 5] rfl
 refine wp_region_l [.ind, .rd, .ind, .ind] ([0, 1, 2, 3]) rfl ?_
 refine s_fa0 F rfl rfl rfl rfl fa_32_3_A2 rfl ?_; clear F a; intro a F
 refine s_ld F rfl rfl rfl rfl sc_3_A2 rfl (by exact cell_of_blk M.h0 (lit rfl)) ?_; clear F a; intro a F
 refine s_rn 2 F rfl rfl ?_; clear F a; intro a F
 refine t_endM M ?_; (clear M; try clear w); intro w M
 refine joined (_) (by clear M F; unfold VoteM.empty; grind) (F.keep [3, 0, 1, 2, 5] rfl) ?_
 try dsimp only [List.cons_append, List.nil_append]
 refine M.pick ?_; repeat (first | exact PkG.nil | refine PkG.cons 0 rfl rfl ?_)
 clear F; intro hc7 F
 try rw [hc7] at F
 replace hc7 := of_decide_eq_false hc7
 replace F := F.keep [0, 1, 2, 3, 5] rfl
 refine wp_region_l [.ind, .ind] ([0, 1]) rfl ?_
 refine s_rn 2 F rfl rfl ?_; clear F a; intro a F
 refine t_endM M ?_; (clear M; try clear w); intro w M
 refine c_if F rfl ?_ ?_
 clear F; intro hc8 F
 try rw [hc8] at F
 replace hc8 := of_decide_eq_true hc8
 replace F := F.keep [0, 1, 2, 3, 5] rfl
 refine wp_region_l [.ind, .rd, .ind, .ind] ([0, 1, 2, 3]) rfl ?_
 refine s_fa0 F rfl rfl rfl rfl fa_32_3_A2 rfl ?_; clear F a; intro a F
 refine s_ld F rfl rfl rfl rfl sc_3_A2 rfl (by exact cell_of_blk M.h0 (lit rfl)) ?_; clear F a; intro a F
 refine s_rn 2 F rfl rfl ?_; clear F a; intro a F
 refine t_endM M ?_; (clear M; try clear w); intro w M
 refine joined (_) (by clear M F; unfold VoteM.empty; grind) (F.keep [3, 0, 1, 2, 5] rfl) ?_
 try dsimp only [List.cons_append, List.nil_append]
 refine M.pick ?_; repeat (first | exact PkG.nil | refine PkG.cons 0 rfl rfl ?_)
 clear F; intro hc9 F
 try rw [hc9] at F
 replace hc9 := of_decide_eq_false hc9
 refine wp_skip ?_
 refine joined (_) (by clear M F; unfold VoteM.empty; grind) (F.keep [3, 0, 1, 2, 5] rfl) ?_
 try dsimp only [List.cons_append, List.nil_append]
 refine M.pick ?_; repeat (first | exact PkG.nil | refine PkG.cons 0 rfl rfl ?_)
 clear F M; clear a; (try clear w)
 rintro o a w hq F M; try dsimp only at F M
 try simp only [List.cons_append, List.nil_append] at F M
 try dsimp only at hq
 refine wp_seq ?_
 refine wp_seq ?_
 refine wp_region_l [.ind, .ind, .ind, .ind, .rd, .ind, .ind, .ind, .ind, .rd, .ind, .ind, .ind, .ind, .rd, .ind, .ind, .ind, .ind, .rd, .ind, .ind, .ind, .ind, .rd, .ind, .ind, .ind] ([0, 1, 2, 3, 4, 5, 6, 7, 8, 9, 10, 11, 12, 13, 14, 15, 16, 17, 18, 19, 20, 21, 22, 23, 24, 25, 26, 27]) rfl ?_
 refine s_rn 3 F rfl rfl ?_; clear F a; intro a F
 refine bsplit F 31 rfl ?_ ?_
 clear F; intro hc10 F
 try rw [hc10] at F
 replace hc10 := nt hc10
 refine s_rn 25 F rfl rfl ?_; clear F a; intro a F
 refine t_endM M ?_; (clear M; try clear w); intro w M
 refine c_t F rfl ?_
 refine wp_seq ?_
 replace F := F.keep [0, 1, 2, 3, 5] rfl
 refine wp_region_l [.ind] ([0]) rfl ?_
 refine s_I F rfl rfl rfl rfl rfl rfl ?_; clear F a; intro a F
 refine t_endM M ?_; (clear M; try clear w); intro w M
 refine wp_ret ?_
 refine ret1 F rfl rfl ?_
 have hk : checkW q = false := by
   clear M F
   unfold checkW VoteM.empty at *
   grind
 refine ⟨_, rfl, ?_, M.chg⟩
 rw [hk]
 rfl
 clear F; intro hc11 F
 try rw [hc11] at F
 replace hc11 := nf hc11
 refine s_fa0 F rfl rfl rfl rfl fa_32_1_A2 rfl ?_; clear F a; intro a F
 refine s_ld F rfl rfl rfl rfl sc_3_A2 rfl (by exact cell_of_blk M.h0 (lit rfl)) ?_; clear F a; intro a F
 refine s_rn 3 F rfl rfl ?_; clear F a; intro a F
 refine bsplit F 36 rfl ?_ ?_
 clear F; intro hc12 F
 try rw [hc12] at F
 replace hc12 := of_decide_eq_true hc12
 refine s_rn 20 F rfl rfl ?_; clear F a; intro a F
 refine t_endM M ?_; (clear M; try clear w); intro w M
 refine c_t F rfl ?_
 refine wp_seq ?_
 replace F := F.keep [0, 1, 2, 3, 5] rfl
 refine wp_region_l [.ind] ([0]) rfl ?_
 refine s_I F rfl rfl rfl rfl rfl rfl ?_; clear F a; intro a F
 refine t_endM M ?_; (clear M; try clear w); intro w M
 refine wp_ret ?_
 refine ret1 F rfl rfl ?_
 have hk : checkW q = false := by
   clear M F
   unfold checkW VoteM.empty at *
   grind
 refine ⟨_, rfl, ?_, M.chg⟩
 rw [hk]
 rfl
 clear F; intro hc13 F
 try rw [hc13] at F
 replace hc13 := of_decide_eq_false hc13
 refine s_fa0 F rfl rfl rfl rfl fa_32_1_A2 rfl ?_; clear F a; intro a F
 refine s_ld F rfl rfl rfl rfl sc_3_A2 rfl (by exact cell_of_blk M.h0 (lit rfl)) ?_; clear F a; intro a F
 refine s_rn 3 F rfl rfl ?_; clear F a; intro a F
 refine bsplit F 41 rfl ?_ ?_
 clear F; intro hc14 F
 try rw [hc14] at F
 replace hc14 := of_decide_eq_true hc14
 refine s_rn 15 F rfl rfl ?_; clear F a; intro a F
 refine t_endM M ?_; (clear M; try clear w); intro w M
 refine c_t F rfl ?_
 refine wp_seq ?_
 replace F := F.keep [0, 1, 2, 3, 5] rfl
 refine wp_region_l [.ind] ([0]) rfl ?_
 refine s_I F rfl rfl rfl rfl rfl rfl ?_; clear F a; intro a F
 refine t_endM M ?_; (clear M; try clear w); intro w M
 refine wp_ret ?_
 refine ret1 F rfl rfl ?_
 have hk : checkW q = false := by
   clear M F
   unfold checkW VoteM.empty at *
   grind
 refine ⟨_, rfl, ?_, M.chg⟩
 rw [hk]
 rfl
 clear F; intro hc15 F
 try rw [hc15] at F
 replace hc15 := of_decide_eq_false hc15
 refine s_fa0 F rfl rfl rfl rfl fa_32_2_A2 rfl ?_; clear F a; intro a F
 refine s_ld F rfl rfl rfl rfl sc_3_A2 rfl (by exact cell_of_blk M.h0 (lit rfl)) ?_; clear F a; intro a F
 refine s_rn 3 F rfl rfl ?_; clear F a; intro a F
 refine bsplit F 46 rfl ?_ ?_
 clear F; intro hc16 F
 try rw [hc16] at F
 replace hc16 := of_decide_eq_true hc16
 refine s_rn 10 F rfl rfl ?_; clear F a; intro a F
 refine t_endM M ?_; (clear M; try clear w); intro w M
 refine c_t F rfl ?_
 refine wp_seq ?_
 replace F := F.keep [0, 1, 2, 3, 5] rfl
 refine wp_region_l [.ind] ([0]) rfl ?_
 refine s_I F rfl rfl rfl rfl rfl rfl ?_; clear F a; intro a F
 refine t_endM M ?_; (clear M; try clear w); intro w M
 refine wp_ret ?_
 refine ret1 F rfl rfl ?_
 have hk : checkW q = false := by
   clear M F
   unfold checkW VoteM.empty at *
   grind
 refine ⟨_, rfl, ?_, M.chg⟩
 rw [hk]
 rfl
 clear F; intro hc17 F
 try rw [hc17] at F
 replace hc17 := of_decide_eq_false hc17
 refine s_fa0 F rfl rfl rfl rfl fa_32_2_A2 rfl ?_; clear F a; intro a F
 refine s_ld F rfl rfl rfl rfl sc_3_A2 rfl (by exact cell_of_blk M.h0 (lit rfl)) ?_; clear F a; intro a F
 refine s_rn 3 F rfl rfl ?_; clear F a; intro a F
 refine bsplit F 51 rfl ?_ ?_
 clear F; intro hc18 F
 try rw [hc18] at F
 replace hc18 := of_decide_eq_true hc18
 refine s_rn 5 F rfl rfl ?_; clear F a; intro a F
 refine t_endM M ?_; (clear M; try clear w); intro w M
 refine c_t F rfl ?_
 refine wp_seq ?_
 replace F := F.keep [0, 1, 2, 3, 5] rfl
 refine wp_region_l [.ind] ([0]) rfl ?_
 refine s_I F rfl rfl rfl rfl rfl rfl ?_; clear F a; intro a F
 refine t_endM M ?_; (clear M; try clear w); intro w M
 refine wp_ret ?_
 refine ret1 F rfl rfl ?_
 have hk : checkW q = false := by
   clear M F
   unfold checkW VoteM.empty at *
   grind
 refine ⟨_, rfl, ?_, M.chg⟩
 rw [hk]
 rfl
 clear F; intro hc19 F
 try rw [hc19] at F
 replace hc19 := of_decide_eq_false hc19
 refine s_fa0 F rfl rfl rfl rfl fa_32_4_A2 rfl ?_; clear F a; intro a F
 refine s_ld F rfl rfl rfl rfl sc_9_A2 rfl (by exact cell_of_blk M.h0 (lit rfl)) ?_; clear F a; intro a F
 refine s_lenS F rfl rfl rfl rfl st_9_A2 rfl ?_; clear F a; intro a F
 refine s_rn 2 F rfl rfl ?_; clear F a; intro a F
 refine t_endM M ?_; (clear M; try clear w); intro w M
 refine c_if F rfl ?_ ?_
 clear F; intro hc20 F
 try rw [hc20] at F
 replace hc20 := of_decide_eq_true hc20
 refine wp_seq ?_
 replace F := F.keep [0, 1, 2, 3, 5] rfl
 refine wp_region_l [.ind] ([0]) rfl ?_
 refine s_I F rfl rfl rfl rfl rfl rfl ?_; clear F a; intro a F
 refine t_endM M ?_; (clear M; try clear w); intro w M
 refine wp_ret ?_
 refine ret1 F rfl rfl ?_
 have hk : checkW q = false := by
   clear M F
   unfold checkW VoteM.empty at *
   grind
 refine ⟨_, rfl, ?_, M.chg⟩
 rw [hk]
 rfl
 clear F; intro hc21 F
 try rw [hc21] at F
 replace hc21 := of_decide_eq_false hc21
 refine wp_skip ?_
 refine wp_seq ?_
 replace F := F.keep [0, 1, 2, 3, 5] rfl
 refine wp_region_l [.ind] ([0]) rfl ?_
 refine s_I F rfl rfl rfl rfl rfl rfl ?_; clear F a; intro a F
 refine t_endM M ?_; (clear M; try clear w); intro w M
 refine wp_ret ?_
 refine ret1 F rfl rfl ?_
 have hk : checkW q = true := by
   clear M F
   unfold checkW VoteM.empty at *
   grind
 refine ⟨_, rfl, ?_, M.chg⟩
 rw [hk]
 rfl
set_option maxRecDepth 100000 in
set_option maxHeartbeats 4000000 in
theorem c49 (q : Wrd) (w0 : World) : Cl Try.prog 49 #[wrdV q] w0 (RetQ w0 fun v => v = .int .i64 (if checkW q = true then 0 else 1)) := by
 have M : Sep (fun _ => False) w0 w0 _ := Sep.nil _ w0
 refine enter (vs := [_]) Try.func49 rfl rfl rfl ?_
 intro a F
 refine wp_seq ?_
 refine wp_region_l [.wr, .ind] ([0, 1]) rfl ?_
 refine s_bxA F M rfl rfl rfl rfl rfl ?_; (clear F a M; try clear w); intro b1 w M a F
 refine s_I F rfl rfl rfl rfl rfl rfl ?_; clear F a; intro a F
 refine t_endM M ?_; (clear M; try clear w); intro w M
 refine wp_seq ?_
 refine wp_seq ?_
 refine wp_region_l [.ind, .rd, .ind, .ind, .ind, .rd, .ind, .ind, .ind, .ind, .rd, .ind, .ind, .ind, .ind, .rd, .ind, .ind, .ind, .ind, .rd, .ind, .ind, .ind] ([0, 1, 2, 3, 4, 5, 6, 7, 8, 9, 10, 11, 12, 13, 14, 15, 16, 17, 18, 19, 20, 21, 22, 23]) rfl ?_
 refine s_fa0 F rfl rfl rfl rfl fa_32_1_A2 rfl ?_; clear F a; intro a F
 refine s_ld F rfl rfl rfl rfl sc_3_A2 rfl (by exact cell_of_blk M.h0 (lit rfl)) ?_; clear F a; intro a F
 refine s_rn 2 F rfl rfl ?_; clear F a; intro a F
 refine bsplit F 6 rfl ?_ ?_
 clear F; intro hc0 F
 try rw [hc0] at F
 replace hc0 := of_decide_eq_true hc0
 refine s_rn 20 F rfl rfl ?_; clear F a; intro a F
 refine t_endM M ?_; (clear M; try clear w); intro w M
 refine c_t F rfl ?_
 refine wp_seq ?_
 replace F := F.keep [0, 1, 2] rfl
 refine wp_region_l [.ind] ([0]) rfl ?_
 refine s_I F rfl rfl rfl rfl rfl rfl ?_; clear F a; intro a F
 refine t_endM M ?_; (clear M; try clear w); intro w M
 refine wp_ret ?_
 refine ret1 F rfl rfl ?_
 have hk : checkW q = false := by
   clear M F
   unfold checkW VoteM.empty at *
   grind
 refine ⟨_, rfl, ?_, M.chg⟩
 rw [hk]
 rfl
 clear F; intro hc1 F
 try rw [hc1] at F
 replace hc1 := of_decide_eq_false hc1
 refine s_fa0 F rfl rfl rfl rfl fa_32_1_A2 rfl ?_; clear F a; intro a F
 refine s_ld F rfl rfl rfl rfl sc_3_A2 rfl (by exact cell_of_blk M.h0 (lit rfl)) ?_; clear F a; intro a F
 refine s_rn 3 F rfl rfl ?_; clear F a; intro a F
 refine bsplit F 11 rfl ?_ ?_
 clear F; intro hc2 F
 try rw [hc2] at F
 replace hc2 := of_decide_eq_true hc2
 refine s_rn 15 F rfl rfl ?_; clear F a; intro a F
 refine t_endM M ?_; (clear M; try clear w); intro w M
 refine c_t F rfl ?_
 refine wp_seq ?_
 replace F := F.keep [0, 1, 2] rfl
 refine wp_region_l [.ind] ([0]) rfl ?_
 refine s_I F rfl rfl rfl rfl rfl rfl ?_; clear F a; intro a F
 refine t_endM M ?_; (clear M; try clear w); intro w M
 refine wp_ret ?_
 refine ret1 F rfl rfl ?_
 have hk : checkW q = false := by
   clear M F
   unfold checkW VoteM.empty at *
   grind
 refine ⟨_, rfl, ?_, M.chg⟩
 rw [hk]
 rfl
 clear F; intro hc3 F
 try rw [hc3] at F
 replace hc3 := of_decide_eq_false hc3
 refine s_fa0 F rfl rfl rfl rfl fa_32_2_A2 rfl ?_; clear F a; intro a F
 refine s_ld F rfl rfl rfl rfl sc_3_A2 rfl (by exact cell_of_blk M.h0 (lit rfl)) ?_; clear F a; intro a F
 refine s_rn 3 F rfl rfl ?_; clear F a; intro a F
 refine bsplit F 16 rfl ?_ ?_
 clear F; intro hc4 F
 try rw [hc4] at F
 replace hc4 := of_decide_eq_true hc4
 refine s_rn 10 F rfl rfl ?_; clear F a; intro a F
 refine t_endM M ?_; (clear M; try clear w); intro w M
 refine c_t F rfl ?_
 refine wp_seq ?_
 replace F := F.keep [0, 1, 2] rfl
 refine wp_region_l [.ind] ([0]) rfl ?_
 refine s_I F rfl rfl rfl rfl rfl rfl ?_; clear F a; intro a F
 refine t_endM M ?_; (clear M; try clear w); intro w M
 refine wp_ret ?_
 refine ret1 F rfl rfl ?_
 have hk : checkW q = false := by
   clear M F
   unfold checkW VoteM.empty at *
   grind
 refine ⟨_, rfl, ?_, M.chg⟩
 rw [hk]
 rfl
 clear F; intro hc5 F
 try rw [hc5] at F
 replace hc5 := of_decide_eq_false hc5
 refine s_fa0 F rfl rfl rfl rfl fa_32_2_A2 rfl ?_; clear F a; intro a F
 refine s_ld F rfl rfl rfl rfl sc_3_A2 rfl (by exact cell_of_blk M.h0 (lit rfl)) ?_; clear F a; intro a F
 refine s_rn 3 F rfl rfl ?_; clear F a; intro a F
 refine bsplit F 21 rfl ?_ ?_
 clear F; intro hc6 F
 try rw [hc6] at F
 replace hc6 := of_decide_eq_true hc6
 refine s_rn 5 F rfl rfl ?_; clear F a; intro a F
 refine t_endM M ?_; (clear M; try clear w); intro w M
 refine c_t F rfl ?_
 refine wp_seq ?_
 replace F := F.keep [0, 1, 2] rfl
 refine wp_region_l [.ind] ([0]) rfl ?_
 refine s_I F rfl rfl rfl rfl rfl rfl ?_; clear F a; intro a F
 refine t_endM M ?_; (clear M; try clear w); intro w M
 refine wp_ret ?_
 refine ret1 F rfl rfl ?_
 have hk : checkW q = false := by
   clear M F
   unfold checkW VoteM.empty at *
   grind
 refine ⟨_, rfl, ?_, M.chg⟩
 rw [hk]
 rfl
 clear F; intro hc7 F
 try rw [hc7] at F
 replace hc7 := of_decide_eq_false hc7
 refine s_fa0 F rfl rfl rfl rfl fa_32_4_A2 rfl ?_; clear F a; intro a F
 refine s_ld F rfl rfl rfl rfl sc_9_A2 rfl (by exact cell_of_blk M.h0 (lit rfl)) ?_; clear F a; intro a F
 refine s_lenS F rfl rfl rfl rfl st_9_A2 rfl ?_; clear F a; intro a F
 refine s_rn 2 F rfl rfl ?_; clear F a; intro a F
 refine t_endM M ?_; (clear M; try clear w); intro w M
 refine c_if F rfl ?_ ?_
 clear F; intro hc8 F
 try rw [hc8] at F
 replace hc8 := of_decide_eq_true hc8
 refine wp_seq ?_
 replace F := F.keep [0, 1, 2] rfl
 refine wp_region_l [.ind] ([0]) rfl ?_
 refine s_I F rfl rfl rfl rfl rfl rfl ?_; clear F a; intro a F
 refine t_endM M ?_; (clear M; try clear w); intro w M
 refine wp_ret ?_
 refine ret1 F rfl rfl ?_
 have hk : checkW q = false := by
   clear M F
   unfold checkW VoteM.empty at *
   grind
 refine ⟨_, rfl, ?_, M.chg⟩
 rw [hk]
 rfl
 clear F; intro hc9 F
 try rw [hc9] at F
 replace hc9 := of_decide_eq_false hc9
 refine wp_skip ?_
 refine wp_seq ?_
 refine wp_seq ?_
 replace F := F.keep [0, 1, 2] rfl
 refine wp_region_l [.ind, .rd] ([0, 1]) rfl ?_
 refine s_fa0 F rfl rfl rfl rfl fa_32_0_A2 rfl ?_; clear F a; intro a F
 refine s_ld F rfl rfl rfl rfl sc_3_A2 rfl (by exact cell_of_blk M.h0 (lit rfl)) ?_; clear F a; intro a F
 refine t_endM M ?_; (clear M; try clear w); intro w M
 refine wp_block ?_
 refine wp_seq ?_
 replace F := F.keep [0, 1, 2, 28] rfl
 refine wp_region_l [.ind, .ind] ([0, 1]) rfl ?_
 refine s_rn 2 F rfl rfl ?_; clear F a; intro a F
 refine t_endM M ?_; (clear M; try clear w); intro w M
 refine c_if F rfl ?_ ?_
 clear F; intro hc10 F
 try rw [hc10] at F
 replace hc10 := of_decide_eq_true hc10
 refine wp_seq ?_
 replace F := F.keep [0, 1, 2, 28] rfl
 refine wp_region_l [.ind, .rd, .ind, .ind, .ind, .rd, .ind, .rd, .ind, .ind, .ind, .ind, .rd, .ind, .ind] ([0, 1, 2, 3, 4, 5, 6, 7, 8, 9, 10, 11, 12, 13, 14]) rfl ?_
 refine s_fa0 F rfl rfl rfl rfl fa_32_3_A2 rfl ?_; clear F a; intro a F
 refine s_ld F rfl rfl rfl rfl sc_3_A2 rfl (by exact cell_of_blk M.h0 (lit rfl)) ?_; clear F a; intro a F
 refine s_rn 2 F rfl rfl ?_; clear F a; intro a F
 refine bsplit F 34 rfl ?_ ?_
 clear F; intro hc11 F
 try rw [hc11] at F
 replace hc11 := of_decide_eq_true hc11
 refine s_fa0 F rfl rfl rfl rfl fa_32_3_A2 rfl ?_; clear F a; intro a F
 refine s_ld F rfl rfl rfl rfl sc_3_A2 rfl (by exact cell_of_blk M.h0 (lit rfl)) ?_; clear F a; intro a F
 refine s_fa0 F rfl rfl rfl rfl fa_32_2_A2 rfl ?_; clear F a; intro a F
 refine s_ld F rfl rfl rfl rfl sc_3_A2 rfl (by exact cell_of_blk M.h0 (lit rfl)) ?_; clear F a; intro a F
 refine s_rn 3 F rfl rfl ?_; clear F a; intro a F
 refine bsplit F 41 rfl ?_ ?_
 clear F; intro hc12 F
 try rw [hc12] at F
 replace hc12 := of_decide_eq_true hc12
 refine s_fa0 F rfl rfl rfl rfl fa_32_4_A2 rfl ?_; clear F a; intro a F
 refine s_ld F rfl rfl rfl rfl sc_9_A2 rfl (by exact cell_of_blk M.h0 (lit rfl)) ?_; clear F a; intro a F
 refine s_rn 2 F rfl rfl ?_; clear F a; intro a F
 refine t_endM M ?_; (clear M; try clear w); intro w M
 refine c_if F rfl ?_ ?_
 clear F; intro hc13 F
 try rw [hc13] at F
 replace hc13 := nd1 hc13
 refine wp_seq ?_
 replace F := F.keep [0, 1, 2, 28] rfl
 refine wp_region_l [.ind] ([0]) rfl ?_
 refine s_I F rfl rfl rfl rfl rfl rfl ?_; clear F a; intro a F
 refine t_endM M ?_; (clear M; try clear w); intro w M
 refine wp_ret ?_
 refine ret1 F rfl rfl ?_
 have hk : checkW q = true := by
   clear M F
   unfold checkW VoteM.empty at *
   grind
 refine ⟨_, rfl, ?_, M.chg⟩
 rw [hk]
 rfl
 clear F; intro hc14 F
 try rw [hc14] at F
 replace hc14 := nd0 hc14
 refine wp_skip ?_
 refine wp_seq ?_
 replace F := F.keep [0, 1, 2, 28] rfl
 refine wp_region_l [.ind] ([0]) rfl ?_
 refine s_I F rfl rfl rfl rfl rfl rfl ?_; clear F a; intro a F
 refine t_endM M ?_; (clear M; try clear w); intro w M
 refine wp_ret ?_
 refine ret1 F rfl rfl ?_
 have hk : checkW q = false := by
   clear M F
   unfold checkW VoteM.empty at *
   grind
 refine ⟨_, rfl, ?_, M.chg⟩
 rw [hk]
 rfl
 clear F; intro hc15 F
 try rw [hc15] at F
 replace hc15 := of_decide_eq_false hc15
 refine s_rn 4 F rfl rfl ?_; clear F a; intro a F
 refine t_endM M ?_; (clear M; try clear w); intro w M
 refine c_f F rfl ?_
 refine wp_skip ?_
 refine wp_seq ?_
 replace F := F.keep [0, 1, 2, 28] rfl
 refine wp_region_l [.ind] ([0]) rfl ?_
 refine s_I F rfl rfl rfl rfl rfl rfl ?_; clear F a; intro a F
 refine t_endM M ?_; (clear M; try clear w); intro w M
 refine wp_ret ?_
 refine ret1 F rfl rfl ?_
 have hk : checkW q = false := by
   clear M F
   unfold checkW VoteM.empty at *
   grind
 refine ⟨_, rfl, ?_, M.chg⟩
 rw [hk]
 rfl
 clear F; intro hc16 F
 try rw [hc16] at F
 replace hc16 := of_decide_eq_false hc16
 refine s_rn 11 F rfl rfl ?_; clear F a; intro a F
 refine t_endM M ?_; (clear M; try clear w); intro w M
 refine c_f F rfl ?_
 refine wp_skip ?_
 refine wp_seq ?_
 replace F := F.keep [0, 1, 2, 28] rfl
 refine wp_region_l [.ind] ([0]) rfl ?_
 refine s_I F rfl rfl rfl rfl rfl rfl ?_; clear F a; intro a F
 refine t_endM M ?_; (clear M; try clear w); intro w M
 refine wp_ret ?_
 refine ret1 F rfl rfl ?_
 have hk : checkW q = false := by
   clear M F
   unfold checkW VoteM.empty at *
   grind
 refine ⟨_, rfl, ?_, M.chg⟩
 rw [hk]
 rfl
 clear F; intro hc17 F
 try rw [hc17] at F
 replace hc17 := of_decide_eq_false hc17
 refine wp_seq ?_
 refine wp_seq ?_
 replace F := F.keep [0, 1, 2, 28] rfl
 refine wp_region_l [.ind, .ind] ([0, 1]) rfl ?_
 refine s_rn 2 F rfl rfl ?_; clear F a; intro a F
 refine t_endM M ?_; (clear M; try clear w); intro w M
 refine c_if F rfl ?_ ?_
 clear F; intro hc18 F
 try rw [hc18] at F
 replace hc18 := of_decide_eq_true hc18
 refine wp_skip ?_
 refine c_t F rfl ?_
 refine wp_seq ?_
 replace F := F.keep [0, 1, 2, 28] rfl
 refine wp_region_l [.ind, .rd, .ind] ([0, 1, 2]) rfl ?_
 refine s_fa0 F rfl rfl rfl rfl fa_32_3_A2 rfl ?_; clear F a; intro a F
 refine s_ld F rfl rfl rfl rfl sc_3_A2 rfl (by exact cell_of_blk M.h0 (lit rfl)) ?_; clear F a; intro a F
 refine s_bin F rfl rfl rfl rfl rfl rfl rfl ?_; clear F a; intro a F
 refine t_endM M ?_; (clear M; try clear w); intro w M
 refine c_if F rfl ?_ ?_
 clear F; intro hc19 F
 try rw [hc19] at F
 replace hc19 := of_decide_eq_true hc19
 refine wp_seq ?_
 replace F := F.keep [0, 1, 2, 28] rfl
 refine wp_region_l [.ind] ([0]) rfl ?_
 refine s_I F rfl rfl rfl rfl rfl rfl ?_; clear F a; intro a F
 refine t_endM M ?_; (clear M; try clear w); intro w M
 refine wp_ret ?_
 refine ret1 F rfl rfl ?_
 have hk : checkW q = true := by
   clear M F
   unfold checkW VoteM.empty at *
   grind
 refine ⟨_, rfl, ?_, M.chg⟩
 rw [hk]
 rfl
 clear F; intro hc20 F
 try rw [hc20] at F
 replace hc20 := of_decide_eq_false hc20
 refine wp_skip ?_
 refine wp_seq ?_
 replace F := F.keep [0, 1, 2, 28] rfl
 refine wp_region_l [.ind] ([0]) rfl ?_
 refine s_I F rfl rfl rfl rfl rfl rfl ?_; clear F a; intro a F
 refine t_endM M ?_; (clear M; try clear w); intro w M
 refine wp_ret ?_
 refine ret1 F rfl rfl ?_
 have hk : checkW q = false := by
   clear M F
   unfold checkW VoteM.empty at *
   grind
 refine ⟨_, rfl, ?_, M.chg⟩
 rw [hk]
 rfl
 clear F; intro hc21 F
 try rw [hc21] at F
 replace hc21 := of_decide_eq_false hc21
 replace F := F.keep [0, 1, 2, 28] rfl
 refine wp_region_l [.ind, .ind] ([0, 1]) rfl ?_
 refine s_rn 2 F rfl rfl ?_; clear F a; intro a F
 refine t_endM M ?_; (clear M; try clear w); intro w M
 refine c_if F rfl ?_ ?_
 clear F; intro hc22 F
 try rw [hc22] at F
 replace hc22 := of_decide_eq_true hc22
 refine wp_seq ?_
 replace F := F.keep [0, 1, 2, 28] rfl
 refine wp_region_l [.ind, .rd, .ind] ([0, 1, 2]) rfl ?_
 refine s_fa0 F rfl rfl rfl rfl fa_32_3_A2 rfl ?_; clear F a; intro a F
 refine s_ld F rfl rfl rfl rfl sc_3_A2 rfl (by exact cell_of_blk M.h0 (lit rfl)) ?_; clear F a; intro a F
 refine s_bin F rfl rfl rfl rfl rfl rfl rfl ?_; clear F a; intro a F
 refine t_endM M ?_; (clear M; try clear w); intro w M
 refine c_if F rfl ?_ ?_
 clear F; intro hc23 F
 try rw [hc23] at F
 replace hc23 := of_decide_eq_true hc23
 refine wp_seq ?_
 replace F := F.keep [0, 1, 2, 28] rfl
 refine wp_region_l [.ind] ([0]) rfl ?_
 refine s_I F rfl rfl rfl rfl rfl rfl ?_; clear F a; intro a F
 refine t_endM M ?_; (clear M; try clear w); intro w M
 refine wp_ret ?_
 refine ret1 F rfl rfl ?_
 have hk : checkW q = true := by
   clear M F
   unfold checkW VoteM.empty at *
   grind
 refine ⟨_, rfl, ?_, M.chg⟩
 rw [hk]
 rfl
 clear F; intro hc24 F
 try rw [hc24] at F
 replace hc24 := of_decide_eq_false hc24
 refine wp_skip ?_
 refine wp_seq ?_
 replace F := F.keep [0, 1, 2, 28] rfl
 refine wp_region_l [.ind] ([0]) rfl ?_
 refine s_I F rfl rfl rfl rfl rfl rfl ?_; clear F a; intro a F
 refine t_endM M ?_; (clear M; try clear w); intro w M
 refine wp_ret ?_
 refine ret1 F rfl rfl ?_
 have hk : checkW q = false := by
   clear M F
   unfold checkW VoteM.empty at *
   grind
 refine ⟨_, rfl, ?_, M.chg⟩
 rw [hk]
 rfl
 clear F; intro hc25 F
 try rw [hc25] at F
 replace hc25 := of_decide_eq_false hc25
 refine wp_skip ?_
 refine wp_seq ?_
 replace F := F.keep [0, 1, 2, 28] rfl
 refine wp_region_l [.ind] ([0]) rfl ?_
 refine s_I F rfl rfl rfl rfl rfl rfl ?_; clear F a; intro a F
 refine t_endM M ?_; (clear M; try clear w); intro w M
 refine wp_ret ?_
 refine ret1 F rfl rfl ?_
 have hk : checkW q = false := by
   clear M F
   unfold checkW VoteM.empty at *
   grind
 refine ⟨_, rfl, ?_, M.chg⟩
 rw [hk]
 rfl
set_option maxRecDepth 100000 in
set_option maxHeartbeats 400000 in
theorem c107 (q : Wrd) (ob : Nat) (ov : Value) (o : List Wrd) (hb : o.length ≤ 1000000) (w0 : World) (ho : Own w0.heap [blk ob (.cells #[ov] 22 (0, 0)), wsR ov o]) : Cl Try.prog 107 #[wrdV q, .pointer (some ⟨ob, 0, none⟩)] w0 (RetS [blk ob (.cells #[ov] 22 (0, 0)), wsR ov o] w0 (fun v (_ : Value) => v = .tuple #[]) fun x => [blk ob (.cells #[x] 22 (0, 0)), wsR x (o ++ [q])]) := by
 obtain ⟨A, cc, rfl⟩ := (ho.ok (wsR ov o) (by simp)).form
 have M : Sep (fun b_ => b_ ∈ foots [blk ob (.cells #[(.slice A o.length cc)] 22 (0, 0)), wsR (.slice A o.length cc) o]) w0 w0 _ := Sep.start ho
 refine enter (vs := [_, _]) Try.func107 rfl rfl rfl ?_
 intro a F
 refine wp_seq ?_
 refine wp_region_l [.wr] ([0]) rfl ?_
 refine s_bxA F M rfl rfl rfl rfl rfl ?_; (clear F a M; try clear w); intro b2 w M a F
 refine t_endM M ?_; (clear M; try clear w); intro w M
 refine wp_region_l [.rd, .rd, .wr, .wr, .wr] ([0, 1, 2, 3, 4]) rfl ?_
 refine s_ld F rfl rfl rfl rfl sc_22_A2 rfl (by exact cell_of_blk M.h1 (lit rfl)) ?_; clear F a; intro a F
 refine s_lda F rfl rfl rfl rfl ag_32_A2 rfl rfl (cells_whole M.h0) ?_; clear F a; intro a F
 refine s_bs F M rfl rfl rfl rfl (parts1 F rfl) (bs_22_1_A2 _ _ _ _ _) ?_; (clear F a M; try clear w); intro b5 w M a F
 refine s_apE (q) F M.f3 rfl rfl rfl rfl tl_22_A2 rfl rfl (by exact rd_blk M.h0 rfl) rfl (by omega) (fun _ _ _ _ => pend_nil) ?_; (clear F a M; try clear w); intro A6 c6 w M a F
 refine s_st F M.f3 rfl rfl rfl sz_22_A2 rfl rfl rfl (by exact Nat.le_of_ble_eq_true rfl) ?_; (clear M; try clear w); intro w M
 refine t_endM M ?_; (clear M; try clear w); intro w M
 refine (ret0 F rfl ?_).2
 refine ⟨_, .slice A6 (o ++ [q]).length c6, rfl, rfl, ?_⟩
 refine M.pick ?_; repeat (first | exact PkG.nil | refine PkG.cons 0 rfl rfl ?_ | refine PkG.cons 1 rfl rfl ?_)
set_option maxRecDepth 100000 in
set_option maxHeartbeats 400000 in
theorem c113 (b vb : Nat) (vv mu : Value) (st : ASt) (k r : Int) (s : ByteArray) (w0 : World) (hb : w0.heap[b]? = some (aO st vb mu)) (hv : Ro (fun _ => False) w0 (votR vb vv st.n st.t st.L)) : Cl Try.prog 113 #[.pointer (some ⟨b, 0, none⟩), .int .i64 k, .int .i64 r, .string s] w0 (RetQ w0 fun v => v = .bool (st.is k r s)) := by
 have M : Sep (fun _ => False) w0 w0 _ := Sep.nil _ w0
 refine enter (vs := [_, _, _, _]) Try.func113 rfl rfl rfl ?_
 intro a F
 refine wp_seq ?_
 refine wp_region_l [.ind] ([0]) rfl ?_
 refine s_I F rfl rfl rfl rfl rfl rfl ?_; clear F a; intro a F
 refine t_endM M ?_; (clear M; try clear w); intro w M
 refine wp_seq ?_
 refine wp_region_l [.ind, .ind, .ind, .rd, .ind, .ind, .wr, .ind, .ind, .ind, .ind, .ind] ([0, 1, 2, 3, 4, 5, 6, 7, 8, 9, 10, 11]) rfl ?_
 refine s_rn 2 F rfl rfl ?_; clear F a; intro a F
 refine s_fa0 F rfl rfl rfl rfl fa_144_9_A2 rfl ?_; clear F a; intro a F
 refine s_ld F rfl rfl rfl rfl sc_25_A2 rfl (by exact old_cell M id hb (gf rfl (by decide))) ?_; clear F a; intro a F
 refine s_rn 2 F rfl rfl ?_; clear F a; intro a F
 refine s_cq F M rfl rfl rfl rfl rfl (rfl : _ = some [_, _, _]) cb_26_A2 (fun nd_ => c26v k r _ (M.chg.ro hv)) ?_; (clear F a M; try clear w); rintro v w rfl M a F
 refine s_rn 5 F rfl rfl ?_; clear F a; intro a F
 refine t_endM M ?_; (clear M; try clear w); intro w M
 refine wp_seq ?_
 replace F := F.keep [0, 1, 2, 3, 8, 9, 10] rfl
 refine wp_region_l [.ind, .ind, .ind, .ind, .ind, .ind, .ind] ([0, 1, 2, 3, 4, 5, 6]) rfl ?_
 refine s_rn 2 F rfl rfl ?_; clear F a; intro a F
 refine bsplit F 22 rfl ?_ ?_
 clear F; intro hc0 F
 try rw [hc0] at F
 skip
 refine s_rn 5 F rfl rfl ?_; clear F a; intro a F
 refine t_endM M ?_; (clear M; try clear w); intro w M
 refine wp_ret ?_
 refine ret1 F rfl rfl ?_
 refine ⟨_, rfl, ?_, M.chg⟩
 congr 1
 clear M F
 grind [ASt.is]
 clear F; intro hc1 F
 try rw [hc1] at F
 skip
 refine s_rn 5 F rfl rfl ?_; clear F a; intro a F
 refine t_endM M ?_; (clear M; try clear w); intro w M
 refine wp_ret ?_
 refine ret1 F rfl rfl ?_
 refine ⟨_, rfl, ?_, M.chg⟩
 congr 1
 clear M F
 grind [ASt.is]
set_option maxRecDepth 100000 in
set_option maxHeartbeats 400000 in
theorem c114 (b vb ob : Nat) (ov : Value) (st : ASt) (o : List Wrd) (hl : o.length ≤ 1000000) (k : Int) (s : ByteArray) (w0 : World) (ho : Own w0.heap [blk b (aO (st) vb (sayV ob)), blk ob (.cells #[ov] 22 (0, 0)), wsR ov (o)]) : Cl Try.prog 114 #[.pointer (some ⟨b, 0, none⟩), .int .i64 k, .string s] w0 (RetS [blk b (aO (st) vb (sayV ob)), blk ob (.cells #[ov] 22 (0, 0)), wsR ov (o)] w0 (fun v (_ : Value) => v = .tuple #[]) fun x => [blk b (aO (st.vote k) vb (sayV ob)), blk ob (.cells #[x] 22 (0, 0)), wsR x (o ++ st.voteO k s)]) := by
 have M : Sep (fun b_ => b_ ∈ foots [blk b (aO (st) vb (sayV ob)), blk ob (.cells #[ov] 22 (0, 0)), wsR ov (o)]) w0 w0 _ := Sep.start ho
 refine enter (vs := [_, _, _]) Try.func114 rfl rfl rfl ?_
 intro a F
 refine wp_seq ?_
 refine wp_region_l [.ind, .ind, .ind, .wr] ([0, 1, 2, 3]) rfl ?_
 refine s_rn 2 F rfl rfl ?_; clear F a; intro a F
 refine s_fa0 F rfl rfl rfl rfl fa_144_5_A2 rfl ?_; clear F a; intro a F
 refine s_sf F M rfl rfl rfl sz_3_A2 rfl rfl rfl (by exact Nat.le_of_ble_eq_true rfl) ?_; (clear M; try clear w); intro w M
 refine t_endM M ?_; (clear M; try clear w); intro w M
 refine wp_seq ?_
 refine wp_seq ?_
 rw [aF_step] at M
 replace F := F.keep [0, 1, 2] rfl
 refine wp_region_l [.ind, .ind] ([0, 1]) rfl ?_
 refine s_rn 2 F rfl rfl ?_; clear F a; intro a F
 refine t_endM M ?_; (clear M; try clear w); intro w M
 refine c_if F rfl ?_ ?_
 clear F; intro hc0 F
 try rw [hc0] at F
 replace hc0 := of_decide_eq_true hc0
 replace F := F.keep [0, 1, 2] rfl
 refine wp_region_l [.ind, .ind, .ind, .wr] ([0, 1, 2, 3]) rfl ?_
 refine s_rn 2 F rfl rfl ?_; clear F a; intro a F
 refine s_fa0 F rfl rfl rfl rfl fa_144_5_A2 rfl ?_; clear F a; intro a F
 refine s_sf F M rfl rfl rfl sz_3_A2 rfl rfl rfl (by exact Nat.le_of_ble_eq_true rfl) ?_; (clear M; try clear w); intro w M
 refine t_endM M ?_; (clear M; try clear w); intro w M
 try rw [aF_step] at M
 have M1 : Sep _ _ _ (blk b _ :: _) := M; replace M := M1; clear M1
 replace M := M.blkEq (o' := aO (st.vote k) vb (sayV ob)) (by unfold ASt.vote; rw [if_pos (by assumption)])
 replace F := F.keep [0, 1, 2] rfl
 refine wp_region_t [.ind, .ind, .ind, .ind, .rd, .ind, .ind, .ind, .ind, .rd, .ind, .ind, .ind, .rd, .ind, .ind, .wr] [] (otOf [0, 1, 2, 3, 4, 5, 6, 7, 8, 9, 10, 11, 12, 13, 14, 15, 16]) mixed (by kernel_rfl) ?_
 refine s_rn 2 F rfl rfl ?_; clear F a; intro a F
 refine s_fa0 F rfl rfl rfl rfl fa_144_13_A2 rfl ?_; clear F a; intro a F
 refine s_fa F rfl rfl rfl rfl fa_142_0_A2 rfl ?_; clear F a; intro a F
 refine s_ld F rfl rfl rfl rfl sc_140_A2 rfl (by exact cell_of_blk M.h0 (gf rfl (by decide))) ?_; clear F a; intro a F
 refine s_rn 3 F rfl rfl ?_; clear F a; intro a F
 refine s_fa0 F rfl rfl rfl rfl fa_144_1_A2 rfl ?_; clear F a; intro a F
 refine s_ld F rfl rfl rfl rfl sc_3_A2 rfl (by exact cell_of_blk M.h0 (gf rfl (by decide))) ?_; clear F a; intro a F
 refine s_rn 2 F rfl rfl ?_; clear F a; intro a F
 refine s_fa0 F rfl rfl rfl rfl fa_144_4_A2 rfl ?_; clear F a; intro a F
 refine s_ld F rfl rfl rfl rfl sc_3_A2 rfl (by exact cell_of_blk M.h0 (gf rfl (by decide))) ?_; clear F a; intro a F
 refine s_I F rfl rfl rfl rfl rfl rfl ?_; clear F a; intro a F
 refine s_bld F rfl rfl rfl rfl (parts4 F rfl rfl rfl rfl) (bl_32_0_1_2_4_A2 _ _ _ _) ?_; clear F a; intro a F
 have M1 : Sep _ _ _ (slR _ _ _ _ _ :: _) := M.f2; replace M := M1; clear M1
 have M1 : Sep _ _ _ (blk ob _ :: _) := M.f2; replace M := M1; clear M1
 refine s_clo (m := [_, _]) F M rfl rfl rfl rfl rfl (rfl : _ = some [_]) (by rfl) cb_107_A2 (fun nd_ => c107 ⟨k, st.me, st.round, 0, s⟩ ob _ _ (by omega) _ (Own.left (m := [_, _]) (M.drewN nd_).own)) (fun _ _ _ _ _ => pend_nil) ?_; (clear F a M; try clear w); rintro v x w rfl M a F; (try simp only [List.cons_append, List.nil_append] at M)
 refine t_endM M ?_; (clear M; try clear w); intro w M
 refine (ret0 F rfl ?_).2
 refine ⟨_, x, rfl, rfl, ?_⟩
 refine M.pick ?_; repeat (first | exact PkG.nil | refine PkG.cons 0 rfl rfl ?_ | refine PkG.cons 1 rfl rfl ?_ | refine PkG.cons 2 rfl rfl ?_)
 clear F; intro hc1 F
 try rw [hc1] at F
 replace hc1 := of_decide_eq_false hc1
 refine wp_skip ?_
 try rw [aF_step] at M
 have M1 : Sep _ _ _ (blk b _ :: _) := M; replace M := M1; clear M1
 replace M := M.blkEq (o' := aO (st.vote k) vb (sayV ob)) (by unfold ASt.vote; rw [if_neg (by assumption)])
 replace F := F.keep [0, 1, 2] rfl
 refine wp_region_t [.ind, .ind, .ind, .ind, .rd, .ind, .ind, .ind, .ind, .rd, .ind, .ind, .ind, .rd, .ind, .ind, .wr] [] (otOf [0, 1, 2, 3, 4, 5, 6, 7, 8, 9, 10, 11, 12, 13, 14, 15, 16]) mixed (by kernel_rfl) ?_
 refine s_rn 2 F rfl rfl ?_; clear F a; intro a F
 refine s_fa0 F rfl rfl rfl rfl fa_144_13_A2 rfl ?_; clear F a; intro a F
 refine s_fa F rfl rfl rfl rfl fa_142_0_A2 rfl ?_; clear F a; intro a F
 refine s_ld F rfl rfl rfl rfl sc_140_A2 rfl (by exact cell_of_blk M.h0 (gf rfl (by decide))) ?_; clear F a; intro a F
 refine s_rn 3 F rfl rfl ?_; clear F a; intro a F
 refine s_fa0 F rfl rfl rfl rfl fa_144_1_A2 rfl ?_; clear F a; intro a F
 refine s_ld F rfl rfl rfl rfl sc_3_A2 rfl (by exact cell_of_blk M.h0 (gf rfl (by decide))) ?_; clear F a; intro a F
 refine s_rn 2 F rfl rfl ?_; clear F a; intro a F
 refine s_fa0 F rfl rfl rfl rfl fa_144_4_A2 rfl ?_; clear F a; intro a F
 refine s_ld F rfl rfl rfl rfl sc_3_A2 rfl (by exact cell_of_blk M.h0 (gf rfl (by decide))) ?_; clear F a; intro a F
 refine s_I F rfl rfl rfl rfl rfl rfl ?_; clear F a; intro a F
 refine s_bld F rfl rfl rfl rfl (parts4 F rfl rfl rfl rfl) (bl_32_0_1_2_4_A2 _ _ _ _) ?_; clear F a; intro a F
 have M1 : Sep _ _ _ (slR _ _ _ _ _ :: _) := M.f2; replace M := M1; clear M1
 have M1 : Sep _ _ _ (blk ob _ :: _) := M.f2; replace M := M1; clear M1
 refine s_clo (m := [_, _]) F M rfl rfl rfl rfl rfl (rfl : _ = some [_]) (by rfl) cb_107_A2 (fun nd_ => c107 ⟨k, st.me, st.round, 0, s⟩ ob _ _ (by omega) _ (Own.left (m := [_, _]) (M.drewN nd_).own)) (fun _ _ _ _ _ => pend_nil) ?_; (clear F a M; try clear w); rintro v x w rfl M a F; (try simp only [List.cons_append, List.nil_append] at M)
 refine t_endM M ?_; (clear M; try clear w); intro w M
 refine (ret0 F rfl ?_).2
 refine ⟨_, x, rfl, rfl, ?_⟩
 refine M.pick ?_; repeat (first | exact PkG.nil | refine PkG.cons 0 rfl rfl ?_ | refine PkG.cons 1 rfl rfl ?_ | refine PkG.cons 2 rfl rfl ?_)
set_option maxRecDepth 100000 in
set_option maxHeartbeats 400000 in
theorem c86 (b vb ob : Nat) (ov : Value) (st : ASt) (o : List Wrd) (hl : o.length ≤ 1000000) (r : Int) (w0 : World) (ho : Own w0.heap [blk b (aO (st) vb (sayV ob)), blk ob (.cells #[ov] 22 (0, 0)), wsR ov (o)]) : Cl Try.prog 86 #[.pointer (some ⟨b, 0, none⟩), .int .i64 r] w0 (RetS [blk b (aO (st) vb (sayV ob)), blk ob (.cells #[ov] 22 (0, 0)), wsR ov (o)] w0 (fun v (_ : Value) => v = .tuple #[]) fun x => [blk b (aO (st.begin r) vb (sayV ob)), blk ob (.cells #[x] 22 (0, 0)), wsR x (o ++ st.beginO r)]) := by
 have M : Sep (fun b_ => b_ ∈ foots [blk b (aO (st) vb (sayV ob)), blk ob (.cells #[ov] 22 (0, 0)), wsR ov (o)]) w0 w0 _ := Sep.start ho
 refine enter (vs := [_, _]) Try.func86 rfl rfl rfl ?_
 intro a F
 refine wp_seq ?_
 refine wp_seq ?_
 refine wp_region_l [.ind, .ind] ([0, 1]) rfl ?_
 refine s_rn 2 F rfl rfl ?_; clear F a; intro a F
 refine t_endM M ?_; (clear M; try clear w); intro w M
 refine c_if F rfl ?_ ?_
 clear F; intro hc0 F
 try rw [hc0] at F
 replace hc0 := of_decide_eq_true hc0
 refine wp_ret ?_
 refine (ret0 F rfl ?_).1
 rw [show st.begin r = st from if_pos (by omega), show st.beginO r = [] from if_pos (.inl (by omega)), List.append_nil]
 refine ⟨_, ov, rfl, rfl, ?_⟩
 refine M.pick ?_; repeat (first | exact PkG.nil | refine PkG.cons 0 rfl rfl ?_ | refine PkG.cons 1 rfl rfl ?_ | refine PkG.cons 2 rfl rfl ?_)
 clear F; intro hc1 F
 try rw [hc1] at F
 replace hc1 := of_decide_eq_false hc1
 refine wp_skip ?_
 refine wp_seq ?_
 replace F := F.keep [0, 1] rfl
 refine wp_region_l [.ind, .ind, .ind, .ind, .ind, .ind, .wr, .ind, .ind, .wr, .ind, .ind, .wr] ([0, 1, 2, 3, 4, 5, 6, 7, 8, 9, 10, 11, 12]) rfl ?_
 refine s_rn 5 F rfl rfl ?_; clear F a; intro a F
 refine s_fa0 F rfl rfl rfl rfl fa_144_4_A2 rfl ?_; clear F a; intro a F
 refine s_sf F M rfl rfl rfl sz_3_A2 rfl rfl rfl (by exact Nat.le_of_ble_eq_true rfl) ?_; (clear M; try clear w); intro w M
 refine s_I F rfl rfl rfl rfl rfl rfl ?_; clear F a; intro a F
 refine s_fa0 F rfl rfl rfl rfl fa_144_5_A2 rfl ?_; clear F a; intro a F
 refine s_sf F M rfl rfl rfl sz_3_A2 rfl rfl rfl (by exact Nat.le_of_ble_eq_true rfl) ?_; (clear M; try clear w); intro w M
 refine s_I F rfl rfl rfl rfl rfl rfl ?_; clear F a; intro a F
 refine s_fa0 F rfl rfl rfl rfl fa_144_10_A2 rfl ?_; clear F a; intro a F
 refine s_sf F M rfl rfl rfl sz_4_A2 rfl rfl rfl (by exact Nat.le_of_ble_eq_true rfl) ?_; (clear M; try clear w); intro w M
 refine t_endM M ?_; (clear M; try clear w); intro w M
 refine wp_seq ?_
 refine wp_seq ?_
 rw [aF_beg] at M
 replace F := F.keep [0, 1] rfl
 refine wp_region_t [.ind, .ind, .ind, .rd, .ind, .ind, .ind, .rd, .ind, .wr, .ind, .ind, .ind, .rd, .ind] [(13, 9)] (otOf [0, 1, 2, 3, 4, 5, 6, 7, 8, 10, 11, 12, 13, 9, 14]) mixed (by kernel_rfl) ?_
 refine s_rn 2 F rfl rfl ?_; clear F a; intro a F
 refine s_fa0 F rfl rfl rfl rfl fa_144_0_A2 rfl ?_; clear F a; intro a F
 refine s_ldL F rfl rfl rfl rfl sc_3_A2 rfl (by exact cell_of_blk M.h0 (gf rfl (by decide))) ?_; clear F a; intro a F
 refine s_rn 2 F rfl rfl ?_; clear F a; intro a F
 refine s_fa0 F rfl rfl rfl rfl fa_144_2_A2 rfl ?_; clear F a; intro a F
 refine s_ldL F rfl rfl rfl rfl sc_3_A2 rfl (by exact cell_of_blk M.h0 (gf rfl (by decide))) ?_; clear F a; intro a F
 refine s_rn 3 F rfl rfl ?_; clear F a; intro a F
 refine s_fa0 F rfl rfl rfl rfl fa_144_1_A2 rfl ?_; clear F a; intro a F
 refine s_ldL F rfl rfl rfl rfl sc_3_A2 rfl (by exact cell_of_blk M.h0 (gf rfl (by decide))) ?_; clear F a; intro a F
 refine s_cqL F M rfl rfl rfl rfl rfl (rfl : _ = some [_, _, _]) cb_35_A2 (fun nd_ => c35 _ _ _ _) (fun _ w _ M => (by (refine pend_take (by exact cell_of_blk M.h0 (gf rfl (by decide))) ?_); (refine pend_skip rfl ?_); (refine pend_skip rfl ?_); exact pend_none)) ?_; (clear F a M; try clear w); rintro v w rfl M a F
 refine s_bin F rfl rfl rfl rfl rfl rfl rfl ?_; clear F a; intro a F
 refine t_endM M ?_; (clear M; try clear w); intro w M
 refine c_if F rfl ?_ ?_
 clear F; intro hc2 F
 try rw [hc2] at F
 replace hc2 := nd1 hc2
 refine wp_ret ?_
 refine (ret0 F rfl ?_).1
 have M1 : Sep _ _ _ (blk b _ :: _) := M; replace M := M1; clear M1
 replace M := M.blkEq (o' := aO (st.begin r) vb (sayV ob)) (by rw [begin_beg (by omega)])
 rw [show st.beginO r = [] from if_pos (.inr (by assumption)), List.append_nil]
 refine ⟨_, ov, rfl, rfl, ?_⟩
 refine M.pick ?_; repeat (first | exact PkG.nil | refine PkG.cons 0 rfl rfl ?_ | refine PkG.cons 1 rfl rfl ?_ | refine PkG.cons 2 rfl rfl ?_)
 clear F; intro hc3 F
 try rw [hc3] at F
 replace hc3 := nd0 hc3
 refine wp_skip ?_
 refine wp_seq ?_
 replace F := F.keep [0, 1] rfl
 refine wp_region_t [.ind, .ind, .ind, .rd, .ind, .ind, .ind, .ind, .ind, .rd, .ind, .ind, .ind, .ind, .rd, .ind, .wr, .wr] [(3, 16), (9, 16), (14, 16)] (otOf [0, 1, 2, 3, 4, 5, 6, 7, 8, 9, 10, 11, 12, 13, 14, 15, 16, 17]) mixed (by kernel_rfl) ?_
 refine s_rn 2 F rfl rfl ?_; clear F a; intro a F
 refine s_fa0 F rfl rfl rfl rfl fa_144_1_A2 rfl ?_; clear F a; intro a F
 refine s_ldL F rfl rfl rfl rfl sc_3_A2 rfl (by exact cell_of_blk M.h0 (gf rfl (by decide))) ?_; clear F a; intro a F
 refine s_rn 3 F rfl rfl ?_; clear F a; intro a F
 refine s_fa0 F rfl rfl rfl rfl fa_144_7_A2 rfl ?_; clear F a; intro a F
 refine s_fa F rfl rfl rfl rfl fa_138_1_A2 rfl ?_; clear F a; intro a F
 refine s_ldL F rfl rfl rfl rfl sc_3_A2 rfl (by exact cell_of_blk M.h0 (gf rfl (by decide))) ?_; clear F a; intro a F
 refine s_rn 2 F rfl rfl ?_; clear F a; intro a F
 refine s_fa0 F rfl rfl rfl rfl fa_144_7_A2 rfl ?_; clear F a; intro a F
 refine s_fa F rfl rfl rfl rfl fa_138_0_A2 rfl ?_; clear F a; intro a F
 refine s_ldL F rfl rfl rfl rfl sc_9_A2 rfl (by exact cell_of_blk M.h0 (gf rfl (by decide))) ?_; clear F a; intro a F
 refine s_bld F rfl rfl rfl rfl (parts5 F rfl rfl rfl rfl rfl) (bl_32_0_1_2_3_4_A2 _ _ _ _ _) ?_; clear F a; intro a F
 refine s_alcL F M rfl rfl rfl rfl zr_32_A2 rfl (fun b w M => (by (refine pend_take (by exact cell_of_blk M.h1 (gf rfl (by decide))) ?_); (refine pend_take (by exact cell_of_blk M.h1 (gf rfl (by decide))) ?_); (refine pend_take (by exact cell_of_blk M.h1 (gf rfl (by decide))) ?_); exact pend_none)) ?_; (clear F a M; try clear w); intro b4 w M a F
 refine s_stWL F M rfl rfl rfl sz_32_A2 rfl rfl rfl rfl rfl (fun w M => (by (refine pend_skip rfl ?_); (refine pend_skip rfl ?_); (refine pend_skip rfl ?_); exact pend_none)) ?_; (clear M; try clear w); intro w M
 refine t_endM M ?_; (clear M; try clear w); intro w M
 refine wp_seq ?_
 refine wp_seq ?_
 replace F := F.keep [0, 1, 4] rfl
 refine wp_region_l [.ind, .rd, .ind] ([0, 1, 2]) rfl ?_
 refine s_fa0 F rfl rfl rfl rfl fa_32_3_A2 rfl ?_; clear F a; intro a F
 refine s_ld F rfl rfl rfl rfl sc_3_A2 rfl (by exact cell_of_blk M.h0 (lit rfl)) ?_; clear F a; intro a F
 refine s_bin F rfl rfl rfl rfl rfl rfl rfl ?_; clear F a; intro a F
 refine t_endM M ?_; (clear M; try clear w); intro w M
 refine c_if F rfl ?_ ?_
 clear F; intro hc4 F
 try rw [hc4] at F
 replace hc4 := of_decide_eq_true hc4
 replace F := F.keep [0, 1, 4] rfl
 refine wp_region_l [.ind, .ind, .ind, .rd, .ind, .wr] ([0, 1, 2, 3, 4, 5]) rfl ?_
 refine s_rn 2 F rfl rfl ?_; clear F a; intro a F
 refine s_fa0 F rfl rfl rfl rfl fa_144_3_A2 rfl ?_; clear F a; intro a F
 refine s_ld F rfl rfl rfl rfl sc_9_A2 rfl (by exact cell_of_blk M.h1 (gf rfl (by decide))) ?_; clear F a; intro a F
 refine s_fa0 F rfl rfl rfl rfl fa_32_4_A2 rfl ?_; clear F a; intro a F
 refine s_st F M rfl rfl rfl sz_9_A2 rfl rfl rfl (by exact Nat.le_of_ble_eq_true rfl) ?_; (clear M; try clear w); intro w M
 refine t_endM M ?_; (clear M; try clear w); intro w M
 replace F := F.keep [0, 1, 4] rfl
 refine wp_region_t [.ind, .ind, .ind, .ind, .rd, .rd, .wr] [] (otOf [0, 1, 2, 3, 4, 5, 6]) mixed (by kernel_rfl) ?_
 refine s_rn 2 F rfl rfl ?_; clear F a; intro a F
 refine s_fa0 F rfl rfl rfl rfl fa_144_13_A2 rfl ?_; clear F a; intro a F
 refine s_fa F rfl rfl rfl rfl fa_142_0_A2 rfl ?_; clear F a; intro a F
 refine s_ld F rfl rfl rfl rfl sc_140_A2 rfl (by exact cell_of_blk M.h1 (gf rfl (by decide))) ?_; clear F a; intro a F
 refine s_lda F rfl rfl rfl rfl ag_32_A2 rfl rfl (cells_whole M.h0) ?_; clear F a; intro a F
 have M1 : Sep _ _ _ (slR _ _ _ _ _ :: _) := M.f3; replace M := M1; clear M1
 have M1 : Sep _ _ _ (blk ob _ :: _) := M.f3; replace M := M1; clear M1
 refine s_clo (m := [_, _]) F M rfl rfl rfl rfl rfl (rfl : _ = some [_]) (by rfl) cb_107_A2 (fun nd_ => c107 ⟨1, st.me, r, st.valR, st.own⟩ ob _ _ (by omega) _ (Own.left (m := [_, _]) (M.drewN nd_).own)) (fun _ _ _ _ _ => pend_nil) ?_; (clear F a M; try clear w); rintro v x w rfl M a F; (try simp only [List.cons_append, List.nil_append] at M)
 refine t_endM M ?_; (clear M; try clear w); intro w M
 refine (ret0 F rfl ?_).2
 have M1 : Sep _ _ _ (blk b _ :: _) := M.f3; replace M := M1; clear M1
 replace M := M.blkEq (o' := aO (st.begin r) vb (sayV ob)) (by rw [begin_beg (by omega)])
 have hbo : st.beginO r = [⟨1, st.me, r, st.valR, if st.valR < 0 then st.own else st.val⟩] := if_neg (by intro h; rcases h with h | h; omega; exact h (by assumption))
 rw [if_pos (by assumption)] at hbo
 rw [hbo]
 refine ⟨_, x, rfl, rfl, ?_⟩
 refine M.pick ?_; repeat (first | exact PkG.nil | refine PkG.cons 0 rfl rfl ?_ | refine PkG.cons 1 rfl rfl ?_ | refine PkG.cons 2 rfl rfl ?_)
 clear F; intro hc5 F
 try rw [hc5] at F
 replace hc5 := of_decide_eq_false hc5
 refine wp_skip ?_
 replace F := F.keep [0, 1, 4] rfl
 refine wp_region_t [.ind, .ind, .ind, .ind, .rd, .rd, .wr] [] (otOf [0, 1, 2, 3, 4, 5, 6]) mixed (by kernel_rfl) ?_
 refine s_rn 2 F rfl rfl ?_; clear F a; intro a F
 refine s_fa0 F rfl rfl rfl rfl fa_144_13_A2 rfl ?_; clear F a; intro a F
 refine s_fa F rfl rfl rfl rfl fa_142_0_A2 rfl ?_; clear F a; intro a F
 refine s_ld F rfl rfl rfl rfl sc_140_A2 rfl (by exact cell_of_blk M.h1 (gf rfl (by decide))) ?_; clear F a; intro a F
 refine s_lda F rfl rfl rfl rfl ag_32_A2 rfl rfl (cells_whole M.h0) ?_; clear F a; intro a F
 have M1 : Sep _ _ _ (slR _ _ _ _ _ :: _) := M.f3; replace M := M1; clear M1
 have M1 : Sep _ _ _ (blk ob _ :: _) := M.f3; replace M := M1; clear M1
 refine s_clo (m := [_, _]) F M rfl rfl rfl rfl rfl (rfl : _ = some [_]) (by rfl) cb_107_A2 (fun nd_ => c107 ⟨1, st.me, r, st.valR, st.val⟩ ob _ _ (by omega) _ (Own.left (m := [_, _]) (M.drewN nd_).own)) (fun _ _ _ _ _ => pend_nil) ?_; (clear F a M; try clear w); rintro v x w rfl M a F; (try simp only [List.cons_append, List.nil_append] at M)
 refine t_endM M ?_; (clear M; try clear w); intro w M
 refine (ret0 F rfl ?_).2
 have M1 : Sep _ _ _ (blk b _ :: _) := M.f3; replace M := M1; clear M1
 replace M := M.blkEq (o' := aO (st.begin r) vb (sayV ob)) (by rw [begin_beg (by omega)])
 have hbo : st.beginO r = [⟨1, st.me, r, st.valR, if st.valR < 0 then st.own else st.val⟩] := if_neg (by intro h; rcases h with h | h; omega; exact h (by assumption))
 rw [if_neg (by assumption)] at hbo
 rw [hbo]
 refine ⟨_, x, rfl, rfl, ?_⟩
 refine M.pick ?_; repeat (first | exact PkG.nil | refine PkG.cons 0 rfl rfl ?_ | refine PkG.cons 1 rfl rfl ?_ | refine PkG.cons 2 rfl rfl ?_)
end Go.Proofs.Ytboibdmflblphaa
