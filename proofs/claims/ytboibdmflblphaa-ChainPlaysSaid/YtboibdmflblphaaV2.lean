/- V2 of the seat. -/
import Derived.Test.YtboibdmflblphaaV1
namespace Go.Proofs.Ytboibdmflblphaa
open Go Fw
theorem cb_77_V2 : callB Try.prog 77 = true := by kernel_rfl
theorem bl_130_0_1_V2 : ∀ (x0 : Int) (x1 : Int), ∀ w : World, (Instr.build 130 #[(0, .int .i64 x0), (1, .int .i64 x1)]).run Try.prog w = .ok (.agg #[.int .i64 x0, .int .i64 x1, .slice none 0 0]) w := by intros; kernel_rfl
theorem pt_25_V2 : ptrB Try.prog 25 = true := by kernel_rfl
theorem ag_32_V2 : aggB Try.prog 32 = some 5 := by kernel_rfl
theorem cb_78_V2 : callB Try.prog 78 = true := by kernel_rfl
theorem fa_130_2_V2 : FA Try.prog 130 2 2 := fun _ _ _ => by kernel_rfl
theorem sc_22_V2 : scalB Try.prog 22 = true := by kernel_rfl
theorem sl_22_V2 : slcB Try.prog 22 = some (32, 5) := by kernel_rfl
theorem zr_32_V2 : zeroB Try.prog 32 = some (.agg #[.int .i64 0, .int .i64 0, .int .i64 0, .int .i64 0, .string { data := #[] }]) := by kernel_rfl
theorem sz_32_V2 : sizeB Try.prog 32 = some 5 := by kernel_rfl
theorem fa_32_0_V2 : FA Try.prog 32 0 0 := fun _ _ _ => by kernel_rfl
theorem sc_3_V2 : scalB Try.prog 3 = true := by kernel_rfl
theorem fa_32_1_V2 : FA Try.prog 32 1 1 := fun _ _ _ => by kernel_rfl
theorem fa_32_2_V2 : FA Try.prog 32 2 2 := fun _ _ _ => by kernel_rfl
theorem bs_22_1_V2 : ∀ (x0_0 : Int) (x0_1 : Int) (x0_2 : Int) (x0_3 : Int) (x0_4 : ByteArray), News Try.prog (Instr.buildSlice 22 1 #[(0, .agg #[.int .i64 x0_0, .int .i64 x0_1, .int .i64 x0_2, .int .i64 x0_3, .string x0_4])]) (.cells #[.int .i64 x0_0, .int .i64 x0_1, .int .i64 x0_2, .int .i64 x0_3, .string x0_4] 32) fun b => .slice (some ⟨b, 0, none⟩) 1 1 := by intros; intro w; kernel_rfl
theorem tl_22_V2 : SlT Try.prog 22 32 5 48 (.agg #[.int .i64 0, .int .i64 0, .int .i64 0, .int .i64 0, .string { data := #[] }]) := ⟨by kernel_rfl, by kernel_rfl, by kernel_rfl, by kernel_rfl, by decide⟩
theorem sz_22_V2 : sizeB Try.prog 22 = some 1 := by kernel_rfl
theorem ar_135_V2 : arrB Try.prog 135 = some (64, 8) := by kernel_rfl
theorem ar_134_V2 : arrB Try.prog 134 = some (8, 1) := by kernel_rfl
theorem sc_4_V2 : scalB Try.prog 4 = true := by kernel_rfl
theorem sz_4_V2 : sizeB Try.prog 4 = some 1 := by kernel_rfl
theorem ar_136_V2 : arrB Try.prog 136 = some (64, 1) := by kernel_rfl
theorem sz_3_V2 : sizeB Try.prog 3 = some 1 := by kernel_rfl
theorem fa_130_1_V2 : FA Try.prog 130 1 1 := fun _ _ _ => by kernel_rfl
open VoteM

theorem who_cnt {L : List Wrd} {r f : Int} (h0 : 1 ≤ f) : ((List.range f.toNat).countP fun i => votedV L r ((i : Nat) + 1 : Int)) = ((List.range (f - 1).toNat).countP fun i => votedV L r ((i : Nat) + 1 : Int)) + if votedV L r f = true then 1 else 0 := by
 rw [show f.toNat = (f - 1).toNat + 1 by omega, List.range_succ, List.countP_append, List.countP_singleton, show (((f - 1).toNat : Nat) : Int) + 1 = f by omega]
set_option maxRecDepth 100000 in
set_option maxHeartbeats 400000 in
theorem c22 (n t : Int) (hq : quorum n t ≠ 0) (w0 : World) : Cl Try.prog 22 #[.int .i64 n, .int .i64 t] w0 (RetS [] w0 (fun v (b : Nat) => v = .pointer (some ⟨b, 0, none⟩)) fun b => [blk b (vO n t (.slice none 0 0)), wsR (.slice none 0 0) []]) := by
 have M : Sep (fun b_ => b_ ∈ foots ([] : List Res)) w0 w0 _ := Sep.nil _ w0
 refine enter (vs := [_, _]) Try.func22 rfl rfl rfl ?_
 intro a F
 refine wp_seq ?_
 refine wp_region_l [.ind] ([0]) rfl ?_
 refine s_I F rfl rfl rfl rfl rfl rfl ?_; clear F a; intro a F
 refine t_endM M ?_; (clear M; try clear w); intro w M
 refine wp_seq ?_
 refine wp_seq ?_
 refine wp_region_l [.ind, .ind, .wr, .ind] ([0, 1, 2, 3]) rfl ?_
 refine s_rn 2 F rfl rfl ?_; clear F a; intro a F
 refine s_cq F M rfl rfl rfl rfl rfl (rfl : _ = some [_, _]) cb_77_V2 (fun nd_ => c77 _ _ _) ?_; (clear F a M; try clear w); rintro v w rfl M a F
 refine s_bin F rfl rfl rfl rfl rfl rfl rfl ?_; clear F a; intro a F
 refine t_endM M ?_; (clear M; try clear w); intro w M
 refine c_if F rfl ?_ ?_
 clear F; intro hc0 F
 try rw [hc0] at F
 replace hc0 := of_decide_eq_true hc0
 exact absurd hc0 hq
 clear F; intro hc1 F
 try rw [hc1] at F
 replace hc1 := of_decide_eq_false hc1
 refine wp_skip ?_
 refine wp_seq ?_
 replace F := F.keep [0, 1, 4] rfl
 refine wp_region_l [.ind, .ind, .ind, .wr, .ind] ([0, 1, 2, 3, 4]) rfl ?_
 refine s_rn 2 F rfl rfl ?_; clear F a; intro a F
 refine s_bld F rfl rfl rfl rfl (parts2 F rfl rfl) (bl_130_0_1_V2 _ _) ?_; clear F a; intro a F
 refine s_bxA F M rfl rfl rfl rfl rfl ?_; (clear F a M; try clear w); intro b12 w M a F
 refine s_I F rfl rfl rfl rfl rfl rfl ?_; clear F a; intro a F
 refine t_endM M ?_; (clear M; try clear w); intro w M
 refine wp_ret ?_
 refine ret1 F rfl rfl ?_
 refine ⟨_, b12, rfl, rfl, ?_⟩
 exact Sep.left (r := []) (M.nilT encW 32 5).f1
set_option maxRecDepth 100000 in
set_option maxHeartbeats 400000 in
theorem c22n (n t : Int) (hq : quorum n t = 0) (w0 : World) : Cl Try.prog 22 #[.int .i64 n, .int .i64 t] w0 (RetQ w0 fun v => v = .pointer none) := by
 have M : Sep (fun _ => False) w0 w0 _ := Sep.nil _ w0
 refine enter (vs := [_, _]) Try.func22 rfl rfl rfl ?_
 intro a F
 refine wp_seq ?_
 refine wp_region_l [.ind] ([0]) rfl ?_
 refine s_I F rfl rfl rfl rfl rfl rfl ?_; clear F a; intro a F
 refine t_endM M ?_; (clear M; try clear w); intro w M
 refine wp_seq ?_
 refine wp_seq ?_
 refine wp_region_l [.ind, .ind, .wr, .ind] ([0, 1, 2, 3]) rfl ?_
 refine s_rn 2 F rfl rfl ?_; clear F a; intro a F
 refine s_cq F M rfl rfl rfl rfl rfl (rfl : _ = some [_, _]) cb_77_V2 (fun nd_ => c77 _ _ _) ?_; (clear F a M; try clear w); rintro v w rfl M a F
 refine s_bin F rfl rfl rfl rfl rfl rfl rfl ?_; clear F a; intro a F
 refine t_endM M ?_; (clear M; try clear w); intro w M
 refine c_if F rfl ?_ ?_
 clear F; intro hc0 F
 try rw [hc0] at F
 replace hc0 := of_decide_eq_true hc0
 refine wp_seq ?_
 replace F := F.keep [0, 1, 4] rfl
 refine wp_region_l [.ind] ([0]) rfl ?_
 refine s_I F rfl rfl rfl rfl rfl rfl ?_; clear F a; intro a F
 refine t_endM M ?_; (clear M; try clear w); intro w M
 refine wp_ret ?_
 refine ret1 F rfl rfl ?_
 exact ⟨_, rfl, rfl, M.chg⟩
 clear F; intro hc1 F
 try rw [hc1] at F
 replace hc1 := of_decide_eq_false hc1
 exact absurd hq hc1
set_option maxRecDepth 100000 in
set_option maxHeartbeats 2000000 in
theorem c25 (b : Nat) (n t : Int) (L : List Wrd) (v : Value) (q : Wrd) (W : Wf n t L) (w0 : World) (ho : Own w0.heap [blk b (vO n t v), wsR v L]) : Cl Try.prog 25 #[.pointer (some ⟨b, 0, none⟩), wrdV q] w0 (RetS [blk b (vO n t v), wsR v L] w0 (fun r (_ : Value) => r = .bool (okV n L q)) fun x => [blk b (vO n t x), wsR x (putV n L q)]) := by
 obtain ⟨A, cc, rfl⟩ := (ho.ok (wsR v L) (by simp)).form
 have M : Sep (fun b_ => b_ ∈ foots [blk b (vO n t (.slice A L.length cc)), wsR (.slice A L.length cc) L]) w0 w0 _ := Sep.start ho
 replace M : Sep _ _ _ [blk b (.cells #[.int .i64 n, .int .i64 t, .slice A L.length cc] 130 (0, 0)), wsR (.slice A L.length cc) L] := M
 have hln := W.len
 refine enter (vs := [_, _]) Try.func25 rfl rfl rfl ?_
 intro a F
 refine wp_seq ?_
 refine wp_region_l [.wr, .ind] ([0, 1]) rfl ?_
 refine s_bxA F M rfl rfl rfl rfl rfl ?_; (clear F a M; try clear w); intro b3 w M a F
 refine s_I F rfl rfl rfl rfl rfl rfl ?_; clear F a; intro a F
 refine t_endM M ?_; (clear M; try clear w); intro w M
 refine wp_seq ?_
 refine wp_seq ?_
 refine wp_region_l [.ind, .ind, .ind, .ind, .rd, .wr, .ind, .ind] ([0, 1, 2, 3, 4, 5, 6, 7]) rfl ?_
 refine s_I F rfl rfl rfl rfl rfl rfl ?_; clear F a; intro a F
 refine s_pn F rfl rfl rfl rfl pt_25_V2 rfl ?_; clear F a; intro a F
 refine s_rn 2 F rfl rfl ?_; clear F a; intro a F
 refine s_lda F rfl rfl rfl rfl ag_32_V2 rfl rfl (cells_whole M.h0) ?_; clear F a; intro a F
 refine s_cq F M rfl rfl rfl rfl rfl (rfl : _ = some [_, _]) cb_78_V2 (fun nd_ => c78 b n t _ q _ (by exact M.h1)) ?_; (clear F a M; try clear w); rintro v w rfl M a F
 refine s_rn 2 F rfl rfl ?_; clear F a; intro a F
 refine t_endM M ?_; (clear M; try clear w); intro w M
 refine c_if F rfl ?_ ?_
 clear F; intro hc0 F
 try rw [hc0] at F
 replace hc0 := nd1 hc0
 refine wp_seq ?_
 replace F := F.keep [0, 1, 3, 4] rfl
 refine wp_region_l [.ind] ([0]) rfl ?_
 refine s_I F rfl rfl rfl rfl rfl rfl ?_; clear F a; intro a F
 refine t_endM M ?_; (clear M; try clear w); intro w M
 refine wp_ret ?_
 refine ret1 F rfl rfl ?_
 have hno : okV n L q = false := by clear M F ho; grind [okV, mayV]
 refine ⟨_, .slice A L.length cc, rfl, by rw [hno], ?_⟩
 rw [put_no hno]
 refine M.pick ?_; repeat (first | exact PkG.nil | refine PkG.cons 1 rfl rfl ?_ | refine PkG.cons 2 rfl rfl ?_)
 clear F; intro hc1 F
 try rw [hc1] at F
 replace hc1 := nd0 hc1
 refine wp_skip ?_
 refine wp_seq ?_
 refine wp_seq ?_
 replace F := F.keep [0, 1, 3, 4] rfl
 refine wp_region_l [.ind, .ind, .ind, .rd, .ind, .ind] ([0, 1, 2, 3, 4, 5]) rfl ?_
 refine s_rn 2 F rfl rfl ?_; clear F a; intro a F
 refine s_fa0 F rfl rfl rfl rfl fa_130_2_V2 rfl ?_; clear F a; intro a F
 refine s_ld F rfl rfl rfl rfl sc_22_V2 rfl (by exact cell_of_blk M.h1 (lit rfl)) ?_; clear F a; intro a F
 refine s_len F rfl rfl rfl rfl sl_22_V2 rfl ?_; clear F a; intro a F
 refine s_I F rfl rfl rfl rfl rfl rfl ?_; clear F a; intro a F
 refine t_endM M ?_; (clear M; try clear w); intro w M
 refine wp_block ?_
 refine loopX (X := (Int)) F [0, 1, 3, 18, 19] rfl (fun (i : Int) => (0 ≤ i) ∧ (i ≤ L.length) ∧ (∀ o ∈ L.take i.toNat, ¬ (o.kind = q.kind ∧ o.frm = q.frm ∧ o.round = q.round))) (fun (i : Int) => [(20, .int .i64 i)]) (fun (i : Int) => []) (fun (i : Int) => L.length - i.toNat) (0) M ⟨(by omega), (by omega), (by simp)⟩ (F.keep [20, 0, 1, 3, 18, 19] rfl) ?_
 clear F M; clear a; (try clear w)
 rintro i a w ⟨i0, i1, ha⟩ F M; try dsimp only at F M
 try simp only [List.cons_append, List.nil_append] at F M
 try dsimp only at i0 i1 ha
 refine wp_seq ?_
 refine wp_region_l [.ind] ([0]) rfl ?_
 refine s_bin F rfl rfl rfl rfl rfl rfl rfl ?_; clear F a; intro a F
 refine t_endM M ?_; (clear M; try clear w); intro w M
 refine wp_seq ?_
 refine c_if F rfl ?_ ?_
 clear F; intro hc2 F
 try rw [hc2] at F
 replace hc2 := of_decide_eq_true hc2
 refine wp_skip ?_
 refine wp_seq ?_
 refine wp_block ?_
 refine wp_seq ?_
 replace F := F.keep [0, 1, 3, 18, 19, 20] rfl
 refine wp_region_l [.ind, .rd, .wr, .wr] ([0, 1, 2, 3]) rfl ?_
 refine s_ix F rfl rfl rfl rfl sl_22_V2 rfl rfl (by exact SlOk.rd M.h2) (by omega) (by omega) ?_; clear F a; intro e22 he22 a F
 refine s_lda F rfl rfl rfl rfl ag_32_V2 rfl rfl (rdsX (SlOk.rd M.h2) (by intro e; rfl) he22) ?_; clear F a; intro a F
 refine s_alc F M rfl rfl rfl rfl zr_32_V2 rfl ?_; (clear F a M; try clear w); intro b6 w M a F
 refine s_stW F M rfl rfl rfl sz_32_V2 rfl rfl rfl rfl rfl ?_; (clear M; try clear w); intro w M
 refine t_endM M ?_; (clear M; try clear w); intro w M
 refine wp_seq ?_
 replace F := F.keep [0, 1, 3, 6, 18, 19, 20] rfl
 refine wp_region_l [.ind, .rd, .ind, .rd, .ind, .ind, .ind, .rd, .ind, .rd, .ind, .ind, .ind, .ind, .rd, .ind, .rd, .ind, .ind] ([0, 1, 2, 3, 4, 5, 6, 7, 8, 9, 10, 11, 12, 13, 14, 15, 16, 17, 18]) rfl ?_
 refine s_fa0 F rfl rfl rfl rfl fa_32_0_V2 rfl ?_; clear F a; intro a F
 refine s_ld F rfl rfl rfl rfl sc_3_V2 rfl (by exact cell_of_blk M.h0 (lit rfl)) ?_; clear F a; intro a F
 refine s_fa0 F rfl rfl rfl rfl fa_32_0_V2 rfl ?_; clear F a; intro a F
 refine s_ld F rfl rfl rfl rfl sc_3_V2 rfl (by exact cell_of_blk M.h1 (lit rfl)) ?_; clear F a; intro a F
 refine s_rn 2 F rfl rfl ?_; clear F a; intro a F
 refine bsplit F 29 rfl ?_ ?_
 clear F; intro hc3 F
 try rw [hc3] at F
 replace hc3 := of_decide_eq_true hc3
 refine s_fa0 F rfl rfl rfl rfl fa_32_1_V2 rfl ?_; clear F a; intro a F
 refine s_ld F rfl rfl rfl rfl sc_3_V2 rfl (by exact cell_of_blk M.h0 (lit rfl)) ?_; clear F a; intro a F
 refine s_fa0 F rfl rfl rfl rfl fa_32_1_V2 rfl ?_; clear F a; intro a F
 refine s_ld F rfl rfl rfl rfl sc_3_V2 rfl (by exact cell_of_blk M.h1 (lit rfl)) ?_; clear F a; intro a F
 refine s_rn 3 F rfl rfl ?_; clear F a; intro a F
 refine bsplit F 36 rfl ?_ ?_
 clear F; intro hc4 F
 try rw [hc4] at F
 replace hc4 := of_decide_eq_true hc4
 refine s_fa0 F rfl rfl rfl rfl fa_32_2_V2 rfl ?_; clear F a; intro a F
 refine s_ld F rfl rfl rfl rfl sc_3_V2 rfl (by exact cell_of_blk M.h0 (lit rfl)) ?_; clear F a; intro a F
 refine s_fa0 F rfl rfl rfl rfl fa_32_2_V2 rfl ?_; clear F a; intro a F
 refine s_ld F rfl rfl rfl rfl sc_3_V2 rfl (by exact cell_of_blk M.h1 (lit rfl)) ?_; clear F a; intro a F
 refine s_rn 2 F rfl rfl ?_; clear F a; intro a F
 refine t_endM M ?_; (clear M; try clear w); intro w M
 refine c_if F rfl ?_ ?_
 clear F; intro hc5 F
 try rw [hc5] at F
 replace hc5 := of_decide_eq_true hc5
 refine wp_seq ?_
 replace F := F.keep [0, 1, 3, 6, 18, 19, 20] rfl
 refine wp_region_l [.ind] ([0]) rfl ?_
 refine s_I F rfl rfl rfl rfl rfl rfl ?_; clear F a; intro a F
 refine t_endM M ?_; (clear M; try clear w); intro w M
 refine wp_ret ?_
 refine ret1 F rfl rfl ?_
 have hno : okV n L q = false := by
   have := dup_of (w := q) he22 (by assumption) (by assumption) (by assumption)
   clear M F ho; grind [okV, mayV]
 refine ⟨_, .slice A L.length cc, rfl, by rw [hno], ?_⟩
 rw [put_no hno]
 refine M.pick ?_; repeat (first | exact PkG.nil | refine PkG.cons 2 rfl rfl ?_ | refine PkG.cons 3 rfl rfl ?_)
 clear F; intro hc6 F
 try rw [hc6] at F
 replace hc6 := of_decide_eq_false hc6
 refine wp_skip ?_
 replace F := F.keep [0, 1, 3, 6, 18, 19, 20] rfl
 refine wp_region_l [.ind, .ind] ([0, 1]) rfl ?_
 refine s_add F rfl rfl rfl rfl rfl rfl (by unfold In64; omega) ?_; clear F a; intro a F
 refine s_I F rfl rfl rfl rfl rfl rfl ?_; clear F a; intro a F
 refine t_endM M ?_; (clear M; try clear w); intro w M
 refine again (i + 1) (by show _ < _; (try dsimp only); omega) ⟨(by omega), (by assumption), (all_take ha i0 he22 (by clear M F; grind))⟩ (F.keep [20, 0, 1, 3, 18, 19] rfl) ?_
 try dsimp only [List.cons_append, List.nil_append]
 refine M.pick ?_; repeat (first | exact PkG.nil | refine PkG.cons 1 rfl rfl ?_ | refine PkG.cons 2 rfl rfl ?_ | refine PkG.cons 3 rfl rfl ?_)
 clear F; intro hc7 F
 try rw [hc7] at F
 replace hc7 := of_decide_eq_false hc7
 refine s_rn 6 F rfl rfl ?_; clear F a; intro a F
 refine t_endM M ?_; (clear M; try clear w); intro w M
 refine c_f F rfl ?_
 refine wp_skip ?_
 replace F := F.keep [0, 1, 3, 6, 18, 19, 20] rfl
 refine wp_region_l [.ind, .ind] ([0, 1]) rfl ?_
 refine s_add F rfl rfl rfl rfl rfl rfl (by unfold In64; omega) ?_; clear F a; intro a F
 refine s_I F rfl rfl rfl rfl rfl rfl ?_; clear F a; intro a F
 refine t_endM M ?_; (clear M; try clear w); intro w M
 refine again (i + 1) (by show _ < _; (try dsimp only); omega) ⟨(by omega), (by assumption), (all_take ha i0 he22 (by clear M F; grind))⟩ (F.keep [20, 0, 1, 3, 18, 19] rfl) ?_
 try dsimp only [List.cons_append, List.nil_append]
 refine M.pick ?_; repeat (first | exact PkG.nil | refine PkG.cons 1 rfl rfl ?_ | refine PkG.cons 2 rfl rfl ?_ | refine PkG.cons 3 rfl rfl ?_)
 clear F; intro hc8 F
 try rw [hc8] at F
 replace hc8 := of_decide_eq_false hc8
 refine s_rn 13 F rfl rfl ?_; clear F a; intro a F
 refine t_endM M ?_; (clear M; try clear w); intro w M
 refine c_f F rfl ?_
 refine wp_skip ?_
 replace F := F.keep [0, 1, 3, 6, 18, 19, 20] rfl
 refine wp_region_l [.ind, .ind] ([0, 1]) rfl ?_
 refine s_add F rfl rfl rfl rfl rfl rfl (by unfold In64; omega) ?_; clear F a; intro a F
 refine s_I F rfl rfl rfl rfl rfl rfl ?_; clear F a; intro a F
 refine t_endM M ?_; (clear M; try clear w); intro w M
 refine again (i + 1) (by show _ < _; (try dsimp only); omega) ⟨(by omega), (by assumption), (all_take ha i0 he22 (by clear M F; grind))⟩ (F.keep [20, 0, 1, 3, 18, 19] rfl) ?_
 try dsimp only [List.cons_append, List.nil_append]
 refine M.pick ?_; repeat (first | exact PkG.nil | refine PkG.cons 1 rfl rfl ?_ | refine PkG.cons 2 rfl rfl ?_ | refine PkG.cons 3 rfl rfl ?_)
 clear F; intro hc9 F
 try rw [hc9] at F
 replace hc9 := of_decide_eq_false hc9
 refine wp_exit ?_
 refine wp_seq ?_
 rw [take_all (by omega)] at ha
 have hok : okV n L q = true := by
   have := dup_no ha
   clear M F ho; grind [okV, mayV]
 replace F := F.keep [0, 1, 3, 18, 19, 20] rfl
 refine wp_region_t [.ind, .ind, .ind, .ind, .rd, .rd, .wr, .wr, .ind, .ind, .wr] [(4, 6)] (otOf [0, 1, 2, 3, 4, 5, 6, 7, 8, 9, 10]) mixed (by kernel_rfl) ?_
 refine s_rn 3 F rfl rfl ?_; clear F a; intro a F
 refine s_fa0 F rfl rfl rfl rfl fa_130_2_V2 rfl ?_; clear F a; intro a F
 refine s_ldL F rfl rfl rfl rfl sc_22_V2 rfl (by exact cell_of_blk M.h1 (lit rfl)) ?_; clear F a; intro a F
 refine s_ldaL F rfl rfl rfl rfl ag_32_V2 rfl rfl (cells_whole M.h0) ?_; clear F a; intro a F
 refine s_bsL F M rfl rfl rfl rfl (parts1 F rfl) (bs_22_1_V2 _ _ _ _ _) (fun b w M => (by (refine pend_skip rfl ?_); (refine pend_take (by exact cell_of_blk M.h2 (lit rfl)) ?_); exact pend_none)) ?_; (clear F a M; try clear w); intro b50 w M a F
 refine s_apE (q) F M.f3 rfl rfl rfl rfl tl_22_V2 rfl rfl (by exact rd_blk M.h0 rfl) rfl (by omega) (fun A c w M => (by (refine pend_skip rfl ?_); (refine pend_skip rfl ?_); exact pend_none)) ?_; (clear F a M; try clear w); intro A51 c51 w M a F
 refine s_I F rfl rfl rfl rfl rfl rfl ?_; clear F a; intro a F
 refine s_fa0 F rfl rfl rfl rfl fa_130_2_V2 rfl ?_; clear F a; intro a F
 refine s_stL F M.f3 rfl rfl rfl sz_22_V2 rfl rfl rfl (by exact Nat.le_of_ble_eq_true rfl) (fun w M => (by (refine pend_skip rfl ?_); (refine pend_skip rfl ?_); exact pend_none)) ?_; (clear M; try clear w); intro w M
 refine t_endM M ?_; (clear M; try clear w); intro w M
 refine wp_seq ?_
 replace F := F.keep [0, 1, 3, 18, 19, 20] rfl
 refine wp_region_l [.ind] ([0]) rfl ?_
 refine s_I F rfl rfl rfl rfl rfl rfl ?_; clear F a; intro a F
 refine t_endM M ?_; (clear M; try clear w); intro w M
 refine wp_ret ?_
 refine ret1 F rfl rfl ?_
 refine ⟨_, .slice A51 (L ++ [q]).length c51, rfl, by rw [hok], ?_⟩
 rw [put_yes hok]
 refine M.pick ?_; repeat (first | exact PkG.nil | refine PkG.cons 0 rfl rfl ?_ | refine PkG.cons 1 rfl rfl ?_)
set_option maxRecDepth 100000 in
set_option maxHeartbeats 400000 in
theorem c32 (b : Nat) (n t : Int) (L : List Wrd) (v : Value) (rd : Int) (W : Wf n t L) (w0 : World) (hb : w0.heap[b]? = some (vO n t v)) (hr : RdSl w0.heap v L.length 5 (L.flatMap encW)) : Cl Try.prog 32 #[.pointer (some ⟨b, 0, none⟩), .int .i64 rd] w0 (RetQ w0 fun o => o = .int .i64 (aheadV n t L rd)) := by
 have M : Sep (fun _ => False) w0 w0 _ := Sep.nil _ w0
 have hro := ro_of hr
 have hrb := ro_blk hb
 obtain ⟨A, cc, rfl, hcc⟩ := hr.form
 have hln := W.len
 have hn7 := W.n7
 have ht0 := W.t0
 refine enter (vs := [_, _]) Try.func32 rfl rfl rfl ?_
 intro a F
 refine wp_seq ?_
 refine wp_region_l [.ind] ([0]) rfl ?_
 refine s_I F rfl rfl rfl rfl rfl rfl ?_; clear F a; intro a F
 refine t_endM M ?_; (clear M; try clear w); intro w M
 refine wp_seq ?_
 refine wp_region_l [.ind] ([0]) rfl ?_
 refine s_I F rfl rfl rfl rfl rfl rfl ?_; clear F a; intro a F
 refine t_endM M ?_; (clear M; try clear w); intro w M
 refine wp_seq ?_
 refine wp_seq ?_
 refine wp_region_l [.ind, .ind] ([0, 1]) rfl ?_
 refine s_I F rfl rfl rfl rfl rfl rfl ?_; clear F a; intro a F
 refine s_pn F rfl rfl rfl rfl pt_25_V2 rfl ?_; clear F a; intro a F
 refine t_endM M ?_; (clear M; try clear w); intro w M
 refine c_f F rfl ?_
 refine wp_skip ?_
 refine wp_seq ?_
 replace F := F.keep [0, 1, 4, 5] rfl
 refine wp_region_l [.wr] ([0]) rfl ?_
 refine s_alc F M rfl rfl rfl rfl zr135 rfl ?_; (clear F a M; try clear w); intro b6 w M a F
 refine t_endM M ?_; (clear M; try clear w); intro w M
 refine wp_seq ?_
 refine wp_region_l [.wr] ([0]) rfl ?_
 refine s_alc F M rfl rfl rfl rfl zr136 rfl ?_; (clear F a M; try clear w); intro b7 w M a F
 refine t_endM M ?_; (clear M; try clear w); intro w M
 refine wp_seq ?_
 refine wp_seq ?_
 refine wp_region_l [.ind, .ind, .ind, .rd, .ind, .ind] ([0, 1, 2, 3, 4, 5]) rfl ?_
 refine s_rn 2 F rfl rfl ?_; clear F a; intro a F
 refine s_fa0 F rfl rfl rfl rfl fa_130_2_V2 rfl ?_; clear F a; intro a F
 refine s_ld F rfl rfl rfl rfl sc_22_V2 rfl (by exact old_cell M id hb (lit rfl)) ?_; clear F a; intro a F
 refine s_len F rfl rfl rfl rfl sl_22_V2 rfl ?_; clear F a; intro a F
 refine s_I F rfl rfl rfl rfl rfl rfl ?_; clear F a; intro a F
 refine t_endM M ?_; (clear M; try clear w); intro w M
 refine wp_block ?_
 have M1 : Sep _ _ _ (blk b7 _ :: _) := M; replace M := M1; clear M1
 replace M := M.blkEq (o' := .cells (cellsF 64 (manyF n [])) 136 (0, 0)) (by rw [manyF_nil]; rfl)
 have M1 : Sep _ _ _ (blk b7 _ :: _) := M; replace M := M1; clear M1
 have M1 : Sep _ _ _ (blk b6 _ :: _) := M.f1; replace M := M1; clear M1
 refine loopX (X := (Int) × (Int)) F [0, 1, 4, 6, 7, 16, 17] rfl (fun ((i, best) : (Int) × (Int)) => (0 ≤ i) ∧ (i ≤ L.length) ∧ (IsAhead n t (L.take i.toNat) rd best)) (fun ((i, best) : (Int) × (Int)) => [(5, .int .i64 best), (18, .int .i64 i)]) (fun ((i, best) : (Int) × (Int)) => [blk b6 (.cells (cellsF 512 (whoF (L.take i.toNat))) 135 (0, 0)), blk b7 (.cells (cellsF 64 (manyF n (L.take i.toNat))) 136 (0, 0))]) (fun ((i, best) : (Int) × (Int)) => L.length - i.toNat) ((0), (-1)) M ⟨(by omega), (by omega), (IsAhead.nil n t rd (by omega))⟩ (F.keep [5, 18, 0, 1, 4, 6, 7, 16, 17] rfl) ?_
 clear F M; clear a; (try clear w)
 rintro ⟨i, best⟩ a w ⟨i0, i1, hb_⟩ F M; try dsimp only at F M
 try simp only [List.cons_append, List.nil_append] at F M
 try dsimp only at i0 i1 hb_
 refine wp_seq ?_
 refine wp_region_l [.ind] ([0]) rfl ?_
 refine s_bin F rfl rfl rfl rfl rfl rfl rfl ?_; clear F a; intro a F
 refine t_endM M ?_; (clear M; try clear w); intro w M
 refine wp_seq ?_
 refine c_if F rfl ?_ ?_
 clear F; intro hc0 F
 try rw [hc0] at F
 replace hc0 := of_decide_eq_true hc0
 refine wp_skip ?_
 refine wp_seq ?_
 refine wp_block ?_
 refine wp_seq ?_
 replace F := F.keep [0, 1, 4, 5, 6, 7, 16, 17, 18] rfl
 refine wp_region_l [.ind, .rd, .wr, .wr] ([0, 1, 2, 3]) rfl ?_
 refine s_ix F rfl rfl rfl rfl sl_22_V2 rfl rfl (by exact M.chg.ro hro) (by omega) (by omega) ?_; clear F a; intro e20 he20 a F
 refine s_lda F rfl rfl rfl rfl ag_32_V2 rfl rfl (rdsX (M.chg.ro hro) (by intro e; rfl) he20) ?_; clear F a; intro a F
 refine s_alc F M rfl rfl rfl rfl zr_32_V2 rfl ?_; (clear F a M; try clear w); intro b9 w M a F
 refine s_stW F M rfl rfl rfl sz_32_V2 rfl rfl rfl rfl rfl ?_; (clear M; try clear w); intro w M
 refine t_endM M ?_; (clear M; try clear w); intro w M
 refine wp_seq ?_
 refine wp_seq ?_
 obtain ⟨m1, m2, m3, m4, m5, m6⟩ := may_spec (W.rng e20 (List.mem_of_getElem? he20))
 have hwl := who_le n (L.take i.toNat) e20.round
 have hwl2 := who_le n (L.take (i + 1).toNat) e20.round
 replace F := F.keep [0, 1, 4, 5, 6, 7, 9, 16, 17, 18] rfl
 refine wp_region_t [.ind, .rd, .ind, .rd, .ind, .ind, .rd, .ind] [] (otOf [0, 1, 2, 3, 4, 5, 6, 7]) mixed (by kernel_rfl) ?_
 refine s_fa0 F rfl rfl rfl rfl fa_32_2_V2 rfl ?_; clear F a; intro a F
 refine s_ld F rfl rfl rfl rfl sc_3_V2 rfl (by exact cell_of_blk M.h0 (lit rfl)) ?_; clear F a; intro a F
 refine s_fa0 F rfl rfl rfl rfl fa_32_1_V2 rfl ?_; clear F a; intro a F
 refine s_ld F rfl rfl rfl rfl sc_3_V2 rfl (by exact cell_of_blk M.h0 (lit rfl)) ?_; clear F a; intro a F
 refine s_ia F rfl rfl rfl rfl ar_135_V2 rfl rfl (by omega) (by omega) ?_; clear F a; intro a F
 refine s_ia F rfl rfl rfl rfl ar_134_V2 rfl rfl (by omega) (by omega) ?_; clear F a; intro a F
 refine s_ld F rfl rfl rfl rfl sc_4_V2 rfl (by exact cell_of_blk M.h1 (gf (whoF_at (by omega) (by omega) (by omega)) (by omega))) ?_; clear F a; intro a F
 refine s_I F rfl rfl rfl rfl rfl rfl ?_; clear F a; intro a F
 refine t_endM M ?_; (clear M; try clear w); intro w M
 have M1 : Sep _ _ _ (blk b7 _ :: _) := M.f2; replace M := M1; clear M1
 have M1 : Sep _ _ _ (blk b6 _ :: _) := M.f2; replace M := M1; clear M1
 refine cutX (X := Unit) (m0 := [_, _]) F [0, 1, 4, 5, 6, 7, 9, 16, 17, 18] rfl M (fun (_ : Unit) => True) (fun (_ : Unit) => []) (fun (_ : Unit) => [blk b6 (.cells (cellsF 512 (whoF (L.take (i + 1).toNat))) 135 (0, 0)), blk b7 (.cells (cellsF 64 (manyF n (L.take (i + 1).toNat))) 136 (0, 0))]) ?_ ?_
 refine c_if F rfl ?_ ?_
 clear F; intro hc1 F
 try rw [hc1] at F
 replace hc1 := nt hc1
 refine wp_seq ?_
 replace F := F.keep [0, 1, 4, 5, 6, 7, 9, 16, 17, 18] rfl
 refine wp_region_t [.ind, .rd, .ind, .rd, .ind, .ind, .wr] [] (otOf [0, 1, 2, 3, 4, 5, 6]) mixed (by kernel_rfl) ?_
 refine s_fa0 F rfl rfl rfl rfl fa_32_2_V2 rfl ?_; clear F a; intro a F
 refine s_ld F rfl rfl rfl rfl sc_3_V2 rfl (by exact cell_of_blk M.h2 (lit rfl)) ?_; clear F a; intro a F
 refine s_fa0 F rfl rfl rfl rfl fa_32_1_V2 rfl ?_; clear F a; intro a F
 refine s_ld F rfl rfl rfl rfl sc_3_V2 rfl (by exact cell_of_blk M.h2 (lit rfl)) ?_; clear F a; intro a F
 refine s_ia F rfl rfl rfl rfl ar_135_V2 rfl rfl (by omega) (by omega) ?_; clear F a; intro a F
 refine s_ia F rfl rfl rfl rfl ar_134_V2 rfl rfl (by omega) (by omega) ?_; clear F a; intro a F
 refine s_sf F M rfl rfl rfl sz_4_V2 rfl rfl rfl (by omega) ?_; (clear M; try clear w); intro w M
 refine t_endM M ?_; (clear M; try clear w); intro w M
 replace F := F.keep [0, 1, 4, 5, 6, 7, 9, 16, 17, 18] rfl
 refine wp_region_l [.ind, .rd, .ind, .rd, .ind, .ind, .wr] ([0, 1, 2, 3, 4, 5, 6]) rfl ?_
 refine s_fa0 F rfl rfl rfl rfl fa_32_2_V2 rfl ?_; clear F a; intro a F
 refine s_ld F rfl rfl rfl rfl sc_3_V2 rfl (by exact cell_of_blk M.h2 (lit rfl)) ?_; clear F a; intro a F
 refine s_ia F rfl rfl rfl rfl ar_136_V2 rfl rfl (by omega) (by omega) ?_; clear F a; intro a F
 refine s_ld F rfl rfl rfl rfl sc_3_V2 rfl (by exact cell_of_blk M.h1 (gf (manyF_at (by omega)) (by omega))) ?_; clear F a; intro a F
 refine s_add F rfl rfl rfl rfl rfl rfl (by unfold In64; omega) ?_; clear F a; intro a F
 refine s_ia F rfl rfl rfl rfl ar_136_V2 rfl rfl (by omega) (by omega) ?_; clear F a; intro a F
 refine s_sf F M.f1 rfl rfl rfl sz_3_V2 rfl rfl rfl (by omega) ?_; (clear M; try clear w); intro w M
 refine t_endM M ?_; (clear M; try clear w); intro w M
 have M1 : Sep _ _ _ (blk b6 _ :: _) := M.f1; replace M := M1; clear M1
 replace M := M.blkEq (o' := .cells (cellsF 512 (whoF (L.take (i + 1).toNat))) 135 (0, 0)) (by rw [take_succ i0 he20, ← whoF_new m4 (by omega) (by omega)])
 have M1 : Sep _ _ _ (blk b7 _ :: _) := M.f1; replace M := M1; clear M1
 replace M := M.blkEq (o' := .cells (cellsF 64 (manyF n (L.take (i + 1).toNat))) 136 (0, 0)) (by rw [take_succ i0 he20, ← manyF_new m4 (by assumption) m2 m3])
 refine joined () trivial (F.keep [0, 1, 4, 5, 6, 7, 9, 16, 17, 18] rfl) ?_
 try dsimp only [List.cons_append, List.nil_append]
 refine M.pick ?_; repeat (first | exact PkG.nil | refine PkG.cons 0 rfl rfl ?_ | refine PkG.cons 1 rfl rfl ?_ | refine PkG.cons 2 rfl rfl ?_)
 clear F; intro hc2 F
 try rw [hc2] at F
 replace hc2 := nf hc2
 refine wp_skip ?_
 have M1 : Sep _ _ _ (blk b6 _ :: _) := M; replace M := M1; clear M1
 replace M := M.blkEq (o' := .cells (cellsF 512 (whoF (L.take (i + 1).toNat))) 135 (0, 0)) (by rw [take_succ i0 he20, ← whoF_old (by assumption)])
 have M1 : Sep _ _ _ (blk b7 _ :: _) := M.f1; replace M := M1; clear M1
 replace M := M.blkEq (o' := .cells (cellsF 64 (manyF n (L.take (i + 1).toNat))) 136 (0, 0)) (by rw [take_succ i0 he20, ← manyF_old (by assumption)])
 refine joined () trivial (F.keep [0, 1, 4, 5, 6, 7, 9, 16, 17, 18] rfl) ?_
 try dsimp only [List.cons_append, List.nil_append]
 refine M.pick ?_; repeat (first | exact PkG.nil | refine PkG.cons 0 rfl rfl ?_ | refine PkG.cons 1 rfl rfl ?_ | refine PkG.cons 2 rfl rfl ?_)
 clear F M; clear a; (try clear w)
 rintro _ a w _ F M; try dsimp only at F M
 try simp only [List.cons_append, List.nil_append] at F M
 refine wp_seq ?_
 refine wp_region_t [.ind, .rd, .ind, .rd, .ind, .ind, .ind, .rd, .ind, .ind, .ind, .rd, .ind, .ind, .ind] [] (otOf [0, 1, 2, 3, 4, 5, 6, 7, 8, 9, 10, 11, 12, 13, 14]) mixed (by kernel_rfl) ?_
 refine s_fa0 F rfl rfl rfl rfl fa_32_2_V2 rfl ?_; clear F a; intro a F
 refine s_ld F rfl rfl rfl rfl sc_3_V2 rfl (by exact cell_of_blk M.h2 (lit rfl)) ?_; clear F a; intro a F
 refine s_ia F rfl rfl rfl rfl ar_136_V2 rfl rfl (by omega) (by omega) ?_; clear F a; intro a F
 refine s_ld F rfl rfl rfl rfl sc_3_V2 rfl (by exact cell_of_blk M.h1 (gf (manyF_at (by omega)) (by omega))) ?_; clear F a; intro a F
 refine s_rn 2 F rfl rfl ?_; clear F a; intro a F
 refine s_fa0 F rfl rfl rfl rfl fa_130_1_V2 rfl ?_; clear F a; intro a F
 refine s_ld F rfl rfl rfl rfl sc_3_V2 rfl (by exact old_cell M id hb (lit rfl)) ?_; clear F a; intro a F
 refine s_rn 2 F rfl rfl ?_; clear F a; intro a F
 refine bsplit F 51 rfl ?_ ?_
 clear F; intro hc3 F
 try rw [hc3] at F
 replace hc3 := of_decide_eq_true hc3
 refine s_fa0 F rfl rfl rfl rfl fa_32_2_V2 rfl ?_; clear F a; intro a F
 refine s_ld F rfl rfl rfl rfl sc_3_V2 rfl (by exact cell_of_blk M.h2 (lit rfl)) ?_; clear F a; intro a F
 refine s_rn 3 F rfl rfl ?_; clear F a; intro a F
 refine t_endM M ?_; (clear M; try clear w); intro w M
 refine c_if F rfl ?_ ?_
 clear F; intro hc4 F
 try rw [hc4] at F
 replace hc4 := of_decide_eq_true hc4
 replace F := F.keep [0, 1, 4, 5, 6, 7, 9, 16, 17, 18] rfl
 refine wp_region_l [.ind, .ind, .rd, .ind, .ind] ([0, 1, 2, 3, 4]) rfl ?_
 refine s_I F rfl rfl rfl rfl rfl rfl ?_; clear F a; intro a F
 refine s_fa0 F rfl rfl rfl rfl fa_32_2_V2 rfl ?_; clear F a; intro a F
 refine s_ld F rfl rfl rfl rfl sc_3_V2 rfl (by exact cell_of_blk M.h2 (lit rfl)) ?_; clear F a; intro a F
 refine s_max F rfl rfl rfl rfl rfl rfl ?_; clear F a; intro a F
 refine s_I F rfl rfl rfl rfl rfl rfl ?_; clear F a; intro a F
 refine t_endM M ?_; (clear M; try clear w); intro w M
 replace F := F.keep [0, 1, 4, 5, 6, 7, 9, 16, 17, 18] rfl
 refine wp_region_l [.ind, .ind] ([0, 1]) rfl ?_
 refine s_add F rfl rfl rfl rfl rfl rfl (by unfold In64; omega) ?_; clear F a; intro a F
 refine s_I F rfl rfl rfl rfl rfl rfl ?_; clear F a; intro a F
 refine t_endM M ?_; (clear M; try clear w); intro w M
 refine again ((i + 1), (_)) (by show _ < _; (try dsimp only); omega) ⟨(by omega), (by assumption), (by have h9 := IsAhead.step (w := e20) hb_ (by omega) (by omega); rw [← take_succ i0 he20] at h9; rw [if_pos ⟨by omega, by omega⟩] at h9; exact h9)⟩ (F.keep [5, 18, 0, 1, 4, 6, 7, 16, 17] rfl) ?_
 try dsimp only [List.cons_append, List.nil_append]
 refine M.pick ?_; repeat (first | exact PkG.nil | refine PkG.cons 0 rfl rfl ?_ | refine PkG.cons 1 rfl rfl ?_)
 clear F; intro hc5 F
 try rw [hc5] at F
 replace hc5 := of_decide_eq_false hc5
 refine wp_skip ?_
 replace F := F.keep [0, 1, 4, 5, 6, 7, 9, 16, 17, 18] rfl
 refine wp_region_l [.ind, .ind] ([0, 1]) rfl ?_
 refine s_add F rfl rfl rfl rfl rfl rfl (by unfold In64; omega) ?_; clear F a; intro a F
 refine s_I F rfl rfl rfl rfl rfl rfl ?_; clear F a; intro a F
 refine t_endM M ?_; (clear M; try clear w); intro w M
 refine again ((i + 1), (_)) (by show _ < _; (try dsimp only); omega) ⟨(by omega), (by assumption), (by have h9 := IsAhead.step (w := e20) hb_ (by omega) (by omega); rw [← take_succ i0 he20] at h9; rw [if_neg (fun h => by omega)] at h9; exact h9)⟩ (F.keep [5, 18, 0, 1, 4, 6, 7, 16, 17] rfl) ?_
 try dsimp only [List.cons_append, List.nil_append]
 refine M.pick ?_; repeat (first | exact PkG.nil | refine PkG.cons 0 rfl rfl ?_ | refine PkG.cons 1 rfl rfl ?_)
 clear F; intro hc6 F
 try rw [hc6] at F
 replace hc6 := of_decide_eq_false hc6
 refine s_rn 5 F rfl rfl ?_; clear F a; intro a F
 refine t_endM M ?_; (clear M; try clear w); intro w M
 refine c_f F rfl ?_
 refine wp_skip ?_
 replace F := F.keep [0, 1, 4, 5, 6, 7, 9, 16, 17, 18] rfl
 refine wp_region_l [.ind, .ind] ([0, 1]) rfl ?_
 refine s_add F rfl rfl rfl rfl rfl rfl (by unfold In64; omega) ?_; clear F a; intro a F
 refine s_I F rfl rfl rfl rfl rfl rfl ?_; clear F a; intro a F
 refine t_endM M ?_; (clear M; try clear w); intro w M
 refine again ((i + 1), (_)) (by show _ < _; (try dsimp only); omega) ⟨(by omega), (by assumption), (by have h9 := IsAhead.step (w := e20) hb_ (by omega) (by omega); rw [← take_succ i0 he20] at h9; rw [if_neg (fun h => by omega)] at h9; exact h9)⟩ (F.keep [5, 18, 0, 1, 4, 6, 7, 16, 17] rfl) ?_
 try dsimp only [List.cons_append, List.nil_append]
 refine M.pick ?_; repeat (first | exact PkG.nil | refine PkG.cons 0 rfl rfl ?_ | refine PkG.cons 1 rfl rfl ?_)
 clear F; intro hc7 F
 try rw [hc7] at F
 replace hc7 := of_decide_eq_false hc7
 refine wp_exit ?_
 refine wp_seq ?_
 replace F := F.keep [0, 1, 4, 5, 6, 7, 16, 17, 18] rfl
 refine wp_region_l [.ind, .ind] ([0, 1]) rfl ?_
 refine s_rn 2 F rfl rfl ?_; clear F a; intro a F
 refine t_endM M ?_; (clear M; try clear w); intro w M
 refine wp_ret ?_
 refine ret1 F rfl rfl ?_
 refine ⟨_, rfl, ?_, M.chg⟩
 rw [take_all (by omega)] at hb_
 rw [hb_.eq]
end Go.Proofs.Ytboibdmflblphaa
