/- V3 of the seat. -/
import Derived.Test.YtboibdmflblphaaV2
namespace Go.Proofs.Ytboibdmflblphaa
open Go Fw
theorem sl_22_V3 : slcB Try.prog 22 = some (32, 5) := by kernel_rfl
theorem fa_32_4_V3 : FA Try.prog 32 4 4 := fun _ _ _ => by kernel_rfl
theorem sc_9_V3 : scalB Try.prog 9 = true := by kernel_rfl
theorem st_9_V3 : strB Try.prog 9 = true := by kernel_rfl
theorem zr_28_V3 : zeroB Try.prog 28 = some (.agg #[.int .i64 0, .int .i64 0, .slice none 0 0]) := by kernel_rfl
theorem cb_34_V3 : callB Try.prog 34 = true := by kernel_rfl
theorem bl_28_0_1_V3 : ∀ (x0 : Int) (x1 : Int), ∀ w : World, (Instr.build 28 #[(0, .int .i64 x0), (1, .int .i64 x1)]).run Try.prog w = .ok (.agg #[.int .i64 x0, .int .i64 x1, .slice none 0 0]) w := by intros; kernel_rfl
theorem sz_28_V3 : sizeB Try.prog 28 = some 3 := by kernel_rfl
theorem ag_28_V3 : aggB Try.prog 28 = some 3 := by kernel_rfl
theorem fa_32_0_V3 : FA Try.prog 32 0 0 := fun _ _ _ => by kernel_rfl
theorem sc_3_V3 : scalB Try.prog 3 = true := by kernel_rfl
theorem fa_32_1_V3 : FA Try.prog 32 1 1 := fun _ _ _ => by kernel_rfl
theorem fa_28_0_V3 : FA Try.prog 28 0 0 := fun _ _ _ => by kernel_rfl
theorem fa_32_2_V3 : FA Try.prog 32 2 2 := fun _ _ _ => by kernel_rfl
theorem fa_28_2_V3 : FA Try.prog 28 2 2 := fun _ _ _ => by kernel_rfl
theorem sc_22_V3 : scalB Try.prog 22 = true := by kernel_rfl
theorem ag_32_V3 : aggB Try.prog 32 = some 5 := by kernel_rfl
theorem tl_22_V3 : SlT Try.prog 22 32 5 48 (.agg #[.int .i64 0, .int .i64 0, .int .i64 0, .int .i64 0, .string { data := #[] }]) := ⟨by kernel_rfl, by kernel_rfl, by kernel_rfl, by kernel_rfl, by decide⟩
theorem bs_22_1_V3 : ∀ (x0_0 : Int) (x0_1 : Int) (x0_2 : Int) (x0_3 : Int) (x0_4 : ByteArray), News Try.prog (Instr.buildSlice 22 1 #[(0, .agg #[.int .i64 x0_0, .int .i64 x0_1, .int .i64 x0_2, .int .i64 x0_3, .string x0_4])]) (.cells #[.int .i64 x0_0, .int .i64 x0_1, .int .i64 x0_2, .int .i64 x0_3, .string x0_4] 32) fun b => .slice (some ⟨b, 0, none⟩) 1 1 := by intros; intro w; kernel_rfl
theorem sz_22_V3 : sizeB Try.prog 22 = some 1 := by kernel_rfl
theorem zr_32_V3 : zeroB Try.prog 32 = some (.agg #[.int .i64 0, .int .i64 0, .int .i64 0, .int .i64 0, .string { data := #[] }]) := by kernel_rfl
theorem sz_32_V3 : sizeB Try.prog 32 = some 5 := by kernel_rfl
theorem fa_28_1_V3 : FA Try.prog 28 1 1 := fun _ _ _ => by kernel_rfl
theorem cb_29_V3 : callB Try.prog 29 = true := by kernel_rfl
open VoteM

theorem Fw.Cl.foots {α : Type} {P : Program} {f : FuncId} {args : Array Value} {w : World} {m m' : List Res} {p : Value → α → Prop} {mm : α → List Res} (h : Cl P f args w (RetS m w p mm)) (e : foots m = foots m') : Cl P f args w (RetS m' w p mm) := by
 unfold RetS at h ⊢
 rw [← e]
 exact h
theorem Fw.Cl.memS {α : Type} {P : Program} {f : FuncId} {args : Array Value} {w : World} {m : List Res} {p : Value → α → Prop} {mm mm' : α → List Res} (h : Cl P f args w (RetS m w p mm)) (hm : ∀ (S : Nat → Prop) (x : α) (w' : World), Sep S w w' (mm x) → Sep S w w' (mm' x)) : Cl P f args w (RetS m w p mm') :=
 ⟨h.out.mono fun _ _ ⟨v, x, e, hp, hc⟩ => ⟨v, x, e, hp, hm _ x _ hc⟩⟩
/-- Votes in memory. -/
def votR (b : Nat) (v : Value) (n t : Int) (L : List Wrd) : Res :=
 ⟨30, b :: ownB v, fun h => Wf n t L ∧ (blk b (vO n t v)).ok h ∧ (wsR v L).ok h, fun h h' hb ⟨W, h1, h2⟩ => ⟨W, (blk b (vO n t v)).loc h h' (fun x hx => hb x (by simp [blk] at hx; simp [hx])) h1, (wsR v L).loc h h' (fun x hx => hb x (List.mem_cons_of_mem _ hx)) h2⟩⟩
section
variable {S : Nat → Prop} {w0 w : World} {r : List Res} {b : Nat} {v : Value} {n t : Int} {L : List Wrd}
theorem Fw.Sep.votShut (M : Sep S w0 w (blk b (vO n t v) :: wsR v L :: r)) (W : Wf n t L) : Sep S w0 w (votR b v n t L :: r) := M.two (p' := votR b v n t L) rfl fun h1 h2 => ⟨W, h1, h2⟩
theorem vot_own {h : Array Obj} (ho : Own h [votR b v n t L]) : Wf n t L ∧ Own h [blk b (vO n t v), wsR v L] := by
 have hk := ho.ok _ List.mem_cons_self
 refine ⟨hk.1, ⟨fun x hx => ?_, ho.lt, ho.nd⟩⟩
 simp only [List.mem_cons, List.not_mem_nil, or_false] at hx
 rcases hx with rfl | rfl
 · exact hk.2.1
 · exact hk.2.2
theorem c25v (q : Wrd) (w0 : World) (ho : Own w0.heap [votR b v n t L]) : Cl Try.prog 25 #[.pointer (some ⟨b, 0, none⟩), wrdV q] w0 (RetS [votR b v n t L] w0 (fun r (_ : Value) => r = .bool (okV n L q)) fun x => [votR b x n t (putV n L q)]) := by
 obtain ⟨W, ho'⟩ := vot_own ho
 exact ((c25 b n t L v q W w0 ho').foots rfl).memS fun _ _ _ M => Fw.Sep.votShut (r := []) M (W.put q)
theorem c22v (hq : quorum n t ≠ 0) (w0 : World) : Cl Try.prog 22 #[.int .i64 n, .int .i64 t] w0 (RetS [] w0 (fun v (b : Nat) => v = .pointer (some ⟨b, 0, none⟩)) fun b => [votR b (.slice none 0 0) n t []]) :=
 (c22 n t hq w0).memS fun _ _ _ M => Fw.Sep.votShut (r := []) M (.nil hq)
theorem c26v (k r : Int) (w0 : World) (hv : (votR b v n t L).ok w0.heap) : Cl Try.prog 26 #[.pointer (some ⟨b, 0, none⟩), .int .i64 k, .int .i64 r] w0 (RetQ w0 fun o => o = .tuple #[.string ((mostV n t L k r).getD empty), .bool (mostV n t L k r).isSome]) := c26 b n t L v k r hv.1 w0 hv.2.1 hv.2.2.rd
theorem c32v (rd : Int) (w0 : World) (hv : (votR b v n t L).ok w0.heap) : Cl Try.prog 32 #[.pointer (some ⟨b, 0, none⟩), .int .i64 rd] w0 (RetQ w0 fun o => o = .int .i64 (aheadV n t L rd)) := c32 b n t L v rd hv.1 w0 hv.2.1 hv.2.2.rd
end

set_option maxRecDepth 100000 in
set_option maxHeartbeats 400000 in
theorem c23 (n t : Int) (hq : quorum n t ≠ 0) (w0 : World) : Cl Try.prog 23 #[.int .i64 n, .int .i64 t] w0 (RetQ w0 fun v => v = .tuple #[refV n t (.slice none 0 0), .bool true]) := by
 have M : Sep (fun _ => False) w0 w0 _ := Sep.nil _ w0
 refine enter (vs := [_, _]) Try.func23 rfl rfl rfl ?_
 intro a F
 refine wp_seq ?_
 refine wp_region_l [.wr, .ind] ([0, 1]) rfl ?_
 refine s_alc F M rfl rfl rfl rfl zr_28_V3 rfl ?_; (clear F a M; try clear w); intro b4 w M a F
 refine s_I F rfl rfl rfl rfl rfl rfl ?_; clear F a; intro a F
 refine t_endM M ?_; (clear M; try clear w); intro w M
 refine wp_seq ?_
 refine wp_seq ?_
 refine wp_region_l [.ind, .ind, .wr, .ind] ([0, 1, 2, 3]) rfl ?_
 refine s_rn 2 F rfl rfl ?_; clear F a; intro a F
 refine s_cq F M rfl rfl rfl rfl rfl (rfl : _ = some [_, _]) cb_34_V3 (fun nd_ => c34 _ _ _) ?_; (clear F a M; try clear w); rintro v w rfl M a F
 refine s_bin F rfl rfl rfl rfl rfl rfl rfl ?_; clear F a; intro a F
 refine t_endM M ?_; (clear M; try clear w); intro w M
 refine c_if F rfl ?_ ?_
 clear F; intro hc0 F
 try rw [hc0] at F
 replace hc0 := of_decide_eq_true hc0
 exact absurd hc0 hq
 clear F; intro hc1 F
 try rw [hc1] at F
 replace hc1 := of_decide_eq_false hc1
 refine wp_skip ?_
 refine wp_seq ?_
 replace F := F.keep [0, 1, 4, 5] rfl
 refine wp_region_l [.ind, .ind, .ind, .wr, .ind] ([0, 1, 2, 3, 4]) rfl ?_
 refine s_rn 2 F rfl rfl ?_; clear F a; intro a F
 refine s_bld F rfl rfl rfl rfl (parts2 F rfl rfl) (bl_28_0_1_V3 _ _) ?_; clear F a; intro a F
 refine s_stW F M rfl rfl rfl sz_28_V3 rfl rfl rfl rfl rfl ?_; (clear M; try clear w); intro w M
 refine s_I F rfl rfl rfl rfl rfl rfl ?_; clear F a; intro a F
 refine t_endM M ?_; (clear M; try clear w); intro w M
 refine wp_ret ?_
 refine rt2 F rfl (by exact rv_a F rfl ag_28_V3 rfl (cells_whole M.h0)) (rv_t F rfl) ?_
 exact ⟨_, rfl, rfl, M.chg⟩
set_option maxRecDepth 100000 in
set_option maxHeartbeats 4000000 in
theorem c24 (n t : Int) (L : List Wrd) (v : Value) (q : Wrd) (hl : L.length ≤ 2048) (w0 : World) (ho : Own w0.heap [wsR v L]) : Cl Try.prog 24 #[refV n t v, wrdV q] w0 (RetS [wsR v L] w0 (fun r (x : Value) => r = .tuple #[refV n t x, .bool (okV n L q)]) fun x => [wsR x (putV n L q)]) := by
 obtain ⟨A, cc, rfl⟩ := (ho.ok _ List.mem_cons_self).form
 have M : Sep (fun b_ => b_ ∈ foots [wsR (.slice A L.length cc) L]) w0 w0 _ := Sep.start ho
 refine enter (vs := [_, _]) Try.func24 rfl rfl rfl ?_
 intro a F
 refine wp_seq ?_
 refine wp_region_l [.wr, .wr, .wr, .ind] ([0, 1, 2, 3]) rfl ?_
 refine s_bxA F M rfl rfl rfl rfl rfl ?_; (clear F a M; try clear w); intro b2 w M a F
 refine s_bxA F M rfl rfl rfl rfl rfl ?_; (clear F a M; try clear w); intro b3 w M a F
 refine s_alc F M rfl rfl rfl rfl zr_28_V3 rfl ?_; (clear F a M; try clear w); intro b4 w M a F
 refine s_I F rfl rfl rfl rfl rfl rfl ?_; clear F a; intro a F
 refine t_endM M ?_; (clear M; try clear w); intro w M
 refine wp_seq ?_
 refine wp_seq ?_
 refine wp_region_l [.ind, .rd, .ind, .ind, .ind, .rd, .ind, .ind, .ind, .ind, .rd, .ind, .ind, .ind, .ind, .rd, .ind, .rd, .ind, .ind, .ind, .ind, .rd, .ind, .ind, .ind, .ind, .rd, .ind, .ind, .ind, .ind, .rd, .ind, .ind, .ind] ([0, 1, 2, 3, 4, 5, 6, 7, 8, 9, 10, 11, 12, 13, 14, 15, 16, 17, 18, 19, 20, 21, 22, 23, 24, 25, 26, 27, 28, 29, 30, 31, 32, 33, 34, 35]) rfl ?_
 refine s_fa0 F rfl rfl rfl rfl fa_32_0_V3 rfl ?_; clear F a; intro a F
 refine s_ld F rfl rfl rfl rfl sc_3_V3 rfl (by exact cell_of_blk M.h1 (lit rfl)) ?_; clear F a; intro a F
 refine s_rn 2 F rfl rfl ?_; clear F a; intro a F
 refine bsplit F 10 rfl ?_ ?_
 clear F; intro hc0 F
 try rw [hc0] at F
 replace hc0 := nd1 hc0
 refine s_fa0 F rfl rfl rfl rfl fa_32_0_V3 rfl ?_; clear F a; intro a F
 refine s_ld F rfl rfl rfl rfl sc_3_V3 rfl (by exact cell_of_blk M.h1 (lit rfl)) ?_; clear F a; intro a F
 refine s_rn 3 F rfl rfl ?_; clear F a; intro a F
 refine bsplit F 15 rfl ?_ ?_
 clear F; intro hc1 F
 try rw [hc1] at F
 replace hc1 := nd1 hc1
 refine s_rn 27 F rfl rfl ?_; clear F a; intro a F
 refine t_endM M ?_; (clear M; try clear w); intro w M
 refine c_t F rfl ?_
 refine wp_seq ?_
 replace F := F.keep [0, 1, 2, 3, 4, 5] rfl
 refine wp_region_l [.rd, .wr, .ind] ([0, 1, 2]) rfl ?_
 refine s_lda F rfl rfl rfl rfl ag_28_V3 rfl rfl (cells_whole M.h2) ?_; clear F a; intro a F
 refine s_stW F M rfl rfl rfl sz_28_V3 rfl rfl rfl rfl rfl ?_; (clear M; try clear w); intro w M
 refine s_I F rfl rfl rfl rfl rfl rfl ?_; clear F a; intro a F
 refine t_endM M ?_; (clear M; try clear w); intro w M
 refine wp_ret ?_
 refine rt2 F rfl (by exact rv_a F rfl ag_28_V3 rfl (cells_whole M.h0)) (rv_t F rfl) ?_
 have hno : okV n L q = false := by clear M F ho; grind [okV, mayV]
 refine ⟨_, .slice A L.length cc, rfl, ?_, ?_⟩
 · (rw [hno]; try rfl)
 rw [put_no hno]
 refine M.pick ?_; repeat (first | exact PkG.nil | refine PkG.cons 3 rfl rfl ?_)
 clear F; intro hc2 F
 try rw [hc2] at F
 replace hc2 := nd0 hc2
 refine s_fa0 F rfl rfl rfl rfl fa_32_1_V3 rfl ?_; clear F a; intro a F
 refine s_ld F rfl rfl rfl rfl sc_3_V3 rfl (by exact cell_of_blk M.h1 (lit rfl)) ?_; clear F a; intro a F
 refine s_rn 3 F rfl rfl ?_; clear F a; intro a F
 refine bsplit F 20 rfl ?_ ?_
 clear F; intro hc3 F
 try rw [hc3] at F
 replace hc3 := of_decide_eq_true hc3
 refine s_rn 22 F rfl rfl ?_; clear F a; intro a F
 refine t_endM M ?_; (clear M; try clear w); intro w M
 refine c_t F rfl ?_
 refine wp_seq ?_
 replace F := F.keep [0, 1, 2, 3, 4, 5] rfl
 refine wp_region_l [.rd, .wr, .ind] ([0, 1, 2]) rfl ?_
 refine s_lda F rfl rfl rfl rfl ag_28_V3 rfl rfl (cells_whole M.h2) ?_; clear F a; intro a F
 refine s_stW F M rfl rfl rfl sz_28_V3 rfl rfl rfl rfl rfl ?_; (clear M; try clear w); intro w M
 refine s_I F rfl rfl rfl rfl rfl rfl ?_; clear F a; intro a F
 refine t_endM M ?_; (clear M; try clear w); intro w M
 refine wp_ret ?_
 refine rt2 F rfl (by exact rv_a F rfl ag_28_V3 rfl (cells_whole M.h0)) (rv_t F rfl) ?_
 have hno : okV n L q = false := by clear M F ho; grind [okV, mayV]
 refine ⟨_, .slice A L.length cc, rfl, ?_, ?_⟩
 · (rw [hno]; try rfl)
 rw [put_no hno]
 refine M.pick ?_; repeat (first | exact PkG.nil | refine PkG.cons 3 rfl rfl ?_)
 clear F; intro hc4 F
 try rw [hc4] at F
 replace hc4 := of_decide_eq_false hc4
 refine s_fa0 F rfl rfl rfl rfl fa_32_1_V3 rfl ?_; clear F a; intro a F
 refine s_ld F rfl rfl rfl rfl sc_3_V3 rfl (by exact cell_of_blk M.h1 (lit rfl)) ?_; clear F a; intro a F
 refine s_fa0 F rfl rfl rfl rfl fa_28_0_V3 rfl ?_; clear F a; intro a F
 refine s_ld F rfl rfl rfl rfl sc_3_V3 rfl (by exact cell_of_blk M.h2 (lit rfl)) ?_; clear F a; intro a F
 refine s_rn 3 F rfl rfl ?_; clear F a; intro a F
 refine bsplit F 27 rfl ?_ ?_
 clear F; intro hc5 F
 try rw [hc5] at F
 replace hc5 := of_decide_eq_true hc5
 refine s_rn 15 F rfl rfl ?_; clear F a; intro a F
 refine t_endM M ?_; (clear M; try clear w); intro w M
 refine c_t F rfl ?_
 refine wp_seq ?_
 replace F := F.keep [0, 1, 2, 3, 4, 5] rfl
 refine wp_region_l [.rd, .wr, .ind] ([0, 1, 2]) rfl ?_
 refine s_lda F rfl rfl rfl rfl ag_28_V3 rfl rfl (cells_whole M.h2) ?_; clear F a; intro a F
 refine s_stW F M rfl rfl rfl sz_28_V3 rfl rfl rfl rfl rfl ?_; (clear M; try clear w); intro w M
 refine s_I F rfl rfl rfl rfl rfl rfl ?_; clear F a; intro a F
 refine t_endM M ?_; (clear M; try clear w); intro w M
 refine wp_ret ?_
 refine rt2 F rfl (by exact rv_a F rfl ag_28_V3 rfl (cells_whole M.h0)) (rv_t F rfl) ?_
 have hno : okV n L q = false := by clear M F ho; grind [okV, mayV]
 refine ⟨_, .slice A L.length cc, rfl, ?_, ?_⟩
 · (rw [hno]; try rfl)
 rw [put_no hno]
 refine M.pick ?_; repeat (first | exact PkG.nil | refine PkG.cons 3 rfl rfl ?_)
 clear F; intro hc6 F
 try rw [hc6] at F
 replace hc6 := of_decide_eq_false hc6
 refine s_fa0 F rfl rfl rfl rfl fa_32_2_V3 rfl ?_; clear F a; intro a F
 refine s_ld F rfl rfl rfl rfl sc_3_V3 rfl (by exact cell_of_blk M.h1 (lit rfl)) ?_; clear F a; intro a F
 refine s_rn 3 F rfl rfl ?_; clear F a; intro a F
 refine bsplit F 32 rfl ?_ ?_
 clear F; intro hc7 F
 try rw [hc7] at F
 replace hc7 := of_decide_eq_true hc7
 refine s_rn 10 F rfl rfl ?_; clear F a; intro a F
 refine t_endM M ?_; (clear M; try clear w); intro w M
 refine c_t F rfl ?_
 refine wp_seq ?_
 replace F := F.keep [0, 1, 2, 3, 4, 5] rfl
 refine wp_region_l [.rd, .wr, .ind] ([0, 1, 2]) rfl ?_
 refine s_lda F rfl rfl rfl rfl ag_28_V3 rfl rfl (cells_whole M.h2) ?_; clear F a; intro a F
 refine s_stW F M rfl rfl rfl sz_28_V3 rfl rfl rfl rfl rfl ?_; (clear M; try clear w); intro w M
 refine s_I F rfl rfl rfl rfl rfl rfl ?_; clear F a; intro a F
 refine t_endM M ?_; (clear M; try clear w); intro w M
 refine wp_ret ?_
 refine rt2 F rfl (by exact rv_a F rfl ag_28_V3 rfl (cells_whole M.h0)) (rv_t F rfl) ?_
 have hno : okV n L q = false := by clear M F ho; grind [okV, mayV]
 refine ⟨_, .slice A L.length cc, rfl, ?_, ?_⟩
 · (rw [hno]; try rfl)
 rw [put_no hno]
 refine M.pick ?_; repeat (first | exact PkG.nil | refine PkG.cons 3 rfl rfl ?_)
 clear F; intro hc8 F
 try rw [hc8] at F
 replace hc8 := of_decide_eq_false hc8
 refine s_fa0 F rfl rfl rfl rfl fa_32_2_V3 rfl ?_; clear F a; intro a F
 refine s_ld F rfl rfl rfl rfl sc_3_V3 rfl (by exact cell_of_blk M.h1 (lit rfl)) ?_; clear F a; intro a F
 refine s_rn 3 F rfl rfl ?_; clear F a; intro a F
 refine bsplit F 37 rfl ?_ ?_
 clear F; intro hc9 F
 try rw [hc9] at F
 replace hc9 := of_decide_eq_true hc9
 refine s_rn 5 F rfl rfl ?_; clear F a; intro a F
 refine t_endM M ?_; (clear M; try clear w); intro w M
 refine c_t F rfl ?_
 refine wp_seq ?_
 replace F := F.keep [0, 1, 2, 3, 4, 5] rfl
 refine wp_region_l [.rd, .wr, .ind] ([0, 1, 2]) rfl ?_
 refine s_lda F rfl rfl rfl rfl ag_28_V3 rfl rfl (cells_whole M.h2) ?_; clear F a; intro a F
 refine s_stW F M rfl rfl rfl sz_28_V3 rfl rfl rfl rfl rfl ?_; (clear M; try clear w); intro w M
 refine s_I F rfl rfl rfl rfl rfl rfl ?_; clear F a; intro a F
 refine t_endM M ?_; (clear M; try clear w); intro w M
 refine wp_ret ?_
 refine rt2 F rfl (by exact rv_a F rfl ag_28_V3 rfl (cells_whole M.h0)) (rv_t F rfl) ?_
 have hno : okV n L q = false := by clear M F ho; grind [okV, mayV]
 refine ⟨_, .slice A L.length cc, rfl, ?_, ?_⟩
 · (rw [hno]; try rfl)
 rw [put_no hno]
 refine M.pick ?_; repeat (first | exact PkG.nil | refine PkG.cons 3 rfl rfl ?_)
 clear F; intro hc10 F
 try rw [hc10] at F
 replace hc10 := of_decide_eq_false hc10
 refine s_fa0 F rfl rfl rfl rfl fa_32_4_V3 rfl ?_; clear F a; intro a F
 refine s_ld F rfl rfl rfl rfl sc_9_V3 rfl (by exact cell_of_blk M.h1 (lit rfl)) ?_; clear F a; intro a F
 refine s_lenS F rfl rfl rfl rfl st_9_V3 rfl ?_; clear F a; intro a F
 refine s_rn 2 F rfl rfl ?_; clear F a; intro a F
 refine t_endM M ?_; (clear M; try clear w); intro w M
 refine c_if F rfl ?_ ?_
 clear F; intro hc11 F
 try rw [hc11] at F
 replace hc11 := of_decide_eq_true hc11
 refine wp_seq ?_
 replace F := F.keep [0, 1, 2, 3, 4, 5] rfl
 refine wp_region_l [.rd, .wr, .ind] ([0, 1, 2]) rfl ?_
 refine s_lda F rfl rfl rfl rfl ag_28_V3 rfl rfl (cells_whole M.h2) ?_; clear F a; intro a F
 refine s_stW F M rfl rfl rfl sz_28_V3 rfl rfl rfl rfl rfl ?_; (clear M; try clear w); intro w M
 refine s_I F rfl rfl rfl rfl rfl rfl ?_; clear F a; intro a F
 refine t_endM M ?_; (clear M; try clear w); intro w M
 refine wp_ret ?_
 refine rt2 F rfl (by exact rv_a F rfl ag_28_V3 rfl (cells_whole M.h0)) (rv_t F rfl) ?_
 have hno : okV n L q = false := by clear M F ho; grind [okV, mayV]
 refine ⟨_, .slice A L.length cc, rfl, ?_, ?_⟩
 · (rw [hno]; try rfl)
 rw [put_no hno]
 refine M.pick ?_; repeat (first | exact PkG.nil | refine PkG.cons 3 rfl rfl ?_)
 clear F; intro hc12 F
 try rw [hc12] at F
 replace hc12 := of_decide_eq_false hc12
 refine wp_skip ?_
 refine wp_seq ?_
 refine wp_seq ?_
 replace F := F.keep [0, 1, 2, 3, 4, 5] rfl
 refine wp_region_l [.ind] ([0]) rfl ?_
 refine s_I F rfl rfl rfl rfl rfl rfl ?_; clear F a; intro a F
 refine t_endM M ?_; (clear M; try clear w); intro w M
 refine wp_block ?_
 refine loopX (X := (Int)) F [0, 1, 2, 3, 4] rfl (fun (i : Int) => (0 ≤ i) ∧ (i ≤ L.length) ∧ (∀ o ∈ L.take i.toNat, ¬ (o.kind = q.kind ∧ o.frm = q.frm ∧ o.round = q.round))) (fun (i : Int) => [(6, .int .i64 i)]) (fun (i : Int) => []) (fun (i : Int) => L.length - i.toNat) (0) M ⟨(by omega), (by omega), (by simp)⟩ (F.keep [6, 0, 1, 2, 3, 4] rfl) ?_
 clear F M; clear a; (try clear w)
 rintro i a w ⟨i0, i1, ha⟩ F M; try dsimp only at F M
 try simp only [List.cons_append, List.nil_append] at F M
 try dsimp only at i0 i1 ha
 refine wp_seq ?_
 refine wp_seq ?_
 refine wp_region_l [.ind, .ind, .rd, .ind, .ind] ([0, 1, 2, 3, 4]) rfl ?_
 refine s_I F rfl rfl rfl rfl rfl rfl ?_; clear F a; intro a F
 refine s_fa0 F rfl rfl rfl rfl fa_28_2_V3 rfl ?_; clear F a; intro a F
 refine s_ld F rfl rfl rfl rfl sc_22_V3 rfl (by exact cell_of_blk M.h2 (lit rfl)) ?_; clear F a; intro a F
 refine s_len F rfl rfl rfl rfl sl_22_V3 rfl ?_; clear F a; intro a F
 refine s_bin F rfl rfl rfl rfl rfl rfl rfl ?_; clear F a; intro a F
 refine t_endM M ?_; (clear M; try clear w); intro w M
 refine c_if F rfl ?_ ?_
 clear F; intro hc13 F
 try rw [hc13] at F
 replace hc13 := of_decide_eq_true hc13
 refine wp_skip ?_
 refine wp_seq ?_
 refine wp_block ?_
 refine wp_seq ?_
 replace F := F.keep [0, 1, 2, 3, 4, 6] rfl
 refine wp_region_t [.ind, .rd, .ind, .ind, .ind, .rd, .ind, .rd, .ind, .ind, .ind, .rd, .ind, .ind, .ind, .rd, .ind, .rd, .ind, .ind, .ind, .ind, .rd, .ind, .ind, .ind, .rd, .ind, .rd, .ind, .ind] [] (otOf [0, 1, 2, 3, 4, 5, 6, 7, 8, 9, 10, 11, 12, 13, 14, 15, 16, 17, 18, 19, 20, 21, 22, 23, 24, 25, 26, 27, 28, 29, 30]) mixed (by kernel_rfl) ?_
 refine s_fa0 F rfl rfl rfl rfl fa_28_2_V3 rfl ?_; clear F a; intro a F
 refine s_ld F rfl rfl rfl rfl sc_22_V3 rfl (by exact cell_of_blk M.h2 (lit rfl)) ?_; clear F a; intro a F
 refine s_I F rfl rfl rfl rfl rfl rfl ?_; clear F a; intro a F
 refine s_ix F rfl rfl rfl rfl sl_22_V3 rfl rfl (by exact SlOk.rd M.h3) (by omega) (by omega) ?_; clear F a; intro e54 he54 a F
 refine s_fa F rfl rfl rfl rfl fa_32_0_V3 rfl ?_; clear F a; intro a F
 refine s_ld F rfl rfl rfl rfl sc_3_V3 rfl (by exact rdX (SlOk.rd M.h3) (by intro e; rfl) he54 rfl) ?_; clear F a; intro a F
 refine s_fa0 F rfl rfl rfl rfl fa_32_0_V3 rfl ?_; clear F a; intro a F
 refine s_ld F rfl rfl rfl rfl sc_3_V3 rfl (by exact cell_of_blk M.h1 (lit rfl)) ?_; clear F a; intro a F
 refine s_rn 2 F rfl rfl ?_; clear F a; intro a F
 refine bsplit F 60 rfl ?_ ?_
 clear F; intro hc14 F
 try rw [hc14] at F
 replace hc14 := of_decide_eq_true hc14
 refine s_fa0 F rfl rfl rfl rfl fa_28_2_V3 rfl ?_; clear F a; intro a F
 refine s_ld F rfl rfl rfl rfl sc_22_V3 rfl (by exact cell_of_blk M.h2 (lit rfl)) ?_; clear F a; intro a F
 refine s_I F rfl rfl rfl rfl rfl rfl ?_; clear F a; intro a F
 refine s_ix F rfl rfl rfl rfl sl_22_V3 rfl rfl (by exact SlOk.rd M.h3) (by omega) (by omega) ?_; clear F a; intro e64 he64 a F
 try (obtain rfl := Option.some.inj (he54.symm.trans he64))
 refine s_fa F rfl rfl rfl rfl fa_32_1_V3 rfl ?_; clear F a; intro a F
 refine s_ld F rfl rfl rfl rfl sc_3_V3 rfl (by exact rdX (SlOk.rd M.h3) (by intro e; rfl) he64 rfl) ?_; clear F a; intro a F
 refine s_fa0 F rfl rfl rfl rfl fa_32_1_V3 rfl ?_; clear F a; intro a F
 refine s_ld F rfl rfl rfl rfl sc_3_V3 rfl (by exact cell_of_blk M.h1 (lit rfl)) ?_; clear F a; intro a F
 refine s_rn 3 F rfl rfl ?_; clear F a; intro a F
 refine bsplit F 71 rfl ?_ ?_
 clear F; intro hc15 F
 try rw [hc15] at F
 replace hc15 := of_decide_eq_true hc15
 refine s_fa0 F rfl rfl rfl rfl fa_28_2_V3 rfl ?_; clear F a; intro a F
 refine s_ld F rfl rfl rfl rfl sc_22_V3 rfl (by exact cell_of_blk M.h2 (lit rfl)) ?_; clear F a; intro a F
 refine s_I F rfl rfl rfl rfl rfl rfl ?_; clear F a; intro a F
 refine s_ix F rfl rfl rfl rfl sl_22_V3 rfl rfl (by exact SlOk.rd M.h3) (by omega) (by omega) ?_; clear F a; intro e75 he75 a F
 try (obtain rfl := Option.some.inj (he54.symm.trans he75))
 try (obtain rfl := Option.some.inj (he64.symm.trans he75))
 refine s_fa F rfl rfl rfl rfl fa_32_2_V3 rfl ?_; clear F a; intro a F
 refine s_ld F rfl rfl rfl rfl sc_3_V3 rfl (by exact rdX (SlOk.rd M.h3) (by intro e; rfl) he75 rfl) ?_; clear F a; intro a F
 refine s_fa0 F rfl rfl rfl rfl fa_32_2_V3 rfl ?_; clear F a; intro a F
 refine s_ld F rfl rfl rfl rfl sc_3_V3 rfl (by exact cell_of_blk M.h1 (lit rfl)) ?_; clear F a; intro a F
 refine s_rn 2 F rfl rfl ?_; clear F a; intro a F
 refine t_endM M ?_; (clear M; try clear w); intro w M
 refine c_if F rfl ?_ ?_
 clear F; intro hc16 F
 try rw [hc16] at F
 replace hc16 := of_decide_eq_true hc16
 refine wp_seq ?_
 replace F := F.keep [0, 1, 2, 3, 4, 6] rfl
 refine wp_region_l [.rd, .wr, .ind] ([0, 1, 2]) rfl ?_
 refine s_lda F rfl rfl rfl rfl ag_28_V3 rfl rfl (cells_whole M.h2) ?_; clear F a; intro a F
 refine s_stW F M rfl rfl rfl sz_28_V3 rfl rfl rfl rfl rfl ?_; (clear M; try clear w); intro w M
 refine s_I F rfl rfl rfl rfl rfl rfl ?_; clear F a; intro a F
 refine t_endM M ?_; (clear M; try clear w); intro w M
 refine wp_ret ?_
 refine rt2 F rfl (by exact rv_a F rfl ag_28_V3 rfl (cells_whole M.h0)) (rv_t F rfl) ?_
 have hno : okV n L q = false := by
   have := dup_of (w := q) he54 (by assumption) (by assumption) (by assumption)
   clear M F ho; grind [okV, mayV]
 refine ⟨_, .slice A L.length cc, rfl, ?_, ?_⟩
 · (rw [hno]; try rfl)
 rw [put_no hno]
 refine M.pick ?_; repeat (first | exact PkG.nil | refine PkG.cons 3 rfl rfl ?_)
 clear F; intro hc17 F
 try rw [hc17] at F
 replace hc17 := of_decide_eq_false hc17
 refine wp_skip ?_
 replace F := F.keep [0, 1, 2, 3, 4, 6] rfl
 refine wp_region_l [.ind, .ind, .ind] ([0, 1, 2]) rfl ?_
 refine s_I F rfl rfl rfl rfl rfl rfl ?_; clear F a; intro a F
 refine s_add F rfl rfl rfl rfl rfl rfl (by unfold In64; omega) ?_; clear F a; intro a F
 refine s_I F rfl rfl rfl rfl rfl rfl ?_; clear F a; intro a F
 refine t_endM M ?_; (clear M; try clear w); intro w M
 refine again (i + 1) (by show _ < _; (try dsimp only); omega) ⟨(by omega), (by assumption), (all_take ha i0 he54 (by clear M F; grind))⟩ (F.keep [6, 0, 1, 2, 3, 4] rfl) ?_
 try dsimp only [List.cons_append, List.nil_append]
 refine M.pick ?_; repeat (first | exact PkG.nil | refine PkG.cons 0 rfl rfl ?_ | refine PkG.cons 1 rfl rfl ?_ | refine PkG.cons 2 rfl rfl ?_ | refine PkG.cons 3 rfl rfl ?_)
 clear F; intro hc18 F
 try rw [hc18] at F
 replace hc18 := of_decide_eq_false hc18
 refine s_rn 10 F rfl rfl ?_; clear F a; intro a F
 refine t_endM M ?_; (clear M; try clear w); intro w M
 refine c_f F rfl ?_
 refine wp_skip ?_
 replace F := F.keep [0, 1, 2, 3, 4, 6] rfl
 refine wp_region_l [.ind, .ind, .ind] ([0, 1, 2]) rfl ?_
 refine s_I F rfl rfl rfl rfl rfl rfl ?_; clear F a; intro a F
 refine s_add F rfl rfl rfl rfl rfl rfl (by unfold In64; omega) ?_; clear F a; intro a F
 refine s_I F rfl rfl rfl rfl rfl rfl ?_; clear F a; intro a F
 refine t_endM M ?_; (clear M; try clear w); intro w M
 refine again (i + 1) (by show _ < _; (try dsimp only); omega) ⟨(by omega), (by assumption), (all_take ha i0 he54 (by clear M F; grind))⟩ (F.keep [6, 0, 1, 2, 3, 4] rfl) ?_
 try dsimp only [List.cons_append, List.nil_append]
 refine M.pick ?_; repeat (first | exact PkG.nil | refine PkG.cons 0 rfl rfl ?_ | refine PkG.cons 1 rfl rfl ?_ | refine PkG.cons 2 rfl rfl ?_ | refine PkG.cons 3 rfl rfl ?_)
 clear F; intro hc19 F
 try rw [hc19] at F
 replace hc19 := of_decide_eq_false hc19
 refine s_rn 21 F rfl rfl ?_; clear F a; intro a F
 refine t_endM M ?_; (clear M; try clear w); intro w M
 refine c_f F rfl ?_
 refine wp_skip ?_
 replace F := F.keep [0, 1, 2, 3, 4, 6] rfl
 refine wp_region_l [.ind, .ind, .ind] ([0, 1, 2]) rfl ?_
 refine s_I F rfl rfl rfl rfl rfl rfl ?_; clear F a; intro a F
 refine s_add F rfl rfl rfl rfl rfl rfl (by unfold In64; omega) ?_; clear F a; intro a F
 refine s_I F rfl rfl rfl rfl rfl rfl ?_; clear F a; intro a F
 refine t_endM M ?_; (clear M; try clear w); intro w M
 refine again (i + 1) (by show _ < _; (try dsimp only); omega) ⟨(by omega), (by assumption), (all_take ha i0 he54 (by clear M F; grind))⟩ (F.keep [6, 0, 1, 2, 3, 4] rfl) ?_
 try dsimp only [List.cons_append, List.nil_append]
 refine M.pick ?_; repeat (first | exact PkG.nil | refine PkG.cons 0 rfl rfl ?_ | refine PkG.cons 1 rfl rfl ?_ | refine PkG.cons 2 rfl rfl ?_ | refine PkG.cons 3 rfl rfl ?_)
 clear F; intro hc20 F
 try rw [hc20] at F
 replace hc20 := of_decide_eq_false hc20
 refine wp_exit ?_
 refine wp_seq ?_
 rw [take_all (by omega)] at ha
 have hok : okV n L q = true := by
   have := dup_no ha
   clear M F ho; grind [okV, mayV]
 replace F := F.keep [0, 1, 2, 3, 4, 6] rfl
 refine wp_region_t [.ind, .rd, .wr, .rd, .wr, .wr, .ind, .wr] [(1, 4), (3, 2)] (.one 0 (.one 1 (.one 3 (.two 2 4 (otOf [4, 5, 6, 7]) (otOf [2, 5, 6, 7]))))) mixed (by kernel_rfl) ?_
 refine s_fa0 F rfl rfl rfl rfl fa_28_2_V3 rfl ?_; clear F a; intro a F
 refine s_ldL F rfl rfl rfl rfl sc_22_V3 rfl (by exact cell_of_blk M.h2 (lit rfl)) ?_; clear F a; intro a F
 refine s_ldaL F rfl rfl rfl rfl ag_32_V3 rfl rfl (cells_whole M.h1) ?_; clear F a; intro a F
 refine t_two ?_ ?_
 replace M := M.nilT encW 32 5
 refine s_apM (L) F M rfl rfl rfl rfl tl_22_V3 rfl rfl (by exact SlOk.rd M.h4) (by intro e; rfl) (by simp; omega) (fun A c w M => (by (refine pend_take (by exact cells_whole M.h2) ?_); (refine pend_skip rfl ?_); exact pend_none)) ?_; (clear F a M; try clear w); intro A85 c85 w M a F
 refine s_bsL F M rfl rfl rfl rfl (parts1 F rfl) (bs_22_1_V3 _ _ _ _ _) (fun b w M => (by (refine pend_skip rfl ?_); (refine pend_take (by exact cell_of_blk M.h4 (lit rfl)) ?_); exact pend_none)) ?_; (clear F a M; try clear w); intro b87 w M a F
 refine s_apE (q) F M.f1 rfl rfl rfl rfl tl_22_V3 rfl rfl (by exact rd_blk M.h0 rfl) rfl (by simp; omega) (fun A c w M => (by (refine pend_skip rfl ?_); (refine pend_skip rfl ?_); exact pend_none)) ?_; (clear F a M; try clear w); intro A88 c88 w M a F
 refine s_fa0 F rfl rfl rfl rfl fa_28_2_V3 rfl ?_; clear F a; intro a F
 refine s_stL F M.f4 rfl rfl rfl sz_22_V3 rfl rfl rfl (by exact Nat.le_of_ble_eq_true rfl) (fun w M => (by (refine pend_skip rfl ?_); (refine pend_skip rfl ?_); exact pend_none)) ?_; (clear M; try clear w); intro w M
 refine t_endM M ?_; (clear M; try clear w); intro w M
 refine wp_seq ?_
 replace F := F.keep [0, 1, 2, 3, 4, 6] rfl
 refine wp_region_l [.rd, .wr, .ind] ([0, 1, 2]) rfl ?_
 refine s_lda F rfl rfl rfl rfl ag_28_V3 rfl rfl (cells_whole M.h0) ?_; clear F a; intro a F
 refine s_stW F M.f3 rfl rfl rfl sz_28_V3 rfl rfl rfl rfl rfl ?_; (clear M; try clear w); intro w M
 refine s_I F rfl rfl rfl rfl rfl rfl ?_; clear F a; intro a F
 refine t_endM M ?_; (clear M; try clear w); intro w M
 refine wp_ret ?_
 refine rt2 F rfl (by exact rv_a F rfl ag_28_V3 rfl (cells_whole M.h0)) (rv_t F rfl) ?_
 refine ⟨_, .slice A88 (([] ++ L) ++ [q]).length c88, rfl, ?_, ?_⟩
 · (rw [hok]; try rfl)
 rw [put_yes hok]
 refine M.pick ?_; repeat (first | exact PkG.nil | refine PkG.cons 2 rfl rfl ?_)
 refine s_bsL F M rfl rfl rfl rfl (parts1 F rfl) (bs_22_1_V3 _ _ _ _ _) (fun b w M => (by (refine pend_skip rfl ?_); (refine pend_take (by exact cell_of_blk M.h3 (lit rfl)) ?_); exact pend_none)) ?_; (clear F a M; try clear w); intro b87 w M a F
 replace M := M.nilT encW 32 5
 refine s_apM (L) F M rfl rfl rfl rfl tl_22_V3 rfl rfl (by exact SlOk.rd M.h5) (by intro e; rfl) (by simp; omega) (fun A c w M => (by (refine pend_take (by exact cells_whole M.h3) ?_); (refine pend_skip rfl ?_); exact pend_none)) ?_; (clear F a M; try clear w); intro A85 c85 w M a F
 refine s_apE (q) F M rfl rfl rfl rfl tl_22_V3 rfl rfl (by exact rd_blk M.h1 rfl) rfl (by simp; omega) (fun A c w M => (by (refine pend_skip rfl ?_); (refine pend_skip rfl ?_); exact pend_none)) ?_; (clear F a M; try clear w); intro A88 c88 w M a F
 refine s_fa0 F rfl rfl rfl rfl fa_28_2_V3 rfl ?_; clear F a; intro a F
 refine s_stL F M.f4 rfl rfl rfl sz_22_V3 rfl rfl rfl (by exact Nat.le_of_ble_eq_true rfl) (fun w M => (by (refine pend_skip rfl ?_); (refine pend_skip rfl ?_); exact pend_none)) ?_; (clear M; try clear w); intro w M
 refine t_endM M ?_; (clear M; try clear w); intro w M
 refine wp_seq ?_
 replace F := F.keep [0, 1, 2, 3, 4, 6] rfl
 refine wp_region_l [.rd, .wr, .ind] ([0, 1, 2]) rfl ?_
 refine s_lda F rfl rfl rfl rfl ag_28_V3 rfl rfl (cells_whole M.h0) ?_; clear F a; intro a F
 refine s_stW F M.f3 rfl rfl rfl sz_28_V3 rfl rfl rfl rfl rfl ?_; (clear M; try clear w); intro w M
 refine s_I F rfl rfl rfl rfl rfl rfl ?_; clear F a; intro a F
 refine t_endM M ?_; (clear M; try clear w); intro w M
 refine wp_ret ?_
 refine rt2 F rfl (by exact rv_a F rfl ag_28_V3 rfl (cells_whole M.h0)) (rv_t F rfl) ?_
 refine ⟨_, .slice A88 (([] ++ L) ++ [q]).length c88, rfl, ?_, ?_⟩
 · (rw [hok]; try rfl)
 rw [put_yes hok]
 refine M.pick ?_; repeat (first | exact PkG.nil | refine PkG.cons 2 rfl rfl ?_)
 clear F; intro hc21 F
 try rw [hc21] at F
 replace hc21 := nd0 hc21
 refine s_rn 5 F rfl rfl ?_; clear F a; intro a F
 refine s_fa0 F rfl rfl rfl rfl fa_32_1_V3 rfl ?_; clear F a; intro a F
 refine s_ld F rfl rfl rfl rfl sc_3_V3 rfl (by exact cell_of_blk M.h1 (lit rfl)) ?_; clear F a; intro a F
 refine s_rn 3 F rfl rfl ?_; clear F a; intro a F
 refine bsplit F 20 rfl ?_ ?_
 clear F; intro hc22 F
 try rw [hc22] at F
 replace hc22 := of_decide_eq_true hc22
 refine s_rn 22 F rfl rfl ?_; clear F a; intro a F
 refine t_endM M ?_; (clear M; try clear w); intro w M
 refine c_t F rfl ?_
 refine wp_seq ?_
 replace F := F.keep [0, 1, 2, 3, 4, 5] rfl
 refine wp_region_l [.rd, .wr, .ind] ([0, 1, 2]) rfl ?_
 refine s_lda F rfl rfl rfl rfl ag_28_V3 rfl rfl (cells_whole M.h2) ?_; clear F a; intro a F
 refine s_stW F M rfl rfl rfl sz_28_V3 rfl rfl rfl rfl rfl ?_; (clear M; try clear w); intro w M
 refine s_I F rfl rfl rfl rfl rfl rfl ?_; clear F a; intro a F
 refine t_endM M ?_; (clear M; try clear w); intro w M
 refine wp_ret ?_
 refine rt2 F rfl (by exact rv_a F rfl ag_28_V3 rfl (cells_whole M.h0)) (rv_t F rfl) ?_
 have hno : okV n L q = false := by clear M F ho; grind [okV, mayV]
 refine ⟨_, .slice A L.length cc, rfl, ?_, ?_⟩
 · (rw [hno]; try rfl)
 rw [put_no hno]
 refine M.pick ?_; repeat (first | exact PkG.nil | refine PkG.cons 3 rfl rfl ?_)
 clear F; intro hc23 F
 try rw [hc23] at F
 replace hc23 := of_decide_eq_false hc23
 refine s_fa0 F rfl rfl rfl rfl fa_32_1_V3 rfl ?_; clear F a; intro a F
 refine s_ld F rfl rfl rfl rfl sc_3_V3 rfl (by exact cell_of_blk M.h1 (lit rfl)) ?_; clear F a; intro a F
 refine s_fa0 F rfl rfl rfl rfl fa_28_0_V3 rfl ?_; clear F a; intro a F
 refine s_ld F rfl rfl rfl rfl sc_3_V3 rfl (by exact cell_of_blk M.h2 (lit rfl)) ?_; clear F a; intro a F
 refine s_rn 3 F rfl rfl ?_; clear F a; intro a F
 refine bsplit F 27 rfl ?_ ?_
 clear F; intro hc24 F
 try rw [hc24] at F
 replace hc24 := of_decide_eq_true hc24
 refine s_rn 15 F rfl rfl ?_; clear F a; intro a F
 refine t_endM M ?_; (clear M; try clear w); intro w M
 refine c_t F rfl ?_
 refine wp_seq ?_
 replace F := F.keep [0, 1, 2, 3, 4, 5] rfl
 refine wp_region_l [.rd, .wr, .ind] ([0, 1, 2]) rfl ?_
 refine s_lda F rfl rfl rfl rfl ag_28_V3 rfl rfl (cells_whole M.h2) ?_; clear F a; intro a F
 refine s_stW F M rfl rfl rfl sz_28_V3 rfl rfl rfl rfl rfl ?_; (clear M; try clear w); intro w M
 refine s_I F rfl rfl rfl rfl rfl rfl ?_; clear F a; intro a F
 refine t_endM M ?_; (clear M; try clear w); intro w M
 refine wp_ret ?_
 refine rt2 F rfl (by exact rv_a F rfl ag_28_V3 rfl (cells_whole M.h0)) (rv_t F rfl) ?_
 have hno : okV n L q = false := by clear M F ho; grind [okV, mayV]
 refine ⟨_, .slice A L.length cc, rfl, ?_, ?_⟩
 · (rw [hno]; try rfl)
 rw [put_no hno]
 refine M.pick ?_; repeat (first | exact PkG.nil | refine PkG.cons 3 rfl rfl ?_)
 clear F; intro hc25 F
 try rw [hc25] at F
 replace hc25 := of_decide_eq_false hc25
 refine s_fa0 F rfl rfl rfl rfl fa_32_2_V3 rfl ?_; clear F a; intro a F
 refine s_ld F rfl rfl rfl rfl sc_3_V3 rfl (by exact cell_of_blk M.h1 (lit rfl)) ?_; clear F a; intro a F
 refine s_rn 3 F rfl rfl ?_; clear F a; intro a F
 refine bsplit F 32 rfl ?_ ?_
 clear F; intro hc26 F
 try rw [hc26] at F
 replace hc26 := of_decide_eq_true hc26
 refine s_rn 10 F rfl rfl ?_; clear F a; intro a F
 refine t_endM M ?_; (clear M; try clear w); intro w M
 refine c_t F rfl ?_
 refine wp_seq ?_
 replace F := F.keep [0, 1, 2, 3, 4, 5] rfl
 refine wp_region_l [.rd, .wr, .ind] ([0, 1, 2]) rfl ?_
 refine s_lda F rfl rfl rfl rfl ag_28_V3 rfl rfl (cells_whole M.h2) ?_; clear F a; intro a F
 refine s_stW F M rfl rfl rfl sz_28_V3 rfl rfl rfl rfl rfl ?_; (clear M; try clear w); intro w M
 refine s_I F rfl rfl rfl rfl rfl rfl ?_; clear F a; intro a F
 refine t_endM M ?_; (clear M; try clear w); intro w M
 refine wp_ret ?_
 refine rt2 F rfl (by exact rv_a F rfl ag_28_V3 rfl (cells_whole M.h0)) (rv_t F rfl) ?_
 have hno : okV n L q = false := by clear M F ho; grind [okV, mayV]
 refine ⟨_, .slice A L.length cc, rfl, ?_, ?_⟩
 · (rw [hno]; try rfl)
 rw [put_no hno]
 refine M.pick ?_; repeat (first | exact PkG.nil | refine PkG.cons 3 rfl rfl ?_)
 clear F; intro hc27 F
 try rw [hc27] at F
 replace hc27 := of_decide_eq_false hc27
 refine s_fa0 F rfl rfl rfl rfl fa_32_2_V3 rfl ?_; clear F a; intro a F
 refine s_ld F rfl rfl rfl rfl sc_3_V3 rfl (by exact cell_of_blk M.h1 (lit rfl)) ?_; clear F a; intro a F
 refine s_rn 3 F rfl rfl ?_; clear F a; intro a F
 refine bsplit F 37 rfl ?_ ?_
 clear F; intro hc28 F
 try rw [hc28] at F
 replace hc28 := of_decide_eq_true hc28
 refine s_rn 5 F rfl rfl ?_; clear F a; intro a F
 refine t_endM M ?_; (clear M; try clear w); intro w M
 refine c_t F rfl ?_
 refine wp_seq ?_
 replace F := F.keep [0, 1, 2, 3, 4, 5] rfl
 refine wp_region_l [.rd, .wr, .ind] ([0, 1, 2]) rfl ?_
 refine s_lda F rfl rfl rfl rfl ag_28_V3 rfl rfl (cells_whole M.h2) ?_; clear F a; intro a F
 refine s_stW F M rfl rfl rfl sz_28_V3 rfl rfl rfl rfl rfl ?_; (clear M; try clear w); intro w M
 refine s_I F rfl rfl rfl rfl rfl rfl ?_; clear F a; intro a F
 refine t_endM M ?_; (clear M; try clear w); intro w M
 refine wp_ret ?_
 refine rt2 F rfl (by exact rv_a F rfl ag_28_V3 rfl (cells_whole M.h0)) (rv_t F rfl) ?_
 have hno : okV n L q = false := by clear M F ho; grind [okV, mayV]
 refine ⟨_, .slice A L.length cc, rfl, ?_, ?_⟩
 · (rw [hno]; try rfl)
 rw [put_no hno]
 refine M.pick ?_; repeat (first | exact PkG.nil | refine PkG.cons 3 rfl rfl ?_)
 clear F; intro hc29 F
 try rw [hc29] at F
 replace hc29 := of_decide_eq_false hc29
 refine s_fa0 F rfl rfl rfl rfl fa_32_4_V3 rfl ?_; clear F a; intro a F
 refine s_ld F rfl rfl rfl rfl sc_9_V3 rfl (by exact cell_of_blk M.h1 (lit rfl)) ?_; clear F a; intro a F
 refine s_lenS F rfl rfl rfl rfl st_9_V3 rfl ?_; clear F a; intro a F
 refine s_rn 2 F rfl rfl ?_; clear F a; intro a F
 refine t_endM M ?_; (clear M; try clear w); intro w M
 refine c_if F rfl ?_ ?_
 clear F; intro hc30 F
 try rw [hc30] at F
 replace hc30 := of_decide_eq_true hc30
 refine wp_seq ?_
 replace F := F.keep [0, 1, 2, 3, 4, 5] rfl
 refine wp_region_l [.rd, .wr, .ind] ([0, 1, 2]) rfl ?_
 refine s_lda F rfl rfl rfl rfl ag_28_V3 rfl rfl (cells_whole M.h2) ?_; clear F a; intro a F
 refine s_stW F M rfl rfl rfl sz_28_V3 rfl rfl rfl rfl rfl ?_; (clear M; try clear w); intro w M
 refine s_I F rfl rfl rfl rfl rfl rfl ?_; clear F a; intro a F
 refine t_endM M ?_; (clear M; try clear w); intro w M
 refine wp_ret ?_
 refine rt2 F rfl (by exact rv_a F rfl ag_28_V3 rfl (cells_whole M.h0)) (rv_t F rfl) ?_
 have hno : okV n L q = false := by clear M F ho; grind [okV, mayV]
 refine ⟨_, .slice A L.length cc, rfl, ?_, ?_⟩
 · (rw [hno]; try rfl)
 rw [put_no hno]
 refine M.pick ?_; repeat (first | exact PkG.nil | refine PkG.cons 3 rfl rfl ?_)
 clear F; intro hc31 F
 try rw [hc31] at F
 replace hc31 := of_decide_eq_false hc31
 refine wp_skip ?_
 refine wp_seq ?_
 refine wp_seq ?_
 replace F := F.keep [0, 1, 2, 3, 4, 5] rfl
 refine wp_region_l [.ind] ([0]) rfl ?_
 refine s_I F rfl rfl rfl rfl rfl rfl ?_; clear F a; intro a F
 refine t_endM M ?_; (clear M; try clear w); intro w M
 refine wp_block ?_
 refine loopX (X := (Int)) F [0, 1, 2, 3, 4] rfl (fun (i : Int) => (0 ≤ i) ∧ (i ≤ L.length) ∧ (∀ o ∈ L.take i.toNat, ¬ (o.kind = q.kind ∧ o.frm = q.frm ∧ o.round = q.round))) (fun (i : Int) => [(6, .int .i64 i)]) (fun (i : Int) => []) (fun (i : Int) => L.length - i.toNat) (0) M ⟨(by omega), (by omega), (by simp)⟩ (F.keep [6, 0, 1, 2, 3, 4] rfl) ?_
 clear F M; clear a; (try clear w)
 rintro i a w ⟨i0, i1, ha⟩ F M; try dsimp only at F M
 try simp only [List.cons_append, List.nil_append] at F M
 try dsimp only at i0 i1 ha
 refine wp_seq ?_
 refine wp_seq ?_
 refine wp_region_l [.ind, .ind, .rd, .ind, .ind] ([0, 1, 2, 3, 4]) rfl ?_
 refine s_I F rfl rfl rfl rfl rfl rfl ?_; clear F a; intro a F
 refine s_fa0 F rfl rfl rfl rfl fa_28_2_V3 rfl ?_; clear F a; intro a F
 refine s_ld F rfl rfl rfl rfl sc_22_V3 rfl (by exact cell_of_blk M.h2 (lit rfl)) ?_; clear F a; intro a F
 refine s_len F rfl rfl rfl rfl sl_22_V3 rfl ?_; clear F a; intro a F
 refine s_bin F rfl rfl rfl rfl rfl rfl rfl ?_; clear F a; intro a F
 refine t_endM M ?_; (clear M; try clear w); intro w M
 refine c_if F rfl ?_ ?_
 clear F; intro hc32 F
 try rw [hc32] at F
 replace hc32 := of_decide_eq_true hc32
 refine wp_skip ?_
 refine wp_seq ?_
 refine wp_block ?_
 refine wp_seq ?_
 replace F := F.keep [0, 1, 2, 3, 4, 6] rfl
 refine wp_region_t [.ind, .rd, .ind, .ind, .ind, .rd, .ind, .rd, .ind, .ind, .ind, .rd, .ind, .ind, .ind, .rd, .ind, .rd, .ind, .ind, .ind, .ind, .rd, .ind, .ind, .ind, .rd, .ind, .rd, .ind, .ind] [] (otOf [0, 1, 2, 3, 4, 5, 6, 7, 8, 9, 10, 11, 12, 13, 14, 15, 16, 17, 18, 19, 20, 21, 22, 23, 24, 25, 26, 27, 28, 29, 30]) mixed (by kernel_rfl) ?_
 refine s_fa0 F rfl rfl rfl rfl fa_28_2_V3 rfl ?_; clear F a; intro a F
 refine s_ld F rfl rfl rfl rfl sc_22_V3 rfl (by exact cell_of_blk M.h2 (lit rfl)) ?_; clear F a; intro a F
 refine s_I F rfl rfl rfl rfl rfl rfl ?_; clear F a; intro a F
 refine s_ix F rfl rfl rfl rfl sl_22_V3 rfl rfl (by exact SlOk.rd M.h3) (by omega) (by omega) ?_; clear F a; intro e54 he54 a F
 refine s_fa F rfl rfl rfl rfl fa_32_0_V3 rfl ?_; clear F a; intro a F
 refine s_ld F rfl rfl rfl rfl sc_3_V3 rfl (by exact rdX (SlOk.rd M.h3) (by intro e; rfl) he54 rfl) ?_; clear F a; intro a F
 refine s_fa0 F rfl rfl rfl rfl fa_32_0_V3 rfl ?_; clear F a; intro a F
 refine s_ld F rfl rfl rfl rfl sc_3_V3 rfl (by exact cell_of_blk M.h1 (lit rfl)) ?_; clear F a; intro a F
 refine s_rn 2 F rfl rfl ?_; clear F a; intro a F
 refine bsplit F 60 rfl ?_ ?_
 clear F; intro hc33 F
 try rw [hc33] at F
 replace hc33 := of_decide_eq_true hc33
 refine s_fa0 F rfl rfl rfl rfl fa_28_2_V3 rfl ?_; clear F a; intro a F
 refine s_ld F rfl rfl rfl rfl sc_22_V3 rfl (by exact cell_of_blk M.h2 (lit rfl)) ?_; clear F a; intro a F
 refine s_I F rfl rfl rfl rfl rfl rfl ?_; clear F a; intro a F
 refine s_ix F rfl rfl rfl rfl sl_22_V3 rfl rfl (by exact SlOk.rd M.h3) (by omega) (by omega) ?_; clear F a; intro e64 he64 a F
 try (obtain rfl := Option.some.inj (he54.symm.trans he64))
 refine s_fa F rfl rfl rfl rfl fa_32_1_V3 rfl ?_; clear F a; intro a F
 refine s_ld F rfl rfl rfl rfl sc_3_V3 rfl (by exact rdX (SlOk.rd M.h3) (by intro e; rfl) he64 rfl) ?_; clear F a; intro a F
 refine s_fa0 F rfl rfl rfl rfl fa_32_1_V3 rfl ?_; clear F a; intro a F
 refine s_ld F rfl rfl rfl rfl sc_3_V3 rfl (by exact cell_of_blk M.h1 (lit rfl)) ?_; clear F a; intro a F
 refine s_rn 3 F rfl rfl ?_; clear F a; intro a F
 refine bsplit F 71 rfl ?_ ?_
 clear F; intro hc34 F
 try rw [hc34] at F
 replace hc34 := of_decide_eq_true hc34
 refine s_fa0 F rfl rfl rfl rfl fa_28_2_V3 rfl ?_; clear F a; intro a F
 refine s_ld F rfl rfl rfl rfl sc_22_V3 rfl (by exact cell_of_blk M.h2 (lit rfl)) ?_; clear F a; intro a F
 refine s_I F rfl rfl rfl rfl rfl rfl ?_; clear F a; intro a F
 refine s_ix F rfl rfl rfl rfl sl_22_V3 rfl rfl (by exact SlOk.rd M.h3) (by omega) (by omega) ?_; clear F a; intro e75 he75 a F
 try (obtain rfl := Option.some.inj (he54.symm.trans he75))
 try (obtain rfl := Option.some.inj (he64.symm.trans he75))
 refine s_fa F rfl rfl rfl rfl fa_32_2_V3 rfl ?_; clear F a; intro a F
 refine s_ld F rfl rfl rfl rfl sc_3_V3 rfl (by exact rdX (SlOk.rd M.h3) (by intro e; rfl) he75 rfl) ?_; clear F a; intro a F
 refine s_fa0 F rfl rfl rfl rfl fa_32_2_V3 rfl ?_; clear F a; intro a F
 refine s_ld F rfl rfl rfl rfl sc_3_V3 rfl (by exact cell_of_blk M.h1 (lit rfl)) ?_; clear F a; intro a F
 refine s_rn 2 F rfl rfl ?_; clear F a; intro a F
 refine t_endM M ?_; (clear M; try clear w); intro w M
 refine c_if F rfl ?_ ?_
 clear F; intro hc35 F
 try rw [hc35] at F
 replace hc35 := of_decide_eq_true hc35
 refine wp_seq ?_
 replace F := F.keep [0, 1, 2, 3, 4, 6] rfl
 refine wp_region_l [.rd, .wr, .ind] ([0, 1, 2]) rfl ?_
 refine s_lda F rfl rfl rfl rfl ag_28_V3 rfl rfl (cells_whole M.h2) ?_; clear F a; intro a F
 refine s_stW F M rfl rfl rfl sz_28_V3 rfl rfl rfl rfl rfl ?_; (clear M; try clear w); intro w M
 refine s_I F rfl rfl rfl rfl rfl rfl ?_; clear F a; intro a F
 refine t_endM M ?_; (clear M; try clear w); intro w M
 refine wp_ret ?_
 refine rt2 F rfl (by exact rv_a F rfl ag_28_V3 rfl (cells_whole M.h0)) (rv_t F rfl) ?_
 have hno : okV n L q = false := by
   have := dup_of (w := q) he54 (by assumption) (by assumption) (by assumption)
   clear M F ho; grind [okV, mayV]
 refine ⟨_, .slice A L.length cc, rfl, ?_, ?_⟩
 · (rw [hno]; try rfl)
 rw [put_no hno]
 refine M.pick ?_; repeat (first | exact PkG.nil | refine PkG.cons 3 rfl rfl ?_)
 clear F; intro hc36 F
 try rw [hc36] at F
 replace hc36 := of_decide_eq_false hc36
 refine wp_skip ?_
 replace F := F.keep [0, 1, 2, 3, 4, 6] rfl
 refine wp_region_l [.ind, .ind, .ind] ([0, 1, 2]) rfl ?_
 refine s_I F rfl rfl rfl rfl rfl rfl ?_; clear F a; intro a F
 refine s_add F rfl rfl rfl rfl rfl rfl (by unfold In64; omega) ?_; clear F a; intro a F
 refine s_I F rfl rfl rfl rfl rfl rfl ?_; clear F a; intro a F
 refine t_endM M ?_; (clear M; try clear w); intro w M
 refine again (i + 1) (by show _ < _; (try dsimp only); omega) ⟨(by omega), (by assumption), (all_take ha i0 he54 (by clear M F; grind))⟩ (F.keep [6, 0, 1, 2, 3, 4] rfl) ?_
 try dsimp only [List.cons_append, List.nil_append]
 refine M.pick ?_; repeat (first | exact PkG.nil | refine PkG.cons 0 rfl rfl ?_ | refine PkG.cons 1 rfl rfl ?_ | refine PkG.cons 2 rfl rfl ?_ | refine PkG.cons 3 rfl rfl ?_)
 clear F; intro hc37 F
 try rw [hc37] at F
 replace hc37 := of_decide_eq_false hc37
 refine s_rn 10 F rfl rfl ?_; clear F a; intro a F
 refine t_endM M ?_; (clear M; try clear w); intro w M
 refine c_f F rfl ?_
 refine wp_skip ?_
 replace F := F.keep [0, 1, 2, 3, 4, 6] rfl
 refine wp_region_l [.ind, .ind, .ind] ([0, 1, 2]) rfl ?_
 refine s_I F rfl rfl rfl rfl rfl rfl ?_; clear F a; intro a F
 refine s_add F rfl rfl rfl rfl rfl rfl (by unfold In64; omega) ?_; clear F a; intro a F
 refine s_I F rfl rfl rfl rfl rfl rfl ?_; clear F a; intro a F
 refine t_endM M ?_; (clear M; try clear w); intro w M
 refine again (i + 1) (by show _ < _; (try dsimp only); omega) ⟨(by omega), (by assumption), (all_take ha i0 he54 (by clear M F; grind))⟩ (F.keep [6, 0, 1, 2, 3, 4] rfl) ?_
 try dsimp only [List.cons_append, List.nil_append]
 refine M.pick ?_; repeat (first | exact PkG.nil | refine PkG.cons 0 rfl rfl ?_ | refine PkG.cons 1 rfl rfl ?_ | refine PkG.cons 2 rfl rfl ?_ | refine PkG.cons 3 rfl rfl ?_)
 clear F; intro hc38 F
 try rw [hc38] at F
 replace hc38 := of_decide_eq_false hc38
 refine s_rn 21 F rfl rfl ?_; clear F a; intro a F
 refine t_endM M ?_; (clear M; try clear w); intro w M
 refine c_f F rfl ?_
 refine wp_skip ?_
 replace F := F.keep [0, 1, 2, 3, 4, 6] rfl
 refine wp_region_l [.ind, .ind, .ind] ([0, 1, 2]) rfl ?_
 refine s_I F rfl rfl rfl rfl rfl rfl ?_; clear F a; intro a F
 refine s_add F rfl rfl rfl rfl rfl rfl (by unfold In64; omega) ?_; clear F a; intro a F
 refine s_I F rfl rfl rfl rfl rfl rfl ?_; clear F a; intro a F
 refine t_endM M ?_; (clear M; try clear w); intro w M
 refine again (i + 1) (by show _ < _; (try dsimp only); omega) ⟨(by omega), (by assumption), (all_take ha i0 he54 (by clear M F; grind))⟩ (F.keep [6, 0, 1, 2, 3, 4] rfl) ?_
 try dsimp only [List.cons_append, List.nil_append]
 refine M.pick ?_; repeat (first | exact PkG.nil | refine PkG.cons 0 rfl rfl ?_ | refine PkG.cons 1 rfl rfl ?_ | refine PkG.cons 2 rfl rfl ?_ | refine PkG.cons 3 rfl rfl ?_)
 clear F; intro hc39 F
 try rw [hc39] at F
 replace hc39 := of_decide_eq_false hc39
 refine wp_exit ?_
 refine wp_seq ?_
 rw [take_all (by omega)] at ha
 have hok : okV n L q = true := by
   have := dup_no ha
   clear M F ho; grind [okV, mayV]
 replace F := F.keep [0, 1, 2, 3, 4, 6] rfl
 refine wp_region_t [.ind, .rd, .wr, .rd, .wr, .wr, .ind, .wr] [(1, 4), (3, 2)] (.one 0 (.one 1 (.one 3 (.two 2 4 (otOf [4, 5, 6, 7]) (otOf [2, 5, 6, 7]))))) mixed (by kernel_rfl) ?_
 refine s_fa0 F rfl rfl rfl rfl fa_28_2_V3 rfl ?_; clear F a; intro a F
 refine s_ldL F rfl rfl rfl rfl sc_22_V3 rfl (by exact cell_of_blk M.h2 (lit rfl)) ?_; clear F a; intro a F
 refine s_ldaL F rfl rfl rfl rfl ag_32_V3 rfl rfl (cells_whole M.h1) ?_; clear F a; intro a F
 refine t_two ?_ ?_
 replace M := M.nilT encW 32 5
 refine s_apM (L) F M rfl rfl rfl rfl tl_22_V3 rfl rfl (by exact SlOk.rd M.h4) (by intro e; rfl) (by simp; omega) (fun A c w M => (by (refine pend_take (by exact cells_whole M.h2) ?_); (refine pend_skip rfl ?_); exact pend_none)) ?_; (clear F a M; try clear w); intro A85 c85 w M a F
 refine s_bsL F M rfl rfl rfl rfl (parts1 F rfl) (bs_22_1_V3 _ _ _ _ _) (fun b w M => (by (refine pend_skip rfl ?_); (refine pend_take (by exact cell_of_blk M.h4 (lit rfl)) ?_); exact pend_none)) ?_; (clear F a M; try clear w); intro b87 w M a F
 refine s_apE (q) F M.f1 rfl rfl rfl rfl tl_22_V3 rfl rfl (by exact rd_blk M.h0 rfl) rfl (by simp; omega) (fun A c w M => (by (refine pend_skip rfl ?_); (refine pend_skip rfl ?_); exact pend_none)) ?_; (clear F a M; try clear w); intro A88 c88 w M a F
 refine s_fa0 F rfl rfl rfl rfl fa_28_2_V3 rfl ?_; clear F a; intro a F
 refine s_stL F M.f4 rfl rfl rfl sz_22_V3 rfl rfl rfl (by exact Nat.le_of_ble_eq_true rfl) (fun w M => (by (refine pend_skip rfl ?_); (refine pend_skip rfl ?_); exact pend_none)) ?_; (clear M; try clear w); intro w M
 refine t_endM M ?_; (clear M; try clear w); intro w M
 refine wp_seq ?_
 replace F := F.keep [0, 1, 2, 3, 4, 6] rfl
 refine wp_region_l [.rd, .wr, .ind] ([0, 1, 2]) rfl ?_
 refine s_lda F rfl rfl rfl rfl ag_28_V3 rfl rfl (cells_whole M.h0) ?_; clear F a; intro a F
 refine s_stW F M.f3 rfl rfl rfl sz_28_V3 rfl rfl rfl rfl rfl ?_; (clear M; try clear w); intro w M
 refine s_I F rfl rfl rfl rfl rfl rfl ?_; clear F a; intro a F
 refine t_endM M ?_; (clear M; try clear w); intro w M
 refine wp_ret ?_
 refine rt2 F rfl (by exact rv_a F rfl ag_28_V3 rfl (cells_whole M.h0)) (rv_t F rfl) ?_
 refine ⟨_, .slice A88 (([] ++ L) ++ [q]).length c88, rfl, ?_, ?_⟩
 · (rw [hok]; try rfl)
 rw [put_yes hok]
 refine M.pick ?_; repeat (first | exact PkG.nil | refine PkG.cons 2 rfl rfl ?_)
 refine s_bsL F M rfl rfl rfl rfl (parts1 F rfl) (bs_22_1_V3 _ _ _ _ _) (fun b w M => (by (refine pend_skip rfl ?_); (refine pend_take (by exact cell_of_blk M.h3 (lit rfl)) ?_); exact pend_none)) ?_; (clear F a M; try clear w); intro b87 w M a F
 replace M := M.nilT encW 32 5
 refine s_apM (L) F M rfl rfl rfl rfl tl_22_V3 rfl rfl (by exact SlOk.rd M.h5) (by intro e; rfl) (by simp; omega) (fun A c w M => (by (refine pend_take (by exact cells_whole M.h3) ?_); (refine pend_skip rfl ?_); exact pend_none)) ?_; (clear F a M; try clear w); intro A85 c85 w M a F
 refine s_apE (q) F M rfl rfl rfl rfl tl_22_V3 rfl rfl (by exact rd_blk M.h1 rfl) rfl (by simp; omega) (fun A c w M => (by (refine pend_skip rfl ?_); (refine pend_skip rfl ?_); exact pend_none)) ?_; (clear F a M; try clear w); intro A88 c88 w M a F
 refine s_fa0 F rfl rfl rfl rfl fa_28_2_V3 rfl ?_; clear F a; intro a F
 refine s_stL F M.f4 rfl rfl rfl sz_22_V3 rfl rfl rfl (by exact Nat.le_of_ble_eq_true rfl) (fun w M => (by (refine pend_skip rfl ?_); (refine pend_skip rfl ?_); exact pend_none)) ?_; (clear M; try clear w); intro w M
 refine t_endM M ?_; (clear M; try clear w); intro w M
 refine wp_seq ?_
 replace F := F.keep [0, 1, 2, 3, 4, 6] rfl
 refine wp_region_l [.rd, .wr, .ind] ([0, 1, 2]) rfl ?_
 refine s_lda F rfl rfl rfl rfl ag_28_V3 rfl rfl (cells_whole M.h0) ?_; clear F a; intro a F
 refine s_stW F M.f3 rfl rfl rfl sz_28_V3 rfl rfl rfl rfl rfl ?_; (clear M; try clear w); intro w M
 refine s_I F rfl rfl rfl rfl rfl rfl ?_; clear F a; intro a F
 refine t_endM M ?_; (clear M; try clear w); intro w M
 refine wp_ret ?_
 refine rt2 F rfl (by exact rv_a F rfl ag_28_V3 rfl (cells_whole M.h0)) (rv_t F rfl) ?_
 refine ⟨_, .slice A88 (([] ++ L) ++ [q]).length c88, rfl, ?_, ?_⟩
 · (rw [hok]; try rfl)
 rw [put_yes hok]
 refine M.pick ?_; repeat (first | exact PkG.nil | refine PkG.cons 2 rfl rfl ?_)
set_option maxRecDepth 100000 in
set_option maxHeartbeats 400000 in
theorem c29 (n t : Int) (L : List Wrd) (v : Value) (k r : Int) (s : ByteArray) (hl : L.length ≤ 2048) (w0 : World) (hr : RdSl w0.heap v L.length 5 (L.flatMap encW)) : Cl Try.prog 29 #[refV n t v, .int .i64 k, .int .i64 r, .string s] w0 (RetQ w0 fun o => o = .int .i64 (cntV L k r s : Nat)) := by
 have M : Sep (fun _ => False) w0 w0 _ := Sep.nil _ w0
 have hro := ro_of hr
 obtain ⟨A, cc, rfl, hcc⟩ := hr.form
 refine enter (vs := [_, _, _, _]) Try.func29 rfl rfl rfl ?_
 intro a F
 refine wp_seq ?_
 refine wp_region_l [.wr, .ind] ([0, 1]) rfl ?_
 refine s_bxA F M rfl rfl rfl rfl rfl ?_; (clear F a M; try clear w); intro b4 w M a F
 refine s_I F rfl rfl rfl rfl rfl rfl ?_; clear F a; intro a F
 refine t_endM M ?_; (clear M; try clear w); intro w M
 refine wp_seq ?_
 refine wp_region_l [.ind] ([0]) rfl ?_
 refine s_I F rfl rfl rfl rfl rfl rfl ?_; clear F a; intro a F
 refine t_endM M ?_; (clear M; try clear w); intro w M
 refine wp_seq ?_
 refine wp_seq ?_
 refine wp_region_l [.ind] ([0]) rfl ?_
 refine s_I F rfl rfl rfl rfl rfl rfl ?_; clear F a; intro a F
 refine t_endM M ?_; (clear M; try clear w); intro w M
 refine wp_block ?_
 refine loopX (X := (Int) × (Int)) F [0, 1, 2, 3, 4, 8] rfl (fun ((i, p) : (Int) × (Int)) => (0 ≤ i) ∧ (i ≤ L.length) ∧ (p = (cntV (L.take i.toNat) k r s : Nat)) ∧ (0 ≤ p ∧ p ≤ i)) (fun ((i, p) : (Int) × (Int)) => [(9, .int .i64 p), (10, .int .i64 i)]) (fun ((i, p) : (Int) × (Int)) => []) (fun ((i, p) : (Int) × (Int)) => L.length - i.toNat) ((0), (0)) M ⟨(by omega), (by omega), rfl, (by omega)⟩ (F.keep [9, 10, 0, 1, 2, 3, 4, 8] rfl) ?_
 clear F M; clear a; (try clear w)
 rintro ⟨i, p⟩ a w ⟨i0, i1, hp, hp2⟩ F M; try dsimp only at F M
 try simp only [List.cons_append, List.nil_append] at F M
 try dsimp only at i0 i1 hp hp2
 refine wp_seq ?_
 refine wp_seq ?_
 refine wp_region_l [.ind, .ind, .rd, .ind, .ind] ([0, 1, 2, 3, 4]) rfl ?_
 refine s_I F rfl rfl rfl rfl rfl rfl ?_; clear F a; intro a F
 refine s_fa0 F rfl rfl rfl rfl fa_28_2_V3 rfl ?_; clear F a; intro a F
 refine s_ld F rfl rfl rfl rfl sc_22_V3 rfl (by exact cell_of_blk M.h0 (lit rfl)) ?_; clear F a; intro a F
 refine s_len F rfl rfl rfl rfl sl_22_V3 rfl ?_; clear F a; intro a F
 refine s_bin F rfl rfl rfl rfl rfl rfl rfl ?_; clear F a; intro a F
 refine t_endM M ?_; (clear M; try clear w); intro w M
 refine c_if F rfl ?_ ?_
 clear F; intro hc0 F
 try rw [hc0] at F
 replace hc0 := of_decide_eq_true hc0
 refine wp_skip ?_
 refine wp_seq ?_
 refine wp_block ?_
 refine wp_seq ?_
 replace F := F.keep [0, 1, 2, 3, 4, 8, 9, 10] rfl
 refine wp_region_l [.ind, .rd, .ind, .ind, .ind, .rd, .ind, .ind, .ind, .ind, .rd, .ind, .ind, .ind, .rd, .ind, .ind, .ind, .ind, .ind, .rd, .ind, .ind, .ind, .rd, .ind, .ind, .ind] ([0, 1, 2, 3, 4, 5, 6, 7, 8, 9, 10, 11, 12, 13, 14, 15, 16, 17, 18, 19, 20, 21, 22, 23, 24, 25, 26, 27]) rfl ?_
 refine s_fa0 F rfl rfl rfl rfl fa_28_2_V3 rfl ?_; clear F a; intro a F
 refine s_ld F rfl rfl rfl rfl sc_22_V3 rfl (by exact cell_of_blk M.h0 (lit rfl)) ?_; clear F a; intro a F
 refine s_I F rfl rfl rfl rfl rfl rfl ?_; clear F a; intro a F
 refine s_ix F rfl rfl rfl rfl sl_22_V3 rfl rfl (by exact M.chg.ro hro) (by omega) (by omega) ?_; clear F a; intro e21 he21 a F
 refine s_fa F rfl rfl rfl rfl fa_32_0_V3 rfl ?_; clear F a; intro a F
 refine s_ld F rfl rfl rfl rfl sc_3_V3 rfl (by exact rdX (M.chg.ro hro) (by intro e; rfl) he21 rfl) ?_; clear F a; intro a F
 refine s_rn 3 F rfl rfl ?_; clear F a; intro a F
 refine bsplit F 26 rfl ?_ ?_
 clear F; intro hc1 F
 try rw [hc1] at F
 replace hc1 := of_decide_eq_true hc1
 refine s_fa0 F rfl rfl rfl rfl fa_28_2_V3 rfl ?_; clear F a; intro a F
 refine s_ld F rfl rfl rfl rfl sc_22_V3 rfl (by exact cell_of_blk M.h0 (lit rfl)) ?_; clear F a; intro a F
 refine s_I F rfl rfl rfl rfl rfl rfl ?_; clear F a; intro a F
 refine s_ix F rfl rfl rfl rfl sl_22_V3 rfl rfl (by exact M.chg.ro hro) (by omega) (by omega) ?_; clear F a; intro e30 he30 a F
 try (obtain rfl := Option.some.inj (he21.symm.trans he30))
 refine s_fa F rfl rfl rfl rfl fa_32_2_V3 rfl ?_; clear F a; intro a F
 refine s_ld F rfl rfl rfl rfl sc_3_V3 rfl (by exact rdX (M.chg.ro hro) (by intro e; rfl) he30 rfl) ?_; clear F a; intro a F
 refine s_rn 4 F rfl rfl ?_; clear F a; intro a F
 refine bsplit F 36 rfl ?_ ?_
 clear F; intro hc2 F
 try rw [hc2] at F
 replace hc2 := of_decide_eq_true hc2
 refine s_fa0 F rfl rfl rfl rfl fa_28_2_V3 rfl ?_; clear F a; intro a F
 refine s_ld F rfl rfl rfl rfl sc_22_V3 rfl (by exact cell_of_blk M.h0 (lit rfl)) ?_; clear F a; intro a F
 refine s_I F rfl rfl rfl rfl rfl rfl ?_; clear F a; intro a F
 refine s_ix F rfl rfl rfl rfl sl_22_V3 rfl rfl (by exact M.chg.ro hro) (by omega) (by omega) ?_; clear F a; intro e40 he40 a F
 try (obtain rfl := Option.some.inj (he21.symm.trans he40))
 try (obtain rfl := Option.some.inj (he30.symm.trans he40))
 refine s_fa F rfl rfl rfl rfl fa_32_4_V3 rfl ?_; clear F a; intro a F
 refine s_ld F rfl rfl rfl rfl sc_9_V3 rfl (by exact rdX (M.chg.ro hro) (by intro e; rfl) he40 rfl) ?_; clear F a; intro a F
 refine s_rn 3 F rfl rfl ?_; clear F a; intro a F
 refine t_endM M ?_; (clear M; try clear w); intro w M
 refine c_if F rfl ?_ ?_
 clear F; intro hc3 F
 try rw [hc3] at F
 replace hc3 := of_decide_eq_true hc3
 replace F := F.keep [0, 1, 2, 3, 4, 8, 9, 10] rfl
 refine wp_region_l [.ind, .ind, .ind] ([0, 1, 2]) rfl ?_
 refine s_I F rfl rfl rfl rfl rfl rfl ?_; clear F a; intro a F
 refine s_add F rfl rfl rfl rfl rfl rfl (by unfold In64; omega) ?_; clear F a; intro a F
 refine s_I F rfl rfl rfl rfl rfl rfl ?_; clear F a; intro a F
 refine t_endM M ?_; (clear M; try clear w); intro w M
 replace F := F.keep [0, 1, 2, 3, 4, 8, 9, 10] rfl
 refine wp_region_l [.ind, .ind, .ind] ([0, 1, 2]) rfl ?_
 refine s_I F rfl rfl rfl rfl rfl rfl ?_; clear F a; intro a F
 refine s_add F rfl rfl rfl rfl rfl rfl (by unfold In64; omega) ?_; clear F a; intro a F
 refine s_I F rfl rfl rfl rfl rfl rfl ?_; clear F a; intro a F
 refine t_endM M ?_; (clear M; try clear w); intro w M
 refine again ((i + 1), (_)) (by show _ < _; (try dsimp only); omega) ⟨(by omega), (by assumption), (by rw [take_succ i0 he21, cnt_snoc]; clear F M; grind), (by omega)⟩ (F.keep [9, 10, 0, 1, 2, 3, 4, 8] rfl) ?_
 try dsimp only [List.cons_append, List.nil_append]
 refine M.pick ?_; repeat (first | exact PkG.nil | refine PkG.cons 0 rfl rfl ?_)
 clear F; intro hc4 F
 try rw [hc4] at F
 replace hc4 := of_decide_eq_false hc4
 refine wp_skip ?_
 replace F := F.keep [0, 1, 2, 3, 4, 8, 9, 10] rfl
 refine wp_region_l [.ind, .ind, .ind] ([0, 1, 2]) rfl ?_
 refine s_I F rfl rfl rfl rfl rfl rfl ?_; clear F a; intro a F
 refine s_add F rfl rfl rfl rfl rfl rfl (by unfold In64; omega) ?_; clear F a; intro a F
 refine s_I F rfl rfl rfl rfl rfl rfl ?_; clear F a; intro a F
 refine t_endM M ?_; (clear M; try clear w); intro w M
 refine again ((i + 1), (_)) (by show _ < _; (try dsimp only); omega) ⟨(by omega), (by assumption), (by rw [take_succ i0 he21, cnt_snoc]; clear F M; grind), (by omega)⟩ (F.keep [9, 10, 0, 1, 2, 3, 4, 8] rfl) ?_
 try dsimp only [List.cons_append, List.nil_append]
 refine M.pick ?_; repeat (first | exact PkG.nil | refine PkG.cons 0 rfl rfl ?_)
 clear F; intro hc5 F
 try rw [hc5] at F
 replace hc5 := of_decide_eq_false hc5
 refine s_rn 9 F rfl rfl ?_; clear F a; intro a F
 refine t_endM M ?_; (clear M; try clear w); intro w M
 refine c_f F rfl ?_
 refine wp_skip ?_
 replace F := F.keep [0, 1, 2, 3, 4, 8, 9, 10] rfl
 refine wp_region_l [.ind, .ind, .ind] ([0, 1, 2]) rfl ?_
 refine s_I F rfl rfl rfl rfl rfl rfl ?_; clear F a; intro a F
 refine s_add F rfl rfl rfl rfl rfl rfl (by unfold In64; omega) ?_; clear F a; intro a F
 refine s_I F rfl rfl rfl rfl rfl rfl ?_; clear F a; intro a F
 refine t_endM M ?_; (clear M; try clear w); intro w M
 refine again ((i + 1), (_)) (by show _ < _; (try dsimp only); omega) ⟨(by omega), (by assumption), (by rw [take_succ i0 he21, cnt_snoc]; clear F M; grind), (by omega)⟩ (F.keep [9, 10, 0, 1, 2, 3, 4, 8] rfl) ?_
 try dsimp only [List.cons_append, List.nil_append]
 refine M.pick ?_; repeat (first | exact PkG.nil | refine PkG.cons 0 rfl rfl ?_)
 clear F; intro hc6 F
 try rw [hc6] at F
 replace hc6 := of_decide_eq_false hc6
 refine s_rn 19 F rfl rfl ?_; clear F a; intro a F
 refine t_endM M ?_; (clear M; try clear w); intro w M
 refine c_f F rfl ?_
 refine wp_skip ?_
 replace F := F.keep [0, 1, 2, 3, 4, 8, 9, 10] rfl
 refine wp_region_l [.ind, .ind, .ind] ([0, 1, 2]) rfl ?_
 refine s_I F rfl rfl rfl rfl rfl rfl ?_; clear F a; intro a F
 refine s_add F rfl rfl rfl rfl rfl rfl (by unfold In64; omega) ?_; clear F a; intro a F
 refine s_I F rfl rfl rfl rfl rfl rfl ?_; clear F a; intro a F
 refine t_endM M ?_; (clear M; try clear w); intro w M
 refine again ((i + 1), (_)) (by show _ < _; (try dsimp only); omega) ⟨(by omega), (by assumption), (by rw [take_succ i0 he21, cnt_snoc]; clear F M; grind), (by omega)⟩ (F.keep [9, 10, 0, 1, 2, 3, 4, 8] rfl) ?_
 try dsimp only [List.cons_append, List.nil_append]
 refine M.pick ?_; repeat (first | exact PkG.nil | refine PkG.cons 0 rfl rfl ?_)
 clear F; intro hc7 F
 try rw [hc7] at F
 replace hc7 := of_decide_eq_false hc7
 refine wp_exit ?_
 refine wp_seq ?_
 replace F := F.keep [0, 1, 2, 3, 4, 8, 9, 10] rfl
 refine wp_region_l [.ind, .ind] ([0, 1]) rfl ?_
 refine s_rn 2 F rfl rfl ?_; clear F a; intro a F
 refine t_endM M ?_; (clear M; try clear w); intro w M
 refine wp_ret ?_
 refine ret1 F rfl rfl ?_
 refine ⟨_, rfl, ?_, M.chg⟩
 rw [take_all (by omega)] at hp
 rw [hp]
set_option maxRecDepth 100000 in
set_option maxHeartbeats 400000 in
theorem c27 (n t : Int) (L : List Wrd) (v : Value) (k r : Int) (hl : L.length ≤ 2048) (w0 : World) (hr : RdSl w0.heap v L.length 5 (L.flatMap encW)) : Cl Try.prog 27 #[refV n t v, .int .i64 k, .int .i64 r] w0 (RetQ w0 fun o => o = .tuple #[.string ((mostV n t L k r).getD empty), .bool (mostV n t L k r).isSome]) := by
 have M : Sep (fun _ => False) w0 w0 _ := Sep.nil _ w0
 have hro := ro_of hr
 obtain ⟨A, cc, rfl, hcc⟩ := hr.form
 refine enter (vs := [_, _, _]) Try.func27 rfl rfl rfl ?_
 intro a F
 refine wp_seq ?_
 refine wp_region_l [.wr, .ind, .ind] ([0, 1, 2]) rfl ?_
 refine s_bxA F M rfl rfl rfl rfl rfl ?_; (clear F a M; try clear w); intro b3 w M a F
 refine s_rn 2 F rfl rfl ?_; clear F a; intro a F
 refine t_endM M ?_; (clear M; try clear w); intro w M
 refine wp_seq ?_
 refine wp_seq ?_
 refine wp_region_l [.ind] ([0]) rfl ?_
 refine s_I F rfl rfl rfl rfl rfl rfl ?_; clear F a; intro a F
 refine t_endM M ?_; (clear M; try clear w); intro w M
 refine wp_block ?_
 refine loopX (X := (Int)) F [0, 1, 2, 3] rfl (fun (i : Int) => (0 ≤ i) ∧ (i ≤ L.length) ∧ (∀ w ∈ L.take i.toNat, hasQ n t L k r w = false)) (fun (i : Int) => [(8, .int .i64 i)]) (fun (i : Int) => []) (fun (i : Int) => L.length - i.toNat) (0) M ⟨(by omega), (by omega), (by simp)⟩ (F.keep [8, 0, 1, 2, 3] rfl) ?_
 clear F M; clear a; (try clear w)
 rintro i a w ⟨i0, i1, hm⟩ F M; try dsimp only at F M
 try simp only [List.cons_append, List.nil_append] at F M
 try dsimp only at i0 i1 hm
 refine wp_seq ?_
 refine wp_seq ?_
 refine wp_region_l [.ind, .ind, .rd, .ind, .ind] ([0, 1, 2, 3, 4]) rfl ?_
 refine s_I F rfl rfl rfl rfl rfl rfl ?_; clear F a; intro a F
 refine s_fa0 F rfl rfl rfl rfl fa_28_2_V3 rfl ?_; clear F a; intro a F
 refine s_ld F rfl rfl rfl rfl sc_22_V3 rfl (by exact cell_of_blk M.h0 (lit rfl)) ?_; clear F a; intro a F
 refine s_len F rfl rfl rfl rfl sl_22_V3 rfl ?_; clear F a; intro a F
 refine s_bin F rfl rfl rfl rfl rfl rfl rfl ?_; clear F a; intro a F
 refine t_endM M ?_; (clear M; try clear w); intro w M
 refine c_if F rfl ?_ ?_
 clear F; intro hc0 F
 try rw [hc0] at F
 replace hc0 := of_decide_eq_true hc0
 refine wp_skip ?_
 refine wp_seq ?_
 refine wp_block ?_
 refine wp_seq ?_
 replace F := F.keep [0, 1, 2, 3, 8] rfl
 refine wp_region_l [.ind, .rd, .ind, .ind, .rd, .wr, .wr] ([0, 1, 2, 3, 4, 5, 6]) rfl ?_
 refine s_fa0 F rfl rfl rfl rfl fa_28_2_V3 rfl ?_; clear F a; intro a F
 refine s_ld F rfl rfl rfl rfl sc_22_V3 rfl (by exact cell_of_blk M.h0 (lit rfl)) ?_; clear F a; intro a F
 refine s_I F rfl rfl rfl rfl rfl rfl ?_; clear F a; intro a F
 refine s_ix F rfl rfl rfl rfl sl_22_V3 rfl rfl (by exact M.chg.ro hro) (by omega) (by omega) ?_; clear F a; intro e20 he20 a F
 refine s_lda F rfl rfl rfl rfl ag_32_V3 rfl rfl (rdsX (M.chg.ro hro) (by intro e; rfl) he20) ?_; clear F a; intro a F
 refine s_alc F M rfl rfl rfl rfl zr_32_V3 rfl ?_; (clear F a M; try clear w); intro b9 w M a F
 refine s_stW F M rfl rfl rfl sz_32_V3 rfl rfl rfl rfl rfl ?_; (clear M; try clear w); intro w M
 refine t_endM M ?_; (clear M; try clear w); intro w M
 refine wp_seq ?_
 replace F := F.keep [0, 1, 2, 3, 8, 9] rfl
 refine wp_region_t [.ind, .rd, .ind, .ind, .ind, .ind, .rd, .ind, .ind, .ind, .ind, .rd, .ind, .ind, .ind, .rd, .wr, .ind, .rd, .ind, .rd, .wr, .ind, .ind] [(18, 16), (20, 16)] (otOf [0, 1, 2, 3, 4, 5, 6, 7, 8, 9, 10, 11, 12, 13, 14, 15, 17, 18, 19, 20, 16, 21, 22, 23]) mixed (by kernel_rfl) ?_
 refine s_fa0 F rfl rfl rfl rfl fa_32_0_V3 rfl ?_; clear F a; intro a F
 refine s_ldL F rfl rfl rfl rfl sc_3_V3 rfl (by exact cell_of_blk M.h0 (lit rfl)) ?_; clear F a; intro a F
 refine s_rn 3 F rfl rfl ?_; clear F a; intro a F
 refine bsplit F 26 rfl ?_ ?_
 clear F; intro hc1 F
 try rw [hc1] at F
 replace hc1 := of_decide_eq_true hc1
 refine s_fa0 F rfl rfl rfl rfl fa_32_2_V3 rfl ?_; clear F a; intro a F
 refine s_ldL F rfl rfl rfl rfl sc_3_V3 rfl (by exact cell_of_blk M.h0 (lit rfl)) ?_; clear F a; intro a F
 refine s_rn 4 F rfl rfl ?_; clear F a; intro a F
 refine bsplit F 32 rfl ?_ ?_
 clear F; intro hc2 F
 try rw [hc2] at F
 replace hc2 := of_decide_eq_true hc2
 refine s_ldaL F rfl rfl rfl rfl ag_28_V3 rfl rfl (cells_whole M.h1) ?_; clear F a; intro a F
 refine s_rn 2 F rfl rfl ?_; clear F a; intro a F
 refine s_fa0 F rfl rfl rfl rfl fa_32_4_V3 rfl ?_; clear F a; intro a F
 refine s_ldL F rfl rfl rfl rfl sc_9_V3 rfl (by exact cell_of_blk M.h0 (lit rfl)) ?_; clear F a; intro a F
 refine s_fa0 F rfl rfl rfl rfl fa_28_0_V3 rfl ?_; clear F a; intro a F
 refine s_ldL F rfl rfl rfl rfl sc_3_V3 rfl (by exact cell_of_blk M.h1 (lit rfl)) ?_; clear F a; intro a F
 refine s_fa0 F rfl rfl rfl rfl fa_28_1_V3 rfl ?_; clear F a; intro a F
 refine s_ldL F rfl rfl rfl rfl sc_3_V3 rfl (by exact cell_of_blk M.h1 (lit rfl)) ?_; clear F a; intro a F
 refine s_cqL F M rfl rfl rfl rfl rfl (rfl : _ = some [_, _, _, _]) cb_29_V3 (fun nd_ => c29 n t L _ k r e20.value hl _ (M.chg.ro hro)) (fun _ w _ M => (by (refine pend_take (by exact cell_of_blk M.h1 (lit rfl)) ?_); (refine pend_take (by exact cell_of_blk M.h1 (lit rfl)) ?_); (refine pend_skip rfl ?_); (refine pend_skip rfl ?_); (refine pend_skip rfl ?_); (refine pend_skip rfl ?_); exact pend_none)) ?_; (clear F a M; try clear w); rintro v w rfl M a F
 refine s_cqL F M rfl rfl rfl rfl rfl (rfl : _ = some [_, _]) cb_34_V3 (fun nd_ => c34 _ _ _) (fun _ w _ M => (by (refine pend_skip rfl ?_); (refine pend_skip rfl ?_); (refine pend_skip rfl ?_); (refine pend_skip rfl ?_); (refine pend_skip rfl ?_); (refine pend_skip rfl ?_); exact pend_none)) ?_; (clear F a M; try clear w); rintro v w rfl M a F
 refine s_rn 2 F rfl rfl ?_; clear F a; intro a F
 refine t_endM M ?_; (clear M; try clear w); intro w M
 refine c_if F rfl ?_ ?_
 clear F; intro hc3 F
 try rw [hc3] at F
 replace hc3 := of_decide_eq_true hc3
 refine wp_seq ?_
 replace F := F.keep [0, 1, 2, 3, 8, 9] rfl
 refine wp_region_l [.ind, .rd, .ind, .ind] ([0, 1, 2, 3]) rfl ?_
 refine s_fa0 F rfl rfl rfl rfl fa_32_4_V3 rfl ?_; clear F a; intro a F
 refine s_ld F rfl rfl rfl rfl sc_9_V3 rfl (by exact cell_of_blk M.h0 (lit rfl)) ?_; clear F a; intro a F
 refine s_rn 2 F rfl rfl ?_; clear F a; intro a F
 refine t_endM M ?_; (clear M; try clear w); intro w M
 refine wp_ret ?_
 refine ret2 F rfl rfl rfl ?_
 refine ⟨_, rfl, ?_, M.chg⟩
 rw [most_hit hm he20 (by clear M F; grind [hasQ])]
 rfl
 clear F; intro hc4 F
 try rw [hc4] at F
 replace hc4 := of_decide_eq_false hc4
 refine wp_skip ?_
 replace F := F.keep [0, 1, 2, 3, 8, 9] rfl
 refine wp_region_l [.ind, .ind, .ind] ([0, 1, 2]) rfl ?_
 refine s_I F rfl rfl rfl rfl rfl rfl ?_; clear F a; intro a F
 refine s_add F rfl rfl rfl rfl rfl rfl (by unfold In64; omega) ?_; clear F a; intro a F
 refine s_I F rfl rfl rfl rfl rfl rfl ?_; clear F a; intro a F
 refine t_endM M ?_; (clear M; try clear w); intro w M
 refine again (i + 1) (by show _ < _; (try dsimp only); omega) ⟨(by omega), (by assumption), (all_take hm i0 he20 (by clear M F; grind [hasQ]))⟩ (F.keep [8, 0, 1, 2, 3] rfl) ?_
 try dsimp only [List.cons_append, List.nil_append]
 refine M.pick ?_; repeat (first | exact PkG.nil | refine PkG.cons 1 rfl rfl ?_)
 clear F; intro hc5 F
 try rw [hc5] at F
 replace hc5 := of_decide_eq_false hc5
 refine s_rn 13 F rfl rfl ?_; clear F a; intro a F
 refine t_endM M ?_; (clear M; try clear w); intro w M
 refine c_f F rfl ?_
 refine wp_skip ?_
 replace F := F.keep [0, 1, 2, 3, 8, 9] rfl
 refine wp_region_l [.ind, .ind, .ind] ([0, 1, 2]) rfl ?_
 refine s_I F rfl rfl rfl rfl rfl rfl ?_; clear F a; intro a F
 refine s_add F rfl rfl rfl rfl rfl rfl (by unfold In64; omega) ?_; clear F a; intro a F
 refine s_I F rfl rfl rfl rfl rfl rfl ?_; clear F a; intro a F
 refine t_endM M ?_; (clear M; try clear w); intro w M
 refine again (i + 1) (by show _ < _; (try dsimp only); omega) ⟨(by omega), (by assumption), (all_take hm i0 he20 (by clear M F; grind [hasQ]))⟩ (F.keep [8, 0, 1, 2, 3] rfl) ?_
 try dsimp only [List.cons_append, List.nil_append]
 refine M.pick ?_; repeat (first | exact PkG.nil | refine PkG.cons 1 rfl rfl ?_)
 clear F; intro hc6 F
 try rw [hc6] at F
 replace hc6 := of_decide_eq_false hc6
 refine s_rn 19 F rfl rfl ?_; clear F a; intro a F
 refine t_endM M ?_; (clear M; try clear w); intro w M
 refine c_f F rfl ?_
 refine wp_skip ?_
 replace F := F.keep [0, 1, 2, 3, 8, 9] rfl
 refine wp_region_l [.ind, .ind, .ind] ([0, 1, 2]) rfl ?_
 refine s_I F rfl rfl rfl rfl rfl rfl ?_; clear F a; intro a F
 refine s_add F rfl rfl rfl rfl rfl rfl (by unfold In64; omega) ?_; clear F a; intro a F
 refine s_I F rfl rfl rfl rfl rfl rfl ?_; clear F a; intro a F
 refine t_endM M ?_; (clear M; try clear w); intro w M
 refine again (i + 1) (by show _ < _; (try dsimp only); omega) ⟨(by omega), (by assumption), (all_take hm i0 he20 (by clear M F; grind [hasQ]))⟩ (F.keep [8, 0, 1, 2, 3] rfl) ?_
 try dsimp only [List.cons_append, List.nil_append]
 refine M.pick ?_; repeat (first | exact PkG.nil | refine PkG.cons 1 rfl rfl ?_)
 clear F; intro hc7 F
 try rw [hc7] at F
 replace hc7 := of_decide_eq_false hc7
 refine wp_exit ?_
 refine wp_seq ?_
 replace F := F.keep [0, 1, 2, 3, 8] rfl
 refine wp_region_l [.ind, .ind] ([0, 1]) rfl ?_
 refine s_rn 2 F rfl rfl ?_; clear F a; intro a F
 refine t_endM M ?_; (clear M; try clear w); intro w M
 refine wp_ret ?_
 refine ret2 F rfl rfl rfl ?_
 refine ⟨_, rfl, ?_, M.chg⟩
 rw [take_all (by omega)] at hm
 rw [most_miss hm]
 rfl
set_option maxRecDepth 100000 in
set_option maxHeartbeats 1000000 in
theorem c33 (n t : Int) (L : List Wrd) (v : Value) (rd : Int) (hn : n ≤ 7) (hl : L.length ≤ 2048) (w0 : World) (hr : RdSl w0.heap v L.length 5 (L.flatMap encW)) : Cl Try.prog 33 #[refV n t v, .int .i64 rd] w0 (RetQ w0 fun o => o = .int .i64 (aheadV n t L rd)) := by
 have M : Sep (fun _ => False) w0 w0 _ := Sep.nil _ w0
 have hro := ro_of hr
 obtain ⟨A, cc, rfl, hcc⟩ := hr.form
 refine enter (vs := [_, _]) Try.func33 rfl rfl rfl ?_
 intro a F
 refine wp_seq ?_
 refine wp_region_l [.wr, .ind] ([0, 1]) rfl ?_
 refine s_bxA F M rfl rfl rfl rfl rfl ?_; (clear F a M; try clear w); intro b2 w M a F
 refine s_I F rfl rfl rfl rfl rfl rfl ?_; clear F a; intro a F
 refine t_endM M ?_; (clear M; try clear w); intro w M
 refine wp_seq ?_
 refine wp_seq ?_
 refine wp_region_l [.ind] ([0]) rfl ?_
 refine s_I F rfl rfl rfl rfl rfl rfl ?_; clear F a; intro a F
 refine t_endM M ?_; (clear M; try clear w); intro w M
 refine wp_block ?_
 refine loopX (X := (Int)) F [0, 1, 2] rfl (fun (r : Int) => (-1 ≤ r) ∧ (r ≤ 63) ∧ (aheadV n t L rd = aheadF n t L rd (r + 1).toNat)) (fun (r : Int) => [(5, .int .i64 r)]) (fun (r : Int) => []) (fun (r : Int) => (r + 1).toNat) (63) M ⟨(by omega), (by omega), rfl⟩ (F.keep [5, 0, 1, 2] rfl) ?_
 clear F M; clear a; (try clear w)
 rintro r a w ⟨r0, r1, hr_⟩ F M; try dsimp only at F M
 try simp only [List.cons_append, List.nil_append] at F M
 try dsimp only at r0 r1 hr_
 refine wp_seq ?_
 refine wp_seq ?_
 refine wp_region_l [.ind, .ind, .ind, .ind, .ind, .ind, .ind] ([0, 1, 2, 3, 4, 5, 6]) rfl ?_
 refine s_rn 3 F rfl rfl ?_; clear F a; intro a F
 refine bsplit F 12 rfl ?_ ?_
 clear F; intro hc0 F
 try rw [hc0] at F
 replace hc0 := of_decide_eq_true hc0
 refine s_rn 4 F rfl rfl ?_; clear F a; intro a F
 refine t_endM M ?_; (clear M; try clear w); intro w M
 refine c_if F rfl ?_ ?_
 clear F; intro hc1 F
 try rw [hc1] at F
 replace hc1 := of_decide_eq_true hc1
 refine wp_skip ?_
 refine wp_seq ?_
 refine wp_block ?_
 refine wp_seq ?_
 replace F := F.keep [0, 1, 2, 5] rfl
 refine wp_region_l [.ind] ([0]) rfl ?_
 refine s_I F rfl rfl rfl rfl rfl rfl ?_; clear F a; intro a F
 refine t_endM M ?_; (clear M; try clear w); intro w M
 refine wp_seq ?_
 refine wp_seq ?_
 refine wp_region_l [.ind] ([0]) rfl ?_
 refine s_I F rfl rfl rfl rfl rfl rfl ?_; clear F a; intro a F
 refine t_endM M ?_; (clear M; try clear w); intro w M
 refine wp_block ?_
 refine loopX (X := (Int) × (Int)) F [0, 1, 2, 5] rfl (fun ((f, c) : (Int) × (Int)) => (1 ≤ f) ∧ (f ≤ n + 1 ∨ f = 1) ∧ (c = (((List.range (f - 1).toNat).countP fun i => votedV L r ((i : Nat) + 1 : Int)) : Nat)) ∧ (0 ≤ c ∧ c < f)) (fun ((f, c) : (Int) × (Int)) => [(6, .int .i64 c), (7, .int .i64 f)]) (fun ((f, c) : (Int) × (Int)) => []) (fun ((f, c) : (Int) × (Int)) => (n + 1 - f).toNat) ((1), (0)) M ⟨(by omega), (by omega), rfl, (by omega)⟩ (F.keep [6, 7, 0, 1, 2, 5] rfl) ?_
 clear F M; clear a; (try clear w)
 rintro ⟨f, c⟩ a w ⟨f0, f1, hc_, hc2⟩ F M; try dsimp only at F M
 try simp only [List.cons_append, List.nil_append] at F M
 try dsimp only at f0 f1 hc_ hc2
 refine wp_seq ?_
 refine wp_seq ?_
 refine wp_region_l [.ind, .ind, .rd, .ind] ([0, 1, 2, 3]) rfl ?_
 refine s_I F rfl rfl rfl rfl rfl rfl ?_; clear F a; intro a F
 refine s_fa0 F rfl rfl rfl rfl fa_28_0_V3 rfl ?_; clear F a; intro a F
 refine s_ld F rfl rfl rfl rfl sc_3_V3 rfl (by exact cell_of_blk M.h0 (lit rfl)) ?_; clear F a; intro a F
 refine s_bin F rfl rfl rfl rfl rfl rfl rfl ?_; clear F a; intro a F
 refine t_endM M ?_; (clear M; try clear w); intro w M
 refine c_if F rfl ?_ ?_
 clear F; intro hc2 F
 try rw [hc2] at F
 replace hc2 := of_decide_eq_true hc2
 refine wp_skip ?_
 refine wp_seq ?_
 refine wp_block ?_
 refine wp_seq ?_
 replace F := F.keep [0, 1, 2, 5, 6, 7] rfl
 refine wp_region_l [.ind] ([0]) rfl ?_
 refine s_I F rfl rfl rfl rfl rfl rfl ?_; clear F a; intro a F
 refine t_endM M ?_; (clear M; try clear w); intro w M
 refine wp_seq ?_
 refine wp_seq ?_
 refine wp_region_l [.ind] ([0]) rfl ?_
 refine s_I F rfl rfl rfl rfl rfl rfl ?_; clear F a; intro a F
 refine t_endM M ?_; (clear M; try clear w); intro w M
 refine wp_block ?_
 refine loopX (X := (Int) × (Bool)) F [0, 1, 2, 5, 6, 7] rfl (fun ((i, th) : (Int) × (Bool)) => (0 ≤ i) ∧ (i ≤ L.length) ∧ (th = votedV (L.take i.toNat) r f)) (fun ((i, th) : (Int) × (Bool)) => [(8, .bool th), (9, .int .i64 i)]) (fun ((i, th) : (Int) × (Bool)) => []) (fun ((i, th) : (Int) × (Bool)) => L.length - i.toNat) ((0), (false)) M ⟨(by omega), (by omega), (by simp [votedV])⟩ (F.keep [8, 9, 0, 1, 2, 5, 6, 7] rfl) ?_
 clear F M; clear a; (try clear w)
 rintro ⟨i, th⟩ a w ⟨i0, i1, hth⟩ F M; try dsimp only at F M
 try simp only [List.cons_append, List.nil_append] at F M
 try dsimp only at i0 i1 hth
 refine wp_seq ?_
 refine wp_seq ?_
 refine wp_region_l [.ind, .ind, .rd, .ind, .ind] ([0, 1, 2, 3, 4]) rfl ?_
 refine s_I F rfl rfl rfl rfl rfl rfl ?_; clear F a; intro a F
 refine s_fa0 F rfl rfl rfl rfl fa_28_2_V3 rfl ?_; clear F a; intro a F
 refine s_ld F rfl rfl rfl rfl sc_22_V3 rfl (by exact cell_of_blk M.h0 (lit rfl)) ?_; clear F a; intro a F
 refine s_len F rfl rfl rfl rfl sl_22_V3 rfl ?_; clear F a; intro a F
 refine s_bin F rfl rfl rfl rfl rfl rfl rfl ?_; clear F a; intro a F
 refine t_endM M ?_; (clear M; try clear w); intro w M
 refine c_if F rfl ?_ ?_
 clear F; intro hc3 F
 try rw [hc3] at F
 replace hc3 := of_decide_eq_true hc3
 refine wp_skip ?_
 refine wp_seq ?_
 refine wp_block ?_
 refine cutX (X := (Bool)) (m0 := []) F [0, 1, 2, 5, 6, 7, 9] rfl M (fun (t2 : Bool) => (t2 = votedV (L.take (i + 1).toNat) r f)) (fun (t2 : Bool) => [(8, .bool t2)]) (fun (t2 : Bool) => []) ?_ ?_
 replace F := F.keep [0, 1, 2, 5, 6, 7, 8, 9] rfl
 refine wp_region_l [.ind, .ind, .ind, .rd, .ind, .ind, .ind, .rd, .ind, .ind, .ind, .ind, .rd, .ind, .ind, .ind, .rd, .ind, .ind, .ind, .ind, .ind] ([0, 1, 2, 3, 4, 5, 6, 7, 8, 9, 10, 11, 12, 13, 14, 15, 16, 17, 18, 19, 20, 21]) rfl ?_
 refine s_rn 2 F rfl rfl ?_; clear F a; intro a F
 refine bsplit F 33 rfl ?_ ?_
 clear F; intro hc4 F
 try rw [hc4] at F
 skip
 refine s_rn 20 F rfl rfl ?_; clear F a; intro a F
 refine t_endM M ?_; (clear M; try clear w); intro w M
 refine joined (_) (by rw [take_succ i0 (show L[i.toNat]? = some _ from (List.getElem?_eq_getElem (show i.toNat < L.length by omega))), voted_snoc]; clear F M; grind) (F.keep [8, 0, 1, 2, 5, 6, 7, 9] rfl) ?_
 try dsimp only [List.cons_append, List.nil_append]
 refine M.pick ?_; repeat (first | exact PkG.nil | refine PkG.cons 0 rfl rfl ?_)
 clear F; intro hc5 F
 try rw [hc5] at F
 skip
 refine s_fa0 F rfl rfl rfl rfl fa_28_2_V3 rfl ?_; clear F a; intro a F
 refine s_ld F rfl rfl rfl rfl sc_22_V3 rfl (by exact cell_of_blk M.h0 (lit rfl)) ?_; clear F a; intro a F
 refine s_I F rfl rfl rfl rfl rfl rfl ?_; clear F a; intro a F
 refine s_ix F rfl rfl rfl rfl sl_22_V3 rfl rfl (by exact M.chg.ro hro) (by omega) (by omega) ?_; clear F a; intro e37 he37 a F
 refine s_fa F rfl rfl rfl rfl fa_32_2_V3 rfl ?_; clear F a; intro a F
 refine s_ld F rfl rfl rfl rfl sc_3_V3 rfl (by exact rdX (M.chg.ro hro) (by intro e; rfl) he37 rfl) ?_; clear F a; intro a F
 refine s_rn 3 F rfl rfl ?_; clear F a; intro a F
 refine bsplit F 42 rfl ?_ ?_
 clear F; intro hc6 F
 try rw [hc6] at F
 replace hc6 := of_decide_eq_true hc6
 refine s_fa0 F rfl rfl rfl rfl fa_28_2_V3 rfl ?_; clear F a; intro a F
 refine s_ld F rfl rfl rfl rfl sc_22_V3 rfl (by exact cell_of_blk M.h0 (lit rfl)) ?_; clear F a; intro a F
 refine s_I F rfl rfl rfl rfl rfl rfl ?_; clear F a; intro a F
 refine s_ix F rfl rfl rfl rfl sl_22_V3 rfl rfl (by exact M.chg.ro hro) (by omega) (by omega) ?_; clear F a; intro e46 he46 a F
 try (obtain rfl := Option.some.inj (he37.symm.trans he46))
 refine s_fa F rfl rfl rfl rfl fa_32_1_V3 rfl ?_; clear F a; intro a F
 refine s_ld F rfl rfl rfl rfl sc_3_V3 rfl (by exact rdX (M.chg.ro hro) (by intro e; rfl) he46 rfl) ?_; clear F a; intro a F
 refine s_rn 5 F rfl rfl ?_; clear F a; intro a F
 refine t_endM M ?_; (clear M; try clear w); intro w M
 refine joined (_) (by rw [take_succ i0 (show L[i.toNat]? = some _ from (List.getElem?_eq_getElem (show i.toNat < L.length by omega))), voted_snoc]; clear F M; grind) (F.keep [8, 0, 1, 2, 5, 6, 7, 9] rfl) ?_
 try dsimp only [List.cons_append, List.nil_append]
 refine M.pick ?_; repeat (first | exact PkG.nil | refine PkG.cons 0 rfl rfl ?_)
 clear F; intro hc7 F
 try rw [hc7] at F
 replace hc7 := of_decide_eq_false hc7
 refine s_rn 11 F rfl rfl ?_; clear F a; intro a F
 refine t_endM M ?_; (clear M; try clear w); intro w M
 refine joined (_) (by rw [take_succ i0 (show L[i.toNat]? = some _ from (List.getElem?_eq_getElem (show i.toNat < L.length by omega))), voted_snoc]; clear F M; grind) (F.keep [8, 0, 1, 2, 5, 6, 7, 9] rfl) ?_
 try dsimp only [List.cons_append, List.nil_append]
 refine M.pick ?_; repeat (first | exact PkG.nil | refine PkG.cons 0 rfl rfl ?_)
 clear F M; clear a; (try clear w)
 rintro t2 a w ht2 F M; try dsimp only at F M
 try simp only [List.cons_append, List.nil_append] at F M
 try dsimp only at ht2
 refine wp_region_l [.ind, .ind, .ind] ([0, 1, 2]) rfl ?_
 refine s_I F rfl rfl rfl rfl rfl rfl ?_; clear F a; intro a F
 refine s_add F rfl rfl rfl rfl rfl rfl (by unfold In64; omega) ?_; clear F a; intro a F
 refine s_I F rfl rfl rfl rfl rfl rfl ?_; clear F a; intro a F
 refine t_endM M ?_; (clear M; try clear w); intro w M
 refine again ((i + 1), (t2)) (by show _ < _; (try dsimp only); omega) ⟨(by omega), (by assumption), ht2⟩ (F.keep [8, 9, 0, 1, 2, 5, 6, 7] rfl) ?_
 try dsimp only [List.cons_append, List.nil_append]
 refine M.pick ?_; repeat (first | exact PkG.nil | refine PkG.cons 0 rfl rfl ?_)
 clear F; intro hc8 F
 try rw [hc8] at F
 replace hc8 := of_decide_eq_false hc8
 refine wp_exit ?_
 refine wp_seq ?_
 replace F := F.keep [0, 1, 2, 5, 6, 7, 8, 9] rfl
 refine wp_region_l [.ind] ([0]) rfl ?_
 refine s_I F rfl rfl rfl rfl rfl rfl ?_; clear F a; intro a F
 refine t_endM M ?_; (clear M; try clear w); intro w M
 refine c_if F rfl ?_ ?_
 clear F; intro hc9 F
 try rw [hc9] at F
 skip
 replace F := F.keep [0, 1, 2, 5, 6, 7, 8, 9] rfl
 refine wp_region_l [.ind, .ind, .ind] ([0, 1, 2]) rfl ?_
 refine s_I F rfl rfl rfl rfl rfl rfl ?_; clear F a; intro a F
 refine s_add F rfl rfl rfl rfl rfl rfl (by unfold In64; omega) ?_; clear F a; intro a F
 refine s_I F rfl rfl rfl rfl rfl rfl ?_; clear F a; intro a F
 refine t_endM M ?_; (clear M; try clear w); intro w M
 replace F := F.keep [0, 1, 2, 5, 6, 7, 8, 9] rfl
 refine wp_region_l [.ind, .ind, .ind] ([0, 1, 2]) rfl ?_
 refine s_I F rfl rfl rfl rfl rfl rfl ?_; clear F a; intro a F
 refine s_add F rfl rfl rfl rfl rfl rfl (by unfold In64; omega) ?_; clear F a; intro a F
 refine s_I F rfl rfl rfl rfl rfl rfl ?_; clear F a; intro a F
 refine t_endM M ?_; (clear M; try clear w); intro w M
 refine again ((f + 1), (_)) (by show _ < _; (try dsimp only); omega) ⟨(by omega), (by omega), (by rw [show f + 1 - 1 = f by omega, who_cnt f0]; rw [take_all (by omega)] at hth; clear F M; simp_all), (by omega)⟩ (F.keep [6, 7, 0, 1, 2, 5] rfl) ?_
 try dsimp only [List.cons_append, List.nil_append]
 refine M.pick ?_; repeat (first | exact PkG.nil | refine PkG.cons 0 rfl rfl ?_)
 clear F; intro hc10 F
 try rw [hc10] at F
 skip
 refine wp_skip ?_
 replace F := F.keep [0, 1, 2, 5, 6, 7, 8, 9] rfl
 refine wp_region_l [.ind, .ind, .ind] ([0, 1, 2]) rfl ?_
 refine s_I F rfl rfl rfl rfl rfl rfl ?_; clear F a; intro a F
 refine s_add F rfl rfl rfl rfl rfl rfl (by unfold In64; omega) ?_; clear F a; intro a F
 refine s_I F rfl rfl rfl rfl rfl rfl ?_; clear F a; intro a F
 refine t_endM M ?_; (clear M; try clear w); intro w M
 refine again ((f + 1), (_)) (by show _ < _; (try dsimp only); omega) ⟨(by omega), (by omega), (by rw [show f + 1 - 1 = f by omega, who_cnt f0]; rw [take_all (by omega)] at hth; clear F M; simp_all), (by omega)⟩ (F.keep [6, 7, 0, 1, 2, 5] rfl) ?_
 try dsimp only [List.cons_append, List.nil_append]
 refine M.pick ?_; repeat (first | exact PkG.nil | refine PkG.cons 0 rfl rfl ?_)
 clear F; intro hc11 F
 try rw [hc11] at F
 replace hc11 := of_decide_eq_false hc11
 refine wp_exit ?_
 refine wp_seq ?_
 have hw : c = (whoV n L r : Nat) := by rw [hc_, show (f - 1).toNat = n.toNat by omega]; rfl
 replace F := F.keep [0, 1, 2, 5, 6, 7] rfl
 refine wp_region_l [.ind, .ind, .rd, .ind] ([0, 1, 2, 3]) rfl ?_
 refine s_I F rfl rfl rfl rfl rfl rfl ?_; clear F a; intro a F
 refine s_fa0 F rfl rfl rfl rfl fa_28_1_V3 rfl ?_; clear F a; intro a F
 refine s_ld F rfl rfl rfl rfl sc_3_V3 rfl (by exact cell_of_blk M.h0 (lit rfl)) ?_; clear F a; intro a F
 refine s_bin F rfl rfl rfl rfl rfl rfl rfl ?_; clear F a; intro a F
 refine t_endM M ?_; (clear M; try clear w); intro w M
 refine c_if F rfl ?_ ?_
 clear F; intro hc12 F
 try rw [hc12] at F
 replace hc12 := of_decide_eq_true hc12
 refine wp_seq ?_
 replace F := F.keep [0, 1, 2, 5, 6, 7] rfl
 refine wp_region_l [.ind, .ind] ([0, 1]) rfl ?_
 refine s_rn 2 F rfl rfl ?_; clear F a; intro a F
 refine t_endM M ?_; (clear M; try clear w); intro w M
 refine wp_ret ?_
 refine ret1 F rfl rfl ?_
 refine ⟨_, rfl, ?_, M.chg⟩
 rw [hr_, show (r + 1).toNat = r.toNat + 1 by omega]
 simp only [aheadF]
 rw [Int.toNat_of_nonneg (by omega), if_pos ⟨by omega, by omega⟩]
 clear F; intro hc13 F
 try rw [hc13] at F
 replace hc13 := of_decide_eq_false hc13
 refine wp_skip ?_
 replace F := F.keep [0, 1, 2, 5, 6, 7] rfl
 refine wp_region_l [.ind, .ind, .ind] ([0, 1, 2]) rfl ?_
 refine s_I F rfl rfl rfl rfl rfl rfl ?_; clear F a; intro a F
 refine s_sub F rfl rfl rfl rfl rfl rfl (by unfold In64; omega) ?_; clear F a; intro a F
 refine s_I F rfl rfl rfl rfl rfl rfl ?_; clear F a; intro a F
 refine t_endM M ?_; (clear M; try clear w); intro w M
 refine again (r - 1) (by show _ < _; (try dsimp only); omega) ⟨(by omega), (by omega), (by rw [show r - 1 + 1 = r by omega]; rw [hr_, show (r + 1).toNat = r.toNat + 1 by omega]; simp only [aheadF]; rw [if_neg (fun h => by have := h.2; rw [Int.toNat_of_nonneg (by omega)] at this; omega)])⟩ (F.keep [5, 0, 1, 2] rfl) ?_
 try dsimp only [List.cons_append, List.nil_append]
 refine M.pick ?_; repeat (first | exact PkG.nil | refine PkG.cons 0 rfl rfl ?_)
 clear F; intro hc14 F
 try rw [hc14] at F
 replace hc14 := of_decide_eq_false hc14
 refine wp_exit ?_
 refine wp_seq ?_
 replace F := F.keep [0, 1, 2, 5] rfl
 refine wp_region_l [.ind] ([0]) rfl ?_
 refine s_I F rfl rfl rfl rfl rfl rfl ?_; clear F a; intro a F
 refine t_endM M ?_; (clear M; try clear w); intro w M
 refine wp_ret ?_
 refine ret1 F rfl rfl ?_
 refine ⟨_, rfl, ?_, M.chg⟩
 rw [hr_]
 rw [ahead_low _ (by omega)]
 clear F; intro hc15 F
 try rw [hc15] at F
 replace hc15 := of_decide_eq_false hc15
 refine s_rn 4 F rfl rfl ?_; clear F a; intro a F
 refine t_endM M ?_; (clear M; try clear w); intro w M
 refine c_f F rfl ?_
 refine wp_exit ?_
 refine wp_seq ?_
 replace F := F.keep [0, 1, 2, 5] rfl
 refine wp_region_l [.ind] ([0]) rfl ?_
 refine s_I F rfl rfl rfl rfl rfl rfl ?_; clear F a; intro a F
 refine t_endM M ?_; (clear M; try clear w); intro w M
 refine wp_ret ?_
 refine ret1 F rfl rfl ?_
 refine ⟨_, rfl, ?_, M.chg⟩
 rw [hr_]
 rw [show (r + 1).toNat = 0 by omega]; rfl
end Go.Proofs.Ytboibdmflblphaa
