/- E2 of the seat. -/
import Derived.Test.YtmikcmcgfehgfaaE1
namespace Go.Proofs.Ytmikcmcgfehgfaa
open Go Fw
theorem cb_27_E2 : callB Try.prog 27 = true := by kernel_rfl
theorem pt_53_E2 : ptrB Try.prog 53 = true := by kernel_rfl
theorem cb_31_E2 : callB Try.prog 31 = true := by kernel_rfl
theorem cb_34_E2 : callB Try.prog 34 = true := by kernel_rfl
theorem cb_33_E2 : callB Try.prog 33 = true := by kernel_rfl
theorem cb_29_E2 : callB Try.prog 29 = true := by kernel_rfl
theorem cb_36_E2 : callB Try.prog 36 = true := by kernel_rfl
theorem cb_26_E2 : callB Try.prog 26 = true := by kernel_rfl
theorem sl_44_E2 : slcB Try.prog 44 = some (3, 1) := by kernel_rfl
theorem fa_52_0_E2 : FA Try.prog 52 0 0 := fun _ _ _ => by kernel_rfl
theorem sc_3_E2 : scalB Try.prog 3 = true := by kernel_rfl
theorem fa_52_1_E2 : FA Try.prog 52 1 1 := fun _ _ _ => by kernel_rfl
theorem cb_28_E2 : callB Try.prog 28 = true := by kernel_rfl
theorem zr_56_E2 : zeroB Try.prog 56 = some (.agg #[.int .i64 0, .int .i64 0, .int .i64 0, .int .i64 0]) := by kernel_rfl
theorem sz_56_E2 : sizeB Try.prog 56 = some 4 := by kernel_rfl
theorem ag_56_E2 : aggB Try.prog 56 = some 4 := by kernel_rfl
theorem cb_30_E2 : callB Try.prog 30 = true := by kernel_rfl
theorem cb_32_E2 : callB Try.prog 32 = true := by kernel_rfl
theorem fa_56_2_E2 : FA Try.prog 56 2 2 := fun _ _ _ => by kernel_rfl
theorem cb_35_E2 : callB Try.prog 35 = true := by kernel_rfl
theorem bo_4_E2 : boolB Try.prog 4 = true := by kernel_rfl
theorem cb_37_E2 : callB Try.prog 37 = true := by kernel_rfl
theorem ar_68_E2 : arrB Try.prog 68 = some (2, 1) := by kernel_rfl
theorem sc_44_E2 : scalB Try.prog 44 = true := by kernel_rfl

def encI (i : Int) : List Value := [.int .i64 i]
def g0 : Gt := Gt.new 10 5
def g1 : Gt := g0.tick 19
def g2 : Gt := g1.tick 20
def g3 : Gt := g2.tick 3
def g4 : Gt := g3.crash
theorem g0w : g0.Wf := Gt.new_wf _ _
theorem g1w : g1.Wf := g0w.tick _
theorem g2w : g2.Wf := g1w.tick _
theorem g3w : g3.Wf := g2w.tick _
theorem g4w : g4.Wf := g3w.crash
theorem aw1 : g1.open_ 2 = false := by kernel_rfl
theorem aw2 : g3.open_ 2 = true := by kernel_rfl
theorem aw3 : g3.now = 3 := by kernel_rfl
theorem aw4 : g4.open_ 2 = true := by kernel_rfl
theorem aw5 : g4.open_ 3 = false := by kernel_rfl
theorem aw6 : g4.now = 0 := by kernel_rfl
theorem aw7 : g4.time 2 = 20 := by kernel_rfl
theorem aw8 : g4.time 64 = -1 := by kernel_rfl
theorem Gt.time_tick (g : Gt) (n e : Int) : (g.tick n).time e = g.time e := rfl
theorem Gt.time_rng {g : Gt} (W : g.Wf) {e : Int} (h0 : 0 ≤ e) (h1 : e ≤ 63) : 0 ≤ g.time e ∧ g.time e ≤ 1139802112 := by
  have h := W.mul h0 h1
  have := W.b0; have := W.b1
  unfold Gt.time
  rw [if_neg (by omega)]
  omega
theorem Gt.time_diff {g : Gt} {e : Int} (h0 : 1 ≤ e) (h1 : e ≤ 63) : g.time e = g.time (e - 1) + g.each := by
  unfold Gt.time
  rw [if_neg (by omega), if_neg (by omega), Int.sub_mul]
  omega
theorem Gt.open_mono {g : Gt} (W : g.Wf) {e : Int} (h0 : 1 ≤ e) (h1 : e ≤ 63) (h : g.open_ e = true) : g.open_ (e - 1) = true := by
  simp only [Gt.open_eq, decide_eq_true_eq] at h ⊢
  have h2 := Gt.time_diff (g := g) h0 h1
  have h3 := Gt.time_rng W (e := e - 1) (by omega) (by omega)
  have := W.e0
  omega
theorem Gt.open_stays {g : Gt} {n e : Int} (h : g.open_ e = true) : (g.tick n).open_ e = true := by
  have h1 : 0 ≤ g.time e ∧ g.time e ≤ g.most := by simpa [Gt.open_eq] using h
  have h2 : g.most ≤ (g.tick n).most := Int.le_max_left _ _
  have h3 : 0 ≤ (g.tick n).time e ∧ (g.tick n).time e ≤ (g.tick n).most := by rw [Gt.time_tick]; omega
  simpa [Gt.open_eq] using h3
theorem Gt.open_crash {g : Gt} {e : Int} : g.crash.open_ e = g.open_ e := rfl
theorem Gt.time_lo {g : Gt} (W : g.Wf) (e : Int) : (0 ≤ g.time e ∧ 0 ≤ e ∧ e ≤ 63) ∨ (g.time e = -1 ∧ (e < 0 ∨ 63 < e)) := by
  by_cases h : e < 0 ∨ 63 < e
  · right; unfold Gt.time; rw [if_pos h]; exact ⟨rfl, h⟩
  · left; exact ⟨(Gt.time_rng W (by omega) (by omega)).1, by omega, by omega⟩
theorem Gt.open_tick {g : Gt} {n e at_ : Int} (hat : g.time e = at_) : (g.tick n).open_ e = decide (0 ≤ at_ ∧ at_ ≤ max g.most (min (max n 0) 1099511627776)) := by
  rw [Gt.open_eq, Gt.time_tick, hat]
  rfl
theorem Gt.time_most {g : Gt} (W : g.Wf) {e : Int} : g.time e ≤ 1139802112 := by
  rcases Gt.time_lo W e with h | h
  · exact (Gt.time_rng W h.2.1 h.2.2).2
  · omega

set_option maxRecDepth 100000 in
set_option maxHeartbeats 400000 in
theorem c26 (w0 : World) : Cl Try.prog 26 #[] w0 (RetQ w0 fun v => v = .bool true) := by
  have M : Sep (fun _ => False) w0 w0 _ := Sep.nil _ w0
  refine enter (vs := []) Try.func26 rfl rfl rfl ?_
  intro a F
  refine wp_seq ?_
  refine wp_region_l [.ind] ([0]) rfl ?_
  refine s_I F rfl rfl rfl rfl rfl rfl ?_; clear F a; intro a F
  refine t_endM M ?_; (clear M; try clear w); intro w M
  refine wp_seq ?_
  refine wp_region_l [.wr, .ind] ([0, 1]) rfl ?_
  refine s_call (m := []) F M rfl rfl rfl rfl rfl (rfl : _ = some [_, _]) cb_27_E2 (fun nd_ => c27 (10) (5) _) ?_; (clear F a M; try clear w); rintro v x_ w rfl M a F; (try simp only [List.cons_append, List.nil_append] at M)
  obtain ⟨b, c⟩ := x_
  replace M : Sep _ _ _ (gB b c g0 :: gC c g0 :: _) := M
  refine s_I F rfl rfl rfl rfl rfl rfl ?_; clear F a; intro a F
  refine t_endM M ?_; (clear M; try clear w); intro w M
  refine wp_seq ?_
  refine wp_seq ?_
  replace F := F.keep [0, 1] rfl
  refine wp_region_l [.ind, .ind] ([0, 1]) rfl ?_
  refine s_I F rfl rfl rfl rfl rfl rfl ?_; clear F a; intro a F
  refine s_pn F rfl rfl rfl rfl pt_53_E2 rfl ?_; clear F a; intro a F
  replace F : Fr _ _ ((7, Value.bool false) :: _) := F
  refine t_endM M ?_; (clear M; try clear w); intro w M
  refine c_f F rfl ?_
  refine wp_skip ?_
  refine wp_seq ?_
  replace F := F.keep [0, 1] rfl
  refine wp_region_l [.ind, .wr] ([0, 1]) rfl ?_
  refine s_I F rfl rfl rfl rfl rfl rfl ?_; clear F a; intro a F
  have M1 : Sep _ _ _ (gC c _ :: _) := M.f1; replace M := M1; clear M1
  have M1 : Sep _ _ _ (gB b c _ :: _) := M.f1; replace M := M1; clear M1
  refine s_call (m := [_, _]) F M rfl rfl rfl rfl rfl (rfl : _ = some [_, _]) cb_31_E2 (fun nd_ => c31 b c (g0) (19) _ ((M.drewN nd_).own.left (m := [_, _]))) ?_; (clear F a M; try clear w); rintro v x w rfl M a F; (try simp only [List.cons_append, List.nil_append] at M)
  refine t_endM M ?_; (clear M; try clear w); intro w M
  refine wp_seq ?_
  replace F := F.keep [0, 1] rfl
  refine wp_region_l [.ind, .wr, .ind] ([0, 1, 2]) rfl ?_
  refine s_I F rfl rfl rfl rfl rfl rfl ?_; clear F a; intro a F
  refine s_cq F M rfl rfl rfl rfl rfl (rfl : _ = some [_, _]) cb_34_E2 (fun nd_ => c34 b c (g1) (g1w) (2) _ (by exact M.h0) (by exact M.h1)) ?_; (clear F a M; try clear w); rintro v w rfl M a F
  rw [aw1] at F
  refine s_I F rfl rfl rfl rfl rfl rfl ?_; clear F a; intro a F
  replace F : Fr _ _ ((2, Value.bool false) :: _) := F
  refine t_endM M ?_; (clear M; try clear w); intro w M
  refine wp_seq ?_
  replace F := F.keep [0, 1, 2] rfl
  refine wp_region_l [.ind, .wr] ([0, 1]) rfl ?_
  refine s_I F rfl rfl rfl rfl rfl rfl ?_; clear F a; intro a F
  have M1 : Sep _ _ _ (gC c _ :: _) := M.f1; replace M := M1; clear M1
  have M1 : Sep _ _ _ (gB b c _ :: _) := M.f1; replace M := M1; clear M1
  refine s_call (m := [_, _]) F M rfl rfl rfl rfl rfl (rfl : _ = some [_, _]) cb_31_E2 (fun nd_ => c31 b c (g1) (20) _ ((M.drewN nd_).own.left (m := [_, _]))) ?_; (clear F a M; try clear w); rintro v x w rfl M a F; (try simp only [List.cons_append, List.nil_append] at M)
  refine t_endM M ?_; (clear M; try clear w); intro w M
  refine wp_seq ?_
  replace F := F.keep [0, 1, 2] rfl
  refine wp_region_l [.ind, .wr] ([0, 1]) rfl ?_
  refine s_I F rfl rfl rfl rfl rfl rfl ?_; clear F a; intro a F
  have M1 : Sep _ _ _ (gC c _ :: _) := M.f1; replace M := M1; clear M1
  have M1 : Sep _ _ _ (gB b c _ :: _) := M.f1; replace M := M1; clear M1
  refine s_call (m := [_, _]) F M rfl rfl rfl rfl rfl (rfl : _ = some [_, _]) cb_31_E2 (fun nd_ => c31 b c (g2) (3) _ ((M.drewN nd_).own.left (m := [_, _]))) ?_; (clear F a M; try clear w); rintro v x w rfl M a F; (try simp only [List.cons_append, List.nil_append] at M)
  refine t_endM M ?_; (clear M; try clear w); intro w M
  refine wp_seq ?_
  replace F := F.keep [0, 1, 2] rfl
  refine wp_region_l [.ind, .wr, .ind, .wr, .ind, .ind] ([0, 1, 2, 3, 4, 5]) rfl ?_
  refine s_I F rfl rfl rfl rfl rfl rfl ?_; clear F a; intro a F
  refine s_cq F M rfl rfl rfl rfl rfl (rfl : _ = some [_, _]) cb_34_E2 (fun nd_ => c34 b c (g3) (g3w) (2) _ (by exact M.h0) (by exact M.h1)) ?_; (clear F a M; try clear w); rintro v w rfl M a F
  rw [aw2] at F
  refine s_I F rfl rfl rfl rfl rfl rfl ?_; clear F a; intro a F
  refine s_cq F M rfl rfl rfl rfl rfl (rfl : _ = some [_]) cb_33_E2 (fun nd_ => c33 b c g3 _ (by exact M.h0) (by exact M.h1)) ?_; (clear F a M; try clear w); rintro v w rfl M a F
  rw [aw3] at F
  refine s_I F rfl rfl rfl rfl rfl rfl ?_; clear F a; intro a F
  replace F : Fr _ _ ((3, Value.bool true) :: _) := F
  refine s_I F rfl rfl rfl rfl rfl rfl ?_; clear F a; intro a F
  refine t_endM M ?_; (clear M; try clear w); intro w M
  refine wp_seq ?_
  replace F := F.keep [0, 1, 2, 3, 4] rfl
  refine wp_region_l [.ind, .wr] ([0, 1]) rfl ?_
  refine s_I F rfl rfl rfl rfl rfl rfl ?_; clear F a; intro a F
  have M1 : Sep _ _ _ (gC c _ :: _) := M.f1; replace M := M1; clear M1
  have M1 : Sep _ _ _ (gB b c _ :: _) := M.f1; replace M := M1; clear M1
  refine s_call (m := [_, _]) F M rfl rfl rfl rfl rfl (rfl : _ = some [_]) cb_29_E2 (fun nd_ => c29 b c g3 _ ((M.drewN nd_).own.left (m := [_, _]))) ?_; (clear F a M; try clear w); rintro v c2 w rfl M a F; (try simp only [List.cons_append, List.nil_append] at M)
  refine t_endM M ?_; (clear M; try clear w); intro w M
  refine wp_seq ?_
  replace F := F.keep [0, 1, 2, 3, 4] rfl
  refine wp_region_l [.ind, .ind, .ind, .ind, .ind, .ind, .ind, .ind, .ind, .ind, .ind, .wr, .ind, .ind, .ind, .wr, .ind, .ind, .ind, .ind, .wr, .ind, .ind, .ind, .ind, .wr, .ind, .ind, .ind, .ind, .wr, .ind, .ind, .ind] ([0, 1, 2, 3, 4, 5, 6, 7, 8, 9, 10, 11, 12, 13, 14, 15, 16, 17, 18, 19, 20, 21, 22, 23, 24, 25, 26, 27, 28, 29, 30, 31, 32, 33]) rfl ?_
  refine s_I F rfl rfl rfl rfl rfl rfl ?_; clear F a; intro a F
  refine s_I F rfl rfl rfl rfl rfl rfl ?_; clear F a; intro a F
  refine s_I F rfl rfl rfl rfl rfl rfl ?_; clear F a; intro a F
  refine s_I F rfl rfl rfl rfl rfl rfl ?_; clear F a; intro a F
  refine s_I F rfl rfl rfl rfl rfl rfl ?_; clear F a; intro a F
  refine s_I F rfl rfl rfl rfl rfl rfl ?_; clear F a; intro a F
  refine s_I F rfl rfl rfl rfl rfl rfl ?_; clear F a; intro a F
  refine s_bin F rfl rfl rfl rfl rfl rfl rfl ?_; clear F a; intro a F
  replace F : Fr _ _ ((29, Value.bool true) :: _) := F
  refine s_I F rfl rfl rfl rfl rfl rfl ?_; clear F a; intro a F
  refine s_I F rfl rfl rfl rfl rfl rfl ?_; clear F a; intro a F
  refine s_I F rfl rfl rfl rfl rfl rfl ?_; clear F a; intro a F
  refine s_cq F M rfl rfl rfl rfl rfl (rfl : _ = some [_, _]) cb_34_E2 (fun nd_ => c34 b c2 (g4) (g4w) (2) _ (by exact M.h0) (by exact M.h1)) ?_; (clear F a M; try clear w); rintro v w rfl M a F
  rw [aw4] at F
  replace F : Fr _ _ ((33, Value.bool true) :: _) := F
  refine s_I F rfl rfl rfl rfl rfl rfl ?_; clear F a; intro a F
  refine s_I F rfl rfl rfl rfl rfl rfl ?_; clear F a; intro a F
  refine s_I F rfl rfl rfl rfl rfl rfl ?_; clear F a; intro a F
  refine s_cq F M rfl rfl rfl rfl rfl (rfl : _ = some [_, _]) cb_34_E2 (fun nd_ => c34 b c2 (g4) (g4w) (3) _ (by exact M.h0) (by exact M.h1)) ?_; (clear F a M; try clear w); rintro v w rfl M a F
  rw [aw5] at F
  replace F : Fr _ _ ((37, Value.bool false) :: _) := F
  refine s_I F rfl rfl rfl rfl rfl rfl ?_; clear F a; intro a F
  refine s_I F rfl rfl rfl rfl rfl rfl ?_; clear F a; intro a F
  refine s_I F rfl rfl rfl rfl rfl rfl ?_; clear F a; intro a F
  refine s_I F rfl rfl rfl rfl rfl rfl ?_; clear F a; intro a F
  refine s_cq F M rfl rfl rfl rfl rfl (rfl : _ = some [_]) cb_33_E2 (fun nd_ => c33 b c2 g4 _ (by exact M.h0) (by exact M.h1)) ?_; (clear F a M; try clear w); rintro v w rfl M a F
  rw [aw6] at F
  refine s_bin F rfl rfl rfl rfl rfl rfl rfl ?_; clear F a; intro a F
  replace F : Fr _ _ ((43, Value.bool true) :: _) := F
  refine s_I F rfl rfl rfl rfl rfl rfl ?_; clear F a; intro a F
  refine s_I F rfl rfl rfl rfl rfl rfl ?_; clear F a; intro a F
  refine s_I F rfl rfl rfl rfl rfl rfl ?_; clear F a; intro a F
  refine s_cq F M rfl rfl rfl rfl rfl (rfl : _ = some [_, _]) cb_36_E2 (fun nd_ => c36 b c2 (g4) (g4w) (2) _ (by exact M.h0)) ?_; (clear F a M; try clear w); rintro v w rfl M a F
  rw [aw7] at F
  refine s_bin F rfl rfl rfl rfl rfl rfl rfl ?_; clear F a; intro a F
  replace F : Fr _ _ ((48, Value.bool true) :: _) := F
  refine s_I F rfl rfl rfl rfl rfl rfl ?_; clear F a; intro a F
  refine s_I F rfl rfl rfl rfl rfl rfl ?_; clear F a; intro a F
  refine s_I F rfl rfl rfl rfl rfl rfl ?_; clear F a; intro a F
  refine s_cq F M rfl rfl rfl rfl rfl (rfl : _ = some [_, _]) cb_36_E2 (fun nd_ => c36 b c2 (g4) (g4w) (64) _ (by exact M.h0)) ?_; (clear F a M; try clear w); rintro v w rfl M a F
  rw [aw8] at F
  refine s_bin F rfl rfl rfl rfl rfl rfl rfl ?_; clear F a; intro a F
  replace F : Fr _ _ ((53, Value.bool true) :: _) := F
  refine s_I F rfl rfl rfl rfl rfl rfl ?_; clear F a; intro a F
  refine s_I F rfl rfl rfl rfl rfl rfl ?_; clear F a; intro a F
  refine t_endM M ?_; (clear M; try clear w); intro w M
  refine wp_ret ?_
  refine ret1 F rfl rfl ?_
  -- end 0
  exact ⟨_, rfl, rfl, M.chg⟩
set_option maxRecDepth 100000 in
set_option maxHeartbeats 400000 in
theorem law11 (n : Int) (w0 : World) : Cl Try.prog 11 #[.int .i64 n] w0 (RetQ w0 fun v => v = .bool true) := by
  have M : Sep (fun _ => False) w0 w0 _ := Sep.nil _ w0
  refine enter (vs := [_]) Try.func11 rfl rfl rfl ?_
  intro a F
  refine wp_seq ?_
  refine wp_region_l [.ind] ([0]) rfl ?_
  refine s_I F rfl rfl rfl rfl rfl rfl ?_; clear F a; intro a F
  refine t_endM M ?_; (clear M; try clear w); intro w M
  refine wp_seq ?_
  refine wp_region_l [.ind] ([0]) rfl ?_
  refine s_I F rfl rfl rfl rfl rfl rfl ?_; clear F a; intro a F
  refine t_endM M ?_; (clear M; try clear w); intro w M
  refine wp_seq ?_
  refine wp_region_l [.ind, .ind, .wr] ([0, 1, 2]) rfl ?_
  refine s_I F rfl rfl rfl rfl rfl rfl ?_; clear F a; intro a F
  refine s_I F rfl rfl rfl rfl rfl rfl ?_; clear F a; intro a F
  refine s_cq F M rfl rfl rfl rfl rfl (rfl : _ = some [_, _]) cb_31_E2 (fun nd_ => c31n _ _) ?_; (clear F a M; try clear w); rintro v w rfl M a F
  refine t_endM M ?_; (clear M; try clear w); intro w M
  refine wp_seq ?_
  replace F := F.keep [0, 2, 3] rfl
  refine wp_region_l [.ind, .wr] ([0, 1]) rfl ?_
  refine s_I F rfl rfl rfl rfl rfl rfl ?_; clear F a; intro a F
  refine s_cq F M rfl rfl rfl rfl rfl (rfl : _ = some [_]) cb_29_E2 (fun nd_ => c29n _) ?_; (clear F a M; try clear w); rintro v w rfl M a F
  refine t_endM M ?_; (clear M; try clear w); intro w M
  refine wp_seq ?_
  replace F := F.keep [0, 2, 3] rfl
  refine wp_region_l [.ind, .ind, .wr, .ind, .ind, .ind, .ind, .wr, .ind, .ind, .ind, .ind, .wr, .ind, .ind, .ind, .wr, .ind, .ind] ([0, 1, 2, 3, 4, 5, 6, 7, 8, 9, 10, 11, 12, 13, 14, 15, 16, 17, 18]) rfl ?_
  refine s_I F rfl rfl rfl rfl rfl rfl ?_; clear F a; intro a F
  refine s_I F rfl rfl rfl rfl rfl rfl ?_; clear F a; intro a F
  refine s_cq F M rfl rfl rfl rfl rfl (rfl : _ = some [_, _]) cb_36_E2 (fun nd_ => c36n _ _) ?_; (clear F a M; try clear w); rintro v w rfl M a F
  refine s_bin F rfl rfl rfl rfl rfl rfl rfl ?_; clear F a; intro a F
  replace F : Fr _ _ ((12, Value.bool true) :: _) := F
  refine s_I F rfl rfl rfl rfl rfl rfl ?_; clear F a; intro a F
  refine s_I F rfl rfl rfl rfl rfl rfl ?_; clear F a; intro a F
  refine s_I F rfl rfl rfl rfl rfl rfl ?_; clear F a; intro a F
  refine s_cq F M rfl rfl rfl rfl rfl (rfl : _ = some [_, _]) cb_34_E2 (fun nd_ => c34n _ _) ?_; (clear F a M; try clear w); rintro v w rfl M a F
  refine s_I F rfl rfl rfl rfl rfl rfl ?_; clear F a; intro a F
  replace F : Fr _ _ ((17, Value.bool true) :: _) := F
  refine s_I F rfl rfl rfl rfl rfl rfl ?_; clear F a; intro a F
  refine s_I F rfl rfl rfl rfl rfl rfl ?_; clear F a; intro a F
  refine s_I F rfl rfl rfl rfl rfl rfl ?_; clear F a; intro a F
  refine s_cq F M rfl rfl rfl rfl rfl (rfl : _ = some [_]) cb_33_E2 (fun nd_ => c33n _) ?_; (clear F a M; try clear w); rintro v w rfl M a F
  refine s_bin F rfl rfl rfl rfl rfl rfl rfl ?_; clear F a; intro a F
  replace F : Fr _ _ ((22, Value.bool true) :: _) := F
  refine s_I F rfl rfl rfl rfl rfl rfl ?_; clear F a; intro a F
  refine s_I F rfl rfl rfl rfl rfl rfl ?_; clear F a; intro a F
  refine s_cq F M rfl rfl rfl rfl rfl (rfl : _ = some []) cb_26_E2 (fun nd_ => c26 _) ?_; (clear F a M; try clear w); rintro v w rfl M a F
  refine s_I F rfl rfl rfl rfl rfl rfl ?_; clear F a; intro a F
  refine s_I F rfl rfl rfl rfl rfl rfl ?_; clear F a; intro a F
  refine t_endM M ?_; (clear M; try clear w); intro w M
  refine wp_ret ?_
  refine ret1 F rfl rfl ?_
  -- end 0
  exact ⟨_, rfl, rfl, M.chg⟩
set_option maxRecDepth 100000 in
set_option maxHeartbeats 400000 in
theorem law7a (m e : Int) (l : List Int) (v : Value) (ep : Int) (w0 : World) (hr : RdSl w0.heap v l.length 1 (l.flatMap encI)) (h : 1000 < l.length) : Cl Try.prog 7 #[.agg #[.int .i64 m, .int .i64 e], v, .int .i64 ep] w0 (RetQ w0 fun v => v = .bool true) := by
  have M : Sep (fun _ => False) w0 w0 _ := Sep.nil _ w0
  have hro := (ro_of hr)
  obtain ⟨A, cc, rfl, hcc⟩ := hr.form
  refine enter (vs := [_, _, _]) Try.func7 rfl rfl rfl ?_
  intro a F
  refine wp_seq ?_
  refine wp_region_l [.wr, .ind] ([0, 1]) rfl ?_
  refine s_bxA F M rfl rfl rfl rfl rfl ?_; (clear F a M; try clear w); intro b3 w M a F
  refine s_I F rfl rfl rfl rfl rfl rfl ?_; clear F a; intro a F
  refine t_endM M ?_; (clear M; try clear w); intro w M
  refine wp_seq ?_
  refine wp_seq ?_
  refine wp_region_l [.ind, .ind, .ind] ([0, 1, 2]) rfl ?_
  refine s_I F rfl rfl rfl rfl rfl rfl ?_; clear F a; intro a F
  refine s_len F rfl rfl rfl rfl sl_44_E2 rfl ?_; clear F a; intro a F
  refine s_bin F rfl rfl rfl rfl rfl rfl rfl ?_; clear F a; intro a F
  refine t_endM M ?_; (clear M; try clear w); intro w M
  refine c_if F rfl ?_ ?_
  ·
    clear F; intro hc0 F
    try rw [hc0] at F
    replace hc0 := of_decide_eq_true hc0
    refine wp_seq ?_
    replace F := F.keep [0, 1, 2, 3, 6] rfl
    refine wp_region_l [.wr, .ind] ([0, 1]) rfl ?_
    refine s_cq F M rfl rfl rfl rfl rfl (rfl : _ = some []) cb_26_E2 (fun nd_ => c26 _) ?_; (clear F a M; try clear w); rintro v w rfl M a F
    refine s_I F rfl rfl rfl rfl rfl rfl ?_; clear F a; intro a F
    refine t_endM M ?_; (clear M; try clear w); intro w M
    refine wp_ret ?_
    refine ret1 F rfl rfl ?_
    -- end 0
    exact ⟨_, rfl, rfl, M.chg⟩
  ·
    clear F; intro hc1 F
    try rw [hc1] at F
    replace hc1 := of_decide_eq_false hc1
    exfalso; omega
set_option maxRecDepth 100000 in
set_option maxHeartbeats 400000 in
theorem law8a (m e : Int) (l : List Int) (v : Value) (ep : Int) (w0 : World) (hr : RdSl w0.heap v l.length 1 (l.flatMap encI)) (h : 1000 < l.length) : Cl Try.prog 8 #[.agg #[.int .i64 m, .int .i64 e], v, .int .i64 ep] w0 (RetQ w0 fun v => v = .bool true) := by
  have M : Sep (fun _ => False) w0 w0 _ := Sep.nil _ w0
  have hro := (ro_of hr)
  obtain ⟨A, cc, rfl, hcc⟩ := hr.form
  refine enter (vs := [_, _, _]) Try.func8 rfl rfl rfl ?_
  intro a F
  refine wp_seq ?_
  refine wp_region_l [.wr, .ind] ([0, 1]) rfl ?_
  refine s_bxA F M rfl rfl rfl rfl rfl ?_; (clear F a M; try clear w); intro b3 w M a F
  refine s_I F rfl rfl rfl rfl rfl rfl ?_; clear F a; intro a F
  refine t_endM M ?_; (clear M; try clear w); intro w M
  refine wp_seq ?_
  refine wp_seq ?_
  refine wp_region_l [.ind, .ind, .ind] ([0, 1, 2]) rfl ?_
  refine s_I F rfl rfl rfl rfl rfl rfl ?_; clear F a; intro a F
  refine s_len F rfl rfl rfl rfl sl_44_E2 rfl ?_; clear F a; intro a F
  refine s_bin F rfl rfl rfl rfl rfl rfl rfl ?_; clear F a; intro a F
  refine t_endM M ?_; (clear M; try clear w); intro w M
  refine c_if F rfl ?_ ?_
  ·
    clear F; intro hc0 F
    try rw [hc0] at F
    replace hc0 := of_decide_eq_true hc0
    refine wp_seq ?_
    replace F := F.keep [0, 1, 2, 3, 6] rfl
    refine wp_region_l [.wr, .ind] ([0, 1]) rfl ?_
    refine s_cq F M rfl rfl rfl rfl rfl (rfl : _ = some []) cb_26_E2 (fun nd_ => c26 _) ?_; (clear F a M; try clear w); rintro v w rfl M a F
    refine s_I F rfl rfl rfl rfl rfl rfl ?_; clear F a; intro a F
    refine t_endM M ?_; (clear M; try clear w); intro w M
    refine wp_ret ?_
    refine ret1 F rfl rfl ?_
    -- end 0
    exact ⟨_, rfl, rfl, M.chg⟩
  ·
    clear F; intro hc1 F
    try rw [hc1] at F
    replace hc1 := of_decide_eq_false hc1
    exfalso; omega
set_option maxRecDepth 100000 in
set_option maxHeartbeats 400000 in
theorem law9a (m e : Int) (l : List Int) (v : Value) (w0 : World) (hr : RdSl w0.heap v l.length 1 (l.flatMap encI)) (h : 1000 < l.length) : Cl Try.prog 9 #[.agg #[.int .i64 m, .int .i64 e], v] w0 (RetQ w0 fun v => v = .bool true) := by
  have M : Sep (fun _ => False) w0 w0 _ := Sep.nil _ w0
  have hro := (ro_of hr)
  obtain ⟨A, cc, rfl, hcc⟩ := hr.form
  refine enter (vs := [_, _]) Try.func9 rfl rfl rfl ?_
  intro a F
  refine wp_seq ?_
  refine wp_region_l [.wr, .ind] ([0, 1]) rfl ?_
  refine s_bxA F M rfl rfl rfl rfl rfl ?_; (clear F a M; try clear w); intro b2 w M a F
  refine s_I F rfl rfl rfl rfl rfl rfl ?_; clear F a; intro a F
  refine t_endM M ?_; (clear M; try clear w); intro w M
  refine wp_seq ?_
  refine wp_seq ?_
  refine wp_region_l [.ind, .ind, .ind] ([0, 1, 2]) rfl ?_
  refine s_I F rfl rfl rfl rfl rfl rfl ?_; clear F a; intro a F
  refine s_len F rfl rfl rfl rfl sl_44_E2 rfl ?_; clear F a; intro a F
  refine s_bin F rfl rfl rfl rfl rfl rfl rfl ?_; clear F a; intro a F
  refine t_endM M ?_; (clear M; try clear w); intro w M
  refine c_if F rfl ?_ ?_
  ·
    clear F; intro hc0 F
    try rw [hc0] at F
    replace hc0 := of_decide_eq_true hc0
    refine wp_seq ?_
    replace F := F.keep [0, 1, 2, 4] rfl
    refine wp_region_l [.wr, .ind] ([0, 1]) rfl ?_
    refine s_cq F M rfl rfl rfl rfl rfl (rfl : _ = some []) cb_26_E2 (fun nd_ => c26 _) ?_; (clear F a M; try clear w); rintro v w rfl M a F
    refine s_I F rfl rfl rfl rfl rfl rfl ?_; clear F a; intro a F
    refine t_endM M ?_; (clear M; try clear w); intro w M
    refine wp_ret ?_
    refine ret1 F rfl rfl ?_
    -- end 0
    exact ⟨_, rfl, rfl, M.chg⟩
  ·
    clear F; intro hc1 F
    try rw [hc1] at F
    replace hc1 := of_decide_eq_false hc1
    exfalso; omega
set_option maxRecDepth 100000 in
set_option maxHeartbeats 8000000 in
theorem law7b (m e : Int) (l : List Int) (v : Value) (ep : Int) (w0 : World) (hr : RdSl w0.heap v l.length 1 (l.flatMap encI)) (h : l.length ≤ 1000) : Cl Try.prog 7 #[.agg #[.int .i64 m, .int .i64 e], v, .int .i64 ep] w0 (RetQ w0 fun v => v = .bool true) := by
  have M : Sep (fun _ => False) w0 w0 _ := Sep.nil _ w0
  have hro := (ro_of hr)
  obtain ⟨A, cc, rfl, hcc⟩ := hr.form
  refine enter (vs := [_, _, _]) Try.func7 rfl rfl rfl ?_
  intro a F
  refine wp_seq ?_
  refine wp_region_l [.wr, .ind] ([0, 1]) rfl ?_
  refine s_bxA F M rfl rfl rfl rfl rfl ?_; (clear F a M; try clear w); intro b3 w M a F
  refine s_I F rfl rfl rfl rfl rfl rfl ?_; clear F a; intro a F
  refine t_endM M ?_; (clear M; try clear w); intro w M
  refine wp_seq ?_
  refine wp_seq ?_
  refine wp_region_l [.ind, .ind, .ind] ([0, 1, 2]) rfl ?_
  refine s_I F rfl rfl rfl rfl rfl rfl ?_; clear F a; intro a F
  refine s_len F rfl rfl rfl rfl sl_44_E2 rfl ?_; clear F a; intro a F
  refine s_bin F rfl rfl rfl rfl rfl rfl rfl ?_; clear F a; intro a F
  refine t_endM M ?_; (clear M; try clear w); intro w M
  refine c_if F rfl ?_ ?_
  ·
    clear F; intro hc0 F
    try rw [hc0] at F
    replace hc0 := of_decide_eq_true hc0
    refine wp_seq ?_
    replace F := F.keep [0, 1, 2, 3, 6] rfl
    refine wp_region_l [.wr, .ind] ([0, 1]) rfl ?_
    refine s_cq F M rfl rfl rfl rfl rfl (rfl : _ = some []) cb_26_E2 (fun nd_ => c26 _) ?_; (clear F a M; try clear w); rintro v w rfl M a F
    refine s_I F rfl rfl rfl rfl rfl rfl ?_; clear F a; intro a F
    refine t_endM M ?_; (clear M; try clear w); intro w M
    refine wp_ret ?_
    refine ret1 F rfl rfl ?_
    -- end 0
    exact ⟨_, rfl, rfl, M.chg⟩
  ·
    clear F; intro hc1 F
    try rw [hc1] at F
    replace hc1 := of_decide_eq_false hc1
    refine wp_skip ?_
    refine wp_seq ?_
    refine cutX (X := (Nat) × (Nat) × (Nat)) (m0 := []) F [0, 1, 2, 3, 6] rfl M (fun ((b, c, b8) : (Nat) × (Nat) × (Nat)) => True) (fun ((b, c, b8) : (Nat) × (Nat) × (Nat)) => [(7, .pointer (some ⟨b, 0, none⟩)), (8, .pointer (some ⟨b8, 0, none⟩))]) (fun ((b, c, b8) : (Nat) × (Nat) × (Nat)) => [gB b c (Gt.new m e), gC c (Gt.new m e), blk b8 (.cells #[.int .i64 (Gt.new m e).begin_, .int .i64 (Gt.new m e).each, .int .i64 (Gt.new m e).now, .int .i64 (Gt.new m e).most] 56 (0, 0))]) ?_ ?_
    ·
      replace F := F.keep [0, 1, 2, 3, 6] rfl
      refine wp_region_t [.ind, .rd, .ind, .rd, .wr, .ind, .rd, .ind, .rd, .wr, .wr, .ind, .wr] [(1, 10), (3, 10), (6, 4), (6, 10), (8, 4), (8, 10)] (.one 0 (.one 1 (.one 2 (.one 3 (.one 5 (.one 6 (.one 7 (.one 8 (.two 4 10 (.two 9 10 (otOf [10, 11, 12]) (otOf [9, 11, 12])) (otOf [4, 9, 11, 12])))))))))) mixed (by kernel_rfl) ?_
      refine s_fa0 F rfl rfl rfl rfl fa_52_0_E2 rfl ?_; clear F a; intro a F
      refine s_ldL F rfl rfl rfl rfl sc_3_E2 rfl (by exact cell_of_blk M.h0 (lit rfl)) ?_; clear F a; intro a F
      refine s_fa0 F rfl rfl rfl rfl fa_52_1_E2 rfl ?_; clear F a; intro a F
      refine s_ldL F rfl rfl rfl rfl sc_3_E2 rfl (by exact cell_of_blk M.h0 (lit rfl)) ?_; clear F a; intro a F
      refine s_fa0 F rfl rfl rfl rfl fa_52_0_E2 rfl ?_; clear F a; intro a F
      refine s_ldL F rfl rfl rfl rfl sc_3_E2 rfl (by exact cell_of_blk M.h0 (lit rfl)) ?_; clear F a; intro a F
      refine s_fa0 F rfl rfl rfl rfl fa_52_1_E2 rfl ?_; clear F a; intro a F
      refine s_ldL F rfl rfl rfl rfl sc_3_E2 rfl (by exact cell_of_blk M.h0 (lit rfl)) ?_; clear F a; intro a F
      refine t_two ?_ ?_
      ·
        refine s_callP (m := []) F M rfl rfl rfl rfl rfl (rfl : _ = some [_, _]) cb_27_E2 (fun nd_ => c27 (m) (e) _) (fun _ x w _ M => by (try simp only [List.cons_append, List.nil_append] at M); exact (by (refine pend_take (by exact cell_of_blk M.h2 (lit rfl)) ?_); (refine pend_take (by exact cell_of_blk M.h2 (lit rfl)) ?_); (refine pend_skip rfl ?_); (refine pend_skip rfl ?_); exact pend_none)) ?_; (clear F a M; try clear w); rintro v x_ w rfl M a F; (try simp only [List.cons_append, List.nil_append] at M)
        obtain ⟨b, c⟩ := x_
        refine t_two ?_ ?_
        ·
          refine s_cqL F M rfl rfl rfl rfl rfl (rfl : _ = some [_, _]) cb_28_E2 (fun nd_ => c28 _ _ _) (fun _ w _ M => (by (refine pend_skip rfl ?_); (refine pend_skip rfl ?_); (refine pend_skip rfl ?_); (refine pend_skip rfl ?_); exact pend_none)) ?_; (clear F a M; try clear w); rintro v w rfl M a F
          refine s_alcL F M rfl rfl rfl rfl zr_56_E2 rfl (fun b w M => (by (refine pend_take (by exact cell_of_blk M.h3 (lit rfl)) ?_); (refine pend_take (by exact cell_of_blk M.h3 (lit rfl)) ?_); (refine pend_take (by exact cell_of_blk M.h3 (lit rfl)) ?_); (refine pend_take (by exact cell_of_blk M.h3 (lit rfl)) ?_); exact pend_none)) ?_; (clear F a M; try clear w); intro b8 w M a F
          refine s_I F rfl rfl rfl rfl rfl rfl ?_; clear F a; intro a F
          refine s_stWL F M rfl rfl rfl sz_56_E2 rfl rfl rfl rfl rfl (fun w M => (by (refine pend_skip rfl ?_); (refine pend_skip rfl ?_); (refine pend_skip rfl ?_); (refine pend_skip rfl ?_); exact pend_none)) ?_; (clear M; try clear w); intro w M
          refine t_endM M ?_; (clear M; try clear w); intro w M
          refine joined ((b), (c), (b8)) trivial (F.keep [7, 8, 0, 1, 2, 3, 6] rfl) ?_
          try dsimp only [List.cons_append, List.nil_append]
          refine M.pick ?_; repeat (first | exact PkG.nil | refine PkG.cons 0 rfl rfl ?_ | refine PkG.cons 1 rfl rfl ?_ | refine PkG.cons 2 rfl rfl ?_ | refine PkG.cons 3 rfl rfl ?_)
        ·
          refine s_alcL F M rfl rfl rfl rfl zr_56_E2 rfl (fun b w M => (by (refine pend_take (by exact cell_of_blk M.h3 (lit rfl)) ?_); (refine pend_take (by exact cell_of_blk M.h3 (lit rfl)) ?_); (refine pend_take (by exact cell_of_blk M.h3 (lit rfl)) ?_); (refine pend_take (by exact cell_of_blk M.h3 (lit rfl)) ?_); exact pend_none)) ?_; (clear F a M; try clear w); intro b8 w M a F
          refine s_cqL F M rfl rfl rfl rfl rfl (rfl : _ = some [_, _]) cb_28_E2 (fun nd_ => c28 _ _ _) (fun _ w _ M => (by (refine pend_skip rfl ?_); (refine pend_skip rfl ?_); (refine pend_skip rfl ?_); (refine pend_skip rfl ?_); exact pend_none)) ?_; (clear F a M; try clear w); rintro v w rfl M a F
          refine s_I F rfl rfl rfl rfl rfl rfl ?_; clear F a; intro a F
          refine s_stWL F M rfl rfl rfl sz_56_E2 rfl rfl rfl rfl rfl (fun w M => (by (refine pend_skip rfl ?_); (refine pend_skip rfl ?_); (refine pend_skip rfl ?_); (refine pend_skip rfl ?_); exact pend_none)) ?_; (clear M; try clear w); intro w M
          refine t_endM M ?_; (clear M; try clear w); intro w M
          refine joined ((b), (c), (b8)) trivial (F.keep [7, 8, 0, 1, 2, 3, 6] rfl) ?_
          try dsimp only [List.cons_append, List.nil_append]
          refine M.pick ?_; repeat (first | exact PkG.nil | refine PkG.cons 0 rfl rfl ?_ | refine PkG.cons 1 rfl rfl ?_ | refine PkG.cons 2 rfl rfl ?_ | refine PkG.cons 3 rfl rfl ?_)
      ·
        refine s_alcL F M rfl rfl rfl rfl zr_56_E2 rfl (fun b w M => (by (refine pend_take (by exact cell_of_blk M.h1 (lit rfl)) ?_); (refine pend_take (by exact cell_of_blk M.h1 (lit rfl)) ?_); (refine pend_take (by exact cell_of_blk M.h1 (lit rfl)) ?_); (refine pend_take (by exact cell_of_blk M.h1 (lit rfl)) ?_); exact pend_none)) ?_; (clear F a M; try clear w); intro b8 w M a F
        refine s_callP (m := []) F M rfl rfl rfl rfl rfl (rfl : _ = some [_, _]) cb_27_E2 (fun nd_ => c27 (m) (e) _) (fun _ x w _ M => by (try simp only [List.cons_append, List.nil_append] at M); exact (by (refine pend_take (by exact cell_of_blk M.h3 (lit rfl)) ?_); (refine pend_take (by exact cell_of_blk M.h3 (lit rfl)) ?_); (refine pend_skip rfl ?_); (refine pend_skip rfl ?_); exact pend_none)) ?_; (clear F a M; try clear w); rintro v x_ w rfl M a F; (try simp only [List.cons_append, List.nil_append] at M)
        obtain ⟨b, c⟩ := x_
        refine s_cqL F M rfl rfl rfl rfl rfl (rfl : _ = some [_, _]) cb_28_E2 (fun nd_ => c28 _ _ _) (fun _ w _ M => (by (refine pend_skip rfl ?_); (refine pend_skip rfl ?_); (refine pend_skip rfl ?_); (refine pend_skip rfl ?_); exact pend_none)) ?_; (clear F a M; try clear w); rintro v w rfl M a F
        refine s_I F rfl rfl rfl rfl rfl rfl ?_; clear F a; intro a F
        refine s_stWL F M.f2 rfl rfl rfl sz_56_E2 rfl rfl rfl rfl rfl (fun w M => (by (refine pend_skip rfl ?_); (refine pend_skip rfl ?_); (refine pend_skip rfl ?_); (refine pend_skip rfl ?_); exact pend_none)) ?_; (clear M; try clear w); intro w M
        refine t_endM M ?_; (clear M; try clear w); intro w M
        refine joined ((b), (c), (b8)) trivial (F.keep [7, 8, 0, 1, 2, 3, 6] rfl) ?_
        try dsimp only [List.cons_append, List.nil_append]
        refine M.pick ?_; repeat (first | exact PkG.nil | refine PkG.cons 0 rfl rfl ?_ | refine PkG.cons 1 rfl rfl ?_ | refine PkG.cons 2 rfl rfl ?_ | refine PkG.cons 3 rfl rfl ?_)
    ·
      clear F M; clear a; (try clear w)
      rintro ⟨b, c, b8⟩ a w _ F M; try dsimp only at F M
      try simp only [List.cons_append, List.nil_append] at F M
      refine wp_seq ?_
      refine wp_seq ?_
      refine wp_region_l [.ind] ([0]) rfl ?_
      refine s_I F rfl rfl rfl rfl rfl rfl ?_; clear F a; intro a F
      refine t_endM M ?_; (clear M; try clear w); intro w M
      refine wp_block ?_
      have M1 : Sep _ _ _ (blk b8 _ :: _) := M.f2; replace M := M1; clear M1
      have M1 : Sep _ _ _ (gC _ _ :: _) := M.f2; replace M := M1; clear M1
      have M1 : Sep _ _ _ (gB b _ _ :: _) := M.f2; replace M := M1; clear M1
      refine loopX (X := (Int) × (Gt) × (Nat)) F [0, 1, 2, 3, 7, 8] rfl (fun ((i, g, c) : (Int) × (Gt) × (Nat)) => (0 ≤ i) ∧ (i ≤ l.length) ∧ (g.Wf)) (fun ((i, g, c) : (Int) × (Gt) × (Nat)) => [(9, .int .i64 i)]) (fun ((i, g, c) : (Int) × (Gt) × (Nat)) => [gB b c g, gC c g, blk b8 (.cells #[.int .i64 (g).begin_, .int .i64 (g).each, .int .i64 (g).now, .int .i64 (g).most] 56 (0, 0))]) (fun ((i, g, c) : (Int) × (Gt) × (Nat)) => l.length - i.toNat) ((0), (Gt.new m e), (c)) M ⟨(by omega), (by omega), (Gt.new_wf _ _)⟩ (F.keep [9, 0, 1, 2, 3, 7, 8] rfl) ?_
      clear F M; clear a; (try clear w)
      rintro ⟨i, g, c⟩ a w ⟨i0, i1, W⟩ F M; try dsimp only at F M
      try simp only [List.cons_append, List.nil_append] at F M
      try dsimp only at i0 i1 W
      refine wp_seq ?_
      refine wp_seq ?_
      refine wp_region_l [.ind, .ind, .ind, .ind] ([0, 1, 2, 3]) rfl ?_
      refine s_I F rfl rfl rfl rfl rfl rfl ?_; clear F a; intro a F
      refine s_I F rfl rfl rfl rfl rfl rfl ?_; clear F a; intro a F
      refine s_len F rfl rfl rfl rfl sl_44_E2 rfl ?_; clear F a; intro a F
      refine s_bin F rfl rfl rfl rfl rfl rfl rfl ?_; clear F a; intro a F
      refine t_endM M ?_; (clear M; try clear w); intro w M
      refine c_if F rfl ?_ ?_
      ·
        clear F; intro hc2 F
        try rw [hc2] at F
        replace hc2 := of_decide_eq_true hc2
        refine wp_skip ?_
        refine wp_seq ?_
        refine wp_block ?_
        refine wp_seq ?_
        refine wp_seq ?_
        replace F := F.keep [0, 1, 2, 3, 7, 8, 9] rfl
        refine wp_region_l [.ind, .ind, .ind, .rd, .ind, .ind, .ind, .ind, .ind, .rd, .ind, .ind] ([0, 1, 2, 3, 4, 5, 6, 7, 8, 9, 10, 11]) rfl ?_
        refine s_I F rfl rfl rfl rfl rfl rfl ?_; clear F a; intro a F
        refine s_I F rfl rfl rfl rfl rfl rfl ?_; clear F a; intro a F
        refine s_ix F rfl rfl rfl rfl sl_44_E2 rfl rfl (by exact M.chg.ro hro) (by omega) (by omega) ?_; clear F a; intro e33 he33 a F
        refine s_ld F rfl rfl rfl rfl sc_3_E2 rfl (by exact rdX0 (M.chg.ro hro) (by intro e; rfl) he33 rfl) ?_; clear F a; intro a F
        refine s_bin F rfl rfl rfl rfl rfl rfl rfl ?_; clear F a; intro a F
        refine s_I F rfl rfl rfl rfl rfl rfl ?_; clear F a; intro a F
        refine bsplit F 36 rfl ?_ ?_
        ·
          clear F; intro hc3 F
          try rw [hc3] at F
          replace hc3 := of_decide_eq_true hc3
          refine s_I F rfl rfl rfl rfl rfl rfl ?_; clear F a; intro a F
          refine s_I F rfl rfl rfl rfl rfl rfl ?_; clear F a; intro a F
          refine s_ix F rfl rfl rfl rfl sl_44_E2 rfl rfl (by exact M.chg.ro hro) (by omega) (by omega) ?_; clear F a; intro e39 he39 a F
          try (obtain rfl := Option.some.inj (he33.symm.trans he39))
          refine s_ld F rfl rfl rfl rfl sc_3_E2 rfl (by exact rdX0 (M.chg.ro hro) (by intro e; rfl) he39 rfl) ?_; clear F a; intro a F
          refine s_bin F rfl rfl rfl rfl rfl rfl rfl ?_; clear F a; intro a F
          refine s_I F rfl rfl rfl rfl rfl rfl ?_; clear F a; intro a F
          refine t_endM M ?_; (clear M; try clear w); intro w M
          have M1 : Sep _ _ _ (blk b8 _ :: _) := M.f2; replace M := M1; clear M1
          have M1 : Sep _ _ _ (blk c _ :: _) := M.f2; replace M := M1; clear M1
          have M1 : Sep _ _ _ (blk b _ :: _) := M.f2; replace M := M1; clear M1
          refine cutX (X := (Gt) × (Nat)) (m0 := [_, _, _]) F [0, 1, 2, 3, 7, 8, 9] rfl M (fun ((g2_, c2) : (Gt) × (Nat)) => (g2_.Wf)) (fun ((g2_, c2) : (Gt) × (Nat)) => []) (fun ((g2_, c2) : (Gt) × (Nat)) => [gB b c2 g2_, gC c2 g2_, blk b8 (.cells #[.int .i64 (g2_).begin_, .int .i64 (g2_).each, .int .i64 (g2_).now, .int .i64 (g2_).most] 56 (0, 0))]) ?_ ?_
          ·
            refine c_if F rfl ?_ ?_
            ·
              clear F; intro hc4 F
              try rw [hc4] at F
              replace hc4 := of_decide_eq_true hc4
              refine wp_seq ?_
              replace F := F.keep [0, 1, 2, 3, 7, 8, 9] rfl
              refine wp_region_l [.ind, .wr] ([0, 1]) rfl ?_
              refine s_I F rfl rfl rfl rfl rfl rfl ?_; clear F a; intro a F
              have M1 : Sep _ _ _ (gC c _ :: _) := M.f1; replace M := M1; clear M1
              have M1 : Sep _ _ _ (gB b c _ :: _) := M.f1; replace M := M1; clear M1
              refine s_call (m := [_, _]) F M rfl rfl rfl rfl rfl (rfl : _ = some [_]) cb_29_E2 (fun nd_ => c29 b c g _ ((M.drewN nd_).own.left (m := [_, _]))) ?_; (clear F a M; try clear w); rintro v c2 w rfl M a F; (try simp only [List.cons_append, List.nil_append] at M)
              refine t_endM M ?_; (clear M; try clear w); intro w M
              replace F := F.keep [0, 1, 2, 3, 7, 8, 9] rfl
              refine wp_region_l [.rd, .wr, .wr] ([0, 1, 2]) rfl ?_
              refine s_lda F rfl rfl rfl rfl ag_56_E2 rfl rfl (cells_whole M.h2) ?_; clear F a; intro a F
              refine s_cq F M rfl rfl rfl rfl rfl (rfl : _ = some [_]) cb_30_E2 (fun nd_ => c30 g _) ?_; (clear F a M; try clear w); rintro v w rfl M a F
              refine s_stW F M.f2 rfl rfl rfl sz_56_E2 rfl rfl rfl rfl rfl ?_; (clear M; try clear w); intro w M
              refine t_endM M ?_; (clear M; try clear w); intro w M
              refine joined ((g.crash), (c2)) W.crash (F.keep [0, 1, 2, 3, 7, 8, 9] rfl) ?_; (try dsimp only [List.cons_append, List.nil_append]); (refine M.pick ?_; repeat (first | exact PkG.nil | refine PkG.cons 0 rfl rfl ?_ | refine PkG.cons 1 rfl rfl ?_ | refine PkG.cons 2 rfl rfl ?_ | refine PkG.cons 3 rfl rfl ?_)); done
            ·
              clear F; intro hc5 F
              try rw [hc5] at F
              replace hc5 := of_decide_eq_false hc5
              refine wp_seq ?_
              replace F := F.keep [0, 1, 2, 3, 7, 8, 9] rfl
              refine wp_region_l [.ind, .ind, .ind, .ind, .rd, .wr] ([0, 1, 2, 3, 4, 5]) rfl ?_
              refine s_I F rfl rfl rfl rfl rfl rfl ?_; clear F a; intro a F
              refine s_I F rfl rfl rfl rfl rfl rfl ?_; clear F a; intro a F
              refine s_I F rfl rfl rfl rfl rfl rfl ?_; clear F a; intro a F
              refine s_ix F rfl rfl rfl rfl sl_44_E2 rfl rfl (by exact M.chg.ro hro) (by omega) (by omega) ?_; clear F a; intro e50 he50 a F
              try (obtain rfl := Option.some.inj (he33.symm.trans he50))
              try (obtain rfl := Option.some.inj (he39.symm.trans he50))
              refine s_ld F rfl rfl rfl rfl sc_3_E2 rfl (by exact rdX0 (M.chg.ro hro) (by intro e; rfl) he50 rfl) ?_; clear F a; intro a F
              have M1 : Sep _ _ _ (gC c _ :: _) := M.f1; replace M := M1; clear M1
              have M1 : Sep _ _ _ (gB b c _ :: _) := M.f1; replace M := M1; clear M1
              refine s_call (m := [_, _]) F M rfl rfl rfl rfl rfl (rfl : _ = some [_, _]) cb_31_E2 (fun nd_ => c31 b c (g) (e33) _ ((M.drewN nd_).own.left (m := [_, _]))) ?_; (clear F a M; try clear w); rintro v x w rfl M a F; (try simp only [List.cons_append, List.nil_append] at M)
              refine t_endM M ?_; (clear M; try clear w); intro w M
              replace F := F.keep [0, 1, 2, 3, 7, 8, 9] rfl
              refine wp_region_t [.rd, .ind, .ind, .ind, .rd, .wr, .wr] [] (otOf [0, 1, 2, 3, 4, 5, 6]) mixed (by kernel_rfl) ?_
              refine s_lda F rfl rfl rfl rfl ag_56_E2 rfl rfl (cells_whole M.h2) ?_; clear F a; intro a F
              refine s_I F rfl rfl rfl rfl rfl rfl ?_; clear F a; intro a F
              refine s_I F rfl rfl rfl rfl rfl rfl ?_; clear F a; intro a F
              refine s_ix F rfl rfl rfl rfl sl_44_E2 rfl rfl (by exact M.chg.ro hro) (by omega) (by omega) ?_; clear F a; intro e56 he56 a F
              try (obtain rfl := Option.some.inj (he33.symm.trans he56))
              try (obtain rfl := Option.some.inj (he39.symm.trans he56))
              try (obtain rfl := Option.some.inj (he50.symm.trans he56))
              refine s_ld F rfl rfl rfl rfl sc_3_E2 rfl (by exact rdX0 (M.chg.ro hro) (by intro e; rfl) he56 rfl) ?_; clear F a; intro a F
              refine s_cq F M rfl rfl rfl rfl rfl (rfl : _ = some [_, _]) cb_32_E2 (fun nd_ => c32 g e33 _) ?_; (clear F a M; try clear w); rintro v w rfl M a F
              refine s_stW F M.f2 rfl rfl rfl sz_56_E2 rfl rfl rfl rfl rfl ?_; (clear M; try clear w); intro w M
              refine t_endM M ?_; (clear M; try clear w); intro w M
              refine joined ((g.tick e33), (c)) (W.tick _) (F.keep [0, 1, 2, 3, 7, 8, 9] rfl) ?_; (try dsimp only [List.cons_append, List.nil_append]); (refine M.pick ?_; repeat (first | exact PkG.nil | refine PkG.cons 0 rfl rfl ?_ | refine PkG.cons 1 rfl rfl ?_ | refine PkG.cons 2 rfl rfl ?_ | refine PkG.cons 3 rfl rfl ?_)); done
          ·
            clear F M; clear a; (try clear w)
            rintro ⟨g2_, c2⟩ a w W2 F M; try dsimp only at F M
            try simp only [List.cons_append, List.nil_append] at F M
            try dsimp only at W2
            refine wp_seq ?_
            refine wp_region_t [.ind, .wr, .ind, .rd, .ind, .ind, .ind, .ind, .wr, .rd, .ind, .wr, .ind, .ind] [(3, 1), (9, 8)] (otOf [0, 2, 3, 1, 4, 5, 6, 7, 9, 10, 8, 11, 12, 13]) mixed (by kernel_rfl) ?_
            refine s_I F rfl rfl rfl rfl rfl rfl ?_; clear F a; intro a F
            refine s_fa0 F rfl rfl rfl rfl fa_56_2_E2 rfl ?_; clear F a; intro a F
            refine s_ldL F rfl rfl rfl rfl sc_3_E2 rfl (by exact cell_of_blk M.h2 (lit rfl)) ?_; clear F a; intro a F
            refine s_cqL F M rfl rfl rfl rfl rfl (rfl : _ = some [_]) cb_33_E2 (fun nd_ => c33 b c2 g2_ _ (by exact M.h0) (by exact M.h1)) (fun _ w _ M => (by (refine pend_take (by exact cell_of_blk M.h2 (lit rfl)) ?_); exact pend_none)) ?_; (clear F a M; try clear w); rintro v w rfl M a F
            refine s_bin F rfl rfl rfl rfl rfl rfl rfl ?_; clear F a; intro a F
            refine s_I F rfl rfl rfl rfl rfl rfl ?_; clear F a; intro a F
            refine bsplit F 64 rfl ?_ ?_
            ·
              clear F; intro hc6 F
              try rw [hc6] at F
              replace hc6 := nd1 hc6
              exact absurd rfl hc6
            ·
              clear F; intro hc7 F
              try rw [hc7] at F
              replace hc7 := nd0 hc7
              refine s_I F rfl rfl rfl rfl rfl rfl ?_; clear F a; intro a F
              refine s_I F rfl rfl rfl rfl rfl rfl ?_; clear F a; intro a F
              refine s_ldaL F rfl rfl rfl rfl ag_56_E2 rfl rfl (cells_whole M.h2) ?_; clear F a; intro a F
              refine s_I F rfl rfl rfl rfl rfl rfl ?_; clear F a; intro a F
              refine s_cqL F M rfl rfl rfl rfl rfl (rfl : _ = some [_, _]) cb_34_E2 (fun nd_ => c34 b c2 (g2_) (W2) (ep) _ (by exact M.h0) (by exact M.h1)) (fun _ w _ M => (by (refine pend_take (by exact cells_whole M.h2) ?_); (refine pend_skip rfl ?_); exact pend_none)) ?_; (clear F a M; try clear w); rintro v w rfl M a F
              refine s_cqL F M rfl rfl rfl rfl rfl (rfl : _ = some [_, _]) cb_35_E2 (fun nd_ => c35 g2_ W2 ep _) (fun _ w _ M => (by (refine pend_skip rfl ?_); (refine pend_skip rfl ?_); exact pend_none)) ?_; (clear F a M; try clear w); rintro v w rfl M a F
              refine s_bne F rfl rfl rfl rfl bo_4_E2 rfl rfl ?_; clear F a; intro a F
              refine s_I F rfl rfl rfl rfl rfl rfl ?_; clear F a; intro a F
              refine t_endM M ?_; (clear M; try clear w); intro w M
              refine c_if F rfl ?_ ?_
              ·
                clear F; intro hc8 F
                try rw [hc8] at F
                replace hc8 := nd1 hc8
                exact absurd hc8 (by simp)
              ·
                clear F; intro hc9 F
                try rw [hc9] at F
                replace hc9 := nd0 hc9
                refine wp_skip ?_
                replace F := F.keep [0, 1, 2, 3, 7, 8, 9] rfl
                refine wp_region_l [.ind, .ind, .ind] ([0, 1, 2]) rfl ?_
                refine s_I F rfl rfl rfl rfl rfl rfl ?_; clear F a; intro a F
                refine s_add F rfl rfl rfl rfl rfl rfl (by unfold In64; omega) ?_; clear F a; intro a F
                refine s_I F rfl rfl rfl rfl rfl rfl ?_; clear F a; intro a F
                refine t_endM M ?_; (clear M; try clear w); intro w M
                refine again ((i + 1), (g2_), (c2)) (by show _ < _; (try dsimp only); omega) ⟨(by omega), (by assumption), W2⟩ (F.keep [9, 0, 1, 2, 3, 7, 8] rfl) ?_
                try dsimp only [List.cons_append, List.nil_append]
                refine M.pick ?_; repeat (first | exact PkG.nil | refine PkG.cons 0 rfl rfl ?_ | refine PkG.cons 1 rfl rfl ?_ | refine PkG.cons 2 rfl rfl ?_ | refine PkG.cons 3 rfl rfl ?_)
        ·
          clear F; intro hc10 F
          try rw [hc10] at F
          replace hc10 := of_decide_eq_false hc10
          refine s_no F rfl rfl rfl rfl ?_; clear F a; intro a F
          refine s_no F rfl rfl rfl rfl ?_; clear F a; intro a F
          refine s_no F rfl rfl rfl rfl ?_; clear F a; intro a F
          refine s_no F rfl rfl rfl rfl ?_; clear F a; intro a F
          refine s_no F rfl rfl rfl rfl ?_; clear F a; intro a F
          refine s_I F rfl rfl rfl rfl rfl rfl ?_; clear F a; intro a F
          refine t_endM M ?_; (clear M; try clear w); intro w M
          have M1 : Sep _ _ _ (blk b8 _ :: _) := M.f2; replace M := M1; clear M1
          have M1 : Sep _ _ _ (blk c _ :: _) := M.f2; replace M := M1; clear M1
          have M1 : Sep _ _ _ (blk b _ :: _) := M.f2; replace M := M1; clear M1
          refine cutX (X := (Gt) × (Nat)) (m0 := [_, _, _]) F [0, 1, 2, 3, 7, 8, 9] rfl M (fun ((g2_, c2) : (Gt) × (Nat)) => (g2_.Wf)) (fun ((g2_, c2) : (Gt) × (Nat)) => []) (fun ((g2_, c2) : (Gt) × (Nat)) => [gB b c2 g2_, gC c2 g2_, blk b8 (.cells #[.int .i64 (g2_).begin_, .int .i64 (g2_).each, .int .i64 (g2_).now, .int .i64 (g2_).most] 56 (0, 0))]) ?_ ?_
          ·
            refine c_f F rfl ?_
            refine wp_seq ?_
            replace F := F.keep [0, 1, 2, 3, 7, 8, 9] rfl
            refine wp_region_l [.ind, .ind, .ind, .ind, .rd, .wr] ([0, 1, 2, 3, 4, 5]) rfl ?_
            refine s_I F rfl rfl rfl rfl rfl rfl ?_; clear F a; intro a F
            refine s_I F rfl rfl rfl rfl rfl rfl ?_; clear F a; intro a F
            refine s_I F rfl rfl rfl rfl rfl rfl ?_; clear F a; intro a F
            refine s_ix F rfl rfl rfl rfl sl_44_E2 rfl rfl (by exact M.chg.ro hro) (by omega) (by omega) ?_; clear F a; intro e50 he50 a F
            try (obtain rfl := Option.some.inj (he33.symm.trans he50))
            refine s_ld F rfl rfl rfl rfl sc_3_E2 rfl (by exact rdX0 (M.chg.ro hro) (by intro e; rfl) he50 rfl) ?_; clear F a; intro a F
            have M1 : Sep _ _ _ (gC c _ :: _) := M.f1; replace M := M1; clear M1
            have M1 : Sep _ _ _ (gB b c _ :: _) := M.f1; replace M := M1; clear M1
            refine s_call (m := [_, _]) F M rfl rfl rfl rfl rfl (rfl : _ = some [_, _]) cb_31_E2 (fun nd_ => c31 b c (g) (e33) _ ((M.drewN nd_).own.left (m := [_, _]))) ?_; (clear F a M; try clear w); rintro v x w rfl M a F; (try simp only [List.cons_append, List.nil_append] at M)
            refine t_endM M ?_; (clear M; try clear w); intro w M
            replace F := F.keep [0, 1, 2, 3, 7, 8, 9] rfl
            refine wp_region_t [.rd, .ind, .ind, .ind, .rd, .wr, .wr] [] (otOf [0, 1, 2, 3, 4, 5, 6]) mixed (by kernel_rfl) ?_
            refine s_lda F rfl rfl rfl rfl ag_56_E2 rfl rfl (cells_whole M.h2) ?_; clear F a; intro a F
            refine s_I F rfl rfl rfl rfl rfl rfl ?_; clear F a; intro a F
            refine s_I F rfl rfl rfl rfl rfl rfl ?_; clear F a; intro a F
            refine s_ix F rfl rfl rfl rfl sl_44_E2 rfl rfl (by exact M.chg.ro hro) (by omega) (by omega) ?_; clear F a; intro e56 he56 a F
            try (obtain rfl := Option.some.inj (he33.symm.trans he56))
            try (obtain rfl := Option.some.inj (he50.symm.trans he56))
            refine s_ld F rfl rfl rfl rfl sc_3_E2 rfl (by exact rdX0 (M.chg.ro hro) (by intro e; rfl) he56 rfl) ?_; clear F a; intro a F
            refine s_cq F M rfl rfl rfl rfl rfl (rfl : _ = some [_, _]) cb_32_E2 (fun nd_ => c32 g e33 _) ?_; (clear F a M; try clear w); rintro v w rfl M a F
            refine s_stW F M.f2 rfl rfl rfl sz_56_E2 rfl rfl rfl rfl rfl ?_; (clear M; try clear w); intro w M
            refine t_endM M ?_; (clear M; try clear w); intro w M
            refine joined ((g.tick e33), (c)) (W.tick _) (F.keep [0, 1, 2, 3, 7, 8, 9] rfl) ?_; (try dsimp only [List.cons_append, List.nil_append]); (refine M.pick ?_; repeat (first | exact PkG.nil | refine PkG.cons 0 rfl rfl ?_ | refine PkG.cons 1 rfl rfl ?_ | refine PkG.cons 2 rfl rfl ?_ | refine PkG.cons 3 rfl rfl ?_)); done
          ·
            clear F M; clear a; (try clear w)
            rintro ⟨g2_, c2⟩ a w W2 F M; try dsimp only at F M
            try simp only [List.cons_append, List.nil_append] at F M
            try dsimp only at W2
            refine wp_seq ?_
            refine wp_region_t [.ind, .wr, .ind, .rd, .ind, .ind, .ind, .ind, .wr, .rd, .ind, .wr, .ind, .ind] [(3, 1), (9, 8)] (otOf [0, 2, 3, 1, 4, 5, 6, 7, 9, 10, 8, 11, 12, 13]) mixed (by kernel_rfl) ?_
            refine s_I F rfl rfl rfl rfl rfl rfl ?_; clear F a; intro a F
            refine s_fa0 F rfl rfl rfl rfl fa_56_2_E2 rfl ?_; clear F a; intro a F
            refine s_ldL F rfl rfl rfl rfl sc_3_E2 rfl (by exact cell_of_blk M.h2 (lit rfl)) ?_; clear F a; intro a F
            refine s_cqL F M rfl rfl rfl rfl rfl (rfl : _ = some [_]) cb_33_E2 (fun nd_ => c33 b c2 g2_ _ (by exact M.h0) (by exact M.h1)) (fun _ w _ M => (by (refine pend_take (by exact cell_of_blk M.h2 (lit rfl)) ?_); exact pend_none)) ?_; (clear F a M; try clear w); rintro v w rfl M a F
            refine s_bin F rfl rfl rfl rfl rfl rfl rfl ?_; clear F a; intro a F
            refine s_I F rfl rfl rfl rfl rfl rfl ?_; clear F a; intro a F
            refine bsplit F 64 rfl ?_ ?_
            ·
              clear F; intro hc11 F
              try rw [hc11] at F
              replace hc11 := nd1 hc11
              exact absurd rfl hc11
            ·
              clear F; intro hc12 F
              try rw [hc12] at F
              replace hc12 := nd0 hc12
              refine s_I F rfl rfl rfl rfl rfl rfl ?_; clear F a; intro a F
              refine s_I F rfl rfl rfl rfl rfl rfl ?_; clear F a; intro a F
              refine s_ldaL F rfl rfl rfl rfl ag_56_E2 rfl rfl (cells_whole M.h2) ?_; clear F a; intro a F
              refine s_I F rfl rfl rfl rfl rfl rfl ?_; clear F a; intro a F
              refine s_cqL F M rfl rfl rfl rfl rfl (rfl : _ = some [_, _]) cb_34_E2 (fun nd_ => c34 b c2 (g2_) (W2) (ep) _ (by exact M.h0) (by exact M.h1)) (fun _ w _ M => (by (refine pend_take (by exact cells_whole M.h2) ?_); (refine pend_skip rfl ?_); exact pend_none)) ?_; (clear F a M; try clear w); rintro v w rfl M a F
              refine s_cqL F M rfl rfl rfl rfl rfl (rfl : _ = some [_, _]) cb_35_E2 (fun nd_ => c35 g2_ W2 ep _) (fun _ w _ M => (by (refine pend_skip rfl ?_); (refine pend_skip rfl ?_); exact pend_none)) ?_; (clear F a M; try clear w); rintro v w rfl M a F
              refine s_bne F rfl rfl rfl rfl bo_4_E2 rfl rfl ?_; clear F a; intro a F
              refine s_I F rfl rfl rfl rfl rfl rfl ?_; clear F a; intro a F
              refine t_endM M ?_; (clear M; try clear w); intro w M
              refine c_if F rfl ?_ ?_
              ·
                clear F; intro hc13 F
                try rw [hc13] at F
                replace hc13 := nd1 hc13
                exact absurd hc13 (by simp)
              ·
                clear F; intro hc14 F
                try rw [hc14] at F
                replace hc14 := nd0 hc14
                refine wp_skip ?_
                replace F := F.keep [0, 1, 2, 3, 7, 8, 9] rfl
                refine wp_region_l [.ind, .ind, .ind] ([0, 1, 2]) rfl ?_
                refine s_I F rfl rfl rfl rfl rfl rfl ?_; clear F a; intro a F
                refine s_add F rfl rfl rfl rfl rfl rfl (by unfold In64; omega) ?_; clear F a; intro a F
                refine s_I F rfl rfl rfl rfl rfl rfl ?_; clear F a; intro a F
                refine t_endM M ?_; (clear M; try clear w); intro w M
                refine again ((i + 1), (g2_), (c2)) (by show _ < _; (try dsimp only); omega) ⟨(by omega), (by assumption), W2⟩ (F.keep [9, 0, 1, 2, 3, 7, 8] rfl) ?_
                try dsimp only [List.cons_append, List.nil_append]
                refine M.pick ?_; repeat (first | exact PkG.nil | refine PkG.cons 0 rfl rfl ?_ | refine PkG.cons 1 rfl rfl ?_ | refine PkG.cons 2 rfl rfl ?_ | refine PkG.cons 3 rfl rfl ?_)
      ·
        clear F; intro hc15 F
        try rw [hc15] at F
        replace hc15 := of_decide_eq_false hc15
        refine wp_exit ?_
        refine wp_seq ?_
        refine wp_seq ?_
        replace F := F.keep [0, 1, 2, 3, 7, 8, 9] rfl
        refine wp_region_l [.ind] ([0]) rfl ?_
        refine s_I F rfl rfl rfl rfl rfl rfl ?_; clear F a; intro a F
        refine t_endM M ?_; (clear M; try clear w); intro w M
        refine wp_block ?_
        refine loopX (X := (Int)) F [0, 1, 2, 3, 7, 8, 9] rfl (fun (k : Int) => (-1 ≤ k) ∧ (k ≤ 65)) (fun (k : Int) => [(10, .int .i64 k)]) (fun (k : Int) => []) (fun (k : Int) => (65 - k).toNat) (-1) M ⟨(by omega), (by omega)⟩ (F.keep [10, 0, 1, 2, 3, 7, 8, 9] rfl) ?_
        clear F M; clear a; (try clear w)
        rintro k a w ⟨k0, k1⟩ F M; try dsimp only at F M
        try simp only [List.cons_append, List.nil_append] at F M
        try dsimp only at k0 k1
        refine wp_seq ?_
        refine wp_seq ?_
        refine wp_region_l [.ind, .ind] ([0, 1]) rfl ?_
        refine s_I F rfl rfl rfl rfl rfl rfl ?_; clear F a; intro a F
        refine s_bin F rfl rfl rfl rfl rfl rfl rfl ?_; clear F a; intro a F
        refine t_endM M ?_; (clear M; try clear w); intro w M
        refine c_if F rfl ?_ ?_
        ·
          clear F; intro hc16 F
          try rw [hc16] at F
          replace hc16 := of_decide_eq_true hc16
          refine wp_skip ?_
          refine wp_seq ?_
          refine wp_block ?_
          refine wp_seq ?_
          replace F := F.keep [0, 1, 2, 3, 7, 8, 9, 10] rfl
          refine wp_region_t [.ind, .ind, .wr, .rd, .ind, .wr, .ind, .ind, .ind, .ind, .wr, .rd, .ind, .wr, .ind, .ind] [(3, 2), (11, 10)] (otOf [0, 1, 3, 4, 2, 5, 6, 7, 8, 9, 11, 12, 10, 13, 14, 15]) mixed (by kernel_rfl) ?_
          refine s_I F rfl rfl rfl rfl rfl rfl ?_; clear F a; intro a F
          refine s_I F rfl rfl rfl rfl rfl rfl ?_; clear F a; intro a F
          refine s_ldaL F rfl rfl rfl rfl ag_56_E2 rfl rfl (cells_whole M.h2) ?_; clear F a; intro a F
          refine s_I F rfl rfl rfl rfl rfl rfl ?_; clear F a; intro a F
          refine s_cqL F M rfl rfl rfl rfl rfl (rfl : _ = some [_, _]) cb_34_E2 (fun nd_ => c34 b c (g) (W) (k) _ (by exact M.h0) (by exact M.h1)) (fun _ w _ M => (by (refine pend_take (by exact cells_whole M.h2) ?_); exact pend_none)) ?_; (clear F a M; try clear w); rintro v w rfl M a F
          refine s_cqL F M rfl rfl rfl rfl rfl (rfl : _ = some [_, _]) cb_35_E2 (fun nd_ => c35 g W k _) (fun _ w _ M => (by (refine pend_skip rfl ?_); exact pend_none)) ?_; (clear F a M; try clear w); rintro v w rfl M a F
          refine s_bne F rfl rfl rfl rfl bo_4_E2 rfl rfl ?_; clear F a; intro a F
          refine s_I F rfl rfl rfl rfl rfl rfl ?_; clear F a; intro a F
          refine bsplit F 84 rfl ?_ ?_
          ·
            clear F; intro hc17 F
            try rw [hc17] at F
            replace hc17 := nd1 hc17
            exact absurd hc17 (by simp)
          ·
            clear F; intro hc18 F
            try rw [hc18] at F
            replace hc18 := nd0 hc18
            refine s_I F rfl rfl rfl rfl rfl rfl ?_; clear F a; intro a F
            refine s_I F rfl rfl rfl rfl rfl rfl ?_; clear F a; intro a F
            refine s_ldaL F rfl rfl rfl rfl ag_56_E2 rfl rfl (cells_whole M.h2) ?_; clear F a; intro a F
            refine s_I F rfl rfl rfl rfl rfl rfl ?_; clear F a; intro a F
            refine s_cqL F M rfl rfl rfl rfl rfl (rfl : _ = some [_, _]) cb_36_E2 (fun nd_ => c36 b c (g) (W) (k) _ (by exact M.h0)) (fun _ w _ M => (by (refine pend_take (by exact cells_whole M.h2) ?_); (refine pend_skip rfl ?_); exact pend_none)) ?_; (clear F a M; try clear w); rintro v w rfl M a F
            refine s_cqL F M rfl rfl rfl rfl rfl (rfl : _ = some [_, _]) cb_37_E2 (fun nd_ => c37 g W k _) (fun _ w _ M => (by (refine pend_skip rfl ?_); (refine pend_skip rfl ?_); exact pend_none)) ?_; (clear F a M; try clear w); rintro v w rfl M a F
            refine s_bin F rfl rfl rfl rfl rfl rfl rfl ?_; clear F a; intro a F
            refine s_I F rfl rfl rfl rfl rfl rfl ?_; clear F a; intro a F
            refine t_endM M ?_; (clear M; try clear w); intro w M
            refine c_if F rfl ?_ ?_
            ·
              clear F; intro hc19 F
              try rw [hc19] at F
              replace hc19 := nd1 hc19
              exact absurd rfl hc19
            ·
              clear F; intro hc20 F
              try rw [hc20] at F
              replace hc20 := nd0 hc20
              refine wp_skip ?_
              replace F := F.keep [0, 1, 2, 3, 7, 8, 9, 10] rfl
              refine wp_region_l [.ind, .ind, .ind] ([0, 1, 2]) rfl ?_
              refine s_I F rfl rfl rfl rfl rfl rfl ?_; clear F a; intro a F
              refine s_add F rfl rfl rfl rfl rfl rfl (by unfold In64; omega) ?_; clear F a; intro a F
              refine s_I F rfl rfl rfl rfl rfl rfl ?_; clear F a; intro a F
              refine t_endM M ?_; (clear M; try clear w); intro w M
              refine again (k + 1) (by show _ < _; (try dsimp only); omega) ⟨(by omega), (by omega)⟩ (F.keep [10, 0, 1, 2, 3, 7, 8, 9] rfl) ?_
              try dsimp only [List.cons_append, List.nil_append]
              refine M.pick ?_; repeat (first | exact PkG.nil | refine PkG.cons 0 rfl rfl ?_ | refine PkG.cons 1 rfl rfl ?_ | refine PkG.cons 2 rfl rfl ?_ | refine PkG.cons 3 rfl rfl ?_)
        ·
          clear F; intro hc21 F
          try rw [hc21] at F
          replace hc21 := of_decide_eq_false hc21
          refine wp_exit ?_
          refine wp_seq ?_
          replace F := F.keep [0, 1, 2, 3, 7, 8, 9, 10] rfl
          refine wp_region_l [.wr, .ind] ([0, 1]) rfl ?_
          refine s_cq F M rfl rfl rfl rfl rfl (rfl : _ = some []) cb_26_E2 (fun nd_ => c26 _) ?_; (clear F a M; try clear w); rintro v w rfl M a F
          refine s_I F rfl rfl rfl rfl rfl rfl ?_; clear F a; intro a F
          refine t_endM M ?_; (clear M; try clear w); intro w M
          refine wp_ret ?_
          refine ret1 F rfl rfl ?_
          -- end 1
          exact ⟨_, rfl, rfl, M.chg⟩
set_option maxRecDepth 100000 in
set_option maxHeartbeats 8000000 in
theorem law8b (m e : Int) (l : List Int) (v : Value) (ep : Int) (w0 : World) (hr : RdSl w0.heap v l.length 1 (l.flatMap encI)) (h : l.length ≤ 1000) : Cl Try.prog 8 #[.agg #[.int .i64 m, .int .i64 e], v, .int .i64 ep] w0 (RetQ w0 fun v => v = .bool true) := by
  have M : Sep (fun _ => False) w0 w0 _ := Sep.nil _ w0
  have hro := (ro_of hr)
  obtain ⟨A, cc, rfl, hcc⟩ := hr.form
  refine enter (vs := [_, _, _]) Try.func8 rfl rfl rfl ?_
  intro a F
  refine wp_seq ?_
  refine wp_region_l [.wr, .ind] ([0, 1]) rfl ?_
  refine s_bxA F M rfl rfl rfl rfl rfl ?_; (clear F a M; try clear w); intro b3 w M a F
  refine s_I F rfl rfl rfl rfl rfl rfl ?_; clear F a; intro a F
  refine t_endM M ?_; (clear M; try clear w); intro w M
  refine wp_seq ?_
  refine wp_seq ?_
  refine wp_region_l [.ind, .ind, .ind] ([0, 1, 2]) rfl ?_
  refine s_I F rfl rfl rfl rfl rfl rfl ?_; clear F a; intro a F
  refine s_len F rfl rfl rfl rfl sl_44_E2 rfl ?_; clear F a; intro a F
  refine s_bin F rfl rfl rfl rfl rfl rfl rfl ?_; clear F a; intro a F
  refine t_endM M ?_; (clear M; try clear w); intro w M
  refine c_if F rfl ?_ ?_
  ·
    clear F; intro hc0 F
    try rw [hc0] at F
    replace hc0 := of_decide_eq_true hc0
    refine wp_seq ?_
    replace F := F.keep [0, 1, 2, 3, 6] rfl
    refine wp_region_l [.wr, .ind] ([0, 1]) rfl ?_
    refine s_cq F M rfl rfl rfl rfl rfl (rfl : _ = some []) cb_26_E2 (fun nd_ => c26 _) ?_; (clear F a M; try clear w); rintro v w rfl M a F
    refine s_I F rfl rfl rfl rfl rfl rfl ?_; clear F a; intro a F
    refine t_endM M ?_; (clear M; try clear w); intro w M
    refine wp_ret ?_
    refine ret1 F rfl rfl ?_
    -- end 0
    exact ⟨_, rfl, rfl, M.chg⟩
  ·
    clear F; intro hc1 F
    try rw [hc1] at F
    replace hc1 := of_decide_eq_false hc1
    refine wp_skip ?_
    refine wp_seq ?_
    replace F := F.keep [0, 1, 2, 3, 6] rfl
    refine wp_region_l [.ind, .rd, .ind, .rd, .wr, .ind] ([0, 1, 2, 3, 4, 5]) rfl ?_
    refine s_fa0 F rfl rfl rfl rfl fa_52_0_E2 rfl ?_; clear F a; intro a F
    refine s_ld F rfl rfl rfl rfl sc_3_E2 rfl (by exact cell_of_blk M.h0 (lit rfl)) ?_; clear F a; intro a F
    refine s_fa0 F rfl rfl rfl rfl fa_52_1_E2 rfl ?_; clear F a; intro a F
    refine s_ld F rfl rfl rfl rfl sc_3_E2 rfl (by exact cell_of_blk M.h0 (lit rfl)) ?_; clear F a; intro a F
    refine s_call (m := []) F M rfl rfl rfl rfl rfl (rfl : _ = some [_, _]) cb_27_E2 (fun nd_ => c27 (m) (e) _) ?_; (clear F a M; try clear w); rintro v x_ w rfl M a F; (try simp only [List.cons_append, List.nil_append] at M)
    obtain ⟨b, c⟩ := x_
    refine s_I F rfl rfl rfl rfl rfl rfl ?_; clear F a; intro a F
    refine t_endM M ?_; (clear M; try clear w); intro w M
    refine wp_seq ?_
    replace F := F.keep [0, 1, 2, 3, 6, 7] rfl
    refine wp_region_l [.ind, .ind, .wr, .ind] ([0, 1, 2, 3]) rfl ?_
    refine s_I F rfl rfl rfl rfl rfl rfl ?_; clear F a; intro a F
    refine s_I F rfl rfl rfl rfl rfl rfl ?_; clear F a; intro a F
    refine s_cq F M rfl rfl rfl rfl rfl (rfl : _ = some [_, _]) cb_36_E2 (fun nd_ => c36 b c (Gt.new m e) (Gt.new_wf m e) (ep) _ (by exact M.h0)) ?_; (clear F a M; try clear w); rintro v w rfl M a F
    obtain ⟨at_, hat0⟩ : ∃ at_, (Gt.new m e).time ep = at_ := ⟨_, rfl⟩
    rw [hat0] at F
    refine s_I F rfl rfl rfl rfl rfl rfl ?_; clear F a; intro a F
    refine t_endM M ?_; (clear M; try clear w); intro w M
    refine wp_seq ?_
    replace F := F.keep [0, 1, 2, 3, 6, 7, 8] rfl
    refine wp_region_l [.ind] ([0]) rfl ?_
    refine s_I F rfl rfl rfl rfl rfl rfl ?_; clear F a; intro a F
    refine t_endM M ?_; (clear M; try clear w); intro w M
    refine wp_seq ?_
    refine wp_seq ?_
    refine wp_region_l [.ind] ([0]) rfl ?_
    refine s_I F rfl rfl rfl rfl rfl rfl ?_; clear F a; intro a F
    refine t_endM M ?_; (clear M; try clear w); intro w M
    refine wp_block ?_
    have M1 : Sep _ _ _ (gC c _ :: _) := M.f1; replace M := M1; clear M1
    have M1 : Sep _ _ _ (gB b c _ :: _) := M.f1; replace M := M1; clear M1
    refine loopX (X := (Int) × (Gt) × (Bool)) F [0, 1, 2, 3, 7, 8] rfl (fun ((i, g, op) : (Int) × (Gt) × (Bool)) => (0 ≤ i) ∧ (i ≤ l.length) ∧ (g.Wf) ∧ (g.time ep = at_) ∧ (op = g.open_ ep)) (fun ((i, g, op) : (Int) × (Gt) × (Bool)) => [(9, .bool op), (10, .int .i64 i)]) (fun ((i, g, op) : (Int) × (Gt) × (Bool)) => [gB b c g, gC c g]) (fun ((i, g, op) : (Int) × (Gt) × (Bool)) => l.length - i.toNat) ((0), (Gt.new m e), (false)) M ⟨(by omega), (by omega), (Gt.new_wf _ _), hat0, (by rw [Gt.open_eq, decide_eq_false]; intro h; have : (Gt.new m e).most = -1 := rfl; omega)⟩ (F.keep [9, 10, 0, 1, 2, 3, 7, 8] rfl) ?_
    clear F M; clear a; (try clear w)
    rintro ⟨i, g, op⟩ a w ⟨i0, i1, W, hat, hop⟩ F M; try dsimp only at F M
    try simp only [List.cons_append, List.nil_append] at F M
    try dsimp only at i0 i1 W hat hop
    refine wp_seq ?_
    refine wp_seq ?_
    refine wp_region_l [.ind, .ind, .ind, .ind] ([0, 1, 2, 3]) rfl ?_
    refine s_I F rfl rfl rfl rfl rfl rfl ?_; clear F a; intro a F
    refine s_I F rfl rfl rfl rfl rfl rfl ?_; clear F a; intro a F
    refine s_len F rfl rfl rfl rfl sl_44_E2 rfl ?_; clear F a; intro a F
    refine s_bin F rfl rfl rfl rfl rfl rfl rfl ?_; clear F a; intro a F
    refine t_endM M ?_; (clear M; try clear w); intro w M
    refine c_if F rfl ?_ ?_
    ·
      clear F; intro hc2 F
      try rw [hc2] at F
      replace hc2 := of_decide_eq_true hc2
      refine wp_skip ?_
      refine wp_seq ?_
      refine wp_block ?_
      refine wp_seq ?_
      replace F := F.keep [0, 1, 2, 3, 7, 8, 9, 10] rfl
      refine wp_region_l [.ind, .ind, .ind, .ind, .rd, .wr] ([0, 1, 2, 3, 4, 5]) rfl ?_
      refine s_I F rfl rfl rfl rfl rfl rfl ?_; clear F a; intro a F
      refine s_I F rfl rfl rfl rfl rfl rfl ?_; clear F a; intro a F
      refine s_I F rfl rfl rfl rfl rfl rfl ?_; clear F a; intro a F
      refine s_ix F rfl rfl rfl rfl sl_44_E2 rfl rfl (by exact M.chg.ro hro) (by omega) (by omega) ?_; clear F a; intro e33 he33 a F
      refine s_ld F rfl rfl rfl rfl sc_3_E2 rfl (by exact rdX0 (M.chg.ro hro) (by intro e; rfl) he33 rfl) ?_; clear F a; intro a F
      have M1 : Sep _ _ _ (gC c _ :: _) := M.f1; replace M := M1; clear M1
      have M1 : Sep _ _ _ (gB b c _ :: _) := M.f1; replace M := M1; clear M1
      refine s_call (m := [_, _]) F M rfl rfl rfl rfl rfl (rfl : _ = some [_, _]) cb_31_E2 (fun nd_ => c31 b c (g) (e33) _ ((M.drewN nd_).own.left (m := [_, _]))) ?_; (clear F a M; try clear w); rintro v x w rfl M a F; (try simp only [List.cons_append, List.nil_append] at M)
      refine t_endM M ?_; (clear M; try clear w); intro w M
      refine wp_seq ?_
      replace F := F.keep [0, 1, 2, 3, 7, 8, 9, 10] rfl
      refine wp_region_l [.ind, .ind, .ind, .rd, .ind, .ind, .ind] ([0, 1, 2, 3, 4, 5, 6]) rfl ?_
      refine s_I F rfl rfl rfl rfl rfl rfl ?_; clear F a; intro a F
      refine s_I F rfl rfl rfl rfl rfl rfl ?_; clear F a; intro a F
      refine s_ix F rfl rfl rfl rfl sl_44_E2 rfl rfl (by exact M.chg.ro hro) (by omega) (by omega) ?_; clear F a; intro e38 he38 a F
      try (obtain rfl := Option.some.inj (he33.symm.trans he38))
      refine s_ld F rfl rfl rfl rfl sc_3_E2 rfl (by exact rdX0 (M.chg.ro hro) (by intro e; rfl) he38 rfl) ?_; clear F a; intro a F
      refine s_max F rfl rfl rfl rfl rfl rfl ?_; clear F a; intro a F
      refine s_min F rfl rfl rfl rfl rfl rfl ?_; clear F a; intro a F
      refine s_I F rfl rfl rfl rfl rfl rfl ?_; clear F a; intro a F
      refine t_endM M ?_; (clear M; try clear w); intro w M
      refine wp_seq ?_
      refine cutX (X := (Bool)) (m0 := []) F [0, 1, 2, 3, 7, 8, 10, 11] rfl M (fun (o2 : Bool) => (o2 = (g.tick e33).open_ ep)) (fun (o2 : Bool) => [(9, .bool o2)]) (fun (o2 : Bool) => []) ?_ ?_
      ·
        have hot := Gt.open_tick (n := e33) hat
        have hop2 : op = decide (0 ≤ at_ ∧ at_ ≤ g.most) := by rw [hop, Gt.open_eq, hat]
        replace F := F.keep [0, 1, 2, 3, 7, 8, 9, 10, 11] rfl
        refine wp_region_l [.ind, .ind, .ind, .ind, .ind, .ind, .ind, .ind, .ind, .ind, .ind] ([0, 1, 2, 3, 4, 5, 6, 7, 8, 9, 10]) rfl ?_
        refine s_I F rfl rfl rfl rfl rfl rfl ?_; clear F a; intro a F
        refine s_I F rfl rfl rfl rfl rfl rfl ?_; clear F a; intro a F
        refine bsplit F 43 rfl ?_ ?_
        ·
          clear F; intro hc3 F
          try rw [hc3] at F
          skip
          refine s_no F rfl rfl rfl rfl ?_; clear F a; intro a F
          refine s_no F rfl rfl rfl rfl ?_; clear F a; intro a F
          refine s_no F rfl rfl rfl rfl ?_; clear F a; intro a F
          refine s_no F rfl rfl rfl rfl ?_; clear F a; intro a F
          refine s_no F rfl rfl rfl rfl ?_; clear F a; intro a F
          refine s_no F rfl rfl rfl rfl ?_; clear F a; intro a F
          refine s_no F rfl rfl rfl rfl ?_; clear F a; intro a F
          refine s_I F rfl rfl rfl rfl rfl rfl ?_; clear F a; intro a F
          refine s_I F rfl rfl rfl rfl rfl rfl ?_; clear F a; intro a F
          refine t_endM M ?_; (clear M; try clear w); intro w M
          refine joined (_) (by clear M F; grind) (F.keep [9, 0, 1, 2, 3, 7, 8, 10, 11] rfl) ?_
          try dsimp only [List.cons_append, List.nil_append]
          refine M.pick ?_; repeat (first | exact PkG.nil | refine PkG.cons 0 rfl rfl ?_ | refine PkG.cons 1 rfl rfl ?_ | refine PkG.cons 2 rfl rfl ?_)
        ·
          clear F; intro hc4 F
          try rw [hc4] at F
          skip
          refine s_I F rfl rfl rfl rfl rfl rfl ?_; clear F a; intro a F
          refine s_bin F rfl rfl rfl rfl rfl rfl rfl ?_; clear F a; intro a F
          refine s_I F rfl rfl rfl rfl rfl rfl ?_; clear F a; intro a F
          refine bsplit F 46 rfl ?_ ?_
          ·
            clear F; intro hc5 F
            try rw [hc5] at F
            replace hc5 := of_decide_eq_true hc5
            refine s_I F rfl rfl rfl rfl rfl rfl ?_; clear F a; intro a F
            refine s_I F rfl rfl rfl rfl rfl rfl ?_; clear F a; intro a F
            refine s_bin F rfl rfl rfl rfl rfl rfl rfl ?_; clear F a; intro a F
            refine s_I F rfl rfl rfl rfl rfl rfl ?_; clear F a; intro a F
            refine s_I F rfl rfl rfl rfl rfl rfl ?_; clear F a; intro a F
            refine s_I F rfl rfl rfl rfl rfl rfl ?_; clear F a; intro a F
            refine t_endM M ?_; (clear M; try clear w); intro w M
            refine joined (_) (by clear M F; grind) (F.keep [9, 0, 1, 2, 3, 7, 8, 10, 11] rfl) ?_
            try dsimp only [List.cons_append, List.nil_append]
            refine M.pick ?_; repeat (first | exact PkG.nil | refine PkG.cons 0 rfl rfl ?_ | refine PkG.cons 1 rfl rfl ?_ | refine PkG.cons 2 rfl rfl ?_)
          ·
            clear F; intro hc6 F
            try rw [hc6] at F
            replace hc6 := of_decide_eq_false hc6
            refine s_no F rfl rfl rfl rfl ?_; clear F a; intro a F
            refine s_no F rfl rfl rfl rfl ?_; clear F a; intro a F
            refine s_no F rfl rfl rfl rfl ?_; clear F a; intro a F
            refine s_I F rfl rfl rfl rfl rfl rfl ?_; clear F a; intro a F
            refine s_I F rfl rfl rfl rfl rfl rfl ?_; clear F a; intro a F
            refine s_I F rfl rfl rfl rfl rfl rfl ?_; clear F a; intro a F
            refine t_endM M ?_; (clear M; try clear w); intro w M
            refine joined (_) (by clear M F; grind) (F.keep [9, 0, 1, 2, 3, 7, 8, 10, 11] rfl) ?_
            try dsimp only [List.cons_append, List.nil_append]
            refine M.pick ?_; repeat (first | exact PkG.nil | refine PkG.cons 0 rfl rfl ?_ | refine PkG.cons 1 rfl rfl ?_ | refine PkG.cons 2 rfl rfl ?_)
      ·
        clear F M; clear a; (try clear w)
        rintro o2 a w ho2 F M; try dsimp only at F M
        try simp only [List.cons_append, List.nil_append] at F M
        try dsimp only at ho2
        refine wp_seq ?_
        refine wp_region_l [.ind, .ind, .wr, .ind, .ind] ([0, 1, 2, 3, 4]) rfl ?_
        refine s_I F rfl rfl rfl rfl rfl rfl ?_; clear F a; intro a F
        refine s_I F rfl rfl rfl rfl rfl rfl ?_; clear F a; intro a F
        refine s_cq F M rfl rfl rfl rfl rfl (rfl : _ = some [_, _]) cb_34_E2 (fun nd_ => c34 b c (g.tick e33) (W.tick e33) (ep) _ (by exact M.h0) (by exact M.h1)) ?_; (clear F a M; try clear w); rintro v w rfl M a F
        refine s_I F rfl rfl rfl rfl rfl rfl ?_; clear F a; intro a F
        refine s_bne F rfl rfl rfl rfl bo_4_E2 rfl rfl ?_; clear F a; intro a F
        refine t_endM M ?_; (clear M; try clear w); intro w M
        refine c_if F rfl ?_ ?_
        ·
          clear F; intro hc7 F
          try rw [hc7] at F
          replace hc7 := nd1 hc7
          exact absurd hc7 (by rw [ho2]; simp)
        ·
          clear F; intro hc8 F
          try rw [hc8] at F
          replace hc8 := nd0 hc8
          refine wp_skip ?_
          replace F := F.keep [0, 1, 2, 3, 7, 8, 9, 10, 11] rfl
          refine wp_region_l [.ind, .ind, .ind] ([0, 1, 2]) rfl ?_
          refine s_I F rfl rfl rfl rfl rfl rfl ?_; clear F a; intro a F
          refine s_add F rfl rfl rfl rfl rfl rfl (by unfold In64; omega) ?_; clear F a; intro a F
          refine s_I F rfl rfl rfl rfl rfl rfl ?_; clear F a; intro a F
          refine t_endM M ?_; (clear M; try clear w); intro w M
          refine again ((i + 1), (g.tick e33), (o2)) (by show _ < _; (try dsimp only); omega) ⟨(by omega), (by assumption), (W.tick _), hat, ho2⟩ (F.keep [9, 10, 0, 1, 2, 3, 7, 8] rfl) ?_
          try dsimp only [List.cons_append, List.nil_append]
          refine M.pick ?_; repeat (first | exact PkG.nil | refine PkG.cons 0 rfl rfl ?_ | refine PkG.cons 1 rfl rfl ?_ | refine PkG.cons 2 rfl rfl ?_)
    ·
      clear F; intro hc9 F
      try rw [hc9] at F
      replace hc9 := of_decide_eq_false hc9
      refine wp_exit ?_
      refine wp_seq ?_
      have hlo := Gt.time_lo (Gt.new_wf m e) ep
      rw [hat0] at hlo
      replace F := F.keep [0, 1, 2, 3, 7, 8, 9, 10] rfl
      refine wp_region_l [.ind, .ind, .ind, .ind, .ind, .ind, .ind, .ind, .ind, .ind, .wr, .ind, .ind] ([0, 1, 2, 3, 4, 5, 6, 7, 8, 9, 10, 11, 12]) rfl ?_
      refine s_I F rfl rfl rfl rfl rfl rfl ?_; clear F a; intro a F
      refine s_bin F rfl rfl rfl rfl rfl rfl rfl ?_; clear F a; intro a F
      refine s_I F rfl rfl rfl rfl rfl rfl ?_; clear F a; intro a F
      refine s_bin F rfl rfl rfl rfl rfl rfl rfl ?_; clear F a; intro a F
      refine s_I F rfl rfl rfl rfl rfl rfl ?_; clear F a; intro a F
      refine bsplit F 61 rfl ?_ ?_
      ·
        clear F; intro hc10 F
        try rw [hc10] at F
        replace hc10 := of_decide_eq_true hc10
        refine s_I F rfl rfl rfl rfl rfl rfl ?_; clear F a; intro a F
        refine s_bin F rfl rfl rfl rfl rfl rfl rfl ?_; clear F a; intro a F
        refine s_I F rfl rfl rfl rfl rfl rfl ?_; clear F a; intro a F
        refine s_beq F rfl rfl rfl rfl bo_4_E2 rfl rfl ?_; clear F a; intro a F
        refine s_I F rfl rfl rfl rfl rfl rfl ?_; clear F a; intro a F
        refine bsplit F 66 rfl ?_ ?_
        ·
          clear F; intro hc11 F
          try rw [hc11] at F
          replace hc11 := of_decide_eq_true hc11
          refine s_cq F M rfl rfl rfl rfl rfl (rfl : _ = some []) cb_26_E2 (fun nd_ => c26 _) ?_; (clear F a M; try clear w); rintro v w rfl M a F
          refine s_I F rfl rfl rfl rfl rfl rfl ?_; clear F a; intro a F
          refine s_I F rfl rfl rfl rfl rfl rfl ?_; clear F a; intro a F
          refine t_endM M ?_; (clear M; try clear w); intro w M
          refine wp_ret ?_
          refine ret1 F rfl rfl ?_
          -- end 1
          exact ⟨_, rfl, rfl, M.chg⟩
        ·
          clear F; intro hc12 F
          try rw [hc12] at F
          replace hc12 := of_decide_eq_false hc12
          exfalso
          simp at hc12
          omega
      ·
        clear F; intro hc13 F
        try rw [hc13] at F
        replace hc13 := of_decide_eq_false hc13
        refine s_no F rfl rfl rfl rfl ?_; clear F a; intro a F
        refine s_no F rfl rfl rfl rfl ?_; clear F a; intro a F
        refine s_I F rfl rfl rfl rfl rfl rfl ?_; clear F a; intro a F
        refine s_beq F rfl rfl rfl rfl bo_4_E2 rfl rfl ?_; clear F a; intro a F
        refine s_I F rfl rfl rfl rfl rfl rfl ?_; clear F a; intro a F
        refine bsplit F 66 rfl ?_ ?_
        ·
          clear F; intro hc14 F
          try rw [hc14] at F
          replace hc14 := of_decide_eq_true hc14
          refine s_cq F M rfl rfl rfl rfl rfl (rfl : _ = some []) cb_26_E2 (fun nd_ => c26 _) ?_; (clear F a M; try clear w); rintro v w rfl M a F
          refine s_I F rfl rfl rfl rfl rfl rfl ?_; clear F a; intro a F
          refine s_I F rfl rfl rfl rfl rfl rfl ?_; clear F a; intro a F
          refine t_endM M ?_; (clear M; try clear w); intro w M
          refine wp_ret ?_
          refine ret1 F rfl rfl ?_
          -- end 2
          exact ⟨_, rfl, rfl, M.chg⟩
        ·
          clear F; intro hc15 F
          try rw [hc15] at F
          replace hc15 := of_decide_eq_false hc15
          exfalso
          simp at hc15
          omega
set_option maxRecDepth 100000 in
set_option maxHeartbeats 8000000 in
theorem law9b (m e : Int) (l : List Int) (v : Value) (w0 : World) (hr : RdSl w0.heap v l.length 1 (l.flatMap encI)) (h : l.length ≤ 1000) : Cl Try.prog 9 #[.agg #[.int .i64 m, .int .i64 e], v] w0 (RetQ w0 fun v => v = .bool true) := by
  have M : Sep (fun _ => False) w0 w0 _ := Sep.nil _ w0
  have hro := (ro_of hr)
  obtain ⟨A, cc, rfl, hcc⟩ := hr.form
  refine enter (vs := [_, _]) Try.func9 rfl rfl rfl ?_
  intro a F
  refine wp_seq ?_
  refine wp_region_l [.wr, .ind] ([0, 1]) rfl ?_
  refine s_bxA F M rfl rfl rfl rfl rfl ?_; (clear F a M; try clear w); intro b2 w M a F
  refine s_I F rfl rfl rfl rfl rfl rfl ?_; clear F a; intro a F
  refine t_endM M ?_; (clear M; try clear w); intro w M
  refine wp_seq ?_
  refine wp_seq ?_
  refine wp_region_l [.ind, .ind, .ind] ([0, 1, 2]) rfl ?_
  refine s_I F rfl rfl rfl rfl rfl rfl ?_; clear F a; intro a F
  refine s_len F rfl rfl rfl rfl sl_44_E2 rfl ?_; clear F a; intro a F
  refine s_bin F rfl rfl rfl rfl rfl rfl rfl ?_; clear F a; intro a F
  refine t_endM M ?_; (clear M; try clear w); intro w M
  refine c_if F rfl ?_ ?_
  ·
    clear F; intro hc0 F
    try rw [hc0] at F
    replace hc0 := of_decide_eq_true hc0
    refine wp_seq ?_
    replace F := F.keep [0, 1, 2, 4] rfl
    refine wp_region_l [.wr, .ind] ([0, 1]) rfl ?_
    refine s_cq F M rfl rfl rfl rfl rfl (rfl : _ = some []) cb_26_E2 (fun nd_ => c26 _) ?_; (clear F a M; try clear w); rintro v w rfl M a F
    refine s_I F rfl rfl rfl rfl rfl rfl ?_; clear F a; intro a F
    refine t_endM M ?_; (clear M; try clear w); intro w M
    refine wp_ret ?_
    refine ret1 F rfl rfl ?_
    -- end 0
    exact ⟨_, rfl, rfl, M.chg⟩
  ·
    clear F; intro hc1 F
    try rw [hc1] at F
    replace hc1 := of_decide_eq_false hc1
    refine wp_skip ?_
    refine wp_seq ?_
    replace F := F.keep [0, 1, 2, 4] rfl
    refine wp_region_l [.ind, .rd, .ind, .rd, .wr, .ind] ([0, 1, 2, 3, 4, 5]) rfl ?_
    refine s_fa0 F rfl rfl rfl rfl fa_52_0_E2 rfl ?_; clear F a; intro a F
    refine s_ld F rfl rfl rfl rfl sc_3_E2 rfl (by exact cell_of_blk M.h0 (lit rfl)) ?_; clear F a; intro a F
    refine s_fa0 F rfl rfl rfl rfl fa_52_1_E2 rfl ?_; clear F a; intro a F
    refine s_ld F rfl rfl rfl rfl sc_3_E2 rfl (by exact cell_of_blk M.h0 (lit rfl)) ?_; clear F a; intro a F
    refine s_call (m := []) F M rfl rfl rfl rfl rfl (rfl : _ = some [_, _]) cb_27_E2 (fun nd_ => c27 (m) (e) _) ?_; (clear F a M; try clear w); rintro v x_ w rfl M a F; (try simp only [List.cons_append, List.nil_append] at M)
    obtain ⟨b, c⟩ := x_
    refine s_I F rfl rfl rfl rfl rfl rfl ?_; clear F a; intro a F
    refine t_endM M ?_; (clear M; try clear w); intro w M
    refine wp_seq ?_
    refine wp_seq ?_
    replace F := F.keep [0, 1, 2, 4, 5] rfl
    refine wp_region_l [.ind] ([0]) rfl ?_
    refine s_I F rfl rfl rfl rfl rfl rfl ?_; clear F a; intro a F
    refine t_endM M ?_; (clear M; try clear w); intro w M
    refine wp_block ?_
    have M1 : Sep _ _ _ (gC c _ :: _) := M.f1; replace M := M1; clear M1
    have M1 : Sep _ _ _ (gB b c _ :: _) := M.f1; replace M := M1; clear M1
    refine loopX (X := (Int) × (Gt)) F [0, 1, 2, 4, 5] rfl (fun ((i, g) : (Int) × (Gt)) => (0 ≤ i) ∧ (i ≤ l.length) ∧ (g.Wf)) (fun ((i, g) : (Int) × (Gt)) => [(6, .int .i64 i)]) (fun ((i, g) : (Int) × (Gt)) => [gB b c g, gC c g]) (fun ((i, g) : (Int) × (Gt)) => l.length - i.toNat) ((0), (Gt.new m e)) M ⟨(by omega), (by omega), (Gt.new_wf _ _)⟩ (F.keep [6, 0, 1, 2, 4, 5] rfl) ?_
    clear F M; clear a; (try clear w)
    rintro ⟨i, g⟩ a w ⟨i0, i1, W⟩ F M; try dsimp only at F M
    try simp only [List.cons_append, List.nil_append] at F M
    try dsimp only at i0 i1 W
    refine wp_seq ?_
    refine wp_seq ?_
    refine wp_region_l [.ind, .ind, .ind, .ind] ([0, 1, 2, 3]) rfl ?_
    refine s_I F rfl rfl rfl rfl rfl rfl ?_; clear F a; intro a F
    refine s_I F rfl rfl rfl rfl rfl rfl ?_; clear F a; intro a F
    refine s_len F rfl rfl rfl rfl sl_44_E2 rfl ?_; clear F a; intro a F
    refine s_bin F rfl rfl rfl rfl rfl rfl rfl ?_; clear F a; intro a F
    refine t_endM M ?_; (clear M; try clear w); intro w M
    refine c_if F rfl ?_ ?_
    ·
      clear F; intro hc2 F
      try rw [hc2] at F
      replace hc2 := of_decide_eq_true hc2
      refine wp_skip ?_
      refine wp_seq ?_
      refine wp_block ?_
      replace F := F.keep [0, 1, 2, 4, 5, 6] rfl
      refine wp_region_l [.ind, .ind, .ind, .ind, .rd, .wr] ([0, 1, 2, 3, 4, 5]) rfl ?_
      refine s_I F rfl rfl rfl rfl rfl rfl ?_; clear F a; intro a F
      refine s_I F rfl rfl rfl rfl rfl rfl ?_; clear F a; intro a F
      refine s_I F rfl rfl rfl rfl rfl rfl ?_; clear F a; intro a F
      refine s_ix F rfl rfl rfl rfl sl_44_E2 rfl rfl (by exact M.chg.ro hro) (by omega) (by omega) ?_; clear F a; intro e26 he26 a F
      refine s_ld F rfl rfl rfl rfl sc_3_E2 rfl (by exact rdX0 (M.chg.ro hro) (by intro e; rfl) he26 rfl) ?_; clear F a; intro a F
      have M1 : Sep _ _ _ (gC c _ :: _) := M.f1; replace M := M1; clear M1
      have M1 : Sep _ _ _ (gB b c _ :: _) := M.f1; replace M := M1; clear M1
      refine s_call (m := [_, _]) F M rfl rfl rfl rfl rfl (rfl : _ = some [_, _]) cb_31_E2 (fun nd_ => c31 b c (g) (e26) _ ((M.drewN nd_).own.left (m := [_, _]))) ?_; (clear F a M; try clear w); rintro v x w rfl M a F; (try simp only [List.cons_append, List.nil_append] at M)
      refine t_endM M ?_; (clear M; try clear w); intro w M
      replace F := F.keep [0, 1, 2, 4, 5, 6] rfl
      refine wp_region_l [.ind, .ind, .ind] ([0, 1, 2]) rfl ?_
      refine s_I F rfl rfl rfl rfl rfl rfl ?_; clear F a; intro a F
      refine s_add F rfl rfl rfl rfl rfl rfl (by unfold In64; omega) ?_; clear F a; intro a F
      refine s_I F rfl rfl rfl rfl rfl rfl ?_; clear F a; intro a F
      refine t_endM M ?_; (clear M; try clear w); intro w M
      refine again ((i + 1), (g.tick e26)) (by show _ < _; (try dsimp only); omega) ⟨(by omega), (by assumption), (W.tick _)⟩ (F.keep [6, 0, 1, 2, 4, 5] rfl) ?_
      try dsimp only [List.cons_append, List.nil_append]
      refine M.pick ?_; repeat (first | exact PkG.nil | refine PkG.cons 0 rfl rfl ?_ | refine PkG.cons 1 rfl rfl ?_ | refine PkG.cons 2 rfl rfl ?_)
    ·
      clear F; intro hc3 F
      try rw [hc3] at F
      replace hc3 := of_decide_eq_false hc3
      refine wp_exit ?_
      refine wp_seq ?_
      refine wp_seq ?_
      replace F := F.keep [0, 1, 2, 4, 5, 6] rfl
      refine wp_region_l [.ind] ([0]) rfl ?_
      refine s_I F rfl rfl rfl rfl rfl rfl ?_; clear F a; intro a F
      refine t_endM M ?_; (clear M; try clear w); intro w M
      refine wp_block ?_
      refine loopX (X := (Int)) F [0, 1, 2, 5, 6] rfl (fun (k : Int) => (1 ≤ k) ∧ (k ≤ 64)) (fun (k : Int) => [(7, .int .i64 k)]) (fun (k : Int) => []) (fun (k : Int) => (64 - k).toNat) (1) M ⟨(by omega), (by omega)⟩ (F.keep [7, 0, 1, 2, 5, 6] rfl) ?_
      clear F M; clear a; (try clear w)
      rintro k a w ⟨k0, k1⟩ F M; try dsimp only at F M
      try simp only [List.cons_append, List.nil_append] at F M
      try dsimp only at k0 k1
      refine wp_seq ?_
      refine wp_seq ?_
      refine wp_region_l [.ind, .ind] ([0, 1]) rfl ?_
      refine s_I F rfl rfl rfl rfl rfl rfl ?_; clear F a; intro a F
      refine s_bin F rfl rfl rfl rfl rfl rfl rfl ?_; clear F a; intro a F
      refine t_endM M ?_; (clear M; try clear w); intro w M
      refine c_if F rfl ?_ ?_
      ·
        clear F; intro hc4 F
        try rw [hc4] at F
        replace hc4 := of_decide_eq_true hc4
        refine wp_skip ?_
        refine wp_seq ?_
        refine wp_block ?_
        refine wp_seq ?_
        have hd := Gt.time_diff (g := g) (e := k) (by omega) (by omega)
        have hd1 := Gt.time_diff (g := g) (e := 1) (by omega) (by omega)
        have hr1 := Gt.time_rng W (e := k) (by omega) (by omega)
        have hr2 := Gt.time_rng W (e := k - 1) (by omega) (by omega)
        have hr3 := Gt.time_rng W (e := 1) (by omega) (by omega)
        have hr4 := Gt.time_rng W (e := 0) (by omega) (by omega)
        have hz : (1 : Int) - 1 = 0 := rfl
        rw [hz] at hd1
        have he0 := W.e0
        replace F := F.keep [0, 1, 2, 5, 6, 7] rfl
        refine wp_region_l [.ind, .ind, .wr, .ind, .ind, .ind, .ind, .wr, .ind, .ind, .ind, .ind, .ind, .wr, .ind, .ind, .ind, .wr, .ind, .ind, .wr, .ind, .wr, .ind, .ind, .ind, .ind, .ind, .ind, .wr, .ind, .ind, .ind, .wr, .ind, .ind] ([0, 1, 2, 3, 4, 5, 6, 7, 8, 9, 10, 11, 12, 13, 14, 15, 16, 17, 18, 19, 20, 21, 22, 23, 24, 25, 26, 27, 28, 29, 30, 31, 32, 33, 34, 35]) rfl ?_
        refine s_I F rfl rfl rfl rfl rfl rfl ?_; clear F a; intro a F
        refine s_I F rfl rfl rfl rfl rfl rfl ?_; clear F a; intro a F
        refine s_cq F M rfl rfl rfl rfl rfl (rfl : _ = some [_, _]) cb_34_E2 (fun nd_ => c34 b c (g) (W) (k) _ (by exact M.h0) (by exact M.h1)) ?_; (clear F a M; try clear w); rintro v w rfl M a F
        refine s_I F rfl rfl rfl rfl rfl rfl ?_; clear F a; intro a F
        refine bsplit F 36 rfl ?_ ?_
        ·
          clear F; intro hc5 F
          try rw [hc5] at F
          skip
          refine s_I F rfl rfl rfl rfl rfl rfl ?_; clear F a; intro a F
          refine s_I F rfl rfl rfl rfl rfl rfl ?_; clear F a; intro a F
          refine s_sub F rfl rfl rfl rfl rfl rfl (by unfold In64; omega) ?_; clear F a; intro a F
          refine s_cq F M rfl rfl rfl rfl rfl (rfl : _ = some [_, _]) cb_34_E2 (fun nd_ => c34 b c (g) (W) (k - 1) _ (by exact M.h0) (by exact M.h1)) ?_; (clear F a M; try clear w); rintro v w rfl M a F
          refine s_I F rfl rfl rfl rfl rfl rfl ?_; clear F a; intro a F
          refine s_I F rfl rfl rfl rfl rfl rfl ?_; clear F a; intro a F
          refine s_I F rfl rfl rfl rfl rfl rfl ?_; clear F a; intro a F
          refine bsplit F 43 rfl ?_ ?_
          ·
            clear F; intro hc6 F
            try rw [hc6] at F
            replace hc6 := nt hc6
            exfalso
            have := Gt.open_mono (e := k) W (by omega) (by omega) (by assumption)
            simp_all
          ·
            clear F; intro hc7 F
            try rw [hc7] at F
            replace hc7 := nf hc7
            refine s_I F rfl rfl rfl rfl rfl rfl ?_; clear F a; intro a F
            refine s_I F rfl rfl rfl rfl rfl rfl ?_; clear F a; intro a F
            refine s_cq F M rfl rfl rfl rfl rfl (rfl : _ = some [_, _]) cb_36_E2 (fun nd_ => c36 b c (g) (W) (k) _ (by exact M.h0)) ?_; (clear F a M; try clear w); rintro v w rfl M a F
            refine s_I F rfl rfl rfl rfl rfl rfl ?_; clear F a; intro a F
            refine s_I F rfl rfl rfl rfl rfl rfl ?_; clear F a; intro a F
            refine s_sub F rfl rfl rfl rfl rfl rfl (by unfold In64; omega) ?_; clear F a; intro a F
            refine s_cq F M rfl rfl rfl rfl rfl (rfl : _ = some [_, _]) cb_36_E2 (fun nd_ => c36 b c (g) (W) (k - 1) _ (by exact M.h0)) ?_; (clear F a M; try clear w); rintro v w rfl M a F
            refine s_sub F rfl rfl rfl rfl rfl rfl (by unfold In64; omega) ?_; clear F a; intro a F
            refine s_I F rfl rfl rfl rfl rfl rfl ?_; clear F a; intro a F
            refine s_cq F M rfl rfl rfl rfl rfl (rfl : _ = some [_, _]) cb_36_E2 (fun nd_ => c36 b c (g) (W) (1) _ (by exact M.h0)) ?_; (clear F a M; try clear w); rintro v w rfl M a F
            refine s_I F rfl rfl rfl rfl rfl rfl ?_; clear F a; intro a F
            refine s_cq F M rfl rfl rfl rfl rfl (rfl : _ = some [_, _]) cb_36_E2 (fun nd_ => c36 b c (g) (W) (0) _ (by exact M.h0)) ?_; (clear F a M; try clear w); rintro v w rfl M a F
            refine s_sub F rfl rfl rfl rfl rfl rfl (by unfold In64; omega) ?_; clear F a; intro a F
            refine s_bin F rfl rfl rfl rfl rfl rfl rfl ?_; clear F a; intro a F
            refine s_I F rfl rfl rfl rfl rfl rfl ?_; clear F a; intro a F
            refine s_I F rfl rfl rfl rfl rfl rfl ?_; clear F a; intro a F
            refine bsplit F 59 rfl ?_ ?_
            ·
              clear F; intro hc8 F
              try rw [hc8] at F
              replace hc8 := nd1 hc8
              exfalso
              omega
            ·
              clear F; intro hc9 F
              try rw [hc9] at F
              replace hc9 := nd0 hc9
              refine s_I F rfl rfl rfl rfl rfl rfl ?_; clear F a; intro a F
              refine s_I F rfl rfl rfl rfl rfl rfl ?_; clear F a; intro a F
              refine s_cq F M rfl rfl rfl rfl rfl (rfl : _ = some [_, _]) cb_36_E2 (fun nd_ => c36 b c (g) (W) (k) _ (by exact M.h0)) ?_; (clear F a M; try clear w); rintro v w rfl M a F
              refine s_I F rfl rfl rfl rfl rfl rfl ?_; clear F a; intro a F
              refine s_I F rfl rfl rfl rfl rfl rfl ?_; clear F a; intro a F
              refine s_sub F rfl rfl rfl rfl rfl rfl (by unfold In64; omega) ?_; clear F a; intro a F
              refine s_cq F M rfl rfl rfl rfl rfl (rfl : _ = some [_, _]) cb_36_E2 (fun nd_ => c36 b c (g) (W) (k - 1) _ (by exact M.h0)) ?_; (clear F a M; try clear w); rintro v w rfl M a F
              refine s_bin F rfl rfl rfl rfl rfl rfl rfl ?_; clear F a; intro a F
              refine s_I F rfl rfl rfl rfl rfl rfl ?_; clear F a; intro a F
              refine t_endM M ?_; (clear M; try clear w); intro w M
              refine c_if F rfl ?_ ?_
              ·
                clear F; intro hc10 F
                try rw [hc10] at F
                replace hc10 := of_decide_eq_true hc10
                exfalso
                omega
              ·
                clear F; intro hc11 F
                try rw [hc11] at F
                replace hc11 := of_decide_eq_false hc11
                refine wp_skip ?_
                replace F := F.keep [0, 1, 2, 5, 6, 7] rfl
                refine wp_region_l [.ind, .ind, .ind] ([0, 1, 2]) rfl ?_
                refine s_I F rfl rfl rfl rfl rfl rfl ?_; clear F a; intro a F
                refine s_add F rfl rfl rfl rfl rfl rfl (by unfold In64; omega) ?_; clear F a; intro a F
                refine s_I F rfl rfl rfl rfl rfl rfl ?_; clear F a; intro a F
                refine t_endM M ?_; (clear M; try clear w); intro w M
                refine again (k + 1) (by show _ < _; (try dsimp only); omega) ⟨(by omega), (by omega)⟩ (F.keep [7, 0, 1, 2, 5, 6] rfl) ?_
                try dsimp only [List.cons_append, List.nil_append]
                refine M.pick ?_; repeat (first | exact PkG.nil | refine PkG.cons 0 rfl rfl ?_ | refine PkG.cons 1 rfl rfl ?_ | refine PkG.cons 2 rfl rfl ?_)
        ·
          clear F; intro hc12 F
          try rw [hc12] at F
          skip
          refine s_no F rfl rfl rfl rfl ?_; clear F a; intro a F
          refine s_no F rfl rfl rfl rfl ?_; clear F a; intro a F
          refine s_no F rfl rfl rfl rfl ?_; clear F a; intro a F
          refine s_no F rfl rfl rfl rfl ?_; clear F a; intro a F
          refine s_no F rfl rfl rfl rfl ?_; clear F a; intro a F
          refine s_I F rfl rfl rfl rfl rfl rfl ?_; clear F a; intro a F
          refine s_I F rfl rfl rfl rfl rfl rfl ?_; clear F a; intro a F
          refine s_I F rfl rfl rfl rfl rfl rfl ?_; clear F a; intro a F
          refine s_I F rfl rfl rfl rfl rfl rfl ?_; clear F a; intro a F
          refine s_cq F M rfl rfl rfl rfl rfl (rfl : _ = some [_, _]) cb_36_E2 (fun nd_ => c36 b c (g) (W) (k) _ (by exact M.h0)) ?_; (clear F a M; try clear w); rintro v w rfl M a F
          refine s_I F rfl rfl rfl rfl rfl rfl ?_; clear F a; intro a F
          refine s_I F rfl rfl rfl rfl rfl rfl ?_; clear F a; intro a F
          refine s_sub F rfl rfl rfl rfl rfl rfl (by unfold In64; omega) ?_; clear F a; intro a F
          refine s_cq F M rfl rfl rfl rfl rfl (rfl : _ = some [_, _]) cb_36_E2 (fun nd_ => c36 b c (g) (W) (k - 1) _ (by exact M.h0)) ?_; (clear F a M; try clear w); rintro v w rfl M a F
          refine s_sub F rfl rfl rfl rfl rfl rfl (by unfold In64; omega) ?_; clear F a; intro a F
          refine s_I F rfl rfl rfl rfl rfl rfl ?_; clear F a; intro a F
          refine s_cq F M rfl rfl rfl rfl rfl (rfl : _ = some [_, _]) cb_36_E2 (fun nd_ => c36 b c (g) (W) (1) _ (by exact M.h0)) ?_; (clear F a M; try clear w); rintro v w rfl M a F
          refine s_I F rfl rfl rfl rfl rfl rfl ?_; clear F a; intro a F
          refine s_cq F M rfl rfl rfl rfl rfl (rfl : _ = some [_, _]) cb_36_E2 (fun nd_ => c36 b c (g) (W) (0) _ (by exact M.h0)) ?_; (clear F a M; try clear w); rintro v w rfl M a F
          refine s_sub F rfl rfl rfl rfl rfl rfl (by unfold In64; omega) ?_; clear F a; intro a F
          refine s_bin F rfl rfl rfl rfl rfl rfl rfl ?_; clear F a; intro a F
          refine s_I F rfl rfl rfl rfl rfl rfl ?_; clear F a; intro a F
          refine s_I F rfl rfl rfl rfl rfl rfl ?_; clear F a; intro a F
          refine bsplit F 59 rfl ?_ ?_
          ·
            clear F; intro hc13 F
            try rw [hc13] at F
            replace hc13 := nd1 hc13
            exfalso
            omega
          ·
            clear F; intro hc14 F
            try rw [hc14] at F
            replace hc14 := nd0 hc14
            refine s_I F rfl rfl rfl rfl rfl rfl ?_; clear F a; intro a F
            refine s_I F rfl rfl rfl rfl rfl rfl ?_; clear F a; intro a F
            refine s_cq F M rfl rfl rfl rfl rfl (rfl : _ = some [_, _]) cb_36_E2 (fun nd_ => c36 b c (g) (W) (k) _ (by exact M.h0)) ?_; (clear F a M; try clear w); rintro v w rfl M a F
            refine s_I F rfl rfl rfl rfl rfl rfl ?_; clear F a; intro a F
            refine s_I F rfl rfl rfl rfl rfl rfl ?_; clear F a; intro a F
            refine s_sub F rfl rfl rfl rfl rfl rfl (by unfold In64; omega) ?_; clear F a; intro a F
            refine s_cq F M rfl rfl rfl rfl rfl (rfl : _ = some [_, _]) cb_36_E2 (fun nd_ => c36 b c (g) (W) (k - 1) _ (by exact M.h0)) ?_; (clear F a M; try clear w); rintro v w rfl M a F
            refine s_bin F rfl rfl rfl rfl rfl rfl rfl ?_; clear F a; intro a F
            refine s_I F rfl rfl rfl rfl rfl rfl ?_; clear F a; intro a F
            refine t_endM M ?_; (clear M; try clear w); intro w M
            refine c_if F rfl ?_ ?_
            ·
              clear F; intro hc15 F
              try rw [hc15] at F
              replace hc15 := of_decide_eq_true hc15
              exfalso
              omega
            ·
              clear F; intro hc16 F
              try rw [hc16] at F
              replace hc16 := of_decide_eq_false hc16
              refine wp_skip ?_
              replace F := F.keep [0, 1, 2, 5, 6, 7] rfl
              refine wp_region_l [.ind, .ind, .ind] ([0, 1, 2]) rfl ?_
              refine s_I F rfl rfl rfl rfl rfl rfl ?_; clear F a; intro a F
              refine s_add F rfl rfl rfl rfl rfl rfl (by unfold In64; omega) ?_; clear F a; intro a F
              refine s_I F rfl rfl rfl rfl rfl rfl ?_; clear F a; intro a F
              refine t_endM M ?_; (clear M; try clear w); intro w M
              refine again (k + 1) (by show _ < _; (try dsimp only); omega) ⟨(by omega), (by omega)⟩ (F.keep [7, 0, 1, 2, 5, 6] rfl) ?_
              try dsimp only [List.cons_append, List.nil_append]
              refine M.pick ?_; repeat (first | exact PkG.nil | refine PkG.cons 0 rfl rfl ?_ | refine PkG.cons 1 rfl rfl ?_ | refine PkG.cons 2 rfl rfl ?_)
      ·
        clear F; intro hc17 F
        try rw [hc17] at F
        replace hc17 := of_decide_eq_false hc17
        refine wp_exit ?_
        refine wp_seq ?_
        replace F := F.keep [0, 1, 2, 5, 6, 7] rfl
        refine wp_region_l [.wr, .ind] ([0, 1]) rfl ?_
        refine s_cq F M rfl rfl rfl rfl rfl (rfl : _ = some []) cb_26_E2 (fun nd_ => c26 _) ?_; (clear F a M; try clear w); rintro v w rfl M a F
        refine s_I F rfl rfl rfl rfl rfl rfl ?_; clear F a; intro a F
        refine t_endM M ?_; (clear M; try clear w); intro w M
        refine wp_ret ?_
        refine ret1 F rfl rfl ?_
        -- end 1
        exact ⟨_, rfl, rfl, M.chg⟩
set_option maxRecDepth 100000 in
set_option maxHeartbeats 400000 in
theorem law10a (m e : Int) (l1 l2 : List Int) (v1 v2 : Value) (ep : Int) (w0 : World) (hr : RdSl w0.heap v1 l1.length 1 (l1.flatMap encI)) (hr2 : RdSl w0.heap v2 l2.length 1 (l2.flatMap encI)) (h : 1000 < l1.length ∨ 1000 < l2.length) : Cl Try.prog 10 #[.agg #[.int .i64 m, .int .i64 e], .agg #[v1, v2], .int .i64 ep] w0 (RetQ w0 fun v => v = .bool true) := by
  have M : Sep (fun _ => False) w0 w0 _ := Sep.nil _ w0
  have hro := (ro_of hr)
  obtain ⟨A, cc, rfl, hcc⟩ := hr.form
  have hro2 := (ro_of hr2)
  obtain ⟨A2, cc2, rfl, hcc2⟩ := hr2.form
  refine enter (vs := [_, _, _]) Try.func10 rfl rfl rfl ?_
  intro a F
  refine wp_seq ?_
  refine wp_region_l [.wr, .wr, .ind] ([0, 1, 2]) rfl ?_
  refine s_bxA F M rfl rfl rfl rfl rfl ?_; (clear F a M; try clear w); intro b3 w M a F
  refine s_bxA F M rfl rfl rfl rfl rfl ?_; (clear F a M; try clear w); intro b4 w M a F
  refine s_I F rfl rfl rfl rfl rfl rfl ?_; clear F a; intro a F
  refine t_endM M ?_; (clear M; try clear w); intro w M
  refine wp_seq ?_
  refine wp_region_l [.ind, .rd, .ind] ([0, 1, 2]) rfl ?_
  refine s_ia F rfl rfl rfl rfl ar_68_E2 rfl rfl (by omega) (by omega) ?_; clear F a; intro a F
  refine s_ld F rfl rfl rfl rfl sc_44_E2 rfl (by exact cell_of_blk M.h0 (lit rfl)) ?_; clear F a; intro a F
  refine s_I F rfl rfl rfl rfl rfl rfl ?_; clear F a; intro a F
  refine t_endM M ?_; (clear M; try clear w); intro w M
  refine wp_seq ?_
  refine wp_seq ?_
  replace F := F.keep [0, 1, 2, 3, 4, 6, 7] rfl
  refine wp_region_l [.ind, .rd, .ind, .ind, .ind, .ind, .ind, .ind, .ind] ([0, 1, 2, 3, 4, 5, 6, 7, 8]) rfl ?_
  refine s_ia F rfl rfl rfl rfl ar_68_E2 rfl rfl (by omega) (by omega) ?_; clear F a; intro a F
  refine s_ld F rfl rfl rfl rfl sc_44_E2 rfl (by exact cell_of_blk M.h0 (lit rfl)) ?_; clear F a; intro a F
  refine s_len F rfl rfl rfl rfl sl_44_E2 rfl ?_; clear F a; intro a F
  refine s_bin F rfl rfl rfl rfl rfl rfl rfl ?_; clear F a; intro a F
  refine s_I F rfl rfl rfl rfl rfl rfl ?_; clear F a; intro a F
  refine bsplit F 18 rfl ?_ ?_
  ·
    clear F; intro hc0 F
    try rw [hc0] at F
    replace hc0 := of_decide_eq_true hc0
    refine s_no F rfl rfl rfl rfl ?_; clear F a; intro a F
    refine s_no F rfl rfl rfl rfl ?_; clear F a; intro a F
    refine s_no F rfl rfl rfl rfl ?_; clear F a; intro a F
    refine s_I F rfl rfl rfl rfl rfl rfl ?_; clear F a; intro a F
    refine t_endM M ?_; (clear M; try clear w); intro w M
    refine c_t F rfl ?_
    refine wp_seq ?_
    replace F := F.keep [0, 1, 2, 3, 4, 6, 7] rfl
    refine wp_region_l [.wr, .ind] ([0, 1]) rfl ?_
    refine s_cq F M rfl rfl rfl rfl rfl (rfl : _ = some []) cb_26_E2 (fun nd_ => c26 _) ?_; (clear F a M; try clear w); rintro v w rfl M a F
    refine s_I F rfl rfl rfl rfl rfl rfl ?_; clear F a; intro a F
    refine t_endM M ?_; (clear M; try clear w); intro w M
    refine wp_ret ?_
    refine ret1 F rfl rfl ?_
    -- end 0
    exact ⟨_, rfl, rfl, M.chg⟩
  ·
    clear F; intro hc1 F
    try rw [hc1] at F
    replace hc1 := of_decide_eq_false hc1
    refine s_I F rfl rfl rfl rfl rfl rfl ?_; clear F a; intro a F
    refine s_len F rfl rfl rfl rfl sl_44_E2 rfl ?_; clear F a; intro a F
    refine s_bin F rfl rfl rfl rfl rfl rfl rfl ?_; clear F a; intro a F
    refine s_I F rfl rfl rfl rfl rfl rfl ?_; clear F a; intro a F
    refine t_endM M ?_; (clear M; try clear w); intro w M
    refine c_if F rfl ?_ ?_
    ·
      clear F; intro hc2 F
      try rw [hc2] at F
      replace hc2 := of_decide_eq_true hc2
      refine wp_seq ?_
      replace F := F.keep [0, 1, 2, 3, 4, 6, 7] rfl
      refine wp_region_l [.wr, .ind] ([0, 1]) rfl ?_
      refine s_cq F M rfl rfl rfl rfl rfl (rfl : _ = some []) cb_26_E2 (fun nd_ => c26 _) ?_; (clear F a M; try clear w); rintro v w rfl M a F
      refine s_I F rfl rfl rfl rfl rfl rfl ?_; clear F a; intro a F
      refine t_endM M ?_; (clear M; try clear w); intro w M
      refine wp_ret ?_
      refine ret1 F rfl rfl ?_
      -- end 1
      exact ⟨_, rfl, rfl, M.chg⟩
    ·
      clear F; intro hc3 F
      try rw [hc3] at F
      replace hc3 := of_decide_eq_false hc3
      exfalso; omega
set_option maxRecDepth 100000 in
set_option maxHeartbeats 8000000 in
theorem law10b (m e : Int) (l1 l2 : List Int) (v1 v2 : Value) (ep : Int) (w0 : World) (hr : RdSl w0.heap v1 l1.length 1 (l1.flatMap encI)) (hr2 : RdSl w0.heap v2 l2.length 1 (l2.flatMap encI)) (h : l1.length ≤ 1000) (h2 : l2.length ≤ 1000) : Cl Try.prog 10 #[.agg #[.int .i64 m, .int .i64 e], .agg #[v1, v2], .int .i64 ep] w0 (RetQ w0 fun v => v = .bool true) := by
  have M : Sep (fun _ => False) w0 w0 _ := Sep.nil _ w0
  have hro := (ro_of hr)
  obtain ⟨A, cc, rfl, hcc⟩ := hr.form
  have hro2 := (ro_of hr2)
  obtain ⟨A2, cc2, rfl, hcc2⟩ := hr2.form
  refine enter (vs := [_, _, _]) Try.func10 rfl rfl rfl ?_
  intro a F
  refine wp_seq ?_
  refine wp_region_l [.wr, .wr, .ind] ([0, 1, 2]) rfl ?_
  refine s_bxA F M rfl rfl rfl rfl rfl ?_; (clear F a M; try clear w); intro b3 w M a F
  refine s_bxA F M rfl rfl rfl rfl rfl ?_; (clear F a M; try clear w); intro b4 w M a F
  refine s_I F rfl rfl rfl rfl rfl rfl ?_; clear F a; intro a F
  refine t_endM M ?_; (clear M; try clear w); intro w M
  refine wp_seq ?_
  refine wp_region_l [.ind, .rd, .ind] ([0, 1, 2]) rfl ?_
  refine s_ia F rfl rfl rfl rfl ar_68_E2 rfl rfl (by omega) (by omega) ?_; clear F a; intro a F
  refine s_ld F rfl rfl rfl rfl sc_44_E2 rfl (by exact cell_of_blk M.h0 (lit rfl)) ?_; clear F a; intro a F
  refine s_I F rfl rfl rfl rfl rfl rfl ?_; clear F a; intro a F
  refine t_endM M ?_; (clear M; try clear w); intro w M
  refine wp_seq ?_
  refine wp_seq ?_
  replace F := F.keep [0, 1, 2, 3, 4, 6, 7] rfl
  refine wp_region_l [.ind, .rd, .ind, .ind, .ind, .ind, .ind, .ind, .ind] ([0, 1, 2, 3, 4, 5, 6, 7, 8]) rfl ?_
  refine s_ia F rfl rfl rfl rfl ar_68_E2 rfl rfl (by omega) (by omega) ?_; clear F a; intro a F
  refine s_ld F rfl rfl rfl rfl sc_44_E2 rfl (by exact cell_of_blk M.h0 (lit rfl)) ?_; clear F a; intro a F
  refine s_len F rfl rfl rfl rfl sl_44_E2 rfl ?_; clear F a; intro a F
  refine s_bin F rfl rfl rfl rfl rfl rfl rfl ?_; clear F a; intro a F
  refine s_I F rfl rfl rfl rfl rfl rfl ?_; clear F a; intro a F
  refine bsplit F 18 rfl ?_ ?_
  ·
    clear F; intro hc0 F
    try rw [hc0] at F
    replace hc0 := of_decide_eq_true hc0
    refine s_no F rfl rfl rfl rfl ?_; clear F a; intro a F
    refine s_no F rfl rfl rfl rfl ?_; clear F a; intro a F
    refine s_no F rfl rfl rfl rfl ?_; clear F a; intro a F
    refine s_I F rfl rfl rfl rfl rfl rfl ?_; clear F a; intro a F
    refine t_endM M ?_; (clear M; try clear w); intro w M
    refine c_t F rfl ?_
    refine wp_seq ?_
    replace F := F.keep [0, 1, 2, 3, 4, 6, 7] rfl
    refine wp_region_l [.wr, .ind] ([0, 1]) rfl ?_
    refine s_cq F M rfl rfl rfl rfl rfl (rfl : _ = some []) cb_26_E2 (fun nd_ => c26 _) ?_; (clear F a M; try clear w); rintro v w rfl M a F
    refine s_I F rfl rfl rfl rfl rfl rfl ?_; clear F a; intro a F
    refine t_endM M ?_; (clear M; try clear w); intro w M
    refine wp_ret ?_
    refine ret1 F rfl rfl ?_
    -- end 0
    exact ⟨_, rfl, rfl, M.chg⟩
  ·
    clear F; intro hc1 F
    try rw [hc1] at F
    replace hc1 := of_decide_eq_false hc1
    refine s_I F rfl rfl rfl rfl rfl rfl ?_; clear F a; intro a F
    refine s_len F rfl rfl rfl rfl sl_44_E2 rfl ?_; clear F a; intro a F
    refine s_bin F rfl rfl rfl rfl rfl rfl rfl ?_; clear F a; intro a F
    refine s_I F rfl rfl rfl rfl rfl rfl ?_; clear F a; intro a F
    refine t_endM M ?_; (clear M; try clear w); intro w M
    refine c_if F rfl ?_ ?_
    ·
      clear F; intro hc2 F
      try rw [hc2] at F
      replace hc2 := of_decide_eq_true hc2
      refine wp_seq ?_
      replace F := F.keep [0, 1, 2, 3, 4, 6, 7] rfl
      refine wp_region_l [.wr, .ind] ([0, 1]) rfl ?_
      refine s_cq F M rfl rfl rfl rfl rfl (rfl : _ = some []) cb_26_E2 (fun nd_ => c26 _) ?_; (clear F a M; try clear w); rintro v w rfl M a F
      refine s_I F rfl rfl rfl rfl rfl rfl ?_; clear F a; intro a F
      refine t_endM M ?_; (clear M; try clear w); intro w M
      refine wp_ret ?_
      refine ret1 F rfl rfl ?_
      -- end 1
      exact ⟨_, rfl, rfl, M.chg⟩
    ·
      clear F; intro hc3 F
      try rw [hc3] at F
      replace hc3 := of_decide_eq_false hc3
      refine wp_skip ?_
      refine wp_seq ?_
      replace F := F.keep [0, 1, 2, 3, 4, 6, 7] rfl
      refine wp_region_l [.ind, .rd, .ind, .rd, .wr, .ind] ([0, 1, 2, 3, 4, 5]) rfl ?_
      refine s_fa0 F rfl rfl rfl rfl fa_52_0_E2 rfl ?_; clear F a; intro a F
      refine s_ld F rfl rfl rfl rfl sc_3_E2 rfl (by exact cell_of_blk M.h1 (lit rfl)) ?_; clear F a; intro a F
      refine s_fa0 F rfl rfl rfl rfl fa_52_1_E2 rfl ?_; clear F a; intro a F
      refine s_ld F rfl rfl rfl rfl sc_3_E2 rfl (by exact cell_of_blk M.h1 (lit rfl)) ?_; clear F a; intro a F
      refine s_call (m := []) F M rfl rfl rfl rfl rfl (rfl : _ = some [_, _]) cb_27_E2 (fun nd_ => c27 (m) (e) _) ?_; (clear F a M; try clear w); rintro v x_ w rfl M a F; (try simp only [List.cons_append, List.nil_append] at M)
      obtain ⟨b, c⟩ := x_
      refine s_I F rfl rfl rfl rfl rfl rfl ?_; clear F a; intro a F
      refine t_endM M ?_; (clear M; try clear w); intro w M
      refine wp_seq ?_
      refine wp_seq ?_
      replace F := F.keep [0, 1, 2, 3, 4, 6, 7, 8] rfl
      refine wp_region_l [.ind] ([0]) rfl ?_
      refine s_I F rfl rfl rfl rfl rfl rfl ?_; clear F a; intro a F
      refine t_endM M ?_; (clear M; try clear w); intro w M
      refine wp_block ?_
      have M1 : Sep _ _ _ (gC c _ :: _) := M.f1; replace M := M1; clear M1
      have M1 : Sep _ _ _ (gB b c _ :: _) := M.f1; replace M := M1; clear M1
      refine loopX (X := (Int) × (Gt)) F [0, 1, 2, 3, 4, 6, 7, 8] rfl (fun ((i, g) : (Int) × (Gt)) => (0 ≤ i) ∧ (i ≤ l1.length) ∧ (g.Wf)) (fun ((i, g) : (Int) × (Gt)) => [(9, .int .i64 i)]) (fun ((i, g) : (Int) × (Gt)) => [gB b c g, gC c g]) (fun ((i, g) : (Int) × (Gt)) => l1.length - i.toNat) ((0), (Gt.new m e)) M ⟨(by omega), (by omega), (Gt.new_wf _ _)⟩ (F.keep [9, 0, 1, 2, 3, 4, 6, 7, 8] rfl) ?_
      clear F M; clear a; (try clear w)
      rintro ⟨i, g⟩ a w ⟨i0, i1, W⟩ F M; try dsimp only at F M
      try simp only [List.cons_append, List.nil_append] at F M
      try dsimp only at i0 i1 W
      refine wp_seq ?_
      refine wp_seq ?_
      refine wp_region_l [.ind, .ind, .rd, .ind, .ind] ([0, 1, 2, 3, 4]) rfl ?_
      refine s_I F rfl rfl rfl rfl rfl rfl ?_; clear F a; intro a F
      refine s_ia F rfl rfl rfl rfl ar_68_E2 rfl rfl (by omega) (by omega) ?_; clear F a; intro a F
      refine s_ld F rfl rfl rfl rfl sc_44_E2 rfl (by exact cell_of_blk M.h2 (lit rfl)) ?_; clear F a; intro a F
      refine s_len F rfl rfl rfl rfl sl_44_E2 rfl ?_; clear F a; intro a F
      refine s_bin F rfl rfl rfl rfl rfl rfl rfl ?_; clear F a; intro a F
      refine t_endM M ?_; (clear M; try clear w); intro w M
      refine c_if F rfl ?_ ?_
      ·
        clear F; intro hc4 F
        try rw [hc4] at F
        replace hc4 := of_decide_eq_true hc4
        refine wp_skip ?_
        refine wp_seq ?_
        refine wp_block ?_
        replace F := F.keep [0, 1, 2, 3, 4, 6, 7, 8, 9] rfl
        refine wp_region_l [.ind, .ind, .rd, .ind, .ind, .rd, .wr] ([0, 1, 2, 3, 4, 5, 6]) rfl ?_
        refine s_I F rfl rfl rfl rfl rfl rfl ?_; clear F a; intro a F
        refine s_ia F rfl rfl rfl rfl ar_68_E2 rfl rfl (by omega) (by omega) ?_; clear F a; intro a F
        refine s_ld F rfl rfl rfl rfl sc_44_E2 rfl (by exact cell_of_blk M.h2 (lit rfl)) ?_; clear F a; intro a F
        refine s_I F rfl rfl rfl rfl rfl rfl ?_; clear F a; intro a F
        refine s_ix F rfl rfl rfl rfl sl_44_E2 rfl rfl (by exact M.chg.ro hro) (by omega) (by omega) ?_; clear F a; intro e40 he40 a F
        refine s_ld F rfl rfl rfl rfl sc_3_E2 rfl (by exact rdX0 (M.chg.ro hro) (by intro e; rfl) he40 rfl) ?_; clear F a; intro a F
        have M1 : Sep _ _ _ (gC c _ :: _) := M.f1; replace M := M1; clear M1
        have M1 : Sep _ _ _ (gB b c _ :: _) := M.f1; replace M := M1; clear M1
        refine s_call (m := [_, _]) F M rfl rfl rfl rfl rfl (rfl : _ = some [_, _]) cb_31_E2 (fun nd_ => c31 b c (g) (e40) _ ((M.drewN nd_).own.left (m := [_, _]))) ?_; (clear F a M; try clear w); rintro v x w rfl M a F; (try simp only [List.cons_append, List.nil_append] at M)
        refine t_endM M ?_; (clear M; try clear w); intro w M
        replace F := F.keep [0, 1, 2, 3, 4, 6, 7, 8, 9] rfl
        refine wp_region_l [.ind, .ind, .ind] ([0, 1, 2]) rfl ?_
        refine s_I F rfl rfl rfl rfl rfl rfl ?_; clear F a; intro a F
        refine s_add F rfl rfl rfl rfl rfl rfl (by unfold In64; omega) ?_; clear F a; intro a F
        refine s_I F rfl rfl rfl rfl rfl rfl ?_; clear F a; intro a F
        refine t_endM M ?_; (clear M; try clear w); intro w M
        refine again ((i + 1), (g.tick e40)) (by show _ < _; (try dsimp only); omega) ⟨(by omega), (by assumption), (W.tick _)⟩ (F.keep [9, 0, 1, 2, 3, 4, 6, 7, 8] rfl) ?_
        try dsimp only [List.cons_append, List.nil_append]
        refine M.pick ?_; repeat (first | exact PkG.nil | refine PkG.cons 0 rfl rfl ?_ | refine PkG.cons 1 rfl rfl ?_ | refine PkG.cons 2 rfl rfl ?_ | refine PkG.cons 3 rfl rfl ?_)
      ·
        clear F; intro hc5 F
        try rw [hc5] at F
        replace hc5 := of_decide_eq_false hc5
        refine wp_exit ?_
        refine wp_seq ?_
        replace F := F.keep [0, 1, 2, 3, 4, 6, 7, 8, 9] rfl
        refine wp_region_l [.ind, .ind, .wr, .ind] ([0, 1, 2, 3]) rfl ?_
        refine s_I F rfl rfl rfl rfl rfl rfl ?_; clear F a; intro a F
        refine s_I F rfl rfl rfl rfl rfl rfl ?_; clear F a; intro a F
        refine s_cq F M rfl rfl rfl rfl rfl (rfl : _ = some [_, _]) cb_34_E2 (fun nd_ => c34 b c (g) (W) (ep) _ (by exact M.h0) (by exact M.h1)) ?_; (clear F a M; try clear w); rintro v w rfl M a F
        refine s_I F rfl rfl rfl rfl rfl rfl ?_; clear F a; intro a F
        refine t_endM M ?_; (clear M; try clear w); intro w M
        refine wp_seq ?_
        replace F := F.keep [0, 1, 2, 3, 4, 6, 7, 8, 9, 10] rfl
        refine wp_region_l [.ind, .wr] ([0, 1]) rfl ?_
        refine s_I F rfl rfl rfl rfl rfl rfl ?_; clear F a; intro a F
        have M1 : Sep _ _ _ (gC c _ :: _) := M.f1; replace M := M1; clear M1
        have M1 : Sep _ _ _ (gB b c _ :: _) := M.f1; replace M := M1; clear M1
        refine s_call (m := [_, _]) F M rfl rfl rfl rfl rfl (rfl : _ = some [_]) cb_29_E2 (fun nd_ => c29 b c g _ ((M.drewN nd_).own.left (m := [_, _]))) ?_; (clear F a M; try clear w); rintro v c2 w rfl M a F; (try simp only [List.cons_append, List.nil_append] at M)
        refine t_endM M ?_; (clear M; try clear w); intro w M
        refine wp_seq ?_
        refine wp_seq ?_
        replace F := F.keep [0, 1, 2, 3, 4, 6, 7, 8, 9, 10] rfl
        refine wp_region_l [.ind, .ind, .wr, .ind, .ind] ([0, 1, 2, 3, 4]) rfl ?_
        refine s_I F rfl rfl rfl rfl rfl rfl ?_; clear F a; intro a F
        refine s_I F rfl rfl rfl rfl rfl rfl ?_; clear F a; intro a F
        refine s_cq F M rfl rfl rfl rfl rfl (rfl : _ = some [_, _]) cb_34_E2 (fun nd_ => c34 b c2 (g.crash) (W.crash) (ep) _ (by exact M.h0) (by exact M.h1)) ?_; (clear F a M; try clear w); rintro v w rfl M a F
        refine s_I F rfl rfl rfl rfl rfl rfl ?_; clear F a; intro a F
        refine s_bne F rfl rfl rfl rfl bo_4_E2 rfl rfl ?_; clear F a; intro a F
        refine t_endM M ?_; (clear M; try clear w); intro w M
        refine c_if F rfl ?_ ?_
        ·
          clear F; intro hc6 F
          try rw [hc6] at F
          replace hc6 := nd1 hc6
          exact absurd hc6 (by rw [Gt.open_crash]; simp)
        ·
          clear F; intro hc7 F
          try rw [hc7] at F
          replace hc7 := nd0 hc7
          refine wp_skip ?_
          refine wp_seq ?_
          refine wp_seq ?_
          replace F := F.keep [0, 1, 2, 3, 4, 6, 7, 8, 9, 10] rfl
          refine wp_region_l [.ind] ([0]) rfl ?_
          refine s_I F rfl rfl rfl rfl rfl rfl ?_; clear F a; intro a F
          refine t_endM M ?_; (clear M; try clear w); intro w M
          refine wp_block ?_
          have M1 : Sep _ _ _ (gC c2 _ :: _) := M.f1; replace M := M1; clear M1
          have M1 : Sep _ _ _ (gB b c2 _ :: _) := M.f1; replace M := M1; clear M1
          refine loopX (X := (Int) × (Gt)) F [0, 1, 2, 3, 4, 7, 8, 9, 10] rfl (fun ((i, g2_) : (Int) × (Gt)) => (0 ≤ i) ∧ (i ≤ l2.length) ∧ (g2_.Wf) ∧ (g.open_ ep = true → g2_.open_ ep = true)) (fun ((i, g2_) : (Int) × (Gt)) => [(11, .int .i64 i)]) (fun ((i, g2_) : (Int) × (Gt)) => [gB b c2 g2_, gC c2 g2_]) (fun ((i, g2_) : (Int) × (Gt)) => l2.length - i.toNat) ((0), (g.crash)) M ⟨(by omega), (by omega), W.crash, (fun h => h)⟩ (F.keep [11, 0, 1, 2, 3, 4, 7, 8, 9, 10] rfl) ?_
          clear F M; clear a; (try clear w)
          rintro ⟨i, g2_⟩ a w ⟨j0, j1, W2, hst⟩ F M; try dsimp only at F M
          try simp only [List.cons_append, List.nil_append] at F M
          try dsimp only at j0 j1 W2 hst
          refine wp_seq ?_
          refine wp_seq ?_
          refine wp_region_l [.ind, .ind, .ind, .ind] ([0, 1, 2, 3]) rfl ?_
          refine s_I F rfl rfl rfl rfl rfl rfl ?_; clear F a; intro a F
          refine s_I F rfl rfl rfl rfl rfl rfl ?_; clear F a; intro a F
          refine s_len F rfl rfl rfl rfl sl_44_E2 rfl ?_; clear F a; intro a F
          refine s_bin F rfl rfl rfl rfl rfl rfl rfl ?_; clear F a; intro a F
          refine t_endM M ?_; (clear M; try clear w); intro w M
          refine c_if F rfl ?_ ?_
          ·
            clear F; intro hc8 F
            try rw [hc8] at F
            replace hc8 := of_decide_eq_true hc8
            refine wp_skip ?_
            refine wp_seq ?_
            refine wp_block ?_
            refine wp_seq ?_
            replace F := F.keep [0, 1, 2, 3, 4, 7, 8, 9, 10, 11] rfl
            refine wp_region_l [.ind, .ind, .ind, .ind, .rd, .wr] ([0, 1, 2, 3, 4, 5]) rfl ?_
            refine s_I F rfl rfl rfl rfl rfl rfl ?_; clear F a; intro a F
            refine s_I F rfl rfl rfl rfl rfl rfl ?_; clear F a; intro a F
            refine s_I F rfl rfl rfl rfl rfl rfl ?_; clear F a; intro a F
            refine s_ix F rfl rfl rfl rfl sl_44_E2 rfl rfl (by exact M.chg.ro hro2) (by omega) (by omega) ?_; clear F a; intro e62 he62 a F
            refine s_ld F rfl rfl rfl rfl sc_3_E2 rfl (by exact rdX0 (M.chg.ro hro2) (by intro e; rfl) he62 rfl) ?_; clear F a; intro a F
            have M1 : Sep _ _ _ (gC c2 _ :: _) := M.f1; replace M := M1; clear M1
            have M1 : Sep _ _ _ (gB b c2 _ :: _) := M.f1; replace M := M1; clear M1
            refine s_call (m := [_, _]) F M rfl rfl rfl rfl rfl (rfl : _ = some [_, _]) cb_31_E2 (fun nd_ => c31 b c2 g2_ e62 _ ((M.drewN nd_).own.left (m := [_, _]))) ?_; (clear F a M; try clear w); rintro v x w rfl M a F; (try simp only [List.cons_append, List.nil_append] at M)
            refine t_endM M ?_; (clear M; try clear w); intro w M
            refine wp_seq ?_
            replace F := F.keep [0, 1, 2, 3, 4, 7, 8, 9, 10, 11] rfl
            refine wp_region_l [.ind, .ind, .ind, .ind, .wr, .ind, .ind] ([0, 1, 2, 3, 4, 5, 6]) rfl ?_
            refine s_I F rfl rfl rfl rfl rfl rfl ?_; clear F a; intro a F
            refine s_I F rfl rfl rfl rfl rfl rfl ?_; clear F a; intro a F
            refine bsplit F 66 rfl ?_ ?_
            ·
              clear F; intro hc9 F
              try rw [hc9] at F
              skip
              refine s_I F rfl rfl rfl rfl rfl rfl ?_; clear F a; intro a F
              refine s_I F rfl rfl rfl rfl rfl rfl ?_; clear F a; intro a F
              refine s_cq F M rfl rfl rfl rfl rfl (rfl : _ = some [_, _]) cb_34_E2 (fun nd_ => c34 b c2 (g2_.tick e62) (W2.tick e62) (ep) _ (by exact M.h0) (by exact M.h1)) ?_; (clear F a M; try clear w); rintro v w rfl M a F
              refine s_I F rfl rfl rfl rfl rfl rfl ?_; clear F a; intro a F
              refine s_I F rfl rfl rfl rfl rfl rfl ?_; clear F a; intro a F
              refine t_endM M ?_; (clear M; try clear w); intro w M
              refine c_if F rfl ?_ ?_
              ·
                clear F; intro hc10 F
                try rw [hc10] at F
                replace hc10 := nt hc10
                exfalso
                have h3 := Gt.open_stays (n := e62) (hst (by assumption))
                rw [h3] at hc10
                cases hc10
              ·
                clear F; intro hc11 F
                try rw [hc11] at F
                replace hc11 := nf hc11
                refine wp_skip ?_
                replace F := F.keep [0, 1, 2, 3, 4, 7, 8, 9, 10, 11] rfl
                refine wp_region_l [.ind, .ind, .ind] ([0, 1, 2]) rfl ?_
                refine s_I F rfl rfl rfl rfl rfl rfl ?_; clear F a; intro a F
                refine s_add F rfl rfl rfl rfl rfl rfl (by unfold In64; omega) ?_; clear F a; intro a F
                refine s_I F rfl rfl rfl rfl rfl rfl ?_; clear F a; intro a F
                refine t_endM M ?_; (clear M; try clear w); intro w M
                refine again ((i + 1), (g2_.tick e62)) (by show _ < _; (try dsimp only); omega) ⟨(by omega), (by assumption), (W2.tick _), (fun h => Gt.open_stays (hst h))⟩ (by have F9 := F.keep [11, 0, 1, 2, 3, 4, 7, 8, 9, 10] rfl; simp only [hc1, hc3, hc5, hc7, hc8, hc9, hc11]; exact F9) ?_
                try dsimp only [List.cons_append, List.nil_append]
                refine M.pick ?_; repeat (first | exact PkG.nil | refine PkG.cons 0 rfl rfl ?_ | refine PkG.cons 1 rfl rfl ?_ | refine PkG.cons 2 rfl rfl ?_ | refine PkG.cons 3 rfl rfl ?_)
            ·
              clear F; intro hc12 F
              try rw [hc12] at F
              skip
              refine s_no F rfl rfl rfl rfl ?_; clear F a; intro a F
              refine s_no F rfl rfl rfl rfl ?_; clear F a; intro a F
              refine s_no F rfl rfl rfl rfl ?_; clear F a; intro a F
              refine s_no F rfl rfl rfl rfl ?_; clear F a; intro a F
              refine s_I F rfl rfl rfl rfl rfl rfl ?_; clear F a; intro a F
              refine t_endM M ?_; (clear M; try clear w); intro w M
              refine c_f F rfl ?_
              refine wp_skip ?_
              replace F := F.keep [0, 1, 2, 3, 4, 7, 8, 9, 10, 11] rfl
              refine wp_region_l [.ind, .ind, .ind] ([0, 1, 2]) rfl ?_
              refine s_I F rfl rfl rfl rfl rfl rfl ?_; clear F a; intro a F
              refine s_add F rfl rfl rfl rfl rfl rfl (by unfold In64; omega) ?_; clear F a; intro a F
              refine s_I F rfl rfl rfl rfl rfl rfl ?_; clear F a; intro a F
              refine t_endM M ?_; (clear M; try clear w); intro w M
              refine again ((i + 1), (g2_.tick e62)) (by show _ < _; (try dsimp only); omega) ⟨(by omega), (by assumption), (W2.tick _), (fun h => Gt.open_stays (hst h))⟩ (by have F9 := F.keep [11, 0, 1, 2, 3, 4, 7, 8, 9, 10] rfl; simp only [hc1, hc3, hc5, hc7, hc8, hc12]; exact F9) ?_
              try dsimp only [List.cons_append, List.nil_append]
              refine M.pick ?_; repeat (first | exact PkG.nil | refine PkG.cons 0 rfl rfl ?_ | refine PkG.cons 1 rfl rfl ?_ | refine PkG.cons 2 rfl rfl ?_ | refine PkG.cons 3 rfl rfl ?_)
          ·
            clear F; intro hc13 F
            try rw [hc13] at F
            replace hc13 := of_decide_eq_false hc13
            refine wp_exit ?_
            refine wp_seq ?_
            replace F := F.keep [0, 1, 2, 3, 4, 7, 8, 9, 10, 11] rfl
            refine wp_region_l [.wr, .ind] ([0, 1]) rfl ?_
            refine s_cq F M rfl rfl rfl rfl rfl (rfl : _ = some []) cb_26_E2 (fun nd_ => c26 _) ?_; (clear F a M; try clear w); rintro v w rfl M a F
            refine s_I F rfl rfl rfl rfl rfl rfl ?_; clear F a; intro a F
            refine t_endM M ?_; (clear M; try clear w); intro w M
            refine wp_ret ?_
            refine ret1 F rfl rfl ?_
            -- end 2
            exact ⟨_, rfl, rfl, M.chg⟩
end Go.Proofs.Ytmikcmcgfehgfaa
