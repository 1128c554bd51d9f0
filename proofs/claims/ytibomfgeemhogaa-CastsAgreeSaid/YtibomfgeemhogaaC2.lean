/- C2 of the seat. -/
import Derived.Test.YtibomfgeemhogaaC1
namespace Go.Proofs.Ytibomfgeemhogaa
open Go Fw

theorem cb_16_C2 : callB Try.prog 16 = true := by kernel_rfl
theorem pt_29_C2 : ptrB Try.prog 29 = true := by kernel_rfl
theorem cb_12_C2 : callB Try.prog 12 = true := by kernel_rfl
theorem bl_38_0_1_2_C2 : ∀ (x0 : Int) (x1 : Int) (x2 : ByteArray), ∀ w : World, (Instr.build 38 #[(0, .int .i64 x0), (1, .int .i64 x1), (2, .string x2)]).run Try.prog w = .ok (.agg #[.int .i64 x0, .int .i64 x1, .string x2]) w := by intros; kernel_rfl
theorem cb_21_C2 : callB Try.prog 21 = true := by kernel_rfl
theorem cb_20_C2 : callB Try.prog 20 = true := by kernel_rfl
theorem sl_27_C2 : slcB Try.prog 27 = some (38, 3) := by kernel_rfl
theorem fa_38_0_C2 : FA Try.prog 38 0 0 := fun _ _ _ => by kernel_rfl
theorem sc_3_C2 : scalB Try.prog 3 = true := by kernel_rfl
theorem fa_38_2_C2 : FA Try.prog 38 2 2 := fun _ _ _ => by kernel_rfl
theorem sc_9_C2 : scalB Try.prog 9 = true := by kernel_rfl
open CastM

def xS : ByteArray := { data := #[120] }
def aw (k : Nat) : CSt := ⟨4, 1, 1, [⟨1, 1, xS⟩, ⟨2, 1, xS⟩, ⟨2, 2, xS⟩, ⟨2, 3, xS⟩, ⟨3, 1, xS⟩, ⟨3, 2, xS⟩, ⟨3, 3, xS⟩].take k, decide (4 ≤ k), decide (7 ≤ k), if 7 ≤ k then xS else empty⟩
def awo (k : Nat) : List Msg := if k = 0 then [⟨2, 0, xS⟩] else if k = 3 then [⟨3, 0, xS⟩] else []
theorem aw0 : new 4 1 1 = aw 0 := rfl
theorem awt : (aw 0).take ⟨1, 1, xS⟩ = (aw 1, awo 0) ∧ (aw 1).take ⟨2, 1, xS⟩ = (aw 2, awo 1) ∧ (aw 2).take ⟨2, 1 + 1, xS⟩ = (aw 3, awo 2) ∧ (aw 3).take ⟨2, 1 + 1 + 1, xS⟩ = (aw 4, awo 3) ∧
    (aw 4).take ⟨3, 1, xS⟩ = (aw 5, awo 4) ∧ (aw 5).take ⟨3, 1 + 1, xS⟩ = (aw 6, awo 5) ∧ (aw 6).take ⟨3, 1 + 1 + 1, xS⟩ = (aw 7, awo 6) :=
  ⟨by kernel_rfl, by kernel_rfl, by kernel_rfl, by kernel_rfl, by kernel_rfl, by kernel_rfl, by kernel_rfl⟩

set_option maxRecDepth 100000 in
set_option maxHeartbeats 400000 in
theorem c14 (w0 : World) : Cl Try.prog 14 #[] w0 (RetQ w0 fun v => v = .bool true) := by
  have M : Sep (fun _ => False) w0 w0 _ := Sep.nil _ w0
  refine enter (vs := []) Try.func14 rfl rfl rfl ?_
  intro a F
  refine wp_seq ?_
  refine wp_region_l [.ind] ([0]) rfl ?_
  refine s_I F rfl rfl rfl rfl rfl rfl ?_; clear F a; intro a F
  refine t_endM M ?_; (clear M; try clear w); intro w M
  refine wp_seq ?_
  refine wp_region_l [.wr, .ind] ([0, 1]) rfl ?_
  refine s_call (m := []) F M rfl rfl rfl rfl rfl (rfl : _ = some [_, _, _]) cb_16_C2 (fun n => c16 4 1 1 (by decide) (by decide) (by decide) _) ?_; (clear F a M; try clear w); rintro v x w rfl M a F; (try simp only [List.cons_append, List.nil_append] at M)
  obtain ⟨b, vb⟩ := x
  replace M : Sep _ _ _ (castR b vb (aw 0) :: _) := M
  refine s_I F rfl rfl rfl rfl rfl rfl ?_; clear F a; intro a F
  refine t_endM M ?_; (clear M; try clear w); intro w M
  refine wp_seq ?_
  refine wp_seq ?_
  replace F := F.keep [0, 1] rfl
  refine wp_region_l [.ind, .ind, .ind, .wr, .ind, .ind, .ind, .wr, .ind, .ind] ([0, 1, 2, 3, 4, 5, 6, 7, 8, 9]) rfl ?_
  refine s_I F rfl rfl rfl rfl rfl rfl ?_; clear F a; intro a F
  refine s_pn F rfl rfl rfl rfl pt_29_C2 rfl ?_; clear F a; intro a F
  replace F : Fr _ _ ((12, Value.bool false) :: _) := F
  refine s_I F rfl rfl rfl rfl rfl rfl ?_; clear F a; intro a F
  refine s_cq F M rfl rfl rfl rfl rfl (rfl : _ = some [_, _]) cb_12_C2 (fun n => c12 _ _ _) ?_; (clear F a M; try clear w); rintro v w rfl M a F
  refine s_bin F rfl rfl rfl rfl rfl rfl rfl ?_; clear F a; intro a F
  replace F : Fr _ _ ((15, Value.bool false) :: _) := F
  refine s_I F rfl rfl rfl rfl rfl rfl ?_; clear F a; intro a F
  refine s_I F rfl rfl rfl rfl rfl rfl ?_; clear F a; intro a F
  refine s_cq F M rfl rfl rfl rfl rfl (rfl : _ = some [_, _, _]) cb_16_C2 (fun n => c16n 3 1 1 (by decide) _) ?_; (clear F a M; try clear w); rintro v w rfl M a F
  refine s_pne F rfl rfl rfl rfl pt_29_C2 rfl ?_; clear F a; intro a F
  replace F : Fr _ _ ((19, Value.bool false) :: _) := F
  refine s_I F rfl rfl rfl rfl rfl rfl ?_; clear F a; intro a F
  refine t_endM M ?_; (clear M; try clear w); intro w M
  refine c_f F rfl ?_
  refine wp_skip ?_
  refine wp_seq ?_
  replace F := F.keep [0, 1] rfl
  refine wp_region_l [.ind, .ind, .wr, .ind] ([0, 1, 2, 3]) rfl ?_
  refine s_I F rfl rfl rfl rfl rfl rfl ?_; clear F a; intro a F
  refine s_bld F rfl rfl rfl rfl (parts3 F rfl rfl rfl) (bl_38_0_1_2_C2 _ _ _) ?_; clear F a; intro a F
  have M1 : Sep _ _ _ (castR _ _ _ :: _) := M; replace M := M1; clear M1
  refine s_call (m := [_]) F M rfl rfl rfl rfl rfl (rfl : _ = some [_, _]) cb_21_C2 (fun n => c21 b vb (aw 0) ⟨1, 1, xS⟩ _ (M.drewN n).own.one) ?_; (clear F a M; try clear w); rintro v x w rfl M a F; (try simp only [List.cons_append, List.nil_append] at M)
  rw [awt.1] at M
  replace M : Sep _ _ _ (castR b vb (aw 1) :: slR _ 1 38 3 ((awo 0).flatMap encM) :: _) := M
  obtain ⟨A, c, rfl⟩ := M.h1.form
  obtain ⟨b2, rfl⟩ := M.h1.pos (by decide)
  refine s_I F rfl rfl rfl rfl rfl rfl ?_; clear F a; intro a F
  refine t_endM M ?_; (clear M; try clear w); intro w M
  refine wp_seq ?_
  replace F := F.keep [0, 1, 2] rfl
  refine wp_region_l [.ind, .wr, .ind, .ind, .ind, .ind, .ind] ([0, 1, 2, 3, 4, 5, 6]) rfl ?_
  refine s_I F rfl rfl rfl rfl rfl rfl ?_; clear F a; intro a F
  refine s_cq F M rfl rfl rfl rfl rfl (rfl : _ = some [_]) cb_20_C2 (fun n => c20 b vb (aw 1) _ M.h0) ?_; (clear F a M; try clear w); rintro v w rfl M a F
  refine s_I F rfl rfl rfl rfl rfl rfl ?_; clear F a; intro a F
  refine s_I F rfl rfl rfl rfl rfl rfl ?_; clear F a; intro a F
  refine s_I F rfl rfl rfl rfl rfl rfl ?_; clear F a; intro a F
  refine s_I F rfl rfl rfl rfl rfl rfl ?_; clear F a; intro a F
  refine s_I F rfl rfl rfl rfl rfl rfl ?_; clear F a; intro a F
  refine t_endM M ?_; (clear M; try clear w); intro w M
  refine wp_seq ?_
  replace F := F.keep [0, 1, 2, 4] rfl
  refine wp_region_l [.ind] ([0]) rfl ?_
  refine s_I F rfl rfl rfl rfl rfl rfl ?_; clear F a; intro a F
  refine t_endM M ?_; (clear M; try clear w); intro w M
  refine wp_seq ?_
  refine wp_seq ?_
  refine wp_region_l [.ind] ([0]) rfl ?_
  refine s_I F rfl rfl rfl rfl rfl rfl ?_; clear F a; intro a F
  refine t_endM M ?_; (clear M; try clear w); intro w M
  refine wp_block ?_
  refine wp_loop_rounds 4 ?_
  refine (show Code.wp _ _ _ _ _ from ?_)
  refine wp_seq ?_
  refine wp_seq ?_
  refine wp_region_l [.ind, .ind] ([0, 1]) rfl ?_
  refine s_I F rfl rfl rfl rfl rfl rfl ?_; clear F a; intro a F
  refine s_bin F rfl rfl rfl rfl rfl rfl rfl ?_; clear F a; intro a F
  refine t_endM M ?_; (clear M; try clear w); intro w M
  refine c_t F (by rfl) ?_
  refine wp_skip ?_
  refine wp_seq ?_
  refine wp_block ?_
  replace F := F.keep [0, 1, 2, 4, 5, 6] rfl
  refine wp_region_l [.ind, .ind, .ind, .ind, .wr, .ind, .ind, .ind] ([0, 1, 2, 3, 4, 5, 6, 7]) rfl ?_
  refine s_I F rfl rfl rfl rfl rfl rfl ?_; clear F a; intro a F
  refine s_I F rfl rfl rfl rfl rfl rfl ?_; clear F a; intro a F
  refine s_I F rfl rfl rfl rfl rfl rfl ?_; clear F a; intro a F
  refine s_bld F rfl rfl rfl rfl (parts3 F rfl rfl rfl) (bl_38_0_1_2_C2 _ _ _) ?_; clear F a; intro a F
  have M1 : Sep _ _ _ (castR _ _ _ :: _) := M; replace M := M1; clear M1
  refine s_call (m := [_]) F M rfl rfl rfl rfl rfl (rfl : _ = some [_, _]) cb_21_C2 (fun n => c21 b vb (aw 1) ⟨2, 1, xS⟩ _ (M.drewN n).own.one) ?_; (clear F a M; try clear w); rintro v x w rfl M a F; (try simp only [List.cons_append, List.nil_append] at M)
  rw [awt.2.1] at M
  replace M : Sep _ _ _ (castR b vb (aw 2) :: slR _ 0 38 3 ((awo 1).flatMap encM) :: _) := M
  obtain ⟨A, c, rfl⟩ := M.h1.form
  replace M := M.f1.tl
  refine s_len F rfl rfl rfl rfl sl_27_C2 rfl ?_; clear F a; intro a F
  refine s_add F rfl rfl rfl rfl rfl rfl (by unfold In64; omega) ?_; clear F a; intro a F
  refine s_I F rfl rfl rfl rfl rfl rfl ?_; clear F a; intro a F
  refine t_endM M ?_; (clear M; try clear w); intro w M
  replace F := F.keep [0, 1, 2, 4, 5, 6] rfl
  refine wp_region_l [.ind, .ind, .ind] ([0, 1, 2]) rfl ?_
  refine s_I F rfl rfl rfl rfl rfl rfl ?_; clear F a; intro a F
  refine s_add F rfl rfl rfl rfl rfl rfl (by unfold In64; omega) ?_; clear F a; intro a F
  refine s_I F rfl rfl rfl rfl rfl rfl ?_; clear F a; intro a F
  refine t_endM M ?_; (clear M; try clear w); intro w M
  refine (show Code.wp _ _ _ _ _ from ?_)
  refine wp_seq ?_
  refine wp_seq ?_
  replace F := F.keep [0, 1, 2, 4, 5, 6] rfl
  refine wp_region_l [.ind, .ind] ([0, 1]) rfl ?_
  refine s_I F rfl rfl rfl rfl rfl rfl ?_; clear F a; intro a F
  refine s_bin F rfl rfl rfl rfl rfl rfl rfl ?_; clear F a; intro a F
  refine t_endM M ?_; (clear M; try clear w); intro w M
  refine c_t F (by rfl) ?_
  refine wp_skip ?_
  refine wp_seq ?_
  refine wp_block ?_
  replace F := F.keep [0, 1, 2, 4, 5, 6] rfl
  refine wp_region_l [.ind, .ind, .ind, .ind, .wr, .ind, .ind, .ind] ([0, 1, 2, 3, 4, 5, 6, 7]) rfl ?_
  refine s_I F rfl rfl rfl rfl rfl rfl ?_; clear F a; intro a F
  refine s_I F rfl rfl rfl rfl rfl rfl ?_; clear F a; intro a F
  refine s_I F rfl rfl rfl rfl rfl rfl ?_; clear F a; intro a F
  refine s_bld F rfl rfl rfl rfl (parts3 F rfl rfl rfl) (bl_38_0_1_2_C2 _ _ _) ?_; clear F a; intro a F
  have M1 : Sep _ _ _ (castR _ _ _ :: _) := M; replace M := M1; clear M1
  refine s_call (m := [_]) F M rfl rfl rfl rfl rfl (rfl : _ = some [_, _]) cb_21_C2 (fun n => c21 b vb (aw 2) ⟨2, 1 + 1, xS⟩ _ (M.drewN n).own.one) ?_; (clear F a M; try clear w); rintro v x w rfl M a F; (try simp only [List.cons_append, List.nil_append] at M)
  rw [awt.2.2.1] at M
  replace M : Sep _ _ _ (castR b vb (aw 3) :: slR _ 0 38 3 ((awo 2).flatMap encM) :: _) := M
  obtain ⟨A, c, rfl⟩ := M.h1.form
  replace M := M.f1.tl
  refine s_len F rfl rfl rfl rfl sl_27_C2 rfl ?_; clear F a; intro a F
  refine s_add F rfl rfl rfl rfl rfl rfl (by unfold In64; omega) ?_; clear F a; intro a F
  refine s_I F rfl rfl rfl rfl rfl rfl ?_; clear F a; intro a F
  refine t_endM M ?_; (clear M; try clear w); intro w M
  replace F := F.keep [0, 1, 2, 4, 5, 6] rfl
  refine wp_region_l [.ind, .ind, .ind] ([0, 1, 2]) rfl ?_
  refine s_I F rfl rfl rfl rfl rfl rfl ?_; clear F a; intro a F
  refine s_add F rfl rfl rfl rfl rfl rfl (by unfold In64; omega) ?_; clear F a; intro a F
  refine s_I F rfl rfl rfl rfl rfl rfl ?_; clear F a; intro a F
  refine t_endM M ?_; (clear M; try clear w); intro w M
  refine (show Code.wp _ _ _ _ _ from ?_)
  refine wp_seq ?_
  refine wp_seq ?_
  replace F := F.keep [0, 1, 2, 4, 5, 6] rfl
  refine wp_region_l [.ind, .ind] ([0, 1]) rfl ?_
  refine s_I F rfl rfl rfl rfl rfl rfl ?_; clear F a; intro a F
  refine s_bin F rfl rfl rfl rfl rfl rfl rfl ?_; clear F a; intro a F
  refine t_endM M ?_; (clear M; try clear w); intro w M
  refine c_t F (by rfl) ?_
  refine wp_skip ?_
  refine wp_seq ?_
  refine wp_block ?_
  replace F := F.keep [0, 1, 2, 4, 5, 6] rfl
  refine wp_region_l [.ind, .ind, .ind, .ind, .wr, .ind, .ind, .ind] ([0, 1, 2, 3, 4, 5, 6, 7]) rfl ?_
  refine s_I F rfl rfl rfl rfl rfl rfl ?_; clear F a; intro a F
  refine s_I F rfl rfl rfl rfl rfl rfl ?_; clear F a; intro a F
  refine s_I F rfl rfl rfl rfl rfl rfl ?_; clear F a; intro a F
  refine s_bld F rfl rfl rfl rfl (parts3 F rfl rfl rfl) (bl_38_0_1_2_C2 _ _ _) ?_; clear F a; intro a F
  have M1 : Sep _ _ _ (castR _ _ _ :: _) := M; replace M := M1; clear M1
  refine s_call (m := [_]) F M rfl rfl rfl rfl rfl (rfl : _ = some [_, _]) cb_21_C2 (fun n => c21 b vb (aw 3) ⟨2, 1 + 1 + 1, xS⟩ _ (M.drewN n).own.one) ?_; (clear F a M; try clear w); rintro v x w rfl M a F; (try simp only [List.cons_append, List.nil_append] at M)
  rw [awt.2.2.2.1] at M
  replace M : Sep _ _ _ (castR b vb (aw 4) :: slR _ 1 38 3 ((awo 3).flatMap encM) :: _) := M
  obtain ⟨A, c, rfl⟩ := M.h1.form
  replace M := M.f1.tl
  refine s_len F rfl rfl rfl rfl sl_27_C2 rfl ?_; clear F a; intro a F
  refine s_add F rfl rfl rfl rfl rfl rfl (by unfold In64; omega) ?_; clear F a; intro a F
  refine s_I F rfl rfl rfl rfl rfl rfl ?_; clear F a; intro a F
  refine t_endM M ?_; (clear M; try clear w); intro w M
  replace F := F.keep [0, 1, 2, 4, 5, 6] rfl
  refine wp_region_l [.ind, .ind, .ind] ([0, 1, 2]) rfl ?_
  refine s_I F rfl rfl rfl rfl rfl rfl ?_; clear F a; intro a F
  refine s_add F rfl rfl rfl rfl rfl rfl (by unfold In64; omega) ?_; clear F a; intro a F
  refine s_I F rfl rfl rfl rfl rfl rfl ?_; clear F a; intro a F
  refine t_endM M ?_; (clear M; try clear w); intro w M
  refine (show Code.wp _ _ _ _ _ from ?_)
  refine wp_seq ?_
  refine wp_seq ?_
  replace F := F.keep [0, 1, 2, 4, 5, 6] rfl
  refine wp_region_l [.ind, .ind] ([0, 1]) rfl ?_
  refine s_I F rfl rfl rfl rfl rfl rfl ?_; clear F a; intro a F
  refine s_bin F rfl rfl rfl rfl rfl rfl rfl ?_; clear F a; intro a F
  refine t_endM M ?_; (clear M; try clear w); intro w M
  refine c_f F (by rfl) ?_
  refine wp_exit ?_
  refine wp_seq ?_
  refine wp_seq ?_
  replace F := F.keep [0, 1, 2, 4, 5, 6] rfl
  refine wp_region_l [.ind] ([0]) rfl ?_
  refine s_I F rfl rfl rfl rfl rfl rfl ?_; clear F a; intro a F
  refine t_endM M ?_; (clear M; try clear w); intro w M
  refine wp_block ?_
  refine wp_loop_rounds 4 ?_
  refine (show Code.wp _ _ _ _ _ from ?_)
  refine wp_seq ?_
  refine wp_seq ?_
  refine wp_region_l [.ind, .ind] ([0, 1]) rfl ?_
  refine s_I F rfl rfl rfl rfl rfl rfl ?_; clear F a; intro a F
  refine s_bin F rfl rfl rfl rfl rfl rfl rfl ?_; clear F a; intro a F
  refine t_endM M ?_; (clear M; try clear w); intro w M
  refine c_t F (by rfl) ?_
  refine wp_skip ?_
  refine wp_seq ?_
  refine wp_block ?_
  replace F := F.keep [0, 1, 2, 4, 5, 6, 7] rfl
  refine wp_region_l [.ind, .ind, .ind, .wr] ([0, 1, 2, 3]) rfl ?_
  refine s_I F rfl rfl rfl rfl rfl rfl ?_; clear F a; intro a F
  refine s_I F rfl rfl rfl rfl rfl rfl ?_; clear F a; intro a F
  refine s_bld F rfl rfl rfl rfl (parts3 F rfl rfl rfl) (bl_38_0_1_2_C2 _ _ _) ?_; clear F a; intro a F
  have M1 : Sep _ _ _ (castR _ _ _ :: _) := M; replace M := M1; clear M1
  refine s_call (m := [_]) F M rfl rfl rfl rfl rfl (rfl : _ = some [_, _]) cb_21_C2 (fun n => c21 b vb (aw 4) ⟨3, 1, xS⟩ _ (M.drewN n).own.one) ?_; (clear F a M; try clear w); rintro v x w rfl M a F; (try simp only [List.cons_append, List.nil_append] at M)
  rw [awt.2.2.2.2.1] at M
  replace M : Sep _ _ _ (castR b vb (aw 5) :: slR _ 0 38 3 ((awo 4).flatMap encM) :: _) := M
  obtain ⟨A, c, rfl⟩ := M.h1.form
  replace M := M.f1.tl
  refine t_endM M ?_; (clear M; try clear w); intro w M
  replace F := F.keep [0, 1, 2, 4, 5, 6, 7] rfl
  refine wp_region_l [.ind, .ind, .ind] ([0, 1, 2]) rfl ?_
  refine s_I F rfl rfl rfl rfl rfl rfl ?_; clear F a; intro a F
  refine s_add F rfl rfl rfl rfl rfl rfl (by unfold In64; omega) ?_; clear F a; intro a F
  refine s_I F rfl rfl rfl rfl rfl rfl ?_; clear F a; intro a F
  refine t_endM M ?_; (clear M; try clear w); intro w M
  refine (show Code.wp _ _ _ _ _ from ?_)
  refine wp_seq ?_
  refine wp_seq ?_
  replace F := F.keep [0, 1, 2, 4, 5, 6, 7] rfl
  refine wp_region_l [.ind, .ind] ([0, 1]) rfl ?_
  refine s_I F rfl rfl rfl rfl rfl rfl ?_; clear F a; intro a F
  refine s_bin F rfl rfl rfl rfl rfl rfl rfl ?_; clear F a; intro a F
  refine t_endM M ?_; (clear M; try clear w); intro w M
  refine c_t F (by rfl) ?_
  refine wp_skip ?_
  refine wp_seq ?_
  refine wp_block ?_
  replace F := F.keep [0, 1, 2, 4, 5, 6, 7] rfl
  refine wp_region_l [.ind, .ind, .ind, .wr] ([0, 1, 2, 3]) rfl ?_
  refine s_I F rfl rfl rfl rfl rfl rfl ?_; clear F a; intro a F
  refine s_I F rfl rfl rfl rfl rfl rfl ?_; clear F a; intro a F
  refine s_bld F rfl rfl rfl rfl (parts3 F rfl rfl rfl) (bl_38_0_1_2_C2 _ _ _) ?_; clear F a; intro a F
  have M1 : Sep _ _ _ (castR _ _ _ :: _) := M; replace M := M1; clear M1
  refine s_call (m := [_]) F M rfl rfl rfl rfl rfl (rfl : _ = some [_, _]) cb_21_C2 (fun n => c21 b vb (aw 5) ⟨3, 1 + 1, xS⟩ _ (M.drewN n).own.one) ?_; (clear F a M; try clear w); rintro v x w rfl M a F; (try simp only [List.cons_append, List.nil_append] at M)
  rw [awt.2.2.2.2.2.1] at M
  replace M : Sep _ _ _ (castR b vb (aw 6) :: slR _ 0 38 3 ((awo 5).flatMap encM) :: _) := M
  obtain ⟨A, c, rfl⟩ := M.h1.form
  replace M := M.f1.tl
  refine t_endM M ?_; (clear M; try clear w); intro w M
  replace F := F.keep [0, 1, 2, 4, 5, 6, 7] rfl
  refine wp_region_l [.ind, .ind, .ind] ([0, 1, 2]) rfl ?_
  refine s_I F rfl rfl rfl rfl rfl rfl ?_; clear F a; intro a F
  refine s_add F rfl rfl rfl rfl rfl rfl (by unfold In64; omega) ?_; clear F a; intro a F
  refine s_I F rfl rfl rfl rfl rfl rfl ?_; clear F a; intro a F
  refine t_endM M ?_; (clear M; try clear w); intro w M
  refine (show Code.wp _ _ _ _ _ from ?_)
  refine wp_seq ?_
  refine wp_seq ?_
  replace F := F.keep [0, 1, 2, 4, 5, 6, 7] rfl
  refine wp_region_l [.ind, .ind] ([0, 1]) rfl ?_
  refine s_I F rfl rfl rfl rfl rfl rfl ?_; clear F a; intro a F
  refine s_bin F rfl rfl rfl rfl rfl rfl rfl ?_; clear F a; intro a F
  refine t_endM M ?_; (clear M; try clear w); intro w M
  refine c_t F (by rfl) ?_
  refine wp_skip ?_
  refine wp_seq ?_
  refine wp_block ?_
  replace F := F.keep [0, 1, 2, 4, 5, 6, 7] rfl
  refine wp_region_l [.ind, .ind, .ind, .wr] ([0, 1, 2, 3]) rfl ?_
  refine s_I F rfl rfl rfl rfl rfl rfl ?_; clear F a; intro a F
  refine s_I F rfl rfl rfl rfl rfl rfl ?_; clear F a; intro a F
  refine s_bld F rfl rfl rfl rfl (parts3 F rfl rfl rfl) (bl_38_0_1_2_C2 _ _ _) ?_; clear F a; intro a F
  have M1 : Sep _ _ _ (castR _ _ _ :: _) := M; replace M := M1; clear M1
  refine s_call (m := [_]) F M rfl rfl rfl rfl rfl (rfl : _ = some [_, _]) cb_21_C2 (fun n => c21 b vb (aw 6) ⟨3, 1 + 1 + 1, xS⟩ _ (M.drewN n).own.one) ?_; (clear F a M; try clear w); rintro v x w rfl M a F; (try simp only [List.cons_append, List.nil_append] at M)
  rw [awt.2.2.2.2.2.2] at M
  replace M : Sep _ _ _ (castR b vb (aw 7) :: slR _ 0 38 3 ((awo 6).flatMap encM) :: _) := M
  obtain ⟨A, c, rfl⟩ := M.h1.form
  replace M := M.f1.tl
  refine t_endM M ?_; (clear M; try clear w); intro w M
  replace F := F.keep [0, 1, 2, 4, 5, 6, 7] rfl
  refine wp_region_l [.ind, .ind, .ind] ([0, 1, 2]) rfl ?_
  refine s_I F rfl rfl rfl rfl rfl rfl ?_; clear F a; intro a F
  refine s_add F rfl rfl rfl rfl rfl rfl (by unfold In64; omega) ?_; clear F a; intro a F
  refine s_I F rfl rfl rfl rfl rfl rfl ?_; clear F a; intro a F
  refine t_endM M ?_; (clear M; try clear w); intro w M
  refine (show Code.wp _ _ _ _ _ from ?_)
  refine wp_seq ?_
  refine wp_seq ?_
  replace F := F.keep [0, 1, 2, 4, 5, 6, 7] rfl
  refine wp_region_l [.ind, .ind] ([0, 1]) rfl ?_
  refine s_I F rfl rfl rfl rfl rfl rfl ?_; clear F a; intro a F
  refine s_bin F rfl rfl rfl rfl rfl rfl rfl ?_; clear F a; intro a F
  refine t_endM M ?_; (clear M; try clear w); intro w M
  refine c_f F (by rfl) ?_
  refine wp_exit ?_
  refine wp_seq ?_
  replace F := F.keep [0, 1, 2, 4, 5, 6, 7] rfl
  refine wp_region_l [.ind, .wr, .ind, .ind, .ind, .ind, .ind] ([0, 1, 2, 3, 4, 5, 6]) rfl ?_
  refine s_I F rfl rfl rfl rfl rfl rfl ?_; clear F a; intro a F
  refine s_cq F M rfl rfl rfl rfl rfl (rfl : _ = some [_]) cb_20_C2 (fun n => c20 b vb (aw 7) _ M.h0) ?_; (clear F a M; try clear w); rintro v w rfl M a F
  refine s_I F rfl rfl rfl rfl rfl rfl ?_; clear F a; intro a F
  refine s_I F rfl rfl rfl rfl rfl rfl ?_; clear F a; intro a F
  refine s_I F rfl rfl rfl rfl rfl rfl ?_; clear F a; intro a F
  refine s_I F rfl rfl rfl rfl rfl rfl ?_; clear F a; intro a F
  refine s_I F rfl rfl rfl rfl rfl rfl ?_; clear F a; intro a F
  refine t_endM M ?_; (clear M; try clear w); intro w M
  refine wp_seq ?_
  replace F := F.keep [0, 1, 2, 4, 5, 6, 7, 8, 9] rfl
  refine wp_region_l [.ind, .ind, .ind, .ind, .ind, .ind, .ind, .rd, .ind, .ind, .ind, .ind, .ind, .ind, .rd, .ind, .ind, .ind, .ind, .ind, .ind, .ind, .ind, .ind, .ind, .ind, .ind, .ind, .ind, .ind, .ind, .ind, .ind] ([0, 1, 2, 3, 4, 5, 6, 7, 8, 9, 10, 11, 12, 13, 14, 15, 16, 17, 18, 19, 20, 21, 22, 23, 24, 25, 26, 27, 28, 29, 30, 31, 32]) rfl ?_
  refine s_I F rfl rfl rfl rfl rfl rfl ?_; clear F a; intro a F
  refine s_len F rfl rfl rfl rfl sl_27_C2 rfl ?_; clear F a; intro a F
  refine s_bin F rfl rfl rfl rfl rfl rfl rfl ?_; clear F a; intro a F
  replace F : Fr _ _ ((55, Value.bool true) :: _) := F
  refine s_I F rfl rfl rfl rfl rfl rfl ?_; clear F a; intro a F
  refine s_I F rfl rfl rfl rfl rfl rfl ?_; clear F a; intro a F
  refine s_is F rfl rfl rfl rfl sl_27_C2 rfl rfl (by omega) (by omega) ?_; clear F a; intro a F
  refine s_fa0 F rfl rfl rfl rfl fa_38_0_C2 rfl ?_; clear F a; intro a F
  refine s_ld F rfl rfl rfl rfl sc_3_C2 rfl (by exact sl_cell M.h1 rfl) ?_; clear F a; intro a F
  refine s_bin F rfl rfl rfl rfl rfl rfl rfl ?_; clear F a; intro a F
  replace F : Fr _ _ ((61, Value.bool true) :: _) := F
  refine s_I F rfl rfl rfl rfl rfl rfl ?_; clear F a; intro a F
  refine s_I F rfl rfl rfl rfl rfl rfl ?_; clear F a; intro a F
  refine s_I F rfl rfl rfl rfl rfl rfl ?_; clear F a; intro a F
  refine s_is F rfl rfl rfl rfl sl_27_C2 rfl rfl (by omega) (by omega) ?_; clear F a; intro a F
  refine s_fa0 F rfl rfl rfl rfl fa_38_2_C2 rfl ?_; clear F a; intro a F
  refine s_ld F rfl rfl rfl rfl sc_9_C2 rfl (by exact sl_cell M.h1 rfl) ?_; clear F a; intro a F
  refine s_bin F rfl rfl rfl rfl rfl rfl rfl ?_; clear F a; intro a F
  replace F : Fr _ _ ((68, Value.bool true) :: _) := F
  refine s_I F rfl rfl rfl rfl rfl rfl ?_; clear F a; intro a F
  refine s_I F rfl rfl rfl rfl rfl rfl ?_; clear F a; intro a F
  refine s_I F rfl rfl rfl rfl rfl rfl ?_; clear F a; intro a F
  refine s_I F rfl rfl rfl rfl rfl rfl ?_; clear F a; intro a F
  replace F : Fr _ _ ((72, Value.bool true) :: _) := F
  refine s_I F rfl rfl rfl rfl rfl rfl ?_; clear F a; intro a F
  refine s_I F rfl rfl rfl rfl rfl rfl ?_; clear F a; intro a F
  refine s_I F rfl rfl rfl rfl rfl rfl ?_; clear F a; intro a F
  refine s_bin F rfl rfl rfl rfl rfl rfl rfl ?_; clear F a; intro a F
  replace F : Fr _ _ ((76, Value.bool true) :: _) := F
  refine s_I F rfl rfl rfl rfl rfl rfl ?_; clear F a; intro a F
  refine s_I F rfl rfl rfl rfl rfl rfl ?_; clear F a; intro a F
  refine s_I F rfl rfl rfl rfl rfl rfl ?_; clear F a; intro a F
  refine s_bin F rfl rfl rfl rfl rfl rfl rfl ?_; clear F a; intro a F
  replace F : Fr _ _ ((80, Value.bool true) :: _) := F
  refine s_I F rfl rfl rfl rfl rfl rfl ?_; clear F a; intro a F
  refine s_I F rfl rfl rfl rfl rfl rfl ?_; clear F a; intro a F
  refine s_I F rfl rfl rfl rfl rfl rfl ?_; clear F a; intro a F
  replace F : Fr _ _ ((83, Value.bool true) :: _) := F
  refine s_I F rfl rfl rfl rfl rfl rfl ?_; clear F a; intro a F
  refine s_I F rfl rfl rfl rfl rfl rfl ?_; clear F a; intro a F
  refine t_endM M ?_; (clear M; try clear w); intro w M
  refine wp_ret ?_
  refine ret1 F rfl rfl ?_
  -- end 0
  exact ⟨_, rfl, rfl, M.chg⟩
end Go.Proofs.Ytibomfgeemhogaa
