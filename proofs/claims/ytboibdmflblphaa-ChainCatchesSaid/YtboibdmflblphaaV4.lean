/- V4 of the seat. -/
import Derived.Test.YtboibdmflblphaaV3
namespace Go.Proofs.Ytboibdmflblphaa
open Go Fw
theorem cb_22_V4 : callB Try.prog 22 = true := by kernel_rfl
theorem pt_25_V4 : ptrB Try.prog 25 = true := by kernel_rfl
theorem bl_32_0_1_2_4_V4 : ∀ (x0 : Int) (x1 : Int) (x2 : Int) (x4 : ByteArray), ∀ w : World, (Instr.build 32 #[(0, .int .i64 x0), (1, .int .i64 x1), (2, .int .i64 x2), (4, .string x4)]).run Try.prog w = .ok (.agg #[.int .i64 x0, .int .i64 x1, .int .i64 x2, .int .i64 0, .string x4]) w := by intros; kernel_rfl
theorem cb_25_V4 : callB Try.prog 25 = true := by kernel_rfl
theorem cb_26_V4 : callB Try.prog 26 = true := by kernel_rfl
theorem cb_28_V4 : callB Try.prog 28 = true := by kernel_rfl
theorem cb_30_V4 : callB Try.prog 30 = true := by kernel_rfl
theorem cb_32_V4 : callB Try.prog 32 = true := by kernel_rfl
theorem fa_32_0_V4 : FA Try.prog 32 0 0 := fun _ _ _ => by kernel_rfl
theorem sc_3_V4 : scalB Try.prog 3 = true := by kernel_rfl
theorem fa_32_2_V4 : FA Try.prog 32 2 2 := fun _ _ _ => by kernel_rfl
theorem ag_32_V4 : aggB Try.prog 32 = some 5 := by kernel_rfl
theorem fa_32_4_V4 : FA Try.prog 32 4 4 := fun _ _ _ => by kernel_rfl
theorem sc_9_V4 : scalB Try.prog 9 = true := by kernel_rfl
theorem cb_21_V4 : callB Try.prog 21 = true := by kernel_rfl
theorem cb_20_V4 : callB Try.prog 20 = true := by kernel_rfl
theorem cb_23_V4 : callB Try.prog 23 = true := by kernel_rfl
theorem zr_28_V4 : zeroB Try.prog 28 = some (.agg #[.int .i64 0, .int .i64 0, .slice none 0 0]) := by kernel_rfl
theorem sz_28_V4 : sizeB Try.prog 28 = some 3 := by kernel_rfl
theorem sl_22_V4 : slcB Try.prog 22 = some (32, 5) := by kernel_rfl
theorem zr_32_V4 : zeroB Try.prog 32 = some (.agg #[.int .i64 0, .int .i64 0, .int .i64 0, .int .i64 0, .string { data := #[] }]) := by kernel_rfl
theorem sz_32_V4 : sizeB Try.prog 32 = some 5 := by kernel_rfl
theorem ag_28_V4 : aggB Try.prog 28 = some 3 := by kernel_rfl
theorem cb_24_V4 : callB Try.prog 24 = true := by kernel_rfl
theorem bo_4_V4 : boolB Try.prog 4 = true := by kernel_rfl
theorem cb_27_V4 : callB Try.prog 27 = true := by kernel_rfl
theorem cb_29_V4 : callB Try.prog 29 = true := by kernel_rfl
theorem cb_31_V4 : callB Try.prog 31 = true := by kernel_rfl
theorem cb_33_V4 : callB Try.prog 33 = true := by kernel_rfl
theorem cb_34_V4 : callB Try.prog 34 = true := by kernel_rfl
open VoteM

def aS : ByteArray := { data := #[97] }
def bS : ByteArray := { data := #[98] }
def aL (k : Nat) : List Wrd := [⟨2, 1, 2, 0, aS⟩, ⟨2, 2, 2, 0, aS⟩, ⟨2, 3, 2, 0, aS⟩].take k
theorem aq : quorum 4 1 ≠ 0 := by decide
theorem aq3 : quorum 3 1 = 0 := by decide
theorem ak0 : okV 4 (aL 0) ⟨2, 1, 2, 0, aS⟩ = true := by kernel_rfl
theorem ap0 : putV 4 (aL 0) ⟨2, 1, 2, 0, aS⟩ = aL 1 := by kernel_rfl
theorem ak1 : okV 4 (aL 1) ⟨2, 1 + 1, 2, 0, aS⟩ = true := by kernel_rfl
theorem ap1 : putV 4 (aL 1) ⟨2, 1 + 1, 2, 0, aS⟩ = aL 2 := by kernel_rfl
theorem ak2 : okV 4 (aL 2) ⟨2, 1 + 1 + 1, 2, 0, aS⟩ = true := by kernel_rfl
theorem ap2 : putV 4 (aL 2) ⟨2, 1 + 1 + 1, 2, 0, aS⟩ = aL 3 := by kernel_rfl
theorem ak3 : okV 4 (aL 3) ⟨2, 1, 2, 0, bS⟩ = false := by kernel_rfl
theorem ap3 : putV 4 (aL 3) ⟨2, 1, 2, 0, bS⟩ = aL 3 := by kernel_rfl
theorem am : mostV 4 1 (aL 3) 2 2 = some aS := by kernel_rfl
theorem ac : cntV (aL 3) 2 2 aS = 3 := by kernel_rfl
theorem aa : anyV (aL 3) 2 2 = 3 := by kernel_rfl
theorem ah0 : aheadV 4 1 (aL 3) 0 = 2 := by kernel_rfl
theorem ah2 : aheadV 4 1 (aL 3) 2 = -1 := by kernel_rfl
theorem put_again {n : Int} {L : List Wrd} {w : Wrd} : okV n (putV n L w) w = false := by
  by_cases h : okV n L w = true
  · rw [put_yes h]
    simp [okV, dupV]
  · simp only [Bool.not_eq_true] at h
    rw [put_no h, h]
theorem any_put {n : Int} {L : List Wrd} {w : Wrd} : anyV (putV n L w) w.kind w.round = anyV L w.kind w.round + if okV n L w = true then 1 else 0 := by
  by_cases h : okV n L w = true
  · rw [put_yes h, any_snoc, if_pos ⟨rfl, rfl⟩, if_pos h]
  · rw [if_neg h]
    simp only [Bool.not_eq_true] at h
    rw [put_no h]; rfl

set_option maxRecDepth 100000 in
set_option maxHeartbeats 400000 in
theorem c21 (w0 : World) : Cl Try.prog 21 #[] w0 (RetQ w0 fun v => v = .bool true) := by
  have M : Sep (fun _ => False) w0 w0 _ := Sep.nil _ w0
  refine enter (vs := []) Try.func21 rfl rfl rfl ?_
  intro a F
  refine wp_seq ?_
  refine wp_region_l [.ind] ([0]) rfl ?_
  refine s_I F rfl rfl rfl rfl rfl rfl ?_; clear F a; intro a F
  refine t_endM M ?_; (clear M; try clear w); intro w M
  refine wp_seq ?_
  refine wp_region_l [.wr, .ind] ([0, 1]) rfl ?_
  refine s_call (m := []) F M rfl rfl rfl rfl rfl (rfl : _ = some [_, _]) cb_22_V4 (fun nd_ => c22v aq _) ?_; (clear F a M; try clear w); rintro v b w rfl M a F; (try simp only [List.cons_append, List.nil_append] at M)
  replace M : Sep _ _ _ (votR b _ 4 1 (aL 0) :: _) := M
  refine s_I F rfl rfl rfl rfl rfl rfl ?_; clear F a; intro a F
  refine t_endM M ?_; (clear M; try clear w); intro w M
  refine wp_seq ?_
  refine wp_seq ?_
  replace F := F.keep [0, 1] rfl
  refine wp_region_l [.ind, .ind, .ind, .wr, .ind, .ind] ([0, 1, 2, 3, 4, 5]) rfl ?_
  refine s_I F rfl rfl rfl rfl rfl rfl ?_; clear F a; intro a F
  refine s_pn F rfl rfl rfl rfl pt_25_V4 rfl ?_; clear F a; intro a F
  replace F : Fr _ _ ((8, Value.bool false) :: _) := F
  refine s_I F rfl rfl rfl rfl rfl rfl ?_; clear F a; intro a F
  refine s_cq F M rfl rfl rfl rfl rfl (rfl : _ = some [_, _]) cb_22_V4 (fun nd_ => c22n 3 1 aq3 _) ?_; (clear F a M; try clear w); rintro v w rfl M a F
  refine s_pne F rfl rfl rfl rfl pt_25_V4 rfl ?_; clear F a; intro a F
  replace F : Fr _ _ ((11, Value.bool false) :: _) := F
  refine s_I F rfl rfl rfl rfl rfl rfl ?_; clear F a; intro a F
  refine t_endM M ?_; (clear M; try clear w); intro w M
  refine c_f F rfl ?_
  refine wp_skip ?_
  refine wp_seq ?_
  refine wp_seq ?_
  replace F := F.keep [0, 1] rfl
  refine wp_region_l [.ind] ([0]) rfl ?_
  refine s_I F rfl rfl rfl rfl rfl rfl ?_; clear F a; intro a F
  refine t_endM M ?_; (clear M; try clear w); intro w M
  refine wp_block ?_
  refine wp_loop_rounds 4 ?_
  refine (show Code.wp _ _ _ _ _ from ?_)
  refine wp_seq ?_
  refine wp_seq ?_
  refine wp_region_l [.ind, .ind] ([0, 1]) rfl ?_
  refine s_I F rfl rfl rfl rfl rfl rfl ?_; clear F a; intro a F
  refine s_bin F rfl rfl rfl rfl rfl rfl rfl ?_; clear F a; intro a F
  refine t_endM M ?_; (clear M; try clear w); intro w M
  refine c_t F (by rfl) ?_
  refine wp_skip ?_
  refine wp_seq ?_
  refine wp_block ?_
  refine wp_seq ?_
  replace F := F.keep [0, 1, 2] rfl
  refine wp_region_l [.ind, .ind, .ind, .wr, .ind] ([0, 1, 2, 3, 4]) rfl ?_
  refine s_I F rfl rfl rfl rfl rfl rfl ?_; clear F a; intro a F
  refine s_I F rfl rfl rfl rfl rfl rfl ?_; clear F a; intro a F
  refine s_bld F rfl rfl rfl rfl (parts4 F rfl rfl rfl rfl) (bl_32_0_1_2_4_V4 _ _ _ _) ?_; clear F a; intro a F
  have M1 : Sep _ _ _ (votR b _ _ _ _ :: _) := M; replace M := M1; clear M1
  refine s_call (m := [_]) F M rfl rfl rfl rfl rfl (rfl : _ = some [_, _]) cb_25_V4 (fun nd_ => c25v (b := b) (n := 4) (t := 1) (L := aL 0) ⟨2, 1, 2, 0, aS⟩ _ (M.drewN nd_).own.one) ?_; (clear F a M; try clear w); rintro v v0 w rfl M a F; (try simp only [List.cons_append, List.nil_append] at M)
  rw [ak0] at F
  rw [ap0] at M
  refine s_I F rfl rfl rfl rfl rfl rfl ?_; clear F a; intro a F
  replace F : Fr _ _ ((21, Value.bool false) :: _) := F
  refine t_endM M ?_; (clear M; try clear w); intro w M
  refine c_f F rfl ?_
  refine wp_skip ?_
  replace F := F.keep [0, 1, 2] rfl
  refine wp_region_l [.ind, .ind, .ind] ([0, 1, 2]) rfl ?_
  refine s_I F rfl rfl rfl rfl rfl rfl ?_; clear F a; intro a F
  refine s_add F rfl rfl rfl rfl rfl rfl (by unfold In64; omega) ?_; clear F a; intro a F
  refine s_I F rfl rfl rfl rfl rfl rfl ?_; clear F a; intro a F
  refine t_endM M ?_; (clear M; try clear w); intro w M
  refine (show Code.wp _ _ _ _ _ from ?_)
  refine wp_seq ?_
  refine wp_seq ?_
  replace F := F.keep [0, 1, 2] rfl
  refine wp_region_l [.ind, .ind] ([0, 1]) rfl ?_
  refine s_I F rfl rfl rfl rfl rfl rfl ?_; clear F a; intro a F
  refine s_bin F rfl rfl rfl rfl rfl rfl rfl ?_; clear F a; intro a F
  refine t_endM M ?_; (clear M; try clear w); intro w M
  refine c_t F (by rfl) ?_
  refine wp_skip ?_
  refine wp_seq ?_
  refine wp_block ?_
  refine wp_seq ?_
  replace F := F.keep [0, 1, 2] rfl
  refine wp_region_l [.ind, .ind, .ind, .wr, .ind] ([0, 1, 2, 3, 4]) rfl ?_
  refine s_I F rfl rfl rfl rfl rfl rfl ?_; clear F a; intro a F
  refine s_I F rfl rfl rfl rfl rfl rfl ?_; clear F a; intro a F
  refine s_bld F rfl rfl rfl rfl (parts4 F rfl rfl rfl rfl) (bl_32_0_1_2_4_V4 _ _ _ _) ?_; clear F a; intro a F
  have M1 : Sep _ _ _ (votR b _ _ _ _ :: _) := M; replace M := M1; clear M1
  refine s_call (m := [_]) F M rfl rfl rfl rfl rfl (rfl : _ = some [_, _]) cb_25_V4 (fun nd_ => c25v (b := b) (n := 4) (t := 1) (L := aL 1) ⟨2, 1 + 1, 2, 0, aS⟩ _ (M.drewN nd_).own.one) ?_; (clear F a M; try clear w); rintro v v1 w rfl M a F; (try simp only [List.cons_append, List.nil_append] at M)
  rw [ak1] at F
  rw [ap1] at M
  refine s_I F rfl rfl rfl rfl rfl rfl ?_; clear F a; intro a F
  replace F : Fr _ _ ((21, Value.bool false) :: _) := F
  refine t_endM M ?_; (clear M; try clear w); intro w M
  refine c_f F rfl ?_
  refine wp_skip ?_
  replace F := F.keep [0, 1, 2] rfl
  refine wp_region_l [.ind, .ind, .ind] ([0, 1, 2]) rfl ?_
  refine s_I F rfl rfl rfl rfl rfl rfl ?_; clear F a; intro a F
  refine s_add F rfl rfl rfl rfl rfl rfl (by unfold In64; omega) ?_; clear F a; intro a F
  refine s_I F rfl rfl rfl rfl rfl rfl ?_; clear F a; intro a F
  refine t_endM M ?_; (clear M; try clear w); intro w M
  refine (show Code.wp _ _ _ _ _ from ?_)
  refine wp_seq ?_
  refine wp_seq ?_
  replace F := F.keep [0, 1, 2] rfl
  refine wp_region_l [.ind, .ind] ([0, 1]) rfl ?_
  refine s_I F rfl rfl rfl rfl rfl rfl ?_; clear F a; intro a F
  refine s_bin F rfl rfl rfl rfl rfl rfl rfl ?_; clear F a; intro a F
  refine t_endM M ?_; (clear M; try clear w); intro w M
  refine c_t F (by rfl) ?_
  refine wp_skip ?_
  refine wp_seq ?_
  refine wp_block ?_
  refine wp_seq ?_
  replace F := F.keep [0, 1, 2] rfl
  refine wp_region_l [.ind, .ind, .ind, .wr, .ind] ([0, 1, 2, 3, 4]) rfl ?_
  refine s_I F rfl rfl rfl rfl rfl rfl ?_; clear F a; intro a F
  refine s_I F rfl rfl rfl rfl rfl rfl ?_; clear F a; intro a F
  refine s_bld F rfl rfl rfl rfl (parts4 F rfl rfl rfl rfl) (bl_32_0_1_2_4_V4 _ _ _ _) ?_; clear F a; intro a F
  have M1 : Sep _ _ _ (votR b _ _ _ _ :: _) := M; replace M := M1; clear M1
  refine s_call (m := [_]) F M rfl rfl rfl rfl rfl (rfl : _ = some [_, _]) cb_25_V4 (fun nd_ => c25v (b := b) (n := 4) (t := 1) (L := aL 2) ⟨2, 1 + 1 + 1, 2, 0, aS⟩ _ (M.drewN nd_).own.one) ?_; (clear F a M; try clear w); rintro v v2 w rfl M a F; (try simp only [List.cons_append, List.nil_append] at M)
  rw [ak2] at F
  rw [ap2] at M
  refine s_I F rfl rfl rfl rfl rfl rfl ?_; clear F a; intro a F
  replace F : Fr _ _ ((21, Value.bool false) :: _) := F
  refine t_endM M ?_; (clear M; try clear w); intro w M
  refine c_f F rfl ?_
  refine wp_skip ?_
  replace F := F.keep [0, 1, 2] rfl
  refine wp_region_l [.ind, .ind, .ind] ([0, 1, 2]) rfl ?_
  refine s_I F rfl rfl rfl rfl rfl rfl ?_; clear F a; intro a F
  refine s_add F rfl rfl rfl rfl rfl rfl (by unfold In64; omega) ?_; clear F a; intro a F
  refine s_I F rfl rfl rfl rfl rfl rfl ?_; clear F a; intro a F
  refine t_endM M ?_; (clear M; try clear w); intro w M
  refine (show Code.wp _ _ _ _ _ from ?_)
  refine wp_seq ?_
  refine wp_seq ?_
  replace F := F.keep [0, 1, 2] rfl
  refine wp_region_l [.ind, .ind] ([0, 1]) rfl ?_
  refine s_I F rfl rfl rfl rfl rfl rfl ?_; clear F a; intro a F
  refine s_bin F rfl rfl rfl rfl rfl rfl rfl ?_; clear F a; intro a F
  refine t_endM M ?_; (clear M; try clear w); intro w M
  refine c_f F (by rfl) ?_
  refine wp_exit ?_
  refine wp_seq ?_
  replace F := F.keep [0, 1, 2] rfl
  refine wp_region_l [.ind, .wr, .ind, .ind, .ind, .ind, .ind] ([0, 1, 2, 3, 4, 5, 6]) rfl ?_
  refine s_I F rfl rfl rfl rfl rfl rfl ?_; clear F a; intro a F
  refine s_cq F M rfl rfl rfl rfl rfl (rfl : _ = some [_, _, _]) cb_26_V4 (fun nd_ => c26v 2 2 _ (by exact M.h0)) ?_; (clear F a M; try clear w); rintro v w rfl M a F
  rw [am] at F
  refine s_I F rfl rfl rfl rfl rfl rfl ?_; clear F a; intro a F
  refine s_I F rfl rfl rfl rfl rfl rfl ?_; clear F a; intro a F
  refine s_I F rfl rfl rfl rfl rfl rfl ?_; clear F a; intro a F
  refine s_I F rfl rfl rfl rfl rfl rfl ?_; clear F a; intro a F
  refine s_I F rfl rfl rfl rfl rfl rfl ?_; clear F a; intro a F
  replace F : Fr _ _ ((4, Value.bool true) :: _) := F
  refine t_endM M ?_; (clear M; try clear w); intro w M
  refine wp_seq ?_
  replace F := F.keep [0, 1, 2, 3, 4] rfl
  refine wp_region_l [.ind, .ind, .wr, .ind] ([0, 1, 2, 3]) rfl ?_
  refine s_I F rfl rfl rfl rfl rfl rfl ?_; clear F a; intro a F
  refine s_bld F rfl rfl rfl rfl (parts4 F rfl rfl rfl rfl) (bl_32_0_1_2_4_V4 _ _ _ _) ?_; clear F a; intro a F
  have M1 : Sep _ _ _ (votR b _ _ _ _ :: _) := M; replace M := M1; clear M1
  refine s_call (m := [_]) F M rfl rfl rfl rfl rfl (rfl : _ = some [_, _]) cb_25_V4 (fun nd_ => c25v (b := b) (n := 4) (t := 1) (L := aL 3) ⟨2, 1, 2, 0, bS⟩ _ (M.drewN nd_).own.one) ?_; (clear F a M; try clear w); rintro v v3 w rfl M a F; (try simp only [List.cons_append, List.nil_append] at M)
  rw [ak3] at F
  rw [ap3] at M
  refine s_I F rfl rfl rfl rfl rfl rfl ?_; clear F a; intro a F
  replace F : Fr _ _ ((5, Value.bool false) :: _) := F
  refine t_endM M ?_; (clear M; try clear w); intro w M
  refine wp_seq ?_
  replace F := F.keep [0, 1, 2, 3, 4, 5] rfl
  refine wp_region_l [.ind, .ind, .ind, .ind, .ind, .ind, .ind, .ind, .ind, .ind, .ind, .wr, .ind, .ind, .ind, .ind, .wr, .ind, .ind, .ind, .ind, .wr, .ind, .ind, .ind, .ind, .wr, .ind, .ind, .ind] ([0, 1, 2, 3, 4, 5, 6, 7, 8, 9, 10, 11, 12, 13, 14, 15, 16, 17, 18, 19, 20, 21, 22, 23, 24, 25, 26, 27, 28, 29]) rfl ?_
  refine s_I F rfl rfl rfl rfl rfl rfl ?_; clear F a; intro a F
  refine s_bin F rfl rfl rfl rfl rfl rfl rfl ?_; clear F a; intro a F
  replace F : Fr _ _ ((31, Value.bool true) :: _) := F
  refine s_I F rfl rfl rfl rfl rfl rfl ?_; clear F a; intro a F
  refine s_I F rfl rfl rfl rfl rfl rfl ?_; clear F a; intro a F
  refine s_I F rfl rfl rfl rfl rfl rfl ?_; clear F a; intro a F
  refine s_I F rfl rfl rfl rfl rfl rfl ?_; clear F a; intro a F
  refine s_I F rfl rfl rfl rfl rfl rfl ?_; clear F a; intro a F
  refine s_I F rfl rfl rfl rfl rfl rfl ?_; clear F a; intro a F
  refine s_I F rfl rfl rfl rfl rfl rfl ?_; clear F a; intro a F
  refine s_I F rfl rfl rfl rfl rfl rfl ?_; clear F a; intro a F
  refine s_I F rfl rfl rfl rfl rfl rfl ?_; clear F a; intro a F
  refine s_cq F M rfl rfl rfl rfl rfl (rfl : _ = some [_, _, _, _]) cb_28_V4 (fun nd_ => c28v 2 2 aS _ (by exact M.h0)) ?_; (clear F a M; try clear w); rintro v w rfl M a F
  rw [ac] at F
  refine s_bin F rfl rfl rfl rfl rfl rfl rfl ?_; clear F a; intro a F
  replace F : Fr _ _ ((42, Value.bool true) :: _) := F
  refine s_I F rfl rfl rfl rfl rfl rfl ?_; clear F a; intro a F
  refine s_I F rfl rfl rfl rfl rfl rfl ?_; clear F a; intro a F
  refine s_I F rfl rfl rfl rfl rfl rfl ?_; clear F a; intro a F
  refine s_cq F M rfl rfl rfl rfl rfl (rfl : _ = some [_, _, _]) cb_30_V4 (fun nd_ => c30v 2 2 _ (by exact M.h0)) ?_; (clear F a M; try clear w); rintro v w rfl M a F
  rw [aa] at F
  refine s_bin F rfl rfl rfl rfl rfl rfl rfl ?_; clear F a; intro a F
  replace F : Fr _ _ ((47, Value.bool true) :: _) := F
  refine s_I F rfl rfl rfl rfl rfl rfl ?_; clear F a; intro a F
  refine s_I F rfl rfl rfl rfl rfl rfl ?_; clear F a; intro a F
  refine s_I F rfl rfl rfl rfl rfl rfl ?_; clear F a; intro a F
  refine s_cq F M rfl rfl rfl rfl rfl (rfl : _ = some [_, _]) cb_32_V4 (fun nd_ => c32v 0 _ (by exact M.h0)) ?_; (clear F a M; try clear w); rintro v w rfl M a F
  rw [ah0] at F
  refine s_bin F rfl rfl rfl rfl rfl rfl rfl ?_; clear F a; intro a F
  replace F : Fr _ _ ((52, Value.bool true) :: _) := F
  refine s_I F rfl rfl rfl rfl rfl rfl ?_; clear F a; intro a F
  refine s_I F rfl rfl rfl rfl rfl rfl ?_; clear F a; intro a F
  refine s_I F rfl rfl rfl rfl rfl rfl ?_; clear F a; intro a F
  refine s_cq F M rfl rfl rfl rfl rfl (rfl : _ = some [_, _]) cb_32_V4 (fun nd_ => c32v 2 _ (by exact M.h0)) ?_; (clear F a M; try clear w); rintro v w rfl M a F
  rw [ah2] at F
  refine s_bin F rfl rfl rfl rfl rfl rfl rfl ?_; clear F a; intro a F
  replace F : Fr _ _ ((57, Value.bool true) :: _) := F
  refine s_I F rfl rfl rfl rfl rfl rfl ?_; clear F a; intro a F
  refine s_I F rfl rfl rfl rfl rfl rfl ?_; clear F a; intro a F
  refine t_endM M ?_; (clear M; try clear w); intro w M
  refine wp_ret ?_
  refine ret1 F rfl rfl ?_
  -- end 0
  exact ⟨_, rfl, rfl, M.chg⟩
set_option maxRecDepth 100000 in
set_option maxHeartbeats 400000 in
theorem law6 (q : Wrd) (w0 : World) : Cl Try.prog 6 #[wrdV q] w0 (RetQ w0 fun v => v = .bool true) := by
  have M : Sep (fun _ => False) w0 w0 _ := Sep.nil _ w0
  refine enter (vs := [_]) Try.func6 rfl rfl rfl ?_
  intro a F
  refine wp_seq ?_
  refine wp_region_l [.wr, .ind] ([0, 1]) rfl ?_
  refine s_bxA F M rfl rfl rfl rfl rfl ?_; (clear F a M; try clear w); intro b1 w M a F
  refine s_I F rfl rfl rfl rfl rfl rfl ?_; clear F a; intro a F
  refine t_endM M ?_; (clear M; try clear w); intro w M
  refine wp_seq ?_
  refine wp_region_l [.ind] ([0]) rfl ?_
  refine s_I F rfl rfl rfl rfl rfl rfl ?_; clear F a; intro a F
  refine t_endM M ?_; (clear M; try clear w); intro w M
  refine wp_seq ?_
  refine wp_region_l [.ind, .ind, .rd, .ind, .rd, .wr, .ind, .ind, .ind, .ind, .ind] ([0, 1, 2, 3, 4, 5, 6, 7, 8, 9, 10]) rfl ?_
  refine s_I F rfl rfl rfl rfl rfl rfl ?_; clear F a; intro a F
  refine s_fa0 F rfl rfl rfl rfl fa_32_0_V4 rfl ?_; clear F a; intro a F
  refine s_ld F rfl rfl rfl rfl sc_3_V4 rfl (by exact cell_of_blk M.h0 (lit rfl)) ?_; clear F a; intro a F
  refine s_fa0 F rfl rfl rfl rfl fa_32_2_V4 rfl ?_; clear F a; intro a F
  refine s_ld F rfl rfl rfl rfl sc_3_V4 rfl (by exact cell_of_blk M.h0 (lit rfl)) ?_; clear F a; intro a F
  refine s_cq F M rfl rfl rfl rfl rfl (rfl : _ = some [_, _, _]) cb_26_V4 (fun nd_ => c26n _ _ _) ?_; (clear F a M; try clear w); rintro v w rfl M a F
  refine s_I F rfl rfl rfl rfl rfl rfl ?_; clear F a; intro a F
  refine s_I F rfl rfl rfl rfl rfl rfl ?_; clear F a; intro a F
  refine s_I F rfl rfl rfl rfl rfl rfl ?_; clear F a; intro a F
  refine s_I F rfl rfl rfl rfl rfl rfl ?_; clear F a; intro a F
  refine s_I F rfl rfl rfl rfl rfl rfl ?_; clear F a; intro a F
  refine t_endM M ?_; (clear M; try clear w); intro w M
  refine wp_seq ?_
  replace F := F.keep [0, 1, 2, 3, 4, 5] rfl
  refine wp_region_l [.ind, .rd, .wr, .ind, .ind, .ind, .ind, .rd, .ind, .rd, .ind, .rd, .wr, .ind, .ind, .ind, .ind, .ind, .rd, .ind, .rd, .wr, .ind, .ind, .ind, .ind, .ind, .ind, .ind, .ind, .ind, .ind, .ind, .ind, .ind, .rd, .wr, .ind, .ind, .ind, .wr, .ind, .ind] ([0, 1, 2, 3, 4, 5, 6, 7, 8, 9, 10, 11, 12, 13, 14, 15, 16, 17, 18, 19, 20, 21, 22, 23, 24, 25, 26, 27, 28, 29, 30, 31, 32, 33, 34, 35, 36, 37, 38, 39, 40, 41, 42]) rfl ?_
  refine s_I F rfl rfl rfl rfl rfl rfl ?_; clear F a; intro a F
  refine s_lda F rfl rfl rfl rfl ag_32_V4 rfl rfl (cells_whole M.h0) ?_; clear F a; intro a F
  refine s_cq F M rfl rfl rfl rfl rfl (rfl : _ = some [_, _]) cb_25_V4 (fun nd_ => c25n q _) ?_; (clear F a M; try clear w); rintro v w rfl M a F
  refine s_I F rfl rfl rfl rfl rfl rfl ?_; clear F a; intro a F
  replace F : Fr _ _ ((18, Value.bool true) :: _) := F
  refine s_I F rfl rfl rfl rfl rfl rfl ?_; clear F a; intro a F
  refine s_I F rfl rfl rfl rfl rfl rfl ?_; clear F a; intro a F
  refine s_fa0 F rfl rfl rfl rfl fa_32_0_V4 rfl ?_; clear F a; intro a F
  refine s_ld F rfl rfl rfl rfl sc_3_V4 rfl (by exact cell_of_blk M.h0 (lit rfl)) ?_; clear F a; intro a F
  refine s_fa0 F rfl rfl rfl rfl fa_32_2_V4 rfl ?_; clear F a; intro a F
  refine s_ld F rfl rfl rfl rfl sc_3_V4 rfl (by exact cell_of_blk M.h0 (lit rfl)) ?_; clear F a; intro a F
  refine s_fa0 F rfl rfl rfl rfl fa_32_4_V4 rfl ?_; clear F a; intro a F
  refine s_ld F rfl rfl rfl rfl sc_9_V4 rfl (by exact cell_of_blk M.h0 (lit rfl)) ?_; clear F a; intro a F
  refine s_cq F M rfl rfl rfl rfl rfl (rfl : _ = some [_, _, _, _]) cb_28_V4 (fun nd_ => c28n _ _ _ _) ?_; (clear F a M; try clear w); rintro v w rfl M a F
  refine s_bin F rfl rfl rfl rfl rfl rfl rfl ?_; clear F a; intro a F
  replace F : Fr _ _ ((28, Value.bool true) :: _) := F
  refine s_I F rfl rfl rfl rfl rfl rfl ?_; clear F a; intro a F
  refine s_I F rfl rfl rfl rfl rfl rfl ?_; clear F a; intro a F
  refine s_I F rfl rfl rfl rfl rfl rfl ?_; clear F a; intro a F
  refine s_fa0 F rfl rfl rfl rfl fa_32_0_V4 rfl ?_; clear F a; intro a F
  refine s_ld F rfl rfl rfl rfl sc_3_V4 rfl (by exact cell_of_blk M.h0 (lit rfl)) ?_; clear F a; intro a F
  refine s_fa0 F rfl rfl rfl rfl fa_32_2_V4 rfl ?_; clear F a; intro a F
  refine s_ld F rfl rfl rfl rfl sc_3_V4 rfl (by exact cell_of_blk M.h0 (lit rfl)) ?_; clear F a; intro a F
  refine s_cq F M rfl rfl rfl rfl rfl (rfl : _ = some [_, _, _]) cb_30_V4 (fun nd_ => c30n _ _ _) ?_; (clear F a M; try clear w); rintro v w rfl M a F
  refine s_bin F rfl rfl rfl rfl rfl rfl rfl ?_; clear F a; intro a F
  replace F : Fr _ _ ((37, Value.bool true) :: _) := F
  refine s_I F rfl rfl rfl rfl rfl rfl ?_; clear F a; intro a F
  refine s_I F rfl rfl rfl rfl rfl rfl ?_; clear F a; intro a F
  refine s_I F rfl rfl rfl rfl rfl rfl ?_; clear F a; intro a F
  refine s_bin F rfl rfl rfl rfl rfl rfl rfl ?_; clear F a; intro a F
  replace F : Fr _ _ ((41, Value.bool true) :: _) := F
  refine s_I F rfl rfl rfl rfl rfl rfl ?_; clear F a; intro a F
  refine s_I F rfl rfl rfl rfl rfl rfl ?_; clear F a; intro a F
  refine s_I F rfl rfl rfl rfl rfl rfl ?_; clear F a; intro a F
  refine s_I F rfl rfl rfl rfl rfl rfl ?_; clear F a; intro a F
  replace F : Fr _ _ ((45, Value.bool true) :: _) := F
  refine s_I F rfl rfl rfl rfl rfl rfl ?_; clear F a; intro a F
  refine s_I F rfl rfl rfl rfl rfl rfl ?_; clear F a; intro a F
  refine s_I F rfl rfl rfl rfl rfl rfl ?_; clear F a; intro a F
  refine s_fa0 F rfl rfl rfl rfl fa_32_2_V4 rfl ?_; clear F a; intro a F
  refine s_ld F rfl rfl rfl rfl sc_3_V4 rfl (by exact cell_of_blk M.h0 (lit rfl)) ?_; clear F a; intro a F
  refine s_cq F M rfl rfl rfl rfl rfl (rfl : _ = some [_, _]) cb_32_V4 (fun nd_ => c32n _ _) ?_; (clear F a M; try clear w); rintro v w rfl M a F
  refine s_bin F rfl rfl rfl rfl rfl rfl rfl ?_; clear F a; intro a F
  replace F : Fr _ _ ((52, Value.bool true) :: _) := F
  refine s_I F rfl rfl rfl rfl rfl rfl ?_; clear F a; intro a F
  refine s_I F rfl rfl rfl rfl rfl rfl ?_; clear F a; intro a F
  refine s_cq F M rfl rfl rfl rfl rfl (rfl : _ = some []) cb_21_V4 (fun nd_ => c21 _) ?_; (clear F a M; try clear w); rintro v w rfl M a F
  refine s_I F rfl rfl rfl rfl rfl rfl ?_; clear F a; intro a F
  refine s_I F rfl rfl rfl rfl rfl rfl ?_; clear F a; intro a F
  refine t_endM M ?_; (clear M; try clear w); intro w M
  refine wp_ret ?_
  refine ret1 F rfl rfl ?_
  -- end 0
  exact ⟨_, rfl, rfl, M.chg⟩
set_option maxRecDepth 100000 in
set_option maxHeartbeats 400000 in
theorem law3a (n t : Int) (l : List Wrd) (v : Value) (w0 : World) (hr : RdSl w0.heap v l.length 5 (l.flatMap encW)) (h : ¬ few l) : Cl Try.prog 3 #[.int .i64 n, .int .i64 t, v] w0 (RetQ w0 fun v => v = .bool true) := by
  have M : Sep (fun _ => False) w0 w0 _ := Sep.nil _ w0
  have hro := (ro_of hr)
  obtain ⟨A, cc, rfl, hcc⟩ := hr.form
  refine enter (vs := [_, _, _]) Try.func3 rfl rfl rfl ?_
  intro a F
  refine wp_seq ?_
  refine wp_region_l [.ind] ([0]) rfl ?_
  refine s_I F rfl rfl rfl rfl rfl rfl ?_; clear F a; intro a F
  refine t_endM M ?_; (clear M; try clear w); intro w M
  refine wp_seq ?_
  refine wp_seq ?_
  refine wp_region_l [.ind, .wr, .ind] ([0, 1, 2]) rfl ?_
  refine s_I F rfl rfl rfl rfl rfl rfl ?_; clear F a; intro a F
  refine s_cq F M rfl rfl rfl rfl rfl (rfl : _ = some [_]) cb_20_V4 (fun nd_ => c20n _ h (M.chg.ro hro)) ?_; (clear F a M; try clear w); rintro v w rfl M a F
  refine s_I F rfl rfl rfl rfl rfl rfl ?_; clear F a; intro a F
  replace F : Fr _ _ ((20, Value.bool true) :: _) := F
  refine t_endM M ?_; (clear M; try clear w); intro w M
  refine c_t F rfl ?_
  refine wp_seq ?_
  replace F := F.keep [0, 1, 2, 6] rfl
  refine wp_region_l [.wr, .ind] ([0, 1]) rfl ?_
  refine s_cq F M rfl rfl rfl rfl rfl (rfl : _ = some []) cb_21_V4 (fun nd_ => c21 _) ?_; (clear F a M; try clear w); rintro v w rfl M a F
  refine s_I F rfl rfl rfl rfl rfl rfl ?_; clear F a; intro a F
  refine t_endM M ?_; (clear M; try clear w); intro w M
  refine wp_ret ?_
  refine ret1 F rfl rfl ?_
  -- end 0
  exact ⟨_, rfl, rfl, M.chg⟩
set_option maxRecDepth 100000 in
set_option maxHeartbeats 400000 in
theorem law3b (n t : Int) (l : List Wrd) (v : Value) (w0 : World) (hr : RdSl w0.heap v l.length 5 (l.flatMap encW)) (h : few l) (hq : quorum n t = 0) : Cl Try.prog 3 #[.int .i64 n, .int .i64 t, v] w0 (RetQ w0 fun v => v = .bool true) := by
  have M : Sep (fun _ => False) w0 w0 _ := Sep.nil _ w0
  have hro := (ro_of hr)
  obtain ⟨A, cc, rfl, hcc⟩ := hr.form
  refine enter (vs := [_, _, _]) Try.func3 rfl rfl rfl ?_
  intro a F
  refine wp_seq ?_
  refine wp_region_l [.ind] ([0]) rfl ?_
  refine s_I F rfl rfl rfl rfl rfl rfl ?_; clear F a; intro a F
  refine t_endM M ?_; (clear M; try clear w); intro w M
  refine wp_seq ?_
  refine wp_seq ?_
  refine wp_region_l [.ind, .wr, .ind] ([0, 1, 2]) rfl ?_
  refine s_I F rfl rfl rfl rfl rfl rfl ?_; clear F a; intro a F
  refine s_cq F M rfl rfl rfl rfl rfl (rfl : _ = some [_]) cb_20_V4 (fun nd_ => c20y _ h (M.chg.ro hro)) ?_; (clear F a M; try clear w); rintro v w rfl M a F
  refine s_I F rfl rfl rfl rfl rfl rfl ?_; clear F a; intro a F
  replace F : Fr _ _ ((20, Value.bool false) :: _) := F
  refine t_endM M ?_; (clear M; try clear w); intro w M
  refine c_f F rfl ?_
  refine wp_skip ?_
  refine wp_seq ?_
  replace F := F.keep [0, 1, 2, 6] rfl
  refine wp_region_l [.ind, .ind, .wr, .ind] ([0, 1, 2, 3]) rfl ?_
  refine s_I F rfl rfl rfl rfl rfl rfl ?_; clear F a; intro a F
  refine s_I F rfl rfl rfl rfl rfl rfl ?_; clear F a; intro a F
  refine s_cq F M rfl rfl rfl rfl rfl (rfl : _ = some [_, _]) cb_22_V4 (fun nd_ => c22n n t hq _) ?_; (clear F a M; try clear w); rintro v w rfl M a F
  refine s_I F rfl rfl rfl rfl rfl rfl ?_; clear F a; intro a F
  refine t_endM M ?_; (clear M; try clear w); intro w M
  refine wp_seq ?_
  replace F := F.keep [0, 1, 2, 6, 7] rfl
  refine wp_region_l [.ind, .ind, .wr, .ind, .ind, .ind, .wr, .wr, .ind] ([0, 1, 2, 3, 4, 5, 6, 7, 8]) rfl ?_
  refine s_I F rfl rfl rfl rfl rfl rfl ?_; clear F a; intro a F
  refine s_I F rfl rfl rfl rfl rfl rfl ?_; clear F a; intro a F
  refine s_cq F M rfl rfl rfl rfl rfl (rfl : _ = some [_, _]) cb_23_V4 (fun nd_ => c23n n t hq _) ?_; (clear F a M; try clear w); rintro v w rfl M a F
  refine s_I F rfl rfl rfl rfl rfl rfl ?_; clear F a; intro a F
  refine s_I F rfl rfl rfl rfl rfl rfl ?_; clear F a; intro a F
  refine s_I F rfl rfl rfl rfl rfl rfl ?_; clear F a; intro a F
  refine s_alc F M rfl rfl rfl rfl zr_28_V4 rfl ?_; (clear F a M; try clear w); intro b8 w M a F
  refine s_stW F M rfl rfl rfl sz_28_V4 rfl rfl rfl rfl rfl ?_; (clear M; try clear w); intro w M
  refine s_I F rfl rfl rfl rfl rfl rfl ?_; clear F a; intro a F
  replace F : Fr _ _ ((9, Value.bool false) :: _) := F
  refine t_endM M ?_; (clear M; try clear w); intro w M
  refine wp_seq ?_
  refine wp_seq ?_
  replace F := F.keep [0, 1, 2, 6, 7, 8, 9] rfl
  refine wp_region_l [.ind, .ind, .ind, .ind, .ind, .ind] ([0, 1, 2, 3, 4, 5]) rfl ?_
  refine s_I F rfl rfl rfl rfl rfl rfl ?_; clear F a; intro a F
  refine s_I F rfl rfl rfl rfl rfl rfl ?_; clear F a; intro a F
  refine s_I F rfl rfl rfl rfl rfl rfl ?_; clear F a; intro a F
  refine s_no F rfl rfl rfl rfl ?_; clear F a; intro a F
  refine s_no F rfl rfl rfl rfl ?_; clear F a; intro a F
  refine s_I F rfl rfl rfl rfl rfl rfl ?_; clear F a; intro a F
  refine t_endM M ?_; (clear M; try clear w); intro w M
  refine c_t F rfl ?_
  refine wp_seq ?_
  replace F := F.keep [0, 1, 2, 6, 7, 8, 9] rfl
  refine wp_region_l [.ind, .ind, .ind, .ind, .ind, .ind, .ind, .wr, .ind, .ind] ([0, 1, 2, 3, 4, 5, 6, 7, 8, 9]) rfl ?_
  refine s_I F rfl rfl rfl rfl rfl rfl ?_; clear F a; intro a F
  refine s_I F rfl rfl rfl rfl rfl rfl ?_; clear F a; intro a F
  refine s_I F rfl rfl rfl rfl rfl rfl ?_; clear F a; intro a F
  refine s_I F rfl rfl rfl rfl rfl rfl ?_; clear F a; intro a F
  refine s_pn F rfl rfl rfl rfl pt_25_V4 rfl ?_; clear F a; intro a F
  replace F : Fr _ _ ((41, Value.bool true) :: _) := F
  refine s_I F rfl rfl rfl rfl rfl rfl ?_; clear F a; intro a F
  refine s_I F rfl rfl rfl rfl rfl rfl ?_; clear F a; intro a F
  refine s_cq F M rfl rfl rfl rfl rfl (rfl : _ = some []) cb_21_V4 (fun nd_ => c21 _) ?_; (clear F a M; try clear w); rintro v w rfl M a F
  refine s_I F rfl rfl rfl rfl rfl rfl ?_; clear F a; intro a F
  refine s_I F rfl rfl rfl rfl rfl rfl ?_; clear F a; intro a F
  refine t_endM M ?_; (clear M; try clear w); intro w M
  refine wp_ret ?_
  refine ret1 F rfl rfl ?_
  -- end 0
  exact ⟨_, rfl, rfl, M.chg⟩
set_option maxRecDepth 100000 in
set_option maxHeartbeats 4000000 in
theorem law3c (n t : Int) (l : List Wrd) (v : Value) (w0 : World) (hr : RdSl w0.heap v l.length 5 (l.flatMap encW)) (h : few l) (hq : quorum n t ≠ 0) : Cl Try.prog 3 #[.int .i64 n, .int .i64 t, v] w0 (RetQ w0 fun v => v = .bool true) := by
  have M : Sep (fun _ => False) w0 w0 _ := Sep.nil _ w0
  have hro := (ro_of hr)
  obtain ⟨A, cc, rfl, hcc⟩ := hr.form
  have hl60 := h.1
  refine enter (vs := [_, _, _]) Try.func3 rfl rfl rfl ?_
  intro a F
  refine wp_seq ?_
  refine wp_region_l [.ind] ([0]) rfl ?_
  refine s_I F rfl rfl rfl rfl rfl rfl ?_; clear F a; intro a F
  refine t_endM M ?_; (clear M; try clear w); intro w M
  refine wp_seq ?_
  refine wp_seq ?_
  refine wp_region_l [.ind, .wr, .ind] ([0, 1, 2]) rfl ?_
  refine s_I F rfl rfl rfl rfl rfl rfl ?_; clear F a; intro a F
  refine s_cq F M rfl rfl rfl rfl rfl (rfl : _ = some [_]) cb_20_V4 (fun nd_ => c20y _ h (M.chg.ro hro)) ?_; (clear F a M; try clear w); rintro v w rfl M a F
  refine s_I F rfl rfl rfl rfl rfl rfl ?_; clear F a; intro a F
  replace F : Fr _ _ ((20, Value.bool false) :: _) := F
  refine t_endM M ?_; (clear M; try clear w); intro w M
  refine c_f F rfl ?_
  refine wp_skip ?_
  refine wp_seq ?_
  replace F := F.keep [0, 1, 2, 6] rfl
  refine wp_region_l [.ind, .ind, .wr, .ind] ([0, 1, 2, 3]) rfl ?_
  refine s_I F rfl rfl rfl rfl rfl rfl ?_; clear F a; intro a F
  refine s_I F rfl rfl rfl rfl rfl rfl ?_; clear F a; intro a F
  refine s_call (m := []) F M rfl rfl rfl rfl rfl (rfl : _ = some [_, _]) cb_22_V4 (fun nd_ => c22v hq _) ?_; (clear F a M; try clear w); rintro v b w rfl M a F; (try simp only [List.cons_append, List.nil_append] at M)
  refine s_I F rfl rfl rfl rfl rfl rfl ?_; clear F a; intro a F
  refine t_endM M ?_; (clear M; try clear w); intro w M
  refine wp_seq ?_
  replace F := F.keep [0, 1, 2, 6, 7] rfl
  refine wp_region_l [.ind, .ind, .wr, .ind, .ind, .ind, .wr, .wr, .ind] ([0, 1, 2, 3, 4, 5, 6, 7, 8]) rfl ?_
  refine s_I F rfl rfl rfl rfl rfl rfl ?_; clear F a; intro a F
  refine s_I F rfl rfl rfl rfl rfl rfl ?_; clear F a; intro a F
  refine s_cq F M rfl rfl rfl rfl rfl (rfl : _ = some [_, _]) cb_23_V4 (fun nd_ => c23 n t hq _) ?_; (clear F a M; try clear w); rintro v w rfl M a F
  refine s_I F rfl rfl rfl rfl rfl rfl ?_; clear F a; intro a F
  refine s_I F rfl rfl rfl rfl rfl rfl ?_; clear F a; intro a F
  refine s_I F rfl rfl rfl rfl rfl rfl ?_; clear F a; intro a F
  refine s_alc F M rfl rfl rfl rfl zr_28_V4 rfl ?_; (clear F a M; try clear w); intro b8 w M a F
  refine s_stW F M rfl rfl rfl sz_28_V4 rfl rfl rfl rfl rfl ?_; (clear M; try clear w); intro w M
  refine s_I F rfl rfl rfl rfl rfl rfl ?_; clear F a; intro a F
  replace F : Fr _ _ ((9, Value.bool true) :: _) := F
  refine t_endM M ?_; (clear M; try clear w); intro w M
  refine wp_seq ?_
  refine wp_seq ?_
  replace F := F.keep [0, 1, 2, 6, 7, 8, 9] rfl
  refine wp_region_l [.ind, .ind, .ind, .ind, .ind, .ind] ([0, 1, 2, 3, 4, 5]) rfl ?_
  refine s_I F rfl rfl rfl rfl rfl rfl ?_; clear F a; intro a F
  refine s_I F rfl rfl rfl rfl rfl rfl ?_; clear F a; intro a F
  refine s_I F rfl rfl rfl rfl rfl rfl ?_; clear F a; intro a F
  refine s_I F rfl rfl rfl rfl rfl rfl ?_; clear F a; intro a F
  refine s_pn F rfl rfl rfl rfl pt_25_V4 rfl ?_; clear F a; intro a F
  replace F : Fr _ _ ((35, Value.bool false) :: _) := F
  refine s_I F rfl rfl rfl rfl rfl rfl ?_; clear F a; intro a F
  refine t_endM M ?_; (clear M; try clear w); intro w M
  refine c_f F rfl ?_
  refine wp_skip ?_
  refine wp_seq ?_
  refine wp_seq ?_
  replace F := F.keep [0, 1, 2, 6, 7, 8, 9] rfl
  refine wp_region_l [.ind] ([0]) rfl ?_
  refine s_I F rfl rfl rfl rfl rfl rfl ?_; clear F a; intro a F
  refine t_endM M ?_; (clear M; try clear w); intro w M
  refine wp_block ?_
  replace M := M.nilT encW 32 5
  have M1 : Sep _ _ _ (slR _ _ _ _ _ :: _) := M; replace M := M1; clear M1
  have M1 : Sep _ _ _ (blk b8 _ :: _) := M.f1; replace M := M1; clear M1
  have M1 : Sep _ _ _ (votR b _ _ _ _ :: _) := M.f2; replace M := M1; clear M1
  refine loopX (X := (Int) × (List Wrd) × (Value) × (Value)) F [0, 1, 2, 7, 8, 9] rfl (fun ((i, L, vv, v2) : (Int) × (List Wrd) × (Value) × (Value)) => (0 ≤ i) ∧ (i ≤ l.length) ∧ (VoteM.Wf n t L)) (fun ((i, L, vv, v2) : (Int) × (List Wrd) × (Value) × (Value)) => [(10, .int .i64 i)]) (fun ((i, L, vv, v2) : (Int) × (List Wrd) × (Value) × (Value)) => [votR b vv n t L, blk b8 (.cells #[.int .i64 n, .int .i64 t, v2] 28 (0, 0)), wsR v2 L]) (fun ((i, L, vv, v2) : (Int) × (List Wrd) × (Value) × (Value)) => l.length - i.toNat) ((0), ([]), (_), (_)) M ⟨(by omega), (by omega), (.nil hq)⟩ (F.keep [10, 0, 1, 2, 7, 8, 9] rfl) ?_
  clear F M; clear a; (try clear w)
  rintro ⟨i, L, vv, v2⟩ a w ⟨i0, i1, W⟩ F M; try dsimp only at F M
  try simp only [List.cons_append, List.nil_append] at F M
  try dsimp only at i0 i1 W
  have hln := W.len
  have hn7 := W.n7
  obtain ⟨A2, c2, rfl⟩ := SlOk.form M.h2
  refine wp_seq ?_
  refine wp_seq ?_
  refine wp_region_l [.ind, .ind, .ind, .ind] ([0, 1, 2, 3]) rfl ?_
  refine s_I F rfl rfl rfl rfl rfl rfl ?_; clear F a; intro a F
  refine s_I F rfl rfl rfl rfl rfl rfl ?_; clear F a; intro a F
  refine s_len F rfl rfl rfl rfl sl_22_V4 rfl ?_; clear F a; intro a F
  refine s_bin F rfl rfl rfl rfl rfl rfl rfl ?_; clear F a; intro a F
  refine t_endM M ?_; (clear M; try clear w); intro w M
  refine c_if F rfl ?_ ?_
  ·
    clear F; intro hc0 F
    try rw [hc0] at F
    replace hc0 := of_decide_eq_true hc0
    refine wp_skip ?_
    refine wp_seq ?_
    refine wp_block ?_
    refine wp_seq ?_
    replace F := F.keep [0, 1, 2, 7, 8, 9, 10] rfl
    refine wp_region_l [.ind, .ind, .ind, .rd, .wr, .wr] ([0, 1, 2, 3, 4, 5]) rfl ?_
    refine s_I F rfl rfl rfl rfl rfl rfl ?_; clear F a; intro a F
    refine s_I F rfl rfl rfl rfl rfl rfl ?_; clear F a; intro a F
    refine s_ix F rfl rfl rfl rfl sl_22_V4 rfl rfl (by exact M.chg.ro hro) (by omega) (by omega) ?_; clear F a; intro e54 he54 a F
    refine s_lda F rfl rfl rfl rfl ag_32_V4 rfl rfl (rdsX (M.chg.ro hro) (by intro e; rfl) he54) ?_; clear F a; intro a F
    refine s_alc F M rfl rfl rfl rfl zr_32_V4 rfl ?_; (clear F a M; try clear w); intro b11 w M a F
    refine s_stW F M rfl rfl rfl sz_32_V4 rfl rfl rfl rfl rfl ?_; (clear M; try clear w); intro w M
    refine t_endM M ?_; (clear M; try clear w); intro w M
    refine wp_seq ?_
    replace F := F.keep [0, 1, 2, 7, 8, 9, 10, 11] rfl
    refine wp_region_l [.rd, .rd, .wr, .ind, .ind, .ind, .wr, .wr, .ind] ([0, 1, 2, 3, 4, 5, 6, 7, 8]) rfl ?_
    refine s_lda F rfl rfl rfl rfl ag_28_V4 rfl rfl (cells_whole M.h2) ?_; clear F a; intro a F
    refine s_lda F rfl rfl rfl rfl ag_32_V4 rfl rfl (cells_whole M.h0) ?_; clear F a; intro a F
    have M1 : Sep _ _ _ (slR (.slice A2 _ _) _ _ _ _ :: _) := M.f3; replace M := M1; clear M1
    refine s_call (m := [_]) F M rfl rfl rfl rfl rfl (rfl : _ = some [_, _]) cb_24_V4 (fun nd_ => c24 n t L _ e54 (by omega) _ (M.drewN nd_).own.one) ?_; (clear F a M; try clear w); rintro v v3 w rfl M a F; (try simp only [List.cons_append, List.nil_append] at M)
    obtain ⟨A3, c3, rfl⟩ := SlOk.form M.h0
    have W2 := W.put e54
    have hln2 := W2.len
    refine s_I F rfl rfl rfl rfl rfl rfl ?_; clear F a; intro a F
    refine s_I F rfl rfl rfl rfl rfl rfl ?_; clear F a; intro a F
    refine s_I F rfl rfl rfl rfl rfl rfl ?_; clear F a; intro a F
    refine s_alc F M rfl rfl rfl rfl zr_28_V4 rfl ?_; (clear F a M; try clear w); intro b12 w M a F
    refine s_stW F M rfl rfl rfl sz_28_V4 rfl rfl rfl rfl rfl ?_; (clear M; try clear w); intro w M
    refine s_I F rfl rfl rfl rfl rfl rfl ?_; clear F a; intro a F
    refine t_endM M ?_; (clear M; try clear w); intro w M
    refine wp_seq ?_
    replace F := F.keep [0, 1, 2, 7, 8, 9, 10, 11, 12, 13] rfl
    refine wp_region_l [.rd, .wr] ([0, 1]) rfl ?_
    refine s_lda F rfl rfl rfl rfl ag_28_V4 rfl rfl (cells_whole M.h0) ?_; clear F a; intro a F
    refine s_stW F M.f4 rfl rfl rfl sz_28_V4 rfl rfl rfl rfl rfl ?_; (clear M; try clear w); intro w M
    refine t_endM M ?_; (clear M; try clear w); intro w M
    refine wp_seq ?_
    refine wp_seq ?_
    replace F := F.keep [0, 1, 2, 7, 8, 9, 10, 11, 12, 13] rfl
    refine wp_region_l [.ind, .rd, .wr, .ind, .ind] ([0, 1, 2, 3, 4]) rfl ?_
    refine s_I F rfl rfl rfl rfl rfl rfl ?_; clear F a; intro a F
    refine s_lda F rfl rfl rfl rfl ag_32_V4 rfl rfl (cells_whole M.h3) ?_; clear F a; intro a F
    have M1 : Sep _ _ _ (votR b _ _ _ _ :: _) := M.f4; replace M := M1; clear M1
    refine s_call (m := [_]) F M rfl rfl rfl rfl rfl (rfl : _ = some [_, _]) cb_25_V4 (fun nd_ => c25v (b := b) (n := n) (t := t) (L := L) e54 _ (M.drewN nd_).own.one) ?_; (clear F a M; try clear w); rintro v v5 w rfl M a F; (try simp only [List.cons_append, List.nil_append] at M)
    refine s_I F rfl rfl rfl rfl rfl rfl ?_; clear F a; intro a F
    refine s_bne F rfl rfl rfl rfl bo_4_V4 rfl rfl ?_; clear F a; intro a F
    refine t_endM M ?_; (clear M; try clear w); intro w M
    refine c_if F rfl ?_ ?_
    ·
      clear F; intro hc1 F
      try rw [hc1] at F
      replace hc1 := nd1 hc1
      exact absurd hc1 (by simp)
    ·
      clear F; intro hc2 F
      try rw [hc2] at F
      replace hc2 := nd0 hc2
      refine wp_skip ?_
      refine wp_seq ?_
      replace F := F.keep [0, 1, 2, 7, 8, 9, 10, 11, 12, 13] rfl
      refine wp_region_l [.ind, .ind, .rd, .ind, .rd, .wr, .ind, .ind, .ind, .ind, .ind] ([0, 1, 2, 3, 4, 5, 6, 7, 8, 9, 10]) rfl ?_
      refine s_I F rfl rfl rfl rfl rfl rfl ?_; clear F a; intro a F
      refine s_fa0 F rfl rfl rfl rfl fa_32_0_V4 rfl ?_; clear F a; intro a F
      refine s_ld F rfl rfl rfl rfl sc_3_V4 rfl (by exact cell_of_blk M.h4 (lit rfl)) ?_; clear F a; intro a F
      refine s_fa0 F rfl rfl rfl rfl fa_32_2_V4 rfl ?_; clear F a; intro a F
      refine s_ld F rfl rfl rfl rfl sc_3_V4 rfl (by exact cell_of_blk M.h4 (lit rfl)) ?_; clear F a; intro a F
      refine s_cq F M rfl rfl rfl rfl rfl (rfl : _ = some [_, _, _]) cb_26_V4 (fun nd_ => c26v _ _ _ (by exact M.h0)) ?_; (clear F a M; try clear w); rintro v w rfl M a F
      refine s_I F rfl rfl rfl rfl rfl rfl ?_; clear F a; intro a F
      refine s_I F rfl rfl rfl rfl rfl rfl ?_; clear F a; intro a F
      refine s_I F rfl rfl rfl rfl rfl rfl ?_; clear F a; intro a F
      refine s_I F rfl rfl rfl rfl rfl rfl ?_; clear F a; intro a F
      refine s_I F rfl rfl rfl rfl rfl rfl ?_; clear F a; intro a F
      refine t_endM M ?_; (clear M; try clear w); intro w M
      refine wp_seq ?_
      replace F := F.keep [0, 1, 2, 7, 8, 9, 10, 11, 12, 13, 14, 15] rfl
      refine wp_region_l [.rd, .ind, .rd, .ind, .rd, .wr, .ind, .ind, .ind, .ind, .ind] ([0, 1, 2, 3, 4, 5, 6, 7, 8, 9, 10]) rfl ?_
      refine s_lda F rfl rfl rfl rfl ag_28_V4 rfl rfl (cells_whole M.h1) ?_; clear F a; intro a F
      refine s_fa0 F rfl rfl rfl rfl fa_32_0_V4 rfl ?_; clear F a; intro a F
      refine s_ld F rfl rfl rfl rfl sc_3_V4 rfl (by exact cell_of_blk M.h4 (lit rfl)) ?_; clear F a; intro a F
      refine s_fa0 F rfl rfl rfl rfl fa_32_2_V4 rfl ?_; clear F a; intro a F
      refine s_ld F rfl rfl rfl rfl sc_3_V4 rfl (by exact cell_of_blk M.h4 (lit rfl)) ?_; clear F a; intro a F
      refine s_cq F M rfl rfl rfl rfl rfl (rfl : _ = some [_, _, _]) cb_27_V4 (fun nd_ => c27 n t _ _ _ _ (by omega) _ (by exact SlOk.rd M.h3)) ?_; (clear F a M; try clear w); rintro v w rfl M a F
      refine s_I F rfl rfl rfl rfl rfl rfl ?_; clear F a; intro a F
      refine s_I F rfl rfl rfl rfl rfl rfl ?_; clear F a; intro a F
      refine s_I F rfl rfl rfl rfl rfl rfl ?_; clear F a; intro a F
      refine s_I F rfl rfl rfl rfl rfl rfl ?_; clear F a; intro a F
      refine s_I F rfl rfl rfl rfl rfl rfl ?_; clear F a; intro a F
      refine t_endM M ?_; (clear M; try clear w); intro w M
      refine wp_seq ?_
      replace F := F.keep [0, 1, 2, 7, 8, 9, 10, 11, 12, 13, 14, 15, 16, 17] rfl
      refine wp_region_t [.ind, .ind, .ind, .ind, .ind, .ind, .ind, .ind, .ind, .ind, .ind, .rd, .ind, .rd, .ind, .rd, .wr, .rd, .ind, .rd, .ind, .rd, .ind, .rd, .wr, .ind, .ind, .ind, .ind, .ind, .rd, .ind, .rd, .wr, .rd, .ind, .rd, .ind, .rd, .wr, .ind, .ind, .ind, .ind, .ind, .rd, .wr, .rd, .ind, .rd, .wr, .ind, .ind] [(17, 16), (19, 16), (21, 16), (23, 16), (34, 33), (36, 33), (38, 33), (47, 46), (49, 46)] (otOf [0, 1, 2, 3, 4, 5, 6, 7, 8, 9, 10, 11, 12, 13, 14, 15, 17, 18, 19, 20, 21, 22, 23, 16, 24, 25, 26, 27, 28, 29, 30, 31, 32, 34, 35, 36, 37, 38, 33, 39, 40, 41, 42, 43, 44, 45, 47, 48, 49, 46, 50, 51, 52]) mixed (by kernel_rfl) ?_
      refine s_I F rfl rfl rfl rfl rfl rfl ?_; clear F a; intro a F
      refine s_I F rfl rfl rfl rfl rfl rfl ?_; clear F a; intro a F
      refine s_bin F rfl rfl rfl rfl rfl rfl rfl ?_; clear F a; intro a F
      refine s_I F rfl rfl rfl rfl rfl rfl ?_; clear F a; intro a F
      refine bsplit F 89 rfl ?_ ?_
      ·
        clear F; intro hc3 F
        try rw [hc3] at F
        replace hc3 := nd1 hc3
        exact absurd rfl hc3
      ·
        clear F; intro hc4 F
        try rw [hc4] at F
        replace hc4 := nd0 hc4
        refine s_I F rfl rfl rfl rfl rfl rfl ?_; clear F a; intro a F
        refine s_I F rfl rfl rfl rfl rfl rfl ?_; clear F a; intro a F
        refine s_bne F rfl rfl rfl rfl bo_4_V4 rfl rfl ?_; clear F a; intro a F
        refine s_I F rfl rfl rfl rfl rfl rfl ?_; clear F a; intro a F
        refine s_I F rfl rfl rfl rfl rfl rfl ?_; clear F a; intro a F
        refine bsplit F 94 rfl ?_ ?_
        ·
          clear F; intro hc5 F
          try rw [hc5] at F
          replace hc5 := nd1 hc5
          exact absurd hc5 (by simp)
        ·
          clear F; intro hc6 F
          try rw [hc6] at F
          replace hc6 := nd0 hc6
          refine s_I F rfl rfl rfl rfl rfl rfl ?_; clear F a; intro a F
          refine s_fa0 F rfl rfl rfl rfl fa_32_0_V4 rfl ?_; clear F a; intro a F
          refine s_ldL F rfl rfl rfl rfl sc_3_V4 rfl (by exact cell_of_blk M.h4 (lit rfl)) ?_; clear F a; intro a F
          refine s_fa0 F rfl rfl rfl rfl fa_32_2_V4 rfl ?_; clear F a; intro a F
          refine s_ldL F rfl rfl rfl rfl sc_3_V4 rfl (by exact cell_of_blk M.h4 (lit rfl)) ?_; clear F a; intro a F
          refine s_fa0 F rfl rfl rfl rfl fa_32_4_V4 rfl ?_; clear F a; intro a F
          refine s_ldL F rfl rfl rfl rfl sc_9_V4 rfl (by exact cell_of_blk M.h4 (lit rfl)) ?_; clear F a; intro a F
          refine s_ldaL F rfl rfl rfl rfl ag_28_V4 rfl rfl (cells_whole M.h1) ?_; clear F a; intro a F
          refine s_fa0 F rfl rfl rfl rfl fa_32_0_V4 rfl ?_; clear F a; intro a F
          refine s_ldL F rfl rfl rfl rfl sc_3_V4 rfl (by exact cell_of_blk M.h4 (lit rfl)) ?_; clear F a; intro a F
          refine s_fa0 F rfl rfl rfl rfl fa_32_2_V4 rfl ?_; clear F a; intro a F
          refine s_ldL F rfl rfl rfl rfl sc_3_V4 rfl (by exact cell_of_blk M.h4 (lit rfl)) ?_; clear F a; intro a F
          refine s_fa0 F rfl rfl rfl rfl fa_32_4_V4 rfl ?_; clear F a; intro a F
          refine s_ldL F rfl rfl rfl rfl sc_9_V4 rfl (by exact cell_of_blk M.h4 (lit rfl)) ?_; clear F a; intro a F
          refine s_cqL F M rfl rfl rfl rfl rfl (rfl : _ = some [_, _, _, _]) cb_28_V4 (fun nd_ => c28v _ _ _ _ (by exact M.h0)) (fun _ w _ M => (by (refine pend_take (by exact cell_of_blk M.h4 (lit rfl)) ?_); (refine pend_take (by exact cell_of_blk M.h4 (lit rfl)) ?_); (refine pend_take (by exact cell_of_blk M.h4 (lit rfl)) ?_); (refine pend_take (by exact cells_whole M.h1) ?_); (refine pend_skip rfl ?_); (refine pend_skip rfl ?_); (refine pend_skip rfl ?_); exact pend_none)) ?_; (clear F a M; try clear w); rintro v w rfl M a F
          refine s_cqL F M rfl rfl rfl rfl rfl (rfl : _ = some [_, _, _, _]) cb_29_V4 (fun nd_ => c29 n t _ _ _ _ _ (by omega) _ (by exact SlOk.rd M.h3)) (fun _ w _ M => (by (refine pend_skip rfl ?_); (refine pend_skip rfl ?_); (refine pend_skip rfl ?_); (refine pend_skip rfl ?_); (refine pend_skip rfl ?_); (refine pend_skip rfl ?_); (refine pend_skip rfl ?_); exact pend_none)) ?_; (clear F a M; try clear w); rintro v w rfl M a F
          refine s_bin F rfl rfl rfl rfl rfl rfl rfl ?_; clear F a; intro a F
          refine s_I F rfl rfl rfl rfl rfl rfl ?_; clear F a; intro a F
          refine s_I F rfl rfl rfl rfl rfl rfl ?_; clear F a; intro a F
          refine bsplit F 113 rfl ?_ ?_
          ·
            clear F; intro hc7 F
            try rw [hc7] at F
            replace hc7 := nd1 hc7
            exact absurd rfl hc7
          ·
            clear F; intro hc8 F
            try rw [hc8] at F
            replace hc8 := nd0 hc8
            refine s_I F rfl rfl rfl rfl rfl rfl ?_; clear F a; intro a F
            refine s_fa0 F rfl rfl rfl rfl fa_32_0_V4 rfl ?_; clear F a; intro a F
            refine s_ldL F rfl rfl rfl rfl sc_3_V4 rfl (by exact cell_of_blk M.h4 (lit rfl)) ?_; clear F a; intro a F
            refine s_fa0 F rfl rfl rfl rfl fa_32_2_V4 rfl ?_; clear F a; intro a F
            refine s_ldL F rfl rfl rfl rfl sc_3_V4 rfl (by exact cell_of_blk M.h4 (lit rfl)) ?_; clear F a; intro a F
            refine s_ldaL F rfl rfl rfl rfl ag_28_V4 rfl rfl (cells_whole M.h1) ?_; clear F a; intro a F
            refine s_fa0 F rfl rfl rfl rfl fa_32_0_V4 rfl ?_; clear F a; intro a F
            refine s_ldL F rfl rfl rfl rfl sc_3_V4 rfl (by exact cell_of_blk M.h4 (lit rfl)) ?_; clear F a; intro a F
            refine s_fa0 F rfl rfl rfl rfl fa_32_2_V4 rfl ?_; clear F a; intro a F
            refine s_ldL F rfl rfl rfl rfl sc_3_V4 rfl (by exact cell_of_blk M.h4 (lit rfl)) ?_; clear F a; intro a F
            refine s_cqL F M rfl rfl rfl rfl rfl (rfl : _ = some [_, _, _]) cb_30_V4 (fun nd_ => c30v _ _ _ (by exact M.h0)) (fun _ w _ M => (by (refine pend_take (by exact cell_of_blk M.h4 (lit rfl)) ?_); (refine pend_take (by exact cell_of_blk M.h4 (lit rfl)) ?_); (refine pend_take (by exact cells_whole M.h1) ?_); (refine pend_skip rfl ?_); (refine pend_skip rfl ?_); (refine pend_skip rfl ?_); (refine pend_skip rfl ?_); (refine pend_skip rfl ?_); (refine pend_skip rfl ?_); (refine pend_skip rfl ?_); (refine pend_skip rfl ?_); (refine pend_skip rfl ?_); exact pend_none)) ?_; (clear F a M; try clear w); rintro v w rfl M a F
            refine s_cqL F M rfl rfl rfl rfl rfl (rfl : _ = some [_, _, _]) cb_31_V4 (fun nd_ => c31 n t _ _ _ _ (by omega) _ (by exact SlOk.rd M.h3)) (fun _ w _ M => (by (refine pend_skip rfl ?_); (refine pend_skip rfl ?_); (refine pend_skip rfl ?_); (refine pend_skip rfl ?_); (refine pend_skip rfl ?_); (refine pend_skip rfl ?_); (refine pend_skip rfl ?_); (refine pend_skip rfl ?_); (refine pend_skip rfl ?_); (refine pend_skip rfl ?_); (refine pend_skip rfl ?_); (refine pend_skip rfl ?_); exact pend_none)) ?_; (clear F a M; try clear w); rintro v w rfl M a F
            refine s_bin F rfl rfl rfl rfl rfl rfl rfl ?_; clear F a; intro a F
            refine s_I F rfl rfl rfl rfl rfl rfl ?_; clear F a; intro a F
            refine s_I F rfl rfl rfl rfl rfl rfl ?_; clear F a; intro a F
            refine bsplit F 128 rfl ?_ ?_
            ·
              clear F; intro hc9 F
              try rw [hc9] at F
              replace hc9 := nd1 hc9
              exact absurd rfl hc9
            ·
              clear F; intro hc10 F
              try rw [hc10] at F
              replace hc10 := nd0 hc10
              refine s_I F rfl rfl rfl rfl rfl rfl ?_; clear F a; intro a F
              refine s_fa0 F rfl rfl rfl rfl fa_32_2_V4 rfl ?_; clear F a; intro a F
              refine s_ldL F rfl rfl rfl rfl sc_3_V4 rfl (by exact cell_of_blk M.h4 (lit rfl)) ?_; clear F a; intro a F
              refine s_ldaL F rfl rfl rfl rfl ag_28_V4 rfl rfl (cells_whole M.h1) ?_; clear F a; intro a F
              refine s_fa0 F rfl rfl rfl rfl fa_32_2_V4 rfl ?_; clear F a; intro a F
              refine s_ldL F rfl rfl rfl rfl sc_3_V4 rfl (by exact cell_of_blk M.h4 (lit rfl)) ?_; clear F a; intro a F
              refine s_cqL F M rfl rfl rfl rfl rfl (rfl : _ = some [_, _]) cb_32_V4 (fun nd_ => c32v _ _ (by exact M.h0)) (fun _ w _ M => (by (refine pend_take (by exact cell_of_blk M.h4 (lit rfl)) ?_); (refine pend_take (by exact cells_whole M.h1) ?_); (refine pend_skip rfl ?_); (refine pend_skip rfl ?_); (refine pend_skip rfl ?_); (refine pend_skip rfl ?_); (refine pend_skip rfl ?_); (refine pend_skip rfl ?_); (refine pend_skip rfl ?_); (refine pend_skip rfl ?_); (refine pend_skip rfl ?_); (refine pend_skip rfl ?_); (refine pend_skip rfl ?_); (refine pend_skip rfl ?_); (refine pend_skip rfl ?_); exact pend_none)) ?_; (clear F a M; try clear w); rintro v w rfl M a F
              refine s_cqL F M rfl rfl rfl rfl rfl (rfl : _ = some [_, _]) cb_33_V4 (fun nd_ => c33 n t _ _ _ (by omega) (by omega) _ (by exact SlOk.rd M.h3)) (fun _ w _ M => (by (refine pend_skip rfl ?_); (refine pend_skip rfl ?_); (refine pend_skip rfl ?_); (refine pend_skip rfl ?_); (refine pend_skip rfl ?_); (refine pend_skip rfl ?_); (refine pend_skip rfl ?_); (refine pend_skip rfl ?_); (refine pend_skip rfl ?_); (refine pend_skip rfl ?_); (refine pend_skip rfl ?_); (refine pend_skip rfl ?_); (refine pend_skip rfl ?_); (refine pend_skip rfl ?_); (refine pend_skip rfl ?_); exact pend_none)) ?_; (clear F a M; try clear w); rintro v w rfl M a F
              refine s_bin F rfl rfl rfl rfl rfl rfl rfl ?_; clear F a; intro a F
              refine s_I F rfl rfl rfl rfl rfl rfl ?_; clear F a; intro a F
              refine t_endM M ?_; (clear M; try clear w); intro w M
              refine c_if F rfl ?_ ?_
              ·
                clear F; intro hc11 F
                try rw [hc11] at F
                replace hc11 := nd1 hc11
                exact absurd rfl hc11
              ·
                clear F; intro hc12 F
                try rw [hc12] at F
                replace hc12 := nd0 hc12
                refine wp_skip ?_
                replace F := F.keep [0, 1, 2, 7, 8, 9, 10, 11, 12, 13, 14, 15, 16, 17] rfl
                refine wp_region_l [.ind, .ind, .ind] ([0, 1, 2]) rfl ?_
                refine s_I F rfl rfl rfl rfl rfl rfl ?_; clear F a; intro a F
                refine s_add F rfl rfl rfl rfl rfl rfl (by unfold In64; omega) ?_; clear F a; intro a F
                refine s_I F rfl rfl rfl rfl rfl rfl ?_; clear F a; intro a F
                refine t_endM M ?_; (clear M; try clear w); intro w M
                refine again ((i + 1), (putV n L e54), (v5), (.slice A3 (putV n L e54).length c3)) (by show _ < _; (try dsimp only); omega) ⟨(by omega), (by assumption), W2⟩ (F.keep [10, 0, 1, 2, 7, 8, 9] rfl) ?_
                try dsimp only [List.cons_append, List.nil_append]
                refine M.pick ?_; repeat (first | exact PkG.nil | refine PkG.cons 0 rfl rfl ?_ | refine PkG.cons 1 rfl rfl ?_ | refine PkG.cons 3 rfl rfl ?_)
  ·
    clear F; intro hc13 F
    try rw [hc13] at F
    replace hc13 := of_decide_eq_false hc13
    refine wp_exit ?_
    refine wp_seq ?_
    replace F := F.keep [0, 1, 2, 7, 8, 9, 10] rfl
    refine wp_region_t [.ind, .wr, .rd, .wr, .ind, .ind, .wr, .ind, .ind] [(2, 1)] (otOf [0, 2, 1, 3, 4, 5, 6, 7, 8]) mixed (by kernel_rfl) ?_
    refine s_I F rfl rfl rfl rfl rfl rfl ?_; clear F a; intro a F
    refine s_ldaL F rfl rfl rfl rfl ag_28_V4 rfl rfl (cells_whole M.h1) ?_; clear F a; intro a F
    refine s_cqL F M rfl rfl rfl rfl rfl (rfl : _ = some [_, _]) cb_32_V4 (fun nd_ => c32v _ _ (by exact M.h0)) (fun _ w _ M => (by (refine pend_take (by exact cells_whole M.h1) ?_); exact pend_none)) ?_; (clear F a M; try clear w); rintro v w rfl M a F
    refine s_cqL F M rfl rfl rfl rfl rfl (rfl : _ = some [_, _]) cb_33_V4 (fun nd_ => c33 n t _ _ _ (by omega) (by omega) _ (by exact SlOk.rd M.h2)) (fun _ w _ M => (by (refine pend_skip rfl ?_); exact pend_none)) ?_; (clear F a M; try clear w); rintro v w rfl M a F
    refine s_bin F rfl rfl rfl rfl rfl rfl rfl ?_; clear F a; intro a F
    refine s_I F rfl rfl rfl rfl rfl rfl ?_; clear F a; intro a F
    refine bsplit F 144 rfl ?_ ?_
    ·
      clear F; intro hc14 F
      try rw [hc14] at F
      replace hc14 := of_decide_eq_true hc14
      refine s_cqL F M rfl rfl rfl rfl rfl (rfl : _ = some []) cb_21_V4 (fun nd_ => c21 _) (fun _ w _ M => (by (refine pend_skip rfl ?_); exact pend_none)) ?_; (clear F a M; try clear w); rintro v w rfl M a F
      refine s_I F rfl rfl rfl rfl rfl rfl ?_; clear F a; intro a F
      refine s_I F rfl rfl rfl rfl rfl rfl ?_; clear F a; intro a F
      refine t_endM M ?_; (clear M; try clear w); intro w M
      refine wp_ret ?_
      refine ret1 F rfl rfl ?_
      -- end 0
      exact ⟨_, rfl, rfl, M.chg⟩
    ·
      clear F; intro hc15 F
      try rw [hc15] at F
      replace hc15 := of_decide_eq_false hc15
      exact absurd rfl hc15

theorem put_idem {n : Int} {L : List Wrd} {w : Wrd} : putV n (putV n L w) w = putV n L w := put_no put_again
theorem most_keep {n t : Int} {L : List Wrd} (W : VoteM.Wf n t L) {w : Wrd} {k r : Int} (h : (mostV n t L k r).isSome = true) : mostV n t (putV n L w) k r = mostV n t L k r := by
  cases hm : mostV n t L k r with
  | none => rw [hm] at h; cases h
  | some v => exact most_stays W hm
theorem most_ge {n t : Int} {L : List Wrd} {k r : Int} (h : (mostV n t L k r).isSome = true) : quorum n t ≤ cntV L k r ((mostV n t L k r).getD empty) := by
  cases hm : mostV n t L k r with
  | none => rw [hm] at h; cases h
  | some v => exact (most_some hm).1
theorem most_lt {n t : Int} {L : List Wrd} (W : VoteM.Wf n t L) {k r : Int} (h : (mostV n t L k r).isSome = false) (v : ByteArray) : cntV L k r v < quorum n t := most_none W (by simpa using h) v

set_option maxRecDepth 100000 in
set_option maxHeartbeats 400000 in
theorem law4a (n t : Int) (l : List Wrd) (v : Value) (w0 : World) (hr : RdSl w0.heap v l.length 5 (l.flatMap encW)) (h : ¬ few l) : Cl Try.prog 4 #[.int .i64 n, .int .i64 t, v] w0 (RetQ w0 fun v => v = .bool true) := by
  have M : Sep (fun _ => False) w0 w0 _ := Sep.nil _ w0
  have hro := (ro_of hr)
  obtain ⟨A, cc, rfl, hcc⟩ := hr.form
  refine enter (vs := [_, _, _]) Try.func4 rfl rfl rfl ?_
  intro a F
  refine wp_seq ?_
  refine wp_region_l [.ind] ([0]) rfl ?_
  refine s_I F rfl rfl rfl rfl rfl rfl ?_; clear F a; intro a F
  refine t_endM M ?_; (clear M; try clear w); intro w M
  refine wp_seq ?_
  refine wp_seq ?_
  refine wp_region_l [.ind, .wr, .ind, .ind, .ind, .ind, .wr, .ind, .ind] ([0, 1, 2, 3, 4, 5, 6, 7, 8]) rfl ?_
  refine s_I F rfl rfl rfl rfl rfl rfl ?_; clear F a; intro a F
  refine s_cq F M rfl rfl rfl rfl rfl (rfl : _ = some [_]) cb_20_V4 (fun nd_ => c20n _ h (M.chg.ro hro)) ?_; (clear F a M; try clear w); rintro v w rfl M a F
  refine s_I F rfl rfl rfl rfl rfl rfl ?_; clear F a; intro a F
  replace F : Fr _ _ ((15, Value.bool true) :: _) := F
  refine s_I F rfl rfl rfl rfl rfl rfl ?_; clear F a; intro a F
  refine s_no F rfl rfl rfl rfl ?_; clear F a; intro a F
  refine s_no F rfl rfl rfl rfl ?_; clear F a; intro a F
  refine s_no F rfl rfl rfl rfl ?_; clear F a; intro a F
  refine s_no F rfl rfl rfl rfl ?_; clear F a; intro a F
  refine s_I F rfl rfl rfl rfl rfl rfl ?_; clear F a; intro a F
  refine t_endM M ?_; (clear M; try clear w); intro w M
  refine c_t F rfl ?_
  refine wp_seq ?_
  replace F := F.keep [0, 1, 2, 6] rfl
  refine wp_region_l [.wr, .ind] ([0, 1]) rfl ?_
  refine s_cq F M rfl rfl rfl rfl rfl (rfl : _ = some []) cb_21_V4 (fun nd_ => c21 _) ?_; (clear F a M; try clear w); rintro v w rfl M a F
  refine s_I F rfl rfl rfl rfl rfl rfl ?_; clear F a; intro a F
  refine t_endM M ?_; (clear M; try clear w); intro w M
  refine wp_ret ?_
  refine ret1 F rfl rfl ?_
  -- end 0
  exact ⟨_, rfl, rfl, M.chg⟩
set_option maxRecDepth 100000 in
set_option maxHeartbeats 400000 in
theorem law4b (n t : Int) (l : List Wrd) (v : Value) (w0 : World) (hr : RdSl w0.heap v l.length 5 (l.flatMap encW)) (h : few l) (hq : quorum n t = 0) : Cl Try.prog 4 #[.int .i64 n, .int .i64 t, v] w0 (RetQ w0 fun v => v = .bool true) := by
  have M : Sep (fun _ => False) w0 w0 _ := Sep.nil _ w0
  have hro := (ro_of hr)
  obtain ⟨A, cc, rfl, hcc⟩ := hr.form
  refine enter (vs := [_, _, _]) Try.func4 rfl rfl rfl ?_
  intro a F
  refine wp_seq ?_
  refine wp_region_l [.ind] ([0]) rfl ?_
  refine s_I F rfl rfl rfl rfl rfl rfl ?_; clear F a; intro a F
  refine t_endM M ?_; (clear M; try clear w); intro w M
  refine wp_seq ?_
  refine wp_seq ?_
  refine wp_region_l [.ind, .wr, .ind, .ind, .ind, .ind, .wr, .ind, .ind] ([0, 1, 2, 3, 4, 5, 6, 7, 8]) rfl ?_
  refine s_I F rfl rfl rfl rfl rfl rfl ?_; clear F a; intro a F
  refine s_cq F M rfl rfl rfl rfl rfl (rfl : _ = some [_]) cb_20_V4 (fun nd_ => c20y _ h (M.chg.ro hro)) ?_; (clear F a M; try clear w); rintro v w rfl M a F
  refine s_I F rfl rfl rfl rfl rfl rfl ?_; clear F a; intro a F
  replace F : Fr _ _ ((15, Value.bool false) :: _) := F
  refine s_I F rfl rfl rfl rfl rfl rfl ?_; clear F a; intro a F
  refine s_I F rfl rfl rfl rfl rfl rfl ?_; clear F a; intro a F
  refine s_I F rfl rfl rfl rfl rfl rfl ?_; clear F a; intro a F
  refine s_cq F M rfl rfl rfl rfl rfl (rfl : _ = some [_, _]) cb_34_V4 (fun nd_ => c34 _ _ _) ?_; (clear F a M; try clear w); rintro v w rfl M a F
  refine s_bin F rfl rfl rfl rfl rfl rfl rfl ?_; clear F a; intro a F
  refine s_I F rfl rfl rfl rfl rfl rfl ?_; clear F a; intro a F
  refine t_endM M ?_; (clear M; try clear w); intro w M
  refine c_if F rfl ?_ ?_
  ·
    clear F; intro hc0 F
    try rw [hc0] at F
    replace hc0 := of_decide_eq_true hc0
    refine wp_seq ?_
    replace F := F.keep [0, 1, 2, 6] rfl
    refine wp_region_l [.wr, .ind] ([0, 1]) rfl ?_
    refine s_cq F M rfl rfl rfl rfl rfl (rfl : _ = some []) cb_21_V4 (fun nd_ => c21 _) ?_; (clear F a M; try clear w); rintro v w rfl M a F
    refine s_I F rfl rfl rfl rfl rfl rfl ?_; clear F a; intro a F
    refine t_endM M ?_; (clear M; try clear w); intro w M
    refine wp_ret ?_
    refine ret1 F rfl rfl ?_
    -- end 0
    exact ⟨_, rfl, rfl, M.chg⟩
  ·
    clear F; intro hc1 F
    try rw [hc1] at F
    replace hc1 := of_decide_eq_false hc1
    exact absurd hq hc1
set_option maxRecDepth 100000 in
set_option maxHeartbeats 400000 in
theorem law5a (n t : Int) (l : List Wrd) (v : Value) (w0 : World) (hr : RdSl w0.heap v l.length 5 (l.flatMap encW)) (h : ¬ few l) : Cl Try.prog 5 #[.int .i64 n, .int .i64 t, v] w0 (RetQ w0 fun v => v = .bool true) := by
  have M : Sep (fun _ => False) w0 w0 _ := Sep.nil _ w0
  have hro := (ro_of hr)
  obtain ⟨A, cc, rfl, hcc⟩ := hr.form
  refine enter (vs := [_, _, _]) Try.func5 rfl rfl rfl ?_
  intro a F
  refine wp_seq ?_
  refine wp_region_l [.ind] ([0]) rfl ?_
  refine s_I F rfl rfl rfl rfl rfl rfl ?_; clear F a; intro a F
  refine t_endM M ?_; (clear M; try clear w); intro w M
  refine wp_seq ?_
  refine wp_seq ?_
  refine wp_region_l [.ind, .wr, .ind, .ind, .ind, .ind, .wr, .ind, .ind] ([0, 1, 2, 3, 4, 5, 6, 7, 8]) rfl ?_
  refine s_I F rfl rfl rfl rfl rfl rfl ?_; clear F a; intro a F
  refine s_cq F M rfl rfl rfl rfl rfl (rfl : _ = some [_]) cb_20_V4 (fun nd_ => c20n _ h (M.chg.ro hro)) ?_; (clear F a M; try clear w); rintro v w rfl M a F
  refine s_I F rfl rfl rfl rfl rfl rfl ?_; clear F a; intro a F
  replace F : Fr _ _ ((16, Value.bool true) :: _) := F
  refine s_I F rfl rfl rfl rfl rfl rfl ?_; clear F a; intro a F
  refine s_no F rfl rfl rfl rfl ?_; clear F a; intro a F
  refine s_no F rfl rfl rfl rfl ?_; clear F a; intro a F
  refine s_no F rfl rfl rfl rfl ?_; clear F a; intro a F
  refine s_no F rfl rfl rfl rfl ?_; clear F a; intro a F
  refine s_I F rfl rfl rfl rfl rfl rfl ?_; clear F a; intro a F
  refine t_endM M ?_; (clear M; try clear w); intro w M
  refine c_t F rfl ?_
  refine wp_seq ?_
  replace F := F.keep [0, 1, 2, 6] rfl
  refine wp_region_l [.wr, .ind] ([0, 1]) rfl ?_
  refine s_cq F M rfl rfl rfl rfl rfl (rfl : _ = some []) cb_21_V4 (fun nd_ => c21 _) ?_; (clear F a M; try clear w); rintro v w rfl M a F
  refine s_I F rfl rfl rfl rfl rfl rfl ?_; clear F a; intro a F
  refine t_endM M ?_; (clear M; try clear w); intro w M
  refine wp_ret ?_
  refine ret1 F rfl rfl ?_
  -- end 0
  exact ⟨_, rfl, rfl, M.chg⟩
set_option maxRecDepth 100000 in
set_option maxHeartbeats 400000 in
theorem law5b (n t : Int) (l : List Wrd) (v : Value) (w0 : World) (hr : RdSl w0.heap v l.length 5 (l.flatMap encW)) (h : few l) (hq : quorum n t = 0) : Cl Try.prog 5 #[.int .i64 n, .int .i64 t, v] w0 (RetQ w0 fun v => v = .bool true) := by
  have M : Sep (fun _ => False) w0 w0 _ := Sep.nil _ w0
  have hro := (ro_of hr)
  obtain ⟨A, cc, rfl, hcc⟩ := hr.form
  refine enter (vs := [_, _, _]) Try.func5 rfl rfl rfl ?_
  intro a F
  refine wp_seq ?_
  refine wp_region_l [.ind] ([0]) rfl ?_
  refine s_I F rfl rfl rfl rfl rfl rfl ?_; clear F a; intro a F
  refine t_endM M ?_; (clear M; try clear w); intro w M
  refine wp_seq ?_
  refine wp_seq ?_
  refine wp_region_l [.ind, .wr, .ind, .ind, .ind, .ind, .wr, .ind, .ind] ([0, 1, 2, 3, 4, 5, 6, 7, 8]) rfl ?_
  refine s_I F rfl rfl rfl rfl rfl rfl ?_; clear F a; intro a F
  refine s_cq F M rfl rfl rfl rfl rfl (rfl : _ = some [_]) cb_20_V4 (fun nd_ => c20y _ h (M.chg.ro hro)) ?_; (clear F a M; try clear w); rintro v w rfl M a F
  refine s_I F rfl rfl rfl rfl rfl rfl ?_; clear F a; intro a F
  replace F : Fr _ _ ((16, Value.bool false) :: _) := F
  refine s_I F rfl rfl rfl rfl rfl rfl ?_; clear F a; intro a F
  refine s_I F rfl rfl rfl rfl rfl rfl ?_; clear F a; intro a F
  refine s_I F rfl rfl rfl rfl rfl rfl ?_; clear F a; intro a F
  refine s_cq F M rfl rfl rfl rfl rfl (rfl : _ = some [_, _]) cb_34_V4 (fun nd_ => c34 _ _ _) ?_; (clear F a M; try clear w); rintro v w rfl M a F
  refine s_bin F rfl rfl rfl rfl rfl rfl rfl ?_; clear F a; intro a F
  refine s_I F rfl rfl rfl rfl rfl rfl ?_; clear F a; intro a F
  refine t_endM M ?_; (clear M; try clear w); intro w M
  refine c_if F rfl ?_ ?_
  ·
    clear F; intro hc0 F
    try rw [hc0] at F
    replace hc0 := of_decide_eq_true hc0
    refine wp_seq ?_
    replace F := F.keep [0, 1, 2, 6] rfl
    refine wp_region_l [.wr, .ind] ([0, 1]) rfl ?_
    refine s_cq F M rfl rfl rfl rfl rfl (rfl : _ = some []) cb_21_V4 (fun nd_ => c21 _) ?_; (clear F a M; try clear w); rintro v w rfl M a F
    refine s_I F rfl rfl rfl rfl rfl rfl ?_; clear F a; intro a F
    refine t_endM M ?_; (clear M; try clear w); intro w M
    refine wp_ret ?_
    refine ret1 F rfl rfl ?_
    -- end 0
    exact ⟨_, rfl, rfl, M.chg⟩
  ·
    clear F; intro hc1 F
    try rw [hc1] at F
    replace hc1 := of_decide_eq_false hc1
    exact absurd hq hc1
set_option maxRecDepth 100000 in
set_option maxHeartbeats 4000000 in
theorem law4c (n t : Int) (l : List Wrd) (v : Value) (w0 : World) (hr : RdSl w0.heap v l.length 5 (l.flatMap encW)) (h : few l) (hq : quorum n t ≠ 0) : Cl Try.prog 4 #[.int .i64 n, .int .i64 t, v] w0 (RetQ w0 fun v => v = .bool true) := by
  have M : Sep (fun _ => False) w0 w0 _ := Sep.nil _ w0
  have hro := (ro_of hr)
  obtain ⟨A, cc, rfl, hcc⟩ := hr.form
  have hl60 := h.1
  refine enter (vs := [_, _, _]) Try.func4 rfl rfl rfl ?_
  intro a F
  refine wp_seq ?_
  refine wp_region_l [.ind] ([0]) rfl ?_
  refine s_I F rfl rfl rfl rfl rfl rfl ?_; clear F a; intro a F
  refine t_endM M ?_; (clear M; try clear w); intro w M
  refine wp_seq ?_
  refine wp_seq ?_
  refine wp_region_l [.ind, .wr, .ind, .ind, .ind, .ind, .wr, .ind, .ind] ([0, 1, 2, 3, 4, 5, 6, 7, 8]) rfl ?_
  refine s_I F rfl rfl rfl rfl rfl rfl ?_; clear F a; intro a F
  refine s_cq F M rfl rfl rfl rfl rfl (rfl : _ = some [_]) cb_20_V4 (fun nd_ => c20y _ h (M.chg.ro hro)) ?_; (clear F a M; try clear w); rintro v w rfl M a F
  refine s_I F rfl rfl rfl rfl rfl rfl ?_; clear F a; intro a F
  replace F : Fr _ _ ((15, Value.bool false) :: _) := F
  refine s_I F rfl rfl rfl rfl rfl rfl ?_; clear F a; intro a F
  refine s_I F rfl rfl rfl rfl rfl rfl ?_; clear F a; intro a F
  refine s_I F rfl rfl rfl rfl rfl rfl ?_; clear F a; intro a F
  refine s_cq F M rfl rfl rfl rfl rfl (rfl : _ = some [_, _]) cb_34_V4 (fun nd_ => c34 _ _ _) ?_; (clear F a M; try clear w); rintro v w rfl M a F
  refine s_bin F rfl rfl rfl rfl rfl rfl rfl ?_; clear F a; intro a F
  refine s_I F rfl rfl rfl rfl rfl rfl ?_; clear F a; intro a F
  refine t_endM M ?_; (clear M; try clear w); intro w M
  refine c_if F rfl ?_ ?_
  ·
    clear F; intro hc0 F
    try rw [hc0] at F
    replace hc0 := of_decide_eq_true hc0
    exact absurd hc0 hq
  ·
    clear F; intro hc1 F
    try rw [hc1] at F
    replace hc1 := of_decide_eq_false hc1
    refine wp_skip ?_
    refine wp_seq ?_
    replace F := F.keep [0, 1, 2, 6] rfl
    refine wp_region_l [.ind, .ind, .wr, .ind] ([0, 1, 2, 3]) rfl ?_
    refine s_I F rfl rfl rfl rfl rfl rfl ?_; clear F a; intro a F
    refine s_I F rfl rfl rfl rfl rfl rfl ?_; clear F a; intro a F
    refine s_call (m := []) F M rfl rfl rfl rfl rfl (rfl : _ = some [_, _]) cb_22_V4 (fun nd_ => c22v hq _) ?_; (clear F a M; try clear w); rintro v b w rfl M a F; (try simp only [List.cons_append, List.nil_append] at M)
    refine s_I F rfl rfl rfl rfl rfl rfl ?_; clear F a; intro a F
    refine t_endM M ?_; (clear M; try clear w); intro w M
    refine wp_seq ?_
    refine wp_seq ?_
    replace F := F.keep [0, 1, 2, 6, 7] rfl
    refine wp_region_l [.ind] ([0]) rfl ?_
    refine s_I F rfl rfl rfl rfl rfl rfl ?_; clear F a; intro a F
    refine t_endM M ?_; (clear M; try clear w); intro w M
    refine wp_block ?_
    have M1 : Sep _ _ _ (votR b _ _ _ _ :: _) := M; replace M := M1; clear M1
    refine loopX (X := (Int) × (List Wrd) × (Value)) F [0, 1, 2, 7] rfl (fun ((i, L, vv) : (Int) × (List Wrd) × (Value)) => (0 ≤ i) ∧ (i ≤ l.length) ∧ (VoteM.Wf n t L)) (fun ((i, L, vv) : (Int) × (List Wrd) × (Value)) => [(8, .int .i64 i)]) (fun ((i, L, vv) : (Int) × (List Wrd) × (Value)) => [votR b vv n t L]) (fun ((i, L, vv) : (Int) × (List Wrd) × (Value)) => l.length - i.toNat) ((0), ([]), (_)) M ⟨(by omega), (by omega), (.nil hq)⟩ (F.keep [8, 0, 1, 2, 7] rfl) ?_
    clear F M; clear a; (try clear w)
    rintro ⟨i, L, vv⟩ a w ⟨i0, i1, W⟩ F M; try dsimp only at F M
    try simp only [List.cons_append, List.nil_append] at F M
    try dsimp only at i0 i1 W
    have hln := W.len
    have hn7 := W.n7
    refine wp_seq ?_
    refine wp_seq ?_
    refine wp_region_l [.ind, .ind, .ind, .ind] ([0, 1, 2, 3]) rfl ?_
    refine s_I F rfl rfl rfl rfl rfl rfl ?_; clear F a; intro a F
    refine s_I F rfl rfl rfl rfl rfl rfl ?_; clear F a; intro a F
    refine s_len F rfl rfl rfl rfl sl_22_V4 rfl ?_; clear F a; intro a F
    refine s_bin F rfl rfl rfl rfl rfl rfl rfl ?_; clear F a; intro a F
    refine t_endM M ?_; (clear M; try clear w); intro w M
    refine c_if F rfl ?_ ?_
    ·
      clear F; intro hc2 F
      try rw [hc2] at F
      replace hc2 := of_decide_eq_true hc2
      refine wp_skip ?_
      refine wp_seq ?_
      refine wp_block ?_
      refine wp_seq ?_
      replace F := F.keep [0, 1, 2, 7, 8] rfl
      refine wp_region_l [.ind, .ind, .ind, .rd, .wr, .wr] ([0, 1, 2, 3, 4, 5]) rfl ?_
      refine s_I F rfl rfl rfl rfl rfl rfl ?_; clear F a; intro a F
      refine s_I F rfl rfl rfl rfl rfl rfl ?_; clear F a; intro a F
      refine s_ix F rfl rfl rfl rfl sl_22_V4 rfl rfl (by exact M.chg.ro hro) (by omega) (by omega) ?_; clear F a; intro e34 he34 a F
      refine s_lda F rfl rfl rfl rfl ag_32_V4 rfl rfl (rdsX (M.chg.ro hro) (by intro e; rfl) he34) ?_; clear F a; intro a F
      refine s_alc F M rfl rfl rfl rfl zr_32_V4 rfl ?_; (clear F a M; try clear w); intro b9 w M a F
      refine s_stW F M rfl rfl rfl sz_32_V4 rfl rfl rfl rfl rfl ?_; (clear M; try clear w); intro w M
      refine t_endM M ?_; (clear M; try clear w); intro w M
      refine wp_seq ?_
      replace F := F.keep [0, 1, 2, 7, 8, 9] rfl
      refine wp_region_l [.ind, .ind, .rd, .ind, .rd, .wr, .ind] ([0, 1, 2, 3, 4, 5, 6]) rfl ?_
      refine s_I F rfl rfl rfl rfl rfl rfl ?_; clear F a; intro a F
      refine s_fa0 F rfl rfl rfl rfl fa_32_0_V4 rfl ?_; clear F a; intro a F
      refine s_ld F rfl rfl rfl rfl sc_3_V4 rfl (by exact cell_of_blk M.h0 (lit rfl)) ?_; clear F a; intro a F
      refine s_fa0 F rfl rfl rfl rfl fa_32_2_V4 rfl ?_; clear F a; intro a F
      refine s_ld F rfl rfl rfl rfl sc_3_V4 rfl (by exact cell_of_blk M.h0 (lit rfl)) ?_; clear F a; intro a F
      refine s_cq F M rfl rfl rfl rfl rfl (rfl : _ = some [_, _, _]) cb_30_V4 (fun nd_ => c30v _ _ _ (by exact M.h1)) ?_; (clear F a M; try clear w); rintro v w rfl M a F
      refine s_I F rfl rfl rfl rfl rfl rfl ?_; clear F a; intro a F
      refine t_endM M ?_; (clear M; try clear w); intro w M
      refine wp_seq ?_
      replace F := F.keep [0, 1, 2, 7, 8, 9, 10] rfl
      refine wp_region_l [.ind, .rd, .wr, .ind] ([0, 1, 2, 3]) rfl ?_
      refine s_I F rfl rfl rfl rfl rfl rfl ?_; clear F a; intro a F
      refine s_lda F rfl rfl rfl rfl ag_32_V4 rfl rfl (cells_whole M.h0) ?_; clear F a; intro a F
      have M1 : Sep _ _ _ (votR b _ _ _ _ :: _) := M.f1; replace M := M1; clear M1
      refine s_call (m := [_]) F M rfl rfl rfl rfl rfl (rfl : _ = some [_, _]) cb_25_V4 (fun nd_ => c25v (b := b) (n := n) (t := t) (L := L) e34 _ (M.drewN nd_).own.one) ?_; (clear F a M; try clear w); rintro v v5 w rfl M a F; (try simp only [List.cons_append, List.nil_append] at M)
      have W2 := W.put e34
      have hln2 := W2.len
      have hap := any_put (n := n) (L := L) (w := e34)
      have hal := any_le W2 e34.kind e34.round
      have hac := cnt_le_any (putV n L e34) e34.kind e34.round e34.value
      have hal0 := any_le W e34.kind e34.round
      refine s_I F rfl rfl rfl rfl rfl rfl ?_; clear F a; intro a F
      refine t_endM M ?_; (clear M; try clear w); intro w M
      refine wp_seq ?_
      replace F := F.keep [0, 1, 2, 7, 8, 9, 10, 11] rfl
      refine wp_region_l [.ind, .ind, .rd, .ind, .rd, .wr, .ind] ([0, 1, 2, 3, 4, 5, 6]) rfl ?_
      refine s_I F rfl rfl rfl rfl rfl rfl ?_; clear F a; intro a F
      refine s_fa0 F rfl rfl rfl rfl fa_32_0_V4 rfl ?_; clear F a; intro a F
      refine s_ld F rfl rfl rfl rfl sc_3_V4 rfl (by exact cell_of_blk M.h1 (lit rfl)) ?_; clear F a; intro a F
      refine s_fa0 F rfl rfl rfl rfl fa_32_2_V4 rfl ?_; clear F a; intro a F
      refine s_ld F rfl rfl rfl rfl sc_3_V4 rfl (by exact cell_of_blk M.h1 (lit rfl)) ?_; clear F a; intro a F
      refine s_cq F M rfl rfl rfl rfl rfl (rfl : _ = some [_, _, _]) cb_30_V4 (fun nd_ => c30v _ _ _ (by exact M.h0)) ?_; (clear F a M; try clear w); rintro v w rfl M a F
      refine s_I F rfl rfl rfl rfl rfl rfl ?_; clear F a; intro a F
      refine t_endM M ?_; (clear M; try clear w); intro w M
      refine wp_seq ?_
      replace F := F.keep [0, 1, 2, 7, 8, 9, 10, 11, 12] rfl
      refine wp_region_l [.ind, .ind, .ind, .ind, .ind, .ind, .ind, .ind, .ind, .ind, .ind, .ind, .ind, .ind, .ind, .ind, .ind, .ind, .ind, .ind, .ind, .ind, .ind, .ind, .rd, .ind, .rd, .ind, .rd, .wr, .ind, .ind, .ind, .ind, .ind, .rd, .wr, .ind] ([0, 1, 2, 3, 4, 5, 6, 7, 8, 9, 10, 11, 12, 13, 14, 15, 16, 17, 18, 19, 20, 21, 22, 23, 24, 25, 26, 27, 28, 29, 30, 31, 32, 33, 34, 35, 36, 37]) rfl ?_
      refine s_I F rfl rfl rfl rfl rfl rfl ?_; clear F a; intro a F
      refine s_I F rfl rfl rfl rfl rfl rfl ?_; clear F a; intro a F
      refine bsplit F 52 rfl ?_ ?_
      ·
        clear F; intro hc3 F
        try rw [hc3] at F
        skip
        refine s_I F rfl rfl rfl rfl rfl rfl ?_; clear F a; intro a F
        refine s_I F rfl rfl rfl rfl rfl rfl ?_; clear F a; intro a F
        refine s_add F rfl rfl rfl rfl rfl rfl (by unfold In64; omega) ?_; clear F a; intro a F
        refine s_bin F rfl rfl rfl rfl rfl rfl rfl ?_; clear F a; intro a F
        refine s_I F rfl rfl rfl rfl rfl rfl ?_; clear F a; intro a F
        refine s_I F rfl rfl rfl rfl rfl rfl ?_; clear F a; intro a F
        refine bsplit F 58 rfl ?_ ?_
        ·
          clear F; intro hc4 F
          try rw [hc4] at F
          replace hc4 := nd1 hc4
          exfalso
          rw [if_pos (by assumption)] at hap; omega
        ·
          clear F; intro hc5 F
          try rw [hc5] at F
          replace hc5 := nd0 hc5
          refine s_I F rfl rfl rfl rfl rfl rfl ?_; clear F a; intro a F
          refine s_I F rfl rfl rfl rfl rfl rfl ?_; clear F a; intro a F
          refine s_I F rfl rfl rfl rfl rfl rfl ?_; clear F a; intro a F
          refine s_no F rfl rfl rfl rfl ?_; clear F a; intro a F
          refine s_no F rfl rfl rfl rfl ?_; clear F a; intro a F
          refine s_no F rfl rfl rfl rfl ?_; clear F a; intro a F
          refine s_I F rfl rfl rfl rfl rfl rfl ?_; clear F a; intro a F
          refine s_I F rfl rfl rfl rfl rfl rfl ?_; clear F a; intro a F
          refine s_I F rfl rfl rfl rfl rfl rfl ?_; clear F a; intro a F
          refine s_I F rfl rfl rfl rfl rfl rfl ?_; clear F a; intro a F
          refine s_I F rfl rfl rfl rfl rfl rfl ?_; clear F a; intro a F
          refine s_bin F rfl rfl rfl rfl rfl rfl rfl ?_; clear F a; intro a F
          refine s_I F rfl rfl rfl rfl rfl rfl ?_; clear F a; intro a F
          refine s_I F rfl rfl rfl rfl rfl rfl ?_; clear F a; intro a F
          refine bsplit F 72 rfl ?_ ?_
          ·
            clear F; intro hc6 F
            try rw [hc6] at F
            replace hc6 := of_decide_eq_true hc6
            exfalso
            omega
          ·
            clear F; intro hc7 F
            try rw [hc7] at F
            replace hc7 := of_decide_eq_false hc7
            refine s_I F rfl rfl rfl rfl rfl rfl ?_; clear F a; intro a F
            refine s_fa0 F rfl rfl rfl rfl fa_32_0_V4 rfl ?_; clear F a; intro a F
            refine s_ld F rfl rfl rfl rfl sc_3_V4 rfl (by exact cell_of_blk M.h1 (lit rfl)) ?_; clear F a; intro a F
            refine s_fa0 F rfl rfl rfl rfl fa_32_2_V4 rfl ?_; clear F a; intro a F
            refine s_ld F rfl rfl rfl rfl sc_3_V4 rfl (by exact cell_of_blk M.h1 (lit rfl)) ?_; clear F a; intro a F
            refine s_fa0 F rfl rfl rfl rfl fa_32_4_V4 rfl ?_; clear F a; intro a F
            refine s_ld F rfl rfl rfl rfl sc_9_V4 rfl (by exact cell_of_blk M.h1 (lit rfl)) ?_; clear F a; intro a F
            refine s_cq F M rfl rfl rfl rfl rfl (rfl : _ = some [_, _, _, _]) cb_28_V4 (fun nd_ => c28v _ _ _ _ (by exact M.h0)) ?_; (clear F a M; try clear w); rintro v w rfl M a F
            refine s_I F rfl rfl rfl rfl rfl rfl ?_; clear F a; intro a F
            refine s_bin F rfl rfl rfl rfl rfl rfl rfl ?_; clear F a; intro a F
            refine s_I F rfl rfl rfl rfl rfl rfl ?_; clear F a; intro a F
            refine s_I F rfl rfl rfl rfl rfl rfl ?_; clear F a; intro a F
            refine bsplit F 84 rfl ?_ ?_
            ·
              clear F; intro hc8 F
              try rw [hc8] at F
              replace hc8 := of_decide_eq_true hc8
              exfalso
              omega
            ·
              clear F; intro hc9 F
              try rw [hc9] at F
              replace hc9 := of_decide_eq_false hc9
              refine s_I F rfl rfl rfl rfl rfl rfl ?_; clear F a; intro a F
              refine s_lda F rfl rfl rfl rfl ag_32_V4 rfl rfl (cells_whole M.h1) ?_; clear F a; intro a F
              have M1 : Sep _ _ _ (votR b _ _ _ _ :: _) := M; replace M := M1; clear M1
              refine s_call (m := [_]) F M rfl rfl rfl rfl rfl (rfl : _ = some [_, _]) cb_25_V4 (fun nd_ => c25v (b := b) (n := n) (t := t) (L := putV n L e34) e34 _ (M.drewN nd_).own.one) ?_; (clear F a M; try clear w); rintro v v6 w rfl M a F; (try simp only [List.cons_append, List.nil_append] at M)
              rw [put_again] at F
              rw [put_idem] at M
              replace F : Fr _ _ ((87, Value.bool false) :: _) := F
              refine s_I F rfl rfl rfl rfl rfl rfl ?_; clear F a; intro a F
              refine t_endM M ?_; (clear M; try clear w); intro w M
              refine c_f F rfl ?_
              refine wp_skip ?_
              replace F := F.keep [0, 1, 2, 7, 8, 9, 10, 11, 12] rfl
              refine wp_region_l [.ind, .ind, .ind] ([0, 1, 2]) rfl ?_
              refine s_I F rfl rfl rfl rfl rfl rfl ?_; clear F a; intro a F
              refine s_add F rfl rfl rfl rfl rfl rfl (by unfold In64; omega) ?_; clear F a; intro a F
              refine s_I F rfl rfl rfl rfl rfl rfl ?_; clear F a; intro a F
              refine t_endM M ?_; (clear M; try clear w); intro w M
              refine again ((i + 1), (putV n L e34), (v6)) (by show _ < _; (try dsimp only); omega) ⟨(by omega), (by assumption), (W.put _)⟩ (F.keep [8, 0, 1, 2, 7] rfl) ?_
              try dsimp only [List.cons_append, List.nil_append]
              refine M.pick ?_; repeat (first | exact PkG.nil | refine PkG.cons 0 rfl rfl ?_)
      ·
        clear F; intro hc10 F
        try rw [hc10] at F
        skip
        refine s_no F rfl rfl rfl rfl ?_; clear F a; intro a F
        refine s_no F rfl rfl rfl rfl ?_; clear F a; intro a F
        refine s_no F rfl rfl rfl rfl ?_; clear F a; intro a F
        refine s_no F rfl rfl rfl rfl ?_; clear F a; intro a F
        refine s_I F rfl rfl rfl rfl rfl rfl ?_; clear F a; intro a F
        refine s_I F rfl rfl rfl rfl rfl rfl ?_; clear F a; intro a F
        refine s_I F rfl rfl rfl rfl rfl rfl ?_; clear F a; intro a F
        refine s_I F rfl rfl rfl rfl rfl rfl ?_; clear F a; intro a F
        refine s_I F rfl rfl rfl rfl rfl rfl ?_; clear F a; intro a F
        refine s_I F rfl rfl rfl rfl rfl rfl ?_; clear F a; intro a F
        refine s_I F rfl rfl rfl rfl rfl rfl ?_; clear F a; intro a F
        refine s_bin F rfl rfl rfl rfl rfl rfl rfl ?_; clear F a; intro a F
        refine s_I F rfl rfl rfl rfl rfl rfl ?_; clear F a; intro a F
        refine s_I F rfl rfl rfl rfl rfl rfl ?_; clear F a; intro a F
        refine s_I F rfl rfl rfl rfl rfl rfl ?_; clear F a; intro a F
        refine bsplit F 67 rfl ?_ ?_
        ·
          clear F; intro hc11 F
          try rw [hc11] at F
          replace hc11 := nd1 hc11
          exfalso
          rw [if_neg (by simp_all)] at hap; omega
        ·
          clear F; intro hc12 F
          try rw [hc12] at F
          replace hc12 := nd0 hc12
          refine s_I F rfl rfl rfl rfl rfl rfl ?_; clear F a; intro a F
          refine s_I F rfl rfl rfl rfl rfl rfl ?_; clear F a; intro a F
          refine s_bin F rfl rfl rfl rfl rfl rfl rfl ?_; clear F a; intro a F
          refine s_I F rfl rfl rfl rfl rfl rfl ?_; clear F a; intro a F
          refine s_I F rfl rfl rfl rfl rfl rfl ?_; clear F a; intro a F
          refine bsplit F 72 rfl ?_ ?_
          ·
            clear F; intro hc13 F
            try rw [hc13] at F
            replace hc13 := of_decide_eq_true hc13
            exfalso
            omega
          ·
            clear F; intro hc14 F
            try rw [hc14] at F
            replace hc14 := of_decide_eq_false hc14
            refine s_I F rfl rfl rfl rfl rfl rfl ?_; clear F a; intro a F
            refine s_fa0 F rfl rfl rfl rfl fa_32_0_V4 rfl ?_; clear F a; intro a F
            refine s_ld F rfl rfl rfl rfl sc_3_V4 rfl (by exact cell_of_blk M.h1 (lit rfl)) ?_; clear F a; intro a F
            refine s_fa0 F rfl rfl rfl rfl fa_32_2_V4 rfl ?_; clear F a; intro a F
            refine s_ld F rfl rfl rfl rfl sc_3_V4 rfl (by exact cell_of_blk M.h1 (lit rfl)) ?_; clear F a; intro a F
            refine s_fa0 F rfl rfl rfl rfl fa_32_4_V4 rfl ?_; clear F a; intro a F
            refine s_ld F rfl rfl rfl rfl sc_9_V4 rfl (by exact cell_of_blk M.h1 (lit rfl)) ?_; clear F a; intro a F
            refine s_cq F M rfl rfl rfl rfl rfl (rfl : _ = some [_, _, _, _]) cb_28_V4 (fun nd_ => c28v _ _ _ _ (by exact M.h0)) ?_; (clear F a M; try clear w); rintro v w rfl M a F
            refine s_I F rfl rfl rfl rfl rfl rfl ?_; clear F a; intro a F
            refine s_bin F rfl rfl rfl rfl rfl rfl rfl ?_; clear F a; intro a F
            refine s_I F rfl rfl rfl rfl rfl rfl ?_; clear F a; intro a F
            refine s_I F rfl rfl rfl rfl rfl rfl ?_; clear F a; intro a F
            refine bsplit F 84 rfl ?_ ?_
            ·
              clear F; intro hc15 F
              try rw [hc15] at F
              replace hc15 := of_decide_eq_true hc15
              exfalso
              omega
            ·
              clear F; intro hc16 F
              try rw [hc16] at F
              replace hc16 := of_decide_eq_false hc16
              refine s_I F rfl rfl rfl rfl rfl rfl ?_; clear F a; intro a F
              refine s_lda F rfl rfl rfl rfl ag_32_V4 rfl rfl (cells_whole M.h1) ?_; clear F a; intro a F
              have M1 : Sep _ _ _ (votR b _ _ _ _ :: _) := M; replace M := M1; clear M1
              refine s_call (m := [_]) F M rfl rfl rfl rfl rfl (rfl : _ = some [_, _]) cb_25_V4 (fun nd_ => c25v (b := b) (n := n) (t := t) (L := putV n L e34) e34 _ (M.drewN nd_).own.one) ?_; (clear F a M; try clear w); rintro v v6 w rfl M a F; (try simp only [List.cons_append, List.nil_append] at M)
              rw [put_again] at F
              rw [put_idem] at M
              replace F : Fr _ _ ((87, Value.bool false) :: _) := F
              refine s_I F rfl rfl rfl rfl rfl rfl ?_; clear F a; intro a F
              refine t_endM M ?_; (clear M; try clear w); intro w M
              refine c_f F rfl ?_
              refine wp_skip ?_
              replace F := F.keep [0, 1, 2, 7, 8, 9, 10, 11, 12] rfl
              refine wp_region_l [.ind, .ind, .ind] ([0, 1, 2]) rfl ?_
              refine s_I F rfl rfl rfl rfl rfl rfl ?_; clear F a; intro a F
              refine s_add F rfl rfl rfl rfl rfl rfl (by unfold In64; omega) ?_; clear F a; intro a F
              refine s_I F rfl rfl rfl rfl rfl rfl ?_; clear F a; intro a F
              refine t_endM M ?_; (clear M; try clear w); intro w M
              refine again ((i + 1), (putV n L e34), (v6)) (by show _ < _; (try dsimp only); omega) ⟨(by omega), (by assumption), (W.put _)⟩ (F.keep [8, 0, 1, 2, 7] rfl) ?_
              try dsimp only [List.cons_append, List.nil_append]
              refine M.pick ?_; repeat (first | exact PkG.nil | refine PkG.cons 0 rfl rfl ?_)
    ·
      clear F; intro hc17 F
      try rw [hc17] at F
      replace hc17 := of_decide_eq_false hc17
      refine wp_exit ?_
      refine wp_seq ?_
      replace F := F.keep [0, 1, 2, 7, 8] rfl
      refine wp_region_l [.wr, .ind] ([0, 1]) rfl ?_
      refine s_cq F M rfl rfl rfl rfl rfl (rfl : _ = some []) cb_21_V4 (fun nd_ => c21 _) ?_; (clear F a M; try clear w); rintro v w rfl M a F
      refine s_I F rfl rfl rfl rfl rfl rfl ?_; clear F a; intro a F
      refine t_endM M ?_; (clear M; try clear w); intro w M
      refine wp_ret ?_
      refine ret1 F rfl rfl ?_
      -- end 0
      exact ⟨_, rfl, rfl, M.chg⟩
end Go.Proofs.Ytboibdmflblphaa
