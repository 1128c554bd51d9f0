/- D5 of the seat. -/
import Derived.Test.YtmikcmcgfehgfaaD4
namespace Go.Proofs.Ytmikcmcgfehgfaa
open Go Fw
theorem cb_14_D5 : callB Try.prog 14 = true := by kernel_rfl
theorem pt_25_D5 : ptrB Try.prog 25 = true := by kernel_rfl
theorem cb_17_D5 : callB Try.prog 17 = true := by kernel_rfl
theorem cb_18_D5 : callB Try.prog 18 = true := by kernel_rfl
theorem cb_24_D5 : callB Try.prog 24 = true := by kernel_rfl
theorem cb_21_D5 : callB Try.prog 21 = true := by kernel_rfl
theorem bs_40_1_D5 : ∀ (x0 : ByteArray), News Try.prog (Instr.buildSlice 40 1 #[(0, .string x0)]) (.cells #[.string x0] 9) fun b => .slice (some ⟨b, 0, none⟩) 1 1 := by intros; intro w; kernel_rfl
theorem cb_20_D5 : callB Try.prog 20 = true := by kernel_rfl
theorem bs_44_2_D5 : ∀ (x0 : Int) (x1 : Int), News Try.prog (Instr.buildSlice 44 2 #[(0, .int .i64 x0), (1, .int .i64 x1)]) (.cells #[.int .i64 x0, .int .i64 x1] 3) fun b => .slice (some ⟨b, 0, none⟩) 2 2 := by intros; intro w; kernel_rfl
theorem cb_23_D5 : callB Try.prog 23 = true := by kernel_rfl
theorem fa_34_1_D5 : FA Try.prog 34 1 1 := fun _ _ _ => by kernel_rfl
theorem sc_3_D5 : scalB Try.prog 3 = true := by kernel_rfl
theorem fa_34_0_D5 : FA Try.prog 34 0 0 := fun _ _ _ => by kernel_rfl
theorem fa_34_2_D5 : FA Try.prog 34 2 2 := fun _ _ _ => by kernel_rfl
theorem sc_9_D5 : scalB Try.prog 9 = true := by kernel_rfl
theorem sl_40_D5 : slcB Try.prog 40 = some (9, 1) := by kernel_rfl
theorem sl_44_D5 : slcB Try.prog 44 = some (3, 1) := by kernel_rfl
theorem cb_13_D5 : callB Try.prog 13 = true := by kernel_rfl
theorem cb_12_D5 : callB Try.prog 12 = true := by kernel_rfl
theorem cb_15_D5 : callB Try.prog 15 = true := by kernel_rfl
theorem zr_29_D5 : zeroB Try.prog 29 = some (.agg #[.int .i64 0, .slice none 0 0]) := by kernel_rfl
theorem sz_29_D5 : sizeB Try.prog 29 = some 2 := by kernel_rfl
theorem sl_22_D5 : slcB Try.prog 22 = some (34, 3) := by kernel_rfl
theorem ag_29_D5 : aggB Try.prog 29 = some 2 := by kernel_rfl
theorem cb_16_D5 : callB Try.prog 16 = true := by kernel_rfl
theorem bo_4_D5 : boolB Try.prog 4 = true := by kernel_rfl
theorem cb_19_D5 : callB Try.prog 19 = true := by kernel_rfl
theorem cb_22_D5 : callB Try.prog 22 = true := by kernel_rfl
theorem cb_25_D5 : callB Try.prog 25 = true := by kernel_rfl
open FlwM

def aS : ByteArray := { data := #[97] }
def bS : ByteArray := { data := #[98] }
def aL (k : Nat) : List Ans := [⟨1, 0, aS⟩, ⟨2, 0, bS⟩, ⟨3, 0, bS⟩].take k
theorem new1 : new 1 = 1 := by kernel_rfl
theorem ak0 : okA (aL 0) ⟨1, 0, aS⟩ = true := by kernel_rfl
theorem ap0 : put (aL 0) ⟨1, 0, aS⟩ = aL 1 := by kernel_rfl
theorem ak1 : okA (aL 1) ⟨2, 0, bS⟩ = true := by kernel_rfl
theorem ap1 : put (aL 1) ⟨2, 0, bS⟩ = aL 2 := by kernel_rfl
theorem ak2 : okA (aL 2) ⟨3, 0, bS⟩ = true := by kernel_rfl
theorem ap2 : put (aL 2) ⟨3, 0, bS⟩ = aL 3 := by kernel_rfl
theorem ak3 : okA (aL 3) ⟨3, 0, bS⟩ = false := by kernel_rfl
theorem ap3 : put (aL 3) ⟨3, 0, bS⟩ = aL 3 := by kernel_rfl
theorem at2 : told 1 (aL 2) 0 = none := by kernel_rfl
theorem at3 : told 1 (aL 3) 0 = some bS := by kernel_rfl
theorem alog : log (told 1 (aL 3)) = [bS] := by kernel_rfl
theorem aask : FlwM.ask (told 1 (aL 3)) 2 = [1, 2] := by kernel_rfl
theorem c12y {l : List Ans} {v : Value} (w0 : World) (h : few l) (hr : RdSl w0.heap v l.length 3 (l.flatMap encA)) : Cl Try.prog 12 #[v] w0 (RetQ w0 fun r => r = .bool true) := (c12 l v w0 hr).monoQ fun v hv => by rw [hv, decide_eq_true h]
theorem c12n {l : List Ans} {v : Value} (w0 : World) (h : ¬ few l) (hr : RdSl w0.heap v l.length 3 (l.flatMap encA)) : Cl Try.prog 12 #[v] w0 (RetQ w0 fun r => r = .bool false) := (c12 l v w0 hr).monoQ fun v hv => by rw [hv, decide_eq_false h]

set_option maxRecDepth 100000 in
set_option maxHeartbeats 400000 in
theorem c13 (w0 : World) : Cl Try.prog 13 #[] w0 (RetQ w0 fun v => v = .bool true) := by
  have M : Sep (fun _ => False) w0 w0 _ := Sep.nil _ w0
  refine enter (vs := []) Try.func13 rfl rfl rfl ?_
  intro a F
  refine wp_seq ?_
  refine wp_region_l [.ind] ([0]) rfl ?_
  refine s_I F rfl rfl rfl rfl rfl rfl ?_; clear F a; intro a F
  refine t_endM M ?_; (clear M; try clear w); intro w M
  refine wp_seq ?_
  refine wp_region_l [.wr, .ind] ([0, 1]) rfl ?_
  refine s_call (m := []) F M rfl rfl rfl rfl rfl (rfl : _ = some [_]) cb_14_D5 (fun nd_ => c14 1 _) ?_; (clear F a M; try clear w); rintro v b w rfl M a F; (try simp only [List.cons_append, List.nil_append] at M)
  rw [new1] at M
  replace M : Sep _ _ _ (flwR b _ 1 (aL 0) :: _) := M
  refine s_I F rfl rfl rfl rfl rfl rfl ?_; clear F a; intro a F
  refine t_endM M ?_; (clear M; try clear w); intro w M
  refine wp_seq ?_
  refine wp_seq ?_
  replace F := F.keep [0, 1] rfl
  refine wp_region_l [.ind, .ind] ([0, 1]) rfl ?_
  refine s_I F rfl rfl rfl rfl rfl rfl ?_; clear F a; intro a F
  refine s_pn F rfl rfl rfl rfl pt_25_D5 rfl ?_; clear F a; intro a F
  replace F : Fr _ _ ((13, Value.bool false) :: _) := F
  refine t_endM M ?_; (clear M; try clear w); intro w M
  refine c_f F rfl ?_
  refine wp_skip ?_
  refine wp_seq ?_
  replace F := F.keep [0, 1] rfl
  refine wp_region_l [.ind, .wr, .ind, .wr, .ind, .ind] ([0, 1, 2, 3, 4, 5]) rfl ?_
  refine s_I F rfl rfl rfl rfl rfl rfl ?_; clear F a; intro a F
  have M1 : Sep _ _ _ (flwR b _ _ _ :: _) := M; replace M := M1; clear M1
  refine s_call (m := [_]) F M rfl rfl rfl rfl rfl (rfl : _ = some [_, _, _, _]) cb_17_D5 (fun nd_ => c17 b _ 1 (aL 0) ⟨1, 0, aS⟩ _ (M.drewN nd_).own.one) ?_; (clear F a M; try clear w); rintro v mp0 w rfl M a F; (try simp only [List.cons_append, List.nil_append] at M)
  rw [ak0] at F
  rw [ap0] at M
  refine s_I F rfl rfl rfl rfl rfl rfl ?_; clear F a; intro a F
  have M1 : Sep _ _ _ (flwR b _ _ _ :: _) := M; replace M := M1; clear M1
  refine s_call (m := [_]) F M rfl rfl rfl rfl rfl (rfl : _ = some [_, _, _, _]) cb_17_D5 (fun nd_ => c17 b _ 1 (aL 1) ⟨2, 0, bS⟩ _ (M.drewN nd_).own.one) ?_; (clear F a M; try clear w); rintro v mp1 w rfl M a F; (try simp only [List.cons_append, List.nil_append] at M)
  rw [ak1] at F
  rw [ap1] at M
  refine s_I F rfl rfl rfl rfl rfl rfl ?_; clear F a; intro a F
  replace F : Fr _ _ ((2, Value.bool true) :: _) := F
  refine s_I F rfl rfl rfl rfl rfl rfl ?_; clear F a; intro a F
  replace F : Fr _ _ ((3, Value.bool true) :: _) := F
  refine t_endM M ?_; (clear M; try clear w); intro w M
  refine wp_seq ?_
  replace F := F.keep [0, 1, 2, 3] rfl
  refine wp_region_l [.ind, .wr, .ind, .ind, .ind, .ind, .ind] ([0, 1, 2, 3, 4, 5, 6]) rfl ?_
  refine s_I F rfl rfl rfl rfl rfl rfl ?_; clear F a; intro a F
  refine s_cq F M rfl rfl rfl rfl rfl (rfl : _ = some [_, _]) cb_18_D5 (fun nd_ => c18 b _ 1 (aL 2) _ _ (by exact M.h0)) ?_; (clear F a M; try clear w); rintro v w rfl M a F
  rw [at2] at F
  refine s_I F rfl rfl rfl rfl rfl rfl ?_; clear F a; intro a F
  refine s_I F rfl rfl rfl rfl rfl rfl ?_; clear F a; intro a F
  refine s_I F rfl rfl rfl rfl rfl rfl ?_; clear F a; intro a F
  refine s_I F rfl rfl rfl rfl rfl rfl ?_; clear F a; intro a F
  refine s_I F rfl rfl rfl rfl rfl rfl ?_; clear F a; intro a F
  replace F : Fr _ _ ((5, Value.bool false) :: _) := F
  refine t_endM M ?_; (clear M; try clear w); intro w M
  refine wp_seq ?_
  replace F := F.keep [0, 1, 2, 3, 5] rfl
  refine wp_region_l [.ind, .wr, .ind, .wr, .ind, .ind] ([0, 1, 2, 3, 4, 5]) rfl ?_
  refine s_I F rfl rfl rfl rfl rfl rfl ?_; clear F a; intro a F
  have M1 : Sep _ _ _ (flwR b _ _ _ :: _) := M; replace M := M1; clear M1
  refine s_call (m := [_]) F M rfl rfl rfl rfl rfl (rfl : _ = some [_, _, _, _]) cb_17_D5 (fun nd_ => c17 b _ 1 (aL 2) ⟨3, 0, bS⟩ _ (M.drewN nd_).own.one) ?_; (clear F a M; try clear w); rintro v mp2 w rfl M a F; (try simp only [List.cons_append, List.nil_append] at M)
  rw [ak2] at F
  rw [ap2] at M
  refine s_I F rfl rfl rfl rfl rfl rfl ?_; clear F a; intro a F
  have M1 : Sep _ _ _ (flwR b _ _ _ :: _) := M; replace M := M1; clear M1
  refine s_call (m := [_]) F M rfl rfl rfl rfl rfl (rfl : _ = some [_, _, _, _]) cb_17_D5 (fun nd_ => c17 b _ 1 (aL 3) ⟨3, 0, bS⟩ _ (M.drewN nd_).own.one) ?_; (clear F a M; try clear w); rintro v mp3 w rfl M a F; (try simp only [List.cons_append, List.nil_append] at M)
  rw [ak3] at F
  rw [ap3] at M
  refine s_I F rfl rfl rfl rfl rfl rfl ?_; clear F a; intro a F
  replace F : Fr _ _ ((6, Value.bool true) :: _) := F
  refine s_I F rfl rfl rfl rfl rfl rfl ?_; clear F a; intro a F
  replace F : Fr _ _ ((7, Value.bool false) :: _) := F
  refine t_endM M ?_; (clear M; try clear w); intro w M
  refine wp_seq ?_
  replace F := F.keep [0, 1, 2, 3, 5, 6, 7] rfl
  refine wp_region_l [.ind, .wr, .ind, .ind, .ind, .ind, .ind] ([0, 1, 2, 3, 4, 5, 6]) rfl ?_
  refine s_I F rfl rfl rfl rfl rfl rfl ?_; clear F a; intro a F
  refine s_cq F M rfl rfl rfl rfl rfl (rfl : _ = some [_, _]) cb_18_D5 (fun nd_ => c18 b _ 1 (aL 3) _ _ (by exact M.h0)) ?_; (clear F a M; try clear w); rintro v w rfl M a F
  rw [at3] at F
  refine s_I F rfl rfl rfl rfl rfl rfl ?_; clear F a; intro a F
  refine s_I F rfl rfl rfl rfl rfl rfl ?_; clear F a; intro a F
  refine s_I F rfl rfl rfl rfl rfl rfl ?_; clear F a; intro a F
  refine s_I F rfl rfl rfl rfl rfl rfl ?_; clear F a; intro a F
  refine s_I F rfl rfl rfl rfl rfl rfl ?_; clear F a; intro a F
  replace F : Fr _ _ ((9, Value.bool true) :: _) := F
  refine t_endM M ?_; (clear M; try clear w); intro w M
  refine wp_seq ?_
  replace F := F.keep [0, 1, 2, 3, 5, 6, 7, 8, 9] rfl
  refine wp_region_l [.ind, .wr, .ind] ([0, 1, 2]) rfl ?_
  refine s_I F rfl rfl rfl rfl rfl rfl ?_; clear F a; intro a F
  have M1 : Sep _ _ _ (flwR b _ _ _ :: _) := M; replace M := M1; clear M1
  refine s_call (m := [_]) F M rfl rfl rfl rfl rfl (rfl : _ = some [_, _]) cb_24_D5 (fun nd_ => c24 b _ 1 (aL 3) 2 _ (M.drewN nd_).own.one) ?_; (clear F a M; try clear w); rintro v x w rfl M a F; (try simp only [List.cons_append, List.nil_append] at M)
  obtain ⟨Aa, ca, rfl⟩ := SlOk.form M.h1
  refine s_I F rfl rfl rfl rfl rfl rfl ?_; clear F a; intro a F
  refine t_endM M ?_; (clear M; try clear w); intro w M
  refine wp_seq ?_
  replace F := F.keep [0, 1, 2, 3, 5, 6, 7, 8, 9, 10] rfl
  refine wp_region_l [.ind, .ind, .ind, .ind, .ind, .ind, .ind, .ind, .ind, .ind, .ind, .ind, .ind, .ind, .ind, .ind, .ind, .ind, .ind, .ind, .ind, .ind, .ind, .ind, .wr, .wr, .wr, .ind, .ind, .ind, .wr, .wr, .ind, .ind] ([0, 1, 2, 3, 4, 5, 6, 7, 8, 9, 10, 11, 12, 13, 14, 15, 16, 17, 18, 19, 20, 21, 22, 23, 24, 25, 26, 27, 28, 29, 30, 31, 32, 33]) rfl ?_
  refine s_I F rfl rfl rfl rfl rfl rfl ?_; clear F a; intro a F
  refine s_I F rfl rfl rfl rfl rfl rfl ?_; clear F a; intro a F
  refine s_I F rfl rfl rfl rfl rfl rfl ?_; clear F a; intro a F
  refine s_I F rfl rfl rfl rfl rfl rfl ?_; clear F a; intro a F
  refine s_I F rfl rfl rfl rfl rfl rfl ?_; clear F a; intro a F
  refine s_I F rfl rfl rfl rfl rfl rfl ?_; clear F a; intro a F
  refine s_I F rfl rfl rfl rfl rfl rfl ?_; clear F a; intro a F
  refine s_I F rfl rfl rfl rfl rfl rfl ?_; clear F a; intro a F
  refine s_I F rfl rfl rfl rfl rfl rfl ?_; clear F a; intro a F
  refine s_I F rfl rfl rfl rfl rfl rfl ?_; clear F a; intro a F
  refine s_I F rfl rfl rfl rfl rfl rfl ?_; clear F a; intro a F
  refine s_I F rfl rfl rfl rfl rfl rfl ?_; clear F a; intro a F
  refine s_I F rfl rfl rfl rfl rfl rfl ?_; clear F a; intro a F
  refine s_I F rfl rfl rfl rfl rfl rfl ?_; clear F a; intro a F
  refine s_I F rfl rfl rfl rfl rfl rfl ?_; clear F a; intro a F
  refine s_I F rfl rfl rfl rfl rfl rfl ?_; clear F a; intro a F
  refine s_I F rfl rfl rfl rfl rfl rfl ?_; clear F a; intro a F
  refine s_bin F rfl rfl rfl rfl rfl rfl rfl ?_; clear F a; intro a F
  replace F : Fr _ _ ((51, Value.bool true) :: _) := F
  refine s_I F rfl rfl rfl rfl rfl rfl ?_; clear F a; intro a F
  refine s_I F rfl rfl rfl rfl rfl rfl ?_; clear F a; intro a F
  refine s_I F rfl rfl rfl rfl rfl rfl ?_; clear F a; intro a F
  refine s_I F rfl rfl rfl rfl rfl rfl ?_; clear F a; intro a F
  refine s_I F rfl rfl rfl rfl rfl rfl ?_; clear F a; intro a F
  refine s_I F rfl rfl rfl rfl rfl rfl ?_; clear F a; intro a F
  have M1 : Sep _ _ _ (flwR b _ _ _ :: _) := M; replace M := M1; clear M1
  refine s_call (m := [_]) F M rfl rfl rfl rfl rfl (rfl : _ = some [_]) cb_21_D5 (fun nd_ => c21 b _ 1 (aL 3) _ (M.drewN nd_).own.one) ?_; (clear F a M; try clear w); rintro v x w rfl M a F; (try simp only [List.cons_append, List.nil_append] at M)
  obtain ⟨Al, cl, rfl⟩ := SlOk.form M.h1
  refine s_bs F M rfl rfl rfl rfl (parts1 F rfl) (bs_40_1_D5 _) ?_; (clear F a M; try clear w); intro b59 w M a F
  refine s_cq F M rfl rfl rfl rfl rfl (rfl : _ = some [_, _]) cb_20_D5 (fun nd_ => (c20 (log (told 1 (aL 3))) [bS] _ _ _ (by exact SlOk.rd M.h2) (by exact rd_blk M.h0 rfl) (by rw [alog]; decide)).monoQ (fun v hv => hv.trans (by rw [decide_eq_true alog]))) ?_; (clear F a M; try clear w); rintro v w rfl M a F
  replace F : Fr _ _ ((60, Value.bool true) :: _) := F
  refine s_I F rfl rfl rfl rfl rfl rfl ?_; clear F a; intro a F
  refine s_I F rfl rfl rfl rfl rfl rfl ?_; clear F a; intro a F
  refine s_I F rfl rfl rfl rfl rfl rfl ?_; clear F a; intro a F
  refine s_bs F M rfl rfl rfl rfl (parts2 F rfl rfl) (bs_44_2_D5 _ _) ?_; (clear F a M; try clear w); intro b64 w M a F
  refine s_cq F M rfl rfl rfl rfl rfl (rfl : _ = some [_, _]) cb_23_D5 (fun nd_ => (c23 (FlwM.ask (told 1 (aL 3)) 2) [1, 2] _ _ _ (by exact SlOk.rd M.h4) (by exact rd_blk M.h0 rfl) (by rw [aask]; decide)).monoQ (fun v hv => hv.trans (by rw [decide_eq_true aask]))) ?_; (clear F a M; try clear w); rintro v w rfl M a F
  replace F : Fr _ _ ((65, Value.bool true) :: _) := F
  refine s_I F rfl rfl rfl rfl rfl rfl ?_; clear F a; intro a F
  refine s_I F rfl rfl rfl rfl rfl rfl ?_; clear F a; intro a F
  refine t_endM M ?_; (clear M; try clear w); intro w M
  refine wp_ret ?_
  refine ret1 F rfl rfl ?_
  -- end 0
  exact ⟨_, rfl, rfl, M.chg⟩
set_option maxRecDepth 100000 in
set_option maxHeartbeats 400000 in
theorem law6 (q : Ans) (w0 : World) : Cl Try.prog 6 #[.agg #[.int .i64 q.frm, .int .i64 q.height, .string q.value]] w0 (RetQ w0 fun v => v = .bool true) := by
  have M : Sep (fun _ => False) w0 w0 _ := Sep.nil _ w0
  refine enter (vs := [_]) Try.func6 rfl rfl rfl ?_
  intro a F
  refine wp_seq ?_
  refine wp_region_l [.wr, .ind] ([0, 1]) rfl ?_
  refine s_bxA F M rfl rfl rfl rfl rfl ?_; (clear F a M; try clear w); intro b1 w M a F
  refine s_I F rfl rfl rfl rfl rfl rfl ?_; clear F a; intro a F
  refine t_endM M ?_; (clear M; try clear w); intro w M
  refine wp_seq ?_
  refine wp_region_l [.ind] ([0]) rfl ?_
  refine s_I F rfl rfl rfl rfl rfl rfl ?_; clear F a; intro a F
  refine t_endM M ?_; (clear M; try clear w); intro w M
  refine wp_seq ?_
  refine wp_region_l [.ind, .ind, .rd, .wr, .ind, .ind, .ind, .ind, .ind] ([0, 1, 2, 3, 4, 5, 6, 7, 8]) rfl ?_
  refine s_I F rfl rfl rfl rfl rfl rfl ?_; clear F a; intro a F
  refine s_fa0 F rfl rfl rfl rfl fa_34_1_D5 rfl ?_; clear F a; intro a F
  refine s_ld F rfl rfl rfl rfl sc_3_D5 rfl (by exact cell_of_blk M.h0 (lit rfl)) ?_; clear F a; intro a F
  refine s_cq F M rfl rfl rfl rfl rfl (rfl : _ = some [_, _]) cb_18_D5 (fun nd_ => c18n _ _) ?_; (clear F a M; try clear w); rintro v w rfl M a F
  refine s_I F rfl rfl rfl rfl rfl rfl ?_; clear F a; intro a F
  refine s_I F rfl rfl rfl rfl rfl rfl ?_; clear F a; intro a F
  refine s_I F rfl rfl rfl rfl rfl rfl ?_; clear F a; intro a F
  refine s_I F rfl rfl rfl rfl rfl rfl ?_; clear F a; intro a F
  refine s_I F rfl rfl rfl rfl rfl rfl ?_; clear F a; intro a F
  refine t_endM M ?_; (clear M; try clear w); intro w M
  refine wp_seq ?_
  replace F := F.keep [0, 1, 2, 3, 4, 5] rfl
  refine wp_region_l [.ind, .ind, .rd, .ind, .rd, .ind, .rd, .wr, .ind, .ind, .ind, .ind, .ind, .ind, .ind, .ind, .ind, .ind, .ind, .wr, .ind, .ind, .ind, .ind, .ind, .wr, .ind, .ind, .ind, .ind, .wr, .ind, .ind] ([0, 1, 2, 3, 4, 5, 6, 7, 8, 9, 10, 11, 12, 13, 14, 15, 16, 17, 18, 19, 20, 21, 22, 23, 24, 25, 26, 27, 28, 29, 30, 31, 32]) rfl ?_
  refine s_I F rfl rfl rfl rfl rfl rfl ?_; clear F a; intro a F
  refine s_fa0 F rfl rfl rfl rfl fa_34_0_D5 rfl ?_; clear F a; intro a F
  refine s_ld F rfl rfl rfl rfl sc_3_D5 rfl (by exact cell_of_blk M.h0 (lit rfl)) ?_; clear F a; intro a F
  refine s_fa0 F rfl rfl rfl rfl fa_34_1_D5 rfl ?_; clear F a; intro a F
  refine s_ld F rfl rfl rfl rfl sc_3_D5 rfl (by exact cell_of_blk M.h0 (lit rfl)) ?_; clear F a; intro a F
  refine s_fa0 F rfl rfl rfl rfl fa_34_2_D5 rfl ?_; clear F a; intro a F
  refine s_ld F rfl rfl rfl rfl sc_9_D5 rfl (by exact cell_of_blk M.h0 (lit rfl)) ?_; clear F a; intro a F
  refine s_cq F M rfl rfl rfl rfl rfl (rfl : _ = some [_, _, _, _]) cb_17_D5 (fun nd_ => c17n q _) ?_; (clear F a M; try clear w); rintro v w rfl M a F
  refine s_I F rfl rfl rfl rfl rfl rfl ?_; clear F a; intro a F
  replace F : Fr _ _ ((21, Value.bool true) :: _) := F
  refine s_I F rfl rfl rfl rfl rfl rfl ?_; clear F a; intro a F
  refine s_I F rfl rfl rfl rfl rfl rfl ?_; clear F a; intro a F
  refine s_bin F rfl rfl rfl rfl rfl rfl rfl ?_; clear F a; intro a F
  replace F : Fr _ _ ((24, Value.bool true) :: _) := F
  refine s_I F rfl rfl rfl rfl rfl rfl ?_; clear F a; intro a F
  refine s_I F rfl rfl rfl rfl rfl rfl ?_; clear F a; intro a F
  refine s_I F rfl rfl rfl rfl rfl rfl ?_; clear F a; intro a F
  refine s_I F rfl rfl rfl rfl rfl rfl ?_; clear F a; intro a F
  replace F : Fr _ _ ((28, Value.bool true) :: _) := F
  refine s_I F rfl rfl rfl rfl rfl rfl ?_; clear F a; intro a F
  refine s_I F rfl rfl rfl rfl rfl rfl ?_; clear F a; intro a F
  refine s_I F rfl rfl rfl rfl rfl rfl ?_; clear F a; intro a F
  refine s_cq F M rfl rfl rfl rfl rfl (rfl : _ = some [_]) cb_21_D5 (fun nd_ => c21n _) ?_; (clear F a M; try clear w); rintro v w rfl M a F
  refine s_len F rfl rfl rfl rfl sl_40_D5 rfl ?_; clear F a; intro a F
  refine s_bin F rfl rfl rfl rfl rfl rfl rfl ?_; clear F a; intro a F
  replace F : Fr _ _ ((34, Value.bool true) :: _) := F
  refine s_I F rfl rfl rfl rfl rfl rfl ?_; clear F a; intro a F
  refine s_I F rfl rfl rfl rfl rfl rfl ?_; clear F a; intro a F
  refine s_I F rfl rfl rfl rfl rfl rfl ?_; clear F a; intro a F
  refine s_cq F M rfl rfl rfl rfl rfl (rfl : _ = some [_, _]) cb_24_D5 (fun nd_ => c24n _ _) ?_; (clear F a M; try clear w); rintro v w rfl M a F
  refine s_len F rfl rfl rfl rfl sl_44_D5 rfl ?_; clear F a; intro a F
  refine s_bin F rfl rfl rfl rfl rfl rfl rfl ?_; clear F a; intro a F
  replace F : Fr _ _ ((40, Value.bool true) :: _) := F
  refine s_I F rfl rfl rfl rfl rfl rfl ?_; clear F a; intro a F
  refine s_I F rfl rfl rfl rfl rfl rfl ?_; clear F a; intro a F
  refine s_cq F M rfl rfl rfl rfl rfl (rfl : _ = some []) cb_13_D5 (fun nd_ => c13 _) ?_; (clear F a M; try clear w); rintro v w rfl M a F
  refine s_I F rfl rfl rfl rfl rfl rfl ?_; clear F a; intro a F
  refine s_I F rfl rfl rfl rfl rfl rfl ?_; clear F a; intro a F
  refine t_endM M ?_; (clear M; try clear w); intro w M
  refine wp_ret ?_
  refine ret1 F rfl rfl ?_
  -- end 0
  exact ⟨_, rfl, rfl, M.chg⟩
set_option maxRecDepth 100000 in
set_option maxHeartbeats 400000 in
theorem law3a (t : Int) (l : List Ans) (v : Value) (most : Int) (w0 : World) (hr : RdSl w0.heap v l.length 3 (l.flatMap encA)) (h : ¬ few l) : Cl Try.prog 3 #[.int .i64 t, v, .int .i64 most] w0 (RetQ w0 fun v => v = .bool true) := by
  have M : Sep (fun _ => False) w0 w0 _ := Sep.nil _ w0
  have hro := (ro_of hr)
  obtain ⟨A, cc, rfl, hcc⟩ := hr.form
  refine enter (vs := [_, _, _]) Try.func3 rfl rfl rfl ?_
  intro a F
  refine wp_seq ?_
  refine wp_region_l [.ind] ([0]) rfl ?_
  refine s_I F rfl rfl rfl rfl rfl rfl ?_; clear F a; intro a F
  refine t_endM M ?_; (clear M; try clear w); intro w M
  refine wp_seq ?_
  refine wp_seq ?_
  refine wp_region_l [.ind, .wr, .ind] ([0, 1, 2]) rfl ?_
  refine s_I F rfl rfl rfl rfl rfl rfl ?_; clear F a; intro a F
  refine s_cq F M rfl rfl rfl rfl rfl (rfl : _ = some [_]) cb_12_D5 (fun nd_ => c12n _ h (M.chg.ro hro)) ?_; (clear F a M; try clear w); rintro v w rfl M a F
  refine s_I F rfl rfl rfl rfl rfl rfl ?_; clear F a; intro a F
  replace F : Fr _ _ ((18, Value.bool true) :: _) := F
  refine t_endM M ?_; (clear M; try clear w); intro w M
  refine c_t F rfl ?_
  refine wp_seq ?_
  replace F := F.keep [0, 1, 2, 6] rfl
  refine wp_region_l [.wr, .ind] ([0, 1]) rfl ?_
  refine s_cq F M rfl rfl rfl rfl rfl (rfl : _ = some []) cb_13_D5 (fun nd_ => c13 _) ?_; (clear F a M; try clear w); rintro v w rfl M a F
  refine s_I F rfl rfl rfl rfl rfl rfl ?_; clear F a; intro a F
  refine t_endM M ?_; (clear M; try clear w); intro w M
  refine wp_ret ?_
  refine ret1 F rfl rfl ?_
  -- end 0
  exact ⟨_, rfl, rfl, M.chg⟩
set_option maxRecDepth 100000 in
set_option maxHeartbeats 4000000 in
theorem law3b (t : Int) (l : List Ans) (v : Value) (most : Int) (w0 : World) (hr : RdSl w0.heap v l.length 3 (l.flatMap encA)) (h : few l) : Cl Try.prog 3 #[.int .i64 t, v, .int .i64 most] w0 (RetQ w0 fun v => v = .bool true) := by
  have M : Sep (fun _ => False) w0 w0 _ := Sep.nil _ w0
  have hro := (ro_of hr)
  obtain ⟨A, cc, rfl, hcc⟩ := hr.form
  have t0 : 0 ≤ new t := by unfold new; omega
  have hl100 := h.1
  refine enter (vs := [_, _, _]) Try.func3 rfl rfl rfl ?_
  intro a F
  refine wp_seq ?_
  refine wp_region_l [.ind] ([0]) rfl ?_
  refine s_I F rfl rfl rfl rfl rfl rfl ?_; clear F a; intro a F
  refine t_endM M ?_; (clear M; try clear w); intro w M
  refine wp_seq ?_
  refine wp_seq ?_
  refine wp_region_l [.ind, .wr, .ind] ([0, 1, 2]) rfl ?_
  refine s_I F rfl rfl rfl rfl rfl rfl ?_; clear F a; intro a F
  refine s_cq F M rfl rfl rfl rfl rfl (rfl : _ = some [_]) cb_12_D5 (fun nd_ => c12y _ h (M.chg.ro hro)) ?_; (clear F a M; try clear w); rintro v w rfl M a F
  refine s_I F rfl rfl rfl rfl rfl rfl ?_; clear F a; intro a F
  replace F : Fr _ _ ((18, Value.bool false) :: _) := F
  refine t_endM M ?_; (clear M; try clear w); intro w M
  refine c_f F rfl ?_
  refine wp_skip ?_
  refine wp_seq ?_
  replace F := F.keep [0, 1, 2, 6] rfl
  refine wp_region_l [.ind, .wr, .ind, .wr, .wr, .ind, .wr] ([0, 1, 2, 3, 4, 5, 6]) rfl ?_
  refine s_I F rfl rfl rfl rfl rfl rfl ?_; clear F a; intro a F
  refine s_call (m := []) F M rfl rfl rfl rfl rfl (rfl : _ = some [_]) cb_14_D5 (fun nd_ => c14 t _) ?_; (clear F a M; try clear w); rintro v b w rfl M a F; (try simp only [List.cons_append, List.nil_append] at M)
  refine s_I F rfl rfl rfl rfl rfl rfl ?_; clear F a; intro a F
  refine s_cq F M rfl rfl rfl rfl rfl (rfl : _ = some [_]) cb_15_D5 (fun nd_ => c15 t _) ?_; (clear F a M; try clear w); rintro v w rfl M a F
  refine s_alc F M rfl rfl rfl rfl zr_29_D5 rfl ?_; (clear F a M; try clear w); intro b8 w M a F
  refine s_I F rfl rfl rfl rfl rfl rfl ?_; clear F a; intro a F
  refine s_stW F M rfl rfl rfl sz_29_D5 rfl rfl rfl rfl rfl ?_; (clear M; try clear w); intro w M
  refine t_endM M ?_; (clear M; try clear w); intro w M
  refine wp_seq ?_
  refine wp_seq ?_
  replace F := F.keep [0, 1, 2, 6, 7, 8] rfl
  refine wp_region_l [.ind] ([0]) rfl ?_
  refine s_I F rfl rfl rfl rfl rfl rfl ?_; clear F a; intro a F
  refine t_endM M ?_; (clear M; try clear w); intro w M
  refine wp_block ?_
  replace M := M.nilT encA 78 3
  have M1 : Sep _ _ _ (slR _ _ _ _ _ :: _) := M; replace M := M1; clear M1
  have M1 : Sep _ _ _ (blk b8 _ :: _) := M.f1; replace M := M1; clear M1
  have M1 : Sep _ _ _ (flwR _ _ _ _ :: _) := M.f2; replace M := M1; clear M1
  refine loopX (X := (Int) × (List Ans) × (Nat → Option Nat) × (Value)) F [0, 1, 2, 7, 8] rfl (fun ((i, L, mp, v2) : (Int) × (List Ans) × (Nat → Option Nat) × (Value)) => (0 ≤ i) ∧ (i ≤ l.length) ∧ (FlwM.Wf L)) (fun ((i, L, mp, v2) : (Int) × (List Ans) × (Nat → Option Nat) × (Value)) => [(9, .int .i64 i)]) (fun ((i, L, mp, v2) : (Int) × (List Ans) × (Nat → Option Nat) × (Value)) => [flwR b mp (new t) L, blk b8 (.cells #[.int .i64 (new t), v2] 29 (0, 0)), slR v2 L.length 78 3 (L.flatMap encA)]) (fun ((i, L, mp, v2) : (Int) × (List Ans) × (Nat → Option Nat) × (Value)) => l.length - i.toNat) ((0), ([]), (_), (_)) M ⟨(by omega), (by omega), .nil⟩ (F.keep [9, 0, 1, 2, 7, 8] rfl) ?_
  clear F M; clear a; (try clear w)
  rintro ⟨i, L, mp, v2⟩ a w ⟨i0, i1, W⟩ F M; try dsimp only at F M
  try simp only [List.cons_append, List.nil_append] at F M
  try dsimp only at i0 i1 W
  have hln := W.len
  obtain ⟨Av2, cv2, rfl⟩ := SlOk.form M.h2
  refine wp_seq ?_
  refine wp_seq ?_
  refine wp_region_l [.ind, .ind, .ind, .ind] ([0, 1, 2, 3]) rfl ?_
  refine s_I F rfl rfl rfl rfl rfl rfl ?_; clear F a; intro a F
  refine s_I F rfl rfl rfl rfl rfl rfl ?_; clear F a; intro a F
  refine s_len F rfl rfl rfl rfl sl_22_D5 rfl ?_; clear F a; intro a F
  refine s_bin F rfl rfl rfl rfl rfl rfl rfl ?_; clear F a; intro a F
  refine t_endM M ?_; (clear M; try clear w); intro w M
  refine c_if F rfl ?_ ?_
  ·
    clear F; intro hc0 F
    try rw [hc0] at F
    replace hc0 := of_decide_eq_true hc0
    refine wp_skip ?_
    refine wp_seq ?_
    refine wp_block ?_
    refine wp_seq ?_
    replace F := F.keep [0, 1, 2, 7, 8, 9] rfl
    refine wp_region_t [.rd, .ind, .ind, .ind, .ind, .rd, .ind, .ind, .ind, .ind, .rd, .ind, .ind, .ind, .ind, .rd, .wr, .ind, .ind, .ind, .wr, .wr, .ind] [(0, 20), (5, 20), (10, 20), (15, 20)] (.one 0 (.one 1 (.one 2 (.one 3 (.one 4 (.one 5 (.one 6 (.one 7 (.one 8 (.one 9 (.one 10 (.one 11 (.one 12 (.one 13 (.one 14 (.one 15 (.two 16 20 (otOf [20, 17, 18, 19, 21, 22]) (otOf [16, 17, 18, 19, 21, 22])))))))))))))))))) mixed (by kernel_rfl) ?_
    refine s_ldaL F rfl rfl rfl rfl ag_29_D5 rfl rfl (cells_whole M.h1) ?_; clear F a; intro a F
    refine s_I F rfl rfl rfl rfl rfl rfl ?_; clear F a; intro a F
    refine s_I F rfl rfl rfl rfl rfl rfl ?_; clear F a; intro a F
    refine s_ix F rfl rfl rfl rfl sl_22_D5 rfl rfl (by exact M.chg.ro hro) (by omega) (by omega) ?_; clear F a; intro e34 he34 a F
    refine s_fa F rfl rfl rfl rfl fa_34_0_D5 rfl ?_; clear F a; intro a F
    refine s_ldL F rfl rfl rfl rfl sc_3_D5 rfl (by exact rdX (M.chg.ro hro) (by intro e; rfl) he34 rfl) ?_; clear F a; intro a F
    refine s_I F rfl rfl rfl rfl rfl rfl ?_; clear F a; intro a F
    refine s_I F rfl rfl rfl rfl rfl rfl ?_; clear F a; intro a F
    refine s_ix F rfl rfl rfl rfl sl_22_D5 rfl rfl (by exact M.chg.ro hro) (by omega) (by omega) ?_; clear F a; intro e39 he39 a F
    try (obtain rfl := Option.some.inj (he34.symm.trans he39))
    refine s_fa F rfl rfl rfl rfl fa_34_1_D5 rfl ?_; clear F a; intro a F
    refine s_ldL F rfl rfl rfl rfl sc_3_D5 rfl (by exact rdX (M.chg.ro hro) (by intro e; rfl) he39 rfl) ?_; clear F a; intro a F
    refine s_I F rfl rfl rfl rfl rfl rfl ?_; clear F a; intro a F
    refine s_I F rfl rfl rfl rfl rfl rfl ?_; clear F a; intro a F
    refine s_ix F rfl rfl rfl rfl sl_22_D5 rfl rfl (by exact M.chg.ro hro) (by omega) (by omega) ?_; clear F a; intro e44 he44 a F
    try (obtain rfl := Option.some.inj (he34.symm.trans he44))
    try (obtain rfl := Option.some.inj (he39.symm.trans he44))
    refine s_fa F rfl rfl rfl rfl fa_34_2_D5 rfl ?_; clear F a; intro a F
    refine s_ldL F rfl rfl rfl rfl sc_9_D5 rfl (by exact rdX (M.chg.ro hro) (by intro e; rfl) he44 rfl) ?_; clear F a; intro a F
    refine t_two ?_ ?_
    ·
      have M1 : Sep _ _ _ (slR (.slice Av2 _ _) _ _ _ _ :: _) := M.f2; replace M := M1; clear M1
      refine s_callP (m := [_]) F M rfl rfl rfl rfl rfl (rfl : _ = some [_, _, _, _]) cb_16_D5 (fun nd_ => c16 (new t) L _ e34 _ W.len (M.drewN nd_).own.one) (fun _ x w _ M => by (try simp only [List.cons_append, List.nil_append] at M); exact (by (refine pend_skip rfl ?_); (refine pend_skip rfl ?_); (refine pend_skip rfl ?_); (refine pend_skip rfl ?_); exact pend_none)) ?_; (clear F a M; try clear w); rintro v v3 w rfl M a F; (try simp only [List.cons_append, List.nil_append] at M)
      obtain ⟨Av3, cv3, rfl⟩ := SlOk.form M.h0
      refine s_alcL F M rfl rfl rfl rfl zr_29_D5 rfl (fun b w M => (by (refine pend_take (by exact rdX (M.chg.ro hro) (by intro e; rfl) he44 rfl) ?_); (refine pend_take (by exact rdX (M.chg.ro hro) (by intro e; rfl) he39 rfl) ?_); (refine pend_take (by exact rdX (M.chg.ro hro) (by intro e; rfl) he34 rfl) ?_); (refine pend_take (by exact cells_whole M.h3) ?_); exact pend_none)) ?_; (clear F a M; try clear w); intro b10 w M a F
      refine s_I F rfl rfl rfl rfl rfl rfl ?_; clear F a; intro a F
      refine s_I F rfl rfl rfl rfl rfl rfl ?_; clear F a; intro a F
      refine s_I F rfl rfl rfl rfl rfl rfl ?_; clear F a; intro a F
      refine s_stWL F M rfl rfl rfl sz_29_D5 rfl rfl rfl rfl rfl (fun w M => (by (refine pend_skip rfl ?_); (refine pend_skip rfl ?_); (refine pend_skip rfl ?_); (refine pend_skip rfl ?_); exact pend_none)) ?_; (clear M; try clear w); intro w M
      refine s_I F rfl rfl rfl rfl rfl rfl ?_; clear F a; intro a F
      refine t_endM M ?_; (clear M; try clear w); intro w M
      refine wp_seq ?_
      replace F := F.keep [0, 1, 2, 7, 8, 9, 10, 11] rfl
      refine wp_region_l [.rd, .wr] ([0, 1]) rfl ?_
      refine s_lda F rfl rfl rfl rfl ag_29_D5 rfl rfl (cells_whole M.h0) ?_; clear F a; intro a F
      refine s_stW F M.f3 rfl rfl rfl sz_29_D5 rfl rfl rfl rfl rfl ?_; (clear M; try clear w); intro w M
      refine t_endM M ?_; (clear M; try clear w); intro w M
      refine wp_seq ?_
      refine wp_seq ?_
      replace F := F.keep [0, 1, 2, 7, 8, 9, 10, 11] rfl
      refine wp_region_t [.ind, .ind, .ind, .ind, .ind, .rd, .ind, .ind, .ind, .ind, .rd, .ind, .ind, .ind, .ind, .rd, .wr, .ind, .ind] [] (otOf [0, 1, 2, 3, 4, 5, 6, 7, 8, 9, 10, 11, 12, 13, 14, 15, 16, 17, 18]) mixed (by kernel_rfl) ?_
      refine s_I F rfl rfl rfl rfl rfl rfl ?_; clear F a; intro a F
      refine s_I F rfl rfl rfl rfl rfl rfl ?_; clear F a; intro a F
      refine s_I F rfl rfl rfl rfl rfl rfl ?_; clear F a; intro a F
      refine s_ix F rfl rfl rfl rfl sl_22_D5 rfl rfl (by exact M.chg.ro hro) (by omega) (by omega) ?_; clear F a; intro e54 he54 a F
      try (obtain rfl := Option.some.inj (he34.symm.trans he54))
      try (obtain rfl := Option.some.inj (he39.symm.trans he54))
      try (obtain rfl := Option.some.inj (he44.symm.trans he54))
      refine s_fa F rfl rfl rfl rfl fa_34_0_D5 rfl ?_; clear F a; intro a F
      refine s_ld F rfl rfl rfl rfl sc_3_D5 rfl (by exact rdX (M.chg.ro hro) (by intro e; rfl) he54 rfl) ?_; clear F a; intro a F
      refine s_I F rfl rfl rfl rfl rfl rfl ?_; clear F a; intro a F
      refine s_I F rfl rfl rfl rfl rfl rfl ?_; clear F a; intro a F
      refine s_ix F rfl rfl rfl rfl sl_22_D5 rfl rfl (by exact M.chg.ro hro) (by omega) (by omega) ?_; clear F a; intro e59 he59 a F
      try (obtain rfl := Option.some.inj (he34.symm.trans he59))
      try (obtain rfl := Option.some.inj (he39.symm.trans he59))
      try (obtain rfl := Option.some.inj (he44.symm.trans he59))
      try (obtain rfl := Option.some.inj (he54.symm.trans he59))
      refine s_fa F rfl rfl rfl rfl fa_34_1_D5 rfl ?_; clear F a; intro a F
      refine s_ld F rfl rfl rfl rfl sc_3_D5 rfl (by exact rdX (M.chg.ro hro) (by intro e; rfl) he59 rfl) ?_; clear F a; intro a F
      refine s_I F rfl rfl rfl rfl rfl rfl ?_; clear F a; intro a F
      refine s_I F rfl rfl rfl rfl rfl rfl ?_; clear F a; intro a F
      refine s_ix F rfl rfl rfl rfl sl_22_D5 rfl rfl (by exact M.chg.ro hro) (by omega) (by omega) ?_; clear F a; intro e64 he64 a F
      try (obtain rfl := Option.some.inj (he34.symm.trans he64))
      try (obtain rfl := Option.some.inj (he39.symm.trans he64))
      try (obtain rfl := Option.some.inj (he44.symm.trans he64))
      try (obtain rfl := Option.some.inj (he54.symm.trans he64))
      try (obtain rfl := Option.some.inj (he59.symm.trans he64))
      refine s_fa F rfl rfl rfl rfl fa_34_2_D5 rfl ?_; clear F a; intro a F
      refine s_ld F rfl rfl rfl rfl sc_9_D5 rfl (by exact rdX (M.chg.ro hro) (by intro e; rfl) he64 rfl) ?_; clear F a; intro a F
      have M1 : Sep _ _ _ (flwR _ _ _ _ :: _) := M.f3; replace M := M1; clear M1
      refine s_call (m := [_]) F M rfl rfl rfl rfl rfl (rfl : _ = some [_, _, _, _]) cb_17_D5 (fun nd_ => c17 b _ (new t) L e34 _ (M.drewN nd_).own.one) ?_; (clear F a M; try clear w); rintro v mp2 w rfl M a F; (try simp only [List.cons_append, List.nil_append] at M)
      refine s_I F rfl rfl rfl rfl rfl rfl ?_; clear F a; intro a F
      refine s_bne F rfl rfl rfl rfl bo_4_D5 rfl rfl ?_; clear F a; intro a F
      refine t_endM M ?_; (clear M; try clear w); intro w M
      refine c_if F rfl ?_ ?_
      ·
        clear F; intro hc1 F
        try rw [hc1] at F
        replace hc1 := nd1 hc1
        exact absurd hc1 (by simp)
      ·
        clear F; intro hc2 F
        try rw [hc2] at F
        replace hc2 := nd0 hc2
        refine wp_skip ?_
        refine wp_seq ?_
        replace F := F.keep [0, 1, 2, 7, 8, 9, 10, 11] rfl
        refine wp_region_l [.ind, .ind, .ind, .ind, .ind, .rd, .wr, .ind, .ind, .ind, .ind, .ind] ([0, 1, 2, 3, 4, 5, 6, 7, 8, 9, 10, 11]) rfl ?_
        refine s_I F rfl rfl rfl rfl rfl rfl ?_; clear F a; intro a F
        refine s_I F rfl rfl rfl rfl rfl rfl ?_; clear F a; intro a F
        refine s_I F rfl rfl rfl rfl rfl rfl ?_; clear F a; intro a F
        refine s_ix F rfl rfl rfl rfl sl_22_D5 rfl rfl (by exact M.chg.ro hro) (by omega) (by omega) ?_; clear F a; intro e74 he74 a F
        try (obtain rfl := Option.some.inj (he34.symm.trans he74))
        try (obtain rfl := Option.some.inj (he39.symm.trans he74))
        try (obtain rfl := Option.some.inj (he44.symm.trans he74))
        try (obtain rfl := Option.some.inj (he54.symm.trans he74))
        try (obtain rfl := Option.some.inj (he59.symm.trans he74))
        try (obtain rfl := Option.some.inj (he64.symm.trans he74))
        refine s_fa F rfl rfl rfl rfl fa_34_1_D5 rfl ?_; clear F a; intro a F
        refine s_ld F rfl rfl rfl rfl sc_3_D5 rfl (by exact rdX (M.chg.ro hro) (by intro e; rfl) he74 rfl) ?_; clear F a; intro a F
        refine s_cq F M rfl rfl rfl rfl rfl (rfl : _ = some [_, _]) cb_18_D5 (fun nd_ => c18 b _ (new t) (put L e34) _ _ (by exact M.h0)) ?_; (clear F a M; try clear w); rintro v w rfl M a F
        refine s_I F rfl rfl rfl rfl rfl rfl ?_; clear F a; intro a F
        refine s_I F rfl rfl rfl rfl rfl rfl ?_; clear F a; intro a F
        refine s_I F rfl rfl rfl rfl rfl rfl ?_; clear F a; intro a F
        refine s_I F rfl rfl rfl rfl rfl rfl ?_; clear F a; intro a F
        refine s_I F rfl rfl rfl rfl rfl rfl ?_; clear F a; intro a F
        refine t_endM M ?_; (clear M; try clear w); intro w M
        refine wp_seq ?_
        replace F := F.keep [0, 1, 2, 7, 8, 9, 10, 11, 12, 13] rfl
        refine wp_region_t [.rd, .ind, .ind, .ind, .ind, .rd, .wr, .ind, .ind, .ind, .ind, .ind] [] (otOf [0, 1, 2, 3, 4, 5, 6, 7, 8, 9, 10, 11]) mixed (by kernel_rfl) ?_
        refine s_lda F rfl rfl rfl rfl ag_29_D5 rfl rfl (cells_whole M.h1) ?_; clear F a; intro a F
        refine s_I F rfl rfl rfl rfl rfl rfl ?_; clear F a; intro a F
        refine s_I F rfl rfl rfl rfl rfl rfl ?_; clear F a; intro a F
        refine s_ix F rfl rfl rfl rfl sl_22_D5 rfl rfl (by exact M.chg.ro hro) (by omega) (by omega) ?_; clear F a; intro e84 he84 a F
        try (obtain rfl := Option.some.inj (he34.symm.trans he84))
        try (obtain rfl := Option.some.inj (he39.symm.trans he84))
        try (obtain rfl := Option.some.inj (he44.symm.trans he84))
        try (obtain rfl := Option.some.inj (he54.symm.trans he84))
        try (obtain rfl := Option.some.inj (he59.symm.trans he84))
        try (obtain rfl := Option.some.inj (he64.symm.trans he84))
        try (obtain rfl := Option.some.inj (he74.symm.trans he84))
        refine s_fa F rfl rfl rfl rfl fa_34_1_D5 rfl ?_; clear F a; intro a F
        refine s_ld F rfl rfl rfl rfl sc_3_D5 rfl (by exact rdX (M.chg.ro hro) (by intro e; rfl) he84 rfl) ?_; clear F a; intro a F
        refine s_cq F M rfl rfl rfl rfl rfl (rfl : _ = some [_, _]) cb_19_D5 (fun nd_ => c19 (new t) (put L e34) _ _ _ (by exact SlOk.rd M.h3) (W.put e34).len t0) ?_; (clear F a M; try clear w); rintro v w rfl M a F
        refine s_I F rfl rfl rfl rfl rfl rfl ?_; clear F a; intro a F
        refine s_I F rfl rfl rfl rfl rfl rfl ?_; clear F a; intro a F
        refine s_I F rfl rfl rfl rfl rfl rfl ?_; clear F a; intro a F
        refine s_I F rfl rfl rfl rfl rfl rfl ?_; clear F a; intro a F
        refine s_I F rfl rfl rfl rfl rfl rfl ?_; clear F a; intro a F
        refine t_endM M ?_; (clear M; try clear w); intro w M
        refine wp_seq ?_
        replace F := F.keep [0, 1, 2, 7, 8, 9, 10, 11, 12, 13, 14, 15] rfl
        refine wp_region_l [.ind, .ind, .ind, .ind, .ind, .ind, .ind, .ind] ([0, 1, 2, 3, 4, 5, 6, 7]) rfl ?_
        refine s_I F rfl rfl rfl rfl rfl rfl ?_; clear F a; intro a F
        refine s_I F rfl rfl rfl rfl rfl rfl ?_; clear F a; intro a F
        refine s_bin F rfl rfl rfl rfl rfl rfl rfl ?_; clear F a; intro a F
        refine s_I F rfl rfl rfl rfl rfl rfl ?_; clear F a; intro a F
        refine bsplit F 93 rfl ?_ ?_
        ·
          clear F; intro hc3 F
          try rw [hc3] at F
          replace hc3 := nd1 hc3
          exact absurd rfl hc3
        ·
          clear F; intro hc4 F
          try rw [hc4] at F
          replace hc4 := nd0 hc4
          refine s_I F rfl rfl rfl rfl rfl rfl ?_; clear F a; intro a F
          refine s_I F rfl rfl rfl rfl rfl rfl ?_; clear F a; intro a F
          refine s_bne F rfl rfl rfl rfl bo_4_D5 rfl rfl ?_; clear F a; intro a F
          refine s_I F rfl rfl rfl rfl rfl rfl ?_; clear F a; intro a F
          refine t_endM M ?_; (clear M; try clear w); intro w M
          refine c_if F rfl ?_ ?_
          ·
            clear F; intro hc5 F
            try rw [hc5] at F
            replace hc5 := nd1 hc5
            exact absurd hc5 (by simp)
          ·
            clear F; intro hc6 F
            try rw [hc6] at F
            replace hc6 := nd0 hc6
            refine wp_skip ?_
            replace F := F.keep [0, 1, 2, 7, 8, 9, 10, 11, 12, 13, 14, 15] rfl
            refine wp_region_l [.ind, .ind, .ind] ([0, 1, 2]) rfl ?_
            refine s_I F rfl rfl rfl rfl rfl rfl ?_; clear F a; intro a F
            refine s_add F rfl rfl rfl rfl rfl rfl (by unfold In64; omega) ?_; clear F a; intro a F
            refine s_I F rfl rfl rfl rfl rfl rfl ?_; clear F a; intro a F
            refine t_endM M ?_; (clear M; try clear w); intro w M
            refine again ((i + 1), (put L e34), (mp2), (.slice Av3 (put L e34).length cv3)) (by show _ < _; (try dsimp only); omega) ⟨(by omega), (by assumption), W.put e34⟩ (F.keep [9, 0, 1, 2, 7, 8] rfl) ?_
            try dsimp only [List.cons_append, List.nil_append]
            refine M.pick ?_; repeat (first | exact PkG.nil | refine PkG.cons 0 rfl rfl ?_ | refine PkG.cons 1 rfl rfl ?_ | refine PkG.cons 3 rfl rfl ?_)
    ·
      refine s_alcL F M rfl rfl rfl rfl zr_29_D5 rfl (fun b w M => (by (refine pend_take (by exact rdX (M.chg.ro hro) (by intro e; rfl) he44 rfl) ?_); (refine pend_take (by exact rdX (M.chg.ro hro) (by intro e; rfl) he39 rfl) ?_); (refine pend_take (by exact rdX (M.chg.ro hro) (by intro e; rfl) he34 rfl) ?_); (refine pend_take (by exact cells_whole M.h2) ?_); exact pend_none)) ?_; (clear F a M; try clear w); intro b10 w M a F
      have M1 : Sep _ _ _ (slR (.slice Av2 _ _) _ _ _ _ :: _) := M.f3; replace M := M1; clear M1
      refine s_callP (m := [_]) F M rfl rfl rfl rfl rfl (rfl : _ = some [_, _, _, _]) cb_16_D5 (fun nd_ => c16 (new t) L _ e34 _ W.len (M.drewN nd_).own.one) (fun _ x w _ M => by (try simp only [List.cons_append, List.nil_append] at M); exact (by (refine pend_skip rfl ?_); (refine pend_skip rfl ?_); (refine pend_skip rfl ?_); (refine pend_skip rfl ?_); exact pend_none)) ?_; (clear F a M; try clear w); rintro v v3 w rfl M a F; (try simp only [List.cons_append, List.nil_append] at M)
      obtain ⟨Av3, cv3, rfl⟩ := SlOk.form M.h0
      refine s_I F rfl rfl rfl rfl rfl rfl ?_; clear F a; intro a F
      refine s_I F rfl rfl rfl rfl rfl rfl ?_; clear F a; intro a F
      refine s_I F rfl rfl rfl rfl rfl rfl ?_; clear F a; intro a F
      refine s_stWL F M.f1 rfl rfl rfl sz_29_D5 rfl rfl rfl rfl rfl (fun w M => (by (refine pend_skip rfl ?_); (refine pend_skip rfl ?_); (refine pend_skip rfl ?_); (refine pend_skip rfl ?_); exact pend_none)) ?_; (clear M; try clear w); intro w M
      refine s_I F rfl rfl rfl rfl rfl rfl ?_; clear F a; intro a F
      refine t_endM M ?_; (clear M; try clear w); intro w M
      refine wp_seq ?_
      replace F := F.keep [0, 1, 2, 7, 8, 9, 10, 11] rfl
      refine wp_region_l [.rd, .wr] ([0, 1]) rfl ?_
      refine s_lda F rfl rfl rfl rfl ag_29_D5 rfl rfl (cells_whole M.h0) ?_; clear F a; intro a F
      refine s_stW F M.f3 rfl rfl rfl sz_29_D5 rfl rfl rfl rfl rfl ?_; (clear M; try clear w); intro w M
      refine t_endM M ?_; (clear M; try clear w); intro w M
      refine wp_seq ?_
      refine wp_seq ?_
      replace F := F.keep [0, 1, 2, 7, 8, 9, 10, 11] rfl
      refine wp_region_t [.ind, .ind, .ind, .ind, .ind, .rd, .ind, .ind, .ind, .ind, .rd, .ind, .ind, .ind, .ind, .rd, .wr, .ind, .ind] [] (otOf [0, 1, 2, 3, 4, 5, 6, 7, 8, 9, 10, 11, 12, 13, 14, 15, 16, 17, 18]) mixed (by kernel_rfl) ?_
      refine s_I F rfl rfl rfl rfl rfl rfl ?_; clear F a; intro a F
      refine s_I F rfl rfl rfl rfl rfl rfl ?_; clear F a; intro a F
      refine s_I F rfl rfl rfl rfl rfl rfl ?_; clear F a; intro a F
      refine s_ix F rfl rfl rfl rfl sl_22_D5 rfl rfl (by exact M.chg.ro hro) (by omega) (by omega) ?_; clear F a; intro e54 he54 a F
      try (obtain rfl := Option.some.inj (he34.symm.trans he54))
      try (obtain rfl := Option.some.inj (he39.symm.trans he54))
      try (obtain rfl := Option.some.inj (he44.symm.trans he54))
      refine s_fa F rfl rfl rfl rfl fa_34_0_D5 rfl ?_; clear F a; intro a F
      refine s_ld F rfl rfl rfl rfl sc_3_D5 rfl (by exact rdX (M.chg.ro hro) (by intro e; rfl) he54 rfl) ?_; clear F a; intro a F
      refine s_I F rfl rfl rfl rfl rfl rfl ?_; clear F a; intro a F
      refine s_I F rfl rfl rfl rfl rfl rfl ?_; clear F a; intro a F
      refine s_ix F rfl rfl rfl rfl sl_22_D5 rfl rfl (by exact M.chg.ro hro) (by omega) (by omega) ?_; clear F a; intro e59 he59 a F
      try (obtain rfl := Option.some.inj (he34.symm.trans he59))
      try (obtain rfl := Option.some.inj (he39.symm.trans he59))
      try (obtain rfl := Option.some.inj (he44.symm.trans he59))
      try (obtain rfl := Option.some.inj (he54.symm.trans he59))
      refine s_fa F rfl rfl rfl rfl fa_34_1_D5 rfl ?_; clear F a; intro a F
      refine s_ld F rfl rfl rfl rfl sc_3_D5 rfl (by exact rdX (M.chg.ro hro) (by intro e; rfl) he59 rfl) ?_; clear F a; intro a F
      refine s_I F rfl rfl rfl rfl rfl rfl ?_; clear F a; intro a F
      refine s_I F rfl rfl rfl rfl rfl rfl ?_; clear F a; intro a F
      refine s_ix F rfl rfl rfl rfl sl_22_D5 rfl rfl (by exact M.chg.ro hro) (by omega) (by omega) ?_; clear F a; intro e64 he64 a F
      try (obtain rfl := Option.some.inj (he34.symm.trans he64))
      try (obtain rfl := Option.some.inj (he39.symm.trans he64))
      try (obtain rfl := Option.some.inj (he44.symm.trans he64))
      try (obtain rfl := Option.some.inj (he54.symm.trans he64))
      try (obtain rfl := Option.some.inj (he59.symm.trans he64))
      refine s_fa F rfl rfl rfl rfl fa_34_2_D5 rfl ?_; clear F a; intro a F
      refine s_ld F rfl rfl rfl rfl sc_9_D5 rfl (by exact rdX (M.chg.ro hro) (by intro e; rfl) he64 rfl) ?_; clear F a; intro a F
      have M1 : Sep _ _ _ (flwR _ _ _ _ :: _) := M.f3; replace M := M1; clear M1
      refine s_call (m := [_]) F M rfl rfl rfl rfl rfl (rfl : _ = some [_, _, _, _]) cb_17_D5 (fun nd_ => c17 b _ (new t) L e34 _ (M.drewN nd_).own.one) ?_; (clear F a M; try clear w); rintro v mp2 w rfl M a F; (try simp only [List.cons_append, List.nil_append] at M)
      refine s_I F rfl rfl rfl rfl rfl rfl ?_; clear F a; intro a F
      refine s_bne F rfl rfl rfl rfl bo_4_D5 rfl rfl ?_; clear F a; intro a F
      refine t_endM M ?_; (clear M; try clear w); intro w M
      refine c_if F rfl ?_ ?_
      ·
        clear F; intro hc7 F
        try rw [hc7] at F
        replace hc7 := nd1 hc7
        exact absurd hc7 (by simp)
      ·
        clear F; intro hc8 F
        try rw [hc8] at F
        replace hc8 := nd0 hc8
        refine wp_skip ?_
        refine wp_seq ?_
        replace F := F.keep [0, 1, 2, 7, 8, 9, 10, 11] rfl
        refine wp_region_l [.ind, .ind, .ind, .ind, .ind, .rd, .wr, .ind, .ind, .ind, .ind, .ind] ([0, 1, 2, 3, 4, 5, 6, 7, 8, 9, 10, 11]) rfl ?_
        refine s_I F rfl rfl rfl rfl rfl rfl ?_; clear F a; intro a F
        refine s_I F rfl rfl rfl rfl rfl rfl ?_; clear F a; intro a F
        refine s_I F rfl rfl rfl rfl rfl rfl ?_; clear F a; intro a F
        refine s_ix F rfl rfl rfl rfl sl_22_D5 rfl rfl (by exact M.chg.ro hro) (by omega) (by omega) ?_; clear F a; intro e74 he74 a F
        try (obtain rfl := Option.some.inj (he34.symm.trans he74))
        try (obtain rfl := Option.some.inj (he39.symm.trans he74))
        try (obtain rfl := Option.some.inj (he44.symm.trans he74))
        try (obtain rfl := Option.some.inj (he54.symm.trans he74))
        try (obtain rfl := Option.some.inj (he59.symm.trans he74))
        try (obtain rfl := Option.some.inj (he64.symm.trans he74))
        refine s_fa F rfl rfl rfl rfl fa_34_1_D5 rfl ?_; clear F a; intro a F
        refine s_ld F rfl rfl rfl rfl sc_3_D5 rfl (by exact rdX (M.chg.ro hro) (by intro e; rfl) he74 rfl) ?_; clear F a; intro a F
        refine s_cq F M rfl rfl rfl rfl rfl (rfl : _ = some [_, _]) cb_18_D5 (fun nd_ => c18 b _ (new t) (put L e34) _ _ (by exact M.h0)) ?_; (clear F a M; try clear w); rintro v w rfl M a F
        refine s_I F rfl rfl rfl rfl rfl rfl ?_; clear F a; intro a F
        refine s_I F rfl rfl rfl rfl rfl rfl ?_; clear F a; intro a F
        refine s_I F rfl rfl rfl rfl rfl rfl ?_; clear F a; intro a F
        refine s_I F rfl rfl rfl rfl rfl rfl ?_; clear F a; intro a F
        refine s_I F rfl rfl rfl rfl rfl rfl ?_; clear F a; intro a F
        refine t_endM M ?_; (clear M; try clear w); intro w M
        refine wp_seq ?_
        replace F := F.keep [0, 1, 2, 7, 8, 9, 10, 11, 12, 13] rfl
        refine wp_region_t [.rd, .ind, .ind, .ind, .ind, .rd, .wr, .ind, .ind, .ind, .ind, .ind] [] (otOf [0, 1, 2, 3, 4, 5, 6, 7, 8, 9, 10, 11]) mixed (by kernel_rfl) ?_
        refine s_lda F rfl rfl rfl rfl ag_29_D5 rfl rfl (cells_whole M.h1) ?_; clear F a; intro a F
        refine s_I F rfl rfl rfl rfl rfl rfl ?_; clear F a; intro a F
        refine s_I F rfl rfl rfl rfl rfl rfl ?_; clear F a; intro a F
        refine s_ix F rfl rfl rfl rfl sl_22_D5 rfl rfl (by exact M.chg.ro hro) (by omega) (by omega) ?_; clear F a; intro e84 he84 a F
        try (obtain rfl := Option.some.inj (he34.symm.trans he84))
        try (obtain rfl := Option.some.inj (he39.symm.trans he84))
        try (obtain rfl := Option.some.inj (he44.symm.trans he84))
        try (obtain rfl := Option.some.inj (he54.symm.trans he84))
        try (obtain rfl := Option.some.inj (he59.symm.trans he84))
        try (obtain rfl := Option.some.inj (he64.symm.trans he84))
        try (obtain rfl := Option.some.inj (he74.symm.trans he84))
        refine s_fa F rfl rfl rfl rfl fa_34_1_D5 rfl ?_; clear F a; intro a F
        refine s_ld F rfl rfl rfl rfl sc_3_D5 rfl (by exact rdX (M.chg.ro hro) (by intro e; rfl) he84 rfl) ?_; clear F a; intro a F
        refine s_cq F M rfl rfl rfl rfl rfl (rfl : _ = some [_, _]) cb_19_D5 (fun nd_ => c19 (new t) (put L e34) _ _ _ (by exact SlOk.rd M.h3) (W.put e34).len t0) ?_; (clear F a M; try clear w); rintro v w rfl M a F
        refine s_I F rfl rfl rfl rfl rfl rfl ?_; clear F a; intro a F
        refine s_I F rfl rfl rfl rfl rfl rfl ?_; clear F a; intro a F
        refine s_I F rfl rfl rfl rfl rfl rfl ?_; clear F a; intro a F
        refine s_I F rfl rfl rfl rfl rfl rfl ?_; clear F a; intro a F
        refine s_I F rfl rfl rfl rfl rfl rfl ?_; clear F a; intro a F
        refine t_endM M ?_; (clear M; try clear w); intro w M
        refine wp_seq ?_
        replace F := F.keep [0, 1, 2, 7, 8, 9, 10, 11, 12, 13, 14, 15] rfl
        refine wp_region_l [.ind, .ind, .ind, .ind, .ind, .ind, .ind, .ind] ([0, 1, 2, 3, 4, 5, 6, 7]) rfl ?_
        refine s_I F rfl rfl rfl rfl rfl rfl ?_; clear F a; intro a F
        refine s_I F rfl rfl rfl rfl rfl rfl ?_; clear F a; intro a F
        refine s_bin F rfl rfl rfl rfl rfl rfl rfl ?_; clear F a; intro a F
        refine s_I F rfl rfl rfl rfl rfl rfl ?_; clear F a; intro a F
        refine bsplit F 93 rfl ?_ ?_
        ·
          clear F; intro hc9 F
          try rw [hc9] at F
          replace hc9 := nd1 hc9
          exact absurd rfl hc9
        ·
          clear F; intro hc10 F
          try rw [hc10] at F
          replace hc10 := nd0 hc10
          refine s_I F rfl rfl rfl rfl rfl rfl ?_; clear F a; intro a F
          refine s_I F rfl rfl rfl rfl rfl rfl ?_; clear F a; intro a F
          refine s_bne F rfl rfl rfl rfl bo_4_D5 rfl rfl ?_; clear F a; intro a F
          refine s_I F rfl rfl rfl rfl rfl rfl ?_; clear F a; intro a F
          refine t_endM M ?_; (clear M; try clear w); intro w M
          refine c_if F rfl ?_ ?_
          ·
            clear F; intro hc11 F
            try rw [hc11] at F
            replace hc11 := nd1 hc11
            exact absurd hc11 (by simp)
          ·
            clear F; intro hc12 F
            try rw [hc12] at F
            replace hc12 := nd0 hc12
            refine wp_skip ?_
            replace F := F.keep [0, 1, 2, 7, 8, 9, 10, 11, 12, 13, 14, 15] rfl
            refine wp_region_l [.ind, .ind, .ind] ([0, 1, 2]) rfl ?_
            refine s_I F rfl rfl rfl rfl rfl rfl ?_; clear F a; intro a F
            refine s_add F rfl rfl rfl rfl rfl rfl (by unfold In64; omega) ?_; clear F a; intro a F
            refine s_I F rfl rfl rfl rfl rfl rfl ?_; clear F a; intro a F
            refine t_endM M ?_; (clear M; try clear w); intro w M
            refine again ((i + 1), (put L e34), (mp2), (.slice Av3 (put L e34).length cv3)) (by show _ < _; (try dsimp only); omega) ⟨(by omega), (by assumption), W.put e34⟩ (F.keep [9, 0, 1, 2, 7, 8] rfl) ?_
            try dsimp only [List.cons_append, List.nil_append]
            refine M.pick ?_; repeat (first | exact PkG.nil | refine PkG.cons 0 rfl rfl ?_ | refine PkG.cons 1 rfl rfl ?_ | refine PkG.cons 3 rfl rfl ?_)
  ·
    clear F; intro hc13 F
    try rw [hc13] at F
    replace hc13 := of_decide_eq_false hc13
    refine wp_exit ?_
    refine wp_seq ?_
    replace F := F.keep [0, 1, 2, 7, 8, 9] rfl
    refine wp_region_t [.ind, .wr, .rd, .wr, .wr, .ind, .ind, .ind, .wr, .rd, .ind, .wr, .wr, .ind, .ind, .wr, .ind, .ind] [(2, 1), (9, 8)] (otOf [0, 2, 1, 3, 4, 5, 6, 7, 9, 10, 8, 11, 12, 13, 14, 15, 16, 17]) mixed (by kernel_rfl) ?_
    refine s_I F rfl rfl rfl rfl rfl rfl ?_; clear F a; intro a F
    refine s_ldaL F rfl rfl rfl rfl ag_29_D5 rfl rfl (cells_whole M.h1) ?_; clear F a; intro a F
    have M1 : Sep _ _ _ (flwR _ _ _ _ :: _) := M; replace M := M1; clear M1
    refine s_callP (m := [_]) F M rfl rfl rfl rfl rfl (rfl : _ = some [_]) cb_21_D5 (fun nd_ => c21 b _ (new t) L _ (M.drewN nd_).own.one) (fun _ x w _ M => by (try simp only [List.cons_append, List.nil_append] at M); exact (by (refine pend_take (by exact cells_whole M.h2) ?_); exact pend_none)) ?_; (clear F a M; try clear w); rintro v x w rfl M a F; (try simp only [List.cons_append, List.nil_append] at M)
    obtain ⟨Al, cl, rfl⟩ := SlOk.form M.h1
    refine s_callP (m := []) F M rfl rfl rfl rfl rfl (rfl : _ = some [_]) cb_22_D5 (fun nd_ => c22 (new t) L _ _ (by exact SlOk.rd M.h3) W t0) (fun _ x w _ M => by (try simp only [List.cons_append, List.nil_append] at M); exact (by (refine pend_skip rfl ?_); exact pend_none)) ?_; (clear F a M; try clear w); rintro v x w rfl M a F; (try simp only [List.cons_append, List.nil_append] at M)
    obtain ⟨Am, cm, rfl⟩ := SlOk.form M.h0
    refine s_cqL F M rfl rfl rfl rfl rfl (rfl : _ = some [_, _]) cb_20_D5 (fun nd_ => (c20 (log (told (new t) L)) (log (told (new t) L)) _ _ _ (by exact SlOk.rd M.h2) (by exact SlOk.rd M.h0) (by have := log_len (t := new t) W; unfold maxLen; omega)).monoQ (fun v hv => hv.trans (by rw [decide_eq_true rfl]))) (fun _ w _ M => (by (refine pend_skip rfl ?_); exact pend_none)) ?_; (clear F a M; try clear w); rintro v w rfl M a F
    replace F : Fr _ _ ((102, Value.bool true) :: _) := F
    refine s_I F rfl rfl rfl rfl rfl rfl ?_; clear F a; intro a F
    refine s_I F rfl rfl rfl rfl rfl rfl ?_; clear F a; intro a F
    refine s_I F rfl rfl rfl rfl rfl rfl ?_; clear F a; intro a F
    refine s_ldaL F rfl rfl rfl rfl ag_29_D5 rfl rfl (cells_whole M.h3) ?_; clear F a; intro a F
    refine s_I F rfl rfl rfl rfl rfl rfl ?_; clear F a; intro a F
    have M1 : Sep _ _ _ (flwR _ _ _ _ :: _) := M.f1; replace M := M1; clear M1
    refine s_callP (m := [_]) F M rfl rfl rfl rfl rfl (rfl : _ = some [_, _]) cb_24_D5 (fun nd_ => c24 b _ (new t) L most _ (M.drewN nd_).own.one) (fun _ x w _ M => by (try simp only [List.cons_append, List.nil_append] at M); exact (by (refine pend_take (by exact cells_whole M.h4) ?_); (refine pend_skip rfl ?_); exact pend_none)) ?_; (clear F a M; try clear w); rintro v x w rfl M a F; (try simp only [List.cons_append, List.nil_append] at M)
    obtain ⟨An, cn, rfl⟩ := SlOk.form M.h1
    refine s_callP (m := []) F M rfl rfl rfl rfl rfl (rfl : _ = some [_, _]) cb_25_D5 (fun nd_ => c25 (new t) L _ most _ (by exact SlOk.rd M.h5) W t0) (fun _ x w _ M => by (try simp only [List.cons_append, List.nil_append] at M); exact (by (refine pend_skip rfl ?_); (refine pend_skip rfl ?_); exact pend_none)) ?_; (clear F a M; try clear w); rintro v x w rfl M a F; (try simp only [List.cons_append, List.nil_append] at M)
    obtain ⟨Ao, co, rfl⟩ := SlOk.form M.h0
    refine s_cqL F M rfl rfl rfl rfl rfl (rfl : _ = some [_, _]) cb_23_D5 (fun nd_ => (c23 (FlwM.ask (told (new t) L) most) (FlwM.ask (told (new t) L) most) _ _ _ (by exact SlOk.rd M.h2) (by exact SlOk.rd M.h0) (by have h1 := askF_len (told (new t) L) most (64 - (log (told (new t) L)).length) (log (told (new t) L)).length []; unfold maxLen FlwM.ask; simp at h1; omega)).monoQ (fun v hv => hv.trans (by rw [decide_eq_true rfl]))) (fun _ w _ M => (by (refine pend_skip rfl ?_); (refine pend_skip rfl ?_); exact pend_none)) ?_; (clear F a M; try clear w); rintro v w rfl M a F
    replace F : Fr _ _ ((110, Value.bool true) :: _) := F
    refine s_I F rfl rfl rfl rfl rfl rfl ?_; clear F a; intro a F
    refine s_I F rfl rfl rfl rfl rfl rfl ?_; clear F a; intro a F
    refine s_cqL F M rfl rfl rfl rfl rfl (rfl : _ = some []) cb_13_D5 (fun nd_ => c13 _) (fun _ w _ M => (by (refine pend_skip rfl ?_); (refine pend_skip rfl ?_); exact pend_none)) ?_; (clear F a M; try clear w); rintro v w rfl M a F
    refine s_I F rfl rfl rfl rfl rfl rfl ?_; clear F a; intro a F
    refine s_I F rfl rfl rfl rfl rfl rfl ?_; clear F a; intro a F
    refine t_endM M ?_; (clear M; try clear w); intro w M
    refine wp_ret ?_
    refine ret1 F rfl rfl ?_
    -- end 0
    exact ⟨_, rfl, rfl, M.chg⟩
end Go.Proofs.Ytmikcmcgfehgfaa
