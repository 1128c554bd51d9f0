/- C7 of the seat. -/
import Derived.Test.YtibomfgeemhogaaC6
namespace Go.Proofs.Ytibomfgeemhogaa
open Go Fw
theorem ag_38_C7 : aggB Try.prog 38 = some 3 := by kernel_rfl
theorem cb_21_C7 : callB Try.prog 21 = true := by kernel_rfl
theorem cb_36_C7 : callB Try.prog 36 = true := by kernel_rfl
theorem cb_20_C7 : callB Try.prog 20 = true := by kernel_rfl
theorem cb_15_C7 : callB Try.prog 15 = true := by kernel_rfl
theorem cb_14_C7 : callB Try.prog 14 = true := by kernel_rfl
theorem fa_26_0_C7 : FA Try.prog 26 0 0 := fun _ _ _ => by kernel_rfl
theorem sc_3_C7 : scalB Try.prog 3 = true := by kernel_rfl
theorem fa_26_1_C7 : FA Try.prog 26 1 1 := fun _ _ _ => by kernel_rfl
theorem fa_26_2_C7 : FA Try.prog 26 2 2 := fun _ _ _ => by kernel_rfl
theorem cb_16_C7 : callB Try.prog 16 = true := by kernel_rfl
theorem cb_17_C7 : callB Try.prog 17 = true := by kernel_rfl
theorem zr_32_C7 : zeroB Try.prog 32 = some (.agg #[.int .i64 0, .int .i64 0, .int .i64 0, .slice none 0 0, .bool false, .bool false, .string { data := #[] }]) := by kernel_rfl
theorem sz_32_C7 : sizeB Try.prog 32 = some 7 := by kernel_rfl
theorem pt_29_C7 : ptrB Try.prog 29 = true := by kernel_rfl
theorem sl_27_C7 : slcB Try.prog 27 = some (38, 3) := by kernel_rfl
theorem ag_32_C7 : aggB Try.prog 32 = some 7 := by kernel_rfl
theorem cb_18_C7 : callB Try.prog 18 = true := by kernel_rfl
theorem cb_19_C7 : callB Try.prog 19 = true := by kernel_rfl
theorem fa_32_6_C7 : FA Try.prog 32 6 6 := fun _ _ _ => by kernel_rfl
theorem sc_9_C7 : scalB Try.prog 9 = true := by kernel_rfl
theorem fa_32_5_C7 : FA Try.prog 32 5 5 := fun _ _ _ => by kernel_rfl
theorem sc_4_C7 : scalB Try.prog 4 = true := by kernel_rfl
theorem bo_4_C7 : boolB Try.prog 4 = true := by kernel_rfl
open CastM

theorem c15y {l : List Msg} {v : Value} (w0 : World) (h : few l) (hr : RdSl w0.heap v l.length 3 (l.flatMap encM)) : Cl Try.prog 15 #[v] w0 (RetQ w0 fun r => r = .int .i64 1) := (c15 l v w0 hr).monoQ fun v hv => by rw [hv, if_pos h]
theorem c15n {l : List Msg} {v : Value} (w0 : World) (h : ¬ few l) (hr : RdSl w0.heap v l.length 3 (l.flatMap encM)) : Cl Try.prog 15 #[v] w0 (RetQ w0 fun r => r = .int .i64 0) := (c15 l v w0 hr).monoQ fun v hv => by rw [hv, if_neg h]
theorem out_len (c : CSt) (m : Msg) : (c.take m).2.length ≤ 2 := by
  unfold CSt.take out1 out2
  repeat' split
  all_goals simp

set_option maxRecDepth 100000 in
set_option maxHeartbeats 400000 in
theorem c19 (b vb : Nat) (c : CSt) (m : Msg) (o : Value) (w0 : World) (ho : Own w0.heap [castR b vb c, slR o (c.take m).2.length 38 3 ((c.take m).2.flatMap encM)]) : Cl Try.prog 19 #[.pointer (some ⟨b, 0, none⟩), msgV m, o] w0 (RetS [castR b vb c, slR o (c.take m).2.length 38 3 ((c.take m).2.flatMap encM)] w0 (fun v (_ : Unit) => v = .tuple #[.string (c.take m).1.body, .bool true]) fun _ => [castR b vb (c.take m).1, slR o (c.take m).2.length 38 3 ((c.take m).2.flatMap encM)]) := by
  have M : Sep (fun b_ => b_ ∈ foots [castR b vb c, slR o (c.take m).2.length 38 3 ((c.take m).2.flatMap encM)]) w0 w0 _ := Sep.start ho
  refine enter (vs := [_, _, _]) Try.func19 rfl rfl rfl ?_
  intro a F
  refine wp_seq ?_
  refine wp_region_l [.wr, .ind, .ind] ([0, 1, 2]) rfl ?_
  refine s_bxA F M rfl rfl rfl rfl rfl ?_; (clear F a M; try clear w); intro b4 w M a F
  refine s_I F rfl rfl rfl rfl rfl rfl ?_; clear F a; intro a F
  refine s_I F rfl rfl rfl rfl rfl rfl ?_; clear F a; intro a F
  refine t_endM M ?_; (clear M; try clear w); intro w M
  refine wp_seq ?_
  refine wp_region_l [.ind, .rd, .wr, .ind, .wr, .ind] ([0, 1, 2, 3, 4, 5]) rfl ?_
  refine s_I F rfl rfl rfl rfl rfl rfl ?_; clear F a; intro a F
  refine s_lda F rfl rfl rfl rfl ag_38_C7 rfl rfl (cells_whole M.h0) ?_; clear F a; intro a F
  have M1 : Sep _ _ _ (castR b vb _ :: _) := M.f1; replace M := M1; clear M1
  refine s_call (m := [_]) F M rfl rfl rfl rfl rfl (rfl : _ = some [_, _]) cb_21_C7 (fun nd_ => c21 b vb c m _ (M.drewN nd_).own.one) ?_; (clear F a M; try clear w); rintro v x w rfl M a F; (try simp only [List.cons_append, List.nil_append] at M)
  refine s_I F rfl rfl rfl rfl rfl rfl ?_; clear F a; intro a F
  refine s_cq F M rfl rfl rfl rfl rfl (rfl : _ = some [_, _]) cb_36_C7 (fun nd_ => (c36 (c.take m).2 (c.take m).2 _ _ _ (by exact SlOk.rd M.h1) (by exact SlOk.rd M.h3) (by have := out_len c m; unfold maxLen; omega)).monoQ (fun v hv => hv.trans (by rw [decide_eq_true rfl]))) ?_; (clear F a M; try clear w); rintro v w rfl M a F
  refine s_I F rfl rfl rfl rfl rfl rfl ?_; clear F a; intro a F
  refine t_endM M ?_; (clear M; try clear w); intro w M
  refine wp_seq ?_
  replace F := F.keep [0, 1, 2, 4, 6, 7, 8] rfl
  refine wp_region_l [.ind, .wr, .ind, .ind, .ind, .ind, .ind] ([0, 1, 2, 3, 4, 5, 6]) rfl ?_
  refine s_I F rfl rfl rfl rfl rfl rfl ?_; clear F a; intro a F
  refine s_cq F M rfl rfl rfl rfl rfl (rfl : _ = some [_]) cb_20_C7 (fun nd_ => c20 b vb (c.take m).1 _ (by exact M.h0)) ?_; (clear F a M; try clear w); rintro v w rfl M a F
  refine s_I F rfl rfl rfl rfl rfl rfl ?_; clear F a; intro a F
  refine s_I F rfl rfl rfl rfl rfl rfl ?_; clear F a; intro a F
  refine s_I F rfl rfl rfl rfl rfl rfl ?_; clear F a; intro a F
  refine s_I F rfl rfl rfl rfl rfl rfl ?_; clear F a; intro a F
  refine s_I F rfl rfl rfl rfl rfl rfl ?_; clear F a; intro a F
  refine t_endM M ?_; (clear M; try clear w); intro w M
  refine wp_seq ?_
  replace F := F.keep [0, 1, 2, 4, 6, 7, 8, 9] rfl
  refine wp_region_l [.ind, .ind, .ind, .ind] ([0, 1, 2, 3]) rfl ?_
  refine s_I F rfl rfl rfl rfl rfl rfl ?_; clear F a; intro a F
  refine s_I F rfl rfl rfl rfl rfl rfl ?_; clear F a; intro a F
  refine s_I F rfl rfl rfl rfl rfl rfl ?_; clear F a; intro a F
  refine s_I F rfl rfl rfl rfl rfl rfl ?_; clear F a; intro a F
  refine t_endM M ?_; (clear M; try clear w); intro w M
  refine wp_ret ?_
  refine ret2 F rfl rfl rfl ?_
  -- end 0
  refine ⟨_, (), rfl, rfl, ?_⟩
  have M1 : Sep _ _ _ (slR o _ _ _ _ :: _) := M.f3; replace M := M1; clear M1
  have M1 : Sep _ _ _ (castR b vb _ :: _) := M.f1; replace M := M1; clear M1
  exact Sep.left (r := _) M
set_option maxRecDepth 100000 in
set_option maxHeartbeats 400000 in
theorem law4a (n t frm : Int) (l : List Msg) (v : Value) (w0 : World) (hr : RdSl w0.heap v l.length 3 (l.flatMap encM)) (hl : l.length ≤ maxLen) (h : ¬ few l) : Cl Try.prog 4 #[.agg #[.int .i64 n, .int .i64 t, .int .i64 frm], v] w0 (RetQ w0 fun v => v = .bool true) := by
  have M : Sep (fun _ => False) w0 w0 _ := Sep.nil _ w0
  have hro := (ro_of hr)
  obtain ⟨A, cc, rfl, hcc⟩ := hr.form
  refine enter (vs := [_, _]) Try.func4 rfl rfl rfl ?_
  intro a F
  refine wp_seq ?_
  refine wp_region_l [.wr, .ind] ([0, 1]) rfl ?_
  refine s_bxA F M rfl rfl rfl rfl rfl ?_; (clear F a M; try clear w); intro b2 w M a F
  refine s_I F rfl rfl rfl rfl rfl rfl ?_; clear F a; intro a F
  refine t_endM M ?_; (clear M; try clear w); intro w M
  refine wp_seq ?_
  refine wp_seq ?_
  refine wp_region_l [.ind, .wr, .ind] ([0, 1, 2]) rfl ?_
  refine s_I F rfl rfl rfl rfl rfl rfl ?_; clear F a; intro a F
  refine s_cq F M rfl rfl rfl rfl rfl (rfl : _ = some [_]) cb_15_C7 (fun nd_ => c15n _ h (M.chg.ro hro)) ?_; (clear F a M; try clear w); rintro v w rfl M a F
  refine s_bin F rfl rfl rfl rfl rfl rfl rfl ?_; clear F a; intro a F
  replace F : Fr _ _ ((17, Value.bool true) :: _) := F
  refine t_endM M ?_; (clear M; try clear w); intro w M
  refine c_t F rfl ?_
  refine wp_seq ?_
  replace F := F.keep [0, 1, 2, 4] rfl
  refine wp_region_l [.wr, .ind] ([0, 1]) rfl ?_
  refine s_cq F M rfl rfl rfl rfl rfl (rfl : _ = some []) cb_14_C7 (fun nd_ => c14 _) ?_; (clear F a M; try clear w); rintro v w rfl M a F
  refine s_I F rfl rfl rfl rfl rfl rfl ?_; clear F a; intro a F
  refine t_endM M ?_; (clear M; try clear w); intro w M
  refine wp_ret ?_
  refine ret1 F rfl rfl ?_
  -- end 0
  exact ⟨_, rfl, rfl, M.chg⟩
set_option maxRecDepth 100000 in
set_option maxHeartbeats 400000 in
theorem law4b (n t frm : Int) (l : List Msg) (v : Value) (w0 : World) (hr : RdSl w0.heap v l.length 3 (l.flatMap encM)) (hl : l.length ≤ maxLen) (h : few l) (hn : quorum n t = 0 ∨ frm < 1 ∨ n < frm) : Cl Try.prog 4 #[.agg #[.int .i64 n, .int .i64 t, .int .i64 frm], v] w0 (RetQ w0 fun v => v = .bool true) := by
  have M : Sep (fun _ => False) w0 w0 _ := Sep.nil _ w0
  have hro := (ro_of hr)
  obtain ⟨A, cc, rfl, hcc⟩ := hr.form
  refine enter (vs := [_, _]) Try.func4 rfl rfl rfl ?_
  intro a F
  refine wp_seq ?_
  refine wp_region_l [.wr, .ind] ([0, 1]) rfl ?_
  refine s_bxA F M rfl rfl rfl rfl rfl ?_; (clear F a M; try clear w); intro b2 w M a F
  refine s_I F rfl rfl rfl rfl rfl rfl ?_; clear F a; intro a F
  refine t_endM M ?_; (clear M; try clear w); intro w M
  refine wp_seq ?_
  refine wp_seq ?_
  refine wp_region_l [.ind, .wr, .ind] ([0, 1, 2]) rfl ?_
  refine s_I F rfl rfl rfl rfl rfl rfl ?_; clear F a; intro a F
  refine s_cq F M rfl rfl rfl rfl rfl (rfl : _ = some [_]) cb_15_C7 (fun nd_ => c15y _ h (M.chg.ro hro)) ?_; (clear F a M; try clear w); rintro v w rfl M a F
  refine s_bin F rfl rfl rfl rfl rfl rfl rfl ?_; clear F a; intro a F
  replace F : Fr _ _ ((17, Value.bool false) :: _) := F
  refine t_endM M ?_; (clear M; try clear w); intro w M
  refine c_f F rfl ?_
  refine wp_skip ?_
  refine wp_seq ?_
  replace F := F.keep [0, 1, 2, 4] rfl
  refine wp_region_l [.ind, .rd, .ind, .rd, .ind, .rd, .wr, .ind] ([0, 1, 2, 3, 4, 5, 6, 7]) rfl ?_
  refine s_fa0 F rfl rfl rfl rfl fa_26_0_C7 rfl ?_; clear F a; intro a F
  refine s_ld F rfl rfl rfl rfl sc_3_C7 rfl (by exact cell_of_blk M.h0 (lit rfl)) ?_; clear F a; intro a F
  refine s_fa0 F rfl rfl rfl rfl fa_26_1_C7 rfl ?_; clear F a; intro a F
  refine s_ld F rfl rfl rfl rfl sc_3_C7 rfl (by exact cell_of_blk M.h0 (lit rfl)) ?_; clear F a; intro a F
  refine s_fa0 F rfl rfl rfl rfl fa_26_2_C7 rfl ?_; clear F a; intro a F
  refine s_ld F rfl rfl rfl rfl sc_3_C7 rfl (by exact cell_of_blk M.h0 (lit rfl)) ?_; clear F a; intro a F
  refine s_cq F M rfl rfl rfl rfl rfl (rfl : _ = some [_, _, _]) cb_16_C7 (fun nd_ => c16n _ _ _ hn _) ?_; (clear F a M; try clear w); rintro v w rfl M a F
  refine s_I F rfl rfl rfl rfl rfl rfl ?_; clear F a; intro a F
  refine t_endM M ?_; (clear M; try clear w); intro w M
  refine wp_seq ?_
  replace F := F.keep [0, 1, 2, 4, 5] rfl
  refine wp_region_l [.ind, .rd, .ind, .rd, .ind, .rd, .wr, .ind, .ind, .ind, .wr, .wr, .ind] ([0, 1, 2, 3, 4, 5, 6, 7, 8, 9, 10, 11, 12]) rfl ?_
  refine s_fa0 F rfl rfl rfl rfl fa_26_0_C7 rfl ?_; clear F a; intro a F
  refine s_ld F rfl rfl rfl rfl sc_3_C7 rfl (by exact cell_of_blk M.h0 (lit rfl)) ?_; clear F a; intro a F
  refine s_fa0 F rfl rfl rfl rfl fa_26_1_C7 rfl ?_; clear F a; intro a F
  refine s_ld F rfl rfl rfl rfl sc_3_C7 rfl (by exact cell_of_blk M.h0 (lit rfl)) ?_; clear F a; intro a F
  refine s_fa0 F rfl rfl rfl rfl fa_26_2_C7 rfl ?_; clear F a; intro a F
  refine s_ld F rfl rfl rfl rfl sc_3_C7 rfl (by exact cell_of_blk M.h0 (lit rfl)) ?_; clear F a; intro a F
  refine s_cq F M rfl rfl rfl rfl rfl (rfl : _ = some [_, _, _]) cb_17_C7 (fun nd_ => c17n _ _ _ hn _) ?_; (clear F a M; try clear w); rintro v w rfl M a F
  refine s_I F rfl rfl rfl rfl rfl rfl ?_; clear F a; intro a F
  refine s_I F rfl rfl rfl rfl rfl rfl ?_; clear F a; intro a F
  refine s_I F rfl rfl rfl rfl rfl rfl ?_; clear F a; intro a F
  replace F : Fr _ _ ((35, Value.bool false) :: _) := F
  refine s_alc F M rfl rfl rfl rfl zr_32_C7 rfl ?_; (clear F a M; try clear w); intro b6 w M a F
  refine s_stW F M rfl rfl rfl sz_32_C7 rfl rfl rfl rfl rfl ?_; (clear M; try clear w); intro w M
  refine s_I F rfl rfl rfl rfl rfl rfl ?_; clear F a; intro a F
  refine t_endM M ?_; (clear M; try clear w); intro w M
  refine wp_seq ?_
  refine wp_seq ?_
  replace F := F.keep [0, 1, 2, 4, 5, 6, 7] rfl
  refine wp_region_l [.ind, .ind, .ind, .ind, .ind, .ind] ([0, 1, 2, 3, 4, 5]) rfl ?_
  refine s_I F rfl rfl rfl rfl rfl rfl ?_; clear F a; intro a F
  refine s_I F rfl rfl rfl rfl rfl rfl ?_; clear F a; intro a F
  refine s_I F rfl rfl rfl rfl rfl rfl ?_; clear F a; intro a F
  refine s_no F rfl rfl rfl rfl ?_; clear F a; intro a F
  refine s_no F rfl rfl rfl rfl ?_; clear F a; intro a F
  refine s_I F rfl rfl rfl rfl rfl rfl ?_; clear F a; intro a F
  refine t_endM M ?_; (clear M; try clear w); intro w M
  refine c_t F rfl ?_
  refine wp_seq ?_
  replace F := F.keep [0, 1, 2, 4, 5, 6, 7] rfl
  refine wp_region_l [.ind, .ind, .ind, .ind, .ind, .ind, .ind, .wr, .ind, .ind] ([0, 1, 2, 3, 4, 5, 6, 7, 8, 9]) rfl ?_
  refine s_I F rfl rfl rfl rfl rfl rfl ?_; clear F a; intro a F
  refine s_I F rfl rfl rfl rfl rfl rfl ?_; clear F a; intro a F
  refine s_I F rfl rfl rfl rfl rfl rfl ?_; clear F a; intro a F
  refine s_I F rfl rfl rfl rfl rfl rfl ?_; clear F a; intro a F
  refine s_pn F rfl rfl rfl rfl pt_29_C7 rfl ?_; clear F a; intro a F
  replace F : Fr _ _ ((46, Value.bool true) :: _) := F
  refine s_I F rfl rfl rfl rfl rfl rfl ?_; clear F a; intro a F
  refine s_I F rfl rfl rfl rfl rfl rfl ?_; clear F a; intro a F
  refine s_cq F M rfl rfl rfl rfl rfl (rfl : _ = some []) cb_14_C7 (fun nd_ => c14 _) ?_; (clear F a M; try clear w); rintro v w rfl M a F
  refine s_I F rfl rfl rfl rfl rfl rfl ?_; clear F a; intro a F
  refine s_I F rfl rfl rfl rfl rfl rfl ?_; clear F a; intro a F
  refine t_endM M ?_; (clear M; try clear w); intro w M
  refine wp_ret ?_
  refine ret1 F rfl rfl ?_
  -- end 0
  exact ⟨_, rfl, rfl, M.chg⟩
set_option maxRecDepth 100000 in
set_option maxHeartbeats 1000000 in
theorem law4c (n t frm : Int) (l : List Msg) (v : Value) (w0 : World) (hr : RdSl w0.heap v l.length 3 (l.flatMap encM)) (hl : l.length ≤ maxLen) (h : few l) (hq : quorum n t ≠ 0) (h1 : 1 ≤ frm) (h2 : frm ≤ n) : Cl Try.prog 4 #[.agg #[.int .i64 n, .int .i64 t, .int .i64 frm], v] w0 (RetQ w0 fun v => v = .bool true) := by
  have M : Sep (fun _ => False) w0 w0 _ := Sep.nil _ w0
  have hro := (ro_of hr)
  obtain ⟨A, cc, rfl, hcc⟩ := hr.form
  unfold maxLen at hl
  refine enter (vs := [_, _]) Try.func4 rfl rfl rfl ?_
  intro a F
  refine wp_seq ?_
  refine wp_region_l [.wr, .ind] ([0, 1]) rfl ?_
  refine s_bxA F M rfl rfl rfl rfl rfl ?_; (clear F a M; try clear w); intro b2 w M a F
  refine s_I F rfl rfl rfl rfl rfl rfl ?_; clear F a; intro a F
  refine t_endM M ?_; (clear M; try clear w); intro w M
  refine wp_seq ?_
  refine wp_seq ?_
  refine wp_region_l [.ind, .wr, .ind] ([0, 1, 2]) rfl ?_
  refine s_I F rfl rfl rfl rfl rfl rfl ?_; clear F a; intro a F
  refine s_cq F M rfl rfl rfl rfl rfl (rfl : _ = some [_]) cb_15_C7 (fun nd_ => c15y _ h (M.chg.ro hro)) ?_; (clear F a M; try clear w); rintro v w rfl M a F
  refine s_bin F rfl rfl rfl rfl rfl rfl rfl ?_; clear F a; intro a F
  replace F : Fr _ _ ((17, Value.bool false) :: _) := F
  refine t_endM M ?_; (clear M; try clear w); intro w M
  refine c_f F rfl ?_
  refine wp_skip ?_
  refine wp_seq ?_
  replace F := F.keep [0, 1, 2, 4] rfl
  refine wp_region_l [.ind, .rd, .ind, .rd, .ind, .rd, .wr, .ind] ([0, 1, 2, 3, 4, 5, 6, 7]) rfl ?_
  refine s_fa0 F rfl rfl rfl rfl fa_26_0_C7 rfl ?_; clear F a; intro a F
  refine s_ld F rfl rfl rfl rfl sc_3_C7 rfl (by exact cell_of_blk M.h0 (lit rfl)) ?_; clear F a; intro a F
  refine s_fa0 F rfl rfl rfl rfl fa_26_1_C7 rfl ?_; clear F a; intro a F
  refine s_ld F rfl rfl rfl rfl sc_3_C7 rfl (by exact cell_of_blk M.h0 (lit rfl)) ?_; clear F a; intro a F
  refine s_fa0 F rfl rfl rfl rfl fa_26_2_C7 rfl ?_; clear F a; intro a F
  refine s_ld F rfl rfl rfl rfl sc_3_C7 rfl (by exact cell_of_blk M.h0 (lit rfl)) ?_; clear F a; intro a F
  refine s_call (m := []) F M rfl rfl rfl rfl rfl (rfl : _ = some [_, _, _]) cb_16_C7 (fun nd_ => c16 n t frm hq h1 h2 _) ?_; (clear F a M; try clear w); rintro v x w rfl M a F; (try simp only [List.cons_append, List.nil_append] at M)
  obtain ⟨b, vb⟩ := x
  replace M : Sep _ _ _ (castR b vb (new n t frm) :: _) := M
  refine s_I F rfl rfl rfl rfl rfl rfl ?_; clear F a; intro a F
  refine t_endM M ?_; (clear M; try clear w); intro w M
  refine wp_seq ?_
  replace F := F.keep [0, 1, 2, 4, 5] rfl
  refine wp_region_l [.ind, .rd, .ind, .rd, .ind, .rd, .wr, .ind, .ind, .ind, .wr, .wr, .ind] ([0, 1, 2, 3, 4, 5, 6, 7, 8, 9, 10, 11, 12]) rfl ?_
  refine s_fa0 F rfl rfl rfl rfl fa_26_0_C7 rfl ?_; clear F a; intro a F
  refine s_ld F rfl rfl rfl rfl sc_3_C7 rfl (by exact cell_of_blk M.h1 (lit rfl)) ?_; clear F a; intro a F
  refine s_fa0 F rfl rfl rfl rfl fa_26_1_C7 rfl ?_; clear F a; intro a F
  refine s_ld F rfl rfl rfl rfl sc_3_C7 rfl (by exact cell_of_blk M.h1 (lit rfl)) ?_; clear F a; intro a F
  refine s_fa0 F rfl rfl rfl rfl fa_26_2_C7 rfl ?_; clear F a; intro a F
  refine s_ld F rfl rfl rfl rfl sc_3_C7 rfl (by exact cell_of_blk M.h1 (lit rfl)) ?_; clear F a; intro a F
  refine s_cq F M rfl rfl rfl rfl rfl (rfl : _ = some [_, _, _]) cb_17_C7 (fun nd_ => c17 n t frm hq h1 h2 _) ?_; (clear F a M; try clear w); rintro v w rfl M a F
  refine s_I F rfl rfl rfl rfl rfl rfl ?_; clear F a; intro a F
  refine s_I F rfl rfl rfl rfl rfl rfl ?_; clear F a; intro a F
  refine s_I F rfl rfl rfl rfl rfl rfl ?_; clear F a; intro a F
  replace F : Fr _ _ ((35, Value.bool true) :: _) := F
  refine s_alc F M rfl rfl rfl rfl zr_32_C7 rfl ?_; (clear F a M; try clear w); intro b6 w M a F
  refine s_stW F M rfl rfl rfl sz_32_C7 rfl rfl rfl rfl rfl ?_; (clear M; try clear w); intro w M
  refine s_I F rfl rfl rfl rfl rfl rfl ?_; clear F a; intro a F
  refine t_endM M ?_; (clear M; try clear w); intro w M
  refine wp_seq ?_
  refine wp_seq ?_
  replace F := F.keep [0, 1, 2, 4, 5, 6, 7] rfl
  refine wp_region_l [.ind, .ind, .ind, .ind, .ind, .ind] ([0, 1, 2, 3, 4, 5]) rfl ?_
  refine s_I F rfl rfl rfl rfl rfl rfl ?_; clear F a; intro a F
  refine s_I F rfl rfl rfl rfl rfl rfl ?_; clear F a; intro a F
  refine s_I F rfl rfl rfl rfl rfl rfl ?_; clear F a; intro a F
  refine s_I F rfl rfl rfl rfl rfl rfl ?_; clear F a; intro a F
  refine s_pn F rfl rfl rfl rfl pt_29_C7 rfl ?_; clear F a; intro a F
  replace F : Fr _ _ ((40, Value.bool false) :: _) := F
  refine s_I F rfl rfl rfl rfl rfl rfl ?_; clear F a; intro a F
  refine t_endM M ?_; (clear M; try clear w); intro w M
  refine c_f F rfl ?_
  refine wp_skip ?_
  refine wp_seq ?_
  refine wp_seq ?_
  replace F := F.keep [0, 1, 2, 4, 5, 6, 7] rfl
  refine wp_region_l [.ind] ([0]) rfl ?_
  refine s_I F rfl rfl rfl rfl rfl rfl ?_; clear F a; intro a F
  refine t_endM M ?_; (clear M; try clear w); intro w M
  refine wp_block ?_
  refine wp_loop_ghost (fun n_ a w => ∃ (i : Int) (c : CSt) (s : Value), n_ = l.length - i.toNat ∧ (0 ≤ i) ∧ (i ≤ l.length) ∧ (c.Wf) ∧ Fr 95 a [(1, .slice A l.length cc), (5, .pointer (some ⟨b, 0, none⟩)), (6, .pointer (some ⟨b6, 0, none⟩)), (8, .int .i64 i)] ∧ Sep (fun _ => False) w0 w [castR b vb c, blk b6 (.cells #[.int .i64 c.n, .int .i64 c.t, .int .i64 c.frm, s, .bool c.ready, .bool c.done, .string c.body] 32 (0, 0)), slR s c.L.length 38 3 (c.L.flatMap encM)]) ((fun (i : Int) (c : CSt) (s : Value) => l.length - i.toNat) (0) (new n t frm) (.slice none 0 0)) ?_ ?_
  ·
    replace M := M.nilS 38 3
    replace M : Sep _ _ _ (slR _ (new n t frm).L.length 38 3 ((new n t frm).L.flatMap encM) :: _) := M
    have M1 : Sep _ _ _ (slR _ _ _ _ _ :: _) := M; replace M := M1; clear M1
    have M1 : Sep _ _ _ (blk b6 _ :: _) := M.f1; replace M := M1; clear M1
    have M1 : Sep _ _ _ (castR b vb _ :: _) := M.f2; replace M := M1; clear M1
    exact ⟨0, new n t frm, .slice none 0 0, rfl, (by omega), (by omega), new_wf hq h1 h2, F.keep [1, 5, 6, 8] rfl, Sep.left M⟩
  ·
    clear F M; clear a; (try clear w); intro n_ a w hI
    obtain ⟨i, c, s, rfl, i0, i1, W, F, M⟩ := hI
    obtain ⟨sA, sc, rfl⟩ := SlOk.form M.h2
    refine wp_seq ?_
    refine wp_seq ?_
    refine wp_region_l [.ind, .ind, .ind, .ind] ([0, 1, 2, 3]) rfl ?_
    refine s_I F rfl rfl rfl rfl rfl rfl ?_; clear F a; intro a F
    refine s_I F rfl rfl rfl rfl rfl rfl ?_; clear F a; intro a F
    refine s_len F rfl rfl rfl rfl sl_27_C7 rfl ?_; clear F a; intro a F
    refine s_bin F rfl rfl rfl rfl rfl rfl rfl ?_; clear F a; intro a F
    refine t_endM M ?_; (clear M; try clear w); intro w M
    refine c_if F rfl ?_ ?_
    ·
      clear F; intro hc0 F
      try rw [hc0] at F
      replace hc0 := of_decide_eq_true hc0
      obtain ⟨e, he⟩ := get_of i0 hc0
      obtain ⟨b_, off, hA⟩ := hr.ptr (by omega)
      refine wp_skip ?_
      refine wp_seq ?_
      refine wp_block ?_
      refine wp_seq ?_
      replace F := F.keep [1, 5, 6, 8] rfl
      refine wp_region_t [.rd, .ind, .ind, .ind, .rd, .wr, .ind, .ind, .ind, .wr, .wr, .ind] [(0, 9), (4, 9)] (.one 0 (.one 1 (.one 2 (.one 3 (.one 4 (.two 5 9 (otOf [9, 6, 7, 8, 10, 11]) (otOf [5, 6, 7, 8, 10, 11]))))))) mixed (by kernel_rfl) ?_
      refine s_ldaL F rfl rfl rfl rfl ag_32_C7 rfl rfl (cells_whole M.h1) ?_; clear F a; intro a F
      refine s_I F rfl rfl rfl rfl rfl rfl ?_; clear F a; intro a F
      refine s_I F rfl rfl rfl rfl rfl rfl ?_; clear F a; intro a F
      refine s_isA hA F rfl rfl rfl rfl sl_27_C7 rfl rfl (by omega) (by omega) ?_; clear F a; intro a F
      refine s_ldaL F rfl rfl rfl rfl ag_38_C7 rfl rfl (rd_els hA (M.chg.ro hro) encM_len he) ?_; clear F a; intro a F
      refine t_two ?_ ?_
      ·
        have M1 : Sep _ _ _ (slR (.slice sA _ _) _ _ _ _ :: _) := M.f2; replace M := M1; clear M1
        refine s_callP (m := [_]) F M rfl rfl rfl rfl rfl (rfl : _ = some [_, _]) cb_18_C7 (fun nd_ => c18 c _ e _ W (M.drewN nd_).own.one) (fun _ x w _ M => by (try simp only [List.cons_append, List.nil_append] at M); exact (by repeat first | exact pend_none | refine pend_skip rfl ?_)) ?_; (clear F a M; try clear w); rintro v x w rfl M a F; (try simp only [List.cons_append, List.nil_append] at M)
        obtain ⟨s2, o2⟩ := x
        dsimp only at F M
        obtain ⟨sA2, sc2, rfl⟩ := SlOk.form M.h0
        obtain ⟨oA2, oc2, rfl⟩ := SlOk.form M.h1
        refine s_alcL F M rfl rfl rfl rfl zr_32_C7 rfl (fun b w M => (by repeat first | exact pend_none | refine pend_take (by first | exact cells_whole M.h4 | exact rd_els hA (M.chg.ro hro) encM_len he) ?_)) ?_; (clear F a M; try clear w); intro b9 w M a F
        refine s_I F rfl rfl rfl rfl rfl rfl ?_; clear F a; intro a F
        refine s_I F rfl rfl rfl rfl rfl rfl ?_; clear F a; intro a F
        refine s_I F rfl rfl rfl rfl rfl rfl ?_; clear F a; intro a F
        refine s_stWL F M rfl rfl rfl sz_32_C7 rfl rfl rfl rfl rfl (fun w M => (by repeat first | exact pend_none | refine pend_skip rfl ?_)) ?_; (clear M; try clear w); intro w M
        refine s_I F rfl rfl rfl rfl rfl rfl ?_; clear F a; intro a F
        refine t_endM M ?_; (clear M; try clear w); intro w M
        refine wp_seq ?_
        replace F := F.keep [1, 5, 6, 8, 9, 10] rfl
        refine wp_region_l [.rd, .wr] ([0, 1]) rfl ?_
        refine s_lda F rfl rfl rfl rfl ag_32_C7 rfl rfl (cells_whole M.h0) ?_; clear F a; intro a F
        refine s_stW F M.f4 rfl rfl rfl sz_32_C7 rfl rfl rfl rfl rfl ?_; (clear M; try clear w); intro w M
        refine t_endM M ?_; (clear M; try clear w); intro w M
        refine wp_seq ?_
        replace F := F.keep [1, 5, 6, 8, 9, 10] rfl
        refine wp_region_l [.ind, .ind, .ind, .ind, .rd, .ind, .wr, .ind, .ind, .ind, .ind, .ind] ([0, 1, 2, 3, 4, 5, 6, 7, 8, 9, 10, 11]) rfl ?_
        refine s_I F rfl rfl rfl rfl rfl rfl ?_; clear F a; intro a F
        refine s_I F rfl rfl rfl rfl rfl rfl ?_; clear F a; intro a F
        refine s_I F rfl rfl rfl rfl rfl rfl ?_; clear F a; intro a F
        refine s_isA hA F rfl rfl rfl rfl sl_27_C7 rfl rfl (by omega) (by omega) ?_; clear F a; intro a F
        refine s_lda F rfl rfl rfl rfl ag_38_C7 rfl rfl (rd_els hA (M.chg.ro hro) encM_len he) ?_; clear F a; intro a F
        refine s_I F rfl rfl rfl rfl rfl rfl ?_; clear F a; intro a F
        have M1 : Sep _ _ _ (slR (.slice oA2 _ _) _ _ _ _ :: _) := M.f3; replace M := M1; clear M1
        have M1 : Sep _ _ _ (castR b vb _ :: _) := M.f4; replace M := M1; clear M1
        refine s_call (m := [_, _]) F M rfl rfl rfl rfl rfl (rfl : _ = some [_, _, _]) cb_19_C7 (fun nd_ => c19 b vb c e _ _ ((M.drewN nd_).own.left (m := [_, _]))) ?_; (clear F a M; try clear w); rintro v x w rfl M a F; (try simp only [List.cons_append, List.nil_append] at M)
        refine s_I F rfl rfl rfl rfl rfl rfl ?_; clear F a; intro a F
        refine s_I F rfl rfl rfl rfl rfl rfl ?_; clear F a; intro a F
        refine s_I F rfl rfl rfl rfl rfl rfl ?_; clear F a; intro a F
        replace F : Fr _ _ ((76, Value.bool true) :: _) := F
        refine s_I F rfl rfl rfl rfl rfl rfl ?_; clear F a; intro a F
        refine s_I F rfl rfl rfl rfl rfl rfl ?_; clear F a; intro a F
        refine t_endM M ?_; (clear M; try clear w); intro w M
        refine wp_seq ?_
        refine wp_seq ?_
        replace F := F.keep [1, 5, 6, 8, 9, 10, 11, 12] rfl
        refine wp_region_l [.ind, .ind, .ind, .ind, .ind, .rd, .ind, .ind] ([0, 1, 2, 3, 4, 5, 6, 7]) rfl ?_
        refine s_I F rfl rfl rfl rfl rfl rfl ?_; clear F a; intro a F
        refine s_I F rfl rfl rfl rfl rfl rfl ?_; clear F a; intro a F
        refine s_I F rfl rfl rfl rfl rfl rfl ?_; clear F a; intro a F
        refine s_I F rfl rfl rfl rfl rfl rfl ?_; clear F a; intro a F
        refine s_fa0 F rfl rfl rfl rfl fa_32_6_C7 rfl ?_; clear F a; intro a F
        refine s_ld F rfl rfl rfl rfl sc_9_C7 rfl (by exact cell_of_blk M.h2 (lit rfl)) ?_; clear F a; intro a F
        refine s_bin F rfl rfl rfl rfl rfl rfl rfl ?_; clear F a; intro a F
        refine s_I F rfl rfl rfl rfl rfl rfl ?_; clear F a; intro a F
        refine t_endM M ?_; (clear M; try clear w); intro w M
        refine c_if F rfl ?_ ?_
        ·
          clear F; intro hc1 F
          try rw [hc1] at F
          replace hc1 := nd1 hc1
          exact absurd rfl hc1
        ·
          clear F; intro hc2 F
          try rw [hc2] at F
          replace hc2 := nd0 hc2
          refine wp_skip ?_
          refine wp_seq ?_
          replace F := F.keep [1, 5, 6, 8, 9, 10, 11, 12] rfl
          refine wp_region_l [.ind, .wr, .ind, .ind, .ind, .ind, .ind] ([0, 1, 2, 3, 4, 5, 6]) rfl ?_
          refine s_I F rfl rfl rfl rfl rfl rfl ?_; clear F a; intro a F
          refine s_cq F M rfl rfl rfl rfl rfl (rfl : _ = some [_]) cb_20_C7 (fun nd_ => c20 b vb (c.take e).1 _ (by exact M.h0)) ?_; (clear F a M; try clear w); rintro v w rfl M a F
          refine s_I F rfl rfl rfl rfl rfl rfl ?_; clear F a; intro a F
          refine s_I F rfl rfl rfl rfl rfl rfl ?_; clear F a; intro a F
          refine s_I F rfl rfl rfl rfl rfl rfl ?_; clear F a; intro a F
          refine s_I F rfl rfl rfl rfl rfl rfl ?_; clear F a; intro a F
          refine s_I F rfl rfl rfl rfl rfl rfl ?_; clear F a; intro a F
          refine t_endM M ?_; (clear M; try clear w); intro w M
          refine wp_seq ?_
          replace F := F.keep [1, 5, 6, 8, 9, 10, 11, 12, 14] rfl
          refine wp_region_l [.ind, .ind, .rd, .ind] ([0, 1, 2, 3]) rfl ?_
          refine s_I F rfl rfl rfl rfl rfl rfl ?_; clear F a; intro a F
          refine s_fa0 F rfl rfl rfl rfl fa_32_5_C7 rfl ?_; clear F a; intro a F
          refine s_ld F rfl rfl rfl rfl sc_4_C7 rfl (by exact cell_of_blk M.h2 (lit rfl)) ?_; clear F a; intro a F
          refine s_bne F rfl rfl rfl rfl bo_4_C7 rfl rfl ?_; clear F a; intro a F
          refine t_endM M ?_; (clear M; try clear w); intro w M
          refine c_if F rfl ?_ ?_
          ·
            clear F; intro hc3 F
            try rw [hc3] at F
            replace hc3 := nd1 hc3
            exact absurd hc3 (by simp)
          ·
            clear F; intro hc4 F
            try rw [hc4] at F
            replace hc4 := nd0 hc4
            refine wp_skip ?_
            replace F := F.keep [1, 5, 6, 8, 9, 10, 11, 12, 14] rfl
            refine wp_region_l [.ind, .ind, .ind] ([0, 1, 2]) rfl ?_
            refine s_I F rfl rfl rfl rfl rfl rfl ?_; clear F a; intro a F
            refine s_add F rfl rfl rfl rfl rfl rfl (by unfold In64; omega) ?_; clear F a; intro a F
            refine s_I F rfl rfl rfl rfl rfl rfl ?_; clear F a; intro a F
            refine t_endM M ?_; (clear M; try clear w); intro w M
            have M1 : Sep _ _ _ (slR (.slice oA2 _ _) _ _ _ _ :: _) := M.f1; replace M := M1; clear M1
            replace M := M.tl
            have M1 : Sep _ _ _ (slR _ _ _ _ _ :: _) := M.f3; replace M := M1; clear M1
            have M1 : Sep _ _ _ (blk b6 _ :: _) := M.f2; replace M := M1; clear M1
            have M1 : Sep _ _ _ (castR b vb _ :: _) := M.f2; replace M := M1; clear M1
            exact lp_again ((fun (i : Int) (c : CSt) (s : Value) => l.length - i.toNat) (i + 1) ((c.take e).1) (.slice sA2 (c.take e).1.L.length sc2)) (by show _ < _; dsimp only; omega) ⟨i + 1, (c.take e).1, .slice sA2 (c.take e).1.L.length sc2, rfl, (by omega), (by assumption), W.take e, F.keep [1, 5, 6, 8] rfl, Sep.left M⟩
      ·
        refine s_alcL F M rfl rfl rfl rfl zr_32_C7 rfl (fun b w M => (by repeat first | exact pend_none | refine pend_take (by first | exact cells_whole M.h2 | exact rd_els hA (M.chg.ro hro) encM_len he) ?_)) ?_; (clear F a M; try clear w); intro b9 w M a F
        have M1 : Sep _ _ _ (slR (.slice sA _ _) _ _ _ _ :: _) := M.f3; replace M := M1; clear M1
        refine s_callP (m := [_]) F M rfl rfl rfl rfl rfl (rfl : _ = some [_, _]) cb_18_C7 (fun nd_ => c18 c _ e _ W (M.drewN nd_).own.one) (fun _ x w _ M => by (try simp only [List.cons_append, List.nil_append] at M); exact (by repeat first | exact pend_none | refine pend_skip rfl ?_)) ?_; (clear F a M; try clear w); rintro v x w rfl M a F; (try simp only [List.cons_append, List.nil_append] at M)
        obtain ⟨s2, o2⟩ := x
        dsimp only at F M
        obtain ⟨sA2, sc2, rfl⟩ := SlOk.form M.h0
        obtain ⟨oA2, oc2, rfl⟩ := SlOk.form M.h1
        refine s_I F rfl rfl rfl rfl rfl rfl ?_; clear F a; intro a F
        refine s_I F rfl rfl rfl rfl rfl rfl ?_; clear F a; intro a F
        refine s_I F rfl rfl rfl rfl rfl rfl ?_; clear F a; intro a F
        refine s_stWL F M.f2 rfl rfl rfl sz_32_C7 rfl rfl rfl rfl rfl (fun w M => (by repeat first | exact pend_none | refine pend_skip rfl ?_)) ?_; (clear M; try clear w); intro w M
        refine s_I F rfl rfl rfl rfl rfl rfl ?_; clear F a; intro a F
        refine t_endM M ?_; (clear M; try clear w); intro w M
        refine wp_seq ?_
        replace F := F.keep [1, 5, 6, 8, 9, 10] rfl
        refine wp_region_l [.rd, .wr] ([0, 1]) rfl ?_
        refine s_lda F rfl rfl rfl rfl ag_32_C7 rfl rfl (cells_whole M.h0) ?_; clear F a; intro a F
        refine s_stW F M.f4 rfl rfl rfl sz_32_C7 rfl rfl rfl rfl rfl ?_; (clear M; try clear w); intro w M
        refine t_endM M ?_; (clear M; try clear w); intro w M
        refine wp_seq ?_
        replace F := F.keep [1, 5, 6, 8, 9, 10] rfl
        refine wp_region_l [.ind, .ind, .ind, .ind, .rd, .ind, .wr, .ind, .ind, .ind, .ind, .ind] ([0, 1, 2, 3, 4, 5, 6, 7, 8, 9, 10, 11]) rfl ?_
        refine s_I F rfl rfl rfl rfl rfl rfl ?_; clear F a; intro a F
        refine s_I F rfl rfl rfl rfl rfl rfl ?_; clear F a; intro a F
        refine s_I F rfl rfl rfl rfl rfl rfl ?_; clear F a; intro a F
        refine s_isA hA F rfl rfl rfl rfl sl_27_C7 rfl rfl (by omega) (by omega) ?_; clear F a; intro a F
        refine s_lda F rfl rfl rfl rfl ag_38_C7 rfl rfl (rd_els hA (M.chg.ro hro) encM_len he) ?_; clear F a; intro a F
        refine s_I F rfl rfl rfl rfl rfl rfl ?_; clear F a; intro a F
        have M1 : Sep _ _ _ (slR (.slice oA2 _ _) _ _ _ _ :: _) := M.f3; replace M := M1; clear M1
        have M1 : Sep _ _ _ (castR b vb _ :: _) := M.f4; replace M := M1; clear M1
        refine s_call (m := [_, _]) F M rfl rfl rfl rfl rfl (rfl : _ = some [_, _, _]) cb_19_C7 (fun nd_ => c19 b vb c e _ _ ((M.drewN nd_).own.left (m := [_, _]))) ?_; (clear F a M; try clear w); rintro v x w rfl M a F; (try simp only [List.cons_append, List.nil_append] at M)
        refine s_I F rfl rfl rfl rfl rfl rfl ?_; clear F a; intro a F
        refine s_I F rfl rfl rfl rfl rfl rfl ?_; clear F a; intro a F
        refine s_I F rfl rfl rfl rfl rfl rfl ?_; clear F a; intro a F
        replace F : Fr _ _ ((76, Value.bool true) :: _) := F
        refine s_I F rfl rfl rfl rfl rfl rfl ?_; clear F a; intro a F
        refine s_I F rfl rfl rfl rfl rfl rfl ?_; clear F a; intro a F
        refine t_endM M ?_; (clear M; try clear w); intro w M
        refine wp_seq ?_
        refine wp_seq ?_
        replace F := F.keep [1, 5, 6, 8, 9, 10, 11, 12] rfl
        refine wp_region_l [.ind, .ind, .ind, .ind, .ind, .rd, .ind, .ind] ([0, 1, 2, 3, 4, 5, 6, 7]) rfl ?_
        refine s_I F rfl rfl rfl rfl rfl rfl ?_; clear F a; intro a F
        refine s_I F rfl rfl rfl rfl rfl rfl ?_; clear F a; intro a F
        refine s_I F rfl rfl rfl rfl rfl rfl ?_; clear F a; intro a F
        refine s_I F rfl rfl rfl rfl rfl rfl ?_; clear F a; intro a F
        refine s_fa0 F rfl rfl rfl rfl fa_32_6_C7 rfl ?_; clear F a; intro a F
        refine s_ld F rfl rfl rfl rfl sc_9_C7 rfl (by exact cell_of_blk M.h2 (lit rfl)) ?_; clear F a; intro a F
        refine s_bin F rfl rfl rfl rfl rfl rfl rfl ?_; clear F a; intro a F
        refine s_I F rfl rfl rfl rfl rfl rfl ?_; clear F a; intro a F
        refine t_endM M ?_; (clear M; try clear w); intro w M
        refine c_if F rfl ?_ ?_
        ·
          clear F; intro hc5 F
          try rw [hc5] at F
          replace hc5 := nd1 hc5
          exact absurd rfl hc5
        ·
          clear F; intro hc6 F
          try rw [hc6] at F
          replace hc6 := nd0 hc6
          refine wp_skip ?_
          refine wp_seq ?_
          replace F := F.keep [1, 5, 6, 8, 9, 10, 11, 12] rfl
          refine wp_region_l [.ind, .wr, .ind, .ind, .ind, .ind, .ind] ([0, 1, 2, 3, 4, 5, 6]) rfl ?_
          refine s_I F rfl rfl rfl rfl rfl rfl ?_; clear F a; intro a F
          refine s_cq F M rfl rfl rfl rfl rfl (rfl : _ = some [_]) cb_20_C7 (fun nd_ => c20 b vb (c.take e).1 _ (by exact M.h0)) ?_; (clear F a M; try clear w); rintro v w rfl M a F
          refine s_I F rfl rfl rfl rfl rfl rfl ?_; clear F a; intro a F
          refine s_I F rfl rfl rfl rfl rfl rfl ?_; clear F a; intro a F
          refine s_I F rfl rfl rfl rfl rfl rfl ?_; clear F a; intro a F
          refine s_I F rfl rfl rfl rfl rfl rfl ?_; clear F a; intro a F
          refine s_I F rfl rfl rfl rfl rfl rfl ?_; clear F a; intro a F
          refine t_endM M ?_; (clear M; try clear w); intro w M
          refine wp_seq ?_
          replace F := F.keep [1, 5, 6, 8, 9, 10, 11, 12, 14] rfl
          refine wp_region_l [.ind, .ind, .rd, .ind] ([0, 1, 2, 3]) rfl ?_
          refine s_I F rfl rfl rfl rfl rfl rfl ?_; clear F a; intro a F
          refine s_fa0 F rfl rfl rfl rfl fa_32_5_C7 rfl ?_; clear F a; intro a F
          refine s_ld F rfl rfl rfl rfl sc_4_C7 rfl (by exact cell_of_blk M.h2 (lit rfl)) ?_; clear F a; intro a F
          refine s_bne F rfl rfl rfl rfl bo_4_C7 rfl rfl ?_; clear F a; intro a F
          refine t_endM M ?_; (clear M; try clear w); intro w M
          refine c_if F rfl ?_ ?_
          ·
            clear F; intro hc7 F
            try rw [hc7] at F
            replace hc7 := nd1 hc7
            exact absurd hc7 (by simp)
          ·
            clear F; intro hc8 F
            try rw [hc8] at F
            replace hc8 := nd0 hc8
            refine wp_skip ?_
            replace F := F.keep [1, 5, 6, 8, 9, 10, 11, 12, 14] rfl
            refine wp_region_l [.ind, .ind, .ind] ([0, 1, 2]) rfl ?_
            refine s_I F rfl rfl rfl rfl rfl rfl ?_; clear F a; intro a F
            refine s_add F rfl rfl rfl rfl rfl rfl (by unfold In64; omega) ?_; clear F a; intro a F
            refine s_I F rfl rfl rfl rfl rfl rfl ?_; clear F a; intro a F
            refine t_endM M ?_; (clear M; try clear w); intro w M
            have M1 : Sep _ _ _ (slR (.slice oA2 _ _) _ _ _ _ :: _) := M.f1; replace M := M1; clear M1
            replace M := M.tl
            have M1 : Sep _ _ _ (slR _ _ _ _ _ :: _) := M.f3; replace M := M1; clear M1
            have M1 : Sep _ _ _ (blk b6 _ :: _) := M.f2; replace M := M1; clear M1
            have M1 : Sep _ _ _ (castR b vb _ :: _) := M.f2; replace M := M1; clear M1
            exact lp_again ((fun (i : Int) (c : CSt) (s : Value) => l.length - i.toNat) (i + 1) ((c.take e).1) (.slice sA2 (c.take e).1.L.length sc2)) (by show _ < _; dsimp only; omega) ⟨i + 1, (c.take e).1, .slice sA2 (c.take e).1.L.length sc2, rfl, (by omega), (by assumption), W.take e, F.keep [1, 5, 6, 8] rfl, Sep.left M⟩
    ·
      clear F; intro hc9 F
      try rw [hc9] at F
      replace hc9 := of_decide_eq_false hc9
      refine wp_exit ?_
      refine wp_seq ?_
      replace F := F.keep [1, 5, 6, 8] rfl
      refine wp_region_l [.wr, .ind] ([0, 1]) rfl ?_
      refine s_cq F M rfl rfl rfl rfl rfl (rfl : _ = some []) cb_14_C7 (fun nd_ => c14 _) ?_; (clear F a M; try clear w); rintro v w rfl M a F
      refine s_I F rfl rfl rfl rfl rfl rfl ?_; clear F a; intro a F
      refine t_endM M ?_; (clear M; try clear w); intro w M
      refine wp_ret ?_
      refine ret1 F rfl rfl ?_
      -- end 0
      exact ⟨_, rfl, rfl, M.chg⟩

theorem law4 (n t frm : Int) (l : List Msg) (v : Value) (w0 : World) (hr : RdSl w0.heap v l.length 3 (l.flatMap encM)) (hl : l.length ≤ maxLen) : Cl Try.prog 4 #[.agg #[.int .i64 n, .int .i64 t, .int .i64 frm], v] w0 (RetQ w0 fun v => v = .bool true) := by
  by_cases h : few l
  · by_cases hn : quorum n t = 0 ∨ frm < 1 ∨ n < frm
    · exact law4b n t frm l v w0 hr hl h hn
    · exact law4c n t frm l v w0 hr hl h (fun e => hn (.inl e)) (by omega) (by omega)
  · exact law4a n t frm l v w0 hr hl h

end Go.Proofs.Ytibomfgeemhogaa
