/- R5 of the seat. -/
import Derived.Test.YtboibdmflblphaaR4
namespace Go.Proofs.Ytboibdmflblphaa
open Go Fw
theorem cb_38_R5 : callB Try.prog 38 = true := by kernel_rfl
theorem cb_37_R5 : callB Try.prog 37 = true := by kernel_rfl
theorem fa_48_4_R5 : FA Try.prog 48 4 4 := fun _ _ _ => by kernel_rfl
theorem sc_9_R5 : scalB Try.prog 9 = true := by kernel_rfl
theorem st_9_R5 : strB Try.prog 9 = true := by kernel_rfl
theorem fa_48_0_R5 : FA Try.prog 48 0 0 := fun _ _ _ => by kernel_rfl
theorem sc_3_R5 : scalB Try.prog 3 = true := by kernel_rfl
theorem fa_48_1_R5 : FA Try.prog 48 1 1 := fun _ _ _ => by kernel_rfl
theorem fa_48_2_R5 : FA Try.prog 48 2 2 := fun _ _ _ => by kernel_rfl
theorem fa_48_3_R5 : FA Try.prog 48 3 3 := fun _ _ _ => by kernel_rfl
theorem cb_39_R5 : callB Try.prog 39 = true := by kernel_rfl
theorem cb_40_R5 : callB Try.prog 40 = true := by kernel_rfl
theorem zr_53_R5 : zeroB Try.prog 53 = some (.agg #[.int .i64 0, .int .i64 0, .string { data := #[] }, .int .i64 0, .int .i64 0, .string { data := #[] }, .int .i64 0, .string { data := #[] }, .int .i64 0, .slice none 0 0, .int .i64 0, .int .i64 0, .slice none 0 0, .bool false, .bool false, .string { data := #[] }]) := by kernel_rfl
theorem sz_53_R5 : sizeB Try.prog 53 = some 16 := by kernel_rfl
theorem pt_50_R5 : ptrB Try.prog 50 = true := by kernel_rfl
theorem bl_32_0_1_R5 : ∀ (x0 : Int) (x1 : Int), ∀ w : World, (Instr.build 32 #[(0, .int .i64 x0), (1, .int .i64 x1)]).run Try.prog w = .ok (.agg #[.int .i64 x0, .int .i64 x1, .int .i64 0, .int .i64 0, .string { data := #[] }]) w := by intros; kernel_rfl
theorem cb_41_R5 : callB Try.prog 41 = true := by kernel_rfl
theorem sl_22_R5 : slcB Try.prog 22 = some (32, 5) := by kernel_rfl
theorem ag_53_R5 : aggB Try.prog 53 = some 16 := by kernel_rfl
theorem cb_42_R5 : callB Try.prog 42 = true := by kernel_rfl
theorem cb_44_R5 : callB Try.prog 44 = true := by kernel_rfl
theorem cb_43_R5 : callB Try.prog 43 = true := by kernel_rfl
theorem ag_32_R5 : aggB Try.prog 32 = some 5 := by kernel_rfl
theorem cb_45_R5 : callB Try.prog 45 = true := by kernel_rfl
theorem cb_46_R5 : callB Try.prog 46 = true := by kernel_rfl
theorem cb_47_R5 : callB Try.prog 47 = true := by kernel_rfl
theorem cb_48_R5 : callB Try.prog 48 = true := by kernel_rfl
theorem fa_53_3_R5 : FA Try.prog 53 3 3 := fun _ _ _ => by kernel_rfl
theorem fa_53_4_R5 : FA Try.prog 53 4 4 := fun _ _ _ => by kernel_rfl
theorem fa_53_5_R5 : FA Try.prog 53 5 5 := fun _ _ _ => by kernel_rfl
theorem fa_53_6_R5 : FA Try.prog 53 6 6 := fun _ _ _ => by kernel_rfl
theorem fa_53_13_R5 : FA Try.prog 53 13 15 := fun _ _ _ => by kernel_rfl
theorem fa_53_12_R5 : FA Try.prog 53 12 14 := fun _ _ _ => by kernel_rfl
theorem sc_4_R5 : scalB Try.prog 4 = true := by kernel_rfl
theorem bo_4_R5 : boolB Try.prog 4 = true := by kernel_rfl
open VoteM AgrM

theorem st0_dead {n t me h : Int} {s : ByteArray} (q : Wrd) : (newA n t me h s).take q = (newA n t me h s, []) := take_dead (.inl (show (-1 : Int) < 0 by decide))
theorem start_again (st : ASt) : st.start.startO = [] ∧ st.start.start = st.start ∨ st.start.round < 0 := by
  rcases Int.lt_or_le st.start.round 0 with h | h
  · exact .inr h
  · exact .inl ⟨(start_dead h).2, (start_dead h).1⟩

set_option maxRecDepth 100000 in
set_option maxHeartbeats 400000 in
theorem law8a (n t me h : Int) (s : ByteArray) (l : List Wrd) (v : Value) (w0 : World) (hr : RdSl w0.heap v l.length 5 (l.flatMap encW)) (hf : ¬ few l) : Cl Try.prog 8 #[.agg #[.int .i64 n, .int .i64 t, .int .i64 me, .int .i64 h, .string s], v] w0 (RetQ w0 fun v => v = .bool true) := by
  have M : Sep (fun _ => False) w0 w0 _ := Sep.nil _ w0
  have hro := ro_of hr
  obtain ⟨A, cc, rfl, hcc⟩ := hr.form
  refine enter (vs := [_, _]) Try.func8 rfl rfl rfl ?_
  intro a F
  refine wp_seq ?_
  refine wp_region_l [.wr, .ind] ([0, 1]) rfl ?_
  refine s_bxA F M rfl rfl rfl rfl rfl ?_; (clear F a M; try clear w); intro b2 w M a F
  refine s_I F rfl rfl rfl rfl rfl rfl ?_; clear F a; intro a F
  refine t_endM M ?_; (clear M; try clear w); intro w M
  refine wp_seq ?_
  refine wp_seq ?_
  refine wp_region_l [.ind, .wr, .ind, .ind, .ind, .rd, .ind, .ind, .ind] ([0, 1, 2, 3, 4, 5, 6, 7, 8]) rfl ?_
  refine s_I F rfl rfl rfl rfl rfl rfl ?_; clear F a; intro a F
  refine s_cq F M rfl rfl rfl rfl rfl (rfl : _ = some [_]) cb_38_R5 (fun nd_ => c38n _ hf (M.chg.ro hro)) ?_; (clear F a M; try clear w); rintro v w rfl M a F
  refine s_bin F rfl rfl rfl rfl rfl rfl rfl ?_; clear F a; intro a F
  replace F : Fr _ _ ((21, Value.bool true) :: _) := F
  refine s_I F rfl rfl rfl rfl rfl rfl ?_; clear F a; intro a F
  refine s_no F rfl rfl rfl rfl ?_; clear F a; intro a F
  refine s_no F rfl rfl rfl rfl ?_; clear F a; intro a F
  refine s_no F rfl rfl rfl rfl ?_; clear F a; intro a F
  refine s_no F rfl rfl rfl rfl ?_; clear F a; intro a F
  refine s_I F rfl rfl rfl rfl rfl rfl ?_; clear F a; intro a F
  refine t_endM M ?_; (clear M; try clear w); intro w M
  refine c_t F rfl ?_
  refine wp_seq ?_
  replace F := F.keep [0, 1, 2, 4] rfl
  refine wp_region_l [.wr, .ind] ([0, 1]) rfl ?_
  refine s_cq F M rfl rfl rfl rfl rfl (rfl : _ = some []) cb_37_R5 (fun nd_ => c37 _) ?_; (clear F a M; try clear w); rintro v w rfl M a F
  refine s_I F rfl rfl rfl rfl rfl rfl ?_; clear F a; intro a F
  refine t_endM M ?_; (clear M; try clear w); intro w M
  refine wp_ret ?_
  refine ret1 F rfl rfl ?_
  -- end 0
  exact ⟨_, rfl, rfl, M.chg⟩
set_option maxRecDepth 100000 in
set_option maxHeartbeats 400000 in
theorem law8b (n t me h : Int) (s : ByteArray) (l : List Wrd) (v : Value) (w0 : World) (hr : RdSl w0.heap v l.length 5 (l.flatMap encW)) (hf : few l) (hs : 5000 < s.size) : Cl Try.prog 8 #[.agg #[.int .i64 n, .int .i64 t, .int .i64 me, .int .i64 h, .string s], v] w0 (RetQ w0 fun v => v = .bool true) := by
  have M : Sep (fun _ => False) w0 w0 _ := Sep.nil _ w0
  have hro := ro_of hr
  obtain ⟨A, cc, rfl, hcc⟩ := hr.form
  refine enter (vs := [_, _]) Try.func8 rfl rfl rfl ?_
  intro a F
  refine wp_seq ?_
  refine wp_region_l [.wr, .ind] ([0, 1]) rfl ?_
  refine s_bxA F M rfl rfl rfl rfl rfl ?_; (clear F a M; try clear w); intro b2 w M a F
  refine s_I F rfl rfl rfl rfl rfl rfl ?_; clear F a; intro a F
  refine t_endM M ?_; (clear M; try clear w); intro w M
  refine wp_seq ?_
  refine wp_seq ?_
  refine wp_region_l [.ind, .wr, .ind, .ind, .ind, .rd, .ind, .ind, .ind] ([0, 1, 2, 3, 4, 5, 6, 7, 8]) rfl ?_
  refine s_I F rfl rfl rfl rfl rfl rfl ?_; clear F a; intro a F
  refine s_cq F M rfl rfl rfl rfl rfl (rfl : _ = some [_]) cb_38_R5 (fun nd_ => c38y _ hf (M.chg.ro hro)) ?_; (clear F a M; try clear w); rintro v w rfl M a F
  refine s_bin F rfl rfl rfl rfl rfl rfl rfl ?_; clear F a; intro a F
  replace F : Fr _ _ ((21, Value.bool false) :: _) := F
  refine s_I F rfl rfl rfl rfl rfl rfl ?_; clear F a; intro a F
  refine s_fa0 F rfl rfl rfl rfl fa_48_4_R5 rfl ?_; clear F a; intro a F
  refine s_ld F rfl rfl rfl rfl sc_9_R5 rfl (by exact cell_of_blk M.h0 (lit rfl)) ?_; clear F a; intro a F
  refine s_lenS F rfl rfl rfl rfl st_9_R5 rfl ?_; clear F a; intro a F
  refine s_bin F rfl rfl rfl rfl rfl rfl rfl ?_; clear F a; intro a F
  refine s_I F rfl rfl rfl rfl rfl rfl ?_; clear F a; intro a F
  refine t_endM M ?_; (clear M; try clear w); intro w M
  refine c_if F rfl ?_ ?_
  ·
    clear F; intro hc0 F
    try rw [hc0] at F
    replace hc0 := of_decide_eq_true hc0
    refine wp_seq ?_
    replace F := F.keep [0, 1, 2, 4] rfl
    refine wp_region_l [.wr, .ind] ([0, 1]) rfl ?_
    refine s_cq F M rfl rfl rfl rfl rfl (rfl : _ = some []) cb_37_R5 (fun nd_ => c37 _) ?_; (clear F a M; try clear w); rintro v w rfl M a F
    refine s_I F rfl rfl rfl rfl rfl rfl ?_; clear F a; intro a F
    refine t_endM M ?_; (clear M; try clear w); intro w M
    refine wp_ret ?_
    refine ret1 F rfl rfl ?_
    -- end 0
    exact ⟨_, rfl, rfl, M.chg⟩
  ·
    clear F; intro hc1 F
    try rw [hc1] at F
    replace hc1 := of_decide_eq_false hc1
    exfalso
    omega
set_option maxRecDepth 100000 in
set_option maxHeartbeats 400000 in
theorem law8c (n t me h : Int) (s : ByteArray) (l : List Wrd) (v : Value) (w0 : World) (hr : RdSl w0.heap v l.length 5 (l.flatMap encW)) (hf : few l) (hs : s.size ≤ 5000) (hk : okA n t me h s = false) : Cl Try.prog 8 #[.agg #[.int .i64 n, .int .i64 t, .int .i64 me, .int .i64 h, .string s], v] w0 (RetQ w0 fun v => v = .bool true) := by
  have M : Sep (fun _ => False) w0 w0 _ := Sep.nil _ w0
  have hro := ro_of hr
  obtain ⟨A, cc, rfl, hcc⟩ := hr.form
  refine enter (vs := [_, _]) Try.func8 rfl rfl rfl ?_
  intro a F
  refine wp_seq ?_
  refine wp_region_l [.wr, .ind] ([0, 1]) rfl ?_
  refine s_bxA F M rfl rfl rfl rfl rfl ?_; (clear F a M; try clear w); intro b2 w M a F
  refine s_I F rfl rfl rfl rfl rfl rfl ?_; clear F a; intro a F
  refine t_endM M ?_; (clear M; try clear w); intro w M
  refine wp_seq ?_
  refine wp_seq ?_
  refine wp_region_l [.ind, .wr, .ind, .ind, .ind, .rd, .ind, .ind, .ind] ([0, 1, 2, 3, 4, 5, 6, 7, 8]) rfl ?_
  refine s_I F rfl rfl rfl rfl rfl rfl ?_; clear F a; intro a F
  refine s_cq F M rfl rfl rfl rfl rfl (rfl : _ = some [_]) cb_38_R5 (fun nd_ => c38y _ hf (M.chg.ro hro)) ?_; (clear F a M; try clear w); rintro v w rfl M a F
  refine s_bin F rfl rfl rfl rfl rfl rfl rfl ?_; clear F a; intro a F
  replace F : Fr _ _ ((21, Value.bool false) :: _) := F
  refine s_I F rfl rfl rfl rfl rfl rfl ?_; clear F a; intro a F
  refine s_fa0 F rfl rfl rfl rfl fa_48_4_R5 rfl ?_; clear F a; intro a F
  refine s_ld F rfl rfl rfl rfl sc_9_R5 rfl (by exact cell_of_blk M.h0 (lit rfl)) ?_; clear F a; intro a F
  refine s_lenS F rfl rfl rfl rfl st_9_R5 rfl ?_; clear F a; intro a F
  refine s_bin F rfl rfl rfl rfl rfl rfl rfl ?_; clear F a; intro a F
  refine s_I F rfl rfl rfl rfl rfl rfl ?_; clear F a; intro a F
  refine t_endM M ?_; (clear M; try clear w); intro w M
  refine c_if F rfl ?_ ?_
  ·
    clear F; intro hc0 F
    try rw [hc0] at F
    replace hc0 := of_decide_eq_true hc0
    exfalso
    omega
  ·
    clear F; intro hc1 F
    try rw [hc1] at F
    replace hc1 := of_decide_eq_false hc1
    refine wp_skip ?_
    refine wp_seq ?_
    replace F := F.keep [0, 1, 2, 4] rfl
    refine wp_region_l [.ind, .rd, .ind, .rd, .ind, .rd, .ind, .rd, .ind, .rd, .wr, .ind] ([0, 1, 2, 3, 4, 5, 6, 7, 8, 9, 10, 11]) rfl ?_
    refine s_fa0 F rfl rfl rfl rfl fa_48_0_R5 rfl ?_; clear F a; intro a F
    refine s_ld F rfl rfl rfl rfl sc_3_R5 rfl (by exact cell_of_blk M.h0 (lit rfl)) ?_; clear F a; intro a F
    refine s_fa0 F rfl rfl rfl rfl fa_48_1_R5 rfl ?_; clear F a; intro a F
    refine s_ld F rfl rfl rfl rfl sc_3_R5 rfl (by exact cell_of_blk M.h0 (lit rfl)) ?_; clear F a; intro a F
    refine s_fa0 F rfl rfl rfl rfl fa_48_2_R5 rfl ?_; clear F a; intro a F
    refine s_ld F rfl rfl rfl rfl sc_3_R5 rfl (by exact cell_of_blk M.h0 (lit rfl)) ?_; clear F a; intro a F
    refine s_fa0 F rfl rfl rfl rfl fa_48_3_R5 rfl ?_; clear F a; intro a F
    refine s_ld F rfl rfl rfl rfl sc_3_R5 rfl (by exact cell_of_blk M.h0 (lit rfl)) ?_; clear F a; intro a F
    refine s_fa0 F rfl rfl rfl rfl fa_48_4_R5 rfl ?_; clear F a; intro a F
    refine s_ld F rfl rfl rfl rfl sc_9_R5 rfl (by exact cell_of_blk M.h0 (lit rfl)) ?_; clear F a; intro a F
    refine s_cq F M rfl rfl rfl rfl rfl (rfl : _ = some [_, _, _, _, _]) cb_39_R5 (fun nd_ => c39n n t me h s hk _) ?_; (clear F a M; try clear w); rintro v w rfl M a F
    refine s_I F rfl rfl rfl rfl rfl rfl ?_; clear F a; intro a F
    refine t_endM M ?_; (clear M; try clear w); intro w M
    refine wp_seq ?_
    replace F := F.keep [0, 1, 2, 4, 5] rfl
    refine wp_region_l [.ind, .rd, .ind, .rd, .ind, .rd, .ind, .rd, .ind, .rd, .wr, .ind, .ind, .ind, .wr, .wr, .ind] ([0, 1, 2, 3, 4, 5, 6, 7, 8, 9, 10, 11, 12, 13, 14, 15, 16]) rfl ?_
    refine s_fa0 F rfl rfl rfl rfl fa_48_0_R5 rfl ?_; clear F a; intro a F
    refine s_ld F rfl rfl rfl rfl sc_3_R5 rfl (by exact cell_of_blk M.h0 (lit rfl)) ?_; clear F a; intro a F
    refine s_fa0 F rfl rfl rfl rfl fa_48_1_R5 rfl ?_; clear F a; intro a F
    refine s_ld F rfl rfl rfl rfl sc_3_R5 rfl (by exact cell_of_blk M.h0 (lit rfl)) ?_; clear F a; intro a F
    refine s_fa0 F rfl rfl rfl rfl fa_48_2_R5 rfl ?_; clear F a; intro a F
    refine s_ld F rfl rfl rfl rfl sc_3_R5 rfl (by exact cell_of_blk M.h0 (lit rfl)) ?_; clear F a; intro a F
    refine s_fa0 F rfl rfl rfl rfl fa_48_3_R5 rfl ?_; clear F a; intro a F
    refine s_ld F rfl rfl rfl rfl sc_3_R5 rfl (by exact cell_of_blk M.h0 (lit rfl)) ?_; clear F a; intro a F
    refine s_fa0 F rfl rfl rfl rfl fa_48_4_R5 rfl ?_; clear F a; intro a F
    refine s_ld F rfl rfl rfl rfl sc_9_R5 rfl (by exact cell_of_blk M.h0 (lit rfl)) ?_; clear F a; intro a F
    refine s_cq F M rfl rfl rfl rfl rfl (rfl : _ = some [_, _, _, _, _]) cb_40_R5 (fun nd_ => c40n n t me h s hk _) ?_; (clear F a M; try clear w); rintro v w rfl M a F
    refine s_I F rfl rfl rfl rfl rfl rfl ?_; clear F a; intro a F
    refine s_I F rfl rfl rfl rfl rfl rfl ?_; clear F a; intro a F
    refine s_I F rfl rfl rfl rfl rfl rfl ?_; clear F a; intro a F
    refine s_alc F M rfl rfl rfl rfl zr_53_R5 rfl ?_; (clear F a M; try clear w); intro b6 w M a F
    refine s_stW F M rfl rfl rfl sz_53_R5 rfl rfl rfl rfl rfl ?_; (clear M; try clear w); intro w M
    refine s_I F rfl rfl rfl rfl rfl rfl ?_; clear F a; intro a F
    replace F : Fr _ _ ((7, Value.bool false) :: _) := F
    refine t_endM M ?_; (clear M; try clear w); intro w M
    refine wp_seq ?_
    refine wp_seq ?_
    replace F := F.keep [0, 1, 2, 4, 5, 6, 7] rfl
    refine wp_region_l [.ind, .ind, .ind, .ind, .ind, .ind] ([0, 1, 2, 3, 4, 5]) rfl ?_
    refine s_I F rfl rfl rfl rfl rfl rfl ?_; clear F a; intro a F
    refine s_I F rfl rfl rfl rfl rfl rfl ?_; clear F a; intro a F
    refine s_I F rfl rfl rfl rfl rfl rfl ?_; clear F a; intro a F
    refine s_no F rfl rfl rfl rfl ?_; clear F a; intro a F
    refine s_no F rfl rfl rfl rfl ?_; clear F a; intro a F
    refine s_I F rfl rfl rfl rfl rfl rfl ?_; clear F a; intro a F
    refine t_endM M ?_; (clear M; try clear w); intro w M
    refine c_t F rfl ?_
    refine wp_seq ?_
    replace F := F.keep [0, 1, 2, 4, 5, 6, 7] rfl
    refine wp_region_l [.ind, .ind, .ind, .ind, .ind, .ind, .ind, .wr, .ind, .ind] ([0, 1, 2, 3, 4, 5, 6, 7, 8, 9]) rfl ?_
    refine s_I F rfl rfl rfl rfl rfl rfl ?_; clear F a; intro a F
    refine s_I F rfl rfl rfl rfl rfl rfl ?_; clear F a; intro a F
    refine s_I F rfl rfl rfl rfl rfl rfl ?_; clear F a; intro a F
    refine s_I F rfl rfl rfl rfl rfl rfl ?_; clear F a; intro a F
    refine s_pn F rfl rfl rfl rfl pt_50_R5 rfl ?_; clear F a; intro a F
    replace F : Fr _ _ ((64, Value.bool true) :: _) := F
    refine s_I F rfl rfl rfl rfl rfl rfl ?_; clear F a; intro a F
    refine s_I F rfl rfl rfl rfl rfl rfl ?_; clear F a; intro a F
    refine s_cq F M rfl rfl rfl rfl rfl (rfl : _ = some []) cb_37_R5 (fun nd_ => c37 _) ?_; (clear F a M; try clear w); rintro v w rfl M a F
    refine s_I F rfl rfl rfl rfl rfl rfl ?_; clear F a; intro a F
    refine s_I F rfl rfl rfl rfl rfl rfl ?_; clear F a; intro a F
    refine t_endM M ?_; (clear M; try clear w); intro w M
    refine wp_ret ?_
    refine ret1 F rfl rfl ?_
    -- end 0
    exact ⟨_, rfl, rfl, M.chg⟩
set_option maxRecDepth 100000 in
set_option maxHeartbeats 4000000 in
theorem law8d (n t me h : Int) (s : ByteArray) (l : List Wrd) (v : Value) (w0 : World) (hr : RdSl w0.heap v l.length 5 (l.flatMap encW)) (hf : few l) (hs : s.size ≤ 5000) (hk : okA n t me h s = true) : Cl Try.prog 8 #[.agg #[.int .i64 n, .int .i64 t, .int .i64 me, .int .i64 h, .string s], v] w0 (RetQ w0 fun v => v = .bool true) := by
  have M : Sep (fun _ => False) w0 w0 _ := Sep.nil _ w0
  have hro := ro_of hr
  obtain ⟨A, cc, rfl, hcc⟩ := hr.form
  have hfl := hf.1
  refine enter (vs := [_, _]) Try.func8 rfl rfl rfl ?_
  intro a F
  refine wp_seq ?_
  refine wp_region_l [.wr, .ind] ([0, 1]) rfl ?_
  refine s_bxA F M rfl rfl rfl rfl rfl ?_; (clear F a M; try clear w); intro b2 w M a F
  refine s_I F rfl rfl rfl rfl rfl rfl ?_; clear F a; intro a F
  refine t_endM M ?_; (clear M; try clear w); intro w M
  refine wp_seq ?_
  refine wp_seq ?_
  refine wp_region_l [.ind, .wr, .ind, .ind, .ind, .rd, .ind, .ind, .ind] ([0, 1, 2, 3, 4, 5, 6, 7, 8]) rfl ?_
  refine s_I F rfl rfl rfl rfl rfl rfl ?_; clear F a; intro a F
  refine s_cq F M rfl rfl rfl rfl rfl (rfl : _ = some [_]) cb_38_R5 (fun nd_ => c38y _ hf (M.chg.ro hro)) ?_; (clear F a M; try clear w); rintro v w rfl M a F
  refine s_bin F rfl rfl rfl rfl rfl rfl rfl ?_; clear F a; intro a F
  replace F : Fr _ _ ((21, Value.bool false) :: _) := F
  refine s_I F rfl rfl rfl rfl rfl rfl ?_; clear F a; intro a F
  refine s_fa0 F rfl rfl rfl rfl fa_48_4_R5 rfl ?_; clear F a; intro a F
  refine s_ld F rfl rfl rfl rfl sc_9_R5 rfl (by exact cell_of_blk M.h0 (lit rfl)) ?_; clear F a; intro a F
  refine s_lenS F rfl rfl rfl rfl st_9_R5 rfl ?_; clear F a; intro a F
  refine s_bin F rfl rfl rfl rfl rfl rfl rfl ?_; clear F a; intro a F
  refine s_I F rfl rfl rfl rfl rfl rfl ?_; clear F a; intro a F
  refine t_endM M ?_; (clear M; try clear w); intro w M
  refine c_if F rfl ?_ ?_
  ·
    clear F; intro hc0 F
    try rw [hc0] at F
    replace hc0 := of_decide_eq_true hc0
    exfalso
    omega
  ·
    clear F; intro hc1 F
    try rw [hc1] at F
    replace hc1 := of_decide_eq_false hc1
    refine wp_skip ?_
    refine wp_seq ?_
    replace F := F.keep [0, 1, 2, 4] rfl
    refine wp_region_l [.ind, .rd, .ind, .rd, .ind, .rd, .ind, .rd, .ind, .rd, .wr, .ind] ([0, 1, 2, 3, 4, 5, 6, 7, 8, 9, 10, 11]) rfl ?_
    refine s_fa0 F rfl rfl rfl rfl fa_48_0_R5 rfl ?_; clear F a; intro a F
    refine s_ld F rfl rfl rfl rfl sc_3_R5 rfl (by exact cell_of_blk M.h0 (lit rfl)) ?_; clear F a; intro a F
    refine s_fa0 F rfl rfl rfl rfl fa_48_1_R5 rfl ?_; clear F a; intro a F
    refine s_ld F rfl rfl rfl rfl sc_3_R5 rfl (by exact cell_of_blk M.h0 (lit rfl)) ?_; clear F a; intro a F
    refine s_fa0 F rfl rfl rfl rfl fa_48_2_R5 rfl ?_; clear F a; intro a F
    refine s_ld F rfl rfl rfl rfl sc_3_R5 rfl (by exact cell_of_blk M.h0 (lit rfl)) ?_; clear F a; intro a F
    refine s_fa0 F rfl rfl rfl rfl fa_48_3_R5 rfl ?_; clear F a; intro a F
    refine s_ld F rfl rfl rfl rfl sc_3_R5 rfl (by exact cell_of_blk M.h0 (lit rfl)) ?_; clear F a; intro a F
    refine s_fa0 F rfl rfl rfl rfl fa_48_4_R5 rfl ?_; clear F a; intro a F
    refine s_ld F rfl rfl rfl rfl sc_9_R5 rfl (by exact cell_of_blk M.h0 (lit rfl)) ?_; clear F a; intro a F
    refine s_call (m := []) F M rfl rfl rfl rfl rfl (rfl : _ = some [_, _, _, _, _]) cb_39_R5 (fun nd_ => c39r n t me h s hk _) ?_; (clear F a M; try clear w); rintro v g0 w rfl M a F; (try simp only [List.cons_append, List.nil_append] at M)
    refine s_I F rfl rfl rfl rfl rfl rfl ?_; clear F a; intro a F
    refine t_endM M ?_; (clear M; try clear w); intro w M
    refine wp_seq ?_
    replace F := F.keep [0, 1, 2, 4, 5] rfl
    refine wp_region_l [.ind, .rd, .ind, .rd, .ind, .rd, .ind, .rd, .ind, .rd, .wr, .ind, .ind, .ind, .wr, .wr, .ind] ([0, 1, 2, 3, 4, 5, 6, 7, 8, 9, 10, 11, 12, 13, 14, 15, 16]) rfl ?_
    refine s_fa0 F rfl rfl rfl rfl fa_48_0_R5 rfl ?_; clear F a; intro a F
    refine s_ld F rfl rfl rfl rfl sc_3_R5 rfl (by exact cell_of_blk M.h1 (lit rfl)) ?_; clear F a; intro a F
    refine s_fa0 F rfl rfl rfl rfl fa_48_1_R5 rfl ?_; clear F a; intro a F
    refine s_ld F rfl rfl rfl rfl sc_3_R5 rfl (by exact cell_of_blk M.h1 (lit rfl)) ?_; clear F a; intro a F
    refine s_fa0 F rfl rfl rfl rfl fa_48_2_R5 rfl ?_; clear F a; intro a F
    refine s_ld F rfl rfl rfl rfl sc_3_R5 rfl (by exact cell_of_blk M.h1 (lit rfl)) ?_; clear F a; intro a F
    refine s_fa0 F rfl rfl rfl rfl fa_48_3_R5 rfl ?_; clear F a; intro a F
    refine s_ld F rfl rfl rfl rfl sc_3_R5 rfl (by exact cell_of_blk M.h1 (lit rfl)) ?_; clear F a; intro a F
    refine s_fa0 F rfl rfl rfl rfl fa_48_4_R5 rfl ?_; clear F a; intro a F
    refine s_ld F rfl rfl rfl rfl sc_9_R5 rfl (by exact cell_of_blk M.h1 (lit rfl)) ?_; clear F a; intro a F
    refine s_cq F M rfl rfl rfl rfl rfl (rfl : _ = some [_, _, _, _, _]) cb_40_R5 (fun nd_ => c40 n t me h s hk _) ?_; (clear F a M; try clear w); rintro v w rfl M a F
    refine s_I F rfl rfl rfl rfl rfl rfl ?_; clear F a; intro a F
    refine s_I F rfl rfl rfl rfl rfl rfl ?_; clear F a; intro a F
    refine s_I F rfl rfl rfl rfl rfl rfl ?_; clear F a; intro a F
    refine s_alc F M rfl rfl rfl rfl zr_53_R5 rfl ?_; (clear F a M; try clear w); intro b6 w M a F
    refine s_stW F M rfl rfl rfl sz_53_R5 rfl rfl rfl rfl rfl ?_; (clear M; try clear w); intro w M
    refine s_I F rfl rfl rfl rfl rfl rfl ?_; clear F a; intro a F
    replace F : Fr _ _ ((7, Value.bool true) :: _) := F
    refine t_endM M ?_; (clear M; try clear w); intro w M
    refine wp_seq ?_
    refine wp_seq ?_
    replace F := F.keep [0, 1, 2, 4, 5, 6, 7] rfl
    refine wp_region_l [.ind, .ind, .ind, .ind, .ind, .ind] ([0, 1, 2, 3, 4, 5]) rfl ?_
    refine s_I F rfl rfl rfl rfl rfl rfl ?_; clear F a; intro a F
    refine s_I F rfl rfl rfl rfl rfl rfl ?_; clear F a; intro a F
    refine s_I F rfl rfl rfl rfl rfl rfl ?_; clear F a; intro a F
    refine s_I F rfl rfl rfl rfl rfl rfl ?_; clear F a; intro a F
    refine s_pn F rfl rfl rfl rfl pt_50_R5 rfl ?_; clear F a; intro a F
    replace F : Fr _ _ ((58, Value.bool false) :: _) := F
    refine s_I F rfl rfl rfl rfl rfl rfl ?_; clear F a; intro a F
    refine t_endM M ?_; (clear M; try clear w); intro w M
    refine c_f F rfl ?_
    refine wp_skip ?_
    refine wp_seq ?_
    refine wp_seq ?_
    replace F := F.keep [0, 1, 2, 4, 5, 6, 7] rfl
    refine wp_region_l [.ind, .ind, .wr, .ind, .ind] ([0, 1, 2, 3, 4]) rfl ?_
    refine s_I F rfl rfl rfl rfl rfl rfl ?_; clear F a; intro a F
    refine s_bld F rfl rfl rfl rfl (parts2 F rfl rfl) (bl_32_0_1_R5 _ _) ?_; clear F a; intro a F
    have M1 : Sep _ _ _ (agR _ _ :: _) := M.f1; replace M := M1; clear M1
    refine s_call (m := [_]) F M rfl rfl rfl rfl rfl (rfl : _ = some [_, _]) cb_41_R5 (fun nd_ => c41r g0 (newA n t me h s) ⟨2, 1, 0, 0, VoteM.empty⟩ (newA_wf hk) _ (M.drewN nd_).own.one) ?_; (clear F a M; try clear w); rintro v x w rfl M a F; (try simp only [List.cons_append, List.nil_append] at M)
    rw [st0_dead] at M
    obtain ⟨v1, o1⟩ := x
    dsimp only at M F
    obtain ⟨ZA, ZC, rfl⟩ := SlOk.form M.h1
    refine s_len F rfl rfl rfl rfl sl_22_R5 rfl ?_; clear F a; intro a F
    refine s_bin F rfl rfl rfl rfl rfl rfl rfl ?_; clear F a; intro a F
    replace F : Fr _ _ ((73, Value.bool false) :: _) := F
    refine t_endM M ?_; (clear M; try clear w); intro w M
    refine c_f F rfl ?_
    refine wp_skip ?_
    refine wp_seq ?_
    replace F := F.keep [0, 1, 2, 4, 5, 6, 7] rfl
    refine wp_region_l [.rd, .wr, .ind, .ind, .ind, .wr, .wr, .ind] ([0, 1, 2, 3, 4, 5, 6, 7]) rfl ?_
    refine s_lda F rfl rfl rfl rfl ag_53_R5 rfl rfl (cells_whole M.h2) ?_; clear F a; intro a F
    refine s_call (m := []) F M rfl rfl rfl rfl rfl (rfl : _ = some [_]) cb_42_R5 (fun nd_ => c42 (newA n t me h s) _) ?_; (clear F a M; try clear w); rintro v x1 w rfl M a F; (try simp only [List.cons_append, List.nil_append] at M)
    have hol := startO_len (newA n t me h s)
    refine s_I F rfl rfl rfl rfl rfl rfl ?_; clear F a; intro a F
    refine s_I F rfl rfl rfl rfl rfl rfl ?_; clear F a; intro a F
    refine s_I F rfl rfl rfl rfl rfl rfl ?_; clear F a; intro a F
    refine s_alc F M rfl rfl rfl rfl zr_53_R5 rfl ?_; (clear F a M; try clear w); intro b8 w M a F
    refine s_stW F M rfl rfl rfl sz_53_R5 rfl rfl rfl rfl rfl ?_; (clear M; try clear w); intro w M
    refine s_I F rfl rfl rfl rfl rfl rfl ?_; clear F a; intro a F
    refine t_endM M ?_; (clear M; try clear w); intro w M
    refine wp_seq ?_
    replace F := F.keep [0, 1, 2, 4, 5, 6, 7, 8, 9] rfl
    refine wp_region_l [.rd, .wr] ([0, 1]) rfl ?_
    refine s_lda F rfl rfl rfl rfl ag_53_R5 rfl rfl (cells_whole M.h0) ?_; clear F a; intro a F
    refine s_stW F M.f4 rfl rfl rfl sz_53_R5 rfl rfl rfl rfl rfl ?_; (clear M; try clear w); intro w M
    refine t_endM M ?_; (clear M; try clear w); intro w M
    refine wp_seq ?_
    refine wp_seq ?_
    replace F := F.keep [0, 1, 2, 4, 5, 6, 7, 8, 9] rfl
    refine wp_region_l [.ind, .wr, .ind, .wr, .ind, .ind, .ind, .wr, .ind, .ind, .ind] ([0, 1, 2, 3, 4, 5, 6, 7, 8, 9, 10]) rfl ?_
    refine s_I F rfl rfl rfl rfl rfl rfl ?_; clear F a; intro a F
    have M1 : Sep _ _ _ (agR _ _ :: _) := M.f3; replace M := M1; clear M1
    refine s_call (m := [_]) F M rfl rfl rfl rfl rfl (rfl : _ = some [_]) cb_44_R5 (fun nd_ => c44r ⟨g0.b, g0.vb, v1⟩ (newA n t me h s) _ (M.drewN nd_).own.one) ?_; (clear F a M; try clear w); rintro v x2 w rfl M a F; (try simp only [List.cons_append, List.nil_append] at M)
    refine s_I F rfl rfl rfl rfl rfl rfl ?_; clear F a; intro a F
    refine s_cq F M rfl rfl rfl rfl rfl (rfl : _ = some [_, _]) cb_43_R5 (fun nd_ => c43 (newA n t me h s).startO (newA n t me h s).startO (by omega) _ _ _ (by exact SlOk.rd M.h1) (by exact SlOk.rd M.h4)) ?_; (clear F a M; try clear w); rintro v w rfl M a F
    rw [decide_eq_true rfl] at F
    replace F : Fr _ _ ((83, Value.bool true) :: _) := F
    refine s_I F rfl rfl rfl rfl rfl rfl ?_; clear F a; intro a F
    refine s_I F rfl rfl rfl rfl rfl rfl ?_; clear F a; intro a F
    refine s_I F rfl rfl rfl rfl rfl rfl ?_; clear F a; intro a F
    have M1 : Sep _ _ _ (agR _ _ :: _) := M; replace M := M1; clear M1
    refine s_call (m := [_]) F M rfl rfl rfl rfl rfl (rfl : _ = some [_]) cb_44_R5 (fun nd_ => c44r ⟨g0.b, g0.vb, v1⟩ (newA n t me h s).start _ (M.drewN nd_).own.one) ?_; (clear F a M; try clear w); rintro v x3 w rfl M a F; (try simp only [List.cons_append, List.nil_append] at M)
    have h00 := (start_wf (newA_wf hk)).2
    rw [(start_dead h00).2] at M
    rw [(start_dead h00).1] at M
    obtain ⟨SA, SC, rfl⟩ := SlOk.form M.h1
    refine s_len F rfl rfl rfl rfl sl_22_R5 rfl ?_; clear F a; intro a F
    refine s_bin F rfl rfl rfl rfl rfl rfl rfl ?_; clear F a; intro a F
    replace F : Fr _ _ ((89, Value.bool false) :: _) := F
    refine s_I F rfl rfl rfl rfl rfl rfl ?_; clear F a; intro a F
    refine t_endM M ?_; (clear M; try clear w); intro w M
    refine c_f F rfl ?_
    refine wp_skip ?_
    refine wp_seq ?_
    refine wp_seq ?_
    replace F := F.keep [0, 1, 2, 4, 5, 6, 7, 8, 9] rfl
    refine wp_region_l [.ind] ([0]) rfl ?_
    refine s_I F rfl rfl rfl rfl rfl rfl ?_; clear F a; intro a F
    refine t_endM M ?_; (clear M; try clear w); intro w M
    refine wp_block ?_
    have hSm := AgrM.start_same (newA n t me h s)
    replace M := M.nilT encW 32 5
    replace M := Fw.Sep.wsC M (show ([] : List Wrd) = (newA n t me h s).start.Ps from hSm.Ps.symm)
    replace M := M.nilT encW 32 5
    replace M := Fw.Sep.wsC M (show ([] : List Wrd) = (newA n t me h s).start.L from hSm.L.symm)
    have M1 : Sep _ _ _ (blk b6 _ :: _) := M.f5; replace M := M1; clear M1
    have M1 : Sep _ _ _ (agR _ _ :: _) := M.f3; replace M := M1; clear M1
    replace M := Sep.left (m := [_, _, _, _]) M
    have M1 : Sep _ _ _ (wsR nilV (newA n t me h s).start.L :: _) := M.f2; replace M := M1; clear M1
    have M1 : Sep _ _ _ (wsR nilV (newA n t me h s).start.Ps :: _) := M; replace M := M1; clear M1
    have M1 : Sep _ _ _ (blk b6 _ :: _) := M.f2; replace M := M1; clear M1
    have M1 : Sep _ _ _ (agR _ _ :: _) := M.f2; replace M := M1; clear M1
    refine loopX (X := (Int) × (Ga) × (ASt) × (Value) × (Value)) F [0, 1, 2, 5, 6, 7, 8, 9] rfl (fun ((i, g, st, PV, LV) : (Int) × (Ga) × (ASt) × (Value) × (Value)) => (0 ≤ i) ∧ (i ≤ l.length) ∧ (g.b = g0.b) ∧ (st.Wf)) (fun ((i, g, st, PV, LV) : (Int) × (Ga) × (ASt) × (Value) × (Value)) => [(10, .int .i64 i)]) (fun ((i, g, st, PV, LV) : (Int) × (Ga) × (ASt) × (Value) × (Value)) => [agR g st, blk b6 (.cells (aC st PV LV) 53 (0, 0)), wsR PV st.Ps, wsR LV st.L]) (fun ((i, g, st, PV, LV) : (Int) × (Ga) × (ASt) × (Value) × (Value)) => l.length - i.toNat) ((0), (⟨g0.b, g0.vb, v1⟩), ((newA n t me h s).start), (nilV), (nilV)) M ⟨(by assumption), (by omega), rfl, (start_wf (newA_wf hk)).1⟩ (F.keep [10, 0, 1, 2, 5, 6, 7, 8, 9] rfl) ?_
    clear F M; clear a; (try clear w)
    rintro ⟨i, g, st, PV, LV⟩ a w ⟨i0, i1, hg, hW⟩ F M; try dsimp only at F M
    try simp only [List.cons_append, List.nil_append] at F M
    try dsimp only at i0 i1 hg hW
    rw [← hg] at F
    refine wp_seq ?_
    refine wp_seq ?_
    refine wp_region_l [.ind, .ind, .ind, .ind] ([0, 1, 2, 3]) rfl ?_
    refine s_I F rfl rfl rfl rfl rfl rfl ?_; clear F a; intro a F
    refine s_I F rfl rfl rfl rfl rfl rfl ?_; clear F a; intro a F
    refine s_len F rfl rfl rfl rfl sl_22_R5 rfl ?_; clear F a; intro a F
    refine s_bin F rfl rfl rfl rfl rfl rfl rfl ?_; clear F a; intro a F
    refine t_endM M ?_; (clear M; try clear w); intro w M
    refine c_if F rfl ?_ ?_
    ·
      clear F; intro hc2 F
      try rw [hc2] at F
      replace hc2 := of_decide_eq_true hc2
      refine wp_skip ?_
      refine wp_seq ?_
      refine wp_block ?_
      refine wp_seq ?_
      replace F := F.keep [0, 1, 2, 5, 6, 7, 8, 9, 10] rfl
      refine wp_region_t [.rd, .ind, .ind, .ind, .rd, .wr, .ind, .ind, .ind, .wr, .wr, .ind] [(0, 9), (4, 9)] (.one 0 (.one 1 (.one 2 (.one 3 (.one 4 (.two 5 9 (otOf [6, 7, 8, 9, 10, 11]) (otOf [5, 6, 7, 8, 10, 11]))))))) mixed (by kernel_rfl) ?_
      refine s_ldaL F rfl rfl rfl rfl ag_53_R5 rfl rfl (cells_whole M.h1) ?_; clear F a; intro a F
      refine s_I F rfl rfl rfl rfl rfl rfl ?_; clear F a; intro a F
      refine s_I F rfl rfl rfl rfl rfl rfl ?_; clear F a; intro a F
      refine s_ix F rfl rfl rfl rfl sl_22_R5 rfl rfl (by exact M.chg.ro hro) (by omega) (by omega) ?_; clear F a; intro e101 he101 a F
      refine s_ldaL F rfl rfl rfl rfl ag_32_R5 rfl rfl (rdsX (M.chg.ro hro) (by intro e; rfl) he101) ?_; clear F a; intro a F
      refine t_two ?_ ?_
      ·
        have M1 : Sep _ _ _ (wsR LV st.L :: _) := M.f3; replace M := M1; clear M1
        have M1 : Sep _ _ _ (wsR PV st.Ps :: _) := M.f3; replace M := M1; clear M1
        refine s_callP (m := [_, _]) F M rfl rfl rfl rfl rfl (rfl : _ = some [_, _]) cb_45_R5 (fun nd_ => c45r st hW e101 _ _ _ (Own.left (m := [_, _]) (M.drewN nd_).own)) (fun _ x w _ M => by (try simp only [List.cons_append, List.nil_append] at M); exact (by (refine pend_skip rfl ?_); (refine pend_skip rfl ?_); exact pend_none)) ?_; (clear F a M; try clear w); rintro v x w rfl M a F; (try simp only [List.cons_append, List.nil_append] at M)
        obtain ⟨PV2, LV2, ov⟩ := x
        dsimp only at M F
        obtain ⟨PA, PC, rfl⟩ := SlOk.form M.h0
        obtain ⟨LA, LC, rfl⟩ := SlOk.form M.h1
        refine s_I F rfl rfl rfl rfl rfl rfl ?_; clear F a; intro a F
        refine s_I F rfl rfl rfl rfl rfl rfl ?_; clear F a; intro a F
        refine s_I F rfl rfl rfl rfl rfl rfl ?_; clear F a; intro a F
        refine s_alcL F M rfl rfl rfl rfl zr_53_R5 rfl (fun b w M => (by (refine pend_take (by exact rdsX (M.chg.ro hro) (by intro e; rfl) he101) ?_); (refine pend_take (by exact cells_whole M.h5) ?_); exact pend_none)) ?_; (clear F a M; try clear w); intro b11 w M a F
        refine s_stWL F M rfl rfl rfl sz_53_R5 rfl rfl rfl rfl rfl (fun w M => (by (refine pend_skip rfl ?_); (refine pend_skip rfl ?_); exact pend_none)) ?_; (clear M; try clear w); intro w M
        refine s_I F rfl rfl rfl rfl rfl rfl ?_; clear F a; intro a F
        refine t_endM M ?_; (clear M; try clear w); intro w M
        refine wp_seq ?_
        replace F := F.keep [0, 1, 2, 5, 6, 7, 8, 9, 10, 11, 12] rfl
        refine wp_region_l [.rd, .wr] ([0, 1]) rfl ?_
        refine s_lda F rfl rfl rfl rfl ag_53_R5 rfl rfl (cells_whole M.h0) ?_; clear F a; intro a F
        refine s_stW F M.f5 rfl rfl rfl sz_53_R5 rfl rfl rfl rfl rfl ?_; (clear M; try clear w); intro w M
        refine t_endM M ?_; (clear M; try clear w); intro w M
        refine wp_seq ?_
        refine wp_seq ?_
        replace F := F.keep [0, 1, 2, 5, 6, 7, 8, 9, 10, 11, 12] rfl
        refine wp_region_l [.ind, .ind, .ind, .ind, .rd, .wr, .ind, .wr, .ind] ([0, 1, 2, 3, 4, 5, 6, 7, 8]) rfl ?_
        refine s_I F rfl rfl rfl rfl rfl rfl ?_; clear F a; intro a F
        refine s_I F rfl rfl rfl rfl rfl rfl ?_; clear F a; intro a F
        refine s_I F rfl rfl rfl rfl rfl rfl ?_; clear F a; intro a F
        refine s_ix F rfl rfl rfl rfl sl_22_R5 rfl rfl (by exact M.chg.ro hro) (by omega) (by omega) ?_; clear F a; intro e110 he110 a F
        try (obtain rfl := Option.some.inj (he101.symm.trans he110))
        refine s_lda F rfl rfl rfl rfl ag_32_R5 rfl rfl (rdsX (M.chg.ro hro) (by intro e; rfl) he110) ?_; clear F a; intro a F
        have M1 : Sep _ _ _ (agR _ _ :: _) := M.f5; replace M := M1; clear M1
        refine s_call (m := [_]) F M rfl rfl rfl rfl rfl (rfl : _ = some [_, _]) cb_41_R5 (fun nd_ => c41r g st e101 hW _ (M.drewN nd_).own.one) ?_; (clear F a M; try clear w); rintro v x w rfl M a F; (try simp only [List.cons_append, List.nil_append] at M)
        obtain ⟨v1, o1⟩ := x
        dsimp only at M F
        have htl := take_len hW e101
        refine s_I F rfl rfl rfl rfl rfl rfl ?_; clear F a; intro a F
        refine s_cq F M rfl rfl rfl rfl rfl (rfl : _ = some [_, _]) cb_43_R5 (fun nd_ => c43 (st.take e101).2 (st.take e101).2 (by omega) _ _ _ (by exact SlOk.rd M.h1) (by exact SlOk.rd M.h6)) ?_; (clear F a M; try clear w); rintro v w rfl M a F
        rw [decide_eq_true rfl] at F
        replace F : Fr _ _ ((114, Value.bool true) :: _) := F
        refine s_I F rfl rfl rfl rfl rfl rfl ?_; clear F a; intro a F
        refine t_endM M ?_; (clear M; try clear w); intro w M
        refine c_f F rfl ?_
        refine wp_skip ?_
        refine wp_seq ?_
        replace F := F.keep [0, 1, 2, 5, 6, 7, 8, 9, 10, 11, 12] rfl
        refine wp_region_l [.ind, .wr, .ind, .ind, .ind, .ind, .ind] ([0, 1, 2, 3, 4, 5, 6]) rfl ?_
        refine s_I F rfl rfl rfl rfl rfl rfl ?_; clear F a; intro a F
        refine s_cq F M rfl rfl rfl rfl rfl (rfl : _ = some [_]) cb_46_R5 (fun nd_ => c46r ⟨g.b, g.vb, v1⟩ (st.take e101).1 _ (by exact M.h0)) ?_; (clear F a M; try clear w); rintro v w rfl M a F
        refine s_I F rfl rfl rfl rfl rfl rfl ?_; clear F a; intro a F
        refine s_I F rfl rfl rfl rfl rfl rfl ?_; clear F a; intro a F
        refine s_I F rfl rfl rfl rfl rfl rfl ?_; clear F a; intro a F
        refine s_I F rfl rfl rfl rfl rfl rfl ?_; clear F a; intro a F
        refine s_I F rfl rfl rfl rfl rfl rfl ?_; clear F a; intro a F
        refine t_endM M ?_; (clear M; try clear w); intro w M
        refine wp_seq ?_
        replace F := F.keep [0, 1, 2, 5, 6, 7, 8, 9, 10, 11, 12, 13, 14] rfl
        refine wp_region_l [.ind, .wr, .ind, .ind, .ind, .ind, .ind] ([0, 1, 2, 3, 4, 5, 6]) rfl ?_
        refine s_I F rfl rfl rfl rfl rfl rfl ?_; clear F a; intro a F
        refine s_cq F M rfl rfl rfl rfl rfl (rfl : _ = some [_]) cb_47_R5 (fun nd_ => c47r ⟨g.b, g.vb, v1⟩ (st.take e101).1 _ (by exact M.h0)) ?_; (clear F a M; try clear w); rintro v w rfl M a F
        refine s_I F rfl rfl rfl rfl rfl rfl ?_; clear F a; intro a F
        refine s_I F rfl rfl rfl rfl rfl rfl ?_; clear F a; intro a F
        refine s_I F rfl rfl rfl rfl rfl rfl ?_; clear F a; intro a F
        refine s_I F rfl rfl rfl rfl rfl rfl ?_; clear F a; intro a F
        refine s_I F rfl rfl rfl rfl rfl rfl ?_; clear F a; intro a F
        refine t_endM M ?_; (clear M; try clear w); intro w M
        refine wp_seq ?_
        replace F := F.keep [0, 1, 2, 5, 6, 7, 8, 9, 10, 11, 12, 13, 14, 15, 16] rfl
        refine wp_region_l [.ind, .wr, .ind, .ind, .ind, .ind, .ind] ([0, 1, 2, 3, 4, 5, 6]) rfl ?_
        refine s_I F rfl rfl rfl rfl rfl rfl ?_; clear F a; intro a F
        refine s_cq F M rfl rfl rfl rfl rfl (rfl : _ = some [_]) cb_48_R5 (fun nd_ => c48r ⟨g.b, g.vb, v1⟩ (st.take e101).1 _ (by exact M.h0)) ?_; (clear F a M; try clear w); rintro v w rfl M a F
        refine s_I F rfl rfl rfl rfl rfl rfl ?_; clear F a; intro a F
        refine s_I F rfl rfl rfl rfl rfl rfl ?_; clear F a; intro a F
        refine s_I F rfl rfl rfl rfl rfl rfl ?_; clear F a; intro a F
        refine s_I F rfl rfl rfl rfl rfl rfl ?_; clear F a; intro a F
        refine s_I F rfl rfl rfl rfl rfl rfl ?_; clear F a; intro a F
        refine t_endM M ?_; (clear M; try clear w); intro w M
        refine wp_seq ?_
        replace F := F.keep [0, 1, 2, 5, 6, 7, 8, 9, 10, 11, 12, 13, 14, 15, 16, 17, 18] rfl
        refine wp_region_l [.ind, .ind, .rd, .ind, .ind, .ind, .ind, .rd, .ind, .ind, .ind, .ind, .ind, .rd, .ind, .ind, .ind, .ind, .ind, .rd, .ind, .ind, .ind, .ind, .ind, .rd, .ind, .ind, .ind, .ind, .ind, .rd, .ind, .ind] ([0, 1, 2, 3, 4, 5, 6, 7, 8, 9, 10, 11, 12, 13, 14, 15, 16, 17, 18, 19, 20, 21, 22, 23, 24, 25, 26, 27, 28, 29, 30, 31, 32, 33]) rfl ?_
        refine s_I F rfl rfl rfl rfl rfl rfl ?_; clear F a; intro a F
        refine s_fa0 F rfl rfl rfl rfl fa_53_3_R5 rfl ?_; clear F a; intro a F
        refine s_ld F rfl rfl rfl rfl sc_3_R5 rfl (by exact cell_of_blk M.h2 (lit rfl)) ?_; clear F a; intro a F
        refine s_bin F rfl rfl rfl rfl rfl rfl rfl ?_; clear F a; intro a F
        refine s_I F rfl rfl rfl rfl rfl rfl ?_; clear F a; intro a F
        refine bsplit F 135 rfl ?_ ?_
        ·
          clear F; intro hc3 F
          try rw [hc3] at F
          replace hc3 := nd1 hc3
          exact absurd rfl (by assumption)
        ·
          clear F; intro hc4 F
          try rw [hc4] at F
          replace hc4 := nd0 hc4
          refine s_I F rfl rfl rfl rfl rfl rfl ?_; clear F a; intro a F
          refine s_fa0 F rfl rfl rfl rfl fa_53_4_R5 rfl ?_; clear F a; intro a F
          refine s_ld F rfl rfl rfl rfl sc_3_R5 rfl (by exact cell_of_blk M.h2 (lit rfl)) ?_; clear F a; intro a F
          refine s_bin F rfl rfl rfl rfl rfl rfl rfl ?_; clear F a; intro a F
          refine s_I F rfl rfl rfl rfl rfl rfl ?_; clear F a; intro a F
          refine s_I F rfl rfl rfl rfl rfl rfl ?_; clear F a; intro a F
          refine bsplit F 141 rfl ?_ ?_
          ·
            clear F; intro hc5 F
            try rw [hc5] at F
            replace hc5 := nd1 hc5
            exact absurd rfl (by assumption)
          ·
            clear F; intro hc6 F
            try rw [hc6] at F
            replace hc6 := nd0 hc6
            refine s_I F rfl rfl rfl rfl rfl rfl ?_; clear F a; intro a F
            refine s_fa0 F rfl rfl rfl rfl fa_53_5_R5 rfl ?_; clear F a; intro a F
            refine s_ld F rfl rfl rfl rfl sc_9_R5 rfl (by exact cell_of_blk M.h2 (lit rfl)) ?_; clear F a; intro a F
            refine s_bin F rfl rfl rfl rfl rfl rfl rfl ?_; clear F a; intro a F
            refine s_I F rfl rfl rfl rfl rfl rfl ?_; clear F a; intro a F
            refine s_I F rfl rfl rfl rfl rfl rfl ?_; clear F a; intro a F
            refine bsplit F 147 rfl ?_ ?_
            ·
              clear F; intro hc7 F
              try rw [hc7] at F
              replace hc7 := nd1 hc7
              exact absurd rfl (by assumption)
            ·
              clear F; intro hc8 F
              try rw [hc8] at F
              replace hc8 := nd0 hc8
              refine s_I F rfl rfl rfl rfl rfl rfl ?_; clear F a; intro a F
              refine s_fa0 F rfl rfl rfl rfl fa_53_6_R5 rfl ?_; clear F a; intro a F
              refine s_ld F rfl rfl rfl rfl sc_3_R5 rfl (by exact cell_of_blk M.h2 (lit rfl)) ?_; clear F a; intro a F
              refine s_bin F rfl rfl rfl rfl rfl rfl rfl ?_; clear F a; intro a F
              refine s_I F rfl rfl rfl rfl rfl rfl ?_; clear F a; intro a F
              refine s_I F rfl rfl rfl rfl rfl rfl ?_; clear F a; intro a F
              refine bsplit F 153 rfl ?_ ?_
              ·
                clear F; intro hc9 F
                try rw [hc9] at F
                replace hc9 := nd1 hc9
                exact absurd rfl (by assumption)
              ·
                clear F; intro hc10 F
                try rw [hc10] at F
                replace hc10 := nd0 hc10
                refine s_I F rfl rfl rfl rfl rfl rfl ?_; clear F a; intro a F
                refine s_fa0 F rfl rfl rfl rfl fa_53_13_R5 rfl ?_; clear F a; intro a F
                refine s_ld F rfl rfl rfl rfl sc_9_R5 rfl (by exact cell_of_blk M.h2 (lit rfl)) ?_; clear F a; intro a F
                refine s_bin F rfl rfl rfl rfl rfl rfl rfl ?_; clear F a; intro a F
                refine s_I F rfl rfl rfl rfl rfl rfl ?_; clear F a; intro a F
                refine s_I F rfl rfl rfl rfl rfl rfl ?_; clear F a; intro a F
                refine bsplit F 159 rfl ?_ ?_
                ·
                  clear F; intro hc11 F
                  try rw [hc11] at F
                  replace hc11 := nd1 hc11
                  exact absurd rfl (by assumption)
                ·
                  clear F; intro hc12 F
                  try rw [hc12] at F
                  replace hc12 := nd0 hc12
                  refine s_I F rfl rfl rfl rfl rfl rfl ?_; clear F a; intro a F
                  refine s_fa0 F rfl rfl rfl rfl fa_53_12_R5 rfl ?_; clear F a; intro a F
                  refine s_ld F rfl rfl rfl rfl sc_4_R5 rfl (by exact cell_of_blk M.h2 (lit rfl)) ?_; clear F a; intro a F
                  refine s_bne F rfl rfl rfl rfl bo_4_R5 rfl rfl ?_; clear F a; intro a F
                  refine s_I F rfl rfl rfl rfl rfl rfl ?_; clear F a; intro a F
                  refine t_endM M ?_; (clear M; try clear w); intro w M
                  refine c_if F rfl ?_ ?_
                  ·
                    clear F; intro hc13 F
                    try rw [hc13] at F
                    replace hc13 := nd1 hc13
                    exact absurd rfl (by assumption)
                  ·
                    clear F; intro hc14 F
                    try rw [hc14] at F
                    replace hc14 := nd0 hc14
                    refine wp_skip ?_
                    replace F := F.keep [0, 1, 2, 5, 6, 7, 8, 9, 10, 11, 12, 13, 14, 15, 16, 17, 18] rfl
                    refine wp_region_l [.ind, .ind, .ind] ([0, 1, 2]) rfl ?_
                    refine s_I F rfl rfl rfl rfl rfl rfl ?_; clear F a; intro a F
                    refine s_add F rfl rfl rfl rfl rfl rfl (by unfold In64; omega) ?_; clear F a; intro a F
                    refine s_I F rfl rfl rfl rfl rfl rfl ?_; clear F a; intro a F
                    refine t_endM M ?_; (clear M; try clear w); intro w M
                    rw [hg] at F
                    have M1 : Sep _ _ _ (slR (.slice LA _ LC) _ _ _ _ :: _) := M.f5; replace M := M1; clear M1
                    have M1 : Sep _ _ _ (slR (.slice PA _ PC) _ _ _ _ :: _) := M.f5; replace M := M1; clear M1
                    have M1 : Sep _ _ _ (blk b6 _ :: _) := M.f4; replace M := M1; clear M1
                    have M1 : Sep _ _ _ (agR _ _ :: _) := M.f3; replace M := M1; clear M1
                    replace M := Sep.left (m := [_, _, _, _]) M
                    refine again ((i + 1), (⟨g.b, g.vb, v1⟩), ((st.take e101).1), (.slice PA (st.take e101).1.Ps.length PC), (.slice LA (st.take e101).1.L.length LC)) (by show _ < _; (try dsimp only); omega) ⟨(by omega), (by assumption), hg, (take_wf hW e101).1⟩ (F.keep [10, 0, 1, 2, 5, 6, 7, 8, 9] rfl) ?_
                    try dsimp only [List.cons_append, List.nil_append]
                    refine M.pick ?_; repeat (first | exact PkG.nil | refine PkG.cons 0 rfl rfl ?_ | refine PkG.cons 1 rfl rfl ?_ | refine PkG.cons 2 rfl rfl ?_ | refine PkG.cons 3 rfl rfl ?_)
      ·
        refine s_alcL F M rfl rfl rfl rfl zr_53_R5 rfl (fun b w M => (by (refine pend_take (by exact rdsX (M.chg.ro hro) (by intro e; rfl) he101) ?_); (refine pend_take (by exact cells_whole M.h2) ?_); exact pend_none)) ?_; (clear F a M; try clear w); intro b11 w M a F
        have M1 : Sep _ _ _ (wsR LV st.L :: _) := M.f4; replace M := M1; clear M1
        have M1 : Sep _ _ _ (wsR PV st.Ps :: _) := M.f4; replace M := M1; clear M1
        refine s_callP (m := [_, _]) F M rfl rfl rfl rfl rfl (rfl : _ = some [_, _]) cb_45_R5 (fun nd_ => c45r st hW e101 _ _ _ (Own.left (m := [_, _]) (M.drewN nd_).own)) (fun _ x w _ M => by (try simp only [List.cons_append, List.nil_append] at M); exact (by (refine pend_skip rfl ?_); (refine pend_skip rfl ?_); exact pend_none)) ?_; (clear F a M; try clear w); rintro v x w rfl M a F; (try simp only [List.cons_append, List.nil_append] at M)
        obtain ⟨PV2, LV2, ov⟩ := x
        dsimp only at M F
        obtain ⟨PA, PC, rfl⟩ := SlOk.form M.h0
        obtain ⟨LA, LC, rfl⟩ := SlOk.form M.h1
        refine s_I F rfl rfl rfl rfl rfl rfl ?_; clear F a; intro a F
        refine s_I F rfl rfl rfl rfl rfl rfl ?_; clear F a; intro a F
        refine s_I F rfl rfl rfl rfl rfl rfl ?_; clear F a; intro a F
        refine s_stWL F M.f3 rfl rfl rfl sz_53_R5 rfl rfl rfl rfl rfl (fun w M => (by (refine pend_skip rfl ?_); (refine pend_skip rfl ?_); exact pend_none)) ?_; (clear M; try clear w); intro w M
        refine s_I F rfl rfl rfl rfl rfl rfl ?_; clear F a; intro a F
        refine t_endM M ?_; (clear M; try clear w); intro w M
        refine wp_seq ?_
        replace F := F.keep [0, 1, 2, 5, 6, 7, 8, 9, 10, 11, 12] rfl
        refine wp_region_l [.rd, .wr] ([0, 1]) rfl ?_
        refine s_lda F rfl rfl rfl rfl ag_53_R5 rfl rfl (cells_whole M.h0) ?_; clear F a; intro a F
        refine s_stW F M.f5 rfl rfl rfl sz_53_R5 rfl rfl rfl rfl rfl ?_; (clear M; try clear w); intro w M
        refine t_endM M ?_; (clear M; try clear w); intro w M
        refine wp_seq ?_
        refine wp_seq ?_
        replace F := F.keep [0, 1, 2, 5, 6, 7, 8, 9, 10, 11, 12] rfl
        refine wp_region_l [.ind, .ind, .ind, .ind, .rd, .wr, .ind, .wr, .ind] ([0, 1, 2, 3, 4, 5, 6, 7, 8]) rfl ?_
        refine s_I F rfl rfl rfl rfl rfl rfl ?_; clear F a; intro a F
        refine s_I F rfl rfl rfl rfl rfl rfl ?_; clear F a; intro a F
        refine s_I F rfl rfl rfl rfl rfl rfl ?_; clear F a; intro a F
        refine s_ix F rfl rfl rfl rfl sl_22_R5 rfl rfl (by exact M.chg.ro hro) (by omega) (by omega) ?_; clear F a; intro e110 he110 a F
        try (obtain rfl := Option.some.inj (he101.symm.trans he110))
        refine s_lda F rfl rfl rfl rfl ag_32_R5 rfl rfl (rdsX (M.chg.ro hro) (by intro e; rfl) he110) ?_; clear F a; intro a F
        have M1 : Sep _ _ _ (agR _ _ :: _) := M.f5; replace M := M1; clear M1
        refine s_call (m := [_]) F M rfl rfl rfl rfl rfl (rfl : _ = some [_, _]) cb_41_R5 (fun nd_ => c41r g st e101 hW _ (M.drewN nd_).own.one) ?_; (clear F a M; try clear w); rintro v x w rfl M a F; (try simp only [List.cons_append, List.nil_append] at M)
        obtain ⟨v1, o1⟩ := x
        dsimp only at M F
        have htl := take_len hW e101
        refine s_I F rfl rfl rfl rfl rfl rfl ?_; clear F a; intro a F
        refine s_cq F M rfl rfl rfl rfl rfl (rfl : _ = some [_, _]) cb_43_R5 (fun nd_ => c43 (st.take e101).2 (st.take e101).2 (by omega) _ _ _ (by exact SlOk.rd M.h1) (by exact SlOk.rd M.h6)) ?_; (clear F a M; try clear w); rintro v w rfl M a F
        rw [decide_eq_true rfl] at F
        replace F : Fr _ _ ((114, Value.bool true) :: _) := F
        refine s_I F rfl rfl rfl rfl rfl rfl ?_; clear F a; intro a F
        refine t_endM M ?_; (clear M; try clear w); intro w M
        refine c_f F rfl ?_
        refine wp_skip ?_
        refine wp_seq ?_
        replace F := F.keep [0, 1, 2, 5, 6, 7, 8, 9, 10, 11, 12] rfl
        refine wp_region_l [.ind, .wr, .ind, .ind, .ind, .ind, .ind] ([0, 1, 2, 3, 4, 5, 6]) rfl ?_
        refine s_I F rfl rfl rfl rfl rfl rfl ?_; clear F a; intro a F
        refine s_cq F M rfl rfl rfl rfl rfl (rfl : _ = some [_]) cb_46_R5 (fun nd_ => c46r ⟨g.b, g.vb, v1⟩ (st.take e101).1 _ (by exact M.h0)) ?_; (clear F a M; try clear w); rintro v w rfl M a F
        refine s_I F rfl rfl rfl rfl rfl rfl ?_; clear F a; intro a F
        refine s_I F rfl rfl rfl rfl rfl rfl ?_; clear F a; intro a F
        refine s_I F rfl rfl rfl rfl rfl rfl ?_; clear F a; intro a F
        refine s_I F rfl rfl rfl rfl rfl rfl ?_; clear F a; intro a F
        refine s_I F rfl rfl rfl rfl rfl rfl ?_; clear F a; intro a F
        refine t_endM M ?_; (clear M; try clear w); intro w M
        refine wp_seq ?_
        replace F := F.keep [0, 1, 2, 5, 6, 7, 8, 9, 10, 11, 12, 13, 14] rfl
        refine wp_region_l [.ind, .wr, .ind, .ind, .ind, .ind, .ind] ([0, 1, 2, 3, 4, 5, 6]) rfl ?_
        refine s_I F rfl rfl rfl rfl rfl rfl ?_; clear F a; intro a F
        refine s_cq F M rfl rfl rfl rfl rfl (rfl : _ = some [_]) cb_47_R5 (fun nd_ => c47r ⟨g.b, g.vb, v1⟩ (st.take e101).1 _ (by exact M.h0)) ?_; (clear F a M; try clear w); rintro v w rfl M a F
        refine s_I F rfl rfl rfl rfl rfl rfl ?_; clear F a; intro a F
        refine s_I F rfl rfl rfl rfl rfl rfl ?_; clear F a; intro a F
        refine s_I F rfl rfl rfl rfl rfl rfl ?_; clear F a; intro a F
        refine s_I F rfl rfl rfl rfl rfl rfl ?_; clear F a; intro a F
        refine s_I F rfl rfl rfl rfl rfl rfl ?_; clear F a; intro a F
        refine t_endM M ?_; (clear M; try clear w); intro w M
        refine wp_seq ?_
        replace F := F.keep [0, 1, 2, 5, 6, 7, 8, 9, 10, 11, 12, 13, 14, 15, 16] rfl
        refine wp_region_l [.ind, .wr, .ind, .ind, .ind, .ind, .ind] ([0, 1, 2, 3, 4, 5, 6]) rfl ?_
        refine s_I F rfl rfl rfl rfl rfl rfl ?_; clear F a; intro a F
        refine s_cq F M rfl rfl rfl rfl rfl (rfl : _ = some [_]) cb_48_R5 (fun nd_ => c48r ⟨g.b, g.vb, v1⟩ (st.take e101).1 _ (by exact M.h0)) ?_; (clear F a M; try clear w); rintro v w rfl M a F
        refine s_I F rfl rfl rfl rfl rfl rfl ?_; clear F a; intro a F
        refine s_I F rfl rfl rfl rfl rfl rfl ?_; clear F a; intro a F
        refine s_I F rfl rfl rfl rfl rfl rfl ?_; clear F a; intro a F
        refine s_I F rfl rfl rfl rfl rfl rfl ?_; clear F a; intro a F
        refine s_I F rfl rfl rfl rfl rfl rfl ?_; clear F a; intro a F
        refine t_endM M ?_; (clear M; try clear w); intro w M
        refine wp_seq ?_
        replace F := F.keep [0, 1, 2, 5, 6, 7, 8, 9, 10, 11, 12, 13, 14, 15, 16, 17, 18] rfl
        refine wp_region_l [.ind, .ind, .rd, .ind, .ind, .ind, .ind, .rd, .ind, .ind, .ind, .ind, .ind, .rd, .ind, .ind, .ind, .ind, .ind, .rd, .ind, .ind, .ind, .ind, .ind, .rd, .ind, .ind, .ind, .ind, .ind, .rd, .ind, .ind] ([0, 1, 2, 3, 4, 5, 6, 7, 8, 9, 10, 11, 12, 13, 14, 15, 16, 17, 18, 19, 20, 21, 22, 23, 24, 25, 26, 27, 28, 29, 30, 31, 32, 33]) rfl ?_
        refine s_I F rfl rfl rfl rfl rfl rfl ?_; clear F a; intro a F
        refine s_fa0 F rfl rfl rfl rfl fa_53_3_R5 rfl ?_; clear F a; intro a F
        refine s_ld F rfl rfl rfl rfl sc_3_R5 rfl (by exact cell_of_blk M.h2 (lit rfl)) ?_; clear F a; intro a F
        refine s_bin F rfl rfl rfl rfl rfl rfl rfl ?_; clear F a; intro a F
        refine s_I F rfl rfl rfl rfl rfl rfl ?_; clear F a; intro a F
        refine bsplit F 135 rfl ?_ ?_
        ·
          clear F; intro hc15 F
          try rw [hc15] at F
          replace hc15 := nd1 hc15
          exact absurd rfl (by assumption)
        ·
          clear F; intro hc16 F
          try rw [hc16] at F
          replace hc16 := nd0 hc16
          refine s_I F rfl rfl rfl rfl rfl rfl ?_; clear F a; intro a F
          refine s_fa0 F rfl rfl rfl rfl fa_53_4_R5 rfl ?_; clear F a; intro a F
          refine s_ld F rfl rfl rfl rfl sc_3_R5 rfl (by exact cell_of_blk M.h2 (lit rfl)) ?_; clear F a; intro a F
          refine s_bin F rfl rfl rfl rfl rfl rfl rfl ?_; clear F a; intro a F
          refine s_I F rfl rfl rfl rfl rfl rfl ?_; clear F a; intro a F
          refine s_I F rfl rfl rfl rfl rfl rfl ?_; clear F a; intro a F
          refine bsplit F 141 rfl ?_ ?_
          ·
            clear F; intro hc17 F
            try rw [hc17] at F
            replace hc17 := nd1 hc17
            exact absurd rfl (by assumption)
          ·
            clear F; intro hc18 F
            try rw [hc18] at F
            replace hc18 := nd0 hc18
            refine s_I F rfl rfl rfl rfl rfl rfl ?_; clear F a; intro a F
            refine s_fa0 F rfl rfl rfl rfl fa_53_5_R5 rfl ?_; clear F a; intro a F
            refine s_ld F rfl rfl rfl rfl sc_9_R5 rfl (by exact cell_of_blk M.h2 (lit rfl)) ?_; clear F a; intro a F
            refine s_bin F rfl rfl rfl rfl rfl rfl rfl ?_; clear F a; intro a F
            refine s_I F rfl rfl rfl rfl rfl rfl ?_; clear F a; intro a F
            refine s_I F rfl rfl rfl rfl rfl rfl ?_; clear F a; intro a F
            refine bsplit F 147 rfl ?_ ?_
            ·
              clear F; intro hc19 F
              try rw [hc19] at F
              replace hc19 := nd1 hc19
              exact absurd rfl (by assumption)
            ·
              clear F; intro hc20 F
              try rw [hc20] at F
              replace hc20 := nd0 hc20
              refine s_I F rfl rfl rfl rfl rfl rfl ?_; clear F a; intro a F
              refine s_fa0 F rfl rfl rfl rfl fa_53_6_R5 rfl ?_; clear F a; intro a F
              refine s_ld F rfl rfl rfl rfl sc_3_R5 rfl (by exact cell_of_blk M.h2 (lit rfl)) ?_; clear F a; intro a F
              refine s_bin F rfl rfl rfl rfl rfl rfl rfl ?_; clear F a; intro a F
              refine s_I F rfl rfl rfl rfl rfl rfl ?_; clear F a; intro a F
              refine s_I F rfl rfl rfl rfl rfl rfl ?_; clear F a; intro a F
              refine bsplit F 153 rfl ?_ ?_
              ·
                clear F; intro hc21 F
                try rw [hc21] at F
                replace hc21 := nd1 hc21
                exact absurd rfl (by assumption)
              ·
                clear F; intro hc22 F
                try rw [hc22] at F
                replace hc22 := nd0 hc22
                refine s_I F rfl rfl rfl rfl rfl rfl ?_; clear F a; intro a F
                refine s_fa0 F rfl rfl rfl rfl fa_53_13_R5 rfl ?_; clear F a; intro a F
                refine s_ld F rfl rfl rfl rfl sc_9_R5 rfl (by exact cell_of_blk M.h2 (lit rfl)) ?_; clear F a; intro a F
                refine s_bin F rfl rfl rfl rfl rfl rfl rfl ?_; clear F a; intro a F
                refine s_I F rfl rfl rfl rfl rfl rfl ?_; clear F a; intro a F
                refine s_I F rfl rfl rfl rfl rfl rfl ?_; clear F a; intro a F
                refine bsplit F 159 rfl ?_ ?_
                ·
                  clear F; intro hc23 F
                  try rw [hc23] at F
                  replace hc23 := nd1 hc23
                  exact absurd rfl (by assumption)
                ·
                  clear F; intro hc24 F
                  try rw [hc24] at F
                  replace hc24 := nd0 hc24
                  refine s_I F rfl rfl rfl rfl rfl rfl ?_; clear F a; intro a F
                  refine s_fa0 F rfl rfl rfl rfl fa_53_12_R5 rfl ?_; clear F a; intro a F
                  refine s_ld F rfl rfl rfl rfl sc_4_R5 rfl (by exact cell_of_blk M.h2 (lit rfl)) ?_; clear F a; intro a F
                  refine s_bne F rfl rfl rfl rfl bo_4_R5 rfl rfl ?_; clear F a; intro a F
                  refine s_I F rfl rfl rfl rfl rfl rfl ?_; clear F a; intro a F
                  refine t_endM M ?_; (clear M; try clear w); intro w M
                  refine c_if F rfl ?_ ?_
                  ·
                    clear F; intro hc25 F
                    try rw [hc25] at F
                    replace hc25 := nd1 hc25
                    exact absurd rfl (by assumption)
                  ·
                    clear F; intro hc26 F
                    try rw [hc26] at F
                    replace hc26 := nd0 hc26
                    refine wp_skip ?_
                    replace F := F.keep [0, 1, 2, 5, 6, 7, 8, 9, 10, 11, 12, 13, 14, 15, 16, 17, 18] rfl
                    refine wp_region_l [.ind, .ind, .ind] ([0, 1, 2]) rfl ?_
                    refine s_I F rfl rfl rfl rfl rfl rfl ?_; clear F a; intro a F
                    refine s_add F rfl rfl rfl rfl rfl rfl (by unfold In64; omega) ?_; clear F a; intro a F
                    refine s_I F rfl rfl rfl rfl rfl rfl ?_; clear F a; intro a F
                    refine t_endM M ?_; (clear M; try clear w); intro w M
                    rw [hg] at F
                    have M1 : Sep _ _ _ (slR (.slice LA _ LC) _ _ _ _ :: _) := M.f5; replace M := M1; clear M1
                    have M1 : Sep _ _ _ (slR (.slice PA _ PC) _ _ _ _ :: _) := M.f5; replace M := M1; clear M1
                    have M1 : Sep _ _ _ (blk b6 _ :: _) := M.f4; replace M := M1; clear M1
                    have M1 : Sep _ _ _ (agR _ _ :: _) := M.f3; replace M := M1; clear M1
                    replace M := Sep.left (m := [_, _, _, _]) M
                    refine again ((i + 1), (⟨g.b, g.vb, v1⟩), ((st.take e101).1), (.slice PA (st.take e101).1.Ps.length PC), (.slice LA (st.take e101).1.L.length LC)) (by show _ < _; (try dsimp only); omega) ⟨(by omega), (by assumption), hg, (take_wf hW e101).1⟩ (F.keep [10, 0, 1, 2, 5, 6, 7, 8, 9] rfl) ?_
                    try dsimp only [List.cons_append, List.nil_append]
                    refine M.pick ?_; repeat (first | exact PkG.nil | refine PkG.cons 0 rfl rfl ?_ | refine PkG.cons 1 rfl rfl ?_ | refine PkG.cons 2 rfl rfl ?_ | refine PkG.cons 3 rfl rfl ?_)
    ·
      clear F; intro hc27 F
      try rw [hc27] at F
      replace hc27 := of_decide_eq_false hc27
      refine wp_exit ?_
      refine wp_seq ?_
      replace F := F.keep [0, 1, 2, 5, 6, 7, 8, 9, 10] rfl
      refine wp_region_l [.wr, .ind] ([0, 1]) rfl ?_
      refine s_cq F M rfl rfl rfl rfl rfl (rfl : _ = some []) cb_37_R5 (fun nd_ => c37 _) ?_; (clear F a M; try clear w); rintro v w rfl M a F
      refine s_I F rfl rfl rfl rfl rfl rfl ?_; clear F a; intro a F
      refine t_endM M ?_; (clear M; try clear w); intro w M
      refine wp_ret ?_
      refine ret1 F rfl rfl ?_
      -- end 0
      exact ⟨_, rfl, rfl, M.chg⟩
theorem law8 (n t me h : Int) (s : ByteArray) (l : List Wrd) (v : Value) (w0 : World) (hr : RdSl w0.heap v l.length 5 (l.flatMap encW)) : Cl Try.prog 8 #[.agg #[.int .i64 n, .int .i64 t, .int .i64 me, .int .i64 h, .string s], v] w0 (RetQ w0 fun v => v = .bool true) := by
  by_cases hf : few l
  · by_cases hs : 5000 < s.size
    · exact law8b n t me h s l v w0 hr hf hs
    · cases hk : okA n t me h s
      · exact law8c n t me h s l v w0 hr hf (by omega) hk
      · exact law8d n t me h s l v w0 hr hf (by omega) hk
  · exact law8a n t me h s l v w0 hr hf
end Go.Proofs.Ytboibdmflblphaa
