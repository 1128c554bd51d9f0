/- K10 of the seat. -/
import Derived.Test.YtibomfgeemhogaaK9
namespace Go.Proofs.Ytibomfgeemhogaa
open Go Fw
theorem cb_25_K10 : callB Try.prog 25 = true := by kernel_rfl
theorem pt_58_K10 : ptrB Try.prog 58 = true := by kernel_rfl
theorem bl_38_0_1_2_K10 : ∀ (x0 : Int) (x1 : Int) (x2 : ByteArray), ∀ w : World, (Instr.build 38 #[(0, .int .i64 x0), (1, .int .i64 x1), (2, .string x2)]).run Try.prog w = .ok (.agg #[.int .i64 x0, .int .i64 x1, .string x2]) w := by intros; kernel_rfl
theorem bl_70_0_1_2_K10 : ∀ (x0 : Int) (x1 : Int) (x2_0 : Int) (x2_1 : Int) (x2_2 : ByteArray), ∀ w : World, (Instr.build 70 #[(0, .int .i64 x0), (1, .int .i64 x1), (2, .agg #[.int .i64 x2_0, .int .i64 x2_1, .string x2_2])]).run Try.prog w = .ok (.agg #[.int .i64 x0, .int .i64 x1, .int .i64 x2_0, .int .i64 x2_1, .string x2_2]) w := by intros; kernel_rfl
theorem cb_29_K10 : callB Try.prog 29 = true := by kernel_rfl
theorem cb_38_K10 : callB Try.prog 38 = true := by kernel_rfl
theorem cb_33_K10 : callB Try.prog 33 = true := by kernel_rfl
theorem cb_30_K10 : callB Try.prog 30 = true := by kernel_rfl
theorem sl_56_K10 : slcB Try.prog 56 = some (70, 5) := by kernel_rfl
theorem fa_70_1_K10 : FA Try.prog 70 1 1 := fun _ _ _ => by kernel_rfl
theorem sc_3_K10 : scalB Try.prog 3 = true := by kernel_rfl
theorem fa_70_0_K10 : FA Try.prog 70 0 0 := fun _ _ _ => by kernel_rfl
theorem fa_70_2_K10 : FA Try.prog 70 2 2 := fun _ _ _ => by kernel_rfl
theorem fa_38_0_K10 : FA Try.prog 38 0 0 := fun _ _ _ => by kernel_rfl
theorem cb_32_K10 : callB Try.prog 32 = true := by kernel_rfl
theorem bs_61_2_K10 : ∀ (x0 : ByteArray) (x1 : ByteArray), News Try.prog (Instr.buildSlice 61 2 #[(0, .string x0), (1, .string x1)]) (.cells #[.string x0, .string x1] 9) fun b => .slice (some ⟨b, 0, none⟩) 2 2 := by intros; intro w; kernel_rfl
theorem cb_31_K10 : callB Try.prog 31 = true := by kernel_rfl
theorem ag_70_K10 : aggB Try.prog 70 = some 5 := by kernel_rfl
theorem sl_61_K10 : slcB Try.prog 61 = some (9, 1) := by kernel_rfl
theorem cb_24_K10 : callB Try.prog 24 = true := by kernel_rfl
open CastM CasM
set_option maxRecDepth 100000 in
set_option maxHeartbeats 2000000 in
theorem c24 (w0 : World) : Cl Try.prog 24 #[] w0 (RetQ w0 fun v => v = .bool true) := by
  have M : Sep (fun _ => False) w0 w0 _ := Sep.nil _ w0
  refine enter (vs := []) Try.func24 rfl rfl rfl ?_
  intro a F
  refine wp_seq ?_
  refine wp_region_l [.ind] ([0]) rfl ?_
  refine s_I F rfl rfl rfl rfl rfl rfl ?_; clear F a; intro a F
  refine t_endM M ?_; (clear M; try clear w); intro w M
  refine wp_seq ?_
  refine wp_region_l [.wr, .ind] ([0, 1]) rfl ?_
  refine s_call (m := []) F M rfl rfl rfl rfl rfl (rfl : _ = some [_, _]) cb_25_K10 (fun nd_ => c25 4 1 aq _) ?_; (clear F a M; try clear w); rintro v g0 w rfl M a F; (try simp only [List.cons_append, List.nil_append] at M)
  refine s_I F rfl rfl rfl rfl rfl rfl ?_; clear F a; intro a F
  refine t_endM M ?_; (clear M; try clear w); intro w M
  refine wp_seq ?_
  refine wp_seq ?_
  replace F := F.keep [0, 1] rfl
  refine wp_region_l [.ind, .ind, .ind, .wr, .ind, .ind] ([0, 1, 2, 3, 4, 5]) rfl ?_
  refine s_I F rfl rfl rfl rfl rfl rfl ?_; clear F a; intro a F
  refine s_pn F rfl rfl rfl rfl pt_58_K10 rfl ?_; clear F a; intro a F
  replace F : Fr _ _ ((7, Value.bool false) :: _) := F
  refine s_I F rfl rfl rfl rfl rfl rfl ?_; clear F a; intro a F
  refine s_cq F M rfl rfl rfl rfl rfl (rfl : _ = some [_, _]) cb_25_K10 (fun nd_ => c25n 3 1 aq3 _) ?_; (clear F a M; try clear w); rintro v w rfl M a F
  refine s_pne F rfl rfl rfl rfl pt_58_K10 rfl ?_; clear F a; intro a F
  replace F : Fr _ _ ((10, Value.bool false) :: _) := F
  refine s_I F rfl rfl rfl rfl rfl rfl ?_; clear F a; intro a F
  refine t_endM M ?_; (clear M; try clear w); intro w M
  refine c_f F rfl ?_
  refine wp_skip ?_
  refine wp_seq ?_
  replace F := F.keep [0, 1] rfl
  refine wp_region_l [.ind, .ind, .ind, .wr, .ind] ([0, 1, 2, 3, 4]) rfl ?_
  refine s_I F rfl rfl rfl rfl rfl rfl ?_; clear F a; intro a F
  refine s_bld F rfl rfl rfl rfl (parts3 F rfl rfl rfl) (bl_38_0_1_2_K10 _ _ _) ?_; clear F a; intro a F
  refine s_bld F rfl rfl rfl rfl (parts3 F rfl rfl rfl) (bl_70_0_1_2_K10 _ _ _ _ _) ?_; clear F a; intro a F
  have M1 : Sep _ _ _ (kR _ _ :: _) := M; replace M := M1; clear M1
  refine s_call (m := [_]) F M rfl rfl rfl rfl rfl (rfl : _ = some [_, _]) cb_29_K10 (fun nd_ => c29b g0 rfl (newK 4 1) (.new aq) (fun i => by have := new_le 4 1 i; omega) ⟨1, 1, ⟨1, 1, aB⟩⟩ (by decide) _ (M.drewN nd_).own.one) ?_; (clear F a M; try clear w); rintro v x1 w ⟨rfl, hb1⟩ M a F; (try simp only [List.cons_append, List.nil_append] at M)
  obtain ⟨y1, g1⟩ := x1
  dsimp only at hb1 M F
  rw [kk0] at M
  replace M : Sep _ _ _ (kR g1 k1 :: _) := M
  obtain ⟨yA, yC, rfl⟩ := SlOk.form M.h1
  have hyl : [(⟨1, 1, ⟨2, 0, aB⟩⟩ : Wd)].length = 1 := rfl
  refine s_I F rfl rfl rfl rfl rfl rfl ?_; clear F a; intro a F
  refine t_endM M ?_; (clear M; try clear w); intro w M
  refine wp_seq ?_
  replace F := F.keep [0, 1, 2] rfl
  refine wp_region_l [.ind, .wr] ([0, 1]) rfl ?_
  refine s_I F rfl rfl rfl rfl rfl rfl ?_; clear F a; intro a F
  have M1 : Sep _ _ _ (kR _ _ :: _) := M; replace M := M1; clear M1
  refine s_call (m := [_]) F M rfl rfl rfl rfl rfl (rfl : _ = some [_, _, _]) cb_38_K10 (fun nd_ => c38 g1 hb1 k1 wk1 (fun i => by have := bk1 i; omega) 1 (by decide) aB _ (M.drewN nd_).own.one) ?_; (clear F a M; try clear w); rintro v g2 w ⟨rfl, hb2⟩ M a F; (try simp only [List.cons_append, List.nil_append] at M)
  replace M : Sep _ _ _ (kR g2 k2 :: _) := M
  refine t_endM M ?_; (clear M; try clear w); intro w M
  refine wp_seq ?_
  replace F := F.keep [0, 1, 2] rfl
  refine wp_region_l [.ind, .wr, .ind, .wr, .ind, .ind] ([0, 1, 2, 3, 4, 5]) rfl ?_
  refine s_I F rfl rfl rfl rfl rfl rfl ?_; clear F a; intro a F
  refine s_cq F M rfl rfl rfl rfl rfl (rfl : _ = some [_, _]) cb_33_K10 (fun nd_ => c33b 1 hb2 wk2 _ (by exact M.h0)) ?_; (clear F a M; try clear w); rintro v w rfl M a F
  rw [if_pos kk1, kk2] at F
  refine s_I F rfl rfl rfl rfl rfl rfl ?_; clear F a; intro a F
  refine s_cq F M rfl rfl rfl rfl rfl (rfl : _ = some [_]) cb_30_K10 (fun nd_ => c30b hb2 wk2 _ (by exact M.h0)) ?_; (clear F a M; try clear w); rintro v w rfl M a F
  rw [kk3] at F
  refine s_I F rfl rfl rfl rfl rfl rfl ?_; clear F a; intro a F
  refine s_I F rfl rfl rfl rfl rfl rfl ?_; clear F a; intro a F
  refine t_endM M ?_; (clear M; try clear w); intro w M
  refine wp_seq ?_
  replace F := F.keep [0, 1, 2, 3, 4] rfl
  refine wp_region_l [.ind, .wr] ([0, 1]) rfl ?_
  refine s_I F rfl rfl rfl rfl rfl rfl ?_; clear F a; intro a F
  have M1 : Sep _ _ _ (kR _ _ :: _) := M; replace M := M1; clear M1
  refine s_call (m := [_]) F M rfl rfl rfl rfl rfl (rfl : _ = some [_, _, _]) cb_38_K10 (fun nd_ => c38 g2 hb2 k2 wk2 (fun i => by have := bk2 i; omega) 0 (by decide) aA _ (M.drewN nd_).own.one) ?_; (clear F a M; try clear w); rintro v g3 w ⟨rfl, hb3⟩ M a F; (try simp only [List.cons_append, List.nil_append] at M)
  replace M : Sep _ _ _ (kR g3 k3 :: _) := M
  refine t_endM M ?_; (clear M; try clear w); intro w M
  refine wp_seq ?_
  replace F := F.keep [0, 1, 2, 3, 4] rfl
  refine wp_region_l [.ind, .ind, .ind, .ind, .ind, .ind, .ind, .rd, .ind, .ind, .ind, .ind, .ind, .ind, .rd, .ind, .ind, .ind, .ind, .ind, .ind, .ind, .rd, .ind, .ind, .ind, .ind, .ind, .ind, .ind, .ind, .ind, .ind, .ind, .ind, .wr, .wr, .wr, .ind, .ind, .ind, .wr, .ind, .ind, .ind, .ind, .wr, .ind, .ind, .ind] ([0, 1, 2, 3, 4, 5, 6, 7, 8, 9, 10, 11, 12, 13, 14, 15, 16, 17, 18, 19, 20, 21, 22, 23, 24, 25, 26, 27, 28, 29, 30, 31, 32, 33, 34, 35, 36, 37, 38, 39, 40, 41, 42, 43, 44, 45, 46, 47, 48, 49]) rfl ?_
  refine s_I F rfl rfl rfl rfl rfl rfl ?_; clear F a; intro a F
  refine s_len F rfl rfl rfl rfl sl_56_K10 rfl ?_; clear F a; intro a F
  refine s_bin F rfl rfl rfl rfl rfl rfl rfl ?_; clear F a; intro a F
  refine s_I F rfl rfl rfl rfl rfl rfl ?_; clear F a; intro a F
  replace F : Fr _ _ ((27, Value.bool true) :: _) := F
  refine s_I F rfl rfl rfl rfl rfl rfl ?_; clear F a; intro a F
  refine s_ix F rfl rfl rfl rfl sl_56_K10 rfl rfl (by exact SlOk.rd M.h1) (by omega) (by omega) ?_; clear F a; intro e29 he29 a F
  obtain rfl : (⟨1, 1, ⟨2, 0, aB⟩⟩ : Wd) = e29 := Option.some.inj he29
  refine s_fa F rfl rfl rfl rfl fa_70_1_K10 rfl ?_; clear F a; intro a F
  refine s_ld F rfl rfl rfl rfl sc_3_K10 rfl (by exact rdX (SlOk.rd M.h1) (by intro e; rfl) he29 rfl) ?_; clear F a; intro a F
  refine s_bin F rfl rfl rfl rfl rfl rfl rfl ?_; clear F a; intro a F
  refine s_I F rfl rfl rfl rfl rfl rfl ?_; clear F a; intro a F
  refine s_I F rfl rfl rfl rfl rfl rfl ?_; clear F a; intro a F
  replace F : Fr _ _ ((34, Value.bool true) :: _) := F
  refine s_I F rfl rfl rfl rfl rfl rfl ?_; clear F a; intro a F
  refine s_ix F rfl rfl rfl rfl sl_56_K10 rfl rfl (by exact SlOk.rd M.h1) (by omega) (by omega) ?_; clear F a; intro e36 he36 a F
  try (obtain rfl := Option.some.inj (he29.symm.trans he36))
  refine s_fa F rfl rfl rfl rfl fa_70_0_K10 rfl ?_; clear F a; intro a F
  refine s_ld F rfl rfl rfl rfl sc_3_K10 rfl (by exact rdX (SlOk.rd M.h1) (by intro e; rfl) he36 rfl) ?_; clear F a; intro a F
  refine s_bin F rfl rfl rfl rfl rfl rfl rfl ?_; clear F a; intro a F
  refine s_I F rfl rfl rfl rfl rfl rfl ?_; clear F a; intro a F
  refine s_I F rfl rfl rfl rfl rfl rfl ?_; clear F a; intro a F
  replace F : Fr _ _ ((41, Value.bool true) :: _) := F
  refine s_I F rfl rfl rfl rfl rfl rfl ?_; clear F a; intro a F
  refine s_ix F rfl rfl rfl rfl sl_56_K10 rfl rfl (by exact SlOk.rd M.h1) (by omega) (by omega) ?_; clear F a; intro e43 he43 a F
  try (obtain rfl := Option.some.inj (he29.symm.trans he43))
  try (obtain rfl := Option.some.inj (he36.symm.trans he43))
  refine s_fa F rfl rfl rfl rfl fa_70_2_K10 rfl ?_; clear F a; intro a F
  refine s_fa F rfl rfl rfl rfl fa_38_0_K10 rfl ?_; clear F a; intro a F
  refine s_ld F rfl rfl rfl rfl sc_3_K10 rfl (by exact rdX2 (SlOk.rd M.h1) (by intro e; rfl) he43 rfl) ?_; clear F a; intro a F
  refine s_bin F rfl rfl rfl rfl rfl rfl rfl ?_; clear F a; intro a F
  refine s_I F rfl rfl rfl rfl rfl rfl ?_; clear F a; intro a F
  refine s_I F rfl rfl rfl rfl rfl rfl ?_; clear F a; intro a F
  replace F : Fr _ _ ((49, Value.bool true) :: _) := F
  refine s_I F rfl rfl rfl rfl rfl rfl ?_; clear F a; intro a F
  refine s_bin F rfl rfl rfl rfl rfl rfl rfl ?_; clear F a; intro a F
  refine s_I F rfl rfl rfl rfl rfl rfl ?_; clear F a; intro a F
  refine s_I F rfl rfl rfl rfl rfl rfl ?_; clear F a; intro a F
  replace F : Fr _ _ ((53, Value.bool true) :: _) := F
  refine s_I F rfl rfl rfl rfl rfl rfl ?_; clear F a; intro a F
  refine s_bin F rfl rfl rfl rfl rfl rfl rfl ?_; clear F a; intro a F
  refine s_I F rfl rfl rfl rfl rfl rfl ?_; clear F a; intro a F
  refine s_I F rfl rfl rfl rfl rfl rfl ?_; clear F a; intro a F
  replace F : Fr _ _ ((57, Value.bool true) :: _) := F
  refine s_I F rfl rfl rfl rfl rfl rfl ?_; clear F a; intro a F
  refine s_call (m := []) F M rfl rfl rfl rfl rfl (rfl : _ = some [_, _]) cb_32_K10 (fun nd_ => c32b 1 hb3 wk3 _ (by exact M.h0) (fun i => by have := bk3 i; omega)) ?_; (clear F a M; try clear w); rintro v z w rfl M a F; (try simp only [List.cons_append, List.nil_append] at M)
  rw [if_pos kk4, kk5] at M
  obtain ⟨zA, zC, rfl⟩ := SlOk.form M.h0
  refine s_bs F M rfl rfl rfl rfl (parts2 F rfl rfl) (bs_61_2_K10 _ _) ?_; (clear F a M; try clear w); intro b60 w M a F
  refine s_cq F M rfl rfl rfl rfl rfl (rfl : _ = some [_, _]) cb_31_K10 (fun nd_ => c31 [aA, aB] [aA, aB] _ _ _ (by exact SlOk.rd M.h1) (by exact rd_blk M.h0 rfl) (by decide)) ?_; (clear F a M; try clear w); rintro v w rfl M a F
  rw [decide_eq_true rfl] at F
  refine s_I F rfl rfl rfl rfl rfl rfl ?_; clear F a; intro a F
  refine s_I F rfl rfl rfl rfl rfl rfl ?_; clear F a; intro a F
  replace F : Fr _ _ ((63, Value.bool true) :: _) := F
  refine s_I F rfl rfl rfl rfl rfl rfl ?_; clear F a; intro a F
  refine s_cq F M rfl rfl rfl rfl rfl (rfl : _ = some [_, _]) cb_33_K10 (fun nd_ => c33b 1 hb3 wk3 _ (by exact M.h2)) ?_; (clear F a M; try clear w); rintro v w rfl M a F
  rw [if_pos kk4, kk6] at F
  refine s_bin F rfl rfl rfl rfl rfl rfl rfl ?_; clear F a; intro a F
  refine s_I F rfl rfl rfl rfl rfl rfl ?_; clear F a; intro a F
  refine s_I F rfl rfl rfl rfl rfl rfl ?_; clear F a; intro a F
  replace F : Fr _ _ ((68, Value.bool true) :: _) := F
  refine s_I F rfl rfl rfl rfl rfl rfl ?_; clear F a; intro a F
  refine s_cq F M rfl rfl rfl rfl rfl (rfl : _ = some [_]) cb_30_K10 (fun nd_ => c30b hb3 wk3 _ (by exact M.h2)) ?_; (clear F a M; try clear w); rintro v w rfl M a F
  rw [kk7] at F
  refine s_bin F rfl rfl rfl rfl rfl rfl rfl ?_; clear F a; intro a F
  refine s_I F rfl rfl rfl rfl rfl rfl ?_; clear F a; intro a F
  refine s_I F rfl rfl rfl rfl rfl rfl ?_; clear F a; intro a F
  refine t_endM M ?_; (clear M; try clear w); intro w M
  refine wp_ret ?_
  refine ret1 F rfl rfl ?_
  -- end 0
  exact ⟨_, rfl, rfl, M.chg⟩
set_option maxRecDepth 100000 in
set_option maxHeartbeats 400000 in
theorem law11 (q : Wd) (w0 : World) : Cl Try.prog 11 #[wdV q] w0 (RetQ w0 fun v => v = .bool true) := by
  have M : Sep (fun _ => False) w0 w0 _ := Sep.nil _ w0
  refine enter (vs := [_]) Try.func11 rfl rfl rfl ?_
  intro a F
  refine wp_seq ?_
  refine wp_region_l [.wr, .ind] ([0, 1]) rfl ?_
  refine s_bxA F M rfl rfl rfl rfl rfl ?_; (clear F a M; try clear w); intro b1 w M a F
  refine s_I F rfl rfl rfl rfl rfl rfl ?_; clear F a; intro a F
  refine t_endM M ?_; (clear M; try clear w); intro w M
  refine wp_seq ?_
  refine wp_region_l [.ind] ([0]) rfl ?_
  refine s_I F rfl rfl rfl rfl rfl rfl ?_; clear F a; intro a F
  refine t_endM M ?_; (clear M; try clear w); intro w M
  refine wp_seq ?_
  refine wp_region_l [.ind, .rd, .wr, .ind, .ind, .ind, .ind, .ind, .rd, .wr, .ind, .ind, .ind, .ind, .ind, .ind, .rd, .wr, .ind, .ind, .ind, .ind, .wr, .ind, .ind, .ind, .wr, .ind, .ind] ([0, 1, 2, 3, 4, 5, 6, 7, 8, 9, 10, 11, 12, 13, 14, 15, 16, 17, 18, 19, 20, 21, 22, 23, 24, 25, 26, 27, 28]) rfl ?_
  refine s_I F rfl rfl rfl rfl rfl rfl ?_; clear F a; intro a F
  refine s_lda F rfl rfl rfl rfl ag_70_K10 rfl rfl (cells_whole M.h0) ?_; clear F a; intro a F
  refine s_cq F M rfl rfl rfl rfl rfl (rfl : _ = some [_, _]) cb_29_K10 (fun nd_ => c29n q _) ?_; (clear F a M; try clear w); rintro v w rfl M a F
  refine s_len F rfl rfl rfl rfl sl_56_K10 rfl ?_; clear F a; intro a F
  refine s_bin F rfl rfl rfl rfl rfl rfl rfl ?_; clear F a; intro a F
  refine s_I F rfl rfl rfl rfl rfl rfl ?_; clear F a; intro a F
  replace F : Fr _ _ ((9, Value.bool true) :: _) := F
  refine s_I F rfl rfl rfl rfl rfl rfl ?_; clear F a; intro a F
  refine s_fa0 F rfl rfl rfl rfl fa_70_0_K10 rfl ?_; clear F a; intro a F
  refine s_ld F rfl rfl rfl rfl sc_3_K10 rfl (by exact cell_of_blk M.h0 (lit rfl)) ?_; clear F a; intro a F
  refine s_cq F M rfl rfl rfl rfl rfl (rfl : _ = some [_, _]) cb_32_K10 (fun nd_ => c32n _ _) ?_; (clear F a M; try clear w); rintro v w rfl M a F
  refine s_len F rfl rfl rfl rfl sl_61_K10 rfl ?_; clear F a; intro a F
  refine s_bin F rfl rfl rfl rfl rfl rfl rfl ?_; clear F a; intro a F
  refine s_I F rfl rfl rfl rfl rfl rfl ?_; clear F a; intro a F
  refine s_I F rfl rfl rfl rfl rfl rfl ?_; clear F a; intro a F
  replace F : Fr _ _ ((17, Value.bool true) :: _) := F
  refine s_I F rfl rfl rfl rfl rfl rfl ?_; clear F a; intro a F
  refine s_fa0 F rfl rfl rfl rfl fa_70_0_K10 rfl ?_; clear F a; intro a F
  refine s_ld F rfl rfl rfl rfl sc_3_K10 rfl (by exact cell_of_blk M.h0 (lit rfl)) ?_; clear F a; intro a F
  refine s_cq F M rfl rfl rfl rfl rfl (rfl : _ = some [_, _]) cb_33_K10 (fun nd_ => c33n _ _) ?_; (clear F a M; try clear w); rintro v w rfl M a F
  refine s_bin F rfl rfl rfl rfl rfl rfl rfl ?_; clear F a; intro a F
  refine s_I F rfl rfl rfl rfl rfl rfl ?_; clear F a; intro a F
  refine s_I F rfl rfl rfl rfl rfl rfl ?_; clear F a; intro a F
  replace F : Fr _ _ ((24, Value.bool true) :: _) := F
  refine s_I F rfl rfl rfl rfl rfl rfl ?_; clear F a; intro a F
  refine s_cq F M rfl rfl rfl rfl rfl (rfl : _ = some [_]) cb_30_K10 (fun nd_ => c30n _) ?_; (clear F a M; try clear w); rintro v w rfl M a F
  refine s_bin F rfl rfl rfl rfl rfl rfl rfl ?_; clear F a; intro a F
  refine s_I F rfl rfl rfl rfl rfl rfl ?_; clear F a; intro a F
  refine s_I F rfl rfl rfl rfl rfl rfl ?_; clear F a; intro a F
  replace F : Fr _ _ ((29, Value.bool true) :: _) := F
  refine s_cq F M rfl rfl rfl rfl rfl (rfl : _ = some []) cb_24_K10 (fun nd_ => c24 _) ?_; (clear F a M; try clear w); rintro v w rfl M a F
  refine s_I F rfl rfl rfl rfl rfl rfl ?_; clear F a; intro a F
  refine s_I F rfl rfl rfl rfl rfl rfl ?_; clear F a; intro a F
  refine t_endM M ?_; (clear M; try clear w); intro w M
  refine wp_ret ?_
  refine ret1 F rfl rfl ?_
  -- end 0
  exact ⟨_, rfl, rfl, M.chg⟩
end Go.Proofs.Ytibomfgeemhogaa
