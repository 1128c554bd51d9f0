/- K11 of the seat. -/
import Derived.Test.YtibomfgeemhogaaK10
namespace Go.Proofs.Ytibomfgeemhogaa
open Go Fw
theorem zr_64_K11 : zeroB Try.prog 64 = some (.agg #[.int .i64 0, .int .i64 0, .slice none 0 0, .slice none 0 0, .slice none 0 0, .slice none 0 0, .slice none 0 0, .slice none 0 0, .slice none 0 0, .slice none 0 0, .slice none 0 0]) := by kernel_rfl
theorem bl_64_0_1_K11 : ∀ (x0 : Int) (x1 : Int), ∀ w : World, (Instr.build 64 #[(0, .int .i64 x0), (1, .int .i64 x1)]).run Try.prog w = .ok (.agg #[.int .i64 x0, .int .i64 x1, .slice none 0 0, .slice none 0 0, .slice none 0 0, .slice none 0 0, .slice none 0 0, .slice none 0 0, .slice none 0 0, .slice none 0 0, .slice none 0 0]) w := by intros; kernel_rfl
theorem cb_13_K11 : callB Try.prog 13 = true := by kernel_rfl
theorem sz_64_K11 : sizeB Try.prog 64 = some 11 := by kernel_rfl
theorem ag_64_K11 : aggB Try.prog 64 = some 11 := by kernel_rfl
theorem cb_23_K11 : callB Try.prog 23 = true := by kernel_rfl
theorem cb_24_K11 : callB Try.prog 24 = true := by kernel_rfl
theorem cb_25_K11 : callB Try.prog 25 = true := by kernel_rfl
theorem cb_26_K11 : callB Try.prog 26 = true := by kernel_rfl
theorem pt_58_K11 : ptrB Try.prog 58 = true := by kernel_rfl
theorem sl_56_K11 : slcB Try.prog 56 = some (70, 5) := by kernel_rfl
theorem ag_70_K11 : aggB Try.prog 70 = some 5 := by kernel_rfl
theorem cb_27_K11 : callB Try.prog 27 = true := by kernel_rfl
theorem cb_29_K11 : callB Try.prog 29 = true := by kernel_rfl
theorem cb_28_K11 : callB Try.prog 28 = true := by kernel_rfl
theorem fa_64_2_K11 : FA Try.prog 64 2 2 := fun _ _ _ => by kernel_rfl
theorem sc_60_K11 : scalB Try.prog 60 = true := by kernel_rfl
theorem sl_60_K11 : slcB Try.prog 60 = some (106, 9) := by kernel_rfl
theorem cb_30_K11 : callB Try.prog 30 = true := by kernel_rfl
theorem fa_64_3_K11 : FA Try.prog 64 3 3 := fun _ _ _ => by kernel_rfl
theorem ar_62_K11 : arrB Try.prog 62 = some (8, 1) := by kernel_rfl
theorem sc_61_K11 : scalB Try.prog 61 = true := by kernel_rfl
theorem cb_32_K11 : callB Try.prog 32 = true := by kernel_rfl
theorem cb_31_K11 : callB Try.prog 31 = true := by kernel_rfl
theorem cb_33_K11 : callB Try.prog 33 = true := by kernel_rfl
theorem sl_61_K11 : slcB Try.prog 61 = some (9, 1) := by kernel_rfl
open CastM CasM

theorem c23y {l : List Wd} {v : Value} (w0 : World) (h : fewD l) (hr : RdSl w0.heap v l.length 5 (l.flatMap encD)) : Cl Try.prog 23 #[v] w0 (RetQ w0 fun r => r = .bool true) := (c23 l v w0 hr).monoQ fun v hv => by rw [hv, decide_eq_true h]
theorem c23n {l : List Wd} {v : Value} (w0 : World) (h : ¬ fewD l) (hr : RdSl w0.heap v l.length 5 (l.flatMap encD)) : Cl Try.prog 23 #[v] w0 (RetQ w0 fun r => r = .bool false) := (c23 l v w0 hr).monoQ fun v hv => by rw [hv, decide_eq_false h]
theorem rNew {S : Nat → Prop} {w0 w : World} {r : List Res} {n t : Int} (M : Sep S w0 w r) : Sep S w0 w (rR (⟨none, 0, fun _ => (none, 0), fun _ => (none, 0)⟩ : Rg) (newK n t) :: r) := by
  have M1 := M.pureIn (q := kT (tvR (newK n t) fun _ => (none, 0)) (newK n t).T) (by rfl) (fun i hi => ⟨by simp [newK], .inl ⟨rfl, by simp [newK]⟩⟩)
  have M2 := M1.bigNil (f := fun k => slR (.slice none ((newK n t).C k).L.length 0) ((newK n t).C k).L.length 38 3 (((newK n t).C k).L.flatMap encM))
  have M3 := M2.nilS 106 9
  exact Fw.Sep.join (L := [oR none 0 (newK n t) fun _ => (none, 0), lR (newK n t) (fun _ => (none, 0)) (newK n t).ks, kT (tvR (newK n t) fun _ => (none, 0)) (newK n t).T]) M3
theorem takeO_len (K : KSt) (q : Wd) : (K.take q).2.length ≤ 2 := by
  unfold KSt.take
  split
  · show (K.out q).length ≤ 2
    unfold KSt.out
    rw [List.length_map]
    exact out_le _ _
  · simp
theorem tells_n (K : KSt) (f : Int) : (K.tells f).n = K.n := by
  unfold KSt.tells
  generalize K.ks.length = j
  induction j generalizing K with
  | zero => rfl
  | succ j ih =>
    simp only [tellF]
    split
    · rw [ih]; rfl
    · rfl
theorem take_n (K : KSt) (q : Wd) : (K.take q).1.n = K.n := by
  unfold KSt.take
  split
  · show ((K.mid q).tells q.frm).n = K.n
    rw [tells_n, mid_n]
  · rfl
theorem rd_nil {h : Array Obj} : RdSl h (.slice none 0 0) ([] : List ByteArray).length 1 (([] : List ByteArray).flatMap encS) := by
  refine ⟨rfl, none, 0, rfl, Nat.le_refl _, fun hp => ?_⟩
  simp at hp

set_option maxRecDepth 100000 in
set_option maxHeartbeats 400000 in
theorem c26z (n t : Int) (hq : quorum n t = 0) (w0 : World) : Cl Try.prog 26 #[.int .i64 n, .int .i64 t] w0 (RetQ w0 fun v => v = .tuple #[refK (newK n t) (⟨none, 0, fun _ => (none, 0), fun _ => (none, 0)⟩ : Rg), .bool false]) := by
  have M : Sep (fun _ => False) w0 w0 _ := Sep.nil _ w0
  refine enter (vs := [_, _]) Try.func26 rfl rfl rfl ?_
  intro a F
  refine wp_seq ?_
  refine wp_region_l [.wr, .ind] ([0, 1]) rfl ?_
  refine s_alc F M rfl rfl rfl rfl zr_64_K11 rfl ?_; (clear F a M; try clear w); intro b4 w M a F
  refine s_I F rfl rfl rfl rfl rfl rfl ?_; clear F a; intro a F
  refine t_endM M ?_; (clear M; try clear w); intro w M
  refine wp_seq ?_
  refine wp_region_l [.ind, .ind, .ind, .ind, .ind, .wr, .ind, .wr, .ind] ([0, 1, 2, 3, 4, 5, 6, 7, 8]) rfl ?_
  refine s_I F rfl rfl rfl rfl rfl rfl ?_; clear F a; intro a F
  refine s_I F rfl rfl rfl rfl rfl rfl ?_; clear F a; intro a F
  refine s_bld F rfl rfl rfl rfl (parts2 F rfl rfl) (bl_64_0_1_K11 _ _) ?_; clear F a; intro a F
  refine s_I F rfl rfl rfl rfl rfl rfl ?_; clear F a; intro a F
  refine s_I F rfl rfl rfl rfl rfl rfl ?_; clear F a; intro a F
  refine s_cq F M rfl rfl rfl rfl rfl (rfl : _ = some [_, _]) cb_13_K11 (fun nd_ => c13 _ _ _) ?_; (clear F a M; try clear w); rintro v w rfl M a F
  refine s_bin F rfl rfl rfl rfl rfl rfl rfl ?_; clear F a; intro a F
  refine s_stW F M rfl rfl rfl sz_64_K11 rfl rfl rfl rfl rfl ?_; (clear M; try clear w); intro w M
  refine s_I F rfl rfl rfl rfl rfl rfl ?_; clear F a; intro a F
  refine t_endM M ?_; (clear M; try clear w); intro w M
  refine wp_ret ?_
  refine rt2 F rfl (by exact rv_a F rfl ag_64_K11 rfl (cells_whole M.h0)) (rv_t F rfl) ?_
  -- end 0
  refine ⟨_, rfl, ?_, M.chg⟩
  rw [decide_eq_false (by omega)]
  rfl
set_option maxRecDepth 100000 in
set_option maxHeartbeats 400000 in
theorem law8a (n t : Int) (l : List Wd) (v : Value) (w0 : World) (hr : RdSl w0.heap v l.length 5 (l.flatMap encD)) (hin : ∀ w ∈ l, In64 w.seq) (h : ¬ fewD l) : Cl Try.prog 8 #[.int .i64 n, .int .i64 t, v] w0 (RetQ w0 fun v => v = .bool true) := by
  have M : Sep (fun _ => False) w0 w0 _ := Sep.nil _ w0
  have hro := (ro_of hr)
  obtain ⟨A, cc, rfl, hcc⟩ := hr.form
  refine enter (vs := [_, _, _]) Try.func8 rfl rfl rfl ?_
  intro a F
  refine wp_seq ?_
  refine wp_region_l [.ind] ([0]) rfl ?_
  refine s_I F rfl rfl rfl rfl rfl rfl ?_; clear F a; intro a F
  refine t_endM M ?_; (clear M; try clear w); intro w M
  refine wp_seq ?_
  refine wp_seq ?_
  refine wp_region_l [.ind, .wr, .ind] ([0, 1, 2]) rfl ?_
  refine s_I F rfl rfl rfl rfl rfl rfl ?_; clear F a; intro a F
  refine s_cq F M rfl rfl rfl rfl rfl (rfl : _ = some [_]) cb_23_K11 (fun nd_ => c23n _ h (M.chg.ro hro)) ?_; (clear F a M; try clear w); rintro v w rfl M a F
  refine s_I F rfl rfl rfl rfl rfl rfl ?_; clear F a; intro a F
  replace F : Fr _ _ ((17, Value.bool true) :: _) := F
  refine t_endM M ?_; (clear M; try clear w); intro w M
  refine c_t F rfl ?_
  refine wp_seq ?_
  replace F := F.keep [0, 1, 2, 6] rfl
  refine wp_region_l [.wr, .ind] ([0, 1]) rfl ?_
  refine s_cq F M rfl rfl rfl rfl rfl (rfl : _ = some []) cb_24_K11 (fun nd_ => c24 _) ?_; (clear F a M; try clear w); rintro v w rfl M a F
  refine s_I F rfl rfl rfl rfl rfl rfl ?_; clear F a; intro a F
  refine t_endM M ?_; (clear M; try clear w); intro w M
  refine wp_ret ?_
  refine ret1 F rfl rfl ?_
  -- end 0
  exact ⟨_, rfl, rfl, M.chg⟩
set_option maxRecDepth 100000 in
set_option maxHeartbeats 400000 in
theorem law8b (n t : Int) (l : List Wd) (v : Value) (w0 : World) (hr : RdSl w0.heap v l.length 5 (l.flatMap encD)) (hin : ∀ w ∈ l, In64 w.seq) (h : fewD l) (hq : quorum n t = 0) : Cl Try.prog 8 #[.int .i64 n, .int .i64 t, v] w0 (RetQ w0 fun v => v = .bool true) := by
  have M : Sep (fun _ => False) w0 w0 _ := Sep.nil _ w0
  have hro := (ro_of hr)
  obtain ⟨A, cc, rfl, hcc⟩ := hr.form
  refine enter (vs := [_, _, _]) Try.func8 rfl rfl rfl ?_
  intro a F
  refine wp_seq ?_
  refine wp_region_l [.ind] ([0]) rfl ?_
  refine s_I F rfl rfl rfl rfl rfl rfl ?_; clear F a; intro a F
  refine t_endM M ?_; (clear M; try clear w); intro w M
  refine wp_seq ?_
  refine wp_seq ?_
  refine wp_region_l [.ind, .wr, .ind] ([0, 1, 2]) rfl ?_
  refine s_I F rfl rfl rfl rfl rfl rfl ?_; clear F a; intro a F
  refine s_cq F M rfl rfl rfl rfl rfl (rfl : _ = some [_]) cb_23_K11 (fun nd_ => c23y _ h (M.chg.ro hro)) ?_; (clear F a M; try clear w); rintro v w rfl M a F
  refine s_I F rfl rfl rfl rfl rfl rfl ?_; clear F a; intro a F
  replace F : Fr _ _ ((17, Value.bool false) :: _) := F
  refine t_endM M ?_; (clear M; try clear w); intro w M
  refine c_f F rfl ?_
  refine wp_skip ?_
  refine wp_seq ?_
  replace F := F.keep [0, 1, 2, 6] rfl
  refine wp_region_l [.ind, .ind, .wr, .ind] ([0, 1, 2, 3]) rfl ?_
  refine s_I F rfl rfl rfl rfl rfl rfl ?_; clear F a; intro a F
  refine s_I F rfl rfl rfl rfl rfl rfl ?_; clear F a; intro a F
  refine s_cq F M rfl rfl rfl rfl rfl (rfl : _ = some [_, _]) cb_25_K11 (fun nd_ => c25n n t hq _) ?_; (clear F a M; try clear w); rintro v w rfl M a F
  refine s_I F rfl rfl rfl rfl rfl rfl ?_; clear F a; intro a F
  refine t_endM M ?_; (clear M; try clear w); intro w M
  refine wp_seq ?_
  replace F := F.keep [0, 1, 2, 6, 7] rfl
  refine wp_region_l [.ind, .ind, .wr, .ind, .ind, .ind, .wr, .wr, .ind] ([0, 1, 2, 3, 4, 5, 6, 7, 8]) rfl ?_
  refine s_I F rfl rfl rfl rfl rfl rfl ?_; clear F a; intro a F
  refine s_I F rfl rfl rfl rfl rfl rfl ?_; clear F a; intro a F
  refine s_cq F M rfl rfl rfl rfl rfl (rfl : _ = some [_, _]) cb_26_K11 (fun nd_ => c26z n t hq _) ?_; (clear F a M; try clear w); rintro v w rfl M a F
  refine s_I F rfl rfl rfl rfl rfl rfl ?_; clear F a; intro a F
  refine s_I F rfl rfl rfl rfl rfl rfl ?_; clear F a; intro a F
  refine s_I F rfl rfl rfl rfl rfl rfl ?_; clear F a; intro a F
  refine s_alc F M rfl rfl rfl rfl zr_64_K11 rfl ?_; (clear F a M; try clear w); intro b8 w M a F
  refine s_stW F M rfl rfl rfl sz_64_K11 rfl rfl rfl rfl rfl ?_; (clear M; try clear w); intro w M
  refine s_I F rfl rfl rfl rfl rfl rfl ?_; clear F a; intro a F
  refine t_endM M ?_; (clear M; try clear w); intro w M
  refine wp_seq ?_
  refine wp_seq ?_
  replace F := F.keep [0, 1, 2, 6, 7, 8, 9] rfl
  refine wp_region_l [.ind, .ind, .ind, .ind, .ind, .ind] ([0, 1, 2, 3, 4, 5]) rfl ?_
  refine s_I F rfl rfl rfl rfl rfl rfl ?_; clear F a; intro a F
  refine s_I F rfl rfl rfl rfl rfl rfl ?_; clear F a; intro a F
  refine s_I F rfl rfl rfl rfl rfl rfl ?_; clear F a; intro a F
  replace F : Fr _ _ ((30, Value.bool true) :: _) := F
  refine s_no F rfl rfl rfl rfl ?_; clear F a; intro a F
  refine s_no F rfl rfl rfl rfl ?_; clear F a; intro a F
  refine s_I F rfl rfl rfl rfl rfl rfl ?_; clear F a; intro a F
  refine t_endM M ?_; (clear M; try clear w); intro w M
  refine c_t F rfl ?_
  refine wp_seq ?_
  replace F := F.keep [0, 1, 2, 6, 7, 8, 9] rfl
  refine wp_region_l [.ind, .ind, .ind, .ind, .ind, .ind, .ind, .wr, .ind, .ind] ([0, 1, 2, 3, 4, 5, 6, 7, 8, 9]) rfl ?_
  refine s_I F rfl rfl rfl rfl rfl rfl ?_; clear F a; intro a F
  refine s_I F rfl rfl rfl rfl rfl rfl ?_; clear F a; intro a F
  refine s_I F rfl rfl rfl rfl rfl rfl ?_; clear F a; intro a F
  replace F : Fr _ _ ((36, Value.bool true) :: _) := F
  refine s_I F rfl rfl rfl rfl rfl rfl ?_; clear F a; intro a F
  refine s_pn F rfl rfl rfl rfl pt_58_K11 rfl ?_; clear F a; intro a F
  refine s_I F rfl rfl rfl rfl rfl rfl ?_; clear F a; intro a F
  refine s_I F rfl rfl rfl rfl rfl rfl ?_; clear F a; intro a F
  replace F : Fr _ _ ((40, Value.bool true) :: _) := F
  refine s_cq F M rfl rfl rfl rfl rfl (rfl : _ = some []) cb_24_K11 (fun nd_ => c24 _) ?_; (clear F a M; try clear w); rintro v w rfl M a F
  refine s_I F rfl rfl rfl rfl rfl rfl ?_; clear F a; intro a F
  refine s_I F rfl rfl rfl rfl rfl rfl ?_; clear F a; intro a F
  refine t_endM M ?_; (clear M; try clear w); intro w M
  refine wp_ret ?_
  refine ret1 F rfl rfl ?_
  -- end 0
  exact ⟨_, rfl, rfl, M.chg⟩
set_option maxRecDepth 100000 in
set_option maxHeartbeats 4000000 in
theorem law8c (n t : Int) (l : List Wd) (v : Value) (w0 : World) (hr : RdSl w0.heap v l.length 5 (l.flatMap encD)) (hin : ∀ w ∈ l, In64 w.seq) (h : fewD l) (hq : quorum n t ≠ 0) : Cl Try.prog 8 #[.int .i64 n, .int .i64 t, v] w0 (RetQ w0 fun v => v = .bool true) := by
  have M : Sep (fun _ => False) w0 w0 _ := Sep.nil _ w0
  have hro := (ro_of hr)
  obtain ⟨A, cc, rfl, hcc⟩ := hr.form
  have hl60 := h.1
  refine enter (vs := [_, _, _]) Try.func8 rfl rfl rfl ?_
  intro a F
  refine wp_seq ?_
  refine wp_region_l [.ind] ([0]) rfl ?_
  refine s_I F rfl rfl rfl rfl rfl rfl ?_; clear F a; intro a F
  refine t_endM M ?_; (clear M; try clear w); intro w M
  refine wp_seq ?_
  refine wp_seq ?_
  refine wp_region_l [.ind, .wr, .ind] ([0, 1, 2]) rfl ?_
  refine s_I F rfl rfl rfl rfl rfl rfl ?_; clear F a; intro a F
  refine s_cq F M rfl rfl rfl rfl rfl (rfl : _ = some [_]) cb_23_K11 (fun nd_ => c23y _ h (M.chg.ro hro)) ?_; (clear F a M; try clear w); rintro v w rfl M a F
  refine s_I F rfl rfl rfl rfl rfl rfl ?_; clear F a; intro a F
  replace F : Fr _ _ ((17, Value.bool false) :: _) := F
  refine t_endM M ?_; (clear M; try clear w); intro w M
  refine c_f F rfl ?_
  refine wp_skip ?_
  refine wp_seq ?_
  replace F := F.keep [0, 1, 2, 6] rfl
  refine wp_region_l [.ind, .ind, .wr, .ind] ([0, 1, 2, 3]) rfl ?_
  refine s_I F rfl rfl rfl rfl rfl rfl ?_; clear F a; intro a F
  refine s_I F rfl rfl rfl rfl rfl rfl ?_; clear F a; intro a F
  refine s_call (m := []) F M rfl rfl rfl rfl rfl (rfl : _ = some [_, _]) cb_25_K11 (fun nd_ => c25 n t hq _) ?_; (clear F a M; try clear w); rintro v g0 w rfl M a F; (try simp only [List.cons_append, List.nil_append] at M)
  refine s_I F rfl rfl rfl rfl rfl rfl ?_; clear F a; intro a F
  refine t_endM M ?_; (clear M; try clear w); intro w M
  refine wp_seq ?_
  replace F := F.keep [0, 1, 2, 6, 7] rfl
  refine wp_region_l [.ind, .ind, .wr, .ind, .ind, .ind, .wr, .wr, .ind] ([0, 1, 2, 3, 4, 5, 6, 7, 8]) rfl ?_
  refine s_I F rfl rfl rfl rfl rfl rfl ?_; clear F a; intro a F
  refine s_I F rfl rfl rfl rfl rfl rfl ?_; clear F a; intro a F
  refine s_cq F M rfl rfl rfl rfl rfl (rfl : _ = some [_, _]) cb_26_K11 (fun nd_ => c26 n t hq _) ?_; (clear F a M; try clear w); rintro v w rfl M a F
  refine s_I F rfl rfl rfl rfl rfl rfl ?_; clear F a; intro a F
  refine s_I F rfl rfl rfl rfl rfl rfl ?_; clear F a; intro a F
  refine s_I F rfl rfl rfl rfl rfl rfl ?_; clear F a; intro a F
  refine s_alc F M rfl rfl rfl rfl zr_64_K11 rfl ?_; (clear F a M; try clear w); intro b8 w M a F
  refine s_stW F M rfl rfl rfl sz_64_K11 rfl rfl rfl rfl rfl ?_; (clear M; try clear w); intro w M
  refine s_I F rfl rfl rfl rfl rfl rfl ?_; clear F a; intro a F
  refine t_endM M ?_; (clear M; try clear w); intro w M
  refine wp_seq ?_
  refine wp_seq ?_
  have M1 : Sep _ _ _ (blk b8 _ :: _) := M; replace M := M1; clear M1
  replace M : Sep _ _ _ (blk b8 (rO (newK n t).n (newK n t).t (opV (newK n t) (⟨none, 0, fun _ => (none, 0), fun _ => (none, 0)⟩ : Rg)) (tvR (newK n t) (Rg.rv (⟨none, 0, fun _ => (none, 0), fun _ => (none, 0)⟩ : Rg)))) :: _) := M
  replace M := rNew (n := n) (t := t) M
  replace F := F.keep [0, 1, 2, 6, 7, 8, 9] rfl
  refine wp_region_l [.ind, .ind, .ind, .ind, .ind, .ind] ([0, 1, 2, 3, 4, 5]) rfl ?_
  refine s_I F rfl rfl rfl rfl rfl rfl ?_; clear F a; intro a F
  refine s_I F rfl rfl rfl rfl rfl rfl ?_; clear F a; intro a F
  refine s_I F rfl rfl rfl rfl rfl rfl ?_; clear F a; intro a F
  replace F : Fr _ _ ((30, Value.bool false) :: _) := F
  refine s_I F rfl rfl rfl rfl rfl rfl ?_; clear F a; intro a F
  refine s_pn F rfl rfl rfl rfl pt_58_K11 rfl ?_; clear F a; intro a F
  refine s_I F rfl rfl rfl rfl rfl rfl ?_; clear F a; intro a F
  replace F : Fr _ _ ((33, Value.bool false) :: _) := F
  refine t_endM M ?_; (clear M; try clear w); intro w M
  refine c_f F rfl ?_
  refine wp_skip ?_
  refine wp_seq ?_
  refine wp_seq ?_
  replace F := F.keep [0, 1, 2, 6, 7, 8, 9] rfl
  refine wp_region_l [.ind] ([0]) rfl ?_
  refine s_I F rfl rfl rfl rfl rfl rfl ?_; clear F a; intro a F
  refine t_endM M ?_; (clear M; try clear w); intro w M
  refine wp_block ?_
  have M1 : Sep _ _ _ (rR _ _ :: _) := M; replace M := M1; clear M1
  have M1 : Sep _ _ _ (kR _ _ :: _) := M.f2; replace M := M1; clear M1
  have M1 : Sep _ _ _ (blk b8 _ :: _) := M.f2; replace M := M1; clear M1
  refine loopX (X := (Int) × (KSt) × (Gh) × (Rg)) F [0, 1, 2, 7, 8, 9] rfl (fun ((i, K, g, h0) : (Int) × (KSt) × (Gh) × (Rg)) => (0 ≤ i) ∧ (i ≤ l.length) ∧ (g.b = g0.b) ∧ (K.Wf) ∧ (∀ j, (K.T j).length + K.ks.length ≤ i.toNat) ∧ (K.n = n)) (fun ((i, K, g, h0) : (Int) × (KSt) × (Gh) × (Rg)) => [(10, .int .i64 i)]) (fun ((i, K, g, h0) : (Int) × (KSt) × (Gh) × (Rg)) => [blk b8 (rO K.n K.t (opV K h0) (tvR K h0.rv)), kR g K, rR h0 K]) (fun ((i, K, g, h0) : (Int) × (KSt) × (Gh) × (Rg)) => l.length - i.toNat) ((0), (newK n t), (g0), ((⟨none, 0, fun _ => (none, 0), fun _ => (none, 0)⟩ : Rg))) M ⟨(by omega), (by omega), rfl, (.new hq), (fun j => by have := new_le n t j; omega), rfl⟩ (F.keep [10, 0, 1, 2, 7, 8, 9] rfl) ?_
  clear F M; clear a; (try clear w)
  rintro ⟨i, K, g, h0⟩ a w ⟨i0, i1, hgb, W, hB, hKn⟩ F M; try dsimp only at F M
  try simp only [List.cons_append, List.nil_append] at F M
  try dsimp only at i0 i1 hgb W hB hKn
  refine wp_seq ?_
  refine wp_seq ?_
  refine wp_region_l [.ind, .ind, .ind, .ind] ([0, 1, 2, 3]) rfl ?_
  refine s_I F rfl rfl rfl rfl rfl rfl ?_; clear F a; intro a F
  refine s_I F rfl rfl rfl rfl rfl rfl ?_; clear F a; intro a F
  refine s_len F rfl rfl rfl rfl sl_56_K11 rfl ?_; clear F a; intro a F
  refine s_bin F rfl rfl rfl rfl rfl rfl rfl ?_; clear F a; intro a F
  refine t_endM M ?_; (clear M; try clear w); intro w M
  refine c_if F rfl ?_ ?_
  ·
    clear F; intro hc0 F
    try rw [hc0] at F
    replace hc0 := of_decide_eq_true hc0
    refine wp_skip ?_
    refine wp_seq ?_
    refine wp_block ?_
    refine wp_seq ?_
    replace F := F.keep [0, 1, 2, 7, 8, 9, 10] rfl
    refine wp_region_t [.rd, .ind, .ind, .ind, .rd, .wr, .ind, .ind, .ind, .wr, .wr, .ind] [(0, 9), (4, 9)] (.one 0 (.one 1 (.one 2 (.one 3 (.one 4 (.two 5 9 (otOf [6, 7, 8, 9, 10, 11]) (otOf [5, 6, 7, 8, 10, 11]))))))) mixed (by kernel_rfl) ?_
    refine s_ldaL F rfl rfl rfl rfl ag_64_K11 rfl rfl (cells_whole M.h0) ?_; clear F a; intro a F
    refine s_I F rfl rfl rfl rfl rfl rfl ?_; clear F a; intro a F
    refine s_I F rfl rfl rfl rfl rfl rfl ?_; clear F a; intro a F
    refine s_ix F rfl rfl rfl rfl sl_56_K11 rfl rfl (by exact M.chg.ro hro) (by omega) (by omega) ?_; clear F a; intro e53 he53 a F
    refine s_ldaL F rfl rfl rfl rfl ag_70_K11 rfl rfl (rdsX (M.chg.ro hro) (by intro e; rfl) he53) ?_; clear F a; intro a F
    refine t_two ?_ ?_
    ·
      have M1 : Sep _ _ _ (rR _ _ :: _) := M.f2; replace M := M1; clear M1
      refine s_callP (m := [_]) F M rfl rfl rfl rfl rfl (rfl : _ = some [_, _]) cb_27_K11 (fun nd_ => c27 h0 K W (fun j => by have := hB j; omega) e53 (by have := (hin e53 (List.mem_of_getElem? he53)).2; omega) (hin e53 (List.mem_of_getElem? he53)).1 _ (M.drewN nd_).own.one) (fun _ x w _ M => by (try simp only [List.cons_append, List.nil_append] at M); exact (by (refine pend_skip rfl ?_); (refine pend_skip rfl ?_); exact pend_none)) ?_; (clear F a M; try clear w); rintro v x2 w rfl M a F; (try simp only [List.cons_append, List.nil_append] at M)
      refine s_I F rfl rfl rfl rfl rfl rfl ?_; clear F a; intro a F
      refine s_I F rfl rfl rfl rfl rfl rfl ?_; clear F a; intro a F
      refine s_I F rfl rfl rfl rfl rfl rfl ?_; clear F a; intro a F
      refine s_alcL F M rfl rfl rfl rfl zr_64_K11 rfl (fun b w M => (by (refine pend_take (by exact rdsX (M.chg.ro hro) (by intro e; rfl) he53) ?_); (refine pend_take (by exact cells_whole M.h3) ?_); exact pend_none)) ?_; (clear F a M; try clear w); intro b11 w M a F
      refine s_stWL F M rfl rfl rfl sz_64_K11 rfl rfl rfl rfl rfl (fun w M => (by (refine pend_skip rfl ?_); (refine pend_skip rfl ?_); exact pend_none)) ?_; (clear M; try clear w); intro w M
      refine s_I F rfl rfl rfl rfl rfl rfl ?_; clear F a; intro a F
      refine t_endM M ?_; (clear M; try clear w); intro w M
      refine wp_seq ?_
      replace F := F.keep [0, 1, 2, 7, 8, 9, 10, 11, 12] rfl
      refine wp_region_l [.rd, .wr] ([0, 1]) rfl ?_
      refine s_lda F rfl rfl rfl rfl ag_64_K11 rfl rfl (cells_whole M.h0) ?_; clear F a; intro a F
      refine s_stW F M.f3 rfl rfl rfl sz_64_K11 rfl rfl rfl rfl rfl ?_; (clear M; try clear w); intro w M
      refine t_endM M ?_; (clear M; try clear w); intro w M
      refine wp_seq ?_
      replace F := F.keep [0, 1, 2, 7, 8, 9, 10, 11, 12] rfl
      refine wp_region_t [.ind, .ind, .ind, .ind, .rd, .wr, .ind, .wr, .ind, .ind, .ind, .wr, .ind, .rd, .ind, .ind, .ind] [(13, 11)] (otOf [0, 1, 2, 3, 4, 6, 5, 7, 8, 9, 10, 12, 13, 14, 11, 15, 16]) mixed (by kernel_rfl) ?_
      refine s_I F rfl rfl rfl rfl rfl rfl ?_; clear F a; intro a F
      refine s_I F rfl rfl rfl rfl rfl rfl ?_; clear F a; intro a F
      refine s_I F rfl rfl rfl rfl rfl rfl ?_; clear F a; intro a F
      refine s_ix F rfl rfl rfl rfl sl_56_K11 rfl rfl (by exact M.chg.ro hro) (by omega) (by omega) ?_; clear F a; intro e62 he62 a F
      try (obtain rfl := Option.some.inj (he53.symm.trans he62))
      refine s_ldaL F rfl rfl rfl rfl ag_70_K11 rfl rfl (rdsX (M.chg.ro hro) (by intro e; rfl) he62) ?_; clear F a; intro a F
      refine s_I F rfl rfl rfl rfl rfl rfl ?_; clear F a; intro a F
      have M1 : Sep _ _ _ (kR _ _ :: _) := M.f4; replace M := M1; clear M1
      refine s_callP (m := [_]) F M rfl rfl rfl rfl rfl (rfl : _ = some [_, _]) cb_29_K11 (fun nd_ => c29b g hgb K W (fun j => by have := hB j; omega) e53 (by have := (hin e53 (List.mem_of_getElem? he53)).2; omega) _ (M.drewN nd_).own.one) (fun _ x w _ M => by (try simp only [List.cons_append, List.nil_append] at M); exact (by (refine pend_skip rfl ?_); exact pend_none)) ?_; (clear F a M; try clear w); rintro v x3 w ⟨rfl, hb3⟩ M a F; (try simp only [List.cons_append, List.nil_append] at M)
      obtain ⟨y3, g3⟩ := x3
      dsimp only at hb3 M F
      obtain ⟨yA, yC, rfl⟩ := SlOk.form M.h1
      have hlo := takeO_len K e53
      refine s_cqL F M rfl rfl rfl rfl rfl (rfl : _ = some [_, _]) cb_28_K11 (fun nd_ => c28 (K.take e53).2 (K.take e53).2 _ _ _ (by exact SlOk.rd M.h1) (by exact SlOk.rd M.h5) (by omega)) (fun _ w _ M => (by (refine pend_skip rfl ?_); exact pend_none)) ?_; (clear F a M; try clear w); rintro v w rfl M a F
      rw [decide_eq_true rfl] at F
      refine s_I F rfl rfl rfl rfl rfl rfl ?_; clear F a; intro a F
      refine s_I F rfl rfl rfl rfl rfl rfl ?_; clear F a; intro a F
      replace F : Fr _ _ ((68, Value.bool false) :: _) := F
      refine s_I F rfl rfl rfl rfl rfl rfl ?_; clear F a; intro a F
      refine s_fa0 F rfl rfl rfl rfl fa_64_2_K11 rfl ?_; clear F a; intro a F
      refine s_ldL F rfl rfl rfl rfl sc_60_K11 rfl (by exact cell_of_blk M.h2 (lit rfl)) ?_; clear F a; intro a F
      refine s_len F rfl rfl rfl rfl sl_60_K11 rfl ?_; clear F a; intro a F
      refine s_cqL F M rfl rfl rfl rfl rfl (rfl : _ = some [_]) cb_30_K11 (fun nd_ => c30b hb3 (wf_takeK W _) _ (by exact M.h0)) (fun _ w _ M => (by (refine pend_take (by exact cell_of_blk M.h2 (lit rfl)) ?_); (refine pend_skip rfl ?_); exact pend_none)) ?_; (clear F a M; try clear w); rintro v w rfl M a F
      have hol := oes_len (K := (K.take e53).1) (V := x2.1.V)
      refine s_bin F rfl rfl rfl rfl rfl rfl rfl ?_; clear F a; intro a F
      refine s_I F rfl rfl rfl rfl rfl rfl ?_; clear F a; intro a F
      refine t_endM M ?_; (clear M; try clear w); intro w M
      refine c_if F rfl ?_ ?_
      ·
        clear F; intro hc1 F
        try rw [hc1] at F
        replace hc1 := nd1 hc1
        exfalso
        omega
      ·
        clear F; intro hc2 F
        try rw [hc2] at F
        replace hc2 := nd0 hc2
        refine wp_skip ?_
        replace F := F.keep [0, 1, 2, 7, 8, 9, 10, 11, 12] rfl
        refine wp_region_l [.ind, .ind, .ind] ([0, 1, 2]) rfl ?_
        refine s_I F rfl rfl rfl rfl rfl rfl ?_; clear F a; intro a F
        refine s_add F rfl rfl rfl rfl rfl rfl (by unfold In64; omega) ?_; clear F a; intro a F
        refine s_I F rfl rfl rfl rfl rfl rfl ?_; clear F a; intro a F
        refine t_endM M ?_; (clear M; try clear w); intro w M
        have M1 : Sep _ _ _ (blk b8 _ :: _) := M.f2; replace M := M1; clear M1
        replace M : Sep _ _ _ (blk b8 (rO (K.take e53).1.n (K.take e53).1.t (opV (K.take e53).1 x2.1) (tvR (K.take e53).1 x2.1.rv)) :: _) := M
        refine again ((i + 1), ((K.take e53).1), (g3), (x2.1)) (by show _ < _; (try dsimp only); omega) ⟨(by omega), (by assumption), hb3, (wf_takeK W _), (fun j => by have := take_le hB e53 j; omega), ((take_n K e53).trans hKn)⟩ (F.keep [10, 0, 1, 2, 7, 8, 9] rfl) ?_
        try dsimp only [List.cons_append, List.nil_append]
        refine M.pick ?_; repeat (first | exact PkG.nil | refine PkG.cons 0 rfl rfl ?_ | refine PkG.cons 1 rfl rfl ?_ | refine PkG.cons 4 rfl rfl ?_)
    ·
      refine s_alcL F M rfl rfl rfl rfl zr_64_K11 rfl (fun b w M => (by (refine pend_take (by exact rdsX (M.chg.ro hro) (by intro e; rfl) he53) ?_); (refine pend_take (by exact cells_whole M.h1) ?_); exact pend_none)) ?_; (clear F a M; try clear w); intro b11 w M a F
      have M1 : Sep _ _ _ (rR _ _ :: _) := M.f3; replace M := M1; clear M1
      refine s_callP (m := [_]) F M rfl rfl rfl rfl rfl (rfl : _ = some [_, _]) cb_27_K11 (fun nd_ => c27 h0 K W (fun j => by have := hB j; omega) e53 (by have := (hin e53 (List.mem_of_getElem? he53)).2; omega) (hin e53 (List.mem_of_getElem? he53)).1 _ (M.drewN nd_).own.one) (fun _ x w _ M => by (try simp only [List.cons_append, List.nil_append] at M); exact (by (refine pend_skip rfl ?_); (refine pend_skip rfl ?_); exact pend_none)) ?_; (clear F a M; try clear w); rintro v x2 w rfl M a F; (try simp only [List.cons_append, List.nil_append] at M)
      refine s_I F rfl rfl rfl rfl rfl rfl ?_; clear F a; intro a F
      refine s_I F rfl rfl rfl rfl rfl rfl ?_; clear F a; intro a F
      refine s_I F rfl rfl rfl rfl rfl rfl ?_; clear F a; intro a F
      refine s_stWL F M.f2 rfl rfl rfl sz_64_K11 rfl rfl rfl rfl rfl (fun w M => (by (refine pend_skip rfl ?_); (refine pend_skip rfl ?_); exact pend_none)) ?_; (clear M; try clear w); intro w M
      refine s_I F rfl rfl rfl rfl rfl rfl ?_; clear F a; intro a F
      refine t_endM M ?_; (clear M; try clear w); intro w M
      refine wp_seq ?_
      replace F := F.keep [0, 1, 2, 7, 8, 9, 10, 11, 12] rfl
      refine wp_region_l [.rd, .wr] ([0, 1]) rfl ?_
      refine s_lda F rfl rfl rfl rfl ag_64_K11 rfl rfl (cells_whole M.h0) ?_; clear F a; intro a F
      refine s_stW F M.f3 rfl rfl rfl sz_64_K11 rfl rfl rfl rfl rfl ?_; (clear M; try clear w); intro w M
      refine t_endM M ?_; (clear M; try clear w); intro w M
      refine wp_seq ?_
      replace F := F.keep [0, 1, 2, 7, 8, 9, 10, 11, 12] rfl
      refine wp_region_t [.ind, .ind, .ind, .ind, .rd, .wr, .ind, .wr, .ind, .ind, .ind, .wr, .ind, .rd, .ind, .ind, .ind] [(13, 11)] (otOf [0, 1, 2, 3, 4, 6, 5, 7, 8, 9, 10, 12, 13, 14, 11, 15, 16]) mixed (by kernel_rfl) ?_
      refine s_I F rfl rfl rfl rfl rfl rfl ?_; clear F a; intro a F
      refine s_I F rfl rfl rfl rfl rfl rfl ?_; clear F a; intro a F
      refine s_I F rfl rfl rfl rfl rfl rfl ?_; clear F a; intro a F
      refine s_ix F rfl rfl rfl rfl sl_56_K11 rfl rfl (by exact M.chg.ro hro) (by omega) (by omega) ?_; clear F a; intro e62 he62 a F
      try (obtain rfl := Option.some.inj (he53.symm.trans he62))
      refine s_ldaL F rfl rfl rfl rfl ag_70_K11 rfl rfl (rdsX (M.chg.ro hro) (by intro e; rfl) he62) ?_; clear F a; intro a F
      refine s_I F rfl rfl rfl rfl rfl rfl ?_; clear F a; intro a F
      have M1 : Sep _ _ _ (kR _ _ :: _) := M.f4; replace M := M1; clear M1
      refine s_callP (m := [_]) F M rfl rfl rfl rfl rfl (rfl : _ = some [_, _]) cb_29_K11 (fun nd_ => c29b g hgb K W (fun j => by have := hB j; omega) e53 (by have := (hin e53 (List.mem_of_getElem? he53)).2; omega) _ (M.drewN nd_).own.one) (fun _ x w _ M => by (try simp only [List.cons_append, List.nil_append] at M); exact (by (refine pend_skip rfl ?_); exact pend_none)) ?_; (clear F a M; try clear w); rintro v x3 w ⟨rfl, hb3⟩ M a F; (try simp only [List.cons_append, List.nil_append] at M)
      obtain ⟨y3, g3⟩ := x3
      dsimp only at hb3 M F
      obtain ⟨yA, yC, rfl⟩ := SlOk.form M.h1
      have hlo := takeO_len K e53
      refine s_cqL F M rfl rfl rfl rfl rfl (rfl : _ = some [_, _]) cb_28_K11 (fun nd_ => c28 (K.take e53).2 (K.take e53).2 _ _ _ (by exact SlOk.rd M.h1) (by exact SlOk.rd M.h5) (by omega)) (fun _ w _ M => (by (refine pend_skip rfl ?_); exact pend_none)) ?_; (clear F a M; try clear w); rintro v w rfl M a F
      rw [decide_eq_true rfl] at F
      refine s_I F rfl rfl rfl rfl rfl rfl ?_; clear F a; intro a F
      refine s_I F rfl rfl rfl rfl rfl rfl ?_; clear F a; intro a F
      replace F : Fr _ _ ((68, Value.bool false) :: _) := F
      refine s_I F rfl rfl rfl rfl rfl rfl ?_; clear F a; intro a F
      refine s_fa0 F rfl rfl rfl rfl fa_64_2_K11 rfl ?_; clear F a; intro a F
      refine s_ldL F rfl rfl rfl rfl sc_60_K11 rfl (by exact cell_of_blk M.h2 (lit rfl)) ?_; clear F a; intro a F
      refine s_len F rfl rfl rfl rfl sl_60_K11 rfl ?_; clear F a; intro a F
      refine s_cqL F M rfl rfl rfl rfl rfl (rfl : _ = some [_]) cb_30_K11 (fun nd_ => c30b hb3 (wf_takeK W _) _ (by exact M.h0)) (fun _ w _ M => (by (refine pend_take (by exact cell_of_blk M.h2 (lit rfl)) ?_); (refine pend_skip rfl ?_); exact pend_none)) ?_; (clear F a M; try clear w); rintro v w rfl M a F
      have hol := oes_len (K := (K.take e53).1) (V := x2.1.V)
      refine s_bin F rfl rfl rfl rfl rfl rfl rfl ?_; clear F a; intro a F
      refine s_I F rfl rfl rfl rfl rfl rfl ?_; clear F a; intro a F
      refine t_endM M ?_; (clear M; try clear w); intro w M
      refine c_if F rfl ?_ ?_
      ·
        clear F; intro hc3 F
        try rw [hc3] at F
        replace hc3 := nd1 hc3
        exfalso
        omega
      ·
        clear F; intro hc4 F
        try rw [hc4] at F
        replace hc4 := nd0 hc4
        refine wp_skip ?_
        replace F := F.keep [0, 1, 2, 7, 8, 9, 10, 11, 12] rfl
        refine wp_region_l [.ind, .ind, .ind] ([0, 1, 2]) rfl ?_
        refine s_I F rfl rfl rfl rfl rfl rfl ?_; clear F a; intro a F
        refine s_add F rfl rfl rfl rfl rfl rfl (by unfold In64; omega) ?_; clear F a; intro a F
        refine s_I F rfl rfl rfl rfl rfl rfl ?_; clear F a; intro a F
        refine t_endM M ?_; (clear M; try clear w); intro w M
        have M1 : Sep _ _ _ (blk b8 _ :: _) := M.f2; replace M := M1; clear M1
        replace M : Sep _ _ _ (blk b8 (rO (K.take e53).1.n (K.take e53).1.t (opV (K.take e53).1 x2.1) (tvR (K.take e53).1 x2.1.rv)) :: _) := M
        refine again ((i + 1), ((K.take e53).1), (g3), (x2.1)) (by show _ < _; (try dsimp only); omega) ⟨(by omega), (by assumption), hb3, (wf_takeK W _), (fun j => by have := take_le hB e53 j; omega), ((take_n K e53).trans hKn)⟩ (F.keep [10, 0, 1, 2, 7, 8, 9] rfl) ?_
        try dsimp only [List.cons_append, List.nil_append]
        refine M.pick ?_; repeat (first | exact PkG.nil | refine PkG.cons 0 rfl rfl ?_ | refine PkG.cons 1 rfl rfl ?_ | refine PkG.cons 4 rfl rfl ?_)
  ·
    clear F; intro hc5 F
    try rw [hc5] at F
    replace hc5 := of_decide_eq_false hc5
    refine wp_exit ?_
    refine wp_seq ?_
    refine wp_seq ?_
    replace F := F.keep [0, 1, 2, 7, 8, 9, 10] rfl
    refine wp_region_l [.ind] ([0]) rfl ?_
    refine s_I F rfl rfl rfl rfl rfl rfl ?_; clear F a; intro a F
    refine t_endM M ?_; (clear M; try clear w); intro w M
    refine wp_block ?_
    obtain ⟨hz0, hz1, hz2, hz3⟩ := q_spec W.q
    refine loopX (X := (Int)) F [0, 1, 2, 7, 8, 9, 10] rfl (fun (j : Int) => (0 ≤ j) ∧ (j ≤ n + 2)) (fun (j : Int) => [(13, .int .i64 j)]) (fun (j : Int) => []) (fun (j : Int) => (n + 2 - j).toNat) (0) M ⟨(by omega), (by omega)⟩ (F.keep [13, 0, 1, 2, 7, 8, 9, 10] rfl) ?_
    clear F M; clear a; (try clear w)
    rintro j a w ⟨j0, j1⟩ F M; try dsimp only at F M
    try simp only [List.cons_append, List.nil_append] at F M
    try dsimp only at j0 j1
    refine wp_seq ?_
    refine wp_seq ?_
    refine wp_region_l [.ind, .ind, .ind, .ind] ([0, 1, 2, 3]) rfl ?_
    refine s_I F rfl rfl rfl rfl rfl rfl ?_; clear F a; intro a F
    refine s_I F rfl rfl rfl rfl rfl rfl ?_; clear F a; intro a F
    refine s_add F rfl rfl rfl rfl rfl rfl (by unfold In64; omega) ?_; clear F a; intro a F
    refine s_bin F rfl rfl rfl rfl rfl rfl rfl ?_; clear F a; intro a F
    refine t_endM M ?_; (clear M; try clear w); intro w M
    refine c_if F rfl ?_ ?_
    ·
      clear F; intro hc6 F
      try rw [hc6] at F
      replace hc6 := of_decide_eq_true hc6
      refine wp_skip ?_
      refine wp_seq ?_
      refine wp_block ?_
      refine wp_seq ?_
      replace F := F.keep [0, 1, 2, 7, 8, 9, 10, 13] rfl
      refine wp_region_l [.ind] ([0]) rfl ?_
      refine s_I F rfl rfl rfl rfl rfl rfl ?_; clear F a; intro a F
      refine t_endM M ?_; (clear M; try clear w); intro w M
      refine wp_seq ?_
      refine wp_seq ?_
      refine wp_region_l [.ind, .ind, .ind, .ind, .ind, .ind, .ind] ([0, 1, 2, 3, 4, 5, 6]) rfl ?_
      refine s_I F rfl rfl rfl rfl rfl rfl ?_; clear F a; intro a F
      refine s_bin F rfl rfl rfl rfl rfl rfl rfl ?_; clear F a; intro a F
      refine s_I F rfl rfl rfl rfl rfl rfl ?_; clear F a; intro a F
      refine bsplit F 84 rfl ?_ ?_
      ·
        clear F; intro hc7 F
        try rw [hc7] at F
        replace hc7 := of_decide_eq_true hc7
        refine s_I F rfl rfl rfl rfl rfl rfl ?_; clear F a; intro a F
        refine s_I F rfl rfl rfl rfl rfl rfl ?_; clear F a; intro a F
        refine s_bin F rfl rfl rfl rfl rfl rfl rfl ?_; clear F a; intro a F
        refine s_I F rfl rfl rfl rfl rfl rfl ?_; clear F a; intro a F
        refine t_endM M ?_; (clear M; try clear w); intro w M
        refine c_if F rfl ?_ ?_
        ·
          clear F; intro hc8 F
          try rw [hc8] at F
          replace hc8 := of_decide_eq_true hc8
          replace F := F.keep [0, 1, 2, 7, 8, 9, 10, 13, 14] rfl
          refine wp_region_l [.ind, .ind, .ind, .rd, .ind] ([0, 1, 2, 3, 4]) rfl ?_
          refine s_I F rfl rfl rfl rfl rfl rfl ?_; clear F a; intro a F
          refine s_fa0 F rfl rfl rfl rfl fa_64_3_K11 rfl ?_; clear F a; intro a F
          refine s_ia F rfl rfl rfl rfl ar_62_K11 rfl rfl (by omega) (by omega) ?_; clear F a; intro a F
          refine s_ld F rfl rfl rfl rfl sc_61_K11 rfl (by exact cell_of_blk M.h0 (gf (rF_told) (by omega))) ?_; clear F a; intro a F
          refine s_I F rfl rfl rfl rfl rfl rfl ?_; clear F a; intro a F
          refine t_endM M ?_; (clear M; try clear w); intro w M
          refine wp_seq ?_
          have hnd : K.node j = true := by (unfold KSt.node; simp; omega)
          replace F := F.keep [0, 1, 2, 7, 8, 9, 10, 13, 14] rfl
          refine wp_region_l [.ind, .ind, .wr, .ind, .wr, .ind, .ind, .ind, .ind, .wr, .ind, .ind, .ind, .ind] ([0, 1, 2, 3, 4, 5, 6, 7, 8, 9, 10, 11, 12, 13]) rfl ?_
          refine s_I F rfl rfl rfl rfl rfl rfl ?_; clear F a; intro a F
          refine s_I F rfl rfl rfl rfl rfl rfl ?_; clear F a; intro a F
          refine s_call (m := []) F M rfl rfl rfl rfl rfl (rfl : _ = some [_, _]) cb_32_K11 (fun nd_ => c32b j hgb W _ (by exact M.h1) (fun i => by have := hB i; omega)) ?_; (clear F a M; try clear w); rintro v z w rfl M a F; (try simp only [List.cons_append, List.nil_append] at M)
          rw [if_pos (by assumption)] at M
          obtain ⟨zA, zC, rfl⟩ := SlOk.form M.h0
          refine s_I F rfl rfl rfl rfl rfl rfl ?_; clear F a; intro a F
          refine s_cq F M rfl rfl rfl rfl rfl (rfl : _ = some [_, _]) cb_31_K11 (fun nd_ => (by exact c31 (K.T j.toNat) (K.T j.toNat) _ _ _ (by exact SlOk.rd M.h0) (by exact ((r_ok M.h3).t j.toNat (by omega)).rd) (by have := hB j.toNat; omega))) ?_; (clear F a M; try clear w); rintro v w rfl M a F
          rw [decide_eq_true rfl] at F
          refine s_I F rfl rfl rfl rfl rfl rfl ?_; clear F a; intro a F
          refine s_I F rfl rfl rfl rfl rfl rfl ?_; clear F a; intro a F
          replace F : Fr _ _ ((99, Value.bool false) :: _) := F
          refine s_I F rfl rfl rfl rfl rfl rfl ?_; clear F a; intro a F
          refine s_I F rfl rfl rfl rfl rfl rfl ?_; clear F a; intro a F
          refine s_cq F M rfl rfl rfl rfl rfl (rfl : _ = some [_, _]) cb_33_K11 (fun nd_ => c33b j hgb W _ (by exact M.h2)) ?_; (clear F a M; try clear w); rintro v w rfl M a F
          rw [if_pos (by assumption)] at F
          refine s_I F rfl rfl rfl rfl rfl rfl ?_; clear F a; intro a F
          refine s_len F rfl rfl rfl rfl sl_61_K11 rfl ?_; clear F a; intro a F
          refine s_bin F rfl rfl rfl rfl rfl rfl rfl ?_; clear F a; intro a F
          refine s_I F rfl rfl rfl rfl rfl rfl ?_; clear F a; intro a F
          refine t_endM M ?_; (clear M; try clear w); intro w M
          refine c_if F rfl ?_ ?_
          ·
            clear F; intro hc9 F
            try rw [hc9] at F
            replace hc9 := nd1 hc9
            exact absurd rfl hc9
          ·
            clear F; intro hc10 F
            try rw [hc10] at F
            replace hc10 := nd0 hc10
            refine wp_skip ?_
            replace F := F.keep [0, 1, 2, 7, 8, 9, 10, 13, 14] rfl
            refine wp_region_l [.ind, .ind, .ind] ([0, 1, 2]) rfl ?_
            refine s_I F rfl rfl rfl rfl rfl rfl ?_; clear F a; intro a F
            refine s_add F rfl rfl rfl rfl rfl rfl (by unfold In64; omega) ?_; clear F a; intro a F
            refine s_I F rfl rfl rfl rfl rfl rfl ?_; clear F a; intro a F
            refine t_endM M ?_; (clear M; try clear w); intro w M
            refine again (j + 1) (by show _ < _; (try dsimp only); omega) ⟨(by omega), (by omega)⟩ (F.keep [13, 0, 1, 2, 7, 8, 9, 10] rfl) ?_
            try dsimp only [List.cons_append, List.nil_append]
            refine M.pick ?_; repeat (first | exact PkG.nil | refine PkG.cons 1 rfl rfl ?_ | refine PkG.cons 2 rfl rfl ?_ | refine PkG.cons 3 rfl rfl ?_)
        ·
          clear F; intro hc11 F
          try rw [hc11] at F
          replace hc11 := of_decide_eq_false hc11
          refine wp_skip ?_
          refine wp_seq ?_
          have hnd : K.node j = false := by (clear M F; grind [KSt.node])
          replace F := F.keep [0, 1, 2, 7, 8, 9, 10, 13, 14] rfl
          refine wp_region_l [.ind, .ind, .wr, .ind, .wr, .ind, .ind, .ind, .ind, .wr, .ind, .ind, .ind, .ind] ([0, 1, 2, 3, 4, 5, 6, 7, 8, 9, 10, 11, 12, 13]) rfl ?_
          refine s_I F rfl rfl rfl rfl rfl rfl ?_; clear F a; intro a F
          refine s_I F rfl rfl rfl rfl rfl rfl ?_; clear F a; intro a F
          refine s_call (m := []) F M rfl rfl rfl rfl rfl (rfl : _ = some [_, _]) cb_32_K11 (fun nd_ => c32b j hgb W _ (by exact M.h1) (fun i => by have := hB i; omega)) ?_; (clear F a M; try clear w); rintro v z w rfl M a F; (try simp only [List.cons_append, List.nil_append] at M)
          rw [if_neg (by simp_all)] at M
          obtain ⟨zA, zC, rfl⟩ := SlOk.form M.h0
          refine s_I F rfl rfl rfl rfl rfl rfl ?_; clear F a; intro a F
          refine s_cq F M rfl rfl rfl rfl rfl (rfl : _ = some [_, _]) cb_31_K11 (fun nd_ => (by exact c31 [] [] _ _ _ (by exact SlOk.rd M.h0) rd_nil (by decide))) ?_; (clear F a M; try clear w); rintro v w rfl M a F
          rw [decide_eq_true rfl] at F
          refine s_I F rfl rfl rfl rfl rfl rfl ?_; clear F a; intro a F
          refine s_I F rfl rfl rfl rfl rfl rfl ?_; clear F a; intro a F
          replace F : Fr _ _ ((99, Value.bool false) :: _) := F
          refine s_I F rfl rfl rfl rfl rfl rfl ?_; clear F a; intro a F
          refine s_I F rfl rfl rfl rfl rfl rfl ?_; clear F a; intro a F
          refine s_cq F M rfl rfl rfl rfl rfl (rfl : _ = some [_, _]) cb_33_K11 (fun nd_ => c33b j hgb W _ (by exact M.h2)) ?_; (clear F a M; try clear w); rintro v w rfl M a F
          rw [if_neg (by simp_all)] at F
          refine s_I F rfl rfl rfl rfl rfl rfl ?_; clear F a; intro a F
          refine s_len F rfl rfl rfl rfl sl_61_K11 rfl ?_; clear F a; intro a F
          refine s_bin F rfl rfl rfl rfl rfl rfl rfl ?_; clear F a; intro a F
          refine s_I F rfl rfl rfl rfl rfl rfl ?_; clear F a; intro a F
          refine t_endM M ?_; (clear M; try clear w); intro w M
          refine c_if F rfl ?_ ?_
          ·
            clear F; intro hc12 F
            try rw [hc12] at F
            replace hc12 := nd1 hc12
            exact absurd rfl hc12
          ·
            clear F; intro hc13 F
            try rw [hc13] at F
            replace hc13 := nd0 hc13
            refine wp_skip ?_
            replace F := F.keep [0, 1, 2, 7, 8, 9, 10, 13, 14] rfl
            refine wp_region_l [.ind, .ind, .ind] ([0, 1, 2]) rfl ?_
            refine s_I F rfl rfl rfl rfl rfl rfl ?_; clear F a; intro a F
            refine s_add F rfl rfl rfl rfl rfl rfl (by unfold In64; omega) ?_; clear F a; intro a F
            refine s_I F rfl rfl rfl rfl rfl rfl ?_; clear F a; intro a F
            refine t_endM M ?_; (clear M; try clear w); intro w M
            refine again (j + 1) (by show _ < _; (try dsimp only); omega) ⟨(by omega), (by omega)⟩ (F.keep [13, 0, 1, 2, 7, 8, 9, 10] rfl) ?_
            try dsimp only [List.cons_append, List.nil_append]
            refine M.pick ?_; repeat (first | exact PkG.nil | refine PkG.cons 1 rfl rfl ?_ | refine PkG.cons 2 rfl rfl ?_ | refine PkG.cons 3 rfl rfl ?_)
      ·
        clear F; intro hc14 F
        try rw [hc14] at F
        replace hc14 := of_decide_eq_false hc14
        refine s_no F rfl rfl rfl rfl ?_; clear F a; intro a F
        refine s_no F rfl rfl rfl rfl ?_; clear F a; intro a F
        refine s_no F rfl rfl rfl rfl ?_; clear F a; intro a F
        refine s_I F rfl rfl rfl rfl rfl rfl ?_; clear F a; intro a F
        refine t_endM M ?_; (clear M; try clear w); intro w M
        refine c_f F rfl ?_
        refine wp_skip ?_
        refine wp_seq ?_
        have hnd : K.node j = false := by (clear M F; grind [KSt.node])
        replace F := F.keep [0, 1, 2, 7, 8, 9, 10, 13, 14] rfl
        refine wp_region_l [.ind, .ind, .wr, .ind, .wr, .ind, .ind, .ind, .ind, .wr, .ind, .ind, .ind, .ind] ([0, 1, 2, 3, 4, 5, 6, 7, 8, 9, 10, 11, 12, 13]) rfl ?_
        refine s_I F rfl rfl rfl rfl rfl rfl ?_; clear F a; intro a F
        refine s_I F rfl rfl rfl rfl rfl rfl ?_; clear F a; intro a F
        refine s_call (m := []) F M rfl rfl rfl rfl rfl (rfl : _ = some [_, _]) cb_32_K11 (fun nd_ => c32b j hgb W _ (by exact M.h1) (fun i => by have := hB i; omega)) ?_; (clear F a M; try clear w); rintro v z w rfl M a F; (try simp only [List.cons_append, List.nil_append] at M)
        rw [if_neg (by simp_all)] at M
        obtain ⟨zA, zC, rfl⟩ := SlOk.form M.h0
        refine s_I F rfl rfl rfl rfl rfl rfl ?_; clear F a; intro a F
        refine s_cq F M rfl rfl rfl rfl rfl (rfl : _ = some [_, _]) cb_31_K11 (fun nd_ => (by exact c31 [] [] _ _ _ (by exact SlOk.rd M.h0) rd_nil (by decide))) ?_; (clear F a M; try clear w); rintro v w rfl M a F
        rw [decide_eq_true rfl] at F
        refine s_I F rfl rfl rfl rfl rfl rfl ?_; clear F a; intro a F
        refine s_I F rfl rfl rfl rfl rfl rfl ?_; clear F a; intro a F
        replace F : Fr _ _ ((99, Value.bool false) :: _) := F
        refine s_I F rfl rfl rfl rfl rfl rfl ?_; clear F a; intro a F
        refine s_I F rfl rfl rfl rfl rfl rfl ?_; clear F a; intro a F
        refine s_cq F M rfl rfl rfl rfl rfl (rfl : _ = some [_, _]) cb_33_K11 (fun nd_ => c33b j hgb W _ (by exact M.h2)) ?_; (clear F a M; try clear w); rintro v w rfl M a F
        rw [if_neg (by simp_all)] at F
        refine s_I F rfl rfl rfl rfl rfl rfl ?_; clear F a; intro a F
        refine s_len F rfl rfl rfl rfl sl_61_K11 rfl ?_; clear F a; intro a F
        refine s_bin F rfl rfl rfl rfl rfl rfl rfl ?_; clear F a; intro a F
        refine s_I F rfl rfl rfl rfl rfl rfl ?_; clear F a; intro a F
        refine t_endM M ?_; (clear M; try clear w); intro w M
        refine c_if F rfl ?_ ?_
        ·
          clear F; intro hc15 F
          try rw [hc15] at F
          replace hc15 := nd1 hc15
          exact absurd rfl hc15
        ·
          clear F; intro hc16 F
          try rw [hc16] at F
          replace hc16 := nd0 hc16
          refine wp_skip ?_
          replace F := F.keep [0, 1, 2, 7, 8, 9, 10, 13, 14] rfl
          refine wp_region_l [.ind, .ind, .ind] ([0, 1, 2]) rfl ?_
          refine s_I F rfl rfl rfl rfl rfl rfl ?_; clear F a; intro a F
          refine s_add F rfl rfl rfl rfl rfl rfl (by unfold In64; omega) ?_; clear F a; intro a F
          refine s_I F rfl rfl rfl rfl rfl rfl ?_; clear F a; intro a F
          refine t_endM M ?_; (clear M; try clear w); intro w M
          refine again (j + 1) (by show _ < _; (try dsimp only); omega) ⟨(by omega), (by omega)⟩ (F.keep [13, 0, 1, 2, 7, 8, 9, 10] rfl) ?_
          try dsimp only [List.cons_append, List.nil_append]
          refine M.pick ?_; repeat (first | exact PkG.nil | refine PkG.cons 1 rfl rfl ?_ | refine PkG.cons 2 rfl rfl ?_ | refine PkG.cons 3 rfl rfl ?_)
    ·
      clear F; intro hc17 F
      try rw [hc17] at F
      replace hc17 := of_decide_eq_false hc17
      refine wp_exit ?_
      refine wp_seq ?_
      replace F := F.keep [0, 1, 2, 7, 8, 9, 10, 13] rfl
      refine wp_region_l [.wr, .ind] ([0, 1]) rfl ?_
      refine s_cq F M rfl rfl rfl rfl rfl (rfl : _ = some []) cb_24_K11 (fun nd_ => c24 _) ?_; (clear F a M; try clear w); rintro v w rfl M a F
      refine s_I F rfl rfl rfl rfl rfl rfl ?_; clear F a; intro a F
      refine t_endM M ?_; (clear M; try clear w); intro w M
      refine wp_ret ?_
      refine ret1 F rfl rfl ?_
      -- end 0
      exact ⟨_, rfl, rfl, M.chg⟩
end Go.Proofs.Ytibomfgeemhogaa
