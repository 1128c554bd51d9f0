/- C8 of the seat. -/
import Derived.Test.YtibomfgeemhogaaC7
namespace Go.Proofs.Ytibomfgeemhogaa
open Go Fw
theorem cb_15_C8 : callB Try.prog 15 = true := by kernel_rfl
theorem cb_14_C8 : callB Try.prog 14 = true := by kernel_rfl
theorem fa_26_0_C8 : FA Try.prog 26 0 0 := fun _ _ _ => by kernel_rfl
theorem sc_3_C8 : scalB Try.prog 3 = true := by kernel_rfl
theorem fa_26_1_C8 : FA Try.prog 26 1 1 := fun _ _ _ => by kernel_rfl
theorem fa_26_2_C8 : FA Try.prog 26 2 2 := fun _ _ _ => by kernel_rfl
theorem cb_16_C8 : callB Try.prog 16 = true := by kernel_rfl
theorem zr_43_C8 : zeroB Try.prog 43 = some (.agg #[.int .i64 0, .int .i64 0, .int .i64 0, .int .i64 0]) := by kernel_rfl
theorem sl_27_C8 : slcB Try.prog 27 = some (38, 3) := by kernel_rfl
theorem ag_38_C8 : aggB Try.prog 38 = some 3 := by kernel_rfl
theorem cb_21_C8 : callB Try.prog 21 = true := by kernel_rfl
theorem cb_20_C8 : callB Try.prog 20 = true := by kernel_rfl
theorem ar_43_C8 : arrB Try.prog 43 = some (4, 1) := by kernel_rfl
theorem fa_38_0_C8 : FA Try.prog 38 0 0 := fun _ _ _ => by kernel_rfl
theorem fa_38_1_C8 : FA Try.prog 38 1 1 := fun _ _ _ => by kernel_rfl
theorem sz_3_C8 : sizeB Try.prog 3 = some 1 := by kernel_rfl
open CastM

def cntK (l : List Msg) (i : Nat) : Int := ((l.countP fun m => decide (m.kind = (i : Int)) : Nat) : Int)
def base (c : CSt) (i : Nat) : Int := if i = 2 then (if heardL c.L 1 c.frm = true then 1 else 0) else if i = 3 then (if c.ready = true then 1 else 0) else 0
theorem out_kind {c : CSt} {m x : Msg} (h : x ∈ (c.take m).2) : (x.kind = 2 ∨ x.kind = 3) ∧ x.frm = 0 := by
  unfold CSt.take at h
  split at h
  · simp only [List.mem_append, out1, out2] at h
    rcases h with h | h <;> split at h <;> simp at h
    · subst h; simp
    · subst h; simp
  · simp at h
theorem base_take (c : CSt) (m : Msg) (i : Nat) : base (c.take m).1 i = base c i + cntK (c.take m).2 i := by
  unfold CSt.take
  split
  · rename_i hc
    obtain ⟨h1, h2, h3, h4, h5, h6, h7⟩ := counts_spec hc
    have hk : cntK (out1 m ++ out2 c m) i = (if i = 2 ∧ m.kind = 1 then 1 else 0) + (if i = 3 ∧ rd c m = true then 1 else 0) := by
      have e1 : cntK (out1 m) i = if i = 2 ∧ m.kind = 1 then 1 else 0 := by
        unfold out1 cntK
        by_cases h : m.kind = 1 <;> by_cases h' : i = 2 <;> simp [h, h'] <;> omega
      have e2 : cntK (out2 c m) i = if i = 3 ∧ rd c m = true then 1 else 0 := by
        unfold out2 cntK
        by_cases h : rd c m = true <;> by_cases h' : i = 3 <;> simp [h, h'] <;> omega
      rw [← e1, ← e2]
      simp [cntK, List.countP_append]
    show base (stp c m) i = base c i + cntK (out1 m ++ out2 c m) i
    rw [hk]
    unfold base stp
    simp only [heardL_snoc]
    by_cases i2 : i = 2
    · subst i2
      by_cases hm : m.kind = 1
      · have hf : m.frm = c.frm := h7.resolve_left (fun h => h hm)
        rw [hm, hf] at h6
        simp [hm, hf, h6]
      · simp [hm]
    · by_cases i3 : i = 3
      · subst i3
        cases hr : c.ready <;> simp [rd, hr]
      · simp [i2, i3]
  · simp [cntK]
theorem cnt_cntK (l : List Msg) (i : Nat) : 0 ≤ cntK l i ∧ cntK l i ≤ l.length := by
  unfold cntK
  have := List.countP_le_length (p := fun m : Msg => decide (m.kind = (i : Int))) (l := l)
  omega
theorem base_le (c : CSt) (i : Nat) : 0 ≤ base c i ∧ base c i ≤ 1 := by
  unfold base
  repeat' split
  all_goals omega
theorem cntK_take {l : List Msg} {k : Int} {e : Msg} (h0 : 0 ≤ k) (he : l[k.toNat]? = some e) (i : Nat) : cntK (l.take (k + 1).toNat) i = cntK (l.take k.toNat) i + if e.kind = i then 1 else 0 := by
  rw [take_succ h0 he]
  simp only [cntK, List.countP_append, List.countP_singleton, decide_eq_true_eq]
  split <;> simp
theorem stays (c : CSt) (m : Msg) (h : c.done = true) : (c.take m).1.done = true ∧ (c.take m).1.body = c.body := by
  unfold CSt.take
  split
  · simp [stp, dn, h]
  · exact ⟨h, rfl⟩
abbrev arrF (N : Nat → Int) : Obj := .cells (cellsF 4 fun i => .int .i64 (N i)) 43 (0, 0)
theorem arr_inc (N : Nat → Int) (k : Nat) : Obj.cells (cellsF 4 (upd (fun i => .int .i64 (N i)) k (.int .i64 (N k + 1)))) 43 (0, 0) = arrF fun i => if i = k then N i + 1 else N i := by
  unfold arrF
  congr 2
  funext i
  by_cases h : i = k
  · subst h; simp [upd]
  · simp [upd, h]

set_option maxRecDepth 100000 in
set_option maxHeartbeats 400000 in
theorem law5a (n t frm : Int) (l : List Msg) (v : Value) (w0 : World) (hr : RdSl w0.heap v l.length 3 (l.flatMap encM)) (h : ¬ few l) : Cl Try.prog 5 #[.agg #[.int .i64 n, .int .i64 t, .int .i64 frm], v] w0 (RetQ w0 fun v => v = .bool true) := by
  have M : Sep (fun _ => False) w0 w0 _ := Sep.nil _ w0
  have hro := (ro_of hr)
  obtain ⟨A, cc, rfl, hcc⟩ := hr.form
  refine enter (vs := [_, _]) Try.func5 rfl rfl rfl ?_
  intro a F
  refine wp_seq ?_
  refine wp_region_l [.wr, .ind] ([0, 1]) rfl ?_
  refine s_bxA F M rfl rfl rfl rfl rfl ?_; (clear F a M; try clear w); intro b2 w M a F
  refine s_I F rfl rfl rfl rfl rfl rfl ?_; clear F a; intro a F
  refine t_endM M ?_; (clear M; try clear w); intro w M
  refine wp_seq ?_
  refine wp_seq ?_
  refine wp_region_l [.ind, .wr, .ind] ([0, 1, 2]) rfl ?_
  refine s_I F rfl rfl rfl rfl rfl rfl ?_; clear F a; intro a F
  refine s_cq F M rfl rfl rfl rfl rfl (rfl : _ = some [_]) cb_15_C8 (fun nd_ => c15n _ h (M.chg.ro hro)) ?_; (clear F a M; try clear w); rintro v w rfl M a F
  refine s_bin F rfl rfl rfl rfl rfl rfl rfl ?_; clear F a; intro a F
  replace F : Fr _ _ ((16, Value.bool true) :: _) := F
  refine t_endM M ?_; (clear M; try clear w); intro w M
  refine c_t F rfl ?_
  refine wp_seq ?_
  replace F := F.keep [0, 1, 2, 4] rfl
  refine wp_region_l [.wr, .ind] ([0, 1]) rfl ?_
  refine s_cq F M rfl rfl rfl rfl rfl (rfl : _ = some []) cb_14_C8 (fun nd_ => c14 _) ?_; (clear F a M; try clear w); rintro v w rfl M a F
  refine s_I F rfl rfl rfl rfl rfl rfl ?_; clear F a; intro a F
  refine t_endM M ?_; (clear M; try clear w); intro w M
  refine wp_ret ?_
  refine ret1 F rfl rfl ?_
  -- end 0
  exact ⟨_, rfl, rfl, M.chg⟩
set_option maxRecDepth 100000 in
set_option maxHeartbeats 400000 in
theorem law5b (n t frm : Int) (l : List Msg) (v : Value) (w0 : World) (hr : RdSl w0.heap v l.length 3 (l.flatMap encM)) (hl : l.length ≤ maxLen) (h : few l) (hn : quorum n t = 0 ∨ frm < 1 ∨ n < frm) : Cl Try.prog 5 #[.agg #[.int .i64 n, .int .i64 t, .int .i64 frm], v] w0 (RetQ w0 fun v => v = .bool true) := by
  have M : Sep (fun _ => False) w0 w0 _ := Sep.nil _ w0
  unfold maxLen at hl
  have hro := (ro_of hr)
  obtain ⟨A, cc, rfl, hcc⟩ := hr.form
  refine enter (vs := [_, _]) Try.func5 rfl rfl rfl ?_
  intro a F
  refine wp_seq ?_
  refine wp_region_l [.wr, .ind] ([0, 1]) rfl ?_
  refine s_bxA F M rfl rfl rfl rfl rfl ?_; (clear F a M; try clear w); intro b2 w M a F
  refine s_I F rfl rfl rfl rfl rfl rfl ?_; clear F a; intro a F
  refine t_endM M ?_; (clear M; try clear w); intro w M
  refine wp_seq ?_
  refine wp_seq ?_
  refine wp_region_l [.ind, .wr, .ind] ([0, 1, 2]) rfl ?_
  refine s_I F rfl rfl rfl rfl rfl rfl ?_; clear F a; intro a F
  refine s_cq F M rfl rfl rfl rfl rfl (rfl : _ = some [_]) cb_15_C8 (fun nd_ => c15y _ h (M.chg.ro hro)) ?_; (clear F a M; try clear w); rintro v w rfl M a F
  refine s_bin F rfl rfl rfl rfl rfl rfl rfl ?_; clear F a; intro a F
  replace F : Fr _ _ ((16, Value.bool false) :: _) := F
  refine t_endM M ?_; (clear M; try clear w); intro w M
  refine c_f F rfl ?_
  refine wp_skip ?_
  refine wp_seq ?_
  replace F := F.keep [0, 1, 2, 4] rfl
  refine wp_region_l [.ind, .rd, .ind, .rd, .ind, .rd, .wr, .ind] ([0, 1, 2, 3, 4, 5, 6, 7]) rfl ?_
  refine s_fa0 F rfl rfl rfl rfl fa_26_0_C8 rfl ?_; clear F a; intro a F
  refine s_ld F rfl rfl rfl rfl sc_3_C8 rfl (by exact cell_of_blk M.h0 (lit rfl)) ?_; clear F a; intro a F
  refine s_fa0 F rfl rfl rfl rfl fa_26_1_C8 rfl ?_; clear F a; intro a F
  refine s_ld F rfl rfl rfl rfl sc_3_C8 rfl (by exact cell_of_blk M.h0 (lit rfl)) ?_; clear F a; intro a F
  refine s_fa0 F rfl rfl rfl rfl fa_26_2_C8 rfl ?_; clear F a; intro a F
  refine s_ld F rfl rfl rfl rfl sc_3_C8 rfl (by exact cell_of_blk M.h0 (lit rfl)) ?_; clear F a; intro a F
  refine s_cq F M rfl rfl rfl rfl rfl (rfl : _ = some [_, _, _]) cb_16_C8 (fun nd_ => c16n _ _ _ hn _) ?_; (clear F a M; try clear w); rintro v w rfl M a F
  refine s_I F rfl rfl rfl rfl rfl rfl ?_; clear F a; intro a F
  refine t_endM M ?_; (clear M; try clear w); intro w M
  refine wp_seq ?_
  replace F := F.keep [0, 1, 2, 4, 5] rfl
  refine wp_region_l [.wr] ([0]) rfl ?_
  refine s_alc F M rfl rfl rfl rfl zr_43_C8 rfl ?_; (clear F a M; try clear w); intro b6 w M a F
  refine t_endM M ?_; (clear M; try clear w); intro w M
  refine wp_seq ?_
  refine wp_region_l [.ind, .ind] ([0, 1]) rfl ?_
  refine s_I F rfl rfl rfl rfl rfl rfl ?_; clear F a; intro a F
  refine s_I F rfl rfl rfl rfl rfl rfl ?_; clear F a; intro a F
  refine t_endM M ?_; (clear M; try clear w); intro w M
  refine wp_seq ?_
  refine wp_seq ?_
  refine wp_region_l [.ind] ([0]) rfl ?_
  refine s_I F rfl rfl rfl rfl rfl rfl ?_; clear F a; intro a F
  refine t_endM M ?_; (clear M; try clear w); intro w M
  refine wp_block ?_
  refine wp_loop_ghost (fun n_ a w => ∃ (i : Int), n_ = l.length - i.toNat ∧ (0 ≤ i) ∧ (i ≤ l.length) ∧ Fr 107 a [(1, .slice A l.length cc), (5, .pointer none), (6, .pointer (some ⟨b6, 0, none⟩)), (7, .string empty), (8, .bool false), (9, .int .i64 i)] ∧ Sep (fun _ => False) w0 w [blk b6 (.cells #[.int .i64 0, .int .i64 0, .int .i64 0, .int .i64 0] 43 (0, 0))]) ((fun (i : Int) => l.length - i.toNat) (0)) ?_ ?_
  ·
    have M1 : Sep _ _ _ (blk b6 _ :: _) := M; replace M := M1; clear M1
    exact ⟨0, rfl, (by omega), (by omega), F.keep [1, 5, 6, 7, 8, 9] rfl, Sep.left M⟩
  ·
    clear F M; clear a; (try clear w); intro n_ a w hI
    obtain ⟨i, rfl, i0, i1, F, M⟩ := hI
    refine wp_seq ?_
    refine wp_seq ?_
    refine wp_region_l [.ind, .ind, .ind, .ind] ([0, 1, 2, 3]) rfl ?_
    refine s_I F rfl rfl rfl rfl rfl rfl ?_; clear F a; intro a F
    refine s_I F rfl rfl rfl rfl rfl rfl ?_; clear F a; intro a F
    refine s_len F rfl rfl rfl rfl sl_27_C8 rfl ?_; clear F a; intro a F
    refine s_bin F rfl rfl rfl rfl rfl rfl rfl ?_; clear F a; intro a F
    refine t_endM M ?_; (clear M; try clear w); intro w M
    refine c_if F rfl ?_ ?_
    ·
      clear F; intro hc0 F
      try rw [hc0] at F
      replace hc0 := of_decide_eq_true hc0
      obtain ⟨e, he⟩ := get_of i0 hc0
      obtain ⟨b_, off, hA⟩ := hr.ptr (by omega)
      refine wp_skip ?_
      refine wp_seq ?_
      refine wp_block ?_
      refine wp_seq ?_
      replace F := F.keep [1, 5, 6, 7, 8, 9] rfl
      refine wp_region_l [.ind, .ind, .ind, .ind, .rd, .wr, .ind] ([0, 1, 2, 3, 4, 5, 6]) rfl ?_
      refine s_I F rfl rfl rfl rfl rfl rfl ?_; clear F a; intro a F
      refine s_I F rfl rfl rfl rfl rfl rfl ?_; clear F a; intro a F
      refine s_I F rfl rfl rfl rfl rfl rfl ?_; clear F a; intro a F
      refine s_isA hA F rfl rfl rfl rfl sl_27_C8 rfl rfl (by omega) (by omega) ?_; clear F a; intro a F
      refine s_lda F rfl rfl rfl rfl ag_38_C8 rfl rfl (rd_els hA (M.chg.ro hro) encM_len he) ?_; clear F a; intro a F
      refine s_cq F M rfl rfl rfl rfl rfl (rfl : _ = some [_, _]) cb_21_C8 (fun nd_ => c21n e _) ?_; (clear F a M; try clear w); rintro v w rfl M a F
      refine s_I F rfl rfl rfl rfl rfl rfl ?_; clear F a; intro a F
      refine t_endM M ?_; (clear M; try clear w); intro w M
      refine wp_seq ?_
      refine wp_seq ?_
      replace F := F.keep [1, 5, 6, 7, 8, 9, 10] rfl
      refine wp_region_l [.ind] ([0]) rfl ?_
      refine s_I F rfl rfl rfl rfl rfl rfl ?_; clear F a; intro a F
      refine t_endM M ?_; (clear M; try clear w); intro w M
      refine wp_block ?_
      refine wp_loop_rounds 1 ?_
      refine (show Code.wp _ _ _ _ _ from ?_)
      refine wp_seq ?_
      refine wp_seq ?_
      refine wp_region_l [.ind, .ind, .ind, .ind] ([0, 1, 2, 3]) rfl ?_
      refine s_I F rfl rfl rfl rfl rfl rfl ?_; clear F a; intro a F
      refine s_I F rfl rfl rfl rfl rfl rfl ?_; clear F a; intro a F
      refine s_len F rfl rfl rfl rfl sl_27_C8 rfl ?_; clear F a; intro a F
      refine s_bin F rfl rfl rfl rfl rfl rfl rfl ?_; clear F a; intro a F
      refine t_endM M ?_; (clear M; try clear w); intro w M
      refine c_f F (by rfl) ?_
      refine wp_exit ?_
      refine wp_seq ?_
      replace F := F.keep [1, 5, 6, 7, 8, 9, 10, 11] rfl
      refine wp_region_l [.ind, .wr, .ind, .ind, .ind, .ind, .ind] ([0, 1, 2, 3, 4, 5, 6]) rfl ?_
      refine s_I F rfl rfl rfl rfl rfl rfl ?_; clear F a; intro a F
      refine s_cq F M rfl rfl rfl rfl rfl (rfl : _ = some [_]) cb_20_C8 (fun nd_ => c20n _) ?_; (clear F a M; try clear w); rintro v w rfl M a F
      refine s_I F rfl rfl rfl rfl rfl rfl ?_; clear F a; intro a F
      refine s_I F rfl rfl rfl rfl rfl rfl ?_; clear F a; intro a F
      refine s_I F rfl rfl rfl rfl rfl rfl ?_; clear F a; intro a F
      refine s_I F rfl rfl rfl rfl rfl rfl ?_; clear F a; intro a F
      refine s_I F rfl rfl rfl rfl rfl rfl ?_; clear F a; intro a F
      refine t_endM M ?_; (clear M; try clear w); intro w M
      refine wp_seq ?_
      refine wp_seq ?_
      replace F := F.keep [1, 5, 6, 7, 8, 9, 10, 11, 12, 13] rfl
      refine wp_region_l [.ind, .ind, .ind, .ind, .ind, .ind, .ind, .ind, .ind, .ind] ([0, 1, 2, 3, 4, 5, 6, 7, 8, 9]) rfl ?_
      refine s_I F rfl rfl rfl rfl rfl rfl ?_; clear F a; intro a F
      replace F : Fr _ _ ((79, Value.bool false) :: _) := F
      refine s_I F rfl rfl rfl rfl rfl rfl ?_; clear F a; intro a F
      refine s_no F rfl rfl rfl rfl ?_; clear F a; intro a F
      refine s_no F rfl rfl rfl rfl ?_; clear F a; intro a F
      refine s_no F rfl rfl rfl rfl ?_; clear F a; intro a F
      refine s_no F rfl rfl rfl rfl ?_; clear F a; intro a F
      refine s_no F rfl rfl rfl rfl ?_; clear F a; intro a F
      refine s_no F rfl rfl rfl rfl ?_; clear F a; intro a F
      refine s_no F rfl rfl rfl rfl ?_; clear F a; intro a F
      refine s_I F rfl rfl rfl rfl rfl rfl ?_; clear F a; intro a F
      refine t_endM M ?_; (clear M; try clear w); intro w M
      refine c_f F rfl ?_
      refine wp_skip ?_
      replace F := F.keep [1, 5, 6, 7, 8, 9, 10, 11, 12, 13] rfl
      refine wp_region_l [.ind, .ind, .ind, .ind] ([0, 1, 2, 3]) rfl ?_
      refine s_I F rfl rfl rfl rfl rfl rfl ?_; clear F a; intro a F
      refine s_I F rfl rfl rfl rfl rfl rfl ?_; clear F a; intro a F
      refine s_I F rfl rfl rfl rfl rfl rfl ?_; clear F a; intro a F
      refine s_I F rfl rfl rfl rfl rfl rfl ?_; clear F a; intro a F
      refine t_endM M ?_; (clear M; try clear w); intro w M
      replace F := F.keep [1, 5, 6, 7, 8, 9, 10, 11, 12, 13] rfl
      refine wp_region_l [.ind, .ind, .ind] ([0, 1, 2]) rfl ?_
      refine s_I F rfl rfl rfl rfl rfl rfl ?_; clear F a; intro a F
      refine s_add F rfl rfl rfl rfl rfl rfl (by unfold In64; omega) ?_; clear F a; intro a F
      refine s_I F rfl rfl rfl rfl rfl rfl ?_; clear F a; intro a F
      refine t_endM M ?_; (clear M; try clear w); intro w M
      have M1 : Sep _ _ _ (blk b6 _ :: _) := M; replace M := M1; clear M1
      exact lp_again ((fun (i : Int) => l.length - i.toNat) (i + 1)) (by show _ < _; dsimp only; omega) ⟨i + 1, rfl, (by omega), (by assumption), F.keep [1, 5, 6, 7, 8, 9] rfl, Sep.left M⟩
    ·
      clear F; intro hc1 F
      try rw [hc1] at F
      replace hc1 := of_decide_eq_false hc1
      refine wp_exit ?_
      refine wp_seq ?_
      replace F := F.keep [1, 5, 6, 7, 8, 9] rfl
      refine wp_region_l [.ind, .rd, .ind, .ind, .ind, .rd, .ind, .ind, .ind, .ind, .rd, .ind, .ind, .ind, .wr, .ind, .ind] ([0, 1, 2, 3, 4, 5, 6, 7, 8, 9, 10, 11, 12, 13, 14, 15, 16]) rfl ?_
      refine s_ia F rfl rfl rfl rfl ar_43_C8 rfl rfl (by omega) (by omega) ?_; clear F a; intro a F
      refine s_ld F rfl rfl rfl rfl sc_3_C8 rfl (by exact cell_of_blk M.h0 (lit rfl)) ?_; clear F a; intro a F
      refine s_bin F rfl rfl rfl rfl rfl rfl rfl ?_; clear F a; intro a F
      replace F : Fr _ _ ((93, Value.bool true) :: _) := F
      refine s_I F rfl rfl rfl rfl rfl rfl ?_; clear F a; intro a F
      refine s_ia F rfl rfl rfl rfl ar_43_C8 rfl rfl (by omega) (by omega) ?_; clear F a; intro a F
      refine s_ld F rfl rfl rfl rfl sc_3_C8 rfl (by exact cell_of_blk M.h0 (lit rfl)) ?_; clear F a; intro a F
      refine s_bin F rfl rfl rfl rfl rfl rfl rfl ?_; clear F a; intro a F
      replace F : Fr _ _ ((97, Value.bool true) :: _) := F
      refine s_I F rfl rfl rfl rfl rfl rfl ?_; clear F a; intro a F
      refine s_I F rfl rfl rfl rfl rfl rfl ?_; clear F a; intro a F
      refine s_ia F rfl rfl rfl rfl ar_43_C8 rfl rfl (by omega) (by omega) ?_; clear F a; intro a F
      refine s_ld F rfl rfl rfl rfl sc_3_C8 rfl (by exact cell_of_blk M.h0 (lit rfl)) ?_; clear F a; intro a F
      refine s_bin F rfl rfl rfl rfl rfl rfl rfl ?_; clear F a; intro a F
      replace F : Fr _ _ ((102, Value.bool true) :: _) := F
      refine s_I F rfl rfl rfl rfl rfl rfl ?_; clear F a; intro a F
      refine s_I F rfl rfl rfl rfl rfl rfl ?_; clear F a; intro a F
      refine s_cq F M rfl rfl rfl rfl rfl (rfl : _ = some []) cb_14_C8 (fun nd_ => c14 _) ?_; (clear F a M; try clear w); rintro v w rfl M a F
      refine s_I F rfl rfl rfl rfl rfl rfl ?_; clear F a; intro a F
      refine s_I F rfl rfl rfl rfl rfl rfl ?_; clear F a; intro a F
      refine t_endM M ?_; (clear M; try clear w); intro w M
      refine wp_ret ?_
      refine ret1 F rfl rfl ?_
      -- end 0
      exact ⟨_, rfl, rfl, M.chg⟩
set_option maxRecDepth 100000 in
set_option maxHeartbeats 1000000 in
theorem law5c (n t frm : Int) (l : List Msg) (v : Value) (w0 : World) (hr : RdSl w0.heap v l.length 3 (l.flatMap encM)) (hl : l.length ≤ maxLen) (h : few l) (hq : quorum n t ≠ 0) (h1 : 1 ≤ frm) (h2 : frm ≤ n) : Cl Try.prog 5 #[.agg #[.int .i64 n, .int .i64 t, .int .i64 frm], v] w0 (RetQ w0 fun v => v = .bool true) := by
  have M : Sep (fun _ => False) w0 w0 _ := Sep.nil _ w0
  unfold maxLen at hl
  have hro := (ro_of hr)
  obtain ⟨A, cc, rfl, hcc⟩ := hr.form
  refine enter (vs := [_, _]) Try.func5 rfl rfl rfl ?_
  intro a F
  refine wp_seq ?_
  refine wp_region_l [.wr, .ind] ([0, 1]) rfl ?_
  refine s_bxA F M rfl rfl rfl rfl rfl ?_; (clear F a M; try clear w); intro b2 w M a F
  refine s_I F rfl rfl rfl rfl rfl rfl ?_; clear F a; intro a F
  refine t_endM M ?_; (clear M; try clear w); intro w M
  refine wp_seq ?_
  refine wp_seq ?_
  refine wp_region_l [.ind, .wr, .ind] ([0, 1, 2]) rfl ?_
  refine s_I F rfl rfl rfl rfl rfl rfl ?_; clear F a; intro a F
  refine s_cq F M rfl rfl rfl rfl rfl (rfl : _ = some [_]) cb_15_C8 (fun nd_ => c15y _ h (M.chg.ro hro)) ?_; (clear F a M; try clear w); rintro v w rfl M a F
  refine s_bin F rfl rfl rfl rfl rfl rfl rfl ?_; clear F a; intro a F
  replace F : Fr _ _ ((16, Value.bool false) :: _) := F
  refine t_endM M ?_; (clear M; try clear w); intro w M
  refine c_f F rfl ?_
  refine wp_skip ?_
  refine wp_seq ?_
  replace F := F.keep [0, 1, 2, 4] rfl
  refine wp_region_l [.ind, .rd, .ind, .rd, .ind, .rd, .wr, .ind] ([0, 1, 2, 3, 4, 5, 6, 7]) rfl ?_
  refine s_fa0 F rfl rfl rfl rfl fa_26_0_C8 rfl ?_; clear F a; intro a F
  refine s_ld F rfl rfl rfl rfl sc_3_C8 rfl (by exact cell_of_blk M.h0 (lit rfl)) ?_; clear F a; intro a F
  refine s_fa0 F rfl rfl rfl rfl fa_26_1_C8 rfl ?_; clear F a; intro a F
  refine s_ld F rfl rfl rfl rfl sc_3_C8 rfl (by exact cell_of_blk M.h0 (lit rfl)) ?_; clear F a; intro a F
  refine s_fa0 F rfl rfl rfl rfl fa_26_2_C8 rfl ?_; clear F a; intro a F
  refine s_ld F rfl rfl rfl rfl sc_3_C8 rfl (by exact cell_of_blk M.h0 (lit rfl)) ?_; clear F a; intro a F
  refine s_call (m := []) F M rfl rfl rfl rfl rfl (rfl : _ = some [_, _, _]) cb_16_C8 (fun nd_ => c16 n t frm hq h1 h2 _) ?_; (clear F a M; try clear w); rintro v x w rfl M a F; (try simp only [List.cons_append, List.nil_append] at M)
  obtain ⟨b, vb⟩ := x
  replace M : Sep _ _ _ (castR b vb (new n t frm) :: _) := M
  refine s_I F rfl rfl rfl rfl rfl rfl ?_; clear F a; intro a F
  refine t_endM M ?_; (clear M; try clear w); intro w M
  refine wp_seq ?_
  replace F := F.keep [0, 1, 2, 4, 5] rfl
  refine wp_region_l [.wr] ([0]) rfl ?_
  refine s_alc F M rfl rfl rfl rfl zr_43_C8 rfl ?_; (clear F a M; try clear w); intro b6 w M a F
  refine t_endM M ?_; (clear M; try clear w); intro w M
  refine wp_seq ?_
  refine wp_region_l [.ind, .ind] ([0, 1]) rfl ?_
  refine s_I F rfl rfl rfl rfl rfl rfl ?_; clear F a; intro a F
  refine s_I F rfl rfl rfl rfl rfl rfl ?_; clear F a; intro a F
  refine t_endM M ?_; (clear M; try clear w); intro w M
  refine wp_seq ?_
  refine wp_seq ?_
  refine wp_region_l [.ind] ([0]) rfl ?_
  refine s_I F rfl rfl rfl rfl rfl rfl ?_; clear F a; intro a F
  refine t_endM M ?_; (clear M; try clear w); intro w M
  refine wp_block ?_
  refine wp_loop_ghost (fun n_ a w => ∃ (i : Int) (c : CSt) (N : Nat → Int), n_ = l.length - i.toNat ∧ (0 ≤ i) ∧ (i ≤ l.length) ∧ (c.Wf) ∧ (∀ j, N j = base c j) ∧ Fr 107 a [(1, .slice A l.length cc), (5, .pointer (some ⟨b, 0, none⟩)), (6, .pointer (some ⟨b6, 0, none⟩)), (7, .string c.body), (8, .bool c.done), (9, .int .i64 i)] ∧ Sep (fun _ => False) w0 w [castR b vb c, blk b6 (arrF N)]) ((fun (i : Int) (c : CSt) (N : Nat → Int) => l.length - i.toNat) (0) (new n t frm) (fun _ => 0)) ?_ ?_
  ·
    have M1 : Sep _ _ _ (blk b6 _ :: _) := M; replace M := M1; clear M1
    replace M := M.blkEq (o' := arrF fun _ => 0) rfl
    have M1 : Sep _ _ _ (blk b6 _ :: _) := M; replace M := M1; clear M1
    have M1 : Sep _ _ _ (castR b vb _ :: _) := M.f1; replace M := M1; clear M1
    exact ⟨0, new n t frm, fun _ => 0, rfl, (by omega), (by omega), new_wf hq h1 h2, by intro j; simp [base, new, heardL], F.keep [1, 5, 6, 7, 8, 9] rfl, Sep.left M⟩
  ·
    clear F M; clear a; (try clear w); intro n_ a w hI
    obtain ⟨i, c, N, rfl, i0, i1, W, hN, F, M⟩ := hI
    refine wp_seq ?_
    refine wp_seq ?_
    refine wp_region_l [.ind, .ind, .ind, .ind] ([0, 1, 2, 3]) rfl ?_
    refine s_I F rfl rfl rfl rfl rfl rfl ?_; clear F a; intro a F
    refine s_I F rfl rfl rfl rfl rfl rfl ?_; clear F a; intro a F
    refine s_len F rfl rfl rfl rfl sl_27_C8 rfl ?_; clear F a; intro a F
    refine s_bin F rfl rfl rfl rfl rfl rfl rfl ?_; clear F a; intro a F
    refine t_endM M ?_; (clear M; try clear w); intro w M
    refine c_if F rfl ?_ ?_
    ·
      clear F; intro hc0 F
      try rw [hc0] at F
      replace hc0 := of_decide_eq_true hc0
      obtain ⟨e, he⟩ := get_of i0 hc0
      obtain ⟨b_, off, hA⟩ := hr.ptr (by omega)
      refine wp_skip ?_
      refine wp_seq ?_
      refine wp_block ?_
      refine wp_seq ?_
      replace F := F.keep [1, 5, 6, 7, 8, 9] rfl
      refine wp_region_l [.ind, .ind, .ind, .ind, .rd, .wr, .ind] ([0, 1, 2, 3, 4, 5, 6]) rfl ?_
      refine s_I F rfl rfl rfl rfl rfl rfl ?_; clear F a; intro a F
      refine s_I F rfl rfl rfl rfl rfl rfl ?_; clear F a; intro a F
      refine s_I F rfl rfl rfl rfl rfl rfl ?_; clear F a; intro a F
      refine s_isA hA F rfl rfl rfl rfl sl_27_C8 rfl rfl (by omega) (by omega) ?_; clear F a; intro a F
      refine s_lda F rfl rfl rfl rfl ag_38_C8 rfl rfl (rd_els hA (M.chg.ro hro) encM_len he) ?_; clear F a; intro a F
      have M1 : Sep _ _ _ (castR b vb _ :: _) := M; replace M := M1; clear M1
      refine s_call (m := [_]) F M rfl rfl rfl rfl rfl (rfl : _ = some [_, _]) cb_21_C8 (fun nd_ => c21 b vb c e _ (M.drewN nd_).own.one) ?_; (clear F a M; try clear w); rintro v x w rfl M a F; (try simp only [List.cons_append, List.nil_append] at M)
      obtain ⟨oA, oc, rfl⟩ := SlOk.form M.h1
      refine s_I F rfl rfl rfl rfl rfl rfl ?_; clear F a; intro a F
      refine t_endM M ?_; (clear M; try clear w); intro w M
      refine wp_seq ?_
      refine wp_seq ?_
      replace F := F.keep [1, 5, 6, 7, 8, 9, 10] rfl
      refine wp_region_l [.ind] ([0]) rfl ?_
      refine s_I F rfl rfl rfl rfl rfl rfl ?_; clear F a; intro a F
      refine t_endM M ?_; (clear M; try clear w); intro w M
      refine wp_block ?_
      refine wp_loop_ghost (fun n_ a w => ∃ (k : Int) (N2 : Nat → Int), n_ = (c.take e).2.length - k.toNat ∧ (0 ≤ k) ∧ (k ≤ (c.take e).2.length) ∧ (∀ j, N2 j = base c j + cntK ((c.take e).2.take k.toNat) j) ∧ Fr 107 a [(1, .slice A l.length cc), (5, .pointer (some ⟨b, 0, none⟩)), (6, .pointer (some ⟨b6, 0, none⟩)), (7, .string c.body), (8, .bool c.done), (9, .int .i64 i), (10, .slice oA (c.take e).2.length oc), (11, .int .i64 k)] ∧ Sep (fun _ => False) w0 w [castR b vb (c.take e).1, blk b6 (arrF N2), slR (.slice oA (c.take e).2.length oc) (c.take e).2.length 38 3 ((c.take e).2.flatMap encM)]) ((fun (k : Int) (N2 : Nat → Int) => (c.take e).2.length - k.toNat) (0) (N)) ?_ ?_
      ·
        have M1 : Sep _ _ _ (slR (.slice oA _ _) _ _ _ _ :: _) := M.f1; replace M := M1; clear M1
        have M1 : Sep _ _ _ (blk b6 _ :: _) := M.f2; replace M := M1; clear M1
        have M1 : Sep _ _ _ (castR b vb _ :: _) := M.f2; replace M := M1; clear M1
        exact ⟨0, N, rfl, (by omega), (by omega), by intro j; rw [hN]; simp [cntK], F.keep [1, 5, 6, 7, 8, 9, 10, 11] rfl, Sep.left M⟩
      ·
        clear F M; clear a; (try clear w); intro n_ a w hI
        obtain ⟨k, N2, rfl, k0, k1, hN2, F, M⟩ := hI
        have hol := out_len c e
        refine wp_seq ?_
        refine wp_seq ?_
        refine wp_region_l [.ind, .ind, .ind, .ind] ([0, 1, 2, 3]) rfl ?_
        refine s_I F rfl rfl rfl rfl rfl rfl ?_; clear F a; intro a F
        refine s_I F rfl rfl rfl rfl rfl rfl ?_; clear F a; intro a F
        refine s_len F rfl rfl rfl rfl sl_27_C8 rfl ?_; clear F a; intro a F
        refine s_bin F rfl rfl rfl rfl rfl rfl rfl ?_; clear F a; intro a F
        refine t_endM M ?_; (clear M; try clear w); intro w M
        refine c_if F rfl ?_ ?_
        ·
          clear F; intro hc1 F
          try rw [hc1] at F
          replace hc1 := of_decide_eq_true hc1
          obtain ⟨x, hx⟩ := get_of k0 hc1
          obtain ⟨hx1, hx2⟩ := out_kind (List.mem_of_getElem? hx)
          obtain ⟨b2_, off2, hA2⟩ : ∃ b off, oA = some ⟨b, off, none⟩ := by
            exact (SlOk.rd M.h2).ptr (by omega)
          refine wp_skip ?_
          refine wp_seq ?_
          refine wp_block ?_
          refine wp_seq ?_
          refine wp_seq ?_
          replace F := F.keep [1, 5, 6, 7, 8, 9, 10, 11] rfl
          refine wp_region_l [.ind, .ind, .ind, .ind, .rd, .ind, .ind, .ind, .ind, .ind, .ind, .rd, .ind, .ind, .ind, .ind, .ind, .ind, .ind, .rd, .ind, .ind] ([0, 1, 2, 3, 4, 5, 6, 7, 8, 9, 10, 11, 12, 13, 14, 15, 16, 17, 18, 19, 20, 21]) rfl ?_
          refine s_I F rfl rfl rfl rfl rfl rfl ?_; clear F a; intro a F
          refine s_I F rfl rfl rfl rfl rfl rfl ?_; clear F a; intro a F
          refine s_isA hA2 F rfl rfl rfl rfl sl_27_C8 rfl rfl (by omega) (by omega) ?_; clear F a; intro a F
          refine s_fa F rfl rfl rfl rfl fa_38_0_C8 rfl ?_; clear F a; intro a F
          refine s_ld F rfl rfl rfl rfl sc_3_C8 rfl (by exact rd_el hA2 (SlOk.rd M.h2) encM_len hx rfl) ?_; clear F a; intro a F
          refine s_bin F rfl rfl rfl rfl rfl rfl rfl ?_; clear F a; intro a F
          refine s_I F rfl rfl rfl rfl rfl rfl ?_; clear F a; intro a F
          refine bsplit F 49 rfl ?_ ?_
          ·
            clear F; intro hc2 F
            try rw [hc2] at F
            replace hc2 := of_decide_eq_true hc2
            exfalso; omega
          ·
            clear F; intro hc3 F
            try rw [hc3] at F
            replace hc3 := of_decide_eq_false hc3
            refine s_I F rfl rfl rfl rfl rfl rfl ?_; clear F a; intro a F
            refine s_I F rfl rfl rfl rfl rfl rfl ?_; clear F a; intro a F
            refine s_isA hA2 F rfl rfl rfl rfl sl_27_C8 rfl rfl (by omega) (by omega) ?_; clear F a; intro a F
            refine s_fa F rfl rfl rfl rfl fa_38_0_C8 rfl ?_; clear F a; intro a F
            refine s_ld F rfl rfl rfl rfl sc_3_C8 rfl (by exact rd_el hA2 (SlOk.rd M.h2) encM_len hx rfl) ?_; clear F a; intro a F
            refine s_bin F rfl rfl rfl rfl rfl rfl rfl ?_; clear F a; intro a F
            refine s_I F rfl rfl rfl rfl rfl rfl ?_; clear F a; intro a F
            refine s_I F rfl rfl rfl rfl rfl rfl ?_; clear F a; intro a F
            refine bsplit F 57 rfl ?_ ?_
            ·
              clear F; intro hc4 F
              try rw [hc4] at F
              replace hc4 := of_decide_eq_true hc4
              exfalso; omega
            ·
              clear F; intro hc5 F
              try rw [hc5] at F
              replace hc5 := of_decide_eq_false hc5
              refine s_I F rfl rfl rfl rfl rfl rfl ?_; clear F a; intro a F
              refine s_I F rfl rfl rfl rfl rfl rfl ?_; clear F a; intro a F
              refine s_isA hA2 F rfl rfl rfl rfl sl_27_C8 rfl rfl (by omega) (by omega) ?_; clear F a; intro a F
              refine s_fa F rfl rfl rfl rfl fa_38_1_C8 rfl ?_; clear F a; intro a F
              refine s_ld F rfl rfl rfl rfl sc_3_C8 rfl (by exact rd_el hA2 (SlOk.rd M.h2) encM_len hx rfl) ?_; clear F a; intro a F
              refine s_bin F rfl rfl rfl rfl rfl rfl rfl ?_; clear F a; intro a F
              refine s_I F rfl rfl rfl rfl rfl rfl ?_; clear F a; intro a F
              refine t_endM M ?_; (clear M; try clear w); intro w M
              refine c_if F rfl ?_ ?_
              ·
                clear F; intro hc6 F
                try rw [hc6] at F
                replace hc6 := nd1 hc6
                exfalso; omega
              ·
                clear F; intro hc7 F
                try rw [hc7] at F
                replace hc7 := nd0 hc7
                refine wp_skip ?_
                have hb2 := hN2 (0 + x.kind.toNat * 1)
                have hb3 := base_le c (0 + x.kind.toNat * 1)
                have hb4 := cnt_cntK ((c.take e).2.take k.toNat) (0 + x.kind.toNat * 1)
                have hb5 := List.length_take_le k.toNat (c.take e).2
                replace F := F.keep [1, 5, 6, 7, 8, 9, 10, 11] rfl
                refine wp_region_l [.ind, .ind, .ind, .ind, .rd, .ind, .rd, .ind, .ind, .wr] ([0, 1, 2, 3, 4, 5, 6, 7, 8, 9]) rfl ?_
                refine s_I F rfl rfl rfl rfl rfl rfl ?_; clear F a; intro a F
                refine s_I F rfl rfl rfl rfl rfl rfl ?_; clear F a; intro a F
                refine s_isA hA2 F rfl rfl rfl rfl sl_27_C8 rfl rfl (by omega) (by omega) ?_; clear F a; intro a F
                refine s_fa F rfl rfl rfl rfl fa_38_0_C8 rfl ?_; clear F a; intro a F
                refine s_ld F rfl rfl rfl rfl sc_3_C8 rfl (by exact rd_el hA2 (SlOk.rd M.h2) encM_len hx rfl) ?_; clear F a; intro a F
                refine s_ia F rfl rfl rfl rfl ar_43_C8 rfl rfl (by omega) (by omega) ?_; clear F a; intro a F
                refine s_ld F rfl rfl rfl rfl sc_3_C8 rfl (by exact cell_of_blk M.h1 (gf rfl (by omega))) ?_; clear F a; intro a F
                refine s_add F rfl rfl rfl rfl rfl rfl (by unfold In64; omega) ?_; clear F a; intro a F
                refine s_ia F rfl rfl rfl rfl ar_43_C8 rfl rfl (by omega) (by omega) ?_; clear F a; intro a F
                refine s_sf F M.f1 rfl rfl rfl sz_3_C8 rfl rfl rfl (by omega) ?_; (clear M; try clear w); intro w M
                refine t_endM M ?_; (clear M; try clear w); intro w M
                replace F := F.keep [1, 5, 6, 7, 8, 9, 10, 11] rfl
                refine wp_region_l [.ind, .ind, .ind] ([0, 1, 2]) rfl ?_
                refine s_I F rfl rfl rfl rfl rfl rfl ?_; clear F a; intro a F
                refine s_add F rfl rfl rfl rfl rfl rfl (by unfold In64; omega) ?_; clear F a; intro a F
                refine s_I F rfl rfl rfl rfl rfl rfl ?_; clear F a; intro a F
                refine t_endM M ?_; (clear M; try clear w); intro w M
                have M1 : Sep _ _ _ (blk b6 _ :: _) := M; replace M := M1; clear M1
                replace M := M.blkEq (arr_inc N2 _)
                have M1 : Sep _ _ _ (slR (.slice oA _ _) _ _ _ _ :: _) := M.f2; replace M := M1; clear M1
                have M1 : Sep _ _ _ (blk b6 _ :: _) := M.f1; replace M := M1; clear M1
                have M1 : Sep _ _ _ (castR b vb _ :: _) := M.f2; replace M := M1; clear M1
                exact lp_again ((fun (k : Int) (N2 : Nat → Int) => (c.take e).2.length - k.toNat) (k + 1) (fun i => if i = 0 + x.kind.toNat * 1 then N2 i + 1 else N2 i)) (by show _ < _; dsimp only; omega) ⟨k + 1, fun i => if i = 0 + x.kind.toNat * 1 then N2 i + 1 else N2 i, rfl, (by omega), (by assumption), by
                      intro j
                      rw [cntK_take k0 hx]
                      have := hN2 j
                      have hj : (j = 0 + x.kind.toNat * 1) ↔ x.kind = j := by omega
                      by_cases hjk : x.kind = j
                      · simp only [if_pos hjk, if_pos (hj.2 hjk)]; omega
                      · simp only [if_neg hjk, if_neg (fun h => hjk (hj.1 h))]; omega, F.keep [1, 5, 6, 7, 8, 9, 10, 11] rfl, Sep.left M⟩
        ·
          clear F; intro hc8 F
          try rw [hc8] at F
          replace hc8 := of_decide_eq_false hc8
          refine wp_exit ?_
          refine wp_seq ?_
          replace F := F.keep [1, 5, 6, 7, 8, 9, 10, 11] rfl
          refine wp_region_l [.ind, .wr, .ind, .ind, .ind, .ind, .ind] ([0, 1, 2, 3, 4, 5, 6]) rfl ?_
          refine s_I F rfl rfl rfl rfl rfl rfl ?_; clear F a; intro a F
          refine s_cq F M rfl rfl rfl rfl rfl (rfl : _ = some [_]) cb_20_C8 (fun nd_ => c20 b vb (c.take e).1 _ (by exact M.h0)) ?_; (clear F a M; try clear w); rintro v w rfl M a F
          refine s_I F rfl rfl rfl rfl rfl rfl ?_; clear F a; intro a F
          refine s_I F rfl rfl rfl rfl rfl rfl ?_; clear F a; intro a F
          refine s_I F rfl rfl rfl rfl rfl rfl ?_; clear F a; intro a F
          refine s_I F rfl rfl rfl rfl rfl rfl ?_; clear F a; intro a F
          refine s_I F rfl rfl rfl rfl rfl rfl ?_; clear F a; intro a F
          refine t_endM M ?_; (clear M; try clear w); intro w M
          refine wp_seq ?_
          refine wp_seq ?_
          replace F := F.keep [1, 5, 6, 7, 8, 9, 10, 11, 12, 13] rfl
          refine wp_region_l [.ind, .ind, .ind, .ind, .ind, .ind, .ind, .ind, .ind, .ind] ([0, 1, 2, 3, 4, 5, 6, 7, 8, 9]) rfl ?_
          refine s_I F rfl rfl rfl rfl rfl rfl ?_; clear F a; intro a F
          refine s_I F rfl rfl rfl rfl rfl rfl ?_; clear F a; intro a F
          refine bsplit F 80 rfl ?_ ?_
          ·
            clear F; intro hc9 F
            try rw [hc9] at F
            skip
            refine s_I F rfl rfl rfl rfl rfl rfl ?_; clear F a; intro a F
            refine s_I F rfl rfl rfl rfl rfl rfl ?_; clear F a; intro a F
            refine s_I F rfl rfl rfl rfl rfl rfl ?_; clear F a; intro a F
            refine bsplit F 83 rfl ?_ ?_
            ·
              clear F; intro hc10 F
              try rw [hc10] at F
              replace hc10 := nt hc10
              refine s_no F rfl rfl rfl rfl ?_; clear F a; intro a F
              refine s_no F rfl rfl rfl rfl ?_; clear F a; intro a F
              refine s_no F rfl rfl rfl rfl ?_; clear F a; intro a F
              refine s_I F rfl rfl rfl rfl rfl rfl ?_; clear F a; intro a F
              refine s_I F rfl rfl rfl rfl rfl rfl ?_; clear F a; intro a F
              refine t_endM M ?_; (clear M; try clear w); intro w M
              refine c_t F rfl ?_
              refine wp_seq ?_
              replace F := F.keep [1, 5, 6, 7, 8, 9, 10, 11, 12, 13] rfl
              refine wp_region_l [.ind] ([0]) rfl ?_
              refine s_I F rfl rfl rfl rfl rfl rfl ?_; clear F a; intro a F
              refine t_endM M ?_; (clear M; try clear w); intro w M
              refine wp_ret ?_
              refine ret1 F rfl rfl ?_
              -- end 0
              exfalso; have := stays c e (by assumption); simp_all
            ·
              clear F; intro hc11 F
              try rw [hc11] at F
              replace hc11 := nf hc11
              refine s_I F rfl rfl rfl rfl rfl rfl ?_; clear F a; intro a F
              refine s_I F rfl rfl rfl rfl rfl rfl ?_; clear F a; intro a F
              refine s_bin F rfl rfl rfl rfl rfl rfl rfl ?_; clear F a; intro a F
              refine s_I F rfl rfl rfl rfl rfl rfl ?_; clear F a; intro a F
              refine s_I F rfl rfl rfl rfl rfl rfl ?_; clear F a; intro a F
              refine t_endM M ?_; (clear M; try clear w); intro w M
              refine c_if F rfl ?_ ?_
              ·
                clear F; intro hc12 F
                try rw [hc12] at F
                replace hc12 := nd1 hc12
                exfalso; have := stays c e (by assumption); simp_all
              ·
                clear F; intro hc13 F
                try rw [hc13] at F
                replace hc13 := nd0 hc13
                refine wp_skip ?_
                replace F := F.keep [1, 5, 6, 7, 8, 9, 10, 11, 12, 13] rfl
                refine wp_region_l [.ind, .ind, .ind, .ind] ([0, 1, 2, 3]) rfl ?_
                refine s_I F rfl rfl rfl rfl rfl rfl ?_; clear F a; intro a F
                refine s_I F rfl rfl rfl rfl rfl rfl ?_; clear F a; intro a F
                refine s_I F rfl rfl rfl rfl rfl rfl ?_; clear F a; intro a F
                refine s_I F rfl rfl rfl rfl rfl rfl ?_; clear F a; intro a F
                refine t_endM M ?_; (clear M; try clear w); intro w M
                replace F := F.keep [1, 5, 6, 7, 8, 9, 10, 11, 12, 13] rfl
                refine wp_region_l [.ind, .ind, .ind] ([0, 1, 2]) rfl ?_
                refine s_I F rfl rfl rfl rfl rfl rfl ?_; clear F a; intro a F
                refine s_add F rfl rfl rfl rfl rfl rfl (by unfold In64; omega) ?_; clear F a; intro a F
                refine s_I F rfl rfl rfl rfl rfl rfl ?_; clear F a; intro a F
                refine t_endM M ?_; (clear M; try clear w); intro w M
                have M1 : Sep _ _ _ (blk b6 _ :: _) := M.f1; replace M := M1; clear M1
                have M1 : Sep _ _ _ (castR b vb _ :: _) := M.f1; replace M := M1; clear M1
                exact lp_again ((fun (i : Int) (c : CSt) (N : Nat → Int) => l.length - i.toNat) (i + 1) ((c.take e).1) (N2)) (by show _ < _; dsimp only; omega) ⟨i + 1, (c.take e).1, N2, rfl, (by omega), (by assumption), W.take e, by intro j; rw [base_take, hN2, take_all (by omega)], F.keep [1, 5, 6, 7, 8, 9] rfl, Sep.left M⟩
          ·
            clear F; intro hc14 F
            try rw [hc14] at F
            skip
            refine s_no F rfl rfl rfl rfl ?_; clear F a; intro a F
            refine s_no F rfl rfl rfl rfl ?_; clear F a; intro a F
            refine s_no F rfl rfl rfl rfl ?_; clear F a; intro a F
            refine s_no F rfl rfl rfl rfl ?_; clear F a; intro a F
            refine s_no F rfl rfl rfl rfl ?_; clear F a; intro a F
            refine s_no F rfl rfl rfl rfl ?_; clear F a; intro a F
            refine s_no F rfl rfl rfl rfl ?_; clear F a; intro a F
            refine s_I F rfl rfl rfl rfl rfl rfl ?_; clear F a; intro a F
            refine t_endM M ?_; (clear M; try clear w); intro w M
            refine c_f F rfl ?_
            refine wp_skip ?_
            replace F := F.keep [1, 5, 6, 7, 8, 9, 10, 11, 12, 13] rfl
            refine wp_region_l [.ind, .ind, .ind, .ind] ([0, 1, 2, 3]) rfl ?_
            refine s_I F rfl rfl rfl rfl rfl rfl ?_; clear F a; intro a F
            refine s_I F rfl rfl rfl rfl rfl rfl ?_; clear F a; intro a F
            refine s_I F rfl rfl rfl rfl rfl rfl ?_; clear F a; intro a F
            refine s_I F rfl rfl rfl rfl rfl rfl ?_; clear F a; intro a F
            refine t_endM M ?_; (clear M; try clear w); intro w M
            replace F := F.keep [1, 5, 6, 7, 8, 9, 10, 11, 12, 13] rfl
            refine wp_region_l [.ind, .ind, .ind] ([0, 1, 2]) rfl ?_
            refine s_I F rfl rfl rfl rfl rfl rfl ?_; clear F a; intro a F
            refine s_add F rfl rfl rfl rfl rfl rfl (by unfold In64; omega) ?_; clear F a; intro a F
            refine s_I F rfl rfl rfl rfl rfl rfl ?_; clear F a; intro a F
            refine t_endM M ?_; (clear M; try clear w); intro w M
            have M1 : Sep _ _ _ (blk b6 _ :: _) := M.f1; replace M := M1; clear M1
            have M1 : Sep _ _ _ (castR b vb _ :: _) := M.f1; replace M := M1; clear M1
            exact lp_again ((fun (i : Int) (c : CSt) (N : Nat → Int) => l.length - i.toNat) (i + 1) ((c.take e).1) (N2)) (by show _ < _; dsimp only; omega) ⟨i + 1, (c.take e).1, N2, rfl, (by omega), (by assumption), W.take e, by intro j; rw [base_take, hN2, take_all (by omega)], F.keep [1, 5, 6, 7, 8, 9] rfl, Sep.left M⟩
    ·
      clear F; intro hc15 F
      try rw [hc15] at F
      replace hc15 := of_decide_eq_false hc15
      refine wp_exit ?_
      refine wp_seq ?_
      have hN1 : N 1 = 0 := by rw [hN]; rfl
      have hN3 : N 2 ≤ 1 := by rw [hN]; exact (base_le c 2).2
      have hN4 : N 3 ≤ 1 := by rw [hN]; exact (base_le c 3).2
      replace F := F.keep [1, 5, 6, 7, 8, 9] rfl
      refine wp_region_l [.ind, .rd, .ind, .ind, .ind, .rd, .ind, .ind, .ind, .ind, .rd, .ind, .ind, .ind, .wr, .ind, .ind] ([0, 1, 2, 3, 4, 5, 6, 7, 8, 9, 10, 11, 12, 13, 14, 15, 16]) rfl ?_
      refine s_ia F rfl rfl rfl rfl ar_43_C8 rfl rfl (by omega) (by omega) ?_; clear F a; intro a F
      refine s_ld F rfl rfl rfl rfl sc_3_C8 rfl (by exact cell_of_blk M.h1 (gf rfl (by omega))) ?_; clear F a; intro a F
      refine s_bin F rfl rfl rfl rfl rfl rfl rfl ?_; clear F a; intro a F
      refine s_I F rfl rfl rfl rfl rfl rfl ?_; clear F a; intro a F
      refine bsplit F 94 rfl ?_ ?_
      ·
        clear F; intro hc16 F
        try rw [hc16] at F
        replace hc16 := of_decide_eq_true hc16
        refine s_ia F rfl rfl rfl rfl ar_43_C8 rfl rfl (by omega) (by omega) ?_; clear F a; intro a F
        refine s_ld F rfl rfl rfl rfl sc_3_C8 rfl (by exact cell_of_blk M.h1 (gf rfl (by omega))) ?_; clear F a; intro a F
        refine s_bin F rfl rfl rfl rfl rfl rfl rfl ?_; clear F a; intro a F
        refine s_I F rfl rfl rfl rfl rfl rfl ?_; clear F a; intro a F
        refine s_I F rfl rfl rfl rfl rfl rfl ?_; clear F a; intro a F
        refine bsplit F 99 rfl ?_ ?_
        ·
          clear F; intro hc17 F
          try rw [hc17] at F
          replace hc17 := of_decide_eq_true hc17
          refine s_ia F rfl rfl rfl rfl ar_43_C8 rfl rfl (by omega) (by omega) ?_; clear F a; intro a F
          refine s_ld F rfl rfl rfl rfl sc_3_C8 rfl (by exact cell_of_blk M.h1 (gf rfl (by omega))) ?_; clear F a; intro a F
          refine s_bin F rfl rfl rfl rfl rfl rfl rfl ?_; clear F a; intro a F
          refine s_I F rfl rfl rfl rfl rfl rfl ?_; clear F a; intro a F
          refine s_I F rfl rfl rfl rfl rfl rfl ?_; clear F a; intro a F
          refine bsplit F 104 rfl ?_ ?_
          ·
            clear F; intro hc18 F
            try rw [hc18] at F
            replace hc18 := of_decide_eq_true hc18
            refine s_cq F M rfl rfl rfl rfl rfl (rfl : _ = some []) cb_14_C8 (fun nd_ => c14 _) ?_; (clear F a M; try clear w); rintro v w rfl M a F
            refine s_I F rfl rfl rfl rfl rfl rfl ?_; clear F a; intro a F
            refine s_I F rfl rfl rfl rfl rfl rfl ?_; clear F a; intro a F
            refine t_endM M ?_; (clear M; try clear w); intro w M
            refine wp_ret ?_
            refine ret1 F rfl rfl ?_
            -- end 1
            exact ⟨_, rfl, rfl, M.chg⟩
          ·
            clear F; intro hc19 F
            try rw [hc19] at F
            replace hc19 := of_decide_eq_false hc19
            exact absurd hN4 hc19
        ·
          clear F; intro hc20 F
          try rw [hc20] at F
          replace hc20 := of_decide_eq_false hc20
          exact absurd hN3 hc20
      ·
        clear F; intro hc21 F
        try rw [hc21] at F
        replace hc21 := of_decide_eq_false hc21
        exact absurd hN1 hc21

theorem law5 (n t frm : Int) (l : List Msg) (v : Value) (w0 : World) (hr : RdSl w0.heap v l.length 3 (l.flatMap encM)) (hl : l.length ≤ maxLen) : Cl Try.prog 5 #[.agg #[.int .i64 n, .int .i64 t, .int .i64 frm], v] w0 (RetQ w0 fun v => v = .bool true) := by
  by_cases h : few l
  · by_cases hn : quorum n t = 0 ∨ frm < 1 ∨ n < frm
    · exact law5b n t frm l v w0 hr hl h hn
    · exact law5c n t frm l v w0 hr hl h (fun e => hn (.inl e)) (by omega) (by omega)
  · exact law5a n t frm l v w0 hr h

end Go.Proofs.Ytibomfgeemhogaa
