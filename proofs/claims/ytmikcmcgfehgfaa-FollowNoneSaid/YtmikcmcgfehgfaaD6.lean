/- D6 of the seat. -/
import Derived.Test.YtmikcmcgfehgfaaD5
namespace Go.Proofs.Ytmikcmcgfehgfaa
open Go Fw
theorem cb_12_D6 : callB Try.prog 12 = true := by kernel_rfl
theorem cb_13_D6 : callB Try.prog 13 = true := by kernel_rfl
theorem sl_40_D6 : slcB Try.prog 40 = some (9, 1) := by kernel_rfl
theorem cb_14_D6 : callB Try.prog 14 = true := by kernel_rfl
theorem sl_22_D6 : slcB Try.prog 22 = some (34, 3) := by kernel_rfl
theorem ag_34_D6 : aggB Try.prog 34 = some 3 := by kernel_rfl
theorem zr_34_D6 : zeroB Try.prog 34 = some (.agg #[.int .i64 0, .int .i64 0, .string { data := #[] }]) := by kernel_rfl
theorem sz_34_D6 : sizeB Try.prog 34 = some 3 := by kernel_rfl
theorem fa_34_0_D6 : FA Try.prog 34 0 0 := fun _ _ _ => by kernel_rfl
theorem sc_3_D6 : scalB Try.prog 3 = true := by kernel_rfl
theorem fa_34_1_D6 : FA Try.prog 34 1 1 := fun _ _ _ => by kernel_rfl
theorem sc_9_D6 : scalB Try.prog 9 = true := by kernel_rfl
theorem fa_34_2_D6 : FA Try.prog 34 2 2 := fun _ _ _ => by kernel_rfl
theorem sz_9_D6 : sizeB Try.prog 9 = some 1 := by kernel_rfl
theorem cb_17_D6 : callB Try.prog 17 = true := by kernel_rfl
theorem cb_21_D6 : callB Try.prog 21 = true := by kernel_rfl
theorem cb_20_D6 : callB Try.prog 20 = true := by kernel_rfl
theorem cb_18_D6 : callB Try.prog 18 = true := by kernel_rfl
theorem cb_24_D6 : callB Try.prog 24 = true := by kernel_rfl
theorem sl_44_D6 : slcB Try.prog 44 = some (3, 1) := by kernel_rfl
open FlwM

theorem put_mem {L : List Ans} {q x : Ans} (h : x ∈ put L q) : x ∈ L ∨ x = q := by
  unfold put at h
  split at h
  · rcases List.mem_append.1 h with h | h
    · exact .inl h
    · simp at h; exact .inr h
  · exact .inl h
theorem true_pre {t : Int} {L : List Ans} {lg : List ByteArray} (W : FlwM.Wf L) (t0 : 0 ≤ t) (H : ∀ a ∈ L, t < a.frm → 0 ≤ a.height ∧ lg[a.height.toNat]? = some a.value) : log (told t L) = lg.take (log (told t L)).length :=
  log_pre fun i v hv => by
    obtain ⟨a, ha, h1, h2, h3⟩ := told_good W t0 hv
    have := (H a ha h3).2
    rw [h1, h2] at this
    simpa using this
theorem grow {t : Int} {L : List Ans} (q : Ans) : (log (told t L)).length ≤ (log (told t (put L q))).length ∧ (log (told t (put L q))).take (log (told t L)).length = log (told t L) :=
  logF_grow (fun _ _ h => told_stays h) 65 0
theorem stays {t h : Int} {L : List Ans} {q : Ans} (hs : (told t L h).isSome = true) : told t (put L q) h = told t L h := by
  rw [told_some hs]
  exact told_stays (told_some hs)

set_option maxRecDepth 100000 in
set_option maxHeartbeats 400000 in
theorem law4n (t : Int) (lg : List ByteArray) (l : List Ans) (v2 v : Value) (w0 : World) (hr2 : RdSl w0.heap v2 lg.length 1 (lg.flatMap encT)) (hr : RdSl w0.heap v l.length 3 (l.flatMap encA)) (h : ¬ few l) : Cl Try.prog 4 #[.int .i64 t, v2, v] w0 (RetQ w0 fun v => v = .bool true) := by
  have M : Sep (fun _ => False) w0 w0 _ := Sep.nil _ w0
  have hro := (ro_of hr)
  obtain ⟨A, cc, rfl, hcc⟩ := hr.form
  have hro2 := (ro_of hr2)
  obtain ⟨A2, cc2, rfl, hcc2⟩ := hr2.form
  refine enter (vs := [_, _, _]) Try.func4 rfl rfl rfl ?_
  intro a F
  refine wp_seq ?_
  refine wp_region_l [.ind] ([0]) rfl ?_
  refine s_I F rfl rfl rfl rfl rfl rfl ?_; clear F a; intro a F
  refine t_endM M ?_; (clear M; try clear w); intro w M
  refine wp_seq ?_
  refine wp_seq ?_
  refine wp_region_l [.ind, .wr, .ind, .ind, .ind, .ind, .ind, .ind, .ind, .ind, .ind, .ind, .ind, .ind, .ind, .ind] ([0, 1, 2, 3, 4, 5, 6, 7, 8, 9, 10, 11, 12, 13, 14, 15]) rfl ?_
  refine s_I F rfl rfl rfl rfl rfl rfl ?_; clear F a; intro a F
  refine s_cq F M rfl rfl rfl rfl rfl (rfl : _ = some [_]) cb_12_D6 (fun nd_ => c12n _ h (M.chg.ro hro)) ?_; (clear F a M; try clear w); rintro v w rfl M a F
  refine s_I F rfl rfl rfl rfl rfl rfl ?_; clear F a; intro a F
  refine s_I F rfl rfl rfl rfl rfl rfl ?_; clear F a; intro a F
  replace F : Fr _ _ ((14, Value.bool true) :: _) := F
  refine s_no F rfl rfl rfl rfl ?_; clear F a; intro a F
  refine s_no F rfl rfl rfl rfl ?_; clear F a; intro a F
  refine s_I F rfl rfl rfl rfl rfl rfl ?_; clear F a; intro a F
  refine s_I F rfl rfl rfl rfl rfl rfl ?_; clear F a; intro a F
  refine s_no F rfl rfl rfl rfl ?_; clear F a; intro a F
  refine s_no F rfl rfl rfl rfl ?_; clear F a; intro a F
  refine s_I F rfl rfl rfl rfl rfl rfl ?_; clear F a; intro a F
  refine s_I F rfl rfl rfl rfl rfl rfl ?_; clear F a; intro a F
  refine s_no F rfl rfl rfl rfl ?_; clear F a; intro a F
  refine s_no F rfl rfl rfl rfl ?_; clear F a; intro a F
  refine s_no F rfl rfl rfl rfl ?_; clear F a; intro a F
  refine s_I F rfl rfl rfl rfl rfl rfl ?_; clear F a; intro a F
  refine t_endM M ?_; (clear M; try clear w); intro w M
  refine c_t F rfl ?_
  refine wp_seq ?_
  replace F := F.keep [0, 1, 2, 6] rfl
  refine wp_region_l [.wr, .ind] ([0, 1]) rfl ?_
  refine s_cq F M rfl rfl rfl rfl rfl (rfl : _ = some []) cb_13_D6 (fun nd_ => c13 _) ?_; (clear F a M; try clear w); rintro v w rfl M a F
  refine s_I F rfl rfl rfl rfl rfl rfl ?_; clear F a; intro a F
  refine t_endM M ?_; (clear M; try clear w); intro w M
  refine wp_ret ?_
  refine ret1 F rfl rfl ?_
  -- end 0
  exact ⟨_, rfl, rfl, M.chg⟩
set_option maxRecDepth 100000 in
set_option maxHeartbeats 400000 in
theorem law4a (t : Int) (lg : List ByteArray) (l : List Ans) (v2 v : Value) (w0 : World) (hr2 : RdSl w0.heap v2 lg.length 1 (lg.flatMap encT)) (hr : RdSl w0.heap v l.length 3 (l.flatMap encA)) (h : few l) (hn : t < 0 ∨ 2 < t ∨ 20 < lg.length) : Cl Try.prog 4 #[.int .i64 t, v2, v] w0 (RetQ w0 fun v => v = .bool true) := by
  have M : Sep (fun _ => False) w0 w0 _ := Sep.nil _ w0
  have hro := (ro_of hr)
  obtain ⟨A, cc, rfl, hcc⟩ := hr.form
  have hro2 := (ro_of hr2)
  obtain ⟨A2, cc2, rfl, hcc2⟩ := hr2.form
  refine enter (vs := [_, _, _]) Try.func4 rfl rfl rfl ?_
  intro a F
  refine wp_seq ?_
  refine wp_region_l [.ind] ([0]) rfl ?_
  refine s_I F rfl rfl rfl rfl rfl rfl ?_; clear F a; intro a F
  refine t_endM M ?_; (clear M; try clear w); intro w M
  refine wp_seq ?_
  refine wp_seq ?_
  refine wp_region_l [.ind, .wr, .ind, .ind, .ind, .ind, .ind, .ind, .ind, .ind, .ind, .ind, .ind, .ind, .ind, .ind] ([0, 1, 2, 3, 4, 5, 6, 7, 8, 9, 10, 11, 12, 13, 14, 15]) rfl ?_
  refine s_I F rfl rfl rfl rfl rfl rfl ?_; clear F a; intro a F
  refine s_cq F M rfl rfl rfl rfl rfl (rfl : _ = some [_]) cb_12_D6 (fun nd_ => c12y _ h (M.chg.ro hro)) ?_; (clear F a M; try clear w); rintro v w rfl M a F
  refine s_I F rfl rfl rfl rfl rfl rfl ?_; clear F a; intro a F
  refine s_I F rfl rfl rfl rfl rfl rfl ?_; clear F a; intro a F
  replace F : Fr _ _ ((14, Value.bool false) :: _) := F
  refine s_I F rfl rfl rfl rfl rfl rfl ?_; clear F a; intro a F
  refine s_bin F rfl rfl rfl rfl rfl rfl rfl ?_; clear F a; intro a F
  refine s_I F rfl rfl rfl rfl rfl rfl ?_; clear F a; intro a F
  refine s_I F rfl rfl rfl rfl rfl rfl ?_; clear F a; intro a F
  refine bsplit F 18 rfl ?_ ?_
  ·
    clear F; intro hc0 F
    try rw [hc0] at F
    replace hc0 := of_decide_eq_true hc0
    refine s_no F rfl rfl rfl rfl ?_; clear F a; intro a F
    refine s_no F rfl rfl rfl rfl ?_; clear F a; intro a F
    refine s_I F rfl rfl rfl rfl rfl rfl ?_; clear F a; intro a F
    refine s_I F rfl rfl rfl rfl rfl rfl ?_; clear F a; intro a F
    refine s_no F rfl rfl rfl rfl ?_; clear F a; intro a F
    refine s_no F rfl rfl rfl rfl ?_; clear F a; intro a F
    refine s_no F rfl rfl rfl rfl ?_; clear F a; intro a F
    refine s_I F rfl rfl rfl rfl rfl rfl ?_; clear F a; intro a F
    refine t_endM M ?_; (clear M; try clear w); intro w M
    refine c_t F rfl ?_
    refine wp_seq ?_
    replace F := F.keep [0, 1, 2, 6] rfl
    refine wp_region_l [.wr, .ind] ([0, 1]) rfl ?_
    refine s_cq F M rfl rfl rfl rfl rfl (rfl : _ = some []) cb_13_D6 (fun nd_ => c13 _) ?_; (clear F a M; try clear w); rintro v w rfl M a F
    refine s_I F rfl rfl rfl rfl rfl rfl ?_; clear F a; intro a F
    refine t_endM M ?_; (clear M; try clear w); intro w M
    refine wp_ret ?_
    refine ret1 F rfl rfl ?_
    -- end 0
    exact ⟨_, rfl, rfl, M.chg⟩
  ·
    clear F; intro hc1 F
    try rw [hc1] at F
    replace hc1 := of_decide_eq_false hc1
    refine s_I F rfl rfl rfl rfl rfl rfl ?_; clear F a; intro a F
    refine s_bin F rfl rfl rfl rfl rfl rfl rfl ?_; clear F a; intro a F
    refine s_I F rfl rfl rfl rfl rfl rfl ?_; clear F a; intro a F
    refine s_I F rfl rfl rfl rfl rfl rfl ?_; clear F a; intro a F
    refine bsplit F 22 rfl ?_ ?_
    ·
      clear F; intro hc2 F
      try rw [hc2] at F
      replace hc2 := of_decide_eq_true hc2
      refine s_no F rfl rfl rfl rfl ?_; clear F a; intro a F
      refine s_no F rfl rfl rfl rfl ?_; clear F a; intro a F
      refine s_no F rfl rfl rfl rfl ?_; clear F a; intro a F
      refine s_I F rfl rfl rfl rfl rfl rfl ?_; clear F a; intro a F
      refine t_endM M ?_; (clear M; try clear w); intro w M
      refine c_t F rfl ?_
      refine wp_seq ?_
      replace F := F.keep [0, 1, 2, 6] rfl
      refine wp_region_l [.wr, .ind] ([0, 1]) rfl ?_
      refine s_cq F M rfl rfl rfl rfl rfl (rfl : _ = some []) cb_13_D6 (fun nd_ => c13 _) ?_; (clear F a M; try clear w); rintro v w rfl M a F
      refine s_I F rfl rfl rfl rfl rfl rfl ?_; clear F a; intro a F
      refine t_endM M ?_; (clear M; try clear w); intro w M
      refine wp_ret ?_
      refine ret1 F rfl rfl ?_
      -- end 1
      exact ⟨_, rfl, rfl, M.chg⟩
    ·
      clear F; intro hc3 F
      try rw [hc3] at F
      replace hc3 := of_decide_eq_false hc3
      refine s_I F rfl rfl rfl rfl rfl rfl ?_; clear F a; intro a F
      refine s_len F rfl rfl rfl rfl sl_40_D6 rfl ?_; clear F a; intro a F
      refine s_bin F rfl rfl rfl rfl rfl rfl rfl ?_; clear F a; intro a F
      refine s_I F rfl rfl rfl rfl rfl rfl ?_; clear F a; intro a F
      refine t_endM M ?_; (clear M; try clear w); intro w M
      refine c_if F rfl ?_ ?_
      ·
        clear F; intro hc4 F
        try rw [hc4] at F
        replace hc4 := of_decide_eq_true hc4
        refine wp_seq ?_
        replace F := F.keep [0, 1, 2, 6] rfl
        refine wp_region_l [.wr, .ind] ([0, 1]) rfl ?_
        refine s_cq F M rfl rfl rfl rfl rfl (rfl : _ = some []) cb_13_D6 (fun nd_ => c13 _) ?_; (clear F a M; try clear w); rintro v w rfl M a F
        refine s_I F rfl rfl rfl rfl rfl rfl ?_; clear F a; intro a F
        refine t_endM M ?_; (clear M; try clear w); intro w M
        refine wp_ret ?_
        refine ret1 F rfl rfl ?_
        -- end 2
        exact ⟨_, rfl, rfl, M.chg⟩
      ·
        clear F; intro hc5 F
        try rw [hc5] at F
        replace hc5 := of_decide_eq_false hc5
        exfalso; omega
set_option maxRecDepth 100000 in
set_option maxHeartbeats 1000000 in
theorem law4b (t : Int) (lg : List ByteArray) (l : List Ans) (v2 v : Value) (w0 : World) (hr2 : RdSl w0.heap v2 lg.length 1 (lg.flatMap encT)) (hr : RdSl w0.heap v l.length 3 (l.flatMap encA)) (h : few l) (t0 : 0 ≤ t) (t2 : t ≤ 2) (hlg : lg.length ≤ 20) : Cl Try.prog 4 #[.int .i64 t, v2, v] w0 (RetQ w0 fun v => v = .bool true) := by
  have M : Sep (fun _ => False) w0 w0 _ := Sep.nil _ w0
  have hro := (ro_of hr)
  obtain ⟨A, cc, rfl, hcc⟩ := hr.form
  have hro2 := (ro_of hr2)
  obtain ⟨A2, cc2, rfl, hcc2⟩ := hr2.form
  have ht : new t = t := by unfold new; omega
  have hl100 := h.1
  refine enter (vs := [_, _, _]) Try.func4 rfl rfl rfl ?_
  intro a F
  refine wp_seq ?_
  refine wp_region_l [.ind] ([0]) rfl ?_
  refine s_I F rfl rfl rfl rfl rfl rfl ?_; clear F a; intro a F
  refine t_endM M ?_; (clear M; try clear w); intro w M
  refine wp_seq ?_
  refine wp_seq ?_
  refine wp_region_l [.ind, .wr, .ind, .ind, .ind, .ind, .ind, .ind, .ind, .ind, .ind, .ind, .ind, .ind, .ind, .ind] ([0, 1, 2, 3, 4, 5, 6, 7, 8, 9, 10, 11, 12, 13, 14, 15]) rfl ?_
  refine s_I F rfl rfl rfl rfl rfl rfl ?_; clear F a; intro a F
  refine s_cq F M rfl rfl rfl rfl rfl (rfl : _ = some [_]) cb_12_D6 (fun nd_ => c12y _ h (M.chg.ro hro)) ?_; (clear F a M; try clear w); rintro v w rfl M a F
  refine s_I F rfl rfl rfl rfl rfl rfl ?_; clear F a; intro a F
  refine s_I F rfl rfl rfl rfl rfl rfl ?_; clear F a; intro a F
  replace F : Fr _ _ ((14, Value.bool false) :: _) := F
  refine s_I F rfl rfl rfl rfl rfl rfl ?_; clear F a; intro a F
  refine s_bin F rfl rfl rfl rfl rfl rfl rfl ?_; clear F a; intro a F
  refine s_I F rfl rfl rfl rfl rfl rfl ?_; clear F a; intro a F
  refine s_I F rfl rfl rfl rfl rfl rfl ?_; clear F a; intro a F
  refine bsplit F 18 rfl ?_ ?_
  ·
    clear F; intro hc0 F
    try rw [hc0] at F
    replace hc0 := of_decide_eq_true hc0
    refine s_no F rfl rfl rfl rfl ?_; clear F a; intro a F
    refine s_no F rfl rfl rfl rfl ?_; clear F a; intro a F
    refine s_I F rfl rfl rfl rfl rfl rfl ?_; clear F a; intro a F
    refine s_I F rfl rfl rfl rfl rfl rfl ?_; clear F a; intro a F
    refine s_no F rfl rfl rfl rfl ?_; clear F a; intro a F
    refine s_no F rfl rfl rfl rfl ?_; clear F a; intro a F
    refine s_no F rfl rfl rfl rfl ?_; clear F a; intro a F
    refine s_I F rfl rfl rfl rfl rfl rfl ?_; clear F a; intro a F
    refine t_endM M ?_; (clear M; try clear w); intro w M
    refine c_t F rfl ?_
    refine wp_seq ?_
    replace F := F.keep [0, 1, 2, 6] rfl
    refine wp_region_l [.wr, .ind] ([0, 1]) rfl ?_
    refine s_cq F M rfl rfl rfl rfl rfl (rfl : _ = some []) cb_13_D6 (fun nd_ => c13 _) ?_; (clear F a M; try clear w); rintro v w rfl M a F
    refine s_I F rfl rfl rfl rfl rfl rfl ?_; clear F a; intro a F
    refine t_endM M ?_; (clear M; try clear w); intro w M
    refine wp_ret ?_
    refine ret1 F rfl rfl ?_
    -- end 0
    exact ⟨_, rfl, rfl, M.chg⟩
  ·
    clear F; intro hc1 F
    try rw [hc1] at F
    replace hc1 := of_decide_eq_false hc1
    refine s_I F rfl rfl rfl rfl rfl rfl ?_; clear F a; intro a F
    refine s_bin F rfl rfl rfl rfl rfl rfl rfl ?_; clear F a; intro a F
    refine s_I F rfl rfl rfl rfl rfl rfl ?_; clear F a; intro a F
    refine s_I F rfl rfl rfl rfl rfl rfl ?_; clear F a; intro a F
    refine bsplit F 22 rfl ?_ ?_
    ·
      clear F; intro hc2 F
      try rw [hc2] at F
      replace hc2 := of_decide_eq_true hc2
      refine s_no F rfl rfl rfl rfl ?_; clear F a; intro a F
      refine s_no F rfl rfl rfl rfl ?_; clear F a; intro a F
      refine s_no F rfl rfl rfl rfl ?_; clear F a; intro a F
      refine s_I F rfl rfl rfl rfl rfl rfl ?_; clear F a; intro a F
      refine t_endM M ?_; (clear M; try clear w); intro w M
      refine c_t F rfl ?_
      refine wp_seq ?_
      replace F := F.keep [0, 1, 2, 6] rfl
      refine wp_region_l [.wr, .ind] ([0, 1]) rfl ?_
      refine s_cq F M rfl rfl rfl rfl rfl (rfl : _ = some []) cb_13_D6 (fun nd_ => c13 _) ?_; (clear F a M; try clear w); rintro v w rfl M a F
      refine s_I F rfl rfl rfl rfl rfl rfl ?_; clear F a; intro a F
      refine t_endM M ?_; (clear M; try clear w); intro w M
      refine wp_ret ?_
      refine ret1 F rfl rfl ?_
      -- end 1
      exact ⟨_, rfl, rfl, M.chg⟩
    ·
      clear F; intro hc3 F
      try rw [hc3] at F
      replace hc3 := of_decide_eq_false hc3
      refine s_I F rfl rfl rfl rfl rfl rfl ?_; clear F a; intro a F
      refine s_len F rfl rfl rfl rfl sl_40_D6 rfl ?_; clear F a; intro a F
      refine s_bin F rfl rfl rfl rfl rfl rfl rfl ?_; clear F a; intro a F
      refine s_I F rfl rfl rfl rfl rfl rfl ?_; clear F a; intro a F
      refine t_endM M ?_; (clear M; try clear w); intro w M
      refine c_if F rfl ?_ ?_
      ·
        clear F; intro hc4 F
        try rw [hc4] at F
        replace hc4 := of_decide_eq_true hc4
        refine wp_seq ?_
        replace F := F.keep [0, 1, 2, 6] rfl
        refine wp_region_l [.wr, .ind] ([0, 1]) rfl ?_
        refine s_cq F M rfl rfl rfl rfl rfl (rfl : _ = some []) cb_13_D6 (fun nd_ => c13 _) ?_; (clear F a M; try clear w); rintro v w rfl M a F
        refine s_I F rfl rfl rfl rfl rfl rfl ?_; clear F a; intro a F
        refine t_endM M ?_; (clear M; try clear w); intro w M
        refine wp_ret ?_
        refine ret1 F rfl rfl ?_
        -- end 2
        exact ⟨_, rfl, rfl, M.chg⟩
      ·
        clear F; intro hc5 F
        try rw [hc5] at F
        replace hc5 := of_decide_eq_false hc5
        refine wp_skip ?_
        refine wp_seq ?_
        replace F := F.keep [0, 1, 2, 6] rfl
        refine wp_region_l [.ind, .wr, .ind] ([0, 1, 2]) rfl ?_
        refine s_I F rfl rfl rfl rfl rfl rfl ?_; clear F a; intro a F
        refine s_call (m := []) F M rfl rfl rfl rfl rfl (rfl : _ = some [_]) cb_14_D6 (fun nd_ => c14 t _) ?_; (clear F a M; try clear w); rintro v b w rfl M a F; (try simp only [List.cons_append, List.nil_append] at M)
        rw [ht] at M
        refine s_I F rfl rfl rfl rfl rfl rfl ?_; clear F a; intro a F
        refine t_endM M ?_; (clear M; try clear w); intro w M
        refine wp_seq ?_
        refine wp_seq ?_
        replace F := F.keep [0, 1, 2, 6, 7] rfl
        refine wp_region_l [.ind] ([0]) rfl ?_
        refine s_I F rfl rfl rfl rfl rfl rfl ?_; clear F a; intro a F
        refine t_endM M ?_; (clear M; try clear w); intro w M
        refine wp_block ?_
        have M1 : Sep _ _ _ (flwR _ _ _ _ :: _) := M; replace M := M1; clear M1
        refine loopX (X := (Int) × (List Ans) × (Nat → Option Nat)) F [0, 1, 2, 6, 7] rfl (fun ((i, L, mp) : (Int) × (List Ans) × (Nat → Option Nat)) => (0 ≤ i) ∧ (i ≤ l.length) ∧ (FlwM.Wf L) ∧ (∀ a ∈ L, t < a.frm → 0 ≤ a.height ∧ lg[a.height.toNat]? = some a.value)) (fun ((i, L, mp) : (Int) × (List Ans) × (Nat → Option Nat)) => [(8, .int .i64 i)]) (fun ((i, L, mp) : (Int) × (List Ans) × (Nat → Option Nat)) => [flwR b mp t L]) (fun ((i, L, mp) : (Int) × (List Ans) × (Nat → Option Nat)) => l.length - i.toNat) ((0), ([]), (_)) M ⟨(by omega), (by omega), .nil, (by simp)⟩ (F.keep [8, 0, 1, 2, 6, 7] rfl) ?_
        clear F M; clear a; (try clear w)
        rintro ⟨i, L, mp⟩ a w ⟨i0, i1, W, H⟩ F M; try dsimp only at F M
        try simp only [List.cons_append, List.nil_append] at F M
        try dsimp only at i0 i1 W H
        have hln := W.len
        refine wp_seq ?_
        refine wp_seq ?_
        refine wp_region_l [.ind, .ind, .ind, .ind] ([0, 1, 2, 3]) rfl ?_
        refine s_I F rfl rfl rfl rfl rfl rfl ?_; clear F a; intro a F
        refine s_I F rfl rfl rfl rfl rfl rfl ?_; clear F a; intro a F
        refine s_len F rfl rfl rfl rfl sl_22_D6 rfl ?_; clear F a; intro a F
        refine s_bin F rfl rfl rfl rfl rfl rfl rfl ?_; clear F a; intro a F
        refine t_endM M ?_; (clear M; try clear w); intro w M
        refine c_if F rfl ?_ ?_
        ·
          clear F; intro hc6 F
          try rw [hc6] at F
          replace hc6 := of_decide_eq_true hc6
          refine wp_skip ?_
          refine wp_seq ?_
          refine wp_block ?_
          refine wp_seq ?_
          replace F := F.keep [0, 1, 2, 6, 7, 8] rfl
          refine wp_region_l [.ind, .ind, .ind, .rd, .wr, .wr] ([0, 1, 2, 3, 4, 5]) rfl ?_
          refine s_I F rfl rfl rfl rfl rfl rfl ?_; clear F a; intro a F
          refine s_I F rfl rfl rfl rfl rfl rfl ?_; clear F a; intro a F
          refine s_ix F rfl rfl rfl rfl sl_22_D6 rfl rfl (by exact M.chg.ro hro) (by omega) (by omega) ?_; clear F a; intro e38 he38 a F
          refine s_lda F rfl rfl rfl rfl ag_34_D6 rfl rfl (rdsX (M.chg.ro hro) (by intro e; rfl) he38) ?_; clear F a; intro a F
          refine s_alc F M rfl rfl rfl rfl zr_34_D6 rfl ?_; (clear F a M; try clear w); intro b9 w M a F
          refine s_stW F M rfl rfl rfl sz_34_D6 rfl rfl rfl rfl rfl ?_; (clear M; try clear w); intro w M
          refine t_endM M ?_; (clear M; try clear w); intro w M
          refine wp_seq ?_
          refine wp_seq ?_
          replace F := F.keep [0, 1, 2, 6, 7, 8, 9] rfl
          refine wp_region_l [.ind, .rd, .ind, .ind] ([0, 1, 2, 3]) rfl ?_
          refine s_fa0 F rfl rfl rfl rfl fa_34_0_D6 rfl ?_; clear F a; intro a F
          refine s_ld F rfl rfl rfl rfl sc_3_D6 rfl (by exact cell_of_blk M.h0 (lit rfl)) ?_; clear F a; intro a F
          refine s_I F rfl rfl rfl rfl rfl rfl ?_; clear F a; intro a F
          refine s_bin F rfl rfl rfl rfl rfl rfl rfl ?_; clear F a; intro a F
          refine t_endM M ?_; (clear M; try clear w); intro w M
          have M1 : Sep _ _ _ (blk b9 _ :: _) := M; replace M := M1; clear M1
          refine cutX (X := (Ans)) (m0 := [_]) F [0, 1, 2, 6, 7, 8, 9] rfl M (fun (q : Ans) => (t < q.frm → 0 ≤ q.height ∧ lg[q.height.toNat]? = some q.value)) (fun (q : Ans) => []) (fun (q : Ans) => [blk b9 (.cells (encA q).toArray 34 (0, 0))]) ?_ ?_
          ·
            refine c_if F rfl ?_ ?_
            ·
              clear F; intro hc7 F
              try rw [hc7] at F
              replace hc7 := of_decide_eq_true hc7
              refine wp_seq ?_
              refine wp_seq ?_
              replace F := F.keep [0, 1, 2, 6, 7, 8, 9] rfl
              refine wp_region_l [.ind, .rd, .ind, .ind, .ind, .rd, .ind, .ind, .ind, .ind] ([0, 1, 2, 3, 4, 5, 6, 7, 8, 9]) rfl ?_
              refine s_fa0 F rfl rfl rfl rfl fa_34_1_D6 rfl ?_; clear F a; intro a F
              refine s_ld F rfl rfl rfl rfl sc_3_D6 rfl (by exact cell_of_blk M.h0 (lit rfl)) ?_; clear F a; intro a F
              refine s_bin F rfl rfl rfl rfl rfl rfl rfl ?_; clear F a; intro a F
              refine s_I F rfl rfl rfl rfl rfl rfl ?_; clear F a; intro a F
              refine bsplit F 47 rfl ?_ ?_
              ·
                clear F; intro hc8 F
                try rw [hc8] at F
                replace hc8 := of_decide_eq_true hc8
                refine s_no F rfl rfl rfl rfl ?_; clear F a; intro a F
                refine s_no F rfl rfl rfl rfl ?_; clear F a; intro a F
                refine s_no F rfl rfl rfl rfl ?_; clear F a; intro a F
                refine s_no F rfl rfl rfl rfl ?_; clear F a; intro a F
                refine s_no F rfl rfl rfl rfl ?_; clear F a; intro a F
                refine s_I F rfl rfl rfl rfl rfl rfl ?_; clear F a; intro a F
                refine t_endM M ?_; (clear M; try clear w); intro w M
                refine c_t F rfl ?_
                refine wp_exit ?_
                replace F := F.keep [0, 1, 2, 6, 7, 8, 9] rfl
                refine wp_region_l [.ind, .ind, .ind] ([0, 1, 2]) rfl ?_
                refine s_I F rfl rfl rfl rfl rfl rfl ?_; clear F a; intro a F
                refine s_add F rfl rfl rfl rfl rfl rfl (by unfold In64; omega) ?_; clear F a; intro a F
                refine s_I F rfl rfl rfl rfl rfl rfl ?_; clear F a; intro a F
                refine t_endM M ?_; (clear M; try clear w); intro w M
                refine again ((i + 1), (L), (mp)) (by show _ < _; (try dsimp only); omega) ⟨(by omega), (by assumption), (by assumption), (by assumption)⟩ (F.keep [8, 0, 1, 2, 6, 7] rfl) ?_
                try dsimp only [List.cons_append, List.nil_append]
                refine M.pick ?_; repeat (first | exact PkG.nil | refine PkG.cons 1 rfl rfl ?_)
              ·
                clear F; intro hc9 F
                try rw [hc9] at F
                replace hc9 := of_decide_eq_false hc9
                refine s_fa0 F rfl rfl rfl rfl fa_34_1_D6 rfl ?_; clear F a; intro a F
                refine s_ld F rfl rfl rfl rfl sc_3_D6 rfl (by exact cell_of_blk M.h0 (lit rfl)) ?_; clear F a; intro a F
                refine s_I F rfl rfl rfl rfl rfl rfl ?_; clear F a; intro a F
                refine s_len F rfl rfl rfl rfl sl_40_D6 rfl ?_; clear F a; intro a F
                refine s_bin F rfl rfl rfl rfl rfl rfl rfl ?_; clear F a; intro a F
                refine s_I F rfl rfl rfl rfl rfl rfl ?_; clear F a; intro a F
                refine t_endM M ?_; (clear M; try clear w); intro w M
                refine c_if F rfl ?_ ?_
                ·
                  clear F; intro hc10 F
                  try rw [hc10] at F
                  replace hc10 := of_decide_eq_true hc10
                  refine wp_exit ?_
                  replace F := F.keep [0, 1, 2, 6, 7, 8, 9] rfl
                  refine wp_region_l [.ind, .ind, .ind] ([0, 1, 2]) rfl ?_
                  refine s_I F rfl rfl rfl rfl rfl rfl ?_; clear F a; intro a F
                  refine s_add F rfl rfl rfl rfl rfl rfl (by unfold In64; omega) ?_; clear F a; intro a F
                  refine s_I F rfl rfl rfl rfl rfl rfl ?_; clear F a; intro a F
                  refine t_endM M ?_; (clear M; try clear w); intro w M
                  refine again ((i + 1), (L), (mp)) (by show _ < _; (try dsimp only); omega) ⟨(by omega), (by assumption), (by assumption), (by assumption)⟩ (F.keep [8, 0, 1, 2, 6, 7] rfl) ?_
                  try dsimp only [List.cons_append, List.nil_append]
                  refine M.pick ?_; repeat (first | exact PkG.nil | refine PkG.cons 1 rfl rfl ?_)
                ·
                  clear F; intro hc11 F
                  try rw [hc11] at F
                  replace hc11 := of_decide_eq_false hc11
                  refine wp_skip ?_
                  replace F := F.keep [0, 1, 2, 6, 7, 8, 9] rfl
                  refine wp_region_l [.ind, .ind, .rd, .ind, .rd, .ind, .wr] ([0, 1, 2, 3, 4, 5, 6]) rfl ?_
                  refine s_I F rfl rfl rfl rfl rfl rfl ?_; clear F a; intro a F
                  refine s_fa0 F rfl rfl rfl rfl fa_34_1_D6 rfl ?_; clear F a; intro a F
                  refine s_ld F rfl rfl rfl rfl sc_3_D6 rfl (by exact cell_of_blk M.h0 (lit rfl)) ?_; clear F a; intro a F
                  refine s_ix F rfl rfl rfl rfl sl_40_D6 rfl rfl (by exact M.chg.ro hro2) (by omega) (by omega) ?_; clear F a; intro e57 he57 a F
                  try (obtain rfl := Option.some.inj (he38.symm.trans he57))
                  refine s_ld F rfl rfl rfl rfl sc_9_D6 rfl (by exact rdX0 (M.chg.ro hro2) (by intro e; rfl) he57 rfl) ?_; clear F a; intro a F
                  refine s_fa0 F rfl rfl rfl rfl fa_34_2_D6 rfl ?_; clear F a; intro a F
                  refine s_st F M rfl rfl rfl sz_9_D6 rfl rfl rfl (by exact Nat.le_of_ble_eq_true rfl) ?_; (clear M; try clear w); intro w M
                  refine t_endM M ?_; (clear M; try clear w); intro w M
                  refine joined (⟨e38.frm, e38.height, e57⟩) (fun _ => ⟨by show 0 ≤ e38.height; omega, he57⟩) (F.keep [0, 1, 2, 6, 7, 8, 9] rfl) ?_
                  try dsimp only [List.cons_append, List.nil_append]
                  refine M.pick ?_; repeat (first | exact PkG.nil | refine PkG.cons 0 rfl rfl ?_ | refine PkG.cons 1 rfl rfl ?_)
            ·
              clear F; intro hc12 F
              try rw [hc12] at F
              replace hc12 := of_decide_eq_false hc12
              refine wp_skip ?_
              refine joined (e38) (fun h => absurd h (by assumption)) (F.keep [0, 1, 2, 6, 7, 8, 9] rfl) ?_
              try dsimp only [List.cons_append, List.nil_append]
              refine M.pick ?_; repeat (first | exact PkG.nil | refine PkG.cons 0 rfl rfl ?_ | refine PkG.cons 1 rfl rfl ?_)
          ·
            clear F M; clear a; (try clear w)
            rintro q a w hq F M; try dsimp only at F M
            try simp only [List.cons_append, List.nil_append] at F M
            try dsimp only at hq
            refine wp_region_l [.ind, .ind, .rd, .ind, .rd, .ind, .rd, .wr] ([0, 1, 2, 3, 4, 5, 6, 7]) rfl ?_
            refine s_I F rfl rfl rfl rfl rfl rfl ?_; clear F a; intro a F
            refine s_fa0 F rfl rfl rfl rfl fa_34_0_D6 rfl ?_; clear F a; intro a F
            refine s_ld F rfl rfl rfl rfl sc_3_D6 rfl (by exact cell_of_blk M.h0 (lit rfl)) ?_; clear F a; intro a F
            refine s_fa0 F rfl rfl rfl rfl fa_34_1_D6 rfl ?_; clear F a; intro a F
            refine s_ld F rfl rfl rfl rfl sc_3_D6 rfl (by exact cell_of_blk M.h0 (lit rfl)) ?_; clear F a; intro a F
            refine s_fa0 F rfl rfl rfl rfl fa_34_2_D6 rfl ?_; clear F a; intro a F
            refine s_ld F rfl rfl rfl rfl sc_9_D6 rfl (by exact cell_of_blk M.h0 (lit rfl)) ?_; clear F a; intro a F
            have M1 : Sep _ _ _ (flwR _ _ _ _ :: _) := M.f1; replace M := M1; clear M1
            refine s_call (m := [_]) F M rfl rfl rfl rfl rfl (rfl : _ = some [_, _, _, _]) cb_17_D6 (fun nd_ => c17 b _ t L q _ (M.drewN nd_).own.one) ?_; (clear F a M; try clear w); rintro v mp2 w rfl M a F; (try simp only [List.cons_append, List.nil_append] at M)
            refine t_endM M ?_; (clear M; try clear w); intro w M
            replace F := F.keep [0, 1, 2, 6, 7, 8, 9] rfl
            refine wp_region_l [.ind, .ind, .ind] ([0, 1, 2]) rfl ?_
            refine s_I F rfl rfl rfl rfl rfl rfl ?_; clear F a; intro a F
            refine s_add F rfl rfl rfl rfl rfl rfl (by unfold In64; omega) ?_; clear F a; intro a F
            refine s_I F rfl rfl rfl rfl rfl rfl ?_; clear F a; intro a F
            refine t_endM M ?_; (clear M; try clear w); intro w M
            refine again ((i + 1), (put L q), (mp2)) (by show _ < _; (try dsimp only); omega) ⟨(by omega), (by assumption), W.put q, (fun a ha hf => (put_mem ha).elim (fun h => H a h hf) (fun h => by subst h; exact hq hf))⟩ (F.keep [8, 0, 1, 2, 6, 7] rfl) ?_
            try dsimp only [List.cons_append, List.nil_append]
            refine M.pick ?_; repeat (first | exact PkG.nil | refine PkG.cons 0 rfl rfl ?_)
        ·
          clear F; intro hc13 F
          try rw [hc13] at F
          replace hc13 := of_decide_eq_false hc13
          refine wp_exit ?_
          refine wp_seq ?_
          replace F := F.keep [0, 1, 2, 6, 7, 8] rfl
          refine wp_region_l [.ind, .wr, .ind] ([0, 1, 2]) rfl ?_
          refine s_I F rfl rfl rfl rfl rfl rfl ?_; clear F a; intro a F
          have M1 : Sep _ _ _ (flwR _ _ _ _ :: _) := M; replace M := M1; clear M1
          refine s_call (m := [_]) F M rfl rfl rfl rfl rfl (rfl : _ = some [_]) cb_21_D6 (fun nd_ => c21 b _ t L _ (M.drewN nd_).own.one) ?_; (clear F a M; try clear w); rintro v x w rfl M a F; (try simp only [List.cons_append, List.nil_append] at M)
          obtain ⟨Al, cl, rfl⟩ := SlOk.form M.h1
          refine s_I F rfl rfl rfl rfl rfl rfl ?_; clear F a; intro a F
          refine t_endM M ?_; (clear M; try clear w); intro w M
          refine wp_seq ?_
          have hpre := true_pre W t0 H
          have hple : (log (told t L)).length ≤ lg.length := by
            rw [hpre, List.length_take]; omega
          replace F := F.keep [0, 1, 2, 6, 7, 8, 10] rfl
          refine wp_region_l [.ind, .ind, .ind, .ind, .ind, .ind, .ind, .ind, .ind, .ind, .ind, .wr, .ind, .ind, .wr, .ind, .ind] ([0, 1, 2, 3, 4, 5, 6, 7, 8, 9, 10, 11, 12, 13, 14, 15, 16]) rfl ?_
          refine s_I F rfl rfl rfl rfl rfl rfl ?_; clear F a; intro a F
          refine s_len F rfl rfl rfl rfl sl_40_D6 rfl ?_; clear F a; intro a F
          refine s_I F rfl rfl rfl rfl rfl rfl ?_; clear F a; intro a F
          refine s_len F rfl rfl rfl rfl sl_40_D6 rfl ?_; clear F a; intro a F
          refine s_bin F rfl rfl rfl rfl rfl rfl rfl ?_; clear F a; intro a F
          refine s_I F rfl rfl rfl rfl rfl rfl ?_; clear F a; intro a F
          refine bsplit F 75 rfl ?_ ?_
          ·
            clear F; intro hc14 F
            try rw [hc14] at F
            replace hc14 := of_decide_eq_true hc14
            refine s_I F rfl rfl rfl rfl rfl rfl ?_; clear F a; intro a F
            refine s_I F rfl rfl rfl rfl rfl rfl ?_; clear F a; intro a F
            refine s_I F rfl rfl rfl rfl rfl rfl ?_; clear F a; intro a F
            refine s_len F rfl rfl rfl rfl sl_40_D6 rfl ?_; clear F a; intro a F
            refine s_slc F rfl rfl rfl rfl sl_40_D6 rfl rfl rfl (by exact M.chg.ro hro2) (by omega) (by omega) (by omega) ?_; clear F a; intro a F
            refine s_cq F M rfl rfl rfl rfl rfl (rfl : _ = some [_, _]) cb_20_D6 (fun nd_ => (c20 (log (told t L)) (lg.take (log (told t L)).length) _ _ _ (by exact SlOk.rd M.h1) (by exact RdSl.pre (M.chg.ro hro2) (by intro e; rfl) _ (by omega)) (by have := log_len (t := t) W; unfold maxLen; omega)).monoQ (fun v hv => hv.trans (by rw [decide_eq_true hpre]))) ?_; (clear F a M; try clear w); rintro v w rfl M a F
            replace F : Fr _ _ ((81, Value.bool true) :: _) := F
            refine s_I F rfl rfl rfl rfl rfl rfl ?_; clear F a; intro a F
            refine s_I F rfl rfl rfl rfl rfl rfl ?_; clear F a; intro a F
            refine s_cq F M rfl rfl rfl rfl rfl (rfl : _ = some []) cb_13_D6 (fun nd_ => c13 _) ?_; (clear F a M; try clear w); rintro v w rfl M a F
            refine s_I F rfl rfl rfl rfl rfl rfl ?_; clear F a; intro a F
            refine s_I F rfl rfl rfl rfl rfl rfl ?_; clear F a; intro a F
            refine t_endM M ?_; (clear M; try clear w); intro w M
            refine wp_ret ?_
            refine ret1 F rfl rfl ?_
            -- end 3
            exact ⟨_, rfl, rfl, M.chg⟩
          ·
            clear F; intro hc15 F
            try rw [hc15] at F
            replace hc15 := of_decide_eq_false hc15
            exfalso; omega
set_option maxRecDepth 100000 in
set_option maxHeartbeats 400000 in
theorem law5a (t : Int) (l : List Ans) (v : Value) (w0 : World) (hr : RdSl w0.heap v l.length 3 (l.flatMap encA)) (h : ¬ few l) : Cl Try.prog 5 #[.int .i64 t, v] w0 (RetQ w0 fun v => v = .bool true) := by
  have M : Sep (fun _ => False) w0 w0 _ := Sep.nil _ w0
  have hro := (ro_of hr)
  obtain ⟨A, cc, rfl, hcc⟩ := hr.form
  refine enter (vs := [_, _]) Try.func5 rfl rfl rfl ?_
  intro a F
  refine wp_seq ?_
  refine wp_region_l [.ind] ([0]) rfl ?_
  refine s_I F rfl rfl rfl rfl rfl rfl ?_; clear F a; intro a F
  refine t_endM M ?_; (clear M; try clear w); intro w M
  refine wp_seq ?_
  refine wp_seq ?_
  refine wp_region_l [.ind, .wr, .ind] ([0, 1, 2]) rfl ?_
  refine s_I F rfl rfl rfl rfl rfl rfl ?_; clear F a; intro a F
  refine s_cq F M rfl rfl rfl rfl rfl (rfl : _ = some [_]) cb_12_D6 (fun nd_ => c12n _ h (M.chg.ro hro)) ?_; (clear F a M; try clear w); rintro v w rfl M a F
  refine s_I F rfl rfl rfl rfl rfl rfl ?_; clear F a; intro a F
  replace F : Fr _ _ ((19, Value.bool true) :: _) := F
  refine t_endM M ?_; (clear M; try clear w); intro w M
  refine c_t F rfl ?_
  refine wp_seq ?_
  replace F := F.keep [0, 1, 4] rfl
  refine wp_region_l [.wr, .ind] ([0, 1]) rfl ?_
  refine s_cq F M rfl rfl rfl rfl rfl (rfl : _ = some []) cb_13_D6 (fun nd_ => c13 _) ?_; (clear F a M; try clear w); rintro v w rfl M a F
  refine s_I F rfl rfl rfl rfl rfl rfl ?_; clear F a; intro a F
  refine t_endM M ?_; (clear M; try clear w); intro w M
  refine wp_ret ?_
  refine ret1 F rfl rfl ?_
  -- end 0
  exact ⟨_, rfl, rfl, M.chg⟩
set_option maxRecDepth 100000 in
set_option maxHeartbeats 1000000 in
theorem law5b (t : Int) (l : List Ans) (v : Value) (w0 : World) (hr : RdSl w0.heap v l.length 3 (l.flatMap encA)) (h : few l) : Cl Try.prog 5 #[.int .i64 t, v] w0 (RetQ w0 fun v => v = .bool true) := by
  have M : Sep (fun _ => False) w0 w0 _ := Sep.nil _ w0
  have hro := (ro_of hr)
  obtain ⟨A, cc, rfl, hcc⟩ := hr.form
  have hl100 := h.1
  have t0 : 0 ≤ new t := by unfold new; omega
  refine enter (vs := [_, _]) Try.func5 rfl rfl rfl ?_
  intro a F
  refine wp_seq ?_
  refine wp_region_l [.ind] ([0]) rfl ?_
  refine s_I F rfl rfl rfl rfl rfl rfl ?_; clear F a; intro a F
  refine t_endM M ?_; (clear M; try clear w); intro w M
  refine wp_seq ?_
  refine wp_seq ?_
  refine wp_region_l [.ind, .wr, .ind] ([0, 1, 2]) rfl ?_
  refine s_I F rfl rfl rfl rfl rfl rfl ?_; clear F a; intro a F
  refine s_cq F M rfl rfl rfl rfl rfl (rfl : _ = some [_]) cb_12_D6 (fun nd_ => c12y _ h (M.chg.ro hro)) ?_; (clear F a M; try clear w); rintro v w rfl M a F
  refine s_I F rfl rfl rfl rfl rfl rfl ?_; clear F a; intro a F
  replace F : Fr _ _ ((19, Value.bool false) :: _) := F
  refine t_endM M ?_; (clear M; try clear w); intro w M
  refine c_f F rfl ?_
  refine wp_skip ?_
  refine wp_seq ?_
  replace F := F.keep [0, 1, 4] rfl
  refine wp_region_l [.ind, .wr, .ind] ([0, 1, 2]) rfl ?_
  refine s_I F rfl rfl rfl rfl rfl rfl ?_; clear F a; intro a F
  refine s_call (m := []) F M rfl rfl rfl rfl rfl (rfl : _ = some [_]) cb_14_D6 (fun nd_ => c14 t _) ?_; (clear F a M; try clear w); rintro v b w rfl M a F; (try simp only [List.cons_append, List.nil_append] at M)
  refine s_I F rfl rfl rfl rfl rfl rfl ?_; clear F a; intro a F
  refine t_endM M ?_; (clear M; try clear w); intro w M
  refine wp_seq ?_
  replace F := F.keep [0, 1, 4, 5] rfl
  refine wp_region_l [.ind] ([0]) rfl ?_
  refine s_I F rfl rfl rfl rfl rfl rfl ?_; clear F a; intro a F
  refine t_endM M ?_; (clear M; try clear w); intro w M
  refine wp_seq ?_
  refine wp_seq ?_
  refine wp_region_l [.ind] ([0]) rfl ?_
  refine s_I F rfl rfl rfl rfl rfl rfl ?_; clear F a; intro a F
  refine t_endM M ?_; (clear M; try clear w); intro w M
  refine wp_block ?_
  replace M := M.nilT encT 9 1
  replace M : Sep _ _ _ (slR (.slice none (log (told (new t) [])).length 0) (log (told (new t) [])).length 9 1 ((log (told (new t) [])).flatMap encT) :: _) := M
  have M1 : Sep _ _ _ (slR _ _ 9 _ _ :: _) := M; replace M := M1; clear M1
  have M1 : Sep _ _ _ (flwR _ _ _ _ :: _) := M.f1; replace M := M1; clear M1
  refine loopX (X := (Int) × (List Ans) × (Nat → Option Nat) × (Option Addr) × (Nat)) F [0, 1, 5] rfl (fun ((i, L, mp, Ag, cg) : (Int) × (List Ans) × (Nat → Option Nat) × (Option Addr) × (Nat)) => (0 ≤ i) ∧ (i ≤ l.length) ∧ (FlwM.Wf L)) (fun ((i, L, mp, Ag, cg) : (Int) × (List Ans) × (Nat → Option Nat) × (Option Addr) × (Nat)) => [(6, .slice Ag (log (told (new t) L)).length cg), (7, .int .i64 i)]) (fun ((i, L, mp, Ag, cg) : (Int) × (List Ans) × (Nat → Option Nat) × (Option Addr) × (Nat)) => [flwR b mp (new t) L, slR (.slice Ag (log (told (new t) L)).length cg) (log (told (new t) L)).length 9 1 ((log (told (new t) L)).flatMap encT)]) (fun ((i, L, mp, Ag, cg) : (Int) × (List Ans) × (Nat → Option Nat) × (Option Addr) × (Nat)) => l.length - i.toNat) ((0), ([]), (_), (none), (0)) M ⟨(by omega), (by omega), .nil⟩ (F.keep [6, 7, 0, 1, 5] rfl) ?_
  clear F M; clear a; (try clear w)
  rintro ⟨i, L, mp, Ag, cg⟩ a w ⟨i0, i1, W⟩ F M; try dsimp only at F M
  try simp only [List.cons_append, List.nil_append] at F M
  try dsimp only at i0 i1 W
  have hln := W.len
  refine wp_seq ?_
  refine wp_seq ?_
  refine wp_region_l [.ind, .ind, .ind, .ind] ([0, 1, 2, 3]) rfl ?_
  refine s_I F rfl rfl rfl rfl rfl rfl ?_; clear F a; intro a F
  refine s_I F rfl rfl rfl rfl rfl rfl ?_; clear F a; intro a F
  refine s_len F rfl rfl rfl rfl sl_22_D6 rfl ?_; clear F a; intro a F
  refine s_bin F rfl rfl rfl rfl rfl rfl rfl ?_; clear F a; intro a F
  refine t_endM M ?_; (clear M; try clear w); intro w M
  refine c_if F rfl ?_ ?_
  ·
    clear F; intro hc0 F
    try rw [hc0] at F
    replace hc0 := of_decide_eq_true hc0
    refine wp_skip ?_
    refine wp_seq ?_
    refine wp_block ?_
    refine wp_seq ?_
    replace F := F.keep [0, 1, 5, 6, 7] rfl
    refine wp_region_l [.ind, .ind, .ind, .ind, .ind, .rd, .wr, .ind, .ind, .ind, .ind, .ind] ([0, 1, 2, 3, 4, 5, 6, 7, 8, 9, 10, 11]) rfl ?_
    refine s_I F rfl rfl rfl rfl rfl rfl ?_; clear F a; intro a F
    refine s_I F rfl rfl rfl rfl rfl rfl ?_; clear F a; intro a F
    refine s_I F rfl rfl rfl rfl rfl rfl ?_; clear F a; intro a F
    refine s_ix F rfl rfl rfl rfl sl_22_D6 rfl rfl (by exact M.chg.ro hro) (by omega) (by omega) ?_; clear F a; intro e33 he33 a F
    refine s_fa F rfl rfl rfl rfl fa_34_1_D6 rfl ?_; clear F a; intro a F
    refine s_ld F rfl rfl rfl rfl sc_3_D6 rfl (by exact rdX (M.chg.ro hro) (by intro e; rfl) he33 rfl) ?_; clear F a; intro a F
    refine s_cq F M rfl rfl rfl rfl rfl (rfl : _ = some [_, _]) cb_18_D6 (fun nd_ => c18 b _ (new t) L _ _ (by exact M.h0)) ?_; (clear F a M; try clear w); rintro v w rfl M a F
    refine s_I F rfl rfl rfl rfl rfl rfl ?_; clear F a; intro a F
    refine s_I F rfl rfl rfl rfl rfl rfl ?_; clear F a; intro a F
    refine s_I F rfl rfl rfl rfl rfl rfl ?_; clear F a; intro a F
    refine s_I F rfl rfl rfl rfl rfl rfl ?_; clear F a; intro a F
    refine s_I F rfl rfl rfl rfl rfl rfl ?_; clear F a; intro a F
    refine t_endM M ?_; (clear M; try clear w); intro w M
    refine wp_seq ?_
    replace F := F.keep [0, 1, 5, 6, 7, 8, 9] rfl
    refine wp_region_t [.ind, .ind, .ind, .ind, .ind, .rd, .ind, .ind, .ind, .ind, .rd, .ind, .ind, .ind, .ind, .rd, .wr] [] (otOf [0, 1, 2, 3, 4, 5, 6, 7, 8, 9, 10, 11, 12, 13, 14, 15, 16]) mixed (by kernel_rfl) ?_
    refine s_I F rfl rfl rfl rfl rfl rfl ?_; clear F a; intro a F
    refine s_I F rfl rfl rfl rfl rfl rfl ?_; clear F a; intro a F
    refine s_I F rfl rfl rfl rfl rfl rfl ?_; clear F a; intro a F
    refine s_ix F rfl rfl rfl rfl sl_22_D6 rfl rfl (by exact M.chg.ro hro) (by omega) (by omega) ?_; clear F a; intro e42 he42 a F
    try (obtain rfl := Option.some.inj (he33.symm.trans he42))
    refine s_fa F rfl rfl rfl rfl fa_34_0_D6 rfl ?_; clear F a; intro a F
    refine s_ld F rfl rfl rfl rfl sc_3_D6 rfl (by exact rdX (M.chg.ro hro) (by intro e; rfl) he42 rfl) ?_; clear F a; intro a F
    refine s_I F rfl rfl rfl rfl rfl rfl ?_; clear F a; intro a F
    refine s_I F rfl rfl rfl rfl rfl rfl ?_; clear F a; intro a F
    refine s_ix F rfl rfl rfl rfl sl_22_D6 rfl rfl (by exact M.chg.ro hro) (by omega) (by omega) ?_; clear F a; intro e47 he47 a F
    try (obtain rfl := Option.some.inj (he33.symm.trans he47))
    try (obtain rfl := Option.some.inj (he42.symm.trans he47))
    refine s_fa F rfl rfl rfl rfl fa_34_1_D6 rfl ?_; clear F a; intro a F
    refine s_ld F rfl rfl rfl rfl sc_3_D6 rfl (by exact rdX (M.chg.ro hro) (by intro e; rfl) he47 rfl) ?_; clear F a; intro a F
    refine s_I F rfl rfl rfl rfl rfl rfl ?_; clear F a; intro a F
    refine s_I F rfl rfl rfl rfl rfl rfl ?_; clear F a; intro a F
    refine s_ix F rfl rfl rfl rfl sl_22_D6 rfl rfl (by exact M.chg.ro hro) (by omega) (by omega) ?_; clear F a; intro e52 he52 a F
    try (obtain rfl := Option.some.inj (he33.symm.trans he52))
    try (obtain rfl := Option.some.inj (he42.symm.trans he52))
    try (obtain rfl := Option.some.inj (he47.symm.trans he52))
    refine s_fa F rfl rfl rfl rfl fa_34_2_D6 rfl ?_; clear F a; intro a F
    refine s_ld F rfl rfl rfl rfl sc_9_D6 rfl (by exact rdX (M.chg.ro hro) (by intro e; rfl) he52 rfl) ?_; clear F a; intro a F
    have M1 : Sep _ _ _ (flwR _ _ _ _ :: _) := M; replace M := M1; clear M1
    refine s_call (m := [_]) F M rfl rfl rfl rfl rfl (rfl : _ = some [_, _, _, _]) cb_17_D6 (fun nd_ => c17 b _ (new t) L e33 _ (M.drewN nd_).own.one) ?_; (clear F a M; try clear w); rintro v mp2 w rfl M a F; (try simp only [List.cons_append, List.nil_append] at M)
    refine t_endM M ?_; (clear M; try clear w); intro w M
    refine wp_seq ?_
    replace F := F.keep [0, 1, 5, 6, 7, 8, 9] rfl
    refine wp_region_l [.ind, .ind, .ind, .ind, .ind, .rd, .wr, .ind, .ind, .ind, .ind, .ind] ([0, 1, 2, 3, 4, 5, 6, 7, 8, 9, 10, 11]) rfl ?_
    refine s_I F rfl rfl rfl rfl rfl rfl ?_; clear F a; intro a F
    refine s_I F rfl rfl rfl rfl rfl rfl ?_; clear F a; intro a F
    refine s_I F rfl rfl rfl rfl rfl rfl ?_; clear F a; intro a F
    refine s_ix F rfl rfl rfl rfl sl_22_D6 rfl rfl (by exact M.chg.ro hro) (by omega) (by omega) ?_; clear F a; intro e60 he60 a F
    try (obtain rfl := Option.some.inj (he33.symm.trans he60))
    try (obtain rfl := Option.some.inj (he42.symm.trans he60))
    try (obtain rfl := Option.some.inj (he47.symm.trans he60))
    try (obtain rfl := Option.some.inj (he52.symm.trans he60))
    refine s_fa F rfl rfl rfl rfl fa_34_1_D6 rfl ?_; clear F a; intro a F
    refine s_ld F rfl rfl rfl rfl sc_3_D6 rfl (by exact rdX (M.chg.ro hro) (by intro e; rfl) he60 rfl) ?_; clear F a; intro a F
    refine s_cq F M rfl rfl rfl rfl rfl (rfl : _ = some [_, _]) cb_18_D6 (fun nd_ => c18 b _ (new t) (put L e33) _ _ (by exact M.h0)) ?_; (clear F a M; try clear w); rintro v w rfl M a F
    refine s_I F rfl rfl rfl rfl rfl rfl ?_; clear F a; intro a F
    refine s_I F rfl rfl rfl rfl rfl rfl ?_; clear F a; intro a F
    refine s_I F rfl rfl rfl rfl rfl rfl ?_; clear F a; intro a F
    refine s_I F rfl rfl rfl rfl rfl rfl ?_; clear F a; intro a F
    refine s_I F rfl rfl rfl rfl rfl rfl ?_; clear F a; intro a F
    refine t_endM M ?_; (clear M; try clear w); intro w M
    refine wp_seq ?_
    replace F := F.keep [0, 1, 5, 6, 7, 8, 9, 10, 11] rfl
    refine wp_region_l [.ind, .wr, .ind] ([0, 1, 2]) rfl ?_
    refine s_I F rfl rfl rfl rfl rfl rfl ?_; clear F a; intro a F
    have M1 : Sep _ _ _ (flwR _ _ _ _ :: _) := M; replace M := M1; clear M1
    refine s_call (m := [_]) F M rfl rfl rfl rfl rfl (rfl : _ = some [_]) cb_21_D6 (fun nd_ => c21 b _ (new t) (put L e33) _ (M.drewN nd_).own.one) ?_; (clear F a M; try clear w); rintro v x w rfl M a F; (try simp only [List.cons_append, List.nil_append] at M)
    obtain ⟨Al, cl, rfl⟩ := SlOk.form M.h1
    have hgr := grow (t := new t) (L := L) e33
    have hle1 := log_len (t := new t) W
    have hle2 := log_len (t := new t) (W.put e33)
    refine s_I F rfl rfl rfl rfl rfl rfl ?_; clear F a; intro a F
    refine t_endM M ?_; (clear M; try clear w); intro w M
    refine wp_seq ?_
    refine wp_seq ?_
    have hst := fun hs => stays (t := new t) (h := e33.height) (L := L) (q := e33) hs
    replace F := F.keep [0, 1, 5, 6, 7, 8, 9, 10, 11, 12] rfl
    refine wp_region_l [.ind, .ind, .ind, .ind, .ind, .ind, .ind, .ind, .ind, .ind, .ind, .ind, .ind, .ind, .ind, .ind, .ind, .ind, .ind, .ind, .ind, .ind, .ind, .wr, .ind, .ind] ([0, 1, 2, 3, 4, 5, 6, 7, 8, 9, 10, 11, 12, 13, 14, 15, 16, 17, 18, 19, 20, 21, 22, 23, 24, 25]) rfl ?_
    refine s_I F rfl rfl rfl rfl rfl rfl ?_; clear F a; intro a F
    refine s_I F rfl rfl rfl rfl rfl rfl ?_; clear F a; intro a F
    refine bsplit F 69 rfl ?_ ?_
    ·
      clear F; intro hc1 F
      try rw [hc1] at F
      skip
      refine s_I F rfl rfl rfl rfl rfl rfl ?_; clear F a; intro a F
      refine s_I F rfl rfl rfl rfl rfl rfl ?_; clear F a; intro a F
      refine s_I F rfl rfl rfl rfl rfl rfl ?_; clear F a; intro a F
      refine bsplit F 72 rfl ?_ ?_
      ·
        clear F; intro hc2 F
        try rw [hc2] at F
        replace hc2 := nt hc2
        exfalso
        rw [hst (by assumption)] at hc2
        simp_all
      ·
        clear F; intro hc3 F
        try rw [hc3] at F
        replace hc3 := nf hc3
        refine s_I F rfl rfl rfl rfl rfl rfl ?_; clear F a; intro a F
        refine s_I F rfl rfl rfl rfl rfl rfl ?_; clear F a; intro a F
        refine s_bin F rfl rfl rfl rfl rfl rfl rfl ?_; clear F a; intro a F
        refine s_I F rfl rfl rfl rfl rfl rfl ?_; clear F a; intro a F
        refine s_I F rfl rfl rfl rfl rfl rfl ?_; clear F a; intro a F
        refine s_I F rfl rfl rfl rfl rfl rfl ?_; clear F a; intro a F
        refine bsplit F 78 rfl ?_ ?_
        ·
          clear F; intro hc4 F
          try rw [hc4] at F
          replace hc4 := nd1 hc4
          exfalso
          rw [hst (by assumption)] at hc4
          exact hc4 rfl
        ·
          clear F; intro hc5 F
          try rw [hc5] at F
          replace hc5 := nd0 hc5
          refine s_I F rfl rfl rfl rfl rfl rfl ?_; clear F a; intro a F
          refine s_len F rfl rfl rfl rfl sl_40_D6 rfl ?_; clear F a; intro a F
          refine s_I F rfl rfl rfl rfl rfl rfl ?_; clear F a; intro a F
          refine s_len F rfl rfl rfl rfl sl_40_D6 rfl ?_; clear F a; intro a F
          refine s_bin F rfl rfl rfl rfl rfl rfl rfl ?_; clear F a; intro a F
          refine s_I F rfl rfl rfl rfl rfl rfl ?_; clear F a; intro a F
          refine s_I F rfl rfl rfl rfl rfl rfl ?_; clear F a; intro a F
          refine bsplit F 85 rfl ?_ ?_
          ·
            clear F; intro hc6 F
            try rw [hc6] at F
            replace hc6 := of_decide_eq_true hc6
            exfalso
            omega
          ·
            clear F; intro hc7 F
            try rw [hc7] at F
            replace hc7 := of_decide_eq_false hc7
            refine s_I F rfl rfl rfl rfl rfl rfl ?_; clear F a; intro a F
            refine s_I F rfl rfl rfl rfl rfl rfl ?_; clear F a; intro a F
            refine s_len F rfl rfl rfl rfl sl_40_D6 rfl ?_; clear F a; intro a F
            refine s_slc F rfl rfl rfl rfl sl_40_D6 rfl rfl rfl (by exact SlOk.rd M.h1) (by omega) (by omega) (by omega) ?_; clear F a; intro a F
            refine s_I F rfl rfl rfl rfl rfl rfl ?_; clear F a; intro a F
            refine s_cq F M rfl rfl rfl rfl rfl (rfl : _ = some [_, _]) cb_20_D6 (fun nd_ => (c20 ((log (told (new t) (put L e33))).take (log (told (new t) L)).length) (log (told (new t) L)) _ _ _ (by exact RdSl.pre (SlOk.rd M.h1) (by intro e; rfl) _ (by omega)) (by exact SlOk.rd M.h2) (by rw [List.length_take]; unfold maxLen; omega)).monoQ (fun v hv => hv.trans (by rw [decide_eq_true hgr.2]))) ?_; (clear F a M; try clear w); rintro v w rfl M a F
            replace F : Fr _ _ ((91, Value.bool true) :: _) := F
            refine s_I F rfl rfl rfl rfl rfl rfl ?_; clear F a; intro a F
            refine s_I F rfl rfl rfl rfl rfl rfl ?_; clear F a; intro a F
            refine t_endM M ?_; (clear M; try clear w); intro w M
            refine c_f F rfl ?_
            refine wp_skip ?_
            replace F := F.keep [0, 1, 5, 6, 7, 8, 9, 10, 11, 12] rfl
            refine wp_region_l [.ind, .ind] ([0, 1]) rfl ?_
            refine s_I F rfl rfl rfl rfl rfl rfl ?_; clear F a; intro a F
            refine s_I F rfl rfl rfl rfl rfl rfl ?_; clear F a; intro a F
            refine t_endM M ?_; (clear M; try clear w); intro w M
            replace F := F.keep [0, 1, 5, 6, 7, 8, 9, 10, 11, 12] rfl
            refine wp_region_l [.ind, .ind, .ind] ([0, 1, 2]) rfl ?_
            refine s_I F rfl rfl rfl rfl rfl rfl ?_; clear F a; intro a F
            refine s_add F rfl rfl rfl rfl rfl rfl (by unfold In64; omega) ?_; clear F a; intro a F
            refine s_I F rfl rfl rfl rfl rfl rfl ?_; clear F a; intro a F
            refine t_endM M ?_; (clear M; try clear w); intro w M
            refine again ((i + 1), (put L e33), (mp2), (Al), (cl)) (by show _ < _; (try dsimp only); omega) ⟨(by omega), (by assumption), W.put e33⟩ (F.keep [6, 7, 0, 1, 5] rfl) ?_
            try dsimp only [List.cons_append, List.nil_append]
            refine M.pick ?_; repeat (first | exact PkG.nil | refine PkG.cons 0 rfl rfl ?_ | refine PkG.cons 1 rfl rfl ?_)
    ·
      clear F; intro hc8 F
      try rw [hc8] at F
      skip
      refine s_no F rfl rfl rfl rfl ?_; clear F a; intro a F
      refine s_no F rfl rfl rfl rfl ?_; clear F a; intro a F
      refine s_no F rfl rfl rfl rfl ?_; clear F a; intro a F
      refine s_no F rfl rfl rfl rfl ?_; clear F a; intro a F
      refine s_no F rfl rfl rfl rfl ?_; clear F a; intro a F
      refine s_no F rfl rfl rfl rfl ?_; clear F a; intro a F
      refine s_no F rfl rfl rfl rfl ?_; clear F a; intro a F
      refine s_I F rfl rfl rfl rfl rfl rfl ?_; clear F a; intro a F
      refine s_I F rfl rfl rfl rfl rfl rfl ?_; clear F a; intro a F
      refine s_I F rfl rfl rfl rfl rfl rfl ?_; clear F a; intro a F
      refine s_len F rfl rfl rfl rfl sl_40_D6 rfl ?_; clear F a; intro a F
      refine s_I F rfl rfl rfl rfl rfl rfl ?_; clear F a; intro a F
      refine s_len F rfl rfl rfl rfl sl_40_D6 rfl ?_; clear F a; intro a F
      refine s_bin F rfl rfl rfl rfl rfl rfl rfl ?_; clear F a; intro a F
      refine s_I F rfl rfl rfl rfl rfl rfl ?_; clear F a; intro a F
      refine s_I F rfl rfl rfl rfl rfl rfl ?_; clear F a; intro a F
      refine bsplit F 85 rfl ?_ ?_
      ·
        clear F; intro hc9 F
        try rw [hc9] at F
        replace hc9 := of_decide_eq_true hc9
        exfalso
        omega
      ·
        clear F; intro hc10 F
        try rw [hc10] at F
        replace hc10 := of_decide_eq_false hc10
        refine s_I F rfl rfl rfl rfl rfl rfl ?_; clear F a; intro a F
        refine s_I F rfl rfl rfl rfl rfl rfl ?_; clear F a; intro a F
        refine s_len F rfl rfl rfl rfl sl_40_D6 rfl ?_; clear F a; intro a F
        refine s_slc F rfl rfl rfl rfl sl_40_D6 rfl rfl rfl (by exact SlOk.rd M.h1) (by omega) (by omega) (by omega) ?_; clear F a; intro a F
        refine s_I F rfl rfl rfl rfl rfl rfl ?_; clear F a; intro a F
        refine s_cq F M rfl rfl rfl rfl rfl (rfl : _ = some [_, _]) cb_20_D6 (fun nd_ => (c20 ((log (told (new t) (put L e33))).take (log (told (new t) L)).length) (log (told (new t) L)) _ _ _ (by exact RdSl.pre (SlOk.rd M.h1) (by intro e; rfl) _ (by omega)) (by exact SlOk.rd M.h2) (by rw [List.length_take]; unfold maxLen; omega)).monoQ (fun v hv => hv.trans (by rw [decide_eq_true hgr.2]))) ?_; (clear F a M; try clear w); rintro v w rfl M a F
        replace F : Fr _ _ ((91, Value.bool true) :: _) := F
        refine s_I F rfl rfl rfl rfl rfl rfl ?_; clear F a; intro a F
        refine s_I F rfl rfl rfl rfl rfl rfl ?_; clear F a; intro a F
        refine t_endM M ?_; (clear M; try clear w); intro w M
        refine c_f F rfl ?_
        refine wp_skip ?_
        replace F := F.keep [0, 1, 5, 6, 7, 8, 9, 10, 11, 12] rfl
        refine wp_region_l [.ind, .ind] ([0, 1]) rfl ?_
        refine s_I F rfl rfl rfl rfl rfl rfl ?_; clear F a; intro a F
        refine s_I F rfl rfl rfl rfl rfl rfl ?_; clear F a; intro a F
        refine t_endM M ?_; (clear M; try clear w); intro w M
        replace F := F.keep [0, 1, 5, 6, 7, 8, 9, 10, 11, 12] rfl
        refine wp_region_l [.ind, .ind, .ind] ([0, 1, 2]) rfl ?_
        refine s_I F rfl rfl rfl rfl rfl rfl ?_; clear F a; intro a F
        refine s_add F rfl rfl rfl rfl rfl rfl (by unfold In64; omega) ?_; clear F a; intro a F
        refine s_I F rfl rfl rfl rfl rfl rfl ?_; clear F a; intro a F
        refine t_endM M ?_; (clear M; try clear w); intro w M
        refine again ((i + 1), (put L e33), (mp2), (Al), (cl)) (by show _ < _; (try dsimp only); omega) ⟨(by omega), (by assumption), W.put e33⟩ (F.keep [6, 7, 0, 1, 5] rfl) ?_
        try dsimp only [List.cons_append, List.nil_append]
        refine M.pick ?_; repeat (first | exact PkG.nil | refine PkG.cons 0 rfl rfl ?_ | refine PkG.cons 1 rfl rfl ?_)
  ·
    clear F; intro hc11 F
    try rw [hc11] at F
    replace hc11 := of_decide_eq_false hc11
    refine wp_exit ?_
    refine wp_seq ?_
    replace F := F.keep [0, 1, 5, 6, 7] rfl
    refine wp_region_l [.ind, .wr, .ind] ([0, 1, 2]) rfl ?_
    refine s_I F rfl rfl rfl rfl rfl rfl ?_; clear F a; intro a F
    have M1 : Sep _ _ _ (flwR _ _ _ _ :: _) := M; replace M := M1; clear M1
    refine s_call (m := [_]) F M rfl rfl rfl rfl rfl (rfl : _ = some [_, _]) cb_24_D6 (fun nd_ => c24 b _ (new t) L 100 _ (M.drewN nd_).own.one) ?_; (clear F a M; try clear w); rintro v x w rfl M a F; (try simp only [List.cons_append, List.nil_append] at M)
    obtain ⟨An, cn, rfl⟩ := SlOk.form M.h1
    obtain ⟨hk, AO⟩ := ask_ok (told (new t) L) 100
    have hal : (FlwM.ask (told (new t) L) 100).length ≤ 64 := by
      have h1 := askF_len (told (new t) L) 100 (64 - (log (told (new t) L)).length) (log (told (new t) L)).length []
      unfold FlwM.ask; simp at h1; omega
    refine s_I F rfl rfl rfl rfl rfl rfl ?_; clear F a; intro a F
    refine t_endM M ?_; (clear M; try clear w); intro w M
    refine wp_seq ?_
    refine wp_seq ?_
    replace F := F.keep [0, 1, 5, 6, 7, 13] rfl
    refine wp_region_l [.ind] ([0]) rfl ?_
    refine s_I F rfl rfl rfl rfl rfl rfl ?_; clear F a; intro a F
    refine t_endM M ?_; (clear M; try clear w); intro w M
    refine wp_block ?_
    refine loopX (X := (Int)) F [0, 1, 5, 6, 7, 13] rfl (fun (i : Int) => (0 ≤ i) ∧ (i ≤ (FlwM.ask (told (new t) L) 100).length)) (fun (i : Int) => [(14, .int .i64 i)]) (fun (i : Int) => []) (fun (i : Int) => (FlwM.ask (told (new t) L) 100).length - i.toNat) (0) M ⟨(by omega), (by omega)⟩ (F.keep [14, 0, 1, 5, 6, 7, 13] rfl) ?_
    clear F M; clear a; (try clear w)
    rintro i a w ⟨j0, j1⟩ F M; try dsimp only at F M
    try simp only [List.cons_append, List.nil_append] at F M
    try dsimp only at j0 j1
    refine wp_seq ?_
    refine wp_seq ?_
    refine wp_region_l [.ind, .ind, .ind, .ind] ([0, 1, 2, 3]) rfl ?_
    refine s_I F rfl rfl rfl rfl rfl rfl ?_; clear F a; intro a F
    refine s_I F rfl rfl rfl rfl rfl rfl ?_; clear F a; intro a F
    refine s_len F rfl rfl rfl rfl sl_44_D6 rfl ?_; clear F a; intro a F
    refine s_bin F rfl rfl rfl rfl rfl rfl rfl ?_; clear F a; intro a F
    refine t_endM M ?_; (clear M; try clear w); intro w M
    refine c_if F rfl ?_ ?_
    ·
      clear F; intro hc12 F
      try rw [hc12] at F
      replace hc12 := of_decide_eq_true hc12
      refine wp_skip ?_
      refine wp_seq ?_
      refine wp_block ?_
      refine wp_seq ?_
      replace F := F.keep [0, 1, 5, 6, 7, 13, 14] rfl
      refine wp_region_l [.ind, .ind, .ind, .ind, .rd, .wr, .ind, .ind, .ind, .ind, .ind] ([0, 1, 2, 3, 4, 5, 6, 7, 8, 9, 10]) rfl ?_
      refine s_I F rfl rfl rfl rfl rfl rfl ?_; clear F a; intro a F
      refine s_I F rfl rfl rfl rfl rfl rfl ?_; clear F a; intro a F
      refine s_I F rfl rfl rfl rfl rfl rfl ?_; clear F a; intro a F
      refine s_ix F rfl rfl rfl rfl sl_44_D6 rfl rfl (by exact SlOk.rd M.h1) (by omega) (by omega) ?_; clear F a; intro e107 he107 a F
      refine s_ld F rfl rfl rfl rfl sc_3_D6 rfl (by exact rdX0 (SlOk.rd M.h1) (by intro e; rfl) he107 rfl) ?_; clear F a; intro a F
      refine s_cq F M rfl rfl rfl rfl rfl (rfl : _ = some [_, _]) cb_18_D6 (fun nd_ => c18 b _ (new t) L _ _ (by exact M.h0)) ?_; (clear F a M; try clear w); rintro v w rfl M a F
      refine s_I F rfl rfl rfl rfl rfl rfl ?_; clear F a; intro a F
      refine s_I F rfl rfl rfl rfl rfl rfl ?_; clear F a; intro a F
      refine s_I F rfl rfl rfl rfl rfl rfl ?_; clear F a; intro a F
      refine s_I F rfl rfl rfl rfl rfl rfl ?_; clear F a; intro a F
      refine s_I F rfl rfl rfl rfl rfl rfl ?_; clear F a; intro a F
      refine t_endM M ?_; (clear M; try clear w); intro w M
      refine wp_seq ?_
      replace F := F.keep [0, 1, 5, 6, 7, 13, 14, 16] rfl
      refine wp_region_t [.ind, .ind, .ind, .ind, .ind, .rd, .ind, .ind, .ind, .ind, .ind, .ind, .ind, .ind, .ind, .ind, .ind, .rd, .ind, .ind, .ind, .ind, .rd, .ind, .ind, .ind] [] (otOf [0, 1, 2, 3, 4, 5, 6, 7, 8, 9, 10, 11, 12, 13, 14, 15, 16, 17, 18, 19, 20, 21, 22, 23, 24, 25]) mixed (by kernel_rfl) ?_
      refine s_I F rfl rfl rfl rfl rfl rfl ?_; clear F a; intro a F
      refine s_I F rfl rfl rfl rfl rfl rfl ?_; clear F a; intro a F
      refine bsplit F 113 rfl ?_ ?_
      ·
        clear F; intro hc13 F
        try rw [hc13] at F
        skip
        exfalso
        have := (AO.el e107 (List.mem_of_getElem? he107)).1
        simp_all
      ·
        clear F; intro hc14 F
        try rw [hc14] at F
        skip
        refine s_I F rfl rfl rfl rfl rfl rfl ?_; clear F a; intro a F
        refine s_I F rfl rfl rfl rfl rfl rfl ?_; clear F a; intro a F
        refine s_ix F rfl rfl rfl rfl sl_44_D6 rfl rfl (by exact SlOk.rd M.h1) (by omega) (by omega) ?_; clear F a; intro e116 he116 a F
        try (obtain rfl := Option.some.inj (he107.symm.trans he116))
        refine s_ld F rfl rfl rfl rfl sc_3_D6 rfl (by exact rdX0 (SlOk.rd M.h1) (by intro e; rfl) he116 rfl) ?_; clear F a; intro a F
        refine s_I F rfl rfl rfl rfl rfl rfl ?_; clear F a; intro a F
        refine s_len F rfl rfl rfl rfl sl_40_D6 rfl ?_; clear F a; intro a F
        refine s_bin F rfl rfl rfl rfl rfl rfl rfl ?_; clear F a; intro a F
        refine s_I F rfl rfl rfl rfl rfl rfl ?_; clear F a; intro a F
        refine s_I F rfl rfl rfl rfl rfl rfl ?_; clear F a; intro a F
        refine bsplit F 122 rfl ?_ ?_
        ·
          clear F; intro hc15 F
          try rw [hc15] at F
          replace hc15 := of_decide_eq_true hc15
          exfalso
          have := (AO.el e107 (List.mem_of_getElem? he107)).2.1
          omega
        ·
          clear F; intro hc16 F
          try rw [hc16] at F
          replace hc16 := of_decide_eq_false hc16
          refine s_I F rfl rfl rfl rfl rfl rfl ?_; clear F a; intro a F
          refine s_bin F rfl rfl rfl rfl rfl rfl rfl ?_; clear F a; intro a F
          refine s_I F rfl rfl rfl rfl rfl rfl ?_; clear F a; intro a F
          refine bsplit F 125 rfl ?_ ?_
          ·
            clear F; intro hc17 F
            try rw [hc17] at F
            replace hc17 := of_decide_eq_true hc17
            refine s_I F rfl rfl rfl rfl rfl rfl ?_; clear F a; intro a F
            refine s_I F rfl rfl rfl rfl rfl rfl ?_; clear F a; intro a F
            refine s_ix F rfl rfl rfl rfl sl_44_D6 rfl rfl (by exact SlOk.rd M.h1) (by omega) (by omega) ?_; clear F a; intro e128 he128 a F
            try (obtain rfl := Option.some.inj (he107.symm.trans he128))
            try (obtain rfl := Option.some.inj (he116.symm.trans he128))
            refine s_ld F rfl rfl rfl rfl sc_3_D6 rfl (by exact rdX0 (SlOk.rd M.h1) (by intro e; rfl) he128 rfl) ?_; clear F a; intro a F
            refine s_I F rfl rfl rfl rfl rfl rfl ?_; clear F a; intro a F
            refine s_I F rfl rfl rfl rfl rfl rfl ?_; clear F a; intro a F
            refine s_sub F rfl rfl rfl rfl rfl rfl (by unfold In64; omega) ?_; clear F a; intro a F
            refine s_ix F rfl rfl rfl rfl sl_44_D6 rfl rfl (by exact SlOk.rd M.h1) (by omega) (by omega) ?_; clear F a; intro e133 he133 a F
            try (obtain rfl := Option.some.inj (he107.symm.trans he133))
            try (obtain rfl := Option.some.inj (he116.symm.trans he133))
            try (obtain rfl := Option.some.inj (he128.symm.trans he133))
            refine s_ld F rfl rfl rfl rfl sc_3_D6 rfl (by exact rdX0 (SlOk.rd M.h1) (by intro e; rfl) he133 rfl) ?_; clear F a; intro a F
            refine s_bin F rfl rfl rfl rfl rfl rfl rfl ?_; clear F a; intro a F
            refine s_I F rfl rfl rfl rfl rfl rfl ?_; clear F a; intro a F
            refine s_I F rfl rfl rfl rfl rfl rfl ?_; clear F a; intro a F
            refine t_endM M ?_; (clear M; try clear w); intro w M
            refine c_if F rfl ?_ ?_
            ·
              clear F; intro hc18 F
              try rw [hc18] at F
              replace hc18 := of_decide_eq_true hc18
              exfalso
              have h1 := AO.up (i - 1).toNat e133 e107 he133 (by rw [show (i - 1).toNat + 1 = i.toNat by omega]; exact he107)
              omega
            ·
              clear F; intro hc19 F
              try rw [hc19] at F
              replace hc19 := of_decide_eq_false hc19
              refine wp_skip ?_
              replace F := F.keep [0, 1, 5, 6, 7, 13, 14, 16] rfl
              refine wp_region_l [.ind, .ind, .ind] ([0, 1, 2]) rfl ?_
              refine s_I F rfl rfl rfl rfl rfl rfl ?_; clear F a; intro a F
              refine s_add F rfl rfl rfl rfl rfl rfl (by unfold In64; omega) ?_; clear F a; intro a F
              refine s_I F rfl rfl rfl rfl rfl rfl ?_; clear F a; intro a F
              refine t_endM M ?_; (clear M; try clear w); intro w M
              refine again (i + 1) (by show _ < _; (try dsimp only); omega) ⟨(by omega), (by assumption)⟩ (F.keep [14, 0, 1, 5, 6, 7, 13] rfl) ?_
              try dsimp only [List.cons_append, List.nil_append]
              refine M.pick ?_; repeat (first | exact PkG.nil | refine PkG.cons 0 rfl rfl ?_ | refine PkG.cons 1 rfl rfl ?_ | refine PkG.cons 2 rfl rfl ?_)
          ·
            clear F; intro hc20 F
            try rw [hc20] at F
            replace hc20 := of_decide_eq_false hc20
            refine s_no F rfl rfl rfl rfl ?_; clear F a; intro a F
            refine s_no F rfl rfl rfl rfl ?_; clear F a; intro a F
            refine s_no F rfl rfl rfl rfl ?_; clear F a; intro a F
            refine s_no F rfl rfl rfl rfl ?_; clear F a; intro a F
            refine s_no F rfl rfl rfl rfl ?_; clear F a; intro a F
            refine s_no F rfl rfl rfl rfl ?_; clear F a; intro a F
            refine s_no F rfl rfl rfl rfl ?_; clear F a; intro a F
            refine s_no F rfl rfl rfl rfl ?_; clear F a; intro a F
            refine s_no F rfl rfl rfl rfl ?_; clear F a; intro a F
            refine s_no F rfl rfl rfl rfl ?_; clear F a; intro a F
            refine s_I F rfl rfl rfl rfl rfl rfl ?_; clear F a; intro a F
            refine s_I F rfl rfl rfl rfl rfl rfl ?_; clear F a; intro a F
            refine t_endM M ?_; (clear M; try clear w); intro w M
            refine c_f F rfl ?_
            refine wp_skip ?_
            replace F := F.keep [0, 1, 5, 6, 7, 13, 14, 16] rfl
            refine wp_region_l [.ind, .ind, .ind] ([0, 1, 2]) rfl ?_
            refine s_I F rfl rfl rfl rfl rfl rfl ?_; clear F a; intro a F
            refine s_add F rfl rfl rfl rfl rfl rfl (by unfold In64; omega) ?_; clear F a; intro a F
            refine s_I F rfl rfl rfl rfl rfl rfl ?_; clear F a; intro a F
            refine t_endM M ?_; (clear M; try clear w); intro w M
            refine again (i + 1) (by show _ < _; (try dsimp only); omega) ⟨(by omega), (by assumption)⟩ (F.keep [14, 0, 1, 5, 6, 7, 13] rfl) ?_
            try dsimp only [List.cons_append, List.nil_append]
            refine M.pick ?_; repeat (first | exact PkG.nil | refine PkG.cons 0 rfl rfl ?_ | refine PkG.cons 1 rfl rfl ?_ | refine PkG.cons 2 rfl rfl ?_)
    ·
      clear F; intro hc21 F
      try rw [hc21] at F
      replace hc21 := of_decide_eq_false hc21
      refine wp_exit ?_
      refine wp_seq ?_
      replace F := F.keep [0, 1, 5, 6, 7, 13, 14] rfl
      refine wp_region_l [.wr, .ind] ([0, 1]) rfl ?_
      refine s_cq F M rfl rfl rfl rfl rfl (rfl : _ = some []) cb_13_D6 (fun nd_ => c13 _) ?_; (clear F a M; try clear w); rintro v w rfl M a F
      refine s_I F rfl rfl rfl rfl rfl rfl ?_; clear F a; intro a F
      refine t_endM M ?_; (clear M; try clear w); intro w M
      refine wp_ret ?_
      refine ret1 F rfl rfl ?_
      -- end 0
      exact ⟨_, rfl, rfl, M.chg⟩
end Go.Proofs.Ytmikcmcgfehgfaa
