/- B8 of the seat. -/
import Derived.Test.YtboibdmflblphaaB6
import Derived.Test.YtboibdmflblphaaCalN
namespace Go.Proofs.Ytboibdmflblphaa
open Go Fw
theorem ag_71_B8 : aggB Try.prog 71 = some 4 := by kernel_rfl
theorem cb_50_B8 : callB Try.prog 50 = true := by kernel_rfl
theorem cb_51_B8 : callB Try.prog 51 = true := by kernel_rfl
theorem fa_71_0_B8 : FA Try.prog 71 0 0 := fun _ _ _ => by kernel_rfl
theorem sc_3_B8 : scalB Try.prog 3 = true := by kernel_rfl
theorem fa_71_1_B8 : FA Try.prog 71 1 1 := fun _ _ _ => by kernel_rfl
theorem cb_34_B8 : callB Try.prog 34 = true := by kernel_rfl
theorem fa_71_2_B8 : FA Try.prog 71 2 2 := fun _ _ _ => by kernel_rfl
theorem fa_71_3_B8 : FA Try.prog 71 3 3 := fun _ _ _ => by kernel_rfl
theorem sc_69_B8 : scalB Try.prog 69 = true := by kernel_rfl
theorem cb_52_B8 : callB Try.prog 52 = true := by kernel_rfl
theorem pt_73_B8 : ptrB Try.prog 73 = true := by kernel_rfl
theorem sl_69_B8 : slcB Try.prog 69 = some (9, 1) := by kernel_rfl
theorem cb_53_B8 : callB Try.prog 53 = true := by kernel_rfl
theorem cb_54_B8 : callB Try.prog 54 = true := by kernel_rfl
theorem sc_9_B8 : scalB Try.prog 9 = true := by kernel_rfl
theorem cb_55_B8 : callB Try.prog 55 = true := by kernel_rfl
open VoteM AgrM CouM

theorem dl_pos {C : Cou} {i : Int} (h : (C.deliver i).2 = true) : 0 < C.way.length := by
  rcases Nat.eq_zero_or_pos C.way.length with h9 | h9
  · rw [deliver_none h9] at h; cases h
  · exact h9
theorem dl_zero {C : Cou} {i : Int} (h : (C.deliver i).2 = false) : C.way.length = 0 ∧ (C.deliver i).1 = C := by
  rcases Nat.eq_zero_or_pos C.way.length with h9 | h9
  · exact ⟨h9, by rw [deliver_none h9]⟩
  · obtain ⟨x, hx, _⟩ := out_some (i := i) h9
    rw [deliver_some hx] at h; cases h
theorem c50Y {n t h : Int} {vs : List ByteArray} {vv : Value} {l : List Deed} {v : Value} (w0 : World) (hf : fewC vs l) (hr2 : RdSl w0.heap vv vs.length 1 (vs.flatMap encS)) (hr : RdSl w0.heap v l.length 8 (l.flatMap encDd)) : Cl Try.prog 50 #[.agg #[.int .i64 n, .int .i64 t, .int .i64 h, vv], v] w0 (RetQ w0 fun r => r = .int .i64 1) := (c50 n t h vs vv l v w0 hr2 hr).monoQ fun v hv => by rw [hv, if_pos hf]
theorem c50N {n t h : Int} {vs : List ByteArray} {vv : Value} {l : List Deed} {v : Value} (w0 : World) (hf : ¬ fewC vs l) (hr2 : RdSl w0.heap vv vs.length 1 (vs.flatMap encS)) (hr : RdSl w0.heap v l.length 8 (l.flatMap encDd)) : Cl Try.prog 50 #[.agg #[.int .i64 n, .int .i64 t, .int .i64 h, vv], v] w0 (RetQ w0 fun r => r = .int .i64 0) := (c50 n t h vs vv l v w0 hr2 hr).monoQ fun v hv => by rw [hv, if_neg hf]
theorem c52N (n t h : Int) (hn : In64 n) (ht : In64 t) (vs : List ByteArray) (vv : Value) (hl : vs.length ≤ 1000) (hk : okC n t h vs = false) (w0 : World) (hr : RdSl w0.heap vv vs.length 1 (vs.flatMap encS)) : Cl Try.prog 52 #[.int .i64 n, .int .i64 t, .int .i64 h, vv] w0 (RetQ w0 fun v => v = .pointer none) := by
  by_cases hc : 1 ≤ n ∧ 0 ≤ t ∧ (vs.length : Int) = n - t
  · exact c52b n t h hn ht vs vv hl hc.1 hc.2.1 hc.2.2 hk w0 hr
  · exact c52a n t h hn ht vs vv hc w0 hr
theorem decd_fin {C : Cou} {k : Int} {v : ByteArray} (hfin : ∀ (i : Nat) a, C.As[i]? = some a → a.done = true ∧ a.dec = v) (h1 : 1 ≤ k) (h2 : k ≤ (C.As.length : Int)) : (decd C k).1 = v ∧ (decd C k).2 = true := by
  obtain ⟨a, ha⟩ := node_at h1 h2
  obtain ⟨g1, g2⟩ := hfin _ a ha
  rw [decd_at (hon_spec.2 ⟨h1, h2⟩) ha]
  exact ⟨g2, g1⟩
theorem lead_spec {n t h : Int} (hq : quorum n t ≠ 0) (h0 : 0 ≤ h) (h64 : h ≤ 64) : h.tmod n = (((h % n).toNat : Nat) : Int) ∧ leader n h 0 = (((h % n).toNat : Nat) : Int) + 1 ∧ 1 ≤ n ∧ n ≤ 7 ∧ 0 ≤ t ∧ quorum n t ≤ n - t := by
  have hs : 0 ≤ t ∧ t ≤ 2 ∧ 3 * t + 1 ≤ n ∧ n ≤ 7 ∧ quorum n t = (n + t) / 2 + 1 := by
    unfold quorum at hq ⊢
    split at hq
    · exact absurd rfl hq
    · rename_i hh
      rw [if_neg hh]
      omega
  have hn : 0 < n := by omega
  have e1 := Int.tmod_eq_emod_of_nonneg h0 (b := n)
  have e2 := Int.emod_nonneg h (show n ≠ 0 by omega)
  refine ⟨by omega, ?_, by omega, by omega, by omega, by omega⟩
  unfold leader
  rw [if_neg (by omega), Int.add_zero]
  omega

set_option maxRecDepth 100000 in
set_option maxHeartbeats 400000 in
theorem law12a (n t h : Int) (hn : In64 n) (ht : In64 t) (vs : List ByteArray) (vv : Value) (w0 : World) (hr2 : RdSl w0.heap vv vs.length 1 (vs.flatMap encS)) (hf : ¬ fewC vs []) : Cl Try.prog 12 #[.agg #[.int .i64 n, .int .i64 t, .int .i64 h, vv]] w0 (RetQ w0 fun v => v = .bool true) := by
  have M : Sep (fun _ => False) w0 w0 _ := Sep.nil _ w0
  have hrv := ro_of hr2
  obtain ⟨VA, VC, rfl, hvc⟩ := hr2.form
  refine enter (vs := [_]) Try.func12 rfl rfl rfl ?_
  intro a F
  refine wp_seq ?_
  refine wp_region_l [.wr, .ind] ([0, 1]) rfl ?_
  refine s_bxA F M rfl rfl rfl rfl rfl ?_; (clear F a M; try clear w); intro b1 w M a F
  refine s_I F rfl rfl rfl rfl rfl rfl ?_; clear F a; intro a F
  refine t_endM M ?_; (clear M; try clear w); intro w M
  refine wp_seq ?_
  refine wp_seq ?_
  refine wp_region_l [.rd, .wr, .ind, .ind, .ind, .rd, .ind, .rd, .wr, .ind, .ind, .ind, .ind, .rd, .ind, .ind, .ind, .ind, .rd, .ind, .ind] ([0, 1, 2, 3, 4, 5, 6, 7, 8, 9, 10, 11, 12, 13, 14, 15, 16, 17, 18, 19, 20]) rfl ?_
  refine s_lda F rfl rfl rfl rfl ag_71_B8 rfl rfl (cells_whole M.h0) ?_; clear F a; intro a F
  refine s_cq F M rfl rfl rfl rfl rfl (rfl : _ = some [_, _]) cb_50_B8 (fun nd_ => c50N _ hf (M.chg.ro hrv) (show RdSl _ (.slice none 0 0) ([] : List Deed).length 8 (([] : List Deed).flatMap encDd) from RdSl.nil)) ?_; (clear F a M; try clear w); rintro v w rfl M a F
  refine s_bin F rfl rfl rfl rfl rfl rfl rfl ?_; clear F a; intro a F
  replace F : Fr _ _ ((11, Value.bool true) :: _) := F
  refine s_I F rfl rfl rfl rfl rfl rfl ?_; clear F a; intro a F
  refine s_no F rfl rfl rfl rfl ?_; clear F a; intro a F
  refine s_no F rfl rfl rfl rfl ?_; clear F a; intro a F
  refine s_no F rfl rfl rfl rfl ?_; clear F a; intro a F
  refine s_no F rfl rfl rfl rfl ?_; clear F a; intro a F
  refine s_no F rfl rfl rfl rfl ?_; clear F a; intro a F
  refine s_no F rfl rfl rfl rfl ?_; clear F a; intro a F
  refine s_I F rfl rfl rfl rfl rfl rfl ?_; clear F a; intro a F
  refine s_I F rfl rfl rfl rfl rfl rfl ?_; clear F a; intro a F
  refine s_no F rfl rfl rfl rfl ?_; clear F a; intro a F
  refine s_no F rfl rfl rfl rfl ?_; clear F a; intro a F
  refine s_no F rfl rfl rfl rfl ?_; clear F a; intro a F
  refine s_I F rfl rfl rfl rfl rfl rfl ?_; clear F a; intro a F
  refine s_I F rfl rfl rfl rfl rfl rfl ?_; clear F a; intro a F
  refine s_no F rfl rfl rfl rfl ?_; clear F a; intro a F
  refine s_no F rfl rfl rfl rfl ?_; clear F a; intro a F
  refine s_no F rfl rfl rfl rfl ?_; clear F a; intro a F
  refine s_I F rfl rfl rfl rfl rfl rfl ?_; clear F a; intro a F
  refine t_endM M ?_; (clear M; try clear w); intro w M
  refine c_t F rfl ?_
  refine wp_seq ?_
  replace F := F.keep [0, 1, 2] rfl
  refine wp_region_l [.wr, .ind] ([0, 1]) rfl ?_
  refine s_cq F M rfl rfl rfl rfl rfl (rfl : _ = some []) cb_51_B8 (fun nd_ => c51 _) ?_; (clear F a M; try clear w); rintro v w rfl M a F
  refine s_I F rfl rfl rfl rfl rfl rfl ?_; clear F a; intro a F
  refine t_endM M ?_; (clear M; try clear w); intro w M
  refine wp_ret ?_
  refine ret1 F rfl rfl ?_
  -- end 0
  exact ⟨_, rfl, rfl, M.chg⟩
set_option maxRecDepth 100000 in
set_option maxHeartbeats 400000 in
theorem law12b (n t h : Int) (hn : In64 n) (ht : In64 t) (vs : List ByteArray) (vv : Value) (w0 : World) (hr2 : RdSl w0.heap vv vs.length 1 (vs.flatMap encS)) (hf : fewC vs []) (hb : quorum n t = 0 ∨ h < 0 ∨ 64 < h) : Cl Try.prog 12 #[.agg #[.int .i64 n, .int .i64 t, .int .i64 h, vv]] w0 (RetQ w0 fun v => v = .bool true) := by
  have M : Sep (fun _ => False) w0 w0 _ := Sep.nil _ w0
  have hrv := ro_of hr2
  obtain ⟨VA, VC, rfl, hvc⟩ := hr2.form
  refine enter (vs := [_]) Try.func12 rfl rfl rfl ?_
  intro a F
  refine wp_seq ?_
  refine wp_region_l [.wr, .ind] ([0, 1]) rfl ?_
  refine s_bxA F M rfl rfl rfl rfl rfl ?_; (clear F a M; try clear w); intro b1 w M a F
  refine s_I F rfl rfl rfl rfl rfl rfl ?_; clear F a; intro a F
  refine t_endM M ?_; (clear M; try clear w); intro w M
  refine wp_seq ?_
  refine wp_seq ?_
  refine wp_region_l [.rd, .wr, .ind, .ind, .ind, .rd, .ind, .rd, .wr, .ind, .ind, .ind, .ind, .rd, .ind, .ind, .ind, .ind, .rd, .ind, .ind] ([0, 1, 2, 3, 4, 5, 6, 7, 8, 9, 10, 11, 12, 13, 14, 15, 16, 17, 18, 19, 20]) rfl ?_
  refine s_lda F rfl rfl rfl rfl ag_71_B8 rfl rfl (cells_whole M.h0) ?_; clear F a; intro a F
  refine s_cq F M rfl rfl rfl rfl rfl (rfl : _ = some [_, _]) cb_50_B8 (fun nd_ => c50Y _ hf (M.chg.ro hrv) (show RdSl _ (.slice none 0 0) ([] : List Deed).length 8 (([] : List Deed).flatMap encDd) from RdSl.nil)) ?_; (clear F a M; try clear w); rintro v w rfl M a F
  refine s_bin F rfl rfl rfl rfl rfl rfl rfl ?_; clear F a; intro a F
  replace F : Fr _ _ ((11, Value.bool false) :: _) := F
  refine s_I F rfl rfl rfl rfl rfl rfl ?_; clear F a; intro a F
  refine s_fa0 F rfl rfl rfl rfl fa_71_0_B8 rfl ?_; clear F a; intro a F
  refine s_ld F rfl rfl rfl rfl sc_3_B8 rfl (by exact cell_of_blk M.h0 (lit rfl)) ?_; clear F a; intro a F
  refine s_fa0 F rfl rfl rfl rfl fa_71_1_B8 rfl ?_; clear F a; intro a F
  refine s_ld F rfl rfl rfl rfl sc_3_B8 rfl (by exact cell_of_blk M.h0 (lit rfl)) ?_; clear F a; intro a F
  refine s_cq F M rfl rfl rfl rfl rfl (rfl : _ = some [_, _]) cb_34_B8 (fun nd_ => c34 n t _) ?_; (clear F a M; try clear w); rintro v w rfl M a F
  refine s_bin F rfl rfl rfl rfl rfl rfl rfl ?_; clear F a; intro a F
  refine s_I F rfl rfl rfl rfl rfl rfl ?_; clear F a; intro a F
  refine s_I F rfl rfl rfl rfl rfl rfl ?_; clear F a; intro a F
  refine bsplit F 20 rfl ?_ ?_
  ·
    clear F; intro hc0 F
    try rw [hc0] at F
    replace hc0 := of_decide_eq_true hc0
    refine s_no F rfl rfl rfl rfl ?_; clear F a; intro a F
    refine s_no F rfl rfl rfl rfl ?_; clear F a; intro a F
    refine s_no F rfl rfl rfl rfl ?_; clear F a; intro a F
    refine s_I F rfl rfl rfl rfl rfl rfl ?_; clear F a; intro a F
    refine s_I F rfl rfl rfl rfl rfl rfl ?_; clear F a; intro a F
    refine s_no F rfl rfl rfl rfl ?_; clear F a; intro a F
    refine s_no F rfl rfl rfl rfl ?_; clear F a; intro a F
    refine s_no F rfl rfl rfl rfl ?_; clear F a; intro a F
    refine s_I F rfl rfl rfl rfl rfl rfl ?_; clear F a; intro a F
    refine t_endM M ?_; (clear M; try clear w); intro w M
    refine c_t F rfl ?_
    refine wp_seq ?_
    replace F := F.keep [0, 1, 2] rfl
    refine wp_region_l [.wr, .ind] ([0, 1]) rfl ?_
    refine s_cq F M rfl rfl rfl rfl rfl (rfl : _ = some []) cb_51_B8 (fun nd_ => c51 _) ?_; (clear F a M; try clear w); rintro v w rfl M a F
    refine s_I F rfl rfl rfl rfl rfl rfl ?_; clear F a; intro a F
    refine t_endM M ?_; (clear M; try clear w); intro w M
    refine wp_ret ?_
    refine ret1 F rfl rfl ?_
    -- end 0
    exact ⟨_, rfl, rfl, M.chg⟩
  ·
    clear F; intro hc1 F
    try rw [hc1] at F
    replace hc1 := of_decide_eq_false hc1
    refine s_fa0 F rfl rfl rfl rfl fa_71_2_B8 rfl ?_; clear F a; intro a F
    refine s_ld F rfl rfl rfl rfl sc_3_B8 rfl (by exact cell_of_blk M.h0 (lit rfl)) ?_; clear F a; intro a F
    refine s_bin F rfl rfl rfl rfl rfl rfl rfl ?_; clear F a; intro a F
    refine s_I F rfl rfl rfl rfl rfl rfl ?_; clear F a; intro a F
    refine s_I F rfl rfl rfl rfl rfl rfl ?_; clear F a; intro a F
    refine bsplit F 25 rfl ?_ ?_
    ·
      clear F; intro hc2 F
      try rw [hc2] at F
      replace hc2 := of_decide_eq_true hc2
      refine s_no F rfl rfl rfl rfl ?_; clear F a; intro a F
      refine s_no F rfl rfl rfl rfl ?_; clear F a; intro a F
      refine s_no F rfl rfl rfl rfl ?_; clear F a; intro a F
      refine s_I F rfl rfl rfl rfl rfl rfl ?_; clear F a; intro a F
      refine t_endM M ?_; (clear M; try clear w); intro w M
      refine c_t F rfl ?_
      refine wp_seq ?_
      replace F := F.keep [0, 1, 2] rfl
      refine wp_region_l [.wr, .ind] ([0, 1]) rfl ?_
      refine s_cq F M rfl rfl rfl rfl rfl (rfl : _ = some []) cb_51_B8 (fun nd_ => c51 _) ?_; (clear F a M; try clear w); rintro v w rfl M a F
      refine s_I F rfl rfl rfl rfl rfl rfl ?_; clear F a; intro a F
      refine t_endM M ?_; (clear M; try clear w); intro w M
      refine wp_ret ?_
      refine ret1 F rfl rfl ?_
      -- end 1
      exact ⟨_, rfl, rfl, M.chg⟩
    ·
      clear F; intro hc3 F
      try rw [hc3] at F
      replace hc3 := of_decide_eq_false hc3
      refine s_fa0 F rfl rfl rfl rfl fa_71_2_B8 rfl ?_; clear F a; intro a F
      refine s_ld F rfl rfl rfl rfl sc_3_B8 rfl (by exact cell_of_blk M.h0 (lit rfl)) ?_; clear F a; intro a F
      refine s_bin F rfl rfl rfl rfl rfl rfl rfl ?_; clear F a; intro a F
      refine s_I F rfl rfl rfl rfl rfl rfl ?_; clear F a; intro a F
      refine t_endM M ?_; (clear M; try clear w); intro w M
      refine c_if F rfl ?_ ?_
      ·
        clear F; intro hc4 F
        try rw [hc4] at F
        replace hc4 := of_decide_eq_true hc4
        refine wp_seq ?_
        replace F := F.keep [0, 1, 2] rfl
        refine wp_region_l [.wr, .ind] ([0, 1]) rfl ?_
        refine s_cq F M rfl rfl rfl rfl rfl (rfl : _ = some []) cb_51_B8 (fun nd_ => c51 _) ?_; (clear F a M; try clear w); rintro v w rfl M a F
        refine s_I F rfl rfl rfl rfl rfl rfl ?_; clear F a; intro a F
        refine t_endM M ?_; (clear M; try clear w); intro w M
        refine wp_ret ?_
        refine ret1 F rfl rfl ?_
        -- end 2
        exact ⟨_, rfl, rfl, M.chg⟩
      ·
        clear F; intro hc5 F
        try rw [hc5] at F
        replace hc5 := of_decide_eq_false hc5
        exfalso
        omega
set_option maxRecDepth 100000 in
set_option maxHeartbeats 400000 in
theorem law12c (n t h : Int) (hn : In64 n) (ht : In64 t) (vs : List ByteArray) (vv : Value) (w0 : World) (hr2 : RdSl w0.heap vv vs.length 1 (vs.flatMap encS)) (hf : fewC vs []) (hq : quorum n t ≠ 0) (h0 : 0 ≤ h) (h64 : h ≤ 64) (hk : okC n t h vs = false) : Cl Try.prog 12 #[.agg #[.int .i64 n, .int .i64 t, .int .i64 h, vv]] w0 (RetQ w0 fun v => v = .bool true) := by
  have M : Sep (fun _ => False) w0 w0 _ := Sep.nil _ w0
  have hrv := ro_of hr2
  obtain ⟨VA, VC, rfl, hvc⟩ := hr2.form
  have hl20 := hf.2.1
  obtain ⟨hlm, hld, hn1, hn7, ht0, hqm⟩ := lead_spec hq h0 h64
  have hm1 := Int.emod_lt_of_pos h (show 0 < n by omega)
  have hm2 := Int.emod_nonneg h (show n ≠ 0 by omega)
  refine enter (vs := [_]) Try.func12 rfl rfl rfl ?_
  intro a F
  refine wp_seq ?_
  refine wp_region_l [.wr, .ind] ([0, 1]) rfl ?_
  refine s_bxA F M rfl rfl rfl rfl rfl ?_; (clear F a M; try clear w); intro b1 w M a F
  refine s_I F rfl rfl rfl rfl rfl rfl ?_; clear F a; intro a F
  refine t_endM M ?_; (clear M; try clear w); intro w M
  refine wp_seq ?_
  refine wp_seq ?_
  refine wp_region_l [.rd, .wr, .ind, .ind, .ind, .rd, .ind, .rd, .wr, .ind, .ind, .ind, .ind, .rd, .ind, .ind, .ind, .ind, .rd, .ind, .ind] ([0, 1, 2, 3, 4, 5, 6, 7, 8, 9, 10, 11, 12, 13, 14, 15, 16, 17, 18, 19, 20]) rfl ?_
  refine s_lda F rfl rfl rfl rfl ag_71_B8 rfl rfl (cells_whole M.h0) ?_; clear F a; intro a F
  refine s_cq F M rfl rfl rfl rfl rfl (rfl : _ = some [_, _]) cb_50_B8 (fun nd_ => c50Y _ hf (M.chg.ro hrv) (show RdSl _ (.slice none 0 0) ([] : List Deed).length 8 (([] : List Deed).flatMap encDd) from RdSl.nil)) ?_; (clear F a M; try clear w); rintro v w rfl M a F
  refine s_bin F rfl rfl rfl rfl rfl rfl rfl ?_; clear F a; intro a F
  replace F : Fr _ _ ((11, Value.bool false) :: _) := F
  refine s_I F rfl rfl rfl rfl rfl rfl ?_; clear F a; intro a F
  refine s_fa0 F rfl rfl rfl rfl fa_71_0_B8 rfl ?_; clear F a; intro a F
  refine s_ld F rfl rfl rfl rfl sc_3_B8 rfl (by exact cell_of_blk M.h0 (lit rfl)) ?_; clear F a; intro a F
  refine s_fa0 F rfl rfl rfl rfl fa_71_1_B8 rfl ?_; clear F a; intro a F
  refine s_ld F rfl rfl rfl rfl sc_3_B8 rfl (by exact cell_of_blk M.h0 (lit rfl)) ?_; clear F a; intro a F
  refine s_cq F M rfl rfl rfl rfl rfl (rfl : _ = some [_, _]) cb_34_B8 (fun nd_ => c34 n t _) ?_; (clear F a M; try clear w); rintro v w rfl M a F
  refine s_bin F rfl rfl rfl rfl rfl rfl rfl ?_; clear F a; intro a F
  refine s_I F rfl rfl rfl rfl rfl rfl ?_; clear F a; intro a F
  refine s_I F rfl rfl rfl rfl rfl rfl ?_; clear F a; intro a F
  refine bsplit F 20 rfl ?_ ?_
  ·
    clear F; intro hc0 F
    try rw [hc0] at F
    replace hc0 := of_decide_eq_true hc0
    refine s_no F rfl rfl rfl rfl ?_; clear F a; intro a F
    refine s_no F rfl rfl rfl rfl ?_; clear F a; intro a F
    refine s_no F rfl rfl rfl rfl ?_; clear F a; intro a F
    refine s_I F rfl rfl rfl rfl rfl rfl ?_; clear F a; intro a F
    refine s_I F rfl rfl rfl rfl rfl rfl ?_; clear F a; intro a F
    refine s_no F rfl rfl rfl rfl ?_; clear F a; intro a F
    refine s_no F rfl rfl rfl rfl ?_; clear F a; intro a F
    refine s_no F rfl rfl rfl rfl ?_; clear F a; intro a F
    refine s_I F rfl rfl rfl rfl rfl rfl ?_; clear F a; intro a F
    refine t_endM M ?_; (clear M; try clear w); intro w M
    refine c_t F rfl ?_
    refine wp_seq ?_
    replace F := F.keep [0, 1, 2] rfl
    refine wp_region_l [.wr, .ind] ([0, 1]) rfl ?_
    refine s_cq F M rfl rfl rfl rfl rfl (rfl : _ = some []) cb_51_B8 (fun nd_ => c51 _) ?_; (clear F a M; try clear w); rintro v w rfl M a F
    refine s_I F rfl rfl rfl rfl rfl rfl ?_; clear F a; intro a F
    refine t_endM M ?_; (clear M; try clear w); intro w M
    refine wp_ret ?_
    refine ret1 F rfl rfl ?_
    -- end 0
    exact ⟨_, rfl, rfl, M.chg⟩
  ·
    clear F; intro hc1 F
    try rw [hc1] at F
    replace hc1 := of_decide_eq_false hc1
    refine s_fa0 F rfl rfl rfl rfl fa_71_2_B8 rfl ?_; clear F a; intro a F
    refine s_ld F rfl rfl rfl rfl sc_3_B8 rfl (by exact cell_of_blk M.h0 (lit rfl)) ?_; clear F a; intro a F
    refine s_bin F rfl rfl rfl rfl rfl rfl rfl ?_; clear F a; intro a F
    refine s_I F rfl rfl rfl rfl rfl rfl ?_; clear F a; intro a F
    refine s_I F rfl rfl rfl rfl rfl rfl ?_; clear F a; intro a F
    refine bsplit F 25 rfl ?_ ?_
    ·
      clear F; intro hc2 F
      try rw [hc2] at F
      replace hc2 := of_decide_eq_true hc2
      refine s_no F rfl rfl rfl rfl ?_; clear F a; intro a F
      refine s_no F rfl rfl rfl rfl ?_; clear F a; intro a F
      refine s_no F rfl rfl rfl rfl ?_; clear F a; intro a F
      refine s_I F rfl rfl rfl rfl rfl rfl ?_; clear F a; intro a F
      refine t_endM M ?_; (clear M; try clear w); intro w M
      refine c_t F rfl ?_
      refine wp_seq ?_
      replace F := F.keep [0, 1, 2] rfl
      refine wp_region_l [.wr, .ind] ([0, 1]) rfl ?_
      refine s_cq F M rfl rfl rfl rfl rfl (rfl : _ = some []) cb_51_B8 (fun nd_ => c51 _) ?_; (clear F a M; try clear w); rintro v w rfl M a F
      refine s_I F rfl rfl rfl rfl rfl rfl ?_; clear F a; intro a F
      refine t_endM M ?_; (clear M; try clear w); intro w M
      refine wp_ret ?_
      refine ret1 F rfl rfl ?_
      -- end 1
      exact ⟨_, rfl, rfl, M.chg⟩
    ·
      clear F; intro hc3 F
      try rw [hc3] at F
      replace hc3 := of_decide_eq_false hc3
      refine s_fa0 F rfl rfl rfl rfl fa_71_2_B8 rfl ?_; clear F a; intro a F
      refine s_ld F rfl rfl rfl rfl sc_3_B8 rfl (by exact cell_of_blk M.h0 (lit rfl)) ?_; clear F a; intro a F
      refine s_bin F rfl rfl rfl rfl rfl rfl rfl ?_; clear F a; intro a F
      refine s_I F rfl rfl rfl rfl rfl rfl ?_; clear F a; intro a F
      refine t_endM M ?_; (clear M; try clear w); intro w M
      refine c_if F rfl ?_ ?_
      ·
        clear F; intro hc4 F
        try rw [hc4] at F
        replace hc4 := of_decide_eq_true hc4
        exfalso
        omega
      ·
        clear F; intro hc5 F
        try rw [hc5] at F
        replace hc5 := of_decide_eq_false hc5
        refine wp_skip ?_
        refine wp_seq ?_
        replace F := F.keep [0, 1, 2] rfl
        refine wp_region_l [.ind, .rd, .ind, .rd, .ind, .rd, .ind, .rd, .wr, .ind] ([0, 1, 2, 3, 4, 5, 6, 7, 8, 9]) rfl ?_
        refine s_fa0 F rfl rfl rfl rfl fa_71_0_B8 rfl ?_; clear F a; intro a F
        refine s_ld F rfl rfl rfl rfl sc_3_B8 rfl (by exact cell_of_blk M.h0 (lit rfl)) ?_; clear F a; intro a F
        refine s_fa0 F rfl rfl rfl rfl fa_71_1_B8 rfl ?_; clear F a; intro a F
        refine s_ld F rfl rfl rfl rfl sc_3_B8 rfl (by exact cell_of_blk M.h0 (lit rfl)) ?_; clear F a; intro a F
        refine s_fa0 F rfl rfl rfl rfl fa_71_2_B8 rfl ?_; clear F a; intro a F
        refine s_ld F rfl rfl rfl rfl sc_3_B8 rfl (by exact cell_of_blk M.h0 (lit rfl)) ?_; clear F a; intro a F
        refine s_fa0 F rfl rfl rfl rfl fa_71_3_B8 rfl ?_; clear F a; intro a F
        refine s_ld F rfl rfl rfl rfl sc_69_B8 rfl (by exact cell_of_blk M.h0 (lit rfl)) ?_; clear F a; intro a F
        refine s_cq F M rfl rfl rfl rfl rfl (rfl : _ = some [_, _, _, _]) cb_52_B8 (fun nd_ => c52N n t h hn ht vs _ (by omega) hk _ (M.chg.ro hrv)) ?_; (clear F a M; try clear w); rintro v w rfl M a F
        refine s_I F rfl rfl rfl rfl rfl rfl ?_; clear F a; intro a F
        refine t_endM M ?_; (clear M; try clear w); intro w M
        refine wp_seq ?_
        replace F := F.keep [0, 1, 2, 3] rfl
        refine wp_region_l [.ind, .rd, .ind, .rd, .ind, .ind] ([0, 1, 2, 3, 4, 5]) rfl ?_
        refine s_fa0 F rfl rfl rfl rfl fa_71_2_B8 rfl ?_; clear F a; intro a F
        refine s_ld F rfl rfl rfl rfl sc_3_B8 rfl (by exact cell_of_blk M.h0 (lit rfl)) ?_; clear F a; intro a F
        refine s_fa0 F rfl rfl rfl rfl fa_71_0_B8 rfl ?_; clear F a; intro a F
        refine s_ld F rfl rfl rfl rfl sc_3_B8 rfl (by exact cell_of_blk M.h0 (lit rfl)) ?_; clear F a; intro a F
        refine s_rem F rfl rfl rfl rfl rfl rfl (by omega) ?_; clear F a; intro a F
        refine s_I F rfl rfl rfl rfl rfl rfl ?_; clear F a; intro a F
        refine t_endM M ?_; (clear M; try clear w); intro w M
        refine wp_seq ?_
        refine wp_seq ?_
        replace F := F.keep [0, 1, 2, 3, 4] rfl
        refine wp_region_l [.ind, .ind, .ind, .ind, .ind, .rd, .ind, .ind, .ind] ([0, 1, 2, 3, 4, 5, 6, 7, 8]) rfl ?_
        refine s_I F rfl rfl rfl rfl rfl rfl ?_; clear F a; intro a F
        refine s_pn F rfl rfl rfl rfl pt_73_B8 rfl ?_; clear F a; intro a F
        replace F : Fr _ _ ((46, Value.bool true) :: _) := F
        refine s_I F rfl rfl rfl rfl rfl rfl ?_; clear F a; intro a F
        refine s_no F rfl rfl rfl rfl ?_; clear F a; intro a F
        refine s_no F rfl rfl rfl rfl ?_; clear F a; intro a F
        refine s_no F rfl rfl rfl rfl ?_; clear F a; intro a F
        refine s_no F rfl rfl rfl rfl ?_; clear F a; intro a F
        refine s_no F rfl rfl rfl rfl ?_; clear F a; intro a F
        refine s_I F rfl rfl rfl rfl rfl rfl ?_; clear F a; intro a F
        refine t_endM M ?_; (clear M; try clear w); intro w M
        refine c_t F rfl ?_
        refine wp_seq ?_
        replace F := F.keep [0, 1, 2, 3, 4] rfl
        refine wp_region_l [.wr, .ind] ([0, 1]) rfl ?_
        refine s_cq F M rfl rfl rfl rfl rfl (rfl : _ = some []) cb_51_B8 (fun nd_ => c51 _) ?_; (clear F a M; try clear w); rintro v w rfl M a F
        refine s_I F rfl rfl rfl rfl rfl rfl ?_; clear F a; intro a F
        refine t_endM M ?_; (clear M; try clear w); intro w M
        refine wp_ret ?_
        refine ret1 F rfl rfl ?_
        -- end 2
        exact ⟨_, rfl, rfl, M.chg⟩
set_option maxRecDepth 100000 in
set_option maxHeartbeats 400000 in
theorem law12d (n t h : Int) (hn : In64 n) (ht : In64 t) (vs : List ByteArray) (vv : Value) (w0 : World) (hr2 : RdSl w0.heap vv vs.length 1 (vs.flatMap encS)) (hf : fewC vs []) (hq : quorum n t ≠ 0) (h0 : 0 ≤ h) (h64 : h ≤ 64) (hk : okC n t h vs = true) (hlen : (vs.length : Int) ≤ h.tmod n) : Cl Try.prog 12 #[.agg #[.int .i64 n, .int .i64 t, .int .i64 h, vv]] w0 (RetQ w0 fun v => v = .bool true) := by
  have M : Sep (fun _ => False) w0 w0 _ := Sep.nil _ w0
  have hrv := ro_of hr2
  obtain ⟨VA, VC, rfl, hvc⟩ := hr2.form
  have hl20 := hf.2.1
  obtain ⟨hlm, hld, hn1, hn7, ht0, hqm⟩ := lead_spec hq h0 h64
  have hm1 := Int.emod_lt_of_pos h (show 0 < n by omega)
  have hm2 := Int.emod_nonneg h (show n ≠ 0 by omega)
  refine enter (vs := [_]) Try.func12 rfl rfl rfl ?_
  intro a F
  refine wp_seq ?_
  refine wp_region_l [.wr, .ind] ([0, 1]) rfl ?_
  refine s_bxA F M rfl rfl rfl rfl rfl ?_; (clear F a M; try clear w); intro b1 w M a F
  refine s_I F rfl rfl rfl rfl rfl rfl ?_; clear F a; intro a F
  refine t_endM M ?_; (clear M; try clear w); intro w M
  refine wp_seq ?_
  refine wp_seq ?_
  refine wp_region_l [.rd, .wr, .ind, .ind, .ind, .rd, .ind, .rd, .wr, .ind, .ind, .ind, .ind, .rd, .ind, .ind, .ind, .ind, .rd, .ind, .ind] ([0, 1, 2, 3, 4, 5, 6, 7, 8, 9, 10, 11, 12, 13, 14, 15, 16, 17, 18, 19, 20]) rfl ?_
  refine s_lda F rfl rfl rfl rfl ag_71_B8 rfl rfl (cells_whole M.h0) ?_; clear F a; intro a F
  refine s_cq F M rfl rfl rfl rfl rfl (rfl : _ = some [_, _]) cb_50_B8 (fun nd_ => c50Y _ hf (M.chg.ro hrv) (show RdSl _ (.slice none 0 0) ([] : List Deed).length 8 (([] : List Deed).flatMap encDd) from RdSl.nil)) ?_; (clear F a M; try clear w); rintro v w rfl M a F
  refine s_bin F rfl rfl rfl rfl rfl rfl rfl ?_; clear F a; intro a F
  replace F : Fr _ _ ((11, Value.bool false) :: _) := F
  refine s_I F rfl rfl rfl rfl rfl rfl ?_; clear F a; intro a F
  refine s_fa0 F rfl rfl rfl rfl fa_71_0_B8 rfl ?_; clear F a; intro a F
  refine s_ld F rfl rfl rfl rfl sc_3_B8 rfl (by exact cell_of_blk M.h0 (lit rfl)) ?_; clear F a; intro a F
  refine s_fa0 F rfl rfl rfl rfl fa_71_1_B8 rfl ?_; clear F a; intro a F
  refine s_ld F rfl rfl rfl rfl sc_3_B8 rfl (by exact cell_of_blk M.h0 (lit rfl)) ?_; clear F a; intro a F
  refine s_cq F M rfl rfl rfl rfl rfl (rfl : _ = some [_, _]) cb_34_B8 (fun nd_ => c34 n t _) ?_; (clear F a M; try clear w); rintro v w rfl M a F
  refine s_bin F rfl rfl rfl rfl rfl rfl rfl ?_; clear F a; intro a F
  refine s_I F rfl rfl rfl rfl rfl rfl ?_; clear F a; intro a F
  refine s_I F rfl rfl rfl rfl rfl rfl ?_; clear F a; intro a F
  refine bsplit F 20 rfl ?_ ?_
  ·
    clear F; intro hc0 F
    try rw [hc0] at F
    replace hc0 := of_decide_eq_true hc0
    refine s_no F rfl rfl rfl rfl ?_; clear F a; intro a F
    refine s_no F rfl rfl rfl rfl ?_; clear F a; intro a F
    refine s_no F rfl rfl rfl rfl ?_; clear F a; intro a F
    refine s_I F rfl rfl rfl rfl rfl rfl ?_; clear F a; intro a F
    refine s_I F rfl rfl rfl rfl rfl rfl ?_; clear F a; intro a F
    refine s_no F rfl rfl rfl rfl ?_; clear F a; intro a F
    refine s_no F rfl rfl rfl rfl ?_; clear F a; intro a F
    refine s_no F rfl rfl rfl rfl ?_; clear F a; intro a F
    refine s_I F rfl rfl rfl rfl rfl rfl ?_; clear F a; intro a F
    refine t_endM M ?_; (clear M; try clear w); intro w M
    refine c_t F rfl ?_
    refine wp_seq ?_
    replace F := F.keep [0, 1, 2] rfl
    refine wp_region_l [.wr, .ind] ([0, 1]) rfl ?_
    refine s_cq F M rfl rfl rfl rfl rfl (rfl : _ = some []) cb_51_B8 (fun nd_ => c51 _) ?_; (clear F a M; try clear w); rintro v w rfl M a F
    refine s_I F rfl rfl rfl rfl rfl rfl ?_; clear F a; intro a F
    refine t_endM M ?_; (clear M; try clear w); intro w M
    refine wp_ret ?_
    refine ret1 F rfl rfl ?_
    -- end 0
    exact ⟨_, rfl, rfl, M.chg⟩
  ·
    clear F; intro hc1 F
    try rw [hc1] at F
    replace hc1 := of_decide_eq_false hc1
    refine s_fa0 F rfl rfl rfl rfl fa_71_2_B8 rfl ?_; clear F a; intro a F
    refine s_ld F rfl rfl rfl rfl sc_3_B8 rfl (by exact cell_of_blk M.h0 (lit rfl)) ?_; clear F a; intro a F
    refine s_bin F rfl rfl rfl rfl rfl rfl rfl ?_; clear F a; intro a F
    refine s_I F rfl rfl rfl rfl rfl rfl ?_; clear F a; intro a F
    refine s_I F rfl rfl rfl rfl rfl rfl ?_; clear F a; intro a F
    refine bsplit F 25 rfl ?_ ?_
    ·
      clear F; intro hc2 F
      try rw [hc2] at F
      replace hc2 := of_decide_eq_true hc2
      refine s_no F rfl rfl rfl rfl ?_; clear F a; intro a F
      refine s_no F rfl rfl rfl rfl ?_; clear F a; intro a F
      refine s_no F rfl rfl rfl rfl ?_; clear F a; intro a F
      refine s_I F rfl rfl rfl rfl rfl rfl ?_; clear F a; intro a F
      refine t_endM M ?_; (clear M; try clear w); intro w M
      refine c_t F rfl ?_
      refine wp_seq ?_
      replace F := F.keep [0, 1, 2] rfl
      refine wp_region_l [.wr, .ind] ([0, 1]) rfl ?_
      refine s_cq F M rfl rfl rfl rfl rfl (rfl : _ = some []) cb_51_B8 (fun nd_ => c51 _) ?_; (clear F a M; try clear w); rintro v w rfl M a F
      refine s_I F rfl rfl rfl rfl rfl rfl ?_; clear F a; intro a F
      refine t_endM M ?_; (clear M; try clear w); intro w M
      refine wp_ret ?_
      refine ret1 F rfl rfl ?_
      -- end 1
      exact ⟨_, rfl, rfl, M.chg⟩
    ·
      clear F; intro hc3 F
      try rw [hc3] at F
      replace hc3 := of_decide_eq_false hc3
      refine s_fa0 F rfl rfl rfl rfl fa_71_2_B8 rfl ?_; clear F a; intro a F
      refine s_ld F rfl rfl rfl rfl sc_3_B8 rfl (by exact cell_of_blk M.h0 (lit rfl)) ?_; clear F a; intro a F
      refine s_bin F rfl rfl rfl rfl rfl rfl rfl ?_; clear F a; intro a F
      refine s_I F rfl rfl rfl rfl rfl rfl ?_; clear F a; intro a F
      refine t_endM M ?_; (clear M; try clear w); intro w M
      refine c_if F rfl ?_ ?_
      ·
        clear F; intro hc4 F
        try rw [hc4] at F
        replace hc4 := of_decide_eq_true hc4
        exfalso
        omega
      ·
        clear F; intro hc5 F
        try rw [hc5] at F
        replace hc5 := of_decide_eq_false hc5
        refine wp_skip ?_
        refine wp_seq ?_
        replace F := F.keep [0, 1, 2] rfl
        refine wp_region_l [.ind, .rd, .ind, .rd, .ind, .rd, .ind, .rd, .wr, .ind] ([0, 1, 2, 3, 4, 5, 6, 7, 8, 9]) rfl ?_
        refine s_fa0 F rfl rfl rfl rfl fa_71_0_B8 rfl ?_; clear F a; intro a F
        refine s_ld F rfl rfl rfl rfl sc_3_B8 rfl (by exact cell_of_blk M.h0 (lit rfl)) ?_; clear F a; intro a F
        refine s_fa0 F rfl rfl rfl rfl fa_71_1_B8 rfl ?_; clear F a; intro a F
        refine s_ld F rfl rfl rfl rfl sc_3_B8 rfl (by exact cell_of_blk M.h0 (lit rfl)) ?_; clear F a; intro a F
        refine s_fa0 F rfl rfl rfl rfl fa_71_2_B8 rfl ?_; clear F a; intro a F
        refine s_ld F rfl rfl rfl rfl sc_3_B8 rfl (by exact cell_of_blk M.h0 (lit rfl)) ?_; clear F a; intro a F
        refine s_fa0 F rfl rfl rfl rfl fa_71_3_B8 rfl ?_; clear F a; intro a F
        refine s_ld F rfl rfl rfl rfl sc_69_B8 rfl (by exact cell_of_blk M.h0 (lit rfl)) ?_; clear F a; intro a F
        refine s_call (m := []) F M rfl rfl rfl rfl rfl (rfl : _ = some [_, _, _, _]) cb_52_B8 (fun nd_ => c52 n t h hn ht vs _ hk _ (M.chg.ro hrv)) ?_; (clear F a M; try clear w); rintro v g0 w rfl M a F; (try simp only [List.cons_append, List.nil_append] at M)
        refine s_I F rfl rfl rfl rfl rfl rfl ?_; clear F a; intro a F
        refine t_endM M ?_; (clear M; try clear w); intro w M
        refine wp_seq ?_
        replace F := F.keep [0, 1, 2, 3] rfl
        refine wp_region_l [.ind, .rd, .ind, .rd, .ind, .ind] ([0, 1, 2, 3, 4, 5]) rfl ?_
        refine s_fa0 F rfl rfl rfl rfl fa_71_2_B8 rfl ?_; clear F a; intro a F
        refine s_ld F rfl rfl rfl rfl sc_3_B8 rfl (by exact cell_of_blk M.h1 (lit rfl)) ?_; clear F a; intro a F
        refine s_fa0 F rfl rfl rfl rfl fa_71_0_B8 rfl ?_; clear F a; intro a F
        refine s_ld F rfl rfl rfl rfl sc_3_B8 rfl (by exact cell_of_blk M.h1 (lit rfl)) ?_; clear F a; intro a F
        refine s_rem F rfl rfl rfl rfl rfl rfl (by omega) ?_; clear F a; intro a F
        refine s_I F rfl rfl rfl rfl rfl rfl ?_; clear F a; intro a F
        refine t_endM M ?_; (clear M; try clear w); intro w M
        refine wp_seq ?_
        refine wp_seq ?_
        replace F := F.keep [0, 1, 2, 3, 4] rfl
        refine wp_region_l [.ind, .ind, .ind, .ind, .ind, .rd, .ind, .ind, .ind] ([0, 1, 2, 3, 4, 5, 6, 7, 8]) rfl ?_
        refine s_I F rfl rfl rfl rfl rfl rfl ?_; clear F a; intro a F
        refine s_pn F rfl rfl rfl rfl pt_73_B8 rfl ?_; clear F a; intro a F
        replace F : Fr _ _ ((46, Value.bool false) :: _) := F
        refine s_I F rfl rfl rfl rfl rfl rfl ?_; clear F a; intro a F
        refine s_I F rfl rfl rfl rfl rfl rfl ?_; clear F a; intro a F
        refine s_fa0 F rfl rfl rfl rfl fa_71_3_B8 rfl ?_; clear F a; intro a F
        refine s_ld F rfl rfl rfl rfl sc_69_B8 rfl (by exact cell_of_blk M.h1 (lit rfl)) ?_; clear F a; intro a F
        refine s_len F rfl rfl rfl rfl sl_69_B8 rfl ?_; clear F a; intro a F
        refine s_bin F rfl rfl rfl rfl rfl rfl rfl ?_; clear F a; intro a F
        refine s_I F rfl rfl rfl rfl rfl rfl ?_; clear F a; intro a F
        refine t_endM M ?_; (clear M; try clear w); intro w M
        refine c_if F rfl ?_ ?_
        ·
          clear F; intro hc6 F
          try rw [hc6] at F
          replace hc6 := of_decide_eq_true hc6
          refine wp_seq ?_
          replace F := F.keep [0, 1, 2, 3, 4] rfl
          refine wp_region_l [.wr, .ind] ([0, 1]) rfl ?_
          refine s_cq F M rfl rfl rfl rfl rfl (rfl : _ = some []) cb_51_B8 (fun nd_ => c51 _) ?_; (clear F a M; try clear w); rintro v w rfl M a F
          refine s_I F rfl rfl rfl rfl rfl rfl ?_; clear F a; intro a F
          refine t_endM M ?_; (clear M; try clear w); intro w M
          refine wp_ret ?_
          refine ret1 F rfl rfl ?_
          -- end 2
          exact ⟨_, rfl, rfl, M.chg⟩
        ·
          clear F; intro hc7 F
          try rw [hc7] at F
          replace hc7 := of_decide_eq_false hc7
          exfalso
          omega
set_option maxRecDepth 100000 in
set_option maxHeartbeats 4000000 in
theorem law12e (n t h : Int) (hn : In64 n) (ht : In64 t) (vs : List ByteArray) (vv : Value) (w0 : World) (hr2 : RdSl w0.heap vv vs.length 1 (vs.flatMap encS)) (hf : fewC vs []) (hq : quorum n t ≠ 0) (h0 : 0 ≤ h) (h64 : h ≤ 64) (hk : okC n t h vs = true) (hlen : h.tmod n < (vs.length : Int)) : Cl Try.prog 12 #[.agg #[.int .i64 n, .int .i64 t, .int .i64 h, vv]] w0 (RetQ w0 fun v => v = .bool true) := by
  have M : Sep (fun _ => False) w0 w0 _ := Sep.nil _ w0
  have hrv := ro_of hr2
  obtain ⟨VA, VC, rfl, hvc⟩ := hr2.form
  have hl20 := hf.2.1
  obtain ⟨hlm, hld, hn1, hn7, ht0, hqm⟩ := lead_spec hq h0 h64
  have hm1 := Int.emod_lt_of_pos h (show 0 < n by omega)
  have hm2 := Int.emod_nonneg h (show n ≠ 0 by omega)
  obtain ⟨v, hv⟩ : ∃ v, vs[((h % n).toNat)]? = some v := ⟨vs[((h % n).toNat)]'(by omega), List.getElem?_eq_getElem _⟩
  obtain ⟨hJ0, hmu0, hv1, hv2⟩ := calm0 hk hld hv
  refine enter (vs := [_]) Try.func12 rfl rfl rfl ?_
  intro a F
  refine wp_seq ?_
  refine wp_region_l [.wr, .ind] ([0, 1]) rfl ?_
  refine s_bxA F M rfl rfl rfl rfl rfl ?_; (clear F a M; try clear w); intro b1 w M a F
  refine s_I F rfl rfl rfl rfl rfl rfl ?_; clear F a; intro a F
  refine t_endM M ?_; (clear M; try clear w); intro w M
  refine wp_seq ?_
  refine wp_seq ?_
  refine wp_region_l [.rd, .wr, .ind, .ind, .ind, .rd, .ind, .rd, .wr, .ind, .ind, .ind, .ind, .rd, .ind, .ind, .ind, .ind, .rd, .ind, .ind] ([0, 1, 2, 3, 4, 5, 6, 7, 8, 9, 10, 11, 12, 13, 14, 15, 16, 17, 18, 19, 20]) rfl ?_
  refine s_lda F rfl rfl rfl rfl ag_71_B8 rfl rfl (cells_whole M.h0) ?_; clear F a; intro a F
  refine s_cq F M rfl rfl rfl rfl rfl (rfl : _ = some [_, _]) cb_50_B8 (fun nd_ => c50Y _ hf (M.chg.ro hrv) (show RdSl _ (.slice none 0 0) ([] : List Deed).length 8 (([] : List Deed).flatMap encDd) from RdSl.nil)) ?_; (clear F a M; try clear w); rintro v w rfl M a F
  refine s_bin F rfl rfl rfl rfl rfl rfl rfl ?_; clear F a; intro a F
  replace F : Fr _ _ ((11, Value.bool false) :: _) := F
  refine s_I F rfl rfl rfl rfl rfl rfl ?_; clear F a; intro a F
  refine s_fa0 F rfl rfl rfl rfl fa_71_0_B8 rfl ?_; clear F a; intro a F
  refine s_ld F rfl rfl rfl rfl sc_3_B8 rfl (by exact cell_of_blk M.h0 (lit rfl)) ?_; clear F a; intro a F
  refine s_fa0 F rfl rfl rfl rfl fa_71_1_B8 rfl ?_; clear F a; intro a F
  refine s_ld F rfl rfl rfl rfl sc_3_B8 rfl (by exact cell_of_blk M.h0 (lit rfl)) ?_; clear F a; intro a F
  refine s_cq F M rfl rfl rfl rfl rfl (rfl : _ = some [_, _]) cb_34_B8 (fun nd_ => c34 n t _) ?_; (clear F a M; try clear w); rintro v w rfl M a F
  refine s_bin F rfl rfl rfl rfl rfl rfl rfl ?_; clear F a; intro a F
  refine s_I F rfl rfl rfl rfl rfl rfl ?_; clear F a; intro a F
  refine s_I F rfl rfl rfl rfl rfl rfl ?_; clear F a; intro a F
  refine bsplit F 20 rfl ?_ ?_
  ·
    clear F; intro hc0 F
    try rw [hc0] at F
    replace hc0 := of_decide_eq_true hc0
    refine s_no F rfl rfl rfl rfl ?_; clear F a; intro a F
    refine s_no F rfl rfl rfl rfl ?_; clear F a; intro a F
    refine s_no F rfl rfl rfl rfl ?_; clear F a; intro a F
    refine s_I F rfl rfl rfl rfl rfl rfl ?_; clear F a; intro a F
    refine s_I F rfl rfl rfl rfl rfl rfl ?_; clear F a; intro a F
    refine s_no F rfl rfl rfl rfl ?_; clear F a; intro a F
    refine s_no F rfl rfl rfl rfl ?_; clear F a; intro a F
    refine s_no F rfl rfl rfl rfl ?_; clear F a; intro a F
    refine s_I F rfl rfl rfl rfl rfl rfl ?_; clear F a; intro a F
    refine t_endM M ?_; (clear M; try clear w); intro w M
    refine c_t F rfl ?_
    refine wp_seq ?_
    replace F := F.keep [0, 1, 2] rfl
    refine wp_region_l [.wr, .ind] ([0, 1]) rfl ?_
    refine s_cq F M rfl rfl rfl rfl rfl (rfl : _ = some []) cb_51_B8 (fun nd_ => c51 _) ?_; (clear F a M; try clear w); rintro v w rfl M a F
    refine s_I F rfl rfl rfl rfl rfl rfl ?_; clear F a; intro a F
    refine t_endM M ?_; (clear M; try clear w); intro w M
    refine wp_ret ?_
    refine ret1 F rfl rfl ?_
    -- end 0
    exact ⟨_, rfl, rfl, M.chg⟩
  ·
    clear F; intro hc1 F
    try rw [hc1] at F
    replace hc1 := of_decide_eq_false hc1
    refine s_fa0 F rfl rfl rfl rfl fa_71_2_B8 rfl ?_; clear F a; intro a F
    refine s_ld F rfl rfl rfl rfl sc_3_B8 rfl (by exact cell_of_blk M.h0 (lit rfl)) ?_; clear F a; intro a F
    refine s_bin F rfl rfl rfl rfl rfl rfl rfl ?_; clear F a; intro a F
    refine s_I F rfl rfl rfl rfl rfl rfl ?_; clear F a; intro a F
    refine s_I F rfl rfl rfl rfl rfl rfl ?_; clear F a; intro a F
    refine bsplit F 25 rfl ?_ ?_
    ·
      clear F; intro hc2 F
      try rw [hc2] at F
      replace hc2 := of_decide_eq_true hc2
      refine s_no F rfl rfl rfl rfl ?_; clear F a; intro a F
      refine s_no F rfl rfl rfl rfl ?_; clear F a; intro a F
      refine s_no F rfl rfl rfl rfl ?_; clear F a; intro a F
      refine s_I F rfl rfl rfl rfl rfl rfl ?_; clear F a; intro a F
      refine t_endM M ?_; (clear M; try clear w); intro w M
      refine c_t F rfl ?_
      refine wp_seq ?_
      replace F := F.keep [0, 1, 2] rfl
      refine wp_region_l [.wr, .ind] ([0, 1]) rfl ?_
      refine s_cq F M rfl rfl rfl rfl rfl (rfl : _ = some []) cb_51_B8 (fun nd_ => c51 _) ?_; (clear F a M; try clear w); rintro v w rfl M a F
      refine s_I F rfl rfl rfl rfl rfl rfl ?_; clear F a; intro a F
      refine t_endM M ?_; (clear M; try clear w); intro w M
      refine wp_ret ?_
      refine ret1 F rfl rfl ?_
      -- end 1
      exact ⟨_, rfl, rfl, M.chg⟩
    ·
      clear F; intro hc3 F
      try rw [hc3] at F
      replace hc3 := of_decide_eq_false hc3
      refine s_fa0 F rfl rfl rfl rfl fa_71_2_B8 rfl ?_; clear F a; intro a F
      refine s_ld F rfl rfl rfl rfl sc_3_B8 rfl (by exact cell_of_blk M.h0 (lit rfl)) ?_; clear F a; intro a F
      refine s_bin F rfl rfl rfl rfl rfl rfl rfl ?_; clear F a; intro a F
      refine s_I F rfl rfl rfl rfl rfl rfl ?_; clear F a; intro a F
      refine t_endM M ?_; (clear M; try clear w); intro w M
      refine c_if F rfl ?_ ?_
      ·
        clear F; intro hc4 F
        try rw [hc4] at F
        replace hc4 := of_decide_eq_true hc4
        exfalso
        omega
      ·
        clear F; intro hc5 F
        try rw [hc5] at F
        replace hc5 := of_decide_eq_false hc5
        refine wp_skip ?_
        refine wp_seq ?_
        replace F := F.keep [0, 1, 2] rfl
        refine wp_region_l [.ind, .rd, .ind, .rd, .ind, .rd, .ind, .rd, .wr, .ind] ([0, 1, 2, 3, 4, 5, 6, 7, 8, 9]) rfl ?_
        refine s_fa0 F rfl rfl rfl rfl fa_71_0_B8 rfl ?_; clear F a; intro a F
        refine s_ld F rfl rfl rfl rfl sc_3_B8 rfl (by exact cell_of_blk M.h0 (lit rfl)) ?_; clear F a; intro a F
        refine s_fa0 F rfl rfl rfl rfl fa_71_1_B8 rfl ?_; clear F a; intro a F
        refine s_ld F rfl rfl rfl rfl sc_3_B8 rfl (by exact cell_of_blk M.h0 (lit rfl)) ?_; clear F a; intro a F
        refine s_fa0 F rfl rfl rfl rfl fa_71_2_B8 rfl ?_; clear F a; intro a F
        refine s_ld F rfl rfl rfl rfl sc_3_B8 rfl (by exact cell_of_blk M.h0 (lit rfl)) ?_; clear F a; intro a F
        refine s_fa0 F rfl rfl rfl rfl fa_71_3_B8 rfl ?_; clear F a; intro a F
        refine s_ld F rfl rfl rfl rfl sc_69_B8 rfl (by exact cell_of_blk M.h0 (lit rfl)) ?_; clear F a; intro a F
        refine s_call (m := []) F M rfl rfl rfl rfl rfl (rfl : _ = some [_, _, _, _]) cb_52_B8 (fun nd_ => c52 n t h hn ht vs _ hk _ (M.chg.ro hrv)) ?_; (clear F a M; try clear w); rintro v g0 w rfl M a F; (try simp only [List.cons_append, List.nil_append] at M)
        refine s_I F rfl rfl rfl rfl rfl rfl ?_; clear F a; intro a F
        refine t_endM M ?_; (clear M; try clear w); intro w M
        refine wp_seq ?_
        replace F := F.keep [0, 1, 2, 3] rfl
        refine wp_region_l [.ind, .rd, .ind, .rd, .ind, .ind] ([0, 1, 2, 3, 4, 5]) rfl ?_
        refine s_fa0 F rfl rfl rfl rfl fa_71_2_B8 rfl ?_; clear F a; intro a F
        refine s_ld F rfl rfl rfl rfl sc_3_B8 rfl (by exact cell_of_blk M.h1 (lit rfl)) ?_; clear F a; intro a F
        refine s_fa0 F rfl rfl rfl rfl fa_71_0_B8 rfl ?_; clear F a; intro a F
        refine s_ld F rfl rfl rfl rfl sc_3_B8 rfl (by exact cell_of_blk M.h1 (lit rfl)) ?_; clear F a; intro a F
        refine s_rem F rfl rfl rfl rfl rfl rfl (by omega) ?_; clear F a; intro a F
        refine s_I F rfl rfl rfl rfl rfl rfl ?_; clear F a; intro a F
        refine t_endM M ?_; (clear M; try clear w); intro w M
        refine wp_seq ?_
        refine wp_seq ?_
        rw [hlm] at F
        replace F := F.keep [0, 1, 2, 3, 4] rfl
        refine wp_region_l [.ind, .ind, .ind, .ind, .ind, .rd, .ind, .ind, .ind] ([0, 1, 2, 3, 4, 5, 6, 7, 8]) rfl ?_
        refine s_I F rfl rfl rfl rfl rfl rfl ?_; clear F a; intro a F
        refine s_pn F rfl rfl rfl rfl pt_73_B8 rfl ?_; clear F a; intro a F
        replace F : Fr _ _ ((46, Value.bool false) :: _) := F
        refine s_I F rfl rfl rfl rfl rfl rfl ?_; clear F a; intro a F
        refine s_I F rfl rfl rfl rfl rfl rfl ?_; clear F a; intro a F
        refine s_fa0 F rfl rfl rfl rfl fa_71_3_B8 rfl ?_; clear F a; intro a F
        refine s_ld F rfl rfl rfl rfl sc_69_B8 rfl (by exact cell_of_blk M.h1 (lit rfl)) ?_; clear F a; intro a F
        refine s_len F rfl rfl rfl rfl sl_69_B8 rfl ?_; clear F a; intro a F
        refine s_bin F rfl rfl rfl rfl rfl rfl rfl ?_; clear F a; intro a F
        refine s_I F rfl rfl rfl rfl rfl rfl ?_; clear F a; intro a F
        refine t_endM M ?_; (clear M; try clear w); intro w M
        refine c_if F rfl ?_ ?_
        ·
          clear F; intro hc6 F
          try rw [hc6] at F
          replace hc6 := of_decide_eq_true hc6
          exfalso
          omega
        ·
          clear F; intro hc7 F
          try rw [hc7] at F
          replace hc7 := of_decide_eq_false hc7
          refine wp_skip ?_
          refine wp_seq ?_
          refine wp_seq ?_
          replace F := F.keep [0, 1, 2, 3, 4] rfl
          refine wp_region_l [.ind] ([0]) rfl ?_
          refine s_I F rfl rfl rfl rfl rfl rfl ?_; clear F a; intro a F
          refine t_endM M ?_; (clear M; try clear w); intro w M
          refine wp_block ?_
          have M1 : Sep _ _ _ (couR _ _ :: _) := M; replace M := M1; clear M1
          refine loopX (X := (Int) × (Gc) × (Cou)) F [0, 1, 2, 3, 4] rfl (fun ((i, γ, C) : (Int) × (Gc) × (Cou)) => (0 ≤ i) ∧ (γ.b = g0.b) ∧ (J n t h vs.length (((h % n).toNat : Nat) + 1 : Int) v C) ∧ ((C.mu : Int) + i ≤ 105)) (fun ((i, γ, C) : (Int) × (Gc) × (Cou)) => [(5, .int .i64 i)]) (fun ((i, γ, C) : (Int) × (Gc) × (Cou)) => [couR γ C]) (fun ((i, γ, C) : (Int) × (Gc) × (Cou)) => (400 - i).toNat) ((0), (g0), (newC n t h vs)) M ⟨(by omega), rfl, hJ0, (by omega)⟩ (F.keep [5, 0, 1, 2, 3, 4] rfl) ?_
          clear F M; clear a; (try clear w)
          rintro ⟨i, γ, C⟩ a w ⟨i0, hg, hJ, hmu⟩ F M; try dsimp only at F M
          try simp only [List.cons_append, List.nil_append] at F M
          try dsimp only at i0 hg hJ hmu
          rw [← hg] at F
          refine wp_seq ?_
          refine wp_seq ?_
          refine wp_region_l [.ind, .ind, .ind, .ind, .wr, .ind] ([0, 1, 2, 3, 4, 5]) rfl ?_
          refine s_I F rfl rfl rfl rfl rfl rfl ?_; clear F a; intro a F
          refine s_bin F rfl rfl rfl rfl rfl rfl rfl ?_; clear F a; intro a F
          refine s_I F rfl rfl rfl rfl rfl rfl ?_; clear F a; intro a F
          refine bsplit F 57 rfl ?_ ?_
          ·
            clear F; intro hc8 F
            try rw [hc8] at F
            replace hc8 := of_decide_eq_true hc8
            refine s_I F rfl rfl rfl rfl rfl rfl ?_; clear F a; intro a F
            have M1 : Sep _ _ _ (couR _ _ :: _) := M; replace M := M1; clear M1
            refine s_call (m := [_]) F M rfl rfl rfl rfl rfl (rfl : _ = some [_, _]) cb_53_B8 (fun nd_ => c53 γ C hJ.W 0 _ (M.drewN nd_).own.one) ?_; (clear F a M; try clear w); rintro v γ2 w ⟨rfl, hb2⟩ M a F; (try simp only [List.cons_append, List.nil_append] at M)
            refine s_I F rfl rfl rfl rfl rfl rfl ?_; clear F a; intro a F
            refine t_endM M ?_; (clear M; try clear w); intro w M
            refine c_if F rfl ?_ ?_
            ·
              clear F; intro hc9 F
              try rw [hc9] at F
              skip
              refine wp_skip ?_
              refine wp_seq ?_
              refine wp_block ?_
              refine wp_skip ?_
              replace F := F.keep [0, 1, 2, 3, 4, 5] rfl
              refine wp_region_l [.ind, .ind, .ind] ([0, 1, 2]) rfl ?_
              refine s_I F rfl rfl rfl rfl rfl rfl ?_; clear F a; intro a F
              refine s_add F rfl rfl rfl rfl rfl rfl (by unfold In64; omega) ?_; clear F a; intro a F
              refine s_I F rfl rfl rfl rfl rfl rfl ?_; clear F a; intro a F
              refine t_endM M ?_; (clear M; try clear w); intro w M
              rw [hg] at F
              refine again ((i + 1), (γ2), ((C.deliver 0).1)) (by show _ < _; (try dsimp only); omega) ⟨(by omega), (hb2.trans hg), (hJ.deliver hv1 hv2 hld.symm (by omega) (by omega) hn7 ht0 (by omega) 0 (dl_pos (by assumption))).1, (by have h9 := (hJ.deliver hv1 hv2 hld.symm (by omega) (by omega) hn7 ht0 (by omega) 0 (dl_pos (by assumption))).2.1; omega)⟩ (F.keep [5, 0, 1, 2, 3, 4] rfl) ?_
              try dsimp only [List.cons_append, List.nil_append]
              refine M.pick ?_; repeat (first | exact PkG.nil | refine PkG.cons 0 rfl rfl ?_ | refine PkG.cons 1 rfl rfl ?_)
            ·
              clear F; intro hc10 F
              try rw [hc10] at F
              skip
              refine wp_exit ?_
              refine wp_seq ?_
              refine wp_seq ?_
              obtain ⟨hz, hzC⟩ := dl_zero (show (C.deliver 0).2 = false by assumption)
              rw [hzC] at M
              rw [← hb2] at F
              have hfin := hJ.fin hv1 (by have := hJ.W.hn; have := hJ.len; omega) hz
              replace F := F.keep [0, 1, 2, 3, 4, 5] rfl
              refine wp_region_l [.ind] ([0]) rfl ?_
              refine s_I F rfl rfl rfl rfl rfl rfl ?_; clear F a; intro a F
              refine t_endM M ?_; (clear M; try clear w); intro w M
              refine wp_block ?_
              refine loopX (X := (Int)) F [0, 1, 3, 4, 5] rfl (fun (k : Int) => (1 ≤ k) ∧ (k ≤ vs.length + 1)) (fun (k : Int) => [(6, .int .i64 k)]) (fun (k : Int) => []) (fun (k : Int) => vs.length + 1 - k.toNat) (1) M ⟨(by omega), (by omega)⟩ (F.keep [6, 0, 1, 3, 4, 5] rfl) ?_
              clear F M; clear a; (try clear w)
              rintro k a w ⟨k0, k1⟩ F M; try dsimp only at F M
              try simp only [List.cons_append, List.nil_append] at F M
              try dsimp only at k0 k1
              refine wp_seq ?_
              refine wp_seq ?_
              refine wp_region_l [.ind, .ind, .rd, .ind, .ind] ([0, 1, 2, 3, 4]) rfl ?_
              refine s_I F rfl rfl rfl rfl rfl rfl ?_; clear F a; intro a F
              refine s_fa0 F rfl rfl rfl rfl fa_71_3_B8 rfl ?_; clear F a; intro a F
              refine s_ld F rfl rfl rfl rfl sc_69_B8 rfl (by exact cell_of_blk M.h1 (lit rfl)) ?_; clear F a; intro a F
              refine s_len F rfl rfl rfl rfl sl_69_B8 rfl ?_; clear F a; intro a F
              refine s_bin F rfl rfl rfl rfl rfl rfl rfl ?_; clear F a; intro a F
              refine t_endM M ?_; (clear M; try clear w); intro w M
              refine c_if F rfl ?_ ?_
              ·
                clear F; intro hc11 F
                try rw [hc11] at F
                replace hc11 := of_decide_eq_true hc11
                refine wp_skip ?_
                refine wp_seq ?_
                refine wp_block ?_
                refine wp_seq ?_
                replace F := F.keep [0, 1, 3, 4, 5, 6] rfl
                refine wp_region_l [.ind, .ind, .wr, .ind, .ind, .ind, .ind, .ind] ([0, 1, 2, 3, 4, 5, 6, 7]) rfl ?_
                refine s_I F rfl rfl rfl rfl rfl rfl ?_; clear F a; intro a F
                refine s_I F rfl rfl rfl rfl rfl rfl ?_; clear F a; intro a F
                refine s_cq F M rfl rfl rfl rfl rfl (rfl : _ = some [_, _]) cb_54_B8 (fun nd_ => c54 γ2 C hJ.W.l7 k _ (by exact roF (M.drewN nd_))) ?_; (clear F a M; try clear w); rintro v w rfl M a F
                obtain ⟨hd1, hd2⟩ := decd_fin hfin k0 (by rw [hJ.len]; omega)
                rw [hd1, hd2] at F
                refine s_I F rfl rfl rfl rfl rfl rfl ?_; clear F a; intro a F
                refine s_I F rfl rfl rfl rfl rfl rfl ?_; clear F a; intro a F
                refine s_I F rfl rfl rfl rfl rfl rfl ?_; clear F a; intro a F
                refine s_I F rfl rfl rfl rfl rfl rfl ?_; clear F a; intro a F
                refine s_I F rfl rfl rfl rfl rfl rfl ?_; clear F a; intro a F
                replace F : Fr _ _ ((8, Value.bool true) :: _) := F
                refine t_endM M ?_; (clear M; try clear w); intro w M
                refine wp_seq ?_
                replace F := F.keep [0, 1, 3, 4, 5, 6, 7, 8] rfl
                refine wp_region_l [.ind, .ind, .ind, .ind, .ind, .rd, .ind, .ind, .rd, .ind, .ind] ([0, 1, 2, 3, 4, 5, 6, 7, 8, 9, 10]) rfl ?_
                refine s_I F rfl rfl rfl rfl rfl rfl ?_; clear F a; intro a F
                refine s_I F rfl rfl rfl rfl rfl rfl ?_; clear F a; intro a F
                refine s_I F rfl rfl rfl rfl rfl rfl ?_; clear F a; intro a F
                refine s_I F rfl rfl rfl rfl rfl rfl ?_; clear F a; intro a F
                refine s_fa0 F rfl rfl rfl rfl fa_71_3_B8 rfl ?_; clear F a; intro a F
                refine s_ld F rfl rfl rfl rfl sc_69_B8 rfl (by exact cell_of_blk M.h1 (lit rfl)) ?_; clear F a; intro a F
                refine s_I F rfl rfl rfl rfl rfl rfl ?_; clear F a; intro a F
                refine s_ix F rfl rfl rfl rfl sl_69_B8 rfl rfl (by exact M.chg.ro hrv) (by omega) (by omega) ?_; clear F a; intro e83 he83 a F
                skip
                refine s_ld F rfl rfl rfl rfl sc_9_B8 rfl (by exact rdX0 (M.chg.ro hrv) (by intro e; rfl) he83 rfl) ?_; clear F a; intro a F
                refine s_bin F rfl rfl rfl rfl rfl rfl rfl ?_; clear F a; intro a F
                refine s_I F rfl rfl rfl rfl rfl rfl ?_; clear F a; intro a F
                refine t_endM M ?_; (clear M; try clear w); intro w M
                refine c_if F rfl ?_ ?_
                ·
                  clear F; intro hc12 F
                  try rw [hc12] at F
                  replace hc12 := nd1 hc12
                  rw [Int.toNat_natCast] at he83
                  have e9 : e83 = v := Option.some.inj (he83.symm.trans hv)
                  exact absurd e9.symm (by assumption)
                ·
                  clear F; intro hc13 F
                  try rw [hc13] at F
                  replace hc13 := nd0 hc13
                  refine wp_skip ?_
                  replace F := F.keep [0, 1, 3, 4, 5, 6, 7, 8] rfl
                  refine wp_region_l [.ind, .ind, .ind] ([0, 1, 2]) rfl ?_
                  refine s_I F rfl rfl rfl rfl rfl rfl ?_; clear F a; intro a F
                  refine s_add F rfl rfl rfl rfl rfl rfl (by unfold In64; omega) ?_; clear F a; intro a F
                  refine s_I F rfl rfl rfl rfl rfl rfl ?_; clear F a; intro a F
                  refine t_endM M ?_; (clear M; try clear w); intro w M
                  refine again (k + 1) (by show _ < _; (try dsimp only); omega) ⟨(by omega), (by omega)⟩ (F.keep [6, 0, 1, 3, 4, 5] rfl) ?_
                  try dsimp only [List.cons_append, List.nil_append]
                  refine M.pick ?_; repeat (first | exact PkG.nil | refine PkG.cons 0 rfl rfl ?_ | refine PkG.cons 1 rfl rfl ?_)
              ·
                clear F; intro hc14 F
                try rw [hc14] at F
                replace hc14 := of_decide_eq_false hc14
                refine wp_exit ?_
                refine wp_seq ?_
                replace F := F.keep [0, 1, 3, 4, 5, 6] rfl
                refine wp_region_l [.ind, .wr, .ind, .ind, .wr, .ind, .ind] ([0, 1, 2, 3, 4, 5, 6]) rfl ?_
                refine s_I F rfl rfl rfl rfl rfl rfl ?_; clear F a; intro a F
                refine s_cq F M rfl rfl rfl rfl rfl (rfl : _ = some [_]) cb_55_B8 (fun nd_ => c55 γ2 C _ (by exact roF (M.drewN nd_))) ?_; (clear F a M; try clear w); rintro v w rfl M a F
                rw [hz] at F
                refine s_bin F rfl rfl rfl rfl rfl rfl rfl ?_; clear F a; intro a F
                replace F : Fr _ _ ((89, Value.bool true) :: _) := F
                refine s_I F rfl rfl rfl rfl rfl rfl ?_; clear F a; intro a F
                refine s_cq F M rfl rfl rfl rfl rfl (rfl : _ = some []) cb_51_B8 (fun nd_ => c51 _) ?_; (clear F a M; try clear w); rintro v w rfl M a F
                refine s_I F rfl rfl rfl rfl rfl rfl ?_; clear F a; intro a F
                refine s_I F rfl rfl rfl rfl rfl rfl ?_; clear F a; intro a F
                refine t_endM M ?_; (clear M; try clear w); intro w M
                refine wp_ret ?_
                refine ret1 F rfl rfl ?_
                -- end 2
                exact ⟨_, rfl, rfl, M.chg⟩
          ·
            clear F; intro hc15 F
            try rw [hc15] at F
            replace hc15 := of_decide_eq_false hc15
            exfalso
            omega
theorem law12 (n t h : Int) (hn : In64 n) (ht : In64 t) (vs : List ByteArray) (vv : Value) (w0 : World) (hr2 : RdSl w0.heap vv vs.length 1 (vs.flatMap encS)) : Cl Try.prog 12 #[.agg #[.int .i64 n, .int .i64 t, .int .i64 h, vv]] w0 (RetQ w0 fun v => v = .bool true) := by
  by_cases hf : fewC vs []
  · by_cases hb : quorum n t = 0 ∨ h < 0 ∨ 64 < h
    · exact law12b n t h hn ht vs vv w0 hr2 hf hb
    · have hq : quorum n t ≠ 0 := fun e => hb (.inl e)
      cases hk : okC n t h vs
      · exact law12c n t h hn ht vs vv w0 hr2 hf hq (by omega) (by omega) hk
      · rcases Int.lt_or_le (h.tmod n) vs.length with hlen | hlen
        · exact law12e n t h hn ht vs vv w0 hr2 hf hq (by omega) (by omega) hk hlen
        · exact law12d n t h hn ht vs vv w0 hr2 hf hq (by omega) (by omega) hk hlen
  · exact law12a n t h hn ht vs vv w0 hr2 hf
end Go.Proofs.Ytboibdmflblphaa
