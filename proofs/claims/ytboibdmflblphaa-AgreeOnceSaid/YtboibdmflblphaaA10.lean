/- A10 of the seat. -/
import Derived.Test.YtboibdmflblphaaA9
namespace Go.Proofs.Ytboibdmflblphaa
open Go Fw
theorem sl_22_A10 : slcB Try.prog 22 = some (32, 5) := by kernel_rfl
theorem fa_32_4_A10 : FA Try.prog 32 4 4 := fun _ _ _ => by kernel_rfl
theorem sc_9_A10 : scalB Try.prog 9 = true := by kernel_rfl
theorem st_9_A10 : strB Try.prog 9 = true := by kernel_rfl
theorem cb_35_A10 : callB Try.prog 35 = true := by kernel_rfl
theorem cb_36_A10 : callB Try.prog 36 = true := by kernel_rfl
theorem cb_37_A10 : callB Try.prog 37 = true := by kernel_rfl
theorem cb_48_A10 : callB Try.prog 48 = true := by kernel_rfl
theorem cb_46_A10 : callB Try.prog 46 = true := by kernel_rfl
theorem cb_47_A10 : callB Try.prog 47 = true := by kernel_rfl
theorem cb_44_A10 : callB Try.prog 44 = true := by kernel_rfl
theorem ag_32_A10 : aggB Try.prog 32 = some 5 := by kernel_rfl
theorem cb_41_A10 : callB Try.prog 41 = true := by kernel_rfl
theorem cb_38_A10 : callB Try.prog 38 = true := by kernel_rfl
theorem fa_48_4_A10 : FA Try.prog 48 4 4 := fun _ _ _ => by kernel_rfl
theorem fa_48_0_A10 : FA Try.prog 48 0 0 := fun _ _ _ => by kernel_rfl
theorem sc_3_A10 : scalB Try.prog 3 = true := by kernel_rfl
theorem fa_48_1_A10 : FA Try.prog 48 1 1 := fun _ _ _ => by kernel_rfl
theorem fa_48_2_A10 : FA Try.prog 48 2 2 := fun _ _ _ => by kernel_rfl
theorem fa_48_3_A10 : FA Try.prog 48 3 3 := fun _ _ _ => by kernel_rfl
theorem cb_39_A10 : callB Try.prog 39 = true := by kernel_rfl
theorem pt_50_A10 : ptrB Try.prog 50 = true := by kernel_rfl
theorem tl_22_A10 : SlT Try.prog 22 32 5 48 (.agg #[.int .i64 0, .int .i64 0, .int .i64 0, .int .i64 0, .string { data := #[] }]) := ⟨by kernel_rfl, by kernel_rfl, by kernel_rfl, by kernel_rfl, by decide⟩
theorem fa_32_1_A10 : FA Try.prog 32 1 1 := fun _ _ _ => by kernel_rfl
theorem cb_49_A10 : callB Try.prog 49 = true := by kernel_rfl
theorem fa_32_2_A10 : FA Try.prog 32 2 2 := fun _ _ _ => by kernel_rfl
theorem fa_32_0_A10 : FA Try.prog 32 0 0 := fun _ _ _ => by kernel_rfl
open VoteM AgrM

theorem leader_spec {n h r : Int} (hl : leader n h r ≠ 0) : 1 ≤ n ∧ n ≤ 7 ∧ 0 ≤ h ∧ h ≤ 64 ∧ 0 ≤ r ∧ r ≤ 64 := by
  unfold leader at hl
  split at hl
  · exact absurd rfl hl
  · omega
theorem leader_next {n h r : Int} (hl : leader n h r ≠ 0) (hr : r ≠ 64) : leader n h (r + 1) = leader n h r % n + 1 := by
  have hs := leader_spec hl
  unfold leader
  rw [if_neg (by omega), if_neg (by omega), show h + (r + 1) = (h + r) + 1 by omega, Int.emod_add_emod]
theorem leader_le {n h r : Int} : 0 ≤ leader n h r ∧ leader n h r ≤ 7 := by
  unfold leader
  split
  · omega
  · have := Int.emod_lt_of_pos (h + r) (show 0 < n by omega)
    have := Int.emod_nonneg (h + r) (show n ≠ 0 by omega)
    omega
theorem said_lt {S : List Wrd} (hp : S.Pairwise fun x y => key x < key y) {i j : Nat} {x y : Wrd} (hi : S[i]? = some x) (hj : S[j]? = some y) (h : i < j) : key x < key y := by
  obtain ⟨h1, rfl⟩ := List.getElem?_eq_some_iff.1 hi
  obtain ⟨h2, rfl⟩ := List.getElem?_eq_some_iff.1 hj
  exact List.pairwise_iff_getElem.1 hp i j h1 h2 h
theorem check_kind {w : Wrd} (h : checkW w = true) : 1 ≤ w.kind ∧ w.kind ≤ 3 := by
  rcases (check_spec h).1 with h | h <;> omega
theorem startO_len (a : ASt) : a.startO.length ≤ 1 := by
  unfold ASt.startO
  split
  · simp
  · exact beginO_len _ _

set_option maxRecDepth 100000 in
set_option maxHeartbeats 400000 in
theorem c38 (l : List Wrd) (v : Value) (w0 : World) (hr : RdSl w0.heap v l.length 5 (l.flatMap encW)) : Cl Try.prog 38 #[v] w0 (RetQ w0 fun r => r = .int .i64 (if few l then 1 else 0)) := by
  have M : Sep (fun _ => False) w0 w0 _ := Sep.nil _ w0
  have hro := (ro_of hr)
  obtain ⟨A, cc, rfl, hcc⟩ := hr.form
  refine enter (vs := [_]) Try.func38 rfl rfl rfl ?_
  intro a F
  refine wp_seq ?_
  refine wp_region_l [.ind] ([0]) rfl ?_
  refine s_I F rfl rfl rfl rfl rfl rfl ?_; clear F a; intro a F
  refine t_endM M ?_; (clear M; try clear w); intro w M
  refine wp_seq ?_
  refine wp_seq ?_
  refine wp_region_l [.ind, .ind, .ind] ([0, 1, 2]) rfl ?_
  refine s_I F rfl rfl rfl rfl rfl rfl ?_; clear F a; intro a F
  refine s_len F rfl rfl rfl rfl sl_22_A10 rfl ?_; clear F a; intro a F
  refine s_bin F rfl rfl rfl rfl rfl rfl rfl ?_; clear F a; intro a F
  refine t_endM M ?_; (clear M; try clear w); intro w M
  refine c_if F rfl ?_ ?_
  ·
    clear F; intro hc0 F
    try rw [hc0] at F
    replace hc0 := of_decide_eq_true hc0
    refine wp_seq ?_
    replace F := F.keep [0, 2] rfl
    refine wp_region_l [.ind] ([0]) rfl ?_
    refine s_I F rfl rfl rfl rfl rfl rfl ?_; clear F a; intro a F
    refine t_endM M ?_; (clear M; try clear w); intro w M
    refine wp_ret ?_
    refine ret1 F rfl rfl ?_
    -- end 0
    refine ⟨_, rfl, ?_, M.chg⟩
    rw [if_neg (fun h => by have := h.1; omega)]
  ·
    clear F; intro hc1 F
    try rw [hc1] at F
    replace hc1 := of_decide_eq_false hc1
    refine wp_skip ?_
    refine wp_seq ?_
    refine wp_seq ?_
    replace F := F.keep [0, 2] rfl
    refine wp_region_l [.ind] ([0]) rfl ?_
    refine s_I F rfl rfl rfl rfl rfl rfl ?_; clear F a; intro a F
    refine t_endM M ?_; (clear M; try clear w); intro w M
    refine wp_block ?_
    refine loopX (X := (Int)) F [0] rfl (fun (i : Int) => (0 ≤ i) ∧ (i ≤ l.length) ∧ (∀ m ∈ l.take i.toNat, m.value.size ≤ 5000)) (fun (i : Int) => [(3, .int .i64 i)]) (fun (i : Int) => []) (fun (i : Int) => l.length - i.toNat) (0) M ⟨(by omega), (by omega), (by simp)⟩ (F.keep [3, 0] rfl) ?_
    clear F M; clear a; (try clear w)
    rintro i a w ⟨i0, i1, ha⟩ F M; try dsimp only at F M
    try simp only [List.cons_append, List.nil_append] at F M
    try dsimp only at i0 i1 ha
    refine wp_seq ?_
    refine wp_seq ?_
    refine wp_region_l [.ind, .ind, .ind, .ind] ([0, 1, 2, 3]) rfl ?_
    refine s_I F rfl rfl rfl rfl rfl rfl ?_; clear F a; intro a F
    refine s_I F rfl rfl rfl rfl rfl rfl ?_; clear F a; intro a F
    refine s_len F rfl rfl rfl rfl sl_22_A10 rfl ?_; clear F a; intro a F
    refine s_bin F rfl rfl rfl rfl rfl rfl rfl ?_; clear F a; intro a F
    refine t_endM M ?_; (clear M; try clear w); intro w M
    refine c_if F rfl ?_ ?_
    ·
      clear F; intro hc2 F
      try rw [hc2] at F
      replace hc2 := of_decide_eq_true hc2
      refine wp_skip ?_
      refine wp_seq ?_
      refine wp_block ?_
      refine wp_seq ?_
      replace F := F.keep [0, 3] rfl
      refine wp_region_l [.ind, .ind, .ind, .ind, .rd, .ind, .ind] ([0, 1, 2, 3, 4, 5, 6]) rfl ?_
      refine s_I F rfl rfl rfl rfl rfl rfl ?_; clear F a; intro a F
      refine s_I F rfl rfl rfl rfl rfl rfl ?_; clear F a; intro a F
      refine s_ix F rfl rfl rfl rfl sl_22_A10 rfl rfl (by exact M.chg.ro hro) (by omega) (by omega) ?_; clear F a; intro e15 he15 a F
      refine s_fa F rfl rfl rfl rfl fa_32_4_A10 rfl ?_; clear F a; intro a F
      refine s_ld F rfl rfl rfl rfl sc_9_A10 rfl (by exact rdX (M.chg.ro hro) (by intro e; rfl) he15 rfl) ?_; clear F a; intro a F
      refine s_lenS F rfl rfl rfl rfl st_9_A10 rfl ?_; clear F a; intro a F
      refine s_bin F rfl rfl rfl rfl rfl rfl rfl ?_; clear F a; intro a F
      refine t_endM M ?_; (clear M; try clear w); intro w M
      refine c_if F rfl ?_ ?_
      ·
        clear F; intro hc3 F
        try rw [hc3] at F
        replace hc3 := of_decide_eq_true hc3
        refine wp_seq ?_
        replace F := F.keep [0, 3] rfl
        refine wp_region_l [.ind] ([0]) rfl ?_
        refine s_I F rfl rfl rfl rfl rfl rfl ?_; clear F a; intro a F
        refine t_endM M ?_; (clear M; try clear w); intro w M
        refine wp_ret ?_
        refine ret1 F rfl rfl ?_
        -- end 1
        refine ⟨_, rfl, ?_, M.chg⟩
        rw [if_neg (fun h => by have := h.2 e15 (List.mem_of_getElem? he15); omega)]
      ·
        clear F; intro hc4 F
        try rw [hc4] at F
        replace hc4 := of_decide_eq_false hc4
        refine wp_skip ?_
        replace F := F.keep [0, 3] rfl
        refine wp_region_l [.ind, .ind, .ind] ([0, 1, 2]) rfl ?_
        refine s_I F rfl rfl rfl rfl rfl rfl ?_; clear F a; intro a F
        refine s_add F rfl rfl rfl rfl rfl rfl (by unfold In64; omega) ?_; clear F a; intro a F
        refine s_I F rfl rfl rfl rfl rfl rfl ?_; clear F a; intro a F
        refine t_endM M ?_; (clear M; try clear w); intro w M
        refine again (i + 1) (by show _ < _; (try dsimp only); omega) ⟨(by omega), (by assumption), all_take ha i0 he15 (by omega)⟩ (F.keep [3, 0] rfl) ?_
        try dsimp only [List.cons_append, List.nil_append]
        refine M.pick ?_; repeat (exact PkG.nil)
    ·
      clear F; intro hc5 F
      try rw [hc5] at F
      replace hc5 := of_decide_eq_false hc5
      refine wp_exit ?_
      refine wp_seq ?_
      replace F := F.keep [0, 3] rfl
      refine wp_region_l [.ind] ([0]) rfl ?_
      refine s_I F rfl rfl rfl rfl rfl rfl ?_; clear F a; intro a F
      refine t_endM M ?_; (clear M; try clear w); intro w M
      refine wp_ret ?_
      refine ret1 F rfl rfl ?_
      -- end 2
      refine ⟨_, rfl, ?_, M.chg⟩
      rw [take_all (by omega)] at ha
      rw [if_pos ⟨by omega, ha⟩]

theorem c38y {l : List Wrd} {v : Value} (w0 : World) (h : few l) (hr : RdSl w0.heap v l.length 5 (l.flatMap encW)) : Cl Try.prog 38 #[v] w0 (RetQ w0 fun r => r = .int .i64 1) := (c38 l v w0 hr).monoQ fun v hv => by rw [hv, if_pos h]
theorem c38n {l : List Wrd} {v : Value} (w0 : World) (h : ¬ few l) (hr : RdSl w0.heap v l.length 5 (l.flatMap encW)) : Cl Try.prog 38 #[v] w0 (RetQ w0 fun r => r = .int .i64 0) := (c38 l v w0 hr).monoQ fun v hv => by rw [hv, if_neg h]

set_option maxRecDepth 100000 in
set_option maxHeartbeats 400000 in
theorem law7 (n h r : Int) (w0 : World) : Cl Try.prog 7 #[.int .i64 n, .int .i64 h, .int .i64 r] w0 (RetQ w0 fun v => v = .bool true) := by
  have M : Sep (fun _ => False) w0 w0 _ := Sep.nil _ w0
  refine enter (vs := [_, _, _]) Try.func7 rfl rfl rfl ?_
  intro a F
  refine wp_seq ?_
  refine wp_region_l [.ind] ([0]) rfl ?_
  refine s_I F rfl rfl rfl rfl rfl rfl ?_; clear F a; intro a F
  refine t_endM M ?_; (clear M; try clear w); intro w M
  refine wp_seq ?_
  refine wp_region_l [.ind, .ind, .ind, .wr, .ind] ([0, 1, 2, 3, 4]) rfl ?_
  refine s_I F rfl rfl rfl rfl rfl rfl ?_; clear F a; intro a F
  refine s_I F rfl rfl rfl rfl rfl rfl ?_; clear F a; intro a F
  refine s_I F rfl rfl rfl rfl rfl rfl ?_; clear F a; intro a F
  refine s_cq F M rfl rfl rfl rfl rfl (rfl : _ = some [_, _, _]) cb_35_A10 (fun nd_ => c35 _ _ _ _) ?_; (clear F a M; try clear w); rintro v w rfl M a F
  refine s_I F rfl rfl rfl rfl rfl rfl ?_; clear F a; intro a F
  refine t_endM M ?_; (clear M; try clear w); intro w M
  refine wp_seq ?_
  refine wp_seq ?_
  replace F := F.keep [0, 1, 2, 6, 7] rfl
  refine wp_region_l [.ind, .ind, .ind, .ind, .wr, .ind] ([0, 1, 2, 3, 4, 5]) rfl ?_
  refine s_I F rfl rfl rfl rfl rfl rfl ?_; clear F a; intro a F
  refine s_I F rfl rfl rfl rfl rfl rfl ?_; clear F a; intro a F
  refine s_I F rfl rfl rfl rfl rfl rfl ?_; clear F a; intro a F
  refine s_I F rfl rfl rfl rfl rfl rfl ?_; clear F a; intro a F
  refine s_cq F M rfl rfl rfl rfl rfl (rfl : _ = some [_, _, _]) cb_36_A10 (fun nd_ => c36 _ _ _ _) ?_; (clear F a M; try clear w); rintro v w rfl M a F
  refine s_bin F rfl rfl rfl rfl rfl rfl rfl ?_; clear F a; intro a F
  refine t_endM M ?_; (clear M; try clear w); intro w M
  refine c_if F rfl ?_ ?_
  ·
    clear F; intro hc0 F
    try rw [hc0] at F
    replace hc0 := nd1 hc0
    exact absurd rfl hc0
  ·
    clear F; intro hc1 F
    try rw [hc1] at F
    replace hc1 := nd0 hc1
    refine wp_skip ?_
    refine wp_seq ?_
    refine wp_seq ?_
    replace F := F.keep [0, 1, 2, 6, 7] rfl
    refine wp_region_l [.ind, .ind, .ind, .ind, .ind, .ind] ([0, 1, 2, 3, 4, 5]) rfl ?_
    refine s_I F rfl rfl rfl rfl rfl rfl ?_; clear F a; intro a F
    refine s_bin F rfl rfl rfl rfl rfl rfl rfl ?_; clear F a; intro a F
    refine s_I F rfl rfl rfl rfl rfl rfl ?_; clear F a; intro a F
    refine bsplit F 20 rfl ?_ ?_
    ·
      clear F; intro hc2 F
      try rw [hc2] at F
      replace hc2 := of_decide_eq_true hc2
      refine s_no F rfl rfl rfl rfl ?_; clear F a; intro a F
      refine s_no F rfl rfl rfl rfl ?_; clear F a; intro a F
      refine s_I F rfl rfl rfl rfl rfl rfl ?_; clear F a; intro a F
      refine t_endM M ?_; (clear M; try clear w); intro w M
      refine c_t F rfl ?_
      refine wp_seq ?_
      replace F := F.keep [0, 1, 2, 6, 7] rfl
      refine wp_region_l [.wr, .ind] ([0, 1]) rfl ?_
      refine s_cq F M rfl rfl rfl rfl rfl (rfl : _ = some []) cb_37_A10 (fun nd_ => c37 _) ?_; (clear F a M; try clear w); rintro v w rfl M a F
      refine s_I F rfl rfl rfl rfl rfl rfl ?_; clear F a; intro a F
      refine t_endM M ?_; (clear M; try clear w); intro w M
      refine wp_ret ?_
      refine ret1 F rfl rfl ?_
      -- end 0
      exact ⟨_, rfl, rfl, M.chg⟩
    ·
      clear F; intro hc3 F
      try rw [hc3] at F
      replace hc3 := of_decide_eq_false hc3
      refine s_I F rfl rfl rfl rfl rfl rfl ?_; clear F a; intro a F
      refine s_bin F rfl rfl rfl rfl rfl rfl rfl ?_; clear F a; intro a F
      refine s_I F rfl rfl rfl rfl rfl rfl ?_; clear F a; intro a F
      refine t_endM M ?_; (clear M; try clear w); intro w M
      refine c_if F rfl ?_ ?_
      ·
        clear F; intro hc4 F
        try rw [hc4] at F
        replace hc4 := of_decide_eq_true hc4
        refine wp_seq ?_
        replace F := F.keep [0, 1, 2, 6, 7] rfl
        refine wp_region_l [.wr, .ind] ([0, 1]) rfl ?_
        refine s_cq F M rfl rfl rfl rfl rfl (rfl : _ = some []) cb_37_A10 (fun nd_ => c37 _) ?_; (clear F a M; try clear w); rintro v w rfl M a F
        refine s_I F rfl rfl rfl rfl rfl rfl ?_; clear F a; intro a F
        refine t_endM M ?_; (clear M; try clear w); intro w M
        refine wp_ret ?_
        refine ret1 F rfl rfl ?_
        -- end 1
        exact ⟨_, rfl, rfl, M.chg⟩
      ·
        clear F; intro hc5 F
        try rw [hc5] at F
        replace hc5 := of_decide_eq_false hc5
        refine wp_skip ?_
        refine wp_seq ?_
        obtain ⟨s1, s2, s3, s4, s5, s6⟩ := leader_spec (by assumption)
        have hln := leader_next (by assumption) (by assumption)
        obtain ⟨q1, q2⟩ := leader_le (n := n) (h := h) (r := r)
        obtain ⟨q3, q4⟩ := leader_le (n := n) (h := h) (r := r + 1)
        replace F := F.keep [0, 1, 2, 6, 7] rfl
        refine wp_region_t [.ind, .ind, .ind, .ind, .wr, .ind, .ind, .ind, .ind, .ind, .ind, .wr, .ind, .ind] [] (otOf [0, 1, 2, 3, 5, 6, 7, 8, 4, 9, 10, 11, 12, 13]) mixed (by kernel_rfl) ?_
        refine s_I F rfl rfl rfl rfl rfl rfl ?_; clear F a; intro a F
        refine s_I F rfl rfl rfl rfl rfl rfl ?_; clear F a; intro a F
        refine s_I F rfl rfl rfl rfl rfl rfl ?_; clear F a; intro a F
        refine s_add F rfl rfl rfl rfl rfl rfl (by unfold In64; omega) ?_; clear F a; intro a F
        refine s_I F rfl rfl rfl rfl rfl rfl ?_; clear F a; intro a F
        refine s_I F rfl rfl rfl rfl rfl rfl ?_; clear F a; intro a F
        refine s_rem F rfl rfl rfl rfl rfl rfl (by omega) ?_; clear F a; intro a F
        rw [Int.tmod_eq_emod_of_nonneg (by omega)] at F
        refine s_add F rfl rfl rfl rfl rfl rfl (by unfold In64; omega) ?_; clear F a; intro a F
        refine s_cq F M rfl rfl rfl rfl rfl (rfl : _ = some [_, _, _]) cb_35_A10 (fun nd_ => c35 _ _ _ _) ?_; (clear F a M; try clear w); rintro v w rfl M a F
        refine s_bin F rfl rfl rfl rfl rfl rfl rfl ?_; clear F a; intro a F
        rw [decide_eq_true hln] at F
        refine s_I F rfl rfl rfl rfl rfl rfl ?_; clear F a; intro a F
        refine s_cq F M rfl rfl rfl rfl rfl (rfl : _ = some []) cb_37_A10 (fun nd_ => c37 _) ?_; (clear F a M; try clear w); rintro v w rfl M a F
        refine s_I F rfl rfl rfl rfl rfl rfl ?_; clear F a; intro a F
        refine s_I F rfl rfl rfl rfl rfl rfl ?_; clear F a; intro a F
        refine t_endM M ?_; (clear M; try clear w); intro w M
        refine wp_ret ?_
        refine ret1 F rfl rfl ?_
        -- end 2
        exact ⟨_, rfl, rfl, M.chg⟩
set_option maxRecDepth 100000 in
set_option maxHeartbeats 400000 in
theorem law11 (q : Wrd) (w0 : World) : Cl Try.prog 11 #[wrdV q] w0 (RetQ w0 fun v => v = .bool true) := by
  have M : Sep (fun _ => False) w0 w0 _ := Sep.nil _ w0
  refine enter (vs := [_]) Try.func11 rfl rfl rfl ?_
  intro a F
  refine wp_seq ?_
  refine wp_region_l [.wr, .ind] ([0, 1]) rfl ?_
  refine s_bxA F M rfl rfl rfl rfl rfl ?_; (clear F a M; try clear w); intro b1 w M a F
  refine s_I F rfl rfl rfl rfl rfl rfl ?_; clear F a; intro a F
  refine t_endM M ?_; (clear M; try clear w); intro w M
  refine wp_seq ?_
  refine wp_region_l [.ind] ([0]) rfl ?_
  refine s_I F rfl rfl rfl rfl rfl rfl ?_; clear F a; intro a F
  refine t_endM M ?_; (clear M; try clear w); intro w M
  refine wp_seq ?_
  refine wp_region_l [.ind, .wr, .ind, .ind, .ind, .ind, .ind] ([0, 1, 2, 3, 4, 5, 6]) rfl ?_
  refine s_I F rfl rfl rfl rfl rfl rfl ?_; clear F a; intro a F
  refine s_cq F M rfl rfl rfl rfl rfl (rfl : _ = some [_]) cb_48_A10 (fun nd_ => c48n _) ?_; (clear F a M; try clear w); rintro v w rfl M a F
  refine s_I F rfl rfl rfl rfl rfl rfl ?_; clear F a; intro a F
  refine s_I F rfl rfl rfl rfl rfl rfl ?_; clear F a; intro a F
  refine s_I F rfl rfl rfl rfl rfl rfl ?_; clear F a; intro a F
  refine s_I F rfl rfl rfl rfl rfl rfl ?_; clear F a; intro a F
  refine s_I F rfl rfl rfl rfl rfl rfl ?_; clear F a; intro a F
  refine t_endM M ?_; (clear M; try clear w); intro w M
  refine wp_seq ?_
  replace F := F.keep [0, 1, 2, 3, 4, 5] rfl
  refine wp_region_l [.ind, .wr, .ind, .ind, .ind, .ind, .ind] ([0, 1, 2, 3, 4, 5, 6]) rfl ?_
  refine s_I F rfl rfl rfl rfl rfl rfl ?_; clear F a; intro a F
  refine s_cq F M rfl rfl rfl rfl rfl (rfl : _ = some [_]) cb_46_A10 (fun nd_ => c46n _) ?_; (clear F a M; try clear w); rintro v w rfl M a F
  refine s_I F rfl rfl rfl rfl rfl rfl ?_; clear F a; intro a F
  refine s_I F rfl rfl rfl rfl rfl rfl ?_; clear F a; intro a F
  refine s_I F rfl rfl rfl rfl rfl rfl ?_; clear F a; intro a F
  refine s_I F rfl rfl rfl rfl rfl rfl ?_; clear F a; intro a F
  refine s_I F rfl rfl rfl rfl rfl rfl ?_; clear F a; intro a F
  refine t_endM M ?_; (clear M; try clear w); intro w M
  refine wp_seq ?_
  replace F := F.keep [0, 1, 2, 3, 4, 5, 6, 7] rfl
  refine wp_region_l [.ind, .wr, .ind, .ind, .ind, .ind, .ind] ([0, 1, 2, 3, 4, 5, 6]) rfl ?_
  refine s_I F rfl rfl rfl rfl rfl rfl ?_; clear F a; intro a F
  refine s_cq F M rfl rfl rfl rfl rfl (rfl : _ = some [_]) cb_47_A10 (fun nd_ => c47n _) ?_; (clear F a M; try clear w); rintro v w rfl M a F
  refine s_I F rfl rfl rfl rfl rfl rfl ?_; clear F a; intro a F
  refine s_I F rfl rfl rfl rfl rfl rfl ?_; clear F a; intro a F
  refine s_I F rfl rfl rfl rfl rfl rfl ?_; clear F a; intro a F
  refine s_I F rfl rfl rfl rfl rfl rfl ?_; clear F a; intro a F
  refine s_I F rfl rfl rfl rfl rfl rfl ?_; clear F a; intro a F
  refine t_endM M ?_; (clear M; try clear w); intro w M
  refine wp_seq ?_
  replace F := F.keep [0, 1, 2, 3, 4, 5, 6, 7, 8, 9] rfl
  refine wp_region_l [.ind, .wr, .ind, .ind, .ind, .ind, .rd, .wr, .ind, .ind, .ind, .ind, .ind, .ind, .ind, .ind, .ind, .ind, .ind, .ind, .ind, .ind, .ind, .ind, .ind, .ind, .ind, .ind, .ind, .ind, .ind, .ind, .ind, .ind, .ind, .ind, .wr, .ind, .ind] ([0, 1, 2, 3, 4, 5, 6, 7, 8, 9, 10, 11, 12, 13, 14, 15, 16, 17, 18, 19, 20, 21, 22, 23, 24, 25, 26, 27, 28, 29, 30, 31, 32, 33, 34, 35, 36, 37, 38]) rfl ?_
  refine s_I F rfl rfl rfl rfl rfl rfl ?_; clear F a; intro a F
  refine s_cq F M rfl rfl rfl rfl rfl (rfl : _ = some [_]) cb_44_A10 (fun nd_ => c44n _) ?_; (clear F a M; try clear w); rintro v w rfl M a F
  refine s_len F rfl rfl rfl rfl sl_22_A10 rfl ?_; clear F a; intro a F
  refine s_bin F rfl rfl rfl rfl rfl rfl rfl ?_; clear F a; intro a F
  replace F : Fr _ _ ((28, Value.bool true) :: _) := F
  refine s_I F rfl rfl rfl rfl rfl rfl ?_; clear F a; intro a F
  refine s_I F rfl rfl rfl rfl rfl rfl ?_; clear F a; intro a F
  refine s_lda F rfl rfl rfl rfl ag_32_A10 rfl rfl (cells_whole M.h0) ?_; clear F a; intro a F
  refine s_cq F M rfl rfl rfl rfl rfl (rfl : _ = some [_, _]) cb_41_A10 (fun nd_ => c41n q _) ?_; (clear F a M; try clear w); rintro v w rfl M a F
  refine s_len F rfl rfl rfl rfl sl_22_A10 rfl ?_; clear F a; intro a F
  refine s_bin F rfl rfl rfl rfl rfl rfl rfl ?_; clear F a; intro a F
  replace F : Fr _ _ ((34, Value.bool true) :: _) := F
  refine s_I F rfl rfl rfl rfl rfl rfl ?_; clear F a; intro a F
  refine s_I F rfl rfl rfl rfl rfl rfl ?_; clear F a; intro a F
  refine s_I F rfl rfl rfl rfl rfl rfl ?_; clear F a; intro a F
  refine s_bin F rfl rfl rfl rfl rfl rfl rfl ?_; clear F a; intro a F
  replace F : Fr _ _ ((38, Value.bool true) :: _) := F
  refine s_I F rfl rfl rfl rfl rfl rfl ?_; clear F a; intro a F
  refine s_I F rfl rfl rfl rfl rfl rfl ?_; clear F a; intro a F
  refine s_I F rfl rfl rfl rfl rfl rfl ?_; clear F a; intro a F
  refine s_I F rfl rfl rfl rfl rfl rfl ?_; clear F a; intro a F
  replace F : Fr _ _ ((42, Value.bool true) :: _) := F
  refine s_I F rfl rfl rfl rfl rfl rfl ?_; clear F a; intro a F
  refine s_I F rfl rfl rfl rfl rfl rfl ?_; clear F a; intro a F
  refine s_I F rfl rfl rfl rfl rfl rfl ?_; clear F a; intro a F
  refine s_bin F rfl rfl rfl rfl rfl rfl rfl ?_; clear F a; intro a F
  replace F : Fr _ _ ((46, Value.bool true) :: _) := F
  refine s_I F rfl rfl rfl rfl rfl rfl ?_; clear F a; intro a F
  refine s_I F rfl rfl rfl rfl rfl rfl ?_; clear F a; intro a F
  refine s_I F rfl rfl rfl rfl rfl rfl ?_; clear F a; intro a F
  refine s_bin F rfl rfl rfl rfl rfl rfl rfl ?_; clear F a; intro a F
  replace F : Fr _ _ ((50, Value.bool true) :: _) := F
  refine s_I F rfl rfl rfl rfl rfl rfl ?_; clear F a; intro a F
  refine s_I F rfl rfl rfl rfl rfl rfl ?_; clear F a; intro a F
  refine s_I F rfl rfl rfl rfl rfl rfl ?_; clear F a; intro a F
  refine s_bin F rfl rfl rfl rfl rfl rfl rfl ?_; clear F a; intro a F
  replace F : Fr _ _ ((54, Value.bool true) :: _) := F
  refine s_I F rfl rfl rfl rfl rfl rfl ?_; clear F a; intro a F
  refine s_I F rfl rfl rfl rfl rfl rfl ?_; clear F a; intro a F
  refine s_I F rfl rfl rfl rfl rfl rfl ?_; clear F a; intro a F
  refine s_bin F rfl rfl rfl rfl rfl rfl rfl ?_; clear F a; intro a F
  replace F : Fr _ _ ((58, Value.bool true) :: _) := F
  refine s_I F rfl rfl rfl rfl rfl rfl ?_; clear F a; intro a F
  refine s_I F rfl rfl rfl rfl rfl rfl ?_; clear F a; intro a F
  refine s_cq F M rfl rfl rfl rfl rfl (rfl : _ = some []) cb_37_A10 (fun nd_ => c37 _) ?_; (clear F a M; try clear w); rintro v w rfl M a F
  refine s_I F rfl rfl rfl rfl rfl rfl ?_; clear F a; intro a F
  refine s_I F rfl rfl rfl rfl rfl rfl ?_; clear F a; intro a F
  refine t_endM M ?_; (clear M; try clear w); intro w M
  refine wp_ret ?_
  refine ret1 F rfl rfl ?_
  -- end 0
  exact ⟨_, rfl, rfl, M.chg⟩
set_option maxRecDepth 100000 in
set_option maxHeartbeats 400000 in
theorem law9a (n t me h : Int) (s : ByteArray) (l : List Wrd) (v : Value) (w0 : World) (hr : RdSl w0.heap v l.length 5 (l.flatMap encW)) (hf : ¬ few l) : Cl Try.prog 9 #[.agg #[.int .i64 n, .int .i64 t, .int .i64 me, .int .i64 h, .string s], v] w0 (RetQ w0 fun v => v = .bool true) := by
  have M : Sep (fun _ => False) w0 w0 _ := Sep.nil _ w0
  have hro := (ro_of hr)
  obtain ⟨A, cc, rfl, hcc⟩ := hr.form
  refine enter (vs := [_, _]) Try.func9 rfl rfl rfl ?_
  intro a F
  refine wp_seq ?_
  refine wp_region_l [.wr, .ind] ([0, 1]) rfl ?_
  refine s_bxA F M rfl rfl rfl rfl rfl ?_; (clear F a M; try clear w); intro b2 w M a F
  refine s_I F rfl rfl rfl rfl rfl rfl ?_; clear F a; intro a F
  refine t_endM M ?_; (clear M; try clear w); intro w M
  refine wp_seq ?_
  refine wp_seq ?_
  refine wp_region_l [.ind, .wr, .ind, .ind, .ind, .rd, .ind, .ind, .ind] ([0, 1, 2, 3, 4, 5, 6, 7, 8]) rfl ?_
  refine s_I F rfl rfl rfl rfl rfl rfl ?_; clear F a; intro a F
  refine s_cq F M rfl rfl rfl rfl rfl (rfl : _ = some [_]) cb_38_A10 (fun nd_ => c38n _ hf (M.chg.ro hro)) ?_; (clear F a M; try clear w); rintro v w rfl M a F
  refine s_bin F rfl rfl rfl rfl rfl rfl rfl ?_; clear F a; intro a F
  replace F : Fr _ _ ((12, Value.bool true) :: _) := F
  refine s_I F rfl rfl rfl rfl rfl rfl ?_; clear F a; intro a F
  refine s_no F rfl rfl rfl rfl ?_; clear F a; intro a F
  refine s_no F rfl rfl rfl rfl ?_; clear F a; intro a F
  refine s_no F rfl rfl rfl rfl ?_; clear F a; intro a F
  refine s_no F rfl rfl rfl rfl ?_; clear F a; intro a F
  refine s_I F rfl rfl rfl rfl rfl rfl ?_; clear F a; intro a F
  refine t_endM M ?_; (clear M; try clear w); intro w M
  refine c_t F rfl ?_
  refine wp_seq ?_
  replace F := F.keep [0, 1, 2, 4] rfl
  refine wp_region_l [.wr, .ind] ([0, 1]) rfl ?_
  refine s_cq F M rfl rfl rfl rfl rfl (rfl : _ = some []) cb_37_A10 (fun nd_ => c37 _) ?_; (clear F a M; try clear w); rintro v w rfl M a F
  refine s_I F rfl rfl rfl rfl rfl rfl ?_; clear F a; intro a F
  refine t_endM M ?_; (clear M; try clear w); intro w M
  refine wp_ret ?_
  refine ret1 F rfl rfl ?_
  -- end 0
  exact ⟨_, rfl, rfl, M.chg⟩
set_option maxRecDepth 100000 in
set_option maxHeartbeats 400000 in
theorem law9b (n t me h : Int) (s : ByteArray) (l : List Wrd) (v : Value) (w0 : World) (hr : RdSl w0.heap v l.length 5 (l.flatMap encW)) (hf : few l) (hs : 5000 < s.size) : Cl Try.prog 9 #[.agg #[.int .i64 n, .int .i64 t, .int .i64 me, .int .i64 h, .string s], v] w0 (RetQ w0 fun v => v = .bool true) := by
  have M : Sep (fun _ => False) w0 w0 _ := Sep.nil _ w0
  have hro := (ro_of hr)
  obtain ⟨A, cc, rfl, hcc⟩ := hr.form
  refine enter (vs := [_, _]) Try.func9 rfl rfl rfl ?_
  intro a F
  refine wp_seq ?_
  refine wp_region_l [.wr, .ind] ([0, 1]) rfl ?_
  refine s_bxA F M rfl rfl rfl rfl rfl ?_; (clear F a M; try clear w); intro b2 w M a F
  refine s_I F rfl rfl rfl rfl rfl rfl ?_; clear F a; intro a F
  refine t_endM M ?_; (clear M; try clear w); intro w M
  refine wp_seq ?_
  refine wp_seq ?_
  refine wp_region_l [.ind, .wr, .ind, .ind, .ind, .rd, .ind, .ind, .ind] ([0, 1, 2, 3, 4, 5, 6, 7, 8]) rfl ?_
  refine s_I F rfl rfl rfl rfl rfl rfl ?_; clear F a; intro a F
  refine s_cq F M rfl rfl rfl rfl rfl (rfl : _ = some [_]) cb_38_A10 (fun nd_ => c38y _ hf (M.chg.ro hro)) ?_; (clear F a M; try clear w); rintro v w rfl M a F
  refine s_bin F rfl rfl rfl rfl rfl rfl rfl ?_; clear F a; intro a F
  replace F : Fr _ _ ((12, Value.bool false) :: _) := F
  refine s_I F rfl rfl rfl rfl rfl rfl ?_; clear F a; intro a F
  refine s_fa0 F rfl rfl rfl rfl fa_48_4_A10 rfl ?_; clear F a; intro a F
  refine s_ld F rfl rfl rfl rfl sc_9_A10 rfl (by exact cell_of_blk M.h0 (lit rfl)) ?_; clear F a; intro a F
  refine s_lenS F rfl rfl rfl rfl st_9_A10 rfl ?_; clear F a; intro a F
  refine s_bin F rfl rfl rfl rfl rfl rfl rfl ?_; clear F a; intro a F
  refine s_I F rfl rfl rfl rfl rfl rfl ?_; clear F a; intro a F
  refine t_endM M ?_; (clear M; try clear w); intro w M
  refine c_if F rfl ?_ ?_
  ·
    clear F; intro hc0 F
    try rw [hc0] at F
    replace hc0 := of_decide_eq_true hc0
    refine wp_seq ?_
    replace F := F.keep [0, 1, 2, 4] rfl
    refine wp_region_l [.wr, .ind] ([0, 1]) rfl ?_
    refine s_cq F M rfl rfl rfl rfl rfl (rfl : _ = some []) cb_37_A10 (fun nd_ => c37 _) ?_; (clear F a M; try clear w); rintro v w rfl M a F
    refine s_I F rfl rfl rfl rfl rfl rfl ?_; clear F a; intro a F
    refine t_endM M ?_; (clear M; try clear w); intro w M
    refine wp_ret ?_
    refine ret1 F rfl rfl ?_
    -- end 0
    exact ⟨_, rfl, rfl, M.chg⟩
  ·
    clear F; intro hc1 F
    try rw [hc1] at F
    replace hc1 := of_decide_eq_false hc1
    exfalso
    omega
set_option maxRecDepth 100000 in
set_option maxHeartbeats 400000 in
theorem law9c (n t me h : Int) (s : ByteArray) (l : List Wrd) (v : Value) (w0 : World) (hr : RdSl w0.heap v l.length 5 (l.flatMap encW)) (hf : few l) (hs : s.size ≤ 5000) (hk : okA n t me h s = false) : Cl Try.prog 9 #[.agg #[.int .i64 n, .int .i64 t, .int .i64 me, .int .i64 h, .string s], v] w0 (RetQ w0 fun v => v = .bool true) := by
  have M : Sep (fun _ => False) w0 w0 _ := Sep.nil _ w0
  have hro := (ro_of hr)
  obtain ⟨A, cc, rfl, hcc⟩ := hr.form
  refine enter (vs := [_, _]) Try.func9 rfl rfl rfl ?_
  intro a F
  refine wp_seq ?_
  refine wp_region_l [.wr, .ind] ([0, 1]) rfl ?_
  refine s_bxA F M rfl rfl rfl rfl rfl ?_; (clear F a M; try clear w); intro b2 w M a F
  refine s_I F rfl rfl rfl rfl rfl rfl ?_; clear F a; intro a F
  refine t_endM M ?_; (clear M; try clear w); intro w M
  refine wp_seq ?_
  refine wp_seq ?_
  refine wp_region_l [.ind, .wr, .ind, .ind, .ind, .rd, .ind, .ind, .ind] ([0, 1, 2, 3, 4, 5, 6, 7, 8]) rfl ?_
  refine s_I F rfl rfl rfl rfl rfl rfl ?_; clear F a; intro a F
  refine s_cq F M rfl rfl rfl rfl rfl (rfl : _ = some [_]) cb_38_A10 (fun nd_ => c38y _ hf (M.chg.ro hro)) ?_; (clear F a M; try clear w); rintro v w rfl M a F
  refine s_bin F rfl rfl rfl rfl rfl rfl rfl ?_; clear F a; intro a F
  replace F : Fr _ _ ((12, Value.bool false) :: _) := F
  refine s_I F rfl rfl rfl rfl rfl rfl ?_; clear F a; intro a F
  refine s_fa0 F rfl rfl rfl rfl fa_48_4_A10 rfl ?_; clear F a; intro a F
  refine s_ld F rfl rfl rfl rfl sc_9_A10 rfl (by exact cell_of_blk M.h0 (lit rfl)) ?_; clear F a; intro a F
  refine s_lenS F rfl rfl rfl rfl st_9_A10 rfl ?_; clear F a; intro a F
  refine s_bin F rfl rfl rfl rfl rfl rfl rfl ?_; clear F a; intro a F
  refine s_I F rfl rfl rfl rfl rfl rfl ?_; clear F a; intro a F
  refine t_endM M ?_; (clear M; try clear w); intro w M
  refine c_if F rfl ?_ ?_
  ·
    clear F; intro hc0 F
    try rw [hc0] at F
    replace hc0 := of_decide_eq_true hc0
    exfalso
    omega
  ·
    clear F; intro hc1 F
    try rw [hc1] at F
    replace hc1 := of_decide_eq_false hc1
    refine wp_skip ?_
    refine wp_seq ?_
    replace F := F.keep [0, 1, 2, 4] rfl
    refine wp_region_l [.ind, .rd, .ind, .rd, .ind, .rd, .ind, .rd, .ind, .rd, .wr, .ind] ([0, 1, 2, 3, 4, 5, 6, 7, 8, 9, 10, 11]) rfl ?_
    refine s_fa0 F rfl rfl rfl rfl fa_48_0_A10 rfl ?_; clear F a; intro a F
    refine s_ld F rfl rfl rfl rfl sc_3_A10 rfl (by exact cell_of_blk M.h0 (lit rfl)) ?_; clear F a; intro a F
    refine s_fa0 F rfl rfl rfl rfl fa_48_1_A10 rfl ?_; clear F a; intro a F
    refine s_ld F rfl rfl rfl rfl sc_3_A10 rfl (by exact cell_of_blk M.h0 (lit rfl)) ?_; clear F a; intro a F
    refine s_fa0 F rfl rfl rfl rfl fa_48_2_A10 rfl ?_; clear F a; intro a F
    refine s_ld F rfl rfl rfl rfl sc_3_A10 rfl (by exact cell_of_blk M.h0 (lit rfl)) ?_; clear F a; intro a F
    refine s_fa0 F rfl rfl rfl rfl fa_48_3_A10 rfl ?_; clear F a; intro a F
    refine s_ld F rfl rfl rfl rfl sc_3_A10 rfl (by exact cell_of_blk M.h0 (lit rfl)) ?_; clear F a; intro a F
    refine s_fa0 F rfl rfl rfl rfl fa_48_4_A10 rfl ?_; clear F a; intro a F
    refine s_ld F rfl rfl rfl rfl sc_9_A10 rfl (by exact cell_of_blk M.h0 (lit rfl)) ?_; clear F a; intro a F
    refine s_cq F M rfl rfl rfl rfl rfl (rfl : _ = some [_, _, _, _, _]) cb_39_A10 (fun nd_ => c39n n t me h s hk _) ?_; (clear F a M; try clear w); rintro v w rfl M a F
    refine s_I F rfl rfl rfl rfl rfl rfl ?_; clear F a; intro a F
    refine t_endM M ?_; (clear M; try clear w); intro w M
    refine wp_seq ?_
    refine wp_seq ?_
    replace F := F.keep [0, 1, 2, 4, 5] rfl
    refine wp_region_l [.ind, .ind] ([0, 1]) rfl ?_
    refine s_I F rfl rfl rfl rfl rfl rfl ?_; clear F a; intro a F
    refine s_pn F rfl rfl rfl rfl pt_50_A10 rfl ?_; clear F a; intro a F
    replace F : Fr _ _ ((32, Value.bool true) :: _) := F
    refine t_endM M ?_; (clear M; try clear w); intro w M
    refine c_t F rfl ?_
    refine wp_seq ?_
    replace F := F.keep [0, 1, 2, 4, 5] rfl
    refine wp_region_l [.wr, .ind] ([0, 1]) rfl ?_
    refine s_cq F M rfl rfl rfl rfl rfl (rfl : _ = some []) cb_37_A10 (fun nd_ => c37 _) ?_; (clear F a M; try clear w); rintro v w rfl M a F
    refine s_I F rfl rfl rfl rfl rfl rfl ?_; clear F a; intro a F
    refine t_endM M ?_; (clear M; try clear w); intro w M
    refine wp_ret ?_
    refine ret1 F rfl rfl ?_
    -- end 0
    exact ⟨_, rfl, rfl, M.chg⟩
set_option maxRecDepth 100000 in
set_option maxHeartbeats 400000 in
theorem law10a (n t me h : Int) (s : ByteArray) (l : List Wrd) (v : Value) (w0 : World) (hr : RdSl w0.heap v l.length 5 (l.flatMap encW)) (hf : ¬ few l) : Cl Try.prog 10 #[.agg #[.int .i64 n, .int .i64 t, .int .i64 me, .int .i64 h, .string s], v] w0 (RetQ w0 fun v => v = .bool true) := by
  have M : Sep (fun _ => False) w0 w0 _ := Sep.nil _ w0
  have hro := (ro_of hr)
  obtain ⟨A, cc, rfl, hcc⟩ := hr.form
  refine enter (vs := [_, _]) Try.func10 rfl rfl rfl ?_
  intro a F
  refine wp_seq ?_
  refine wp_region_l [.wr, .ind] ([0, 1]) rfl ?_
  refine s_bxA F M rfl rfl rfl rfl rfl ?_; (clear F a M; try clear w); intro b2 w M a F
  refine s_I F rfl rfl rfl rfl rfl rfl ?_; clear F a; intro a F
  refine t_endM M ?_; (clear M; try clear w); intro w M
  refine wp_seq ?_
  refine wp_seq ?_
  refine wp_region_l [.ind, .wr, .ind, .ind, .ind, .rd, .ind, .ind, .ind] ([0, 1, 2, 3, 4, 5, 6, 7, 8]) rfl ?_
  refine s_I F rfl rfl rfl rfl rfl rfl ?_; clear F a; intro a F
  refine s_cq F M rfl rfl rfl rfl rfl (rfl : _ = some [_]) cb_38_A10 (fun nd_ => c38n _ hf (M.chg.ro hro)) ?_; (clear F a M; try clear w); rintro v w rfl M a F
  refine s_bin F rfl rfl rfl rfl rfl rfl rfl ?_; clear F a; intro a F
  replace F : Fr _ _ ((17, Value.bool true) :: _) := F
  refine s_I F rfl rfl rfl rfl rfl rfl ?_; clear F a; intro a F
  refine s_no F rfl rfl rfl rfl ?_; clear F a; intro a F
  refine s_no F rfl rfl rfl rfl ?_; clear F a; intro a F
  refine s_no F rfl rfl rfl rfl ?_; clear F a; intro a F
  refine s_no F rfl rfl rfl rfl ?_; clear F a; intro a F
  refine s_I F rfl rfl rfl rfl rfl rfl ?_; clear F a; intro a F
  refine t_endM M ?_; (clear M; try clear w); intro w M
  refine c_t F rfl ?_
  refine wp_seq ?_
  replace F := F.keep [0, 1, 2, 4] rfl
  refine wp_region_l [.wr, .ind] ([0, 1]) rfl ?_
  refine s_cq F M rfl rfl rfl rfl rfl (rfl : _ = some []) cb_37_A10 (fun nd_ => c37 _) ?_; (clear F a M; try clear w); rintro v w rfl M a F
  refine s_I F rfl rfl rfl rfl rfl rfl ?_; clear F a; intro a F
  refine t_endM M ?_; (clear M; try clear w); intro w M
  refine wp_ret ?_
  refine ret1 F rfl rfl ?_
  -- end 0
  exact ⟨_, rfl, rfl, M.chg⟩
set_option maxRecDepth 100000 in
set_option maxHeartbeats 400000 in
theorem law10b (n t me h : Int) (s : ByteArray) (l : List Wrd) (v : Value) (w0 : World) (hr : RdSl w0.heap v l.length 5 (l.flatMap encW)) (hf : few l) (hs : 5000 < s.size) : Cl Try.prog 10 #[.agg #[.int .i64 n, .int .i64 t, .int .i64 me, .int .i64 h, .string s], v] w0 (RetQ w0 fun v => v = .bool true) := by
  have M : Sep (fun _ => False) w0 w0 _ := Sep.nil _ w0
  have hro := (ro_of hr)
  obtain ⟨A, cc, rfl, hcc⟩ := hr.form
  refine enter (vs := [_, _]) Try.func10 rfl rfl rfl ?_
  intro a F
  refine wp_seq ?_
  refine wp_region_l [.wr, .ind] ([0, 1]) rfl ?_
  refine s_bxA F M rfl rfl rfl rfl rfl ?_; (clear F a M; try clear w); intro b2 w M a F
  refine s_I F rfl rfl rfl rfl rfl rfl ?_; clear F a; intro a F
  refine t_endM M ?_; (clear M; try clear w); intro w M
  refine wp_seq ?_
  refine wp_seq ?_
  refine wp_region_l [.ind, .wr, .ind, .ind, .ind, .rd, .ind, .ind, .ind] ([0, 1, 2, 3, 4, 5, 6, 7, 8]) rfl ?_
  refine s_I F rfl rfl rfl rfl rfl rfl ?_; clear F a; intro a F
  refine s_cq F M rfl rfl rfl rfl rfl (rfl : _ = some [_]) cb_38_A10 (fun nd_ => c38y _ hf (M.chg.ro hro)) ?_; (clear F a M; try clear w); rintro v w rfl M a F
  refine s_bin F rfl rfl rfl rfl rfl rfl rfl ?_; clear F a; intro a F
  replace F : Fr _ _ ((17, Value.bool false) :: _) := F
  refine s_I F rfl rfl rfl rfl rfl rfl ?_; clear F a; intro a F
  refine s_fa0 F rfl rfl rfl rfl fa_48_4_A10 rfl ?_; clear F a; intro a F
  refine s_ld F rfl rfl rfl rfl sc_9_A10 rfl (by exact cell_of_blk M.h0 (lit rfl)) ?_; clear F a; intro a F
  refine s_lenS F rfl rfl rfl rfl st_9_A10 rfl ?_; clear F a; intro a F
  refine s_bin F rfl rfl rfl rfl rfl rfl rfl ?_; clear F a; intro a F
  refine s_I F rfl rfl rfl rfl rfl rfl ?_; clear F a; intro a F
  refine t_endM M ?_; (clear M; try clear w); intro w M
  refine c_if F rfl ?_ ?_
  ·
    clear F; intro hc0 F
    try rw [hc0] at F
    replace hc0 := of_decide_eq_true hc0
    refine wp_seq ?_
    replace F := F.keep [0, 1, 2, 4] rfl
    refine wp_region_l [.wr, .ind] ([0, 1]) rfl ?_
    refine s_cq F M rfl rfl rfl rfl rfl (rfl : _ = some []) cb_37_A10 (fun nd_ => c37 _) ?_; (clear F a M; try clear w); rintro v w rfl M a F
    refine s_I F rfl rfl rfl rfl rfl rfl ?_; clear F a; intro a F
    refine t_endM M ?_; (clear M; try clear w); intro w M
    refine wp_ret ?_
    refine ret1 F rfl rfl ?_
    -- end 0
    exact ⟨_, rfl, rfl, M.chg⟩
  ·
    clear F; intro hc1 F
    try rw [hc1] at F
    replace hc1 := of_decide_eq_false hc1
    exfalso
    omega
set_option maxRecDepth 100000 in
set_option maxHeartbeats 400000 in
theorem law10c (n t me h : Int) (s : ByteArray) (l : List Wrd) (v : Value) (w0 : World) (hr : RdSl w0.heap v l.length 5 (l.flatMap encW)) (hf : few l) (hs : s.size ≤ 5000) (hk : okA n t me h s = false) : Cl Try.prog 10 #[.agg #[.int .i64 n, .int .i64 t, .int .i64 me, .int .i64 h, .string s], v] w0 (RetQ w0 fun v => v = .bool true) := by
  have M : Sep (fun _ => False) w0 w0 _ := Sep.nil _ w0
  have hro := (ro_of hr)
  obtain ⟨A, cc, rfl, hcc⟩ := hr.form
  refine enter (vs := [_, _]) Try.func10 rfl rfl rfl ?_
  intro a F
  refine wp_seq ?_
  refine wp_region_l [.wr, .ind] ([0, 1]) rfl ?_
  refine s_bxA F M rfl rfl rfl rfl rfl ?_; (clear F a M; try clear w); intro b2 w M a F
  refine s_I F rfl rfl rfl rfl rfl rfl ?_; clear F a; intro a F
  refine t_endM M ?_; (clear M; try clear w); intro w M
  refine wp_seq ?_
  refine wp_seq ?_
  refine wp_region_l [.ind, .wr, .ind, .ind, .ind, .rd, .ind, .ind, .ind] ([0, 1, 2, 3, 4, 5, 6, 7, 8]) rfl ?_
  refine s_I F rfl rfl rfl rfl rfl rfl ?_; clear F a; intro a F
  refine s_cq F M rfl rfl rfl rfl rfl (rfl : _ = some [_]) cb_38_A10 (fun nd_ => c38y _ hf (M.chg.ro hro)) ?_; (clear F a M; try clear w); rintro v w rfl M a F
  refine s_bin F rfl rfl rfl rfl rfl rfl rfl ?_; clear F a; intro a F
  replace F : Fr _ _ ((17, Value.bool false) :: _) := F
  refine s_I F rfl rfl rfl rfl rfl rfl ?_; clear F a; intro a F
  refine s_fa0 F rfl rfl rfl rfl fa_48_4_A10 rfl ?_; clear F a; intro a F
  refine s_ld F rfl rfl rfl rfl sc_9_A10 rfl (by exact cell_of_blk M.h0 (lit rfl)) ?_; clear F a; intro a F
  refine s_lenS F rfl rfl rfl rfl st_9_A10 rfl ?_; clear F a; intro a F
  refine s_bin F rfl rfl rfl rfl rfl rfl rfl ?_; clear F a; intro a F
  refine s_I F rfl rfl rfl rfl rfl rfl ?_; clear F a; intro a F
  refine t_endM M ?_; (clear M; try clear w); intro w M
  refine c_if F rfl ?_ ?_
  ·
    clear F; intro hc0 F
    try rw [hc0] at F
    replace hc0 := of_decide_eq_true hc0
    exfalso
    omega
  ·
    clear F; intro hc1 F
    try rw [hc1] at F
    replace hc1 := of_decide_eq_false hc1
    refine wp_skip ?_
    refine wp_seq ?_
    replace F := F.keep [0, 1, 2, 4] rfl
    refine wp_region_l [.ind, .rd, .ind, .rd, .ind, .rd, .ind, .rd, .ind, .rd, .wr, .ind] ([0, 1, 2, 3, 4, 5, 6, 7, 8, 9, 10, 11]) rfl ?_
    refine s_fa0 F rfl rfl rfl rfl fa_48_0_A10 rfl ?_; clear F a; intro a F
    refine s_ld F rfl rfl rfl rfl sc_3_A10 rfl (by exact cell_of_blk M.h0 (lit rfl)) ?_; clear F a; intro a F
    refine s_fa0 F rfl rfl rfl rfl fa_48_1_A10 rfl ?_; clear F a; intro a F
    refine s_ld F rfl rfl rfl rfl sc_3_A10 rfl (by exact cell_of_blk M.h0 (lit rfl)) ?_; clear F a; intro a F
    refine s_fa0 F rfl rfl rfl rfl fa_48_2_A10 rfl ?_; clear F a; intro a F
    refine s_ld F rfl rfl rfl rfl sc_3_A10 rfl (by exact cell_of_blk M.h0 (lit rfl)) ?_; clear F a; intro a F
    refine s_fa0 F rfl rfl rfl rfl fa_48_3_A10 rfl ?_; clear F a; intro a F
    refine s_ld F rfl rfl rfl rfl sc_3_A10 rfl (by exact cell_of_blk M.h0 (lit rfl)) ?_; clear F a; intro a F
    refine s_fa0 F rfl rfl rfl rfl fa_48_4_A10 rfl ?_; clear F a; intro a F
    refine s_ld F rfl rfl rfl rfl sc_9_A10 rfl (by exact cell_of_blk M.h0 (lit rfl)) ?_; clear F a; intro a F
    refine s_cq F M rfl rfl rfl rfl rfl (rfl : _ = some [_, _, _, _, _]) cb_39_A10 (fun nd_ => c39n n t me h s hk _) ?_; (clear F a M; try clear w); rintro v w rfl M a F
    refine s_I F rfl rfl rfl rfl rfl rfl ?_; clear F a; intro a F
    refine t_endM M ?_; (clear M; try clear w); intro w M
    refine wp_seq ?_
    refine wp_seq ?_
    replace F := F.keep [0, 1, 2, 4, 5] rfl
    refine wp_region_l [.ind, .ind] ([0, 1]) rfl ?_
    refine s_I F rfl rfl rfl rfl rfl rfl ?_; clear F a; intro a F
    refine s_pn F rfl rfl rfl rfl pt_50_A10 rfl ?_; clear F a; intro a F
    replace F : Fr _ _ ((37, Value.bool true) :: _) := F
    refine t_endM M ?_; (clear M; try clear w); intro w M
    refine c_t F rfl ?_
    refine wp_seq ?_
    replace F := F.keep [0, 1, 2, 4, 5] rfl
    refine wp_region_l [.wr, .ind] ([0, 1]) rfl ?_
    refine s_cq F M rfl rfl rfl rfl rfl (rfl : _ = some []) cb_37_A10 (fun nd_ => c37 _) ?_; (clear F a M; try clear w); rintro v w rfl M a F
    refine s_I F rfl rfl rfl rfl rfl rfl ?_; clear F a; intro a F
    refine t_endM M ?_; (clear M; try clear w); intro w M
    refine wp_ret ?_
    refine ret1 F rfl rfl ?_
    -- end 0
    exact ⟨_, rfl, rfl, M.chg⟩
set_option maxRecDepth 100000 in
set_option maxHeartbeats 4000000 in
theorem law9d (n t me h : Int) (s : ByteArray) (l : List Wrd) (v : Value) (w0 : World) (hr : RdSl w0.heap v l.length 5 (l.flatMap encW)) (hf : few l) (hs : s.size ≤ 5000) (hk : okA n t me h s = true) : Cl Try.prog 9 #[.agg #[.int .i64 n, .int .i64 t, .int .i64 me, .int .i64 h, .string s], v] w0 (RetQ w0 fun v => v = .bool true) := by
  have M : Sep (fun _ => False) w0 w0 _ := Sep.nil _ w0
  have hro := (ro_of hr)
  obtain ⟨A, cc, rfl, hcc⟩ := hr.form
  have hl60 := hf.1
  refine enter (vs := [_, _]) Try.func9 rfl rfl rfl ?_
  intro a F
  refine wp_seq ?_
  refine wp_region_l [.wr, .ind] ([0, 1]) rfl ?_
  refine s_bxA F M rfl rfl rfl rfl rfl ?_; (clear F a M; try clear w); intro b2 w M a F
  refine s_I F rfl rfl rfl rfl rfl rfl ?_; clear F a; intro a F
  refine t_endM M ?_; (clear M; try clear w); intro w M
  refine wp_seq ?_
  refine wp_seq ?_
  refine wp_region_l [.ind, .wr, .ind, .ind, .ind, .rd, .ind, .ind, .ind] ([0, 1, 2, 3, 4, 5, 6, 7, 8]) rfl ?_
  refine s_I F rfl rfl rfl rfl rfl rfl ?_; clear F a; intro a F
  refine s_cq F M rfl rfl rfl rfl rfl (rfl : _ = some [_]) cb_38_A10 (fun nd_ => c38y _ hf (M.chg.ro hro)) ?_; (clear F a M; try clear w); rintro v w rfl M a F
  refine s_bin F rfl rfl rfl rfl rfl rfl rfl ?_; clear F a; intro a F
  replace F : Fr _ _ ((12, Value.bool false) :: _) := F
  refine s_I F rfl rfl rfl rfl rfl rfl ?_; clear F a; intro a F
  refine s_fa0 F rfl rfl rfl rfl fa_48_4_A10 rfl ?_; clear F a; intro a F
  refine s_ld F rfl rfl rfl rfl sc_9_A10 rfl (by exact cell_of_blk M.h0 (lit rfl)) ?_; clear F a; intro a F
  refine s_lenS F rfl rfl rfl rfl st_9_A10 rfl ?_; clear F a; intro a F
  refine s_bin F rfl rfl rfl rfl rfl rfl rfl ?_; clear F a; intro a F
  refine s_I F rfl rfl rfl rfl rfl rfl ?_; clear F a; intro a F
  refine t_endM M ?_; (clear M; try clear w); intro w M
  refine c_if F rfl ?_ ?_
  ·
    clear F; intro hc0 F
    try rw [hc0] at F
    replace hc0 := of_decide_eq_true hc0
    exfalso
    omega
  ·
    clear F; intro hc1 F
    try rw [hc1] at F
    replace hc1 := of_decide_eq_false hc1
    refine wp_skip ?_
    refine wp_seq ?_
    replace F := F.keep [0, 1, 2, 4] rfl
    refine wp_region_l [.ind, .rd, .ind, .rd, .ind, .rd, .ind, .rd, .ind, .rd, .wr, .ind] ([0, 1, 2, 3, 4, 5, 6, 7, 8, 9, 10, 11]) rfl ?_
    refine s_fa0 F rfl rfl rfl rfl fa_48_0_A10 rfl ?_; clear F a; intro a F
    refine s_ld F rfl rfl rfl rfl sc_3_A10 rfl (by exact cell_of_blk M.h0 (lit rfl)) ?_; clear F a; intro a F
    refine s_fa0 F rfl rfl rfl rfl fa_48_1_A10 rfl ?_; clear F a; intro a F
    refine s_ld F rfl rfl rfl rfl sc_3_A10 rfl (by exact cell_of_blk M.h0 (lit rfl)) ?_; clear F a; intro a F
    refine s_fa0 F rfl rfl rfl rfl fa_48_2_A10 rfl ?_; clear F a; intro a F
    refine s_ld F rfl rfl rfl rfl sc_3_A10 rfl (by exact cell_of_blk M.h0 (lit rfl)) ?_; clear F a; intro a F
    refine s_fa0 F rfl rfl rfl rfl fa_48_3_A10 rfl ?_; clear F a; intro a F
    refine s_ld F rfl rfl rfl rfl sc_3_A10 rfl (by exact cell_of_blk M.h0 (lit rfl)) ?_; clear F a; intro a F
    refine s_fa0 F rfl rfl rfl rfl fa_48_4_A10 rfl ?_; clear F a; intro a F
    refine s_ld F rfl rfl rfl rfl sc_9_A10 rfl (by exact cell_of_blk M.h0 (lit rfl)) ?_; clear F a; intro a F
    refine s_call (m := []) F M rfl rfl rfl rfl rfl (rfl : _ = some [_, _, _, _, _]) cb_39_A10 (fun nd_ => c39r n t me h s hk _) ?_; (clear F a M; try clear w); rintro v g0 w rfl M a F; (try simp only [List.cons_append, List.nil_append] at M)
    refine s_I F rfl rfl rfl rfl rfl rfl ?_; clear F a; intro a F
    refine t_endM M ?_; (clear M; try clear w); intro w M
    refine wp_seq ?_
    refine wp_seq ?_
    replace F := F.keep [0, 1, 2, 4, 5] rfl
    refine wp_region_l [.ind, .ind] ([0, 1]) rfl ?_
    refine s_I F rfl rfl rfl rfl rfl rfl ?_; clear F a; intro a F
    refine s_pn F rfl rfl rfl rfl pt_50_A10 rfl ?_; clear F a; intro a F
    replace F : Fr _ _ ((32, Value.bool false) :: _) := F
    refine t_endM M ?_; (clear M; try clear w); intro w M
    refine c_f F rfl ?_
    refine wp_skip ?_
    refine wp_seq ?_
    replace F := F.keep [0, 1, 2, 4, 5] rfl
    refine wp_region_l [.ind, .wr, .ind] ([0, 1, 2]) rfl ?_
    refine s_I F rfl rfl rfl rfl rfl rfl ?_; clear F a; intro a F
    have M1 : Sep _ _ _ (agR _ _ :: _) := M; replace M := M1; clear M1
    refine s_call (m := [_]) F M rfl rfl rfl rfl rfl (rfl : _ = some [_]) cb_44_A10 (fun nd_ => c44r g0 (newA n t me h s) _ (M.drewN nd_).own.one) ?_; (clear F a M; try clear w); rintro v x w rfl M a F; (try simp only [List.cons_append, List.nil_append] at M)
    obtain ⟨A6, cc6, rfl⟩ := SlOk.form M.h1
    have hsl := startO_len (newA n t me h s)
    refine s_I F rfl rfl rfl rfl rfl rfl ?_; clear F a; intro a F
    refine t_endM M ?_; (clear M; try clear w); intro w M
    refine wp_seq ?_
    refine wp_seq ?_
    replace F := F.keep [0, 1, 2, 4, 5, 6] rfl
    refine wp_region_l [.ind] ([0]) rfl ?_
    refine s_I F rfl rfl rfl rfl rfl rfl ?_; clear F a; intro a F
    refine t_endM M ?_; (clear M; try clear w); intro w M
    refine wp_block ?_
    have M1 : Sep _ _ _ (slR _ _ _ _ _ :: _) := M.f1; replace M := M1; clear M1
    have M1 : Sep _ _ _ (agR _ _ :: _) := M.f1; replace M := M1; clear M1
    refine loopX (X := (Int) × (Ga) × (ASt) × (List Wrd) × (Option Addr) × (Nat)) F [0, 1, 2, 4, 5] rfl (fun ((i, g, c, S, A, k) : (Int) × (Ga) × (ASt) × (List Wrd) × (Option Addr) × (Nat)) => (0 ≤ i) ∧ (i ≤ l.length) ∧ (g.b = g0.b) ∧ (c.Wf) ∧ (Said (newA n t me h s) c S) ∧ (S.length ≤ 1 + 700 * i.toNat)) (fun ((i, g, c, S, A, k) : (Int) × (Ga) × (ASt) × (List Wrd) × (Option Addr) × (Nat)) => [(6, .slice A S.length k), (7, .int .i64 i)]) (fun ((i, g, c, S, A, k) : (Int) × (Ga) × (ASt) × (List Wrd) × (Option Addr) × (Nat)) => [agR g c, wsR (.slice A S.length k) S]) (fun ((i, g, c, S, A, k) : (Int) × (Ga) × (ASt) × (List Wrd) × (Option Addr) × (Nat)) => l.length - i.toNat) ((0), (g0), ((newA n t me h s).start), ((newA n t me h s).startO), (A6), (cc6)) M ⟨(by omega), (by omega), rfl, (start_wf (newA_wf hk)).1, (start_said (newA_wf hk)), (by assumption)⟩ (F.keep [6, 7, 0, 1, 2, 4, 5] rfl) ?_
    clear F M; clear a; (try clear w)
    rintro ⟨i, g, c, S, A, k⟩ a w ⟨i0, i1, hg, hW, hS, hSl⟩ F M; try dsimp only at F M
    try simp only [List.cons_append, List.nil_append] at F M
    try dsimp only at i0 i1 hg hW hS hSl
    rw [← hg] at F
    refine wp_seq ?_
    refine wp_seq ?_
    refine wp_region_l [.ind, .ind, .ind, .ind] ([0, 1, 2, 3]) rfl ?_
    refine s_I F rfl rfl rfl rfl rfl rfl ?_; clear F a; intro a F
    refine s_I F rfl rfl rfl rfl rfl rfl ?_; clear F a; intro a F
    refine s_len F rfl rfl rfl rfl sl_22_A10 rfl ?_; clear F a; intro a F
    refine s_bin F rfl rfl rfl rfl rfl rfl rfl ?_; clear F a; intro a F
    refine t_endM M ?_; (clear M; try clear w); intro w M
    refine c_if F rfl ?_ ?_
    ·
      clear F; intro hc2 F
      try rw [hc2] at F
      replace hc2 := of_decide_eq_true hc2
      refine wp_skip ?_
      refine wp_seq ?_
      refine wp_block ?_
      replace F := F.keep [0, 1, 2, 4, 5, 6, 7] rfl
      refine wp_region_l [.ind, .ind, .ind, .ind, .ind, .rd, .wr, .wr, .ind] ([0, 1, 2, 3, 4, 5, 6, 7, 8]) rfl ?_
      refine s_I F rfl rfl rfl rfl rfl rfl ?_; clear F a; intro a F
      refine s_I F rfl rfl rfl rfl rfl rfl ?_; clear F a; intro a F
      refine s_I F rfl rfl rfl rfl rfl rfl ?_; clear F a; intro a F
      refine s_I F rfl rfl rfl rfl rfl rfl ?_; clear F a; intro a F
      refine s_ix F rfl rfl rfl rfl sl_22_A10 rfl rfl (by exact M.chg.ro hro) (by omega) (by omega) ?_; clear F a; intro e46 he46 a F
      refine s_lda F rfl rfl rfl rfl ag_32_A10 rfl rfl (rdsX (M.chg.ro hro) (by intro e; rfl) he46) ?_; clear F a; intro a F
      have M1 : Sep _ _ _ (agR _ _ :: _) := M; replace M := M1; clear M1
      refine s_call (m := [_]) F M rfl rfl rfl rfl rfl (rfl : _ = some [_, _]) cb_41_A10 (fun nd_ => c41r g c e46 hW _ (M.drewN nd_).own.one) ?_; (clear F a M; try clear w); rintro v x w rfl M a F; (try simp only [List.cons_append, List.nil_append] at M)
      obtain ⟨v1, o1⟩ := x
      dsimp only at M F
      obtain ⟨A4, cc4, rfl⟩ := SlOk.form M.h1
      have htl := take_len hW e46
      refine s_apM ((c.take e46).2) F M.f2 rfl rfl rfl rfl tl_22_A10 rfl rfl (by exact SlOk.rd M.h1) (by intro e; rfl) (by omega) (fun _ _ _ _ => pend_nil) ?_; (clear F a M; try clear w); intro A49 c49 w M a F
      refine s_I F rfl rfl rfl rfl rfl rfl ?_; clear F a; intro a F
      refine t_endM M ?_; (clear M; try clear w); intro w M
      replace F := F.keep [0, 1, 2, 4, 5, 6, 7] rfl
      refine wp_region_l [.ind, .ind, .ind] ([0, 1, 2]) rfl ?_
      refine s_I F rfl rfl rfl rfl rfl rfl ?_; clear F a; intro a F
      refine s_add F rfl rfl rfl rfl rfl rfl (by unfold In64; omega) ?_; clear F a; intro a F
      refine s_I F rfl rfl rfl rfl rfl rfl ?_; clear F a; intro a F
      refine t_endM M ?_; (clear M; try clear w); intro w M
      rw [hg] at F
      refine again ((i + 1), (⟨g.b, g.vb, v1⟩), ((c.take e46).1), (S ++ (c.take e46).2), (A49), (c49)) (by show _ < _; (try dsimp only); omega) ⟨(by omega), (by assumption), hg, (take_wf hW e46).1, (hS.trans (take_said hW e46)), (by rw [List.length_append]; omega)⟩ (F.keep [6, 7, 0, 1, 2, 4, 5] rfl) ?_
      try dsimp only [List.cons_append, List.nil_append]
      refine M.pick ?_; repeat (first | exact PkG.nil | refine PkG.cons 0 rfl rfl ?_ | refine PkG.cons 1 rfl rfl ?_ | refine PkG.cons 3 rfl rfl ?_)
    ·
      clear F; intro hc3 F
      try rw [hc3] at F
      replace hc3 := of_decide_eq_false hc3
      refine wp_exit ?_
      refine wp_seq ?_
      refine wp_seq ?_
      replace F := F.keep [0, 1, 2, 4, 5, 6, 7] rfl
      refine wp_region_l [.ind] ([0]) rfl ?_
      refine s_I F rfl rfl rfl rfl rfl rfl ?_; clear F a; intro a F
      refine t_endM M ?_; (clear M; try clear w); intro w M
      refine wp_block ?_
      refine loopX (X := (Int)) F [0, 1, 2, 5, 6, 7] rfl (fun (j : Int) => (0 ≤ j) ∧ (j ≤ S.length)) (fun (j : Int) => [(8, .int .i64 j)]) (fun (j : Int) => []) (fun (j : Int) => S.length - j.toNat) (0) M ⟨(by omega), (by omega)⟩ (F.keep [8, 0, 1, 2, 5, 6, 7] rfl) ?_
      clear F M; clear a; (try clear w)
      rintro j a w ⟨j0, j1⟩ F M; try dsimp only at F M
      try simp only [List.cons_append, List.nil_append] at F M
      try dsimp only at j0 j1
      refine wp_seq ?_
      refine wp_seq ?_
      refine wp_region_l [.ind, .ind, .ind, .ind] ([0, 1, 2, 3]) rfl ?_
      refine s_I F rfl rfl rfl rfl rfl rfl ?_; clear F a; intro a F
      refine s_I F rfl rfl rfl rfl rfl rfl ?_; clear F a; intro a F
      refine s_len F rfl rfl rfl rfl sl_22_A10 rfl ?_; clear F a; intro a F
      refine s_bin F rfl rfl rfl rfl rfl rfl rfl ?_; clear F a; intro a F
      refine t_endM M ?_; (clear M; try clear w); intro w M
      refine c_if F rfl ?_ ?_
      ·
        clear F; intro hc4 F
        try rw [hc4] at F
        replace hc4 := of_decide_eq_true hc4
        refine wp_skip ?_
        refine wp_seq ?_
        refine wp_block ?_
        refine wp_seq ?_
        refine wp_seq ?_
        replace F := F.keep [0, 1, 2, 5, 6, 7, 8] rfl
        refine wp_region_t [.ind, .ind, .ind, .ind, .rd, .ind, .rd, .ind, .ind, .ind, .ind, .ind, .rd, .wr, .ind, .ind, .ind, .ind, .ind, .ind, .ind, .ind, .ind, .ind, .rd, .ind, .ind, .ind, .ind, .ind, .rd, .ind, .ind, .ind] [] (otOf [0, 1, 2, 3, 4, 5, 6, 7, 8, 9, 10, 11, 12, 13, 14, 15, 16, 17, 18, 19, 20, 21, 22, 23, 24, 25, 26, 27, 28, 29, 30, 31, 32, 33]) mixed (by kernel_rfl) ?_
        refine s_I F rfl rfl rfl rfl rfl rfl ?_; clear F a; intro a F
        refine s_I F rfl rfl rfl rfl rfl rfl ?_; clear F a; intro a F
        refine s_ix F rfl rfl rfl rfl sl_22_A10 rfl rfl (by exact SlOk.rd M.h1) (by omega) (by omega) ?_; clear F a; intro e58 he58 a F
        refine s_fa F rfl rfl rfl rfl fa_32_1_A10 rfl ?_; clear F a; intro a F
        refine s_ld F rfl rfl rfl rfl sc_3_A10 rfl (by exact rdX (SlOk.rd M.h1) (by intro e; rfl) he58 rfl) ?_; clear F a; intro a F
        refine s_fa0 F rfl rfl rfl rfl fa_48_2_A10 rfl ?_; clear F a; intro a F
        refine s_ld F rfl rfl rfl rfl sc_3_A10 rfl (by exact cell_of_blk M.h2 (lit rfl)) ?_; clear F a; intro a F
        obtain ⟨_, _, hfr, hck⟩ := hS.w e58 (List.mem_of_getElem? he58)
        have hfr : e58.frm = me := hfr
        obtain ⟨kd1, kd2⟩ := check_kind hck
        refine s_bin F rfl rfl rfl rfl rfl rfl rfl ?_; clear F a; intro a F
        refine s_I F rfl rfl rfl rfl rfl rfl ?_; clear F a; intro a F
        refine bsplit F 64 rfl ?_ ?_
        ·
          clear F; intro hc5 F
          try rw [hc5] at F
          replace hc5 := nd1 hc5
          exfalso
          omega
        ·
          clear F; intro hc6 F
          try rw [hc6] at F
          replace hc6 := nd0 hc6
          refine s_I F rfl rfl rfl rfl rfl rfl ?_; clear F a; intro a F
          refine s_I F rfl rfl rfl rfl rfl rfl ?_; clear F a; intro a F
          refine s_ix F rfl rfl rfl rfl sl_22_A10 rfl rfl (by exact SlOk.rd M.h1) (by omega) (by omega) ?_; clear F a; intro e67 he67 a F
          try (obtain rfl := Option.some.inj (he58.symm.trans he67))
          refine s_lda F rfl rfl rfl rfl ag_32_A10 rfl rfl (rdsX (SlOk.rd M.h1) (by intro e; rfl) he67) ?_; clear F a; intro a F
          refine s_cq F M rfl rfl rfl rfl rfl (rfl : _ = some [_]) cb_49_A10 (fun nd_ => c49 e58 _) ?_; (clear F a M; try clear w); rintro v w rfl M a F
          rw [if_pos hck] at F
          refine s_bin F rfl rfl rfl rfl rfl rfl rfl ?_; clear F a; intro a F
          replace F : Fr _ _ ((70, Value.bool false) :: _) := F
          refine s_I F rfl rfl rfl rfl rfl rfl ?_; clear F a; intro a F
          refine s_I F rfl rfl rfl rfl rfl rfl ?_; clear F a; intro a F
          refine s_I F rfl rfl rfl rfl rfl rfl ?_; clear F a; intro a F
          refine s_bin F rfl rfl rfl rfl rfl rfl rfl ?_; clear F a; intro a F
          refine s_I F rfl rfl rfl rfl rfl rfl ?_; clear F a; intro a F
          refine bsplit F 75 rfl ?_ ?_
          ·
            clear F; intro hc7 F
            try rw [hc7] at F
            replace hc7 := of_decide_eq_true hc7
            refine s_I F rfl rfl rfl rfl rfl rfl ?_; clear F a; intro a F
            refine s_I F rfl rfl rfl rfl rfl rfl ?_; clear F a; intro a F
            refine s_ix F rfl rfl rfl rfl sl_22_A10 rfl rfl (by exact SlOk.rd M.h1) (by omega) (by omega) ?_; clear F a; intro e78 he78 a F
            try (obtain rfl := Option.some.inj (he58.symm.trans he78))
            try (obtain rfl := Option.some.inj (he67.symm.trans he78))
            refine s_fa F rfl rfl rfl rfl fa_32_2_A10 rfl ?_; clear F a; intro a F
            refine s_ld F rfl rfl rfl rfl sc_3_A10 rfl (by exact rdX (SlOk.rd M.h1) (by intro e; rfl) he78 rfl) ?_; clear F a; intro a F
            refine s_I F rfl rfl rfl rfl rfl rfl ?_; clear F a; intro a F
            refine s_I F rfl rfl rfl rfl rfl rfl ?_; clear F a; intro a F
            refine s_sub F rfl rfl rfl rfl rfl rfl (by unfold In64; omega) ?_; clear F a; intro a F
            refine s_ix F rfl rfl rfl rfl sl_22_A10 rfl rfl (by exact SlOk.rd M.h1) (by omega) (by omega) ?_; clear F a; intro e84 he84 a F
            try (obtain rfl := Option.some.inj (he58.symm.trans he84))
            try (obtain rfl := Option.some.inj (he67.symm.trans he84))
            try (obtain rfl := Option.some.inj (he78.symm.trans he84))
            refine s_fa F rfl rfl rfl rfl fa_32_2_A10 rfl ?_; clear F a; intro a F
            refine s_ld F rfl rfl rfl rfl sc_3_A10 rfl (by exact rdX (SlOk.rd M.h1) (by intro e; rfl) he84 rfl) ?_; clear F a; intro a F
            obtain ⟨_, _, _, hck2⟩ := hS.w e84 (List.mem_of_getElem? he84)
            obtain ⟨kd3, kd4⟩ := check_kind hck2
            have hlt := said_lt hS.srt he84 he58 (by omega)
            unfold key at hlt
            refine s_bin F rfl rfl rfl rfl rfl rfl rfl ?_; clear F a; intro a F
            refine s_I F rfl rfl rfl rfl rfl rfl ?_; clear F a; intro a F
            refine s_I F rfl rfl rfl rfl rfl rfl ?_; clear F a; intro a F
            refine t_endM M ?_; (clear M; try clear w); intro w M
            refine c_if F rfl ?_ ?_
            ·
              clear F; intro hc8 F
              try rw [hc8] at F
              replace hc8 := of_decide_eq_true hc8
              exfalso
              omega
            ·
              clear F; intro hc9 F
              try rw [hc9] at F
              replace hc9 := of_decide_eq_false hc9
              refine wp_skip ?_
              refine wp_seq ?_
              replace F := F.keep [0, 1, 2, 5, 6, 7, 8] rfl
              refine wp_region_l [.ind] ([0]) rfl ?_
              refine s_I F rfl rfl rfl rfl rfl rfl ?_; clear F a; intro a F
              refine t_endM M ?_; (clear M; try clear w); intro w M
              refine wp_block ?_
              refine loopX (X := (Int)) F [0, 1, 2, 5, 6, 7, 8] rfl (fun (m : Int) => (0 ≤ m) ∧ (m ≤ j)) (fun (m : Int) => [(9, .int .i64 m)]) (fun (m : Int) => []) (fun (m : Int) => j.toNat - m.toNat) (0) M ⟨(by omega), (by assumption)⟩ (F.keep [9, 0, 1, 2, 5, 6, 7, 8] rfl) ?_
              clear F M; clear a; (try clear w)
              rintro m a w ⟨m0, m1⟩ F M; try dsimp only at F M
              try simp only [List.cons_append, List.nil_append] at F M
              try dsimp only at m0 m1
              refine wp_seq ?_
              refine wp_seq ?_
              refine wp_region_l [.ind, .ind, .ind] ([0, 1, 2]) rfl ?_
              refine s_I F rfl rfl rfl rfl rfl rfl ?_; clear F a; intro a F
              refine s_I F rfl rfl rfl rfl rfl rfl ?_; clear F a; intro a F
              refine s_bin F rfl rfl rfl rfl rfl rfl rfl ?_; clear F a; intro a F
              refine t_endM M ?_; (clear M; try clear w); intro w M
              refine c_if F rfl ?_ ?_
              ·
                clear F; intro hc10 F
                try rw [hc10] at F
                replace hc10 := of_decide_eq_true hc10
                refine wp_skip ?_
                refine wp_seq ?_
                refine wp_block ?_
                refine wp_seq ?_
                replace F := F.keep [0, 1, 2, 5, 6, 7, 8, 9] rfl
                refine wp_region_t [.ind, .ind, .ind, .ind, .rd, .ind, .ind, .ind, .ind, .rd, .ind, .ind, .ind, .ind, .ind, .ind, .rd, .ind, .ind, .ind, .ind, .rd, .ind, .ind] [] (otOf [0, 1, 2, 3, 4, 5, 6, 7, 8, 9, 10, 11, 12, 13, 14, 15, 16, 17, 18, 19, 20, 21, 22, 23]) mixed (by kernel_rfl) ?_
                refine s_I F rfl rfl rfl rfl rfl rfl ?_; clear F a; intro a F
                refine s_I F rfl rfl rfl rfl rfl rfl ?_; clear F a; intro a F
                refine s_ix F rfl rfl rfl rfl sl_22_A10 rfl rfl (by exact SlOk.rd M.h1) (by omega) (by omega) ?_; clear F a; intro e97 he97 a F
                try (obtain rfl := Option.some.inj (he58.symm.trans he97))
                try (obtain rfl := Option.some.inj (he67.symm.trans he97))
                try (obtain rfl := Option.some.inj (he78.symm.trans he97))
                try (obtain rfl := Option.some.inj (he84.symm.trans he97))
                refine s_fa F rfl rfl rfl rfl fa_32_0_A10 rfl ?_; clear F a; intro a F
                refine s_ld F rfl rfl rfl rfl sc_3_A10 rfl (by exact rdX (SlOk.rd M.h1) (by intro e; rfl) he97 rfl) ?_; clear F a; intro a F
                refine s_I F rfl rfl rfl rfl rfl rfl ?_; clear F a; intro a F
                refine s_I F rfl rfl rfl rfl rfl rfl ?_; clear F a; intro a F
                refine s_ix F rfl rfl rfl rfl sl_22_A10 rfl rfl (by exact SlOk.rd M.h1) (by omega) (by omega) ?_; clear F a; intro e102 he102 a F
                try (obtain rfl := Option.some.inj (he58.symm.trans he102))
                try (obtain rfl := Option.some.inj (he67.symm.trans he102))
                try (obtain rfl := Option.some.inj (he78.symm.trans he102))
                try (obtain rfl := Option.some.inj (he84.symm.trans he102))
                try (obtain rfl := Option.some.inj (he97.symm.trans he102))
                refine s_fa F rfl rfl rfl rfl fa_32_0_A10 rfl ?_; clear F a; intro a F
                refine s_ld F rfl rfl rfl rfl sc_3_A10 rfl (by exact rdX (SlOk.rd M.h1) (by intro e; rfl) he102 rfl) ?_; clear F a; intro a F
                refine s_bin F rfl rfl rfl rfl rfl rfl rfl ?_; clear F a; intro a F
                refine s_I F rfl rfl rfl rfl rfl rfl ?_; clear F a; intro a F
                refine bsplit F 106 rfl ?_ ?_
                ·
                  clear F; intro hc11 F
                  try rw [hc11] at F
                  replace hc11 := of_decide_eq_true hc11
                  refine s_I F rfl rfl rfl rfl rfl rfl ?_; clear F a; intro a F
                  refine s_I F rfl rfl rfl rfl rfl rfl ?_; clear F a; intro a F
                  refine s_ix F rfl rfl rfl rfl sl_22_A10 rfl rfl (by exact SlOk.rd M.h1) (by omega) (by omega) ?_; clear F a; intro e109 he109 a F
                  try (obtain rfl := Option.some.inj (he58.symm.trans he109))
                  try (obtain rfl := Option.some.inj (he67.symm.trans he109))
                  try (obtain rfl := Option.some.inj (he78.symm.trans he109))
                  try (obtain rfl := Option.some.inj (he84.symm.trans he109))
                  try (obtain rfl := Option.some.inj (he97.symm.trans he109))
                  try (obtain rfl := Option.some.inj (he102.symm.trans he109))
                  refine s_fa F rfl rfl rfl rfl fa_32_2_A10 rfl ?_; clear F a; intro a F
                  refine s_ld F rfl rfl rfl rfl sc_3_A10 rfl (by exact rdX (SlOk.rd M.h1) (by intro e; rfl) he109 rfl) ?_; clear F a; intro a F
                  refine s_I F rfl rfl rfl rfl rfl rfl ?_; clear F a; intro a F
                  refine s_I F rfl rfl rfl rfl rfl rfl ?_; clear F a; intro a F
                  refine s_ix F rfl rfl rfl rfl sl_22_A10 rfl rfl (by exact SlOk.rd M.h1) (by omega) (by omega) ?_; clear F a; intro e114 he114 a F
                  try (obtain rfl := Option.some.inj (he58.symm.trans he114))
                  try (obtain rfl := Option.some.inj (he67.symm.trans he114))
                  try (obtain rfl := Option.some.inj (he78.symm.trans he114))
                  try (obtain rfl := Option.some.inj (he84.symm.trans he114))
                  try (obtain rfl := Option.some.inj (he97.symm.trans he114))
                  try (obtain rfl := Option.some.inj (he102.symm.trans he114))
                  try (obtain rfl := Option.some.inj (he109.symm.trans he114))
                  refine s_fa F rfl rfl rfl rfl fa_32_2_A10 rfl ?_; clear F a; intro a F
                  refine s_ld F rfl rfl rfl rfl sc_3_A10 rfl (by exact rdX (SlOk.rd M.h1) (by intro e; rfl) he114 rfl) ?_; clear F a; intro a F
                  refine s_bin F rfl rfl rfl rfl rfl rfl rfl ?_; clear F a; intro a F
                  refine s_I F rfl rfl rfl rfl rfl rfl ?_; clear F a; intro a F
                  refine t_endM M ?_; (clear M; try clear w); intro w M
                  refine c_if F rfl ?_ ?_
                  ·
                    clear F; intro hc12 F
                    try rw [hc12] at F
                    replace hc12 := of_decide_eq_true hc12
                    exfalso
                    have hlt := said_lt hS.srt he97 he102 (by omega)
                    unfold key at hlt
                    omega
                  ·
                    clear F; intro hc13 F
                    try rw [hc13] at F
                    replace hc13 := of_decide_eq_false hc13
                    refine wp_skip ?_
                    replace F := F.keep [0, 1, 2, 5, 6, 7, 8, 9] rfl
                    refine wp_region_l [.ind, .ind, .ind] ([0, 1, 2]) rfl ?_
                    refine s_I F rfl rfl rfl rfl rfl rfl ?_; clear F a; intro a F
                    refine s_add F rfl rfl rfl rfl rfl rfl (by unfold In64; omega) ?_; clear F a; intro a F
                    refine s_I F rfl rfl rfl rfl rfl rfl ?_; clear F a; intro a F
                    refine t_endM M ?_; (clear M; try clear w); intro w M
                    refine again (m + 1) (by show _ < _; (try dsimp only); omega) ⟨(by omega), (by assumption)⟩ (F.keep [9, 0, 1, 2, 5, 6, 7, 8] rfl) ?_
                    try dsimp only [List.cons_append, List.nil_append]
                    refine M.pick ?_; repeat (first | exact PkG.nil | refine PkG.cons 0 rfl rfl ?_ | refine PkG.cons 1 rfl rfl ?_ | refine PkG.cons 2 rfl rfl ?_)
                ·
                  clear F; intro hc14 F
                  try rw [hc14] at F
                  replace hc14 := of_decide_eq_false hc14
                  refine s_no F rfl rfl rfl rfl ?_; clear F a; intro a F
                  refine s_no F rfl rfl rfl rfl ?_; clear F a; intro a F
                  refine s_no F rfl rfl rfl rfl ?_; clear F a; intro a F
                  refine s_no F rfl rfl rfl rfl ?_; clear F a; intro a F
                  refine s_no F rfl rfl rfl rfl ?_; clear F a; intro a F
                  refine s_no F rfl rfl rfl rfl ?_; clear F a; intro a F
                  refine s_no F rfl rfl rfl rfl ?_; clear F a; intro a F
                  refine s_no F rfl rfl rfl rfl ?_; clear F a; intro a F
                  refine s_no F rfl rfl rfl rfl ?_; clear F a; intro a F
                  refine s_no F rfl rfl rfl rfl ?_; clear F a; intro a F
                  refine s_no F rfl rfl rfl rfl ?_; clear F a; intro a F
                  refine s_I F rfl rfl rfl rfl rfl rfl ?_; clear F a; intro a F
                  refine t_endM M ?_; (clear M; try clear w); intro w M
                  refine c_f F rfl ?_
                  refine wp_skip ?_
                  replace F := F.keep [0, 1, 2, 5, 6, 7, 8, 9] rfl
                  refine wp_region_l [.ind, .ind, .ind] ([0, 1, 2]) rfl ?_
                  refine s_I F rfl rfl rfl rfl rfl rfl ?_; clear F a; intro a F
                  refine s_add F rfl rfl rfl rfl rfl rfl (by unfold In64; omega) ?_; clear F a; intro a F
                  refine s_I F rfl rfl rfl rfl rfl rfl ?_; clear F a; intro a F
                  refine t_endM M ?_; (clear M; try clear w); intro w M
                  refine again (m + 1) (by show _ < _; (try dsimp only); omega) ⟨(by omega), (by assumption)⟩ (F.keep [9, 0, 1, 2, 5, 6, 7, 8] rfl) ?_
                  try dsimp only [List.cons_append, List.nil_append]
                  refine M.pick ?_; repeat (first | exact PkG.nil | refine PkG.cons 0 rfl rfl ?_ | refine PkG.cons 1 rfl rfl ?_ | refine PkG.cons 2 rfl rfl ?_)
              ·
                clear F; intro hc15 F
                try rw [hc15] at F
                replace hc15 := of_decide_eq_false hc15
                refine wp_exit ?_
                replace F := F.keep [0, 1, 2, 5, 6, 7, 8, 9] rfl
                refine wp_region_l [.ind, .ind, .ind] ([0, 1, 2]) rfl ?_
                refine s_I F rfl rfl rfl rfl rfl rfl ?_; clear F a; intro a F
                refine s_add F rfl rfl rfl rfl rfl rfl (by unfold In64; omega) ?_; clear F a; intro a F
                refine s_I F rfl rfl rfl rfl rfl rfl ?_; clear F a; intro a F
                refine t_endM M ?_; (clear M; try clear w); intro w M
                refine again (j + 1) (by show _ < _; (try dsimp only); omega) ⟨(by omega), (by assumption)⟩ (F.keep [8, 0, 1, 2, 5, 6, 7] rfl) ?_
                try dsimp only [List.cons_append, List.nil_append]
                refine M.pick ?_; repeat (first | exact PkG.nil | refine PkG.cons 0 rfl rfl ?_ | refine PkG.cons 1 rfl rfl ?_ | refine PkG.cons 2 rfl rfl ?_)
          ·
            clear F; intro hc16 F
            try rw [hc16] at F
            replace hc16 := of_decide_eq_false hc16
            refine s_no F rfl rfl rfl rfl ?_; clear F a; intro a F
            refine s_no F rfl rfl rfl rfl ?_; clear F a; intro a F
            refine s_no F rfl rfl rfl rfl ?_; clear F a; intro a F
            refine s_no F rfl rfl rfl rfl ?_; clear F a; intro a F
            refine s_no F rfl rfl rfl rfl ?_; clear F a; intro a F
            refine s_no F rfl rfl rfl rfl ?_; clear F a; intro a F
            refine s_no F rfl rfl rfl rfl ?_; clear F a; intro a F
            refine s_no F rfl rfl rfl rfl ?_; clear F a; intro a F
            refine s_no F rfl rfl rfl rfl ?_; clear F a; intro a F
            refine s_no F rfl rfl rfl rfl ?_; clear F a; intro a F
            refine s_no F rfl rfl rfl rfl ?_; clear F a; intro a F
            refine s_no F rfl rfl rfl rfl ?_; clear F a; intro a F
            refine s_I F rfl rfl rfl rfl rfl rfl ?_; clear F a; intro a F
            refine s_I F rfl rfl rfl rfl rfl rfl ?_; clear F a; intro a F
            refine t_endM M ?_; (clear M; try clear w); intro w M
            refine c_f F rfl ?_
            refine wp_skip ?_
            refine wp_seq ?_
            replace F := F.keep [0, 1, 2, 5, 6, 7, 8] rfl
            refine wp_region_l [.ind] ([0]) rfl ?_
            refine s_I F rfl rfl rfl rfl rfl rfl ?_; clear F a; intro a F
            refine t_endM M ?_; (clear M; try clear w); intro w M
            refine wp_block ?_
            refine loopX (X := (Int)) F [0, 1, 2, 5, 6, 7, 8] rfl (fun (m : Int) => (0 ≤ m) ∧ (m ≤ j)) (fun (m : Int) => [(9, .int .i64 m)]) (fun (m : Int) => []) (fun (m : Int) => j.toNat - m.toNat) (0) M ⟨(by omega), (by assumption)⟩ (F.keep [9, 0, 1, 2, 5, 6, 7, 8] rfl) ?_
            clear F M; clear a; (try clear w)
            rintro m a w ⟨m0, m1⟩ F M; try dsimp only at F M
            try simp only [List.cons_append, List.nil_append] at F M
            try dsimp only at m0 m1
            refine wp_seq ?_
            refine wp_seq ?_
            refine wp_region_l [.ind, .ind, .ind] ([0, 1, 2]) rfl ?_
            refine s_I F rfl rfl rfl rfl rfl rfl ?_; clear F a; intro a F
            refine s_I F rfl rfl rfl rfl rfl rfl ?_; clear F a; intro a F
            refine s_bin F rfl rfl rfl rfl rfl rfl rfl ?_; clear F a; intro a F
            refine t_endM M ?_; (clear M; try clear w); intro w M
            refine c_if F rfl ?_ ?_
            ·
              clear F; intro hc17 F
              try rw [hc17] at F
              replace hc17 := of_decide_eq_true hc17
              refine wp_skip ?_
              refine wp_seq ?_
              refine wp_block ?_
              refine wp_seq ?_
              replace F := F.keep [0, 1, 2, 5, 6, 7, 8, 9] rfl
              refine wp_region_t [.ind, .ind, .ind, .ind, .rd, .ind, .ind, .ind, .ind, .rd, .ind, .ind, .ind, .ind, .ind, .ind, .rd, .ind, .ind, .ind, .ind, .rd, .ind, .ind] [] (otOf [0, 1, 2, 3, 4, 5, 6, 7, 8, 9, 10, 11, 12, 13, 14, 15, 16, 17, 18, 19, 20, 21, 22, 23]) mixed (by kernel_rfl) ?_
              refine s_I F rfl rfl rfl rfl rfl rfl ?_; clear F a; intro a F
              refine s_I F rfl rfl rfl rfl rfl rfl ?_; clear F a; intro a F
              refine s_ix F rfl rfl rfl rfl sl_22_A10 rfl rfl (by exact SlOk.rd M.h1) (by omega) (by omega) ?_; clear F a; intro e97 he97 a F
              try (obtain rfl := Option.some.inj (he58.symm.trans he97))
              try (obtain rfl := Option.some.inj (he67.symm.trans he97))
              refine s_fa F rfl rfl rfl rfl fa_32_0_A10 rfl ?_; clear F a; intro a F
              refine s_ld F rfl rfl rfl rfl sc_3_A10 rfl (by exact rdX (SlOk.rd M.h1) (by intro e; rfl) he97 rfl) ?_; clear F a; intro a F
              refine s_I F rfl rfl rfl rfl rfl rfl ?_; clear F a; intro a F
              refine s_I F rfl rfl rfl rfl rfl rfl ?_; clear F a; intro a F
              refine s_ix F rfl rfl rfl rfl sl_22_A10 rfl rfl (by exact SlOk.rd M.h1) (by omega) (by omega) ?_; clear F a; intro e102 he102 a F
              try (obtain rfl := Option.some.inj (he58.symm.trans he102))
              try (obtain rfl := Option.some.inj (he67.symm.trans he102))
              try (obtain rfl := Option.some.inj (he97.symm.trans he102))
              refine s_fa F rfl rfl rfl rfl fa_32_0_A10 rfl ?_; clear F a; intro a F
              refine s_ld F rfl rfl rfl rfl sc_3_A10 rfl (by exact rdX (SlOk.rd M.h1) (by intro e; rfl) he102 rfl) ?_; clear F a; intro a F
              refine s_bin F rfl rfl rfl rfl rfl rfl rfl ?_; clear F a; intro a F
              refine s_I F rfl rfl rfl rfl rfl rfl ?_; clear F a; intro a F
              refine bsplit F 106 rfl ?_ ?_
              ·
                clear F; intro hc18 F
                try rw [hc18] at F
                replace hc18 := of_decide_eq_true hc18
                refine s_I F rfl rfl rfl rfl rfl rfl ?_; clear F a; intro a F
                refine s_I F rfl rfl rfl rfl rfl rfl ?_; clear F a; intro a F
                refine s_ix F rfl rfl rfl rfl sl_22_A10 rfl rfl (by exact SlOk.rd M.h1) (by omega) (by omega) ?_; clear F a; intro e109 he109 a F
                try (obtain rfl := Option.some.inj (he58.symm.trans he109))
                try (obtain rfl := Option.some.inj (he67.symm.trans he109))
                try (obtain rfl := Option.some.inj (he97.symm.trans he109))
                try (obtain rfl := Option.some.inj (he102.symm.trans he109))
                refine s_fa F rfl rfl rfl rfl fa_32_2_A10 rfl ?_; clear F a; intro a F
                refine s_ld F rfl rfl rfl rfl sc_3_A10 rfl (by exact rdX (SlOk.rd M.h1) (by intro e; rfl) he109 rfl) ?_; clear F a; intro a F
                refine s_I F rfl rfl rfl rfl rfl rfl ?_; clear F a; intro a F
                refine s_I F rfl rfl rfl rfl rfl rfl ?_; clear F a; intro a F
                refine s_ix F rfl rfl rfl rfl sl_22_A10 rfl rfl (by exact SlOk.rd M.h1) (by omega) (by omega) ?_; clear F a; intro e114 he114 a F
                try (obtain rfl := Option.some.inj (he58.symm.trans he114))
                try (obtain rfl := Option.some.inj (he67.symm.trans he114))
                try (obtain rfl := Option.some.inj (he97.symm.trans he114))
                try (obtain rfl := Option.some.inj (he102.symm.trans he114))
                try (obtain rfl := Option.some.inj (he109.symm.trans he114))
                refine s_fa F rfl rfl rfl rfl fa_32_2_A10 rfl ?_; clear F a; intro a F
                refine s_ld F rfl rfl rfl rfl sc_3_A10 rfl (by exact rdX (SlOk.rd M.h1) (by intro e; rfl) he114 rfl) ?_; clear F a; intro a F
                refine s_bin F rfl rfl rfl rfl rfl rfl rfl ?_; clear F a; intro a F
                refine s_I F rfl rfl rfl rfl rfl rfl ?_; clear F a; intro a F
                refine t_endM M ?_; (clear M; try clear w); intro w M
                refine c_if F rfl ?_ ?_
                ·
                  clear F; intro hc19 F
                  try rw [hc19] at F
                  replace hc19 := of_decide_eq_true hc19
                  exfalso
                  have hlt := said_lt hS.srt he97 he102 (by omega)
                  unfold key at hlt
                  omega
                ·
                  clear F; intro hc20 F
                  try rw [hc20] at F
                  replace hc20 := of_decide_eq_false hc20
                  refine wp_skip ?_
                  replace F := F.keep [0, 1, 2, 5, 6, 7, 8, 9] rfl
                  refine wp_region_l [.ind, .ind, .ind] ([0, 1, 2]) rfl ?_
                  refine s_I F rfl rfl rfl rfl rfl rfl ?_; clear F a; intro a F
                  refine s_add F rfl rfl rfl rfl rfl rfl (by unfold In64; omega) ?_; clear F a; intro a F
                  refine s_I F rfl rfl rfl rfl rfl rfl ?_; clear F a; intro a F
                  refine t_endM M ?_; (clear M; try clear w); intro w M
                  refine again (m + 1) (by show _ < _; (try dsimp only); omega) ⟨(by omega), (by assumption)⟩ (F.keep [9, 0, 1, 2, 5, 6, 7, 8] rfl) ?_
                  try dsimp only [List.cons_append, List.nil_append]
                  refine M.pick ?_; repeat (first | exact PkG.nil | refine PkG.cons 0 rfl rfl ?_ | refine PkG.cons 1 rfl rfl ?_ | refine PkG.cons 2 rfl rfl ?_)
              ·
                clear F; intro hc21 F
                try rw [hc21] at F
                replace hc21 := of_decide_eq_false hc21
                refine s_no F rfl rfl rfl rfl ?_; clear F a; intro a F
                refine s_no F rfl rfl rfl rfl ?_; clear F a; intro a F
                refine s_no F rfl rfl rfl rfl ?_; clear F a; intro a F
                refine s_no F rfl rfl rfl rfl ?_; clear F a; intro a F
                refine s_no F rfl rfl rfl rfl ?_; clear F a; intro a F
                refine s_no F rfl rfl rfl rfl ?_; clear F a; intro a F
                refine s_no F rfl rfl rfl rfl ?_; clear F a; intro a F
                refine s_no F rfl rfl rfl rfl ?_; clear F a; intro a F
                refine s_no F rfl rfl rfl rfl ?_; clear F a; intro a F
                refine s_no F rfl rfl rfl rfl ?_; clear F a; intro a F
                refine s_no F rfl rfl rfl rfl ?_; clear F a; intro a F
                refine s_I F rfl rfl rfl rfl rfl rfl ?_; clear F a; intro a F
                refine t_endM M ?_; (clear M; try clear w); intro w M
                refine c_f F rfl ?_
                refine wp_skip ?_
                replace F := F.keep [0, 1, 2, 5, 6, 7, 8, 9] rfl
                refine wp_region_l [.ind, .ind, .ind] ([0, 1, 2]) rfl ?_
                refine s_I F rfl rfl rfl rfl rfl rfl ?_; clear F a; intro a F
                refine s_add F rfl rfl rfl rfl rfl rfl (by unfold In64; omega) ?_; clear F a; intro a F
                refine s_I F rfl rfl rfl rfl rfl rfl ?_; clear F a; intro a F
                refine t_endM M ?_; (clear M; try clear w); intro w M
                refine again (m + 1) (by show _ < _; (try dsimp only); omega) ⟨(by omega), (by assumption)⟩ (F.keep [9, 0, 1, 2, 5, 6, 7, 8] rfl) ?_
                try dsimp only [List.cons_append, List.nil_append]
                refine M.pick ?_; repeat (first | exact PkG.nil | refine PkG.cons 0 rfl rfl ?_ | refine PkG.cons 1 rfl rfl ?_ | refine PkG.cons 2 rfl rfl ?_)
            ·
              clear F; intro hc22 F
              try rw [hc22] at F
              replace hc22 := of_decide_eq_false hc22
              refine wp_exit ?_
              replace F := F.keep [0, 1, 2, 5, 6, 7, 8, 9] rfl
              refine wp_region_l [.ind, .ind, .ind] ([0, 1, 2]) rfl ?_
              refine s_I F rfl rfl rfl rfl rfl rfl ?_; clear F a; intro a F
              refine s_add F rfl rfl rfl rfl rfl rfl (by unfold In64; omega) ?_; clear F a; intro a F
              refine s_I F rfl rfl rfl rfl rfl rfl ?_; clear F a; intro a F
              refine t_endM M ?_; (clear M; try clear w); intro w M
              refine again (j + 1) (by show _ < _; (try dsimp only); omega) ⟨(by omega), (by assumption)⟩ (F.keep [8, 0, 1, 2, 5, 6, 7] rfl) ?_
              try dsimp only [List.cons_append, List.nil_append]
              refine M.pick ?_; repeat (first | exact PkG.nil | refine PkG.cons 0 rfl rfl ?_ | refine PkG.cons 1 rfl rfl ?_ | refine PkG.cons 2 rfl rfl ?_)
      ·
        clear F; intro hc23 F
        try rw [hc23] at F
        replace hc23 := of_decide_eq_false hc23
        refine wp_exit ?_
        refine wp_seq ?_
        replace F := F.keep [0, 1, 2, 5, 6, 7, 8] rfl
        refine wp_region_l [.wr, .ind] ([0, 1]) rfl ?_
        refine s_cq F M rfl rfl rfl rfl rfl (rfl : _ = some []) cb_37_A10 (fun nd_ => c37 _) ?_; (clear F a M; try clear w); rintro v w rfl M a F
        refine s_I F rfl rfl rfl rfl rfl rfl ?_; clear F a; intro a F
        refine t_endM M ?_; (clear M; try clear w); intro w M
        refine wp_ret ?_
        refine ret1 F rfl rfl ?_
        -- end 0
        exact ⟨_, rfl, rfl, M.chg⟩
set_option maxRecDepth 100000 in
set_option maxHeartbeats 4000000 in
theorem law10d (n t me h : Int) (s : ByteArray) (l : List Wrd) (v : Value) (w0 : World) (hr : RdSl w0.heap v l.length 5 (l.flatMap encW)) (hf : few l) (hs : s.size ≤ 5000) (hk : okA n t me h s = true) : Cl Try.prog 10 #[.agg #[.int .i64 n, .int .i64 t, .int .i64 me, .int .i64 h, .string s], v] w0 (RetQ w0 fun v => v = .bool true) := by
  have M : Sep (fun _ => False) w0 w0 _ := Sep.nil _ w0
  have hro := (ro_of hr)
  obtain ⟨A, cc, rfl, hcc⟩ := hr.form
  have hl60 := hf.1
  refine enter (vs := [_, _]) Try.func10 rfl rfl rfl ?_
  intro a F
  refine wp_seq ?_
  refine wp_region_l [.wr, .ind] ([0, 1]) rfl ?_
  refine s_bxA F M rfl rfl rfl rfl rfl ?_; (clear F a M; try clear w); intro b2 w M a F
  refine s_I F rfl rfl rfl rfl rfl rfl ?_; clear F a; intro a F
  refine t_endM M ?_; (clear M; try clear w); intro w M
  refine wp_seq ?_
  refine wp_seq ?_
  refine wp_region_l [.ind, .wr, .ind, .ind, .ind, .rd, .ind, .ind, .ind] ([0, 1, 2, 3, 4, 5, 6, 7, 8]) rfl ?_
  refine s_I F rfl rfl rfl rfl rfl rfl ?_; clear F a; intro a F
  refine s_cq F M rfl rfl rfl rfl rfl (rfl : _ = some [_]) cb_38_A10 (fun nd_ => c38y _ hf (M.chg.ro hro)) ?_; (clear F a M; try clear w); rintro v w rfl M a F
  refine s_bin F rfl rfl rfl rfl rfl rfl rfl ?_; clear F a; intro a F
  replace F : Fr _ _ ((17, Value.bool false) :: _) := F
  refine s_I F rfl rfl rfl rfl rfl rfl ?_; clear F a; intro a F
  refine s_fa0 F rfl rfl rfl rfl fa_48_4_A10 rfl ?_; clear F a; intro a F
  refine s_ld F rfl rfl rfl rfl sc_9_A10 rfl (by exact cell_of_blk M.h0 (lit rfl)) ?_; clear F a; intro a F
  refine s_lenS F rfl rfl rfl rfl st_9_A10 rfl ?_; clear F a; intro a F
  refine s_bin F rfl rfl rfl rfl rfl rfl rfl ?_; clear F a; intro a F
  refine s_I F rfl rfl rfl rfl rfl rfl ?_; clear F a; intro a F
  refine t_endM M ?_; (clear M; try clear w); intro w M
  refine c_if F rfl ?_ ?_
  ·
    clear F; intro hc0 F
    try rw [hc0] at F
    replace hc0 := of_decide_eq_true hc0
    exfalso
    omega
  ·
    clear F; intro hc1 F
    try rw [hc1] at F
    replace hc1 := of_decide_eq_false hc1
    refine wp_skip ?_
    refine wp_seq ?_
    replace F := F.keep [0, 1, 2, 4] rfl
    refine wp_region_l [.ind, .rd, .ind, .rd, .ind, .rd, .ind, .rd, .ind, .rd, .wr, .ind] ([0, 1, 2, 3, 4, 5, 6, 7, 8, 9, 10, 11]) rfl ?_
    refine s_fa0 F rfl rfl rfl rfl fa_48_0_A10 rfl ?_; clear F a; intro a F
    refine s_ld F rfl rfl rfl rfl sc_3_A10 rfl (by exact cell_of_blk M.h0 (lit rfl)) ?_; clear F a; intro a F
    refine s_fa0 F rfl rfl rfl rfl fa_48_1_A10 rfl ?_; clear F a; intro a F
    refine s_ld F rfl rfl rfl rfl sc_3_A10 rfl (by exact cell_of_blk M.h0 (lit rfl)) ?_; clear F a; intro a F
    refine s_fa0 F rfl rfl rfl rfl fa_48_2_A10 rfl ?_; clear F a; intro a F
    refine s_ld F rfl rfl rfl rfl sc_3_A10 rfl (by exact cell_of_blk M.h0 (lit rfl)) ?_; clear F a; intro a F
    refine s_fa0 F rfl rfl rfl rfl fa_48_3_A10 rfl ?_; clear F a; intro a F
    refine s_ld F rfl rfl rfl rfl sc_3_A10 rfl (by exact cell_of_blk M.h0 (lit rfl)) ?_; clear F a; intro a F
    refine s_fa0 F rfl rfl rfl rfl fa_48_4_A10 rfl ?_; clear F a; intro a F
    refine s_ld F rfl rfl rfl rfl sc_9_A10 rfl (by exact cell_of_blk M.h0 (lit rfl)) ?_; clear F a; intro a F
    refine s_call (m := []) F M rfl rfl rfl rfl rfl (rfl : _ = some [_, _, _, _, _]) cb_39_A10 (fun nd_ => c39r n t me h s hk _) ?_; (clear F a M; try clear w); rintro v g0 w rfl M a F; (try simp only [List.cons_append, List.nil_append] at M)
    refine s_I F rfl rfl rfl rfl rfl rfl ?_; clear F a; intro a F
    refine t_endM M ?_; (clear M; try clear w); intro w M
    refine wp_seq ?_
    refine wp_seq ?_
    replace F := F.keep [0, 1, 2, 4, 5] rfl
    refine wp_region_l [.ind, .ind] ([0, 1]) rfl ?_
    refine s_I F rfl rfl rfl rfl rfl rfl ?_; clear F a; intro a F
    refine s_pn F rfl rfl rfl rfl pt_50_A10 rfl ?_; clear F a; intro a F
    replace F : Fr _ _ ((37, Value.bool false) :: _) := F
    refine t_endM M ?_; (clear M; try clear w); intro w M
    refine c_f F rfl ?_
    refine wp_skip ?_
    refine wp_seq ?_
    replace F := F.keep [0, 1, 2, 4, 5] rfl
    refine wp_region_l [.ind, .wr] ([0, 1]) rfl ?_
    refine s_I F rfl rfl rfl rfl rfl rfl ?_; clear F a; intro a F
    have M1 : Sep _ _ _ (agR _ _ :: _) := M; replace M := M1; clear M1
    refine s_call (m := [_]) F M rfl rfl rfl rfl rfl (rfl : _ = some [_]) cb_44_A10 (fun nd_ => c44r g0 (newA n t me h s) _ (M.drewN nd_).own.one) ?_; (clear F a M; try clear w); rintro v x w rfl M a F; (try simp only [List.cons_append, List.nil_append] at M)
    refine t_endM M ?_; (clear M; try clear w); intro w M
    refine wp_seq ?_
    replace F := F.keep [0, 1, 2, 4, 5] rfl
    refine wp_region_l [.ind, .wr, .ind, .ind, .ind, .ind, .ind] ([0, 1, 2, 3, 4, 5, 6]) rfl ?_
    refine s_I F rfl rfl rfl rfl rfl rfl ?_; clear F a; intro a F
    refine s_cq F M rfl rfl rfl rfl rfl (rfl : _ = some [_]) cb_47_A10 (fun nd_ => c47r g0 (newA n t me h s).start _ (by exact M.h0)) ?_; (clear F a M; try clear w); rintro v w rfl M a F
    refine s_I F rfl rfl rfl rfl rfl rfl ?_; clear F a; intro a F
    refine s_I F rfl rfl rfl rfl rfl rfl ?_; clear F a; intro a F
    refine s_I F rfl rfl rfl rfl rfl rfl ?_; clear F a; intro a F
    refine s_I F rfl rfl rfl rfl rfl rfl ?_; clear F a; intro a F
    refine s_I F rfl rfl rfl rfl rfl rfl ?_; clear F a; intro a F
    refine t_endM M ?_; (clear M; try clear w); intro w M
    refine wp_seq ?_
    refine wp_seq ?_
    replace F := F.keep [0, 1, 2, 4, 5, 7] rfl
    refine wp_region_l [.ind] ([0]) rfl ?_
    refine s_I F rfl rfl rfl rfl rfl rfl ?_; clear F a; intro a F
    refine t_endM M ?_; (clear M; try clear w); intro w M
    refine wp_block ?_
    have M1 : Sep _ _ _ (agR _ _ :: _) := M; replace M := M1; clear M1
    refine loopX (X := (Int) × (Ga) × (ASt)) F [0, 1, 2, 5] rfl (fun ((i, g, c) : (Int) × (Ga) × (ASt)) => (0 ≤ i) ∧ (i ≤ l.length) ∧ (g.b = g0.b) ∧ (c.Wf)) (fun ((i, g, c) : (Int) × (Ga) × (ASt)) => [(7, .int .i64 c.lockR), (8, .int .i64 i)]) (fun ((i, g, c) : (Int) × (Ga) × (ASt)) => [agR g c]) (fun ((i, g, c) : (Int) × (Ga) × (ASt)) => l.length - i.toNat) ((0), (g0), ((newA n t me h s).start)) M ⟨(by omega), (by omega), rfl, (start_wf (newA_wf hk)).1⟩ (F.keep [7, 8, 0, 1, 2, 5] rfl) ?_
    clear F M; clear a; (try clear w)
    rintro ⟨i, g, c⟩ a w ⟨i0, i1, hg, hW⟩ F M; try dsimp only at F M
    try simp only [List.cons_append, List.nil_append] at F M
    try dsimp only at i0 i1 hg hW
    rw [← hg] at F
    refine wp_seq ?_
    refine wp_seq ?_
    refine wp_region_l [.ind, .ind, .ind, .ind] ([0, 1, 2, 3]) rfl ?_
    refine s_I F rfl rfl rfl rfl rfl rfl ?_; clear F a; intro a F
    refine s_I F rfl rfl rfl rfl rfl rfl ?_; clear F a; intro a F
    refine s_len F rfl rfl rfl rfl sl_22_A10 rfl ?_; clear F a; intro a F
    refine s_bin F rfl rfl rfl rfl rfl rfl rfl ?_; clear F a; intro a F
    refine t_endM M ?_; (clear M; try clear w); intro w M
    refine c_if F rfl ?_ ?_
    ·
      clear F; intro hc2 F
      try rw [hc2] at F
      replace hc2 := of_decide_eq_true hc2
      refine wp_skip ?_
      refine wp_seq ?_
      refine wp_block ?_
      refine wp_seq ?_
      replace F := F.keep [0, 1, 2, 5, 7, 8] rfl
      refine wp_region_l [.ind, .ind, .ind, .ind, .rd, .wr, .ind] ([0, 1, 2, 3, 4, 5, 6]) rfl ?_
      refine s_I F rfl rfl rfl rfl rfl rfl ?_; clear F a; intro a F
      refine s_I F rfl rfl rfl rfl rfl rfl ?_; clear F a; intro a F
      refine s_I F rfl rfl rfl rfl rfl rfl ?_; clear F a; intro a F
      refine s_ix F rfl rfl rfl rfl sl_22_A10 rfl rfl (by exact M.chg.ro hro) (by omega) (by omega) ?_; clear F a; intro e55 he55 a F
      refine s_lda F rfl rfl rfl rfl ag_32_A10 rfl rfl (rdsX (M.chg.ro hro) (by intro e; rfl) he55) ?_; clear F a; intro a F
      have M1 : Sep _ _ _ (agR _ _ :: _) := M; replace M := M1; clear M1
      refine s_call (m := [_]) F M rfl rfl rfl rfl rfl (rfl : _ = some [_, _]) cb_41_A10 (fun nd_ => c41r g c e55 hW _ (M.drewN nd_).own.one) ?_; (clear F a M; try clear w); rintro v x w rfl M a F; (try simp only [List.cons_append, List.nil_append] at M)
      obtain ⟨v1, o1⟩ := x
      dsimp only at M F
      obtain ⟨A4, cc4, rfl⟩ := SlOk.form M.h1
      have htl := take_len hW e55
      have hW2 := (take_wf hW e55).1
      obtain ⟨lk1, lk2⟩ := take_lk hW e55
      have lk3 := hW2.l1
      refine s_I F rfl rfl rfl rfl rfl rfl ?_; clear F a; intro a F
      refine t_endM M ?_; (clear M; try clear w); intro w M
      refine wp_seq ?_
      replace F := F.keep [0, 1, 2, 5, 7, 8, 9] rfl
      refine wp_region_l [.ind, .wr, .ind, .ind, .ind, .ind, .ind] ([0, 1, 2, 3, 4, 5, 6]) rfl ?_
      refine s_I F rfl rfl rfl rfl rfl rfl ?_; clear F a; intro a F
      refine s_cq F M rfl rfl rfl rfl rfl (rfl : _ = some [_]) cb_47_A10 (fun nd_ => c47r ⟨g.b, g.vb, v1⟩ (c.take e55).1 _ (by exact M.h0)) ?_; (clear F a M; try clear w); rintro v w rfl M a F
      refine s_I F rfl rfl rfl rfl rfl rfl ?_; clear F a; intro a F
      refine s_I F rfl rfl rfl rfl rfl rfl ?_; clear F a; intro a F
      refine s_I F rfl rfl rfl rfl rfl rfl ?_; clear F a; intro a F
      refine s_I F rfl rfl rfl rfl rfl rfl ?_; clear F a; intro a F
      refine s_I F rfl rfl rfl rfl rfl rfl ?_; clear F a; intro a F
      refine t_endM M ?_; (clear M; try clear w); intro w M
      refine wp_seq ?_
      replace F := F.keep [0, 1, 2, 5, 7, 8, 9, 10, 11] rfl
      refine wp_region_l [.ind, .wr, .ind, .ind, .ind, .ind, .ind] ([0, 1, 2, 3, 4, 5, 6]) rfl ?_
      refine s_I F rfl rfl rfl rfl rfl rfl ?_; clear F a; intro a F
      refine s_cq F M rfl rfl rfl rfl rfl (rfl : _ = some [_]) cb_46_A10 (fun nd_ => c46r ⟨g.b, g.vb, v1⟩ (c.take e55).1 _ (by exact M.h0)) ?_; (clear F a M; try clear w); rintro v w rfl M a F
      refine s_I F rfl rfl rfl rfl rfl rfl ?_; clear F a; intro a F
      refine s_I F rfl rfl rfl rfl rfl rfl ?_; clear F a; intro a F
      refine s_I F rfl rfl rfl rfl rfl rfl ?_; clear F a; intro a F
      refine s_I F rfl rfl rfl rfl rfl rfl ?_; clear F a; intro a F
      refine s_I F rfl rfl rfl rfl rfl rfl ?_; clear F a; intro a F
      refine t_endM M ?_; (clear M; try clear w); intro w M
      refine wp_seq ?_
      refine wp_seq ?_
      replace F := F.keep [0, 1, 2, 5, 7, 8, 9, 10, 11, 12] rfl
      refine wp_region_l [.ind, .ind, .ind, .ind, .ind, .ind, .ind, .ind] ([0, 1, 2, 3, 4, 5, 6, 7]) rfl ?_
      refine s_I F rfl rfl rfl rfl rfl rfl ?_; clear F a; intro a F
      refine s_I F rfl rfl rfl rfl rfl rfl ?_; clear F a; intro a F
      refine s_bin F rfl rfl rfl rfl rfl rfl rfl ?_; clear F a; intro a F
      refine s_I F rfl rfl rfl rfl rfl rfl ?_; clear F a; intro a F
      refine bsplit F 71 rfl ?_ ?_
      ·
        clear F; intro hc3 F
        try rw [hc3] at F
        replace hc3 := of_decide_eq_true hc3
        exfalso
        omega
      ·
        clear F; intro hc4 F
        try rw [hc4] at F
        replace hc4 := of_decide_eq_false hc4
        refine s_I F rfl rfl rfl rfl rfl rfl ?_; clear F a; intro a F
        refine s_I F rfl rfl rfl rfl rfl rfl ?_; clear F a; intro a F
        refine s_bin F rfl rfl rfl rfl rfl rfl rfl ?_; clear F a; intro a F
        refine s_I F rfl rfl rfl rfl rfl rfl ?_; clear F a; intro a F
        refine t_endM M ?_; (clear M; try clear w); intro w M
        refine c_if F rfl ?_ ?_
        ·
          clear F; intro hc5 F
          try rw [hc5] at F
          replace hc5 := of_decide_eq_true hc5
          exfalso
          omega
        ·
          clear F; intro hc6 F
          try rw [hc6] at F
          replace hc6 := of_decide_eq_false hc6
          refine wp_skip ?_
          refine wp_seq ?_
          refine wp_seq ?_
          replace F := F.keep [0, 1, 2, 5, 7, 8, 9, 10, 11, 12] rfl
          refine wp_region_l [.ind] ([0]) rfl ?_
          refine s_I F rfl rfl rfl rfl rfl rfl ?_; clear F a; intro a F
          refine t_endM M ?_; (clear M; try clear w); intro w M
          refine wp_block ?_
          refine loopX (X := (Int)) F [0, 1, 2, 5, 7, 8, 9, 10, 11, 12] rfl (fun (j : Int) => (0 ≤ j) ∧ (j ≤ (c.take e55).2.length)) (fun (j : Int) => [(14, .int .i64 j)]) (fun (j : Int) => []) (fun (j : Int) => (c.take e55).2.length - j.toNat) (0) M ⟨(by omega), (by omega)⟩ (F.keep [14, 0, 1, 2, 5, 7, 8, 9, 10, 11, 12] rfl) ?_
          clear F M; clear a; (try clear w)
          rintro j a w ⟨j0, j1⟩ F M; try dsimp only at F M
          try simp only [List.cons_append, List.nil_append] at F M
          try dsimp only at j0 j1
          refine wp_seq ?_
          refine wp_seq ?_
          refine wp_region_l [.ind, .ind, .ind, .ind] ([0, 1, 2, 3]) rfl ?_
          refine s_I F rfl rfl rfl rfl rfl rfl ?_; clear F a; intro a F
          refine s_I F rfl rfl rfl rfl rfl rfl ?_; clear F a; intro a F
          refine s_len F rfl rfl rfl rfl sl_22_A10 rfl ?_; clear F a; intro a F
          refine s_bin F rfl rfl rfl rfl rfl rfl rfl ?_; clear F a; intro a F
          refine t_endM M ?_; (clear M; try clear w); intro w M
          refine c_if F rfl ?_ ?_
          ·
            clear F; intro hc7 F
            try rw [hc7] at F
            replace hc7 := of_decide_eq_true hc7
            refine wp_skip ?_
            refine wp_seq ?_
            refine wp_block ?_
            refine wp_seq ?_
            replace F := F.keep [0, 1, 2, 5, 7, 8, 9, 10, 11, 12, 14] rfl
            refine wp_region_l [.ind, .ind, .ind, .ind, .rd, .ind, .ind, .ind, .ind, .ind, .ind, .rd, .ind, .ind, .ind, .ind, .ind, .ind, .ind, .rd, .ind, .ind, .ind, .ind, .ind, .ind, .ind, .rd, .ind, .ind, .ind, .ind] ([0, 1, 2, 3, 4, 5, 6, 7, 8, 9, 10, 11, 12, 13, 14, 15, 16, 17, 18, 19, 20, 21, 22, 23, 24, 25, 26, 27, 28, 29, 30, 31]) rfl ?_
            refine s_I F rfl rfl rfl rfl rfl rfl ?_; clear F a; intro a F
            refine s_I F rfl rfl rfl rfl rfl rfl ?_; clear F a; intro a F
            refine s_ix F rfl rfl rfl rfl sl_22_A10 rfl rfl (by exact SlOk.rd M.h1) (by omega) (by omega) ?_; clear F a; intro e84 he84 a F
            try (obtain rfl := Option.some.inj (he55.symm.trans he84))
            refine s_fa F rfl rfl rfl rfl fa_32_0_A10 rfl ?_; clear F a; intro a F
            refine s_ld F rfl rfl rfl rfl sc_3_A10 rfl (by exact rdX (SlOk.rd M.h1) (by intro e; rfl) he84 rfl) ?_; clear F a; intro a F
            refine s_bin F rfl rfl rfl rfl rfl rfl rfl ?_; clear F a; intro a F
            refine s_I F rfl rfl rfl rfl rfl rfl ?_; clear F a; intro a F
            refine bsplit F 88 rfl ?_ ?_
            ·
              clear F; intro hc8 F
              try rw [hc8] at F
              replace hc8 := of_decide_eq_true hc8
              refine s_I F rfl rfl rfl rfl rfl rfl ?_; clear F a; intro a F
              refine s_I F rfl rfl rfl rfl rfl rfl ?_; clear F a; intro a F
              refine s_ix F rfl rfl rfl rfl sl_22_A10 rfl rfl (by exact SlOk.rd M.h1) (by omega) (by omega) ?_; clear F a; intro e91 he91 a F
              try (obtain rfl := Option.some.inj (he55.symm.trans he91))
              try (obtain rfl := Option.some.inj (he84.symm.trans he91))
              refine s_fa F rfl rfl rfl rfl fa_32_4_A10 rfl ?_; clear F a; intro a F
              refine s_ld F rfl rfl rfl rfl sc_9_A10 rfl (by exact rdX (SlOk.rd M.h1) (by intro e; rfl) he91 rfl) ?_; clear F a; intro a F
              refine s_bin F rfl rfl rfl rfl rfl rfl rfl ?_; clear F a; intro a F
              refine s_I F rfl rfl rfl rfl rfl rfl ?_; clear F a; intro a F
              refine s_I F rfl rfl rfl rfl rfl rfl ?_; clear F a; intro a F
              refine bsplit F 96 rfl ?_ ?_
              ·
                clear F; intro hc9 F
                try rw [hc9] at F
                replace hc9 := nd1 hc9
                refine s_I F rfl rfl rfl rfl rfl rfl ?_; clear F a; intro a F
                refine s_I F rfl rfl rfl rfl rfl rfl ?_; clear F a; intro a F
                refine s_ix F rfl rfl rfl rfl sl_22_A10 rfl rfl (by exact SlOk.rd M.h1) (by omega) (by omega) ?_; clear F a; intro e99 he99 a F
                try (obtain rfl := Option.some.inj (he55.symm.trans he99))
                try (obtain rfl := Option.some.inj (he84.symm.trans he99))
                try (obtain rfl := Option.some.inj (he91.symm.trans he99))
                refine s_fa F rfl rfl rfl rfl fa_32_4_A10 rfl ?_; clear F a; intro a F
                refine s_ld F rfl rfl rfl rfl sc_9_A10 rfl (by exact rdX (SlOk.rd M.h1) (by intro e; rfl) he99 rfl) ?_; clear F a; intro a F
                refine s_I F rfl rfl rfl rfl rfl rfl ?_; clear F a; intro a F
                refine s_bin F rfl rfl rfl rfl rfl rfl rfl ?_; clear F a; intro a F
                refine s_I F rfl rfl rfl rfl rfl rfl ?_; clear F a; intro a F
                refine bsplit F 104 rfl ?_ ?_
                ·
                  clear F; intro hc10 F
                  try rw [hc10] at F
                  replace hc10 := nd1 hc10
                  exact absurd (lk2 e84 (List.mem_of_getElem? he84) (by assumption) (by assumption)).1 (by assumption)
                ·
                  clear F; intro hc11 F
                  try rw [hc11] at F
                  replace hc11 := nd0 hc11
                  refine s_I F rfl rfl rfl rfl rfl rfl ?_; clear F a; intro a F
                  refine s_I F rfl rfl rfl rfl rfl rfl ?_; clear F a; intro a F
                  refine s_ix F rfl rfl rfl rfl sl_22_A10 rfl rfl (by exact SlOk.rd M.h1) (by omega) (by omega) ?_; clear F a; intro e107 he107 a F
                  try (obtain rfl := Option.some.inj (he55.symm.trans he107))
                  try (obtain rfl := Option.some.inj (he84.symm.trans he107))
                  try (obtain rfl := Option.some.inj (he91.symm.trans he107))
                  try (obtain rfl := Option.some.inj (he99.symm.trans he107))
                  refine s_fa F rfl rfl rfl rfl fa_32_2_A10 rfl ?_; clear F a; intro a F
                  refine s_ld F rfl rfl rfl rfl sc_3_A10 rfl (by exact rdX (SlOk.rd M.h1) (by intro e; rfl) he107 rfl) ?_; clear F a; intro a F
                  refine s_I F rfl rfl rfl rfl rfl rfl ?_; clear F a; intro a F
                  refine s_bin F rfl rfl rfl rfl rfl rfl rfl ?_; clear F a; intro a F
                  refine s_I F rfl rfl rfl rfl rfl rfl ?_; clear F a; intro a F
                  refine s_I F rfl rfl rfl rfl rfl rfl ?_; clear F a; intro a F
                  refine t_endM M ?_; (clear M; try clear w); intro w M
                  refine c_if F rfl ?_ ?_
                  ·
                    clear F; intro hc12 F
                    try rw [hc12] at F
                    replace hc12 := nd1 hc12
                    exact absurd (lk2 e84 (List.mem_of_getElem? he84) (by assumption) (by assumption)).2 (by assumption)
                  ·
                    clear F; intro hc13 F
                    try rw [hc13] at F
                    replace hc13 := nd0 hc13
                    refine wp_skip ?_
                    replace F := F.keep [0, 1, 2, 5, 7, 8, 9, 10, 11, 12, 14] rfl
                    refine wp_region_l [.ind, .ind, .ind] ([0, 1, 2]) rfl ?_
                    refine s_I F rfl rfl rfl rfl rfl rfl ?_; clear F a; intro a F
                    refine s_add F rfl rfl rfl rfl rfl rfl (by unfold In64; omega) ?_; clear F a; intro a F
                    refine s_I F rfl rfl rfl rfl rfl rfl ?_; clear F a; intro a F
                    refine t_endM M ?_; (clear M; try clear w); intro w M
                    refine again (j + 1) (by show _ < _; (try dsimp only); omega) ⟨(by omega), (by assumption)⟩ (F.keep [14, 0, 1, 2, 5, 7, 8, 9, 10, 11, 12] rfl) ?_
                    try dsimp only [List.cons_append, List.nil_append]
                    refine M.pick ?_; repeat (first | exact PkG.nil | refine PkG.cons 0 rfl rfl ?_ | refine PkG.cons 1 rfl rfl ?_ | refine PkG.cons 2 rfl rfl ?_ | refine PkG.cons 3 rfl rfl ?_)
              ·
                clear F; intro hc14 F
                try rw [hc14] at F
                replace hc14 := nd0 hc14
                refine s_no F rfl rfl rfl rfl ?_; clear F a; intro a F
                refine s_no F rfl rfl rfl rfl ?_; clear F a; intro a F
                refine s_no F rfl rfl rfl rfl ?_; clear F a; intro a F
                refine s_no F rfl rfl rfl rfl ?_; clear F a; intro a F
                refine s_no F rfl rfl rfl rfl ?_; clear F a; intro a F
                refine s_no F rfl rfl rfl rfl ?_; clear F a; intro a F
                refine s_no F rfl rfl rfl rfl ?_; clear F a; intro a F
                refine s_no F rfl rfl rfl rfl ?_; clear F a; intro a F
                refine s_no F rfl rfl rfl rfl ?_; clear F a; intro a F
                refine s_no F rfl rfl rfl rfl ?_; clear F a; intro a F
                refine s_no F rfl rfl rfl rfl ?_; clear F a; intro a F
                refine s_no F rfl rfl rfl rfl ?_; clear F a; intro a F
                refine s_no F rfl rfl rfl rfl ?_; clear F a; intro a F
                refine s_no F rfl rfl rfl rfl ?_; clear F a; intro a F
                refine s_no F rfl rfl rfl rfl ?_; clear F a; intro a F
                refine s_no F rfl rfl rfl rfl ?_; clear F a; intro a F
                refine s_I F rfl rfl rfl rfl rfl rfl ?_; clear F a; intro a F
                refine t_endM M ?_; (clear M; try clear w); intro w M
                refine c_f F rfl ?_
                refine wp_skip ?_
                replace F := F.keep [0, 1, 2, 5, 7, 8, 9, 10, 11, 12, 14] rfl
                refine wp_region_l [.ind, .ind, .ind] ([0, 1, 2]) rfl ?_
                refine s_I F rfl rfl rfl rfl rfl rfl ?_; clear F a; intro a F
                refine s_add F rfl rfl rfl rfl rfl rfl (by unfold In64; omega) ?_; clear F a; intro a F
                refine s_I F rfl rfl rfl rfl rfl rfl ?_; clear F a; intro a F
                refine t_endM M ?_; (clear M; try clear w); intro w M
                refine again (j + 1) (by show _ < _; (try dsimp only); omega) ⟨(by omega), (by assumption)⟩ (F.keep [14, 0, 1, 2, 5, 7, 8, 9, 10, 11, 12] rfl) ?_
                try dsimp only [List.cons_append, List.nil_append]
                refine M.pick ?_; repeat (first | exact PkG.nil | refine PkG.cons 0 rfl rfl ?_ | refine PkG.cons 1 rfl rfl ?_ | refine PkG.cons 2 rfl rfl ?_ | refine PkG.cons 3 rfl rfl ?_)
            ·
              clear F; intro hc15 F
              try rw [hc15] at F
              replace hc15 := of_decide_eq_false hc15
              refine s_no F rfl rfl rfl rfl ?_; clear F a; intro a F
              refine s_no F rfl rfl rfl rfl ?_; clear F a; intro a F
              refine s_no F rfl rfl rfl rfl ?_; clear F a; intro a F
              refine s_no F rfl rfl rfl rfl ?_; clear F a; intro a F
              refine s_no F rfl rfl rfl rfl ?_; clear F a; intro a F
              refine s_no F rfl rfl rfl rfl ?_; clear F a; intro a F
              refine s_I F rfl rfl rfl rfl rfl rfl ?_; clear F a; intro a F
              refine s_I F rfl rfl rfl rfl rfl rfl ?_; clear F a; intro a F
              refine s_no F rfl rfl rfl rfl ?_; clear F a; intro a F
              refine s_no F rfl rfl rfl rfl ?_; clear F a; intro a F
              refine s_no F rfl rfl rfl rfl ?_; clear F a; intro a F
              refine s_no F rfl rfl rfl rfl ?_; clear F a; intro a F
              refine s_no F rfl rfl rfl rfl ?_; clear F a; intro a F
              refine s_no F rfl rfl rfl rfl ?_; clear F a; intro a F
              refine s_no F rfl rfl rfl rfl ?_; clear F a; intro a F
              refine s_no F rfl rfl rfl rfl ?_; clear F a; intro a F
              refine s_no F rfl rfl rfl rfl ?_; clear F a; intro a F
              refine s_no F rfl rfl rfl rfl ?_; clear F a; intro a F
              refine s_no F rfl rfl rfl rfl ?_; clear F a; intro a F
              refine s_no F rfl rfl rfl rfl ?_; clear F a; intro a F
              refine s_no F rfl rfl rfl rfl ?_; clear F a; intro a F
              refine s_no F rfl rfl rfl rfl ?_; clear F a; intro a F
              refine s_no F rfl rfl rfl rfl ?_; clear F a; intro a F
              refine s_no F rfl rfl rfl rfl ?_; clear F a; intro a F
              refine s_I F rfl rfl rfl rfl rfl rfl ?_; clear F a; intro a F
              refine t_endM M ?_; (clear M; try clear w); intro w M
              refine c_f F rfl ?_
              refine wp_skip ?_
              replace F := F.keep [0, 1, 2, 5, 7, 8, 9, 10, 11, 12, 14] rfl
              refine wp_region_l [.ind, .ind, .ind] ([0, 1, 2]) rfl ?_
              refine s_I F rfl rfl rfl rfl rfl rfl ?_; clear F a; intro a F
              refine s_add F rfl rfl rfl rfl rfl rfl (by unfold In64; omega) ?_; clear F a; intro a F
              refine s_I F rfl rfl rfl rfl rfl rfl ?_; clear F a; intro a F
              refine t_endM M ?_; (clear M; try clear w); intro w M
              refine again (j + 1) (by show _ < _; (try dsimp only); omega) ⟨(by omega), (by assumption)⟩ (F.keep [14, 0, 1, 2, 5, 7, 8, 9, 10, 11, 12] rfl) ?_
              try dsimp only [List.cons_append, List.nil_append]
              refine M.pick ?_; repeat (first | exact PkG.nil | refine PkG.cons 0 rfl rfl ?_ | refine PkG.cons 1 rfl rfl ?_ | refine PkG.cons 2 rfl rfl ?_ | refine PkG.cons 3 rfl rfl ?_)
          ·
            clear F; intro hc16 F
            try rw [hc16] at F
            replace hc16 := of_decide_eq_false hc16
            refine wp_exit ?_
            replace F := F.keep [0, 1, 2, 5, 7, 8, 9, 10, 11, 12, 14] rfl
            refine wp_region_l [.ind, .ind] ([0, 1]) rfl ?_
            refine s_I F rfl rfl rfl rfl rfl rfl ?_; clear F a; intro a F
            refine s_I F rfl rfl rfl rfl rfl rfl ?_; clear F a; intro a F
            refine t_endM M ?_; (clear M; try clear w); intro w M
            replace F := F.keep [0, 1, 2, 5, 7, 8, 9, 10, 11, 12, 14] rfl
            refine wp_region_l [.ind, .ind, .ind] ([0, 1, 2]) rfl ?_
            refine s_I F rfl rfl rfl rfl rfl rfl ?_; clear F a; intro a F
            refine s_add F rfl rfl rfl rfl rfl rfl (by unfold In64; omega) ?_; clear F a; intro a F
            refine s_I F rfl rfl rfl rfl rfl rfl ?_; clear F a; intro a F
            refine t_endM M ?_; (clear M; try clear w); intro w M
            rw [hg] at F
            refine again ((i + 1), (⟨g.b, g.vb, v1⟩), ((c.take e55).1)) (by show _ < _; (try dsimp only); omega) ⟨(by omega), (by assumption), hg, hW2⟩ (F.keep [7, 8, 0, 1, 2, 5] rfl) ?_
            try dsimp only [List.cons_append, List.nil_append]
            refine M.pick ?_; repeat (first | exact PkG.nil | refine PkG.cons 0 rfl rfl ?_ | refine PkG.cons 2 rfl rfl ?_ | refine PkG.cons 3 rfl rfl ?_)
    ·
      clear F; intro hc17 F
      try rw [hc17] at F
      replace hc17 := of_decide_eq_false hc17
      refine wp_exit ?_
      refine wp_seq ?_
      replace F := F.keep [0, 1, 2, 5, 7, 8] rfl
      refine wp_region_l [.wr, .ind] ([0, 1]) rfl ?_
      refine s_cq F M rfl rfl rfl rfl rfl (rfl : _ = some []) cb_37_A10 (fun nd_ => c37 _) ?_; (clear F a M; try clear w); rintro v w rfl M a F
      refine s_I F rfl rfl rfl rfl rfl rfl ?_; clear F a; intro a F
      refine t_endM M ?_; (clear M; try clear w); intro w M
      refine wp_ret ?_
      refine ret1 F rfl rfl ?_
      -- end 0
      exact ⟨_, rfl, rfl, M.chg⟩
end Go.Proofs.Ytboibdmflblphaa
