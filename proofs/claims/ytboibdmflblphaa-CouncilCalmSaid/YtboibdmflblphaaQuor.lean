/-
  Counting: lists of different numbers, and what two of them have in common. No program is in sight.
-/
namespace Go.Proofs.Ytboibdmflblphaa.Quor

theorem nodup_lt : ∀ (N : Nat) (l : List Nat), l.Nodup → (∀ x ∈ l, x < N) → l.length ≤ N
  | 0, l, _, h => by
    cases l with
    | nil => simp
    | cons x l => exact absurd (h x List.mem_cons_self) (by omega)
  | N + 1, l, hn, h => by
    have h1 := nodup_lt N (l.filter (· ≠ N)) (hn.filter _) (fun x hx => by
      simp only [List.mem_filter, decide_eq_true_eq, ne_eq] at hx
      have := h x hx.1
      have := hx.2
      omega)
    have h2 : l.length ≤ (l.filter (· ≠ N)).length + 1 := by
      clear h h1
      induction l with
      | nil => simp
      | cons x l ih =>
        simp only [List.nodup_cons] at hn
        by_cases hx : x = N
        · subst hx
          have : l.filter (· ≠ x) = l := List.filter_eq_self.2 fun y hy => by
            have : y ≠ x := fun e => hn.1 (e ▸ hy)
            simpa using this
          rw [List.filter_cons_of_neg (by simp), this]
          simp
        · rw [List.filter_cons_of_pos (by simp [hx])]
          have := ih hn.2
          simp only [List.length_cons]
          omega
    omega

theorem map_nd {A : List Nat} {f : Nat → Nat} (hn : A.Nodup) (h : ∀ x ∈ A, ∀ y ∈ A, f x = f y → x = y) : (A.map f).Nodup := by
  induction A with
  | nil => simp
  | cons x A ih =>
    simp only [List.nodup_cons] at hn
    simp only [List.map_cons, List.nodup_cons]
    refine ⟨fun hm => ?_, ih hn.2 fun y hy z hz => h y (List.mem_cons_of_mem _ hy) z (List.mem_cons_of_mem _ hz)⟩
    obtain ⟨y, hy, e⟩ := List.mem_map.1 hm
    have := h y (List.mem_cons_of_mem _ hy) x List.mem_cons_self e
    exact hn.1 (this ▸ hy)

/-- At most t of them are beyond n - t. -/
theorem split_le {A : List Nat} {n t : Nat} (hn : A.Nodup) (h : ∀ x ∈ A, 1 ≤ x ∧ x ≤ n) (ht : t ≤ n) : A.length ≤ (A.filter (fun x => decide (x ≤ n - t))).length + t := by
  have h1 := List.length_eq_countP_add_countP (fun x => decide (x ≤ n - t)) (l := A)
  rw [List.countP_eq_length_filter, List.countP_eq_length_filter] at h1
  have h2 : (A.filter (fun x => decide ¬ (decide (x ≤ n - t) = true))).length ≤ t := by
    have := nodup_lt t ((A.filter (fun x => decide ¬ (decide (x ≤ n - t) = true))).map (fun x => x - (n - t) - 1)) (map_nd (hn.filter _) fun x hx y hy e => by
      simp only [List.mem_filter, decide_eq_true_eq] at hx hy
      omega) (fun x hx => by
      obtain ⟨y, hy, rfl⟩ := List.mem_map.1 hx
      simp only [List.mem_filter, decide_eq_true_eq] at hy
      have := h y hy.1
      omega)
    simpa using this
  omega

/-- More than t: one of them is at most n - t. -/
theorem one_good {A : List Nat} {n t : Nat} (hn : A.Nodup) (h : ∀ x ∈ A, 1 ≤ x ∧ x ≤ n) (ht : t ≤ n) (hl : t < A.length) : ∃ x ∈ A, x ≤ n - t := by
  have := split_le hn h ht
  have hp : 0 < (A.filter (fun x => decide (x ≤ n - t))).length := by omega
  obtain ⟨x, hx⟩ := List.exists_mem_of_length_pos hp
  simp only [List.mem_filter, decide_eq_true_eq] at hx
  exact ⟨x, hx⟩

/-- Two quorums have one in common that is at most n - t. -/
theorem two_good {A B : List Nat} {n t : Nat} (hA : A.Nodup) (hB : B.Nodup) (h : ∀ x ∈ A, 1 ≤ x ∧ x ≤ n) (h' : ∀ x ∈ B, 1 ≤ x ∧ x ≤ n) (ht : t ≤ n) (hl : n + t < A.length + B.length) : ∃ x ∈ A, x ∈ B ∧ x ≤ n - t := by
  have h1 := split_le hA h ht
  have h2 := split_le hB h' ht
  refine Classical.byContradiction fun hne => ?_
  have hd : (A.filter (fun x => decide (x ≤ n - t)) ++ B.filter (fun x => decide (x ≤ n - t))).Nodup := by
    rw [List.nodup_append]
    refine ⟨hA.filter _, hB.filter _, fun a ha b hb e => ?_⟩
    subst e
    simp only [List.mem_filter, decide_eq_true_eq] at ha hb
    exact hne ⟨a, ha.1, hb.1, ha.2⟩
  have h3 := nodup_lt (n - t) ((A.filter (fun x => decide (x ≤ n - t)) ++ B.filter (fun x => decide (x ≤ n - t))).map (fun x => x - 1)) (map_nd hd fun x hx y hy e => by
    have hx' : 1 ≤ x := by
      rcases List.mem_append.1 hx with hx | hx <;> simp only [List.mem_filter] at hx
      · exact (h x hx.1).1
      · exact (h' x hx.1).1
    have hy' : 1 ≤ y := by
      rcases List.mem_append.1 hy with hy | hy <;> simp only [List.mem_filter] at hy
      · exact (h y hy.1).1
      · exact (h' y hy.1).1
    omega) (fun x hx => by
    obtain ⟨y, hy, rfl⟩ := List.mem_map.1 hx
    rcases List.mem_append.1 hy with hy | hy <;> simp only [List.mem_filter, decide_eq_true_eq] at hy
    · have := h y hy.1; omega
    · have := h' y hy.1; omega)
  simp only [List.length_map, List.length_append] at h3
  omega
end Go.Proofs.Ytboibdmflblphaa.Quor
