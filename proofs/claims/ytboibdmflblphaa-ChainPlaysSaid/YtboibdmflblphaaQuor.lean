/-
  Counting: lists of different numbers, and what two of them have in common. No program is in sight.
-/
namespace Go.Proofs.Ytboibdmflblphaa.Quor

theorem nodup_lt : ∀ (N : Nat) (l : List Nat), l.Nodup → (∀ x ∈ l, x < N) → l.length ≤ N
  | 0, l, _, h => by
    cases l with
    | nil => simp
    | cons x l => exact absurd (h x List.mem_cons_self) (by omega)
  | N + 1, l, hn, h => by
    have h1 := nodup_lt N (l.filter (· ≠ N)) (hn.filter _) (fun x hx => by
      simp only [List.mem_filter, decide_eq_true_eq, ne_eq] at hx
      have := h x hx.1
      have := hx.2
      omega)
    have h2 : l.length ≤ (l.filter (· ≠ N)).length + 1 := by
      clear h h1
      induction l with
      | nil => simp
      | cons x l ih =>
        simp only [List.nodup_cons] at hn
        by_cases hx : x = N
        · subst hx
          have : l.filter (· ≠ x) = l := List.filter_eq_self.2 fun y hy => by
            have : y ≠ x := fun e => hn.1 (e ▸ hy)
            simpa using this
          rw [List.filter_cons_of_neg (by simp), this]
          simp
        · rw [List.filter_cons_of_pos (by simp [hx])]
          have := ih hn.2
          simp only [List.length_cons]
          omega
    omega

theorem map_nd {A : List Nat} {f : Nat → Nat} (hn : A.Nodup) (h : ∀ x ∈ A, ∀ y ∈ A, f x = f y → x = y) : (A.map f).Nodup := by
  induction A with
  | nil => simp
  | cons x A ih =>
    simp only [List.nodup_cons] at hn
    simp only [List.map_cons, List.nodup_cons]
    refine ⟨fun hm => ?_, ih hn.2 fun y hy z hz => h y (List.mem_cons_of_mem _ hy) z (List.mem_cons_of_mem _ hz)⟩
    obtain ⟨y, hy, e⟩ := List.mem_map.1 hm
    have := h y (List.mem_cons_of_mem _ hy) x List.mem_cons_self e
    exact hn.1 (this ▸ hy)

end Go.Proofs.Ytboibdmflblphaa.Quor
