/-
  WHAT A PART SAYS, AND WHAT IT LOCKS. No program is in sight.
-/
import Derived.Test.YtboibdmflblphaaAgrM
namespace Go.Proofs.Ytboibdmflblphaa.AgrM
open VoteM

def key (w : Wrd) : Int := 4 * w.round + w.kind
def ASt.pos (a : ASt) : Int := 4 * a.round + a.step
/-- What is said between two states. -/
structure Said (a b : ASt) (o : List Wrd) : Prop where
  me : b.me = a.me
  le : a.pos ≤ b.pos
  srt : o.Pairwise fun x y => key x < key y
  w : ∀ x ∈ o, a.pos < key x ∧ key x ≤ b.pos ∧ x.frm = a.me ∧ checkW x = true

theorem Said.refl (a : ASt) : Said a a [] := ⟨rfl, Int.le_refl _, .nil, by simp⟩
theorem Said.trans {a b c : ASt} {o o' : List Wrd} (h : Said a b o) (h' : Said b c o') : Said a c (o ++ o') := by
  refine ⟨h'.me.trans h.me, Int.le_trans h.le h'.le, List.pairwise_append.2 ⟨h.srt, h'.srt, fun x hx y hy => ?_⟩, fun x hx => ?_⟩
  · have := (h.w x hx).2.1
    have := (h'.w y hy).1
    omega
  · rcases List.mem_append.1 hx with hx | hx
    · obtain ⟨h1, h2, h3, h4⟩ := h.w x hx
      exact ⟨h1, Int.le_trans h2 h'.le, h3, h4⟩
    · obtain ⟨h1, h2, h3, h4⟩ := h'.w x hx
      exact ⟨by have := h.le; omega, h2, h3.trans h.me, h4⟩
theorem Said.one {a b : ASt} {w : Wrd} (h0 : b.me = a.me) (h1 : a.pos < b.pos) (h2 : key w = b.pos) (h3 : w.frm = a.me) (h4 : checkW w = true) : Said a b [w] :=
  ⟨h0, by omega, by simp, fun x hx => by simp only [List.mem_singleton] at hx; subst hx; exact ⟨by omega, by omega, h3, h4⟩⟩
theorem vote_check {a : ASt} (W : a.Wf) (h0 : 0 ≤ a.round) {k : Int} (hk : k = 2 ∨ k = 3) {v : ByteArray} (hv : v.size ≤ 4096) : checkW ⟨k, a.me, a.round, 0, v⟩ = true := by
  have := W.m0; have := W.m1; have := W.v.n7; have := W.r1
  simp only [checkW, Bool.and_eq_true, Bool.or_eq_true, decide_eq_true_eq]
  exact ⟨.inr ⟨hk, trivial⟩, by omega, by omega, h0, by omega, hv⟩
theorem begin_said {a : ASt} (W : a.Wf) {r : Int} (h : a.round < r) (h0 : 0 ≤ r) : Said a (a.begin r) (a.beginO r) := by
  have hs := W.s
  by_cases hr : 64 ≤ r
  · have e1 : a.begin r = a := if_pos hr
    have e2 : a.beginO r = [] := if_pos (.inl hr)
    rw [e1, e2]; exact .refl a
  · have e1 : a.begin r = { a with round := r, step := 1, seen := false } := if_neg hr
    rw [e1]
    have hp : a.pos < 4 * r + 1 := by unfold ASt.pos; omega
    unfold ASt.beginO
    split
    · exact ⟨rfl, by show a.pos ≤ 4 * r + 1; omega, .nil, by simp⟩
    · refine .one rfl hp rfl rfl ?_
      have := W.m0; have := W.m1; have := W.v.n7; have := W.v0; have := W.v1
      have ho := W.o0; have ho1 := W.o1
      simp only [checkW, Bool.and_eq_true, Bool.or_eq_true, decide_eq_true_eq]
      refine ⟨.inl ⟨trivial, by omega, by omega, ?_⟩, by omega, by omega, h0, by omega, ?_⟩
      · split
        · exact ho
        · exact (W.v2 (by omega)).1
      · split
        · exact ho1
        · exact (W.v2 (by omega)).2
theorem vote_said {a : ASt} (W : a.Wf) (h0 : 0 ≤ a.round) {k : Int} (hk : (k = 2 ∧ a.step = 1) ∨ (k = 3 ∧ a.step = 2)) {v : ByteArray} (hv : v.size ≤ 4096) : Said a (a.vote k) (a.voteO k v) := by
  refine .one rfl ?_ ?_ rfl (vote_check W h0 (by omega) hv)
  · show 4 * a.round + a.step < 4 * a.round + if k = 3 then 3 else 2
    rcases hk with ⟨rfl, h⟩ | ⟨rfl, h⟩
    · rw [if_neg (by decide)]; omega
    · rw [if_pos rfl]; omega
  · show 4 * a.round + k = 4 * a.round + if k = 3 then 3 else 2
    rcases hk with ⟨rfl, h⟩ | ⟨rfl, h⟩
    · rw [if_neg (by decide)]
    · rw [if_pos rfl]
theorem now_size {a : ASt} (W : a.Wf) (h : a.now.value ≠ VoteM.empty) : a.now.value.size ≤ 4096 := (check_spec (now_ok W h).1).2.2.2.2.2
theorem Rul.said {a b : ASt} {o : List Wrd} (R : Rul a b o) (W : a.Wf) (h0 : 0 ≤ a.round) : Said a b o := by
  cases R with
  | dec q => exact ⟨rfl, Int.le_refl _, .nil, by simp⟩
  | ahead h => exact begin_said W h (by omega)
  | pv hn hs hp hv =>
    refine vote_said W h0 (.inl ⟨rfl, hs⟩) ?_
    split
    · exact now_size W hp
    · decide
  | pc hn hs hp he hm =>
    unfold ASt.lock5
    split
    · rename_i h2
      refine .one rfl ?_ rfl rfl (vote_check W h0 (.inr rfl) (now_size W hp))
      show 4 * a.round + a.step < 4 * a.round + 3
      omega
    · exact ⟨rfl, Int.le_refl _, .nil, by simp⟩
  | nil hn hs hm => exact vote_said W h0 (.inr ⟨rfl, hs⟩) (by decide)
theorem run_said {a : ASt} (W : a.Wf) (h0 : 0 ≤ a.round) : Said a a.run.1 a.run.2 :=
  run_q (Q := Said) W h0 (fun a _ _ => .refl a) fun a b c o o' W h0 _ R W' h => (R.said W h0).trans h
theorem timeout_said {a : ASt} (W : a.Wf) (h0 : 0 ≤ a.round) (s : Int) : Said a (a.timeout s).1 (a.timeout s).2 := by
  unfold ASt.timeout
  split
  · exact begin_said W (by omega) (by omega)
  · split
    · exact .refl a
    · split
      · exact vote_said W h0 (.inl ⟨rfl, by omega⟩) (by decide)
      · split
        · exact vote_said W h0 (.inr ⟨rfl, by omega⟩) (by decide)
        · exact .refl a
theorem count_said {a : ASt} {w : Wrd} (W : a.Wf) (h0 : 0 ≤ a.round) : Said a (a.count w).1 (a.count w).2 := by
  unfold ASt.count
  split
  · exact timeout_said W h0 w.valid
  · split
    · exact ⟨rfl, Int.le_refl _, .nil, by simp⟩
    · exact ⟨rfl, Int.le_refl _, .nil, by simp⟩
theorem take_said {a : ASt} (W : a.Wf) (w : Wrd) : Said a (a.take w).1 (a.take w).2 := by
  unfold ASt.take
  split
  · exact .refl a
  · split
    · rename_i h1 h2
      obtain ⟨W1, h3⟩ := count_wf W (by omega) h2
      exact (count_said W (by omega)).trans (run_said W1 (by omega))
    · exact .refl a
theorem start_said {a : ASt} (W : a.Wf) : Said a a.start a.startO := by
  unfold ASt.start ASt.startO
  split
  · exact .refl a
  · exact begin_said W (by omega) (by omega)

/-! ### the lock -/
def noAhead (a : ASt) : Prop := ¬ a.round < aheadV a.n a.t a.L a.round
/-- What the lock does. -/
structure Lk (a b : ASt) (o : List Wrd) : Prop where
  le : a.lockR ≤ b.lockR
  w : ∀ x ∈ o, x.kind = 3 → x.value ≠ VoteM.empty → x.value = b.lock ∧ x.round = b.lockR
  s : a.step = 3 → noAhead a → b.lock = a.lock ∧ b.lockR = a.lockR
theorem Lk.refl (a : ASt) : Lk a a [] := ⟨Int.le_refl _, by simp, fun _ _ => ⟨rfl, rfl⟩⟩
theorem begin_lock (a : ASt) (r : Int) : (a.begin r).lock = a.lock ∧ (a.begin r).lockR = a.lockR := by
  unfold ASt.begin
  split <;> exact ⟨rfl, rfl⟩
theorem beginO_kind {a : ASt} {r : Int} {x : Wrd} (h : x ∈ a.beginO r) : x.kind = 1 := by
  unfold ASt.beginO at h
  split at h
  · cases h
  · simp only [List.mem_singleton] at h
    rw [h]
theorem Rul.lk {a b c : ASt} {o o' : List Wrd} (R : Rul a b o) (W : a.Wf) (H : Lk b c o') : Lk a c (o ++ o') := by
  have hm : (∀ x ∈ o, x.kind = 3 → x.value ≠ VoteM.empty → x.value = c.lock ∧ x.round = c.lockR) → ∀ x ∈ o ++ o', x.kind = 3 → x.value ≠ VoteM.empty → x.value = c.lock ∧ x.round = c.lockR := fun h x hx => by
    rcases List.mem_append.1 hx with hx | hx
    · exact h x hx
    · exact H.w x hx
  cases R with
  | dec q => exact ⟨H.le, hm (by simp), H.s⟩
  | ahead h =>
    obtain ⟨e1, e2⟩ := begin_lock a (aheadV a.n a.t a.L a.round)
    refine ⟨by have := H.le; omega, hm fun x hx h1 => ?_, fun _ hn => absurd h hn⟩
    have := beginO_kind hx
    omega
  | pv hn hs hp hv =>
    refine ⟨H.le, hm fun x hx h1 => ?_, fun h3 => by omega⟩
    simp only [ASt.voteO, List.mem_singleton] at hx
    subst hx
    exact absurd h1 (by show ¬ (2 : Int) = 3; decide)
  | pc hn hs hp he hmo =>
    by_cases h2 : a.step = 2
    · have e : a.lock5 = { a with seen := true, val := a.now.value, valR := a.round, lock := a.now.value, lockR := a.round, step := 3 } := if_pos h2
      rw [e] at H
      obtain ⟨e1, e2⟩ := H.s rfl hn
      have e1 : c.lock = a.now.value := e1
      have e2 : c.lockR = a.round := e2
      refine ⟨by have := W.l1; omega, hm fun x hx _ _ => ?_, fun h3 => by omega⟩
      rw [if_pos h2] at hx
      simp only [ASt.voteO, List.mem_singleton] at hx
      subst hx
      exact ⟨e1.symm, e2.symm⟩
    · have e : a.lock5 = { a with seen := true, val := a.now.value, valR := a.round } := if_neg h2
      rw [e] at H
      refine ⟨H.le, hm fun x hx => ?_, fun h3 h4 => H.s h3 h4⟩
      rw [if_neg h2] at hx
      cases hx
  | nil hn hs hmo =>
    refine ⟨H.le, hm fun x hx _ h1 => ?_, fun h3 => by omega⟩
    simp only [ASt.voteO, List.mem_singleton] at hx
    subst hx
    exact absurd rfl h1
theorem run_lk {a : ASt} (W : a.Wf) (h0 : 0 ≤ a.round) : Lk a a.run.1 a.run.2 :=
  run_q (Q := Lk) W h0 (fun a _ _ => .refl a) fun a b c o o' W h0 _ R W' h => R.lk W h
theorem count_lk (a : ASt) (w : Wrd) : (a.count w).1.lockR = a.lockR ∧ ∀ x ∈ (a.count w).2, x.kind = 3 → x.value ≠ VoteM.empty → False := by
  unfold ASt.count
  split
  · unfold ASt.timeout
    split
    · exact ⟨(begin_lock _ _).2, fun x hx h => by have := beginO_kind hx; omega⟩
    · split
      · exact ⟨rfl, by simp⟩
      · split
        · refine ⟨rfl, fun x hx _ h => ?_⟩
          simp only [ASt.voteO, List.mem_singleton] at hx
          subst hx
          exact h rfl
        · split
          · refine ⟨rfl, fun x hx _ h => ?_⟩
            simp only [ASt.voteO, List.mem_singleton] at hx
            subst hx
            exact h rfl
          · exact ⟨rfl, by simp⟩
  · split
    · exact ⟨rfl, by simp⟩
    · exact ⟨rfl, by simp⟩
theorem take_lk {a : ASt} (W : a.Wf) (w : Wrd) : a.lockR ≤ (a.take w).1.lockR ∧ ∀ x ∈ (a.take w).2, x.kind = 3 → x.value ≠ VoteM.empty → x.value = (a.take w).1.lock ∧ x.round = (a.take w).1.lockR := by
  unfold ASt.take
  split
  · exact ⟨Int.le_refl _, by simp⟩
  · split
    · rename_i h1 h2
      obtain ⟨W1, h3⟩ := count_wf W (by omega) h2
      have H := run_lk W1 (by omega)
      obtain ⟨g1, g2⟩ := count_lk a w
      refine ⟨g1 ▸ H.le, fun x hx k1 k2 => ?_⟩
      rcases List.mem_append.1 hx with hx | hx
      · exact (g2 x hx k1 k2).elim
      · exact H.w x hx k1 k2
    · exact ⟨Int.le_refl _, by simp⟩
end Go.Proofs.Ytboibdmflblphaa.AgrM
