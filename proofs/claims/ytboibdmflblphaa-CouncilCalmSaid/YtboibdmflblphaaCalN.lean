/-
  A CALM RUN: THE BEGINNING. No program is in sight.
-/
import Derived.Test.YtboibdmflblphaaCalW
namespace Go.Proofs.Ytboibdmflblphaa.CouM
open VoteM AgrM

theorem quiet0 {pr : Int} {v : ByteArray} {a : ASt} (P : Pc pr v a) (hPs : a.Ps = []) : a.rule = none := by
  cases hr : a.rule with
  | none => rfl
  | some x =>
    exfalso
    have no : ∀ r, (propL a.Ps r).value ≠ VoteM.empty → False := fun r h => by
      have := (prop_pr P h).1
      rw [hPs] at this
      cases this
    have R := rule_spec (b := x.1) (o := x.2) hr
    generalize x.1 = b at R
    generalize x.2 = o at R
    have hs := P.s1 hPs
    cases R with
    | dec q _ _ hp _ => exact no q hp
    | ahead h => rw [P.r] at h; exact ahead_none P h
    | pv _ _ hp _ => exact no _ hp
    | pc _ _ hp _ _ => exact no _ hp
    | nil _ h2 _ => omega
theorem new_start {n t me h : Int} {s : ByteArray} : (newA n t me h s).start = { newA n t me h s with round := 0, step := 1, seen := false } := by
  unfold ASt.start
  rw [if_neg (by show ¬ (0 : Int) ≤ -1; decide)]
  exact if_neg (by decide)
theorem new_startO {n t me h : Int} {s : ByteArray} : (newA n t me h s).startO = if leader n h 0 = me then [⟨1, me, 0, -1, s⟩] else [] := by
  unfold ASt.startO
  rw [if_neg (by show ¬ (0 : Int) ≤ -1; decide)]
  unfold ASt.beginO
  by_cases e : leader n h 0 = me
  · rw [if_pos e, if_neg (by rintro (h | h); exact absurd h (by decide); exact h e)]
    show [(⟨1, me, 0, -1, if (-1 : Int) < 0 then s else VoteM.empty⟩ : Wrd)] = _
    rw [if_pos (by decide)]
  · rw [if_neg e]
    exact if_pos (.inr e)
theorem pc_new {n t me h pr : Int} {s v : ByteArray} (hk : okA n t me h s = true) : Pc pr v (newA n t me h s).start := by
  have W := (start_wf (newA_wf hk)).1
  rw [new_start] at W ⊢
  exact ⟨W, rfl, .inl rfl, fun w hw => (by cases hw), fun _ => rfl, fun _ => rfl, rfl, fun h => (by cases h), fun h => (by cases h)⟩
theorem sum_le {As : List ASt} (h : ∀ a ∈ As, lft a ≤ 2) : sumS As ≤ 2 * As.length := by
  induction As with
  | nil => exact Nat.le_refl _
  | cons a l ih =>
    have h1 := h a List.mem_cons_self
    have h2 := ih fun x hx => h x (List.mem_cons_of_mem _ hx)
    simp only [sumS, List.map_cons, List.sum_cons, List.length_cons] at h2 ⊢
    omega
theorem wayN_eq {n t h : Int} {vs : List ByteArray} {lead : Nat} {v : ByteArray} (hl : leader n h 0 = (lead : Int) + 1) (hv : vs[lead]? = some v) : ∀ k, wayN n t h vs k = if k ≤ lead then [] else say vs.length [] [prW ((lead : Int) + 1) v]
  | 0 => (if_pos (Nat.zero_le _)).symm
  | k + 1 => by
    simp only [wayN]
    rw [wayN_eq hl hv k]
    unfold fA
    rw [new_startO]
    by_cases e : k = lead
    · subst e
      rw [if_pos (show k ≤ k from Nat.le_refl _), if_pos hl, if_neg (show ¬ k + 1 ≤ k by omega), hv]
      rfl
    · rw [if_neg (show ¬ leader n h 0 = (k : Int) + 1 by rw [hl]; omega)]
      show (if k ≤ lead then [] else _) = _
      by_cases e2 : k ≤ lead
      · rw [if_pos e2, if_pos (by omega)]
      · rw [if_neg e2, if_neg (by omega)]
/-- How it begins. -/
theorem calm0 {n t h : Int} {vs : List ByteArray} (hk : okC n t h vs = true) {lead : Nat} {v : ByteArray} (hl : leader n h 0 = (lead : Int) + 1) (hv : vs[lead]? = some v) : J n t h vs.length ((lead : Int) + 1) v (newC n t h vs) ∧ (newC n t h vs).mu ≤ 105 ∧ v ≠ VoteM.empty ∧ v.size ≤ 4096 := by
  obtain ⟨k1, k2, k3, k4⟩ := okC_spec hk
  have h7 := okC_len hk
  have hlm : lead < vs.length := (List.getElem?_eq_some_iff.1 hv).1
  have hok := k4 lead hlm
  rw [hv] at hok
  have hvs : v ≠ VoteM.empty ∧ v.size ≤ 4096 := by
    simp only [okA, Bool.and_eq_true, decide_eq_true_eq] at hok
    exact ⟨hok.2.2.2.2.2.1, hok.2.2.2.2.2.2⟩
  have hway : (newC n t h vs).way = say vs.length [] [prW ((lead : Int) + 1) v] := by
    show wayN n t h vs vs.length = _
    rw [wayN_eq hl hv, if_neg (by omega)]
  obtain ⟨y1, _, y3⟩ := say_eq (m := vs.length) (l := [prW ((lead : Int) + 1) v]) (way := []) (by simp; omega)
  have get : ∀ (i : Nat) a, (newC n t h vs).As[i]? = some a → i < vs.length ∧ a = (fA n t h vs i).start := fun i a ha => by
    obtain ⟨h1, h2⟩ := midA_get ha
    exact ⟨h1, by rw [h2, if_pos h1]⟩
  have hP : ∀ (i : Nat) a, (newC n t h vs).As[i]? = some a → Pc ((lead : Int) + 1) v a ∧ a.Ps = [] ∧ a.L = [] ∧ a.step = 1 ∧ a.h = h := fun i a ha => by
    obtain ⟨h1, rfl⟩ := get i a ha
    have P : Pc ((lead : Int) + 1) v (fA n t h vs i).start := pc_new (k4 i h1)
    refine ⟨P, ?_, ?_, ?_, ?_⟩ <;> (unfold fA; rw [new_start]; try rfl)
  have hmem : ∀ y ∈ (newC n t h vs).way, y.w = prW ((lead : Int) + 1) v := fun y hy => by
    rw [hway] at hy
    rcases mem_say hy with hy | ⟨hy, _⟩
    · cases hy
    · exact List.mem_singleton.1 hy
  refine ⟨⟨newC_wf hk, midA_len, fun i a ha => ?_, fun x hx => .inl (hmem x hx), fun i a ha => ?_, fun j b k hb hk' hkb => ?_, fun i a ha w hw => ?_, fun y hy hk' => ?_⟩, ?_, hvs⟩
  · obtain ⟨P, e1, _, _, e4⟩ := hP i a ha
    exact ⟨P, .inr (quiet0 P e1), e4⟩
  · obtain ⟨h1, _⟩ := get i a ha
    refine .inr (.inr ?_)
    rw [hway]
    exact y3 _ (List.mem_singleton.2 rfl) i h1
  · obtain ⟨_, _, _, e3, _⟩ := hP j b hb
    omega
  · obtain ⟨_, _, e2, _⟩ := hP i a ha
    rw [e2] at hw; cases hw
  · rw [hmem y hy] at hk'
    exact absurd rfl hk'
  · show (newC n t h vs).way.length + (newC n t h vs).As.length * sumS (newC n t h vs).As ≤ 105
    have e1 : (newC n t h vs).As.length = vs.length := midA_len
    have e2 := sum_le (As := (newC n t h vs).As) fun a ha => by
      obtain ⟨i, hi⟩ := List.mem_iff_getElem?.1 ha
      obtain ⟨_, _, _, e3, _⟩ := hP i a hi
      unfold lft
      omega
    rw [e1] at e2
    rw [hway, y1, e1]
    have e3 := Nat.mul_le_mul h7 (Nat.le_trans e2 (Nat.mul_le_mul_left 2 h7))
    simp only [List.length_nil, List.length_cons]
    omega
end Go.Proofs.Ytboibdmflblphaa.CouM
