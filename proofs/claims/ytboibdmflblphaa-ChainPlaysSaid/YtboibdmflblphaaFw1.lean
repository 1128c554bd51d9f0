/-
  Regions of operations walked in ONE order; frames as lists of slots.
-/
import Derived.Orders
import Derived.Deep.Draws
namespace Go.Proofs.Ytboibdmflblphaa.Fw
open Go

inductive Cls | ind | rd | wr
  deriving DecidableEq

/-- The order in which a region is walked: a line, or a parting where just two may come up. -/
inductive Ot
  | done
  | one (k : Nat) (t : Ot)
  | two (x y : Nat) (tx ty : Ot)

def otOf : List Nat → Ot
  | [] => .done
  | k :: l => .one k (otOf l)

def nth {α : Type} : List α → Nat → Option α
  | [], _ => none
  | x :: _, 0 => some x
  | _ :: l, n + 1 => nth l n

theorem nth_eq {α : Type} : ∀ (l : List α) (n : Nat), nth l n = l[n]?
  | [], _ => rfl
  | _ :: _, 0 => rfl
  | _ :: l, n + 1 => by simp [nth, nth_eq l n]

/-- What an operation comes to: a value and a world. -/
def Goes (P : Program) (K : Value → World → Prop) : Result Next → Prop
  | .ok (.value v) w' => K v w'
  | .ok .skip w' => K undef w'
  | .ok (.enter f args) w' => Calls P f args w' fun e w'' => ∃ v, e = .returned v ∧ K v w''
  | _ => False

theorem Goes.mono {P : Program} {K K' : Value → World → Prop} (h : ∀ v w, K v w → K' v w) {r : Result Next} (hr : Goes P K r) : Goes P K' r := by
  cases r with
  | ok n w' =>
    cases n <;> simp only [Goes] at hr ⊢ <;> first
      | exact h _ _ hr
      | exact hr.mono fun e w'' ⟨v, e1, e2⟩ => ⟨v, e1, h _ _ e2⟩
  | halt x w' => exact hr

theorem Goes.some {P : Program} {K : Value → World → Prop} {r : Result Next} (hr : Goes P K r) : ∃ v w, K v w := by
  cases r with
  | ok n w' =>
    cases n <;> simp only [Goes] at hr <;> first
      | exact ⟨_, _, hr⟩
      | exact hr.elim
      | (obtain ⟨e, w'', fr, ⟨v, _, hv⟩, _⟩ := hr []; exact ⟨_, _, hv⟩)
  | halt x w' => exact hr.elim

theorem Goes.wp {P : Program} {o : Oper} {a : Act} {w : World} {K : Act → World → Prop} {Q : Exit → Act → World → Prop} (h : Goes P (fun v w' => K (a.put o.dst v) w') ((execOp a.eval o).run P w)) : o.wp P a w K Q := by
  unfold Oper.wp
  generalize (execOp a.eval o).run P w = r at *
  cases r with
  | ok n w' =>
    cases n <;> simp only [Goes] at h <;> simp only [Oper.upon] <;> first
      | exact h
      | exact h.elim
      | (refine h.mono fun e w'' ⟨v, e1, e2⟩ => ?_; subst e1; exact e2)
  | halt x w' => exact h.elim

abbrev Pend := List (Nat × (World → Prop))

/-- A value that comes back, in a world that is the same but for draws. -/
def Still (P : Program) (w : World) (v : Value) (r : Result Next) : Prop := Goes P (fun u w' => u = v ∧ ∃ m, w' = w.drewN m) r

def pend (bad : List (Nat × Nat)) (k : Nat) (L : Pend) (w : World) : Prop := ∀ p ∈ L, bad.contains (p.1, k) = true → p.2 w

section
variable (P : Program) (ops : List Oper) (cl : List Cls) (bad : List (Nat × Nat))

def stepT (k : Nat) (L : Pend) (K : Pend → Act → World → Prop) (a : Act) (w : World) : Prop :=
  match nth ops k with
  | none => False
  | some o =>
    if Region.wanted o (yielded ops.toArray a.tmps) = true then
      match nth cl k with
      | some .ind => ∃ v, (∀ w', (execOp a.eval o).run P w' = .ok (.value v) w') ∧ K L (a.put o.dst v) w
      | some .rd => ∃ v, ∃ C : World → Prop, (∀ w' n, C w' → C (w'.drewN n)) ∧ C w ∧ (∀ w', C w' → Still P w' v ((execOp a.eval o).run P w')) ∧ K ((k, C) :: L) (a.put o.dst v) w
      | _ => ∀ n, Goes P (fun v w' => pend bad k L w' ∧ K L (a.put o.dst v) w') ((execOp a.eval o).run P (w.drewN n))
    else K L (a.put o.dst undef) w

def trunT (Q : Act → World → Prop) : Ot → Pend → Act → World → Prop
  | .done, _, a, w => ∀ n, Q a (w.drewN n)
  | .one k t, L, a, w => stepT P ops cl bad k L (trunT Q t) a w
  | .two x y tx ty, L, a, w => stepT P ops cl bad x L (trunT Q tx) a w ∧ stepT P ops cl bad y L (trunT Q ty) a w

/-- L' asks no more than L. -/
def Less (L' L : Pend) : Prop := ∀ p ∈ L', p ∈ L ∨ ∀ w, p.2 w

theorem Less.pend {L' L : Pend} (h : Less L' L) {k : Nat} {w : World} (hp : pend bad k L w) : pend bad k L' w := fun p hp' hb => (h p hp').elim (fun h => hp p h hb) (fun h => h w)
theorem Less.cons {L' L : Pend} (h : Less L' L) (x : Nat × (World → Prop)) : Less (x :: L') (x :: L) := fun p hp => by
  rcases List.mem_cons.1 hp with rfl | hp
  · exact .inl List.mem_cons_self
  · exact (h p hp).imp (List.mem_cons_of_mem _) id
theorem Less.of_sub {L' L : Pend} (h : ∀ p ∈ L', p ∈ L) : Less L' L := fun p hp => .inl (h p hp)

theorem stepT_mono {k : Nat} {L L' : Pend} {K K' : Pend → Act → World → Prop} (hL : Less L' L) (h : ∀ M M' a w, Less M' M → K M a w → K' M' a w)
    {a : Act} {w : World} (hh : stepT P ops cl bad k L K a w) : stepT P ops cl bad k L' K' a w := by
  unfold stepT at *
  cases ho : nth ops k with
  | none => rw [ho] at hh; exact hh.elim
  | some o =>
    simp only [ho] at hh ⊢
    by_cases hw : Region.wanted o (yielded ops.toArray a.tmps) = true
    · rw [if_pos hw] at hh ⊢
      cases hc : nth cl k with
      | none => simp only [hc] at hh; exact fun n => (hh n).mono fun v w' ⟨h1, h2⟩ => ⟨hL.pend bad h1, h _ _ _ _ hL h2⟩
      | some c =>
        cases c with
        | ind => simp only [hc] at hh; obtain ⟨v, h1, h2⟩ := hh; exact ⟨v, h1, h _ _ _ _ hL h2⟩
        | rd =>
          simp only [hc] at hh
          obtain ⟨v, C, h1, h2, h3, h4⟩ := hh
          exact ⟨v, C, h1, h2, h3, h _ _ _ _ (hL.cons _) h4⟩
        | wr => simp only [hc] at hh; exact fun n => (hh n).mono fun v w' ⟨h1, h2⟩ => ⟨hL.pend bad h1, h _ _ _ _ hL h2⟩
    · rw [if_neg hw] at hh ⊢
      exact h _ _ _ _ hL hh

/-- Whatever order is drawn. -/
def anyT (Q : Act → World → Prop) : Nat → Array Bool → Pend → Act → World → Prop
  | 0, listed, _, a, w => Region.ready .any ops.toArray listed = [] ∧ ∀ n, Q a (w.drewN n)
  | fuel + 1, listed, L, a, w =>
    (Region.ready .any ops.toArray listed = [] → ∀ n, Q a (w.drewN n)) ∧
    ∀ i ∈ Region.ready .any ops.toArray listed, stepT P ops cl bad i L (anyT Q fuel (listed.setIfInBounds i true)) a w

theorem anyT_mono {Q : Act → World → Prop} : ∀ (fuel : Nat) (listed : Array Bool) (L L' : Pend) (a : Act) (w : World), Less L' L → anyT P ops cl bad Q fuel listed L a w → anyT P ops cl bad Q fuel listed L' a w
  | 0, _, _, _, _, _, _, h => h
  | fuel + 1, _, _, _, _, _, hL, h => ⟨h.1, fun i hi => stepT_mono P ops cl bad hL (fun M M' a w hM hK => anyT_mono fuel _ M M' a w hM hK) (h.2 i hi)⟩
end

section
variable {P : Program} {ops : List Oper} {cl : List Cls} {bad : List (Nat × Nat)}

theorem stepT_sound {Q' : Exit → Act → World → Prop} {k : Nat} {L : Pend} {K : Pend → Act → World → Prop} {K' : Act → World → Prop} {a : Act} {w : World}
    (h : ∀ M a w m, K M a w → K' a (w.drewN m)) (hh : stepT P ops cl bad k L K a w) (m : Nat) : wpOp P ops.toArray Q' k K' a (w.drewN m) := by
  unfold stepT at hh
  unfold wpOp
  rw [nth_eq] at hh
  simp only [List.getElem?_toArray]
  cases ho : ops[k]? with
  | none => rw [ho] at hh; exact hh.elim
  | some o =>
    simp only [ho] at hh ⊢
    by_cases hw : Region.wanted o (yielded ops.toArray a.tmps) = true
    · rw [if_pos hw] at hh ⊢
      refine .inl ?_
      have wr : (∀ n, Goes P (fun v w' => pend bad k L w' ∧ K L (a.put o.dst v) w') ((execOp a.eval o).run P (w.drewN n))) → o.wp P a (w.drewN m) K' Q' :=
        fun hh => Goes.wp ((hh m).mono fun v w' ⟨_, h2⟩ => h _ _ _ 0 h2)
      cases hc : nth cl k with
      | none => simp only [hc] at hh; exact wr hh
      | some c =>
        cases c with
        | ind =>
          simp only [hc] at hh
          obtain ⟨v, h1, h2⟩ := hh
          unfold Oper.wp
          rw [h1]
          exact h _ _ _ _ h2
        | rd =>
          simp only [hc] at hh
          obtain ⟨v, C, h1, h2, h3, h4⟩ := hh
          refine Goes.wp ((h3 _ (h1 w m h2)).mono ?_)
          rintro u w' ⟨rfl, m', rfl⟩
          rw [World.drewN_drewN]
          exact h _ _ _ _ h4
        | wr => simp only [hc] at hh; exact wr hh
    · rw [if_neg hw] at hh ⊢
      exact h _ _ _ _ hh

theorem anyT_sound {Q : Act → World → Prop} {Q' : Exit → Act → World → Prop} (hQ : ∀ a w, Q a w → Q' .normal a w) : ∀ (fuel : Nat) (listed : Array Bool) (L : Pend) (a : Act) (w : World) (m : Nat),
    anyT P ops cl bad Q fuel listed L a w → wpAny P .any ops.toArray Q' fuel listed a (w.drewN m)
  | 0, _, _, _, _, m, h => ⟨h.1, hQ _ _ (h.2 m)⟩
  | fuel + 1, _, _, _, _, m, h => ⟨fun h0 => hQ _ _ (h.1 h0 m), fun i hi => stepT_sound (fun M a w m' => anyT_sound hQ fuel _ M a w m') (h.2 i hi) m⟩

/-! ### what waits for what -/
def depsOf (o : Oper) : List Nat := (o.after.toList.filter (Region.binds .any)).map (·.on)

inductive Reach (ops : List Oper) : Nat → Nat → Prop
  | edge {j i : Nat} {o : Oper} (ho : ops[j]? = some o) (h : i ∈ depsOf o) : Reach ops j i
  | step {j e i : Nat} {o : Oper} (ho : ops[j]? = some o) (h : e ∈ depsOf o) (r : Reach ops e i) : Reach ops j i

def maskOf (acc : List Nat) : List Nat → Nat
  | [] => 0
  | e :: l => (2 ^ e ||| (acc[e]?).getD 0) ||| maskOf acc l

/-- Masks of what each waits for, at however many steps: 'acc': those of the first ones. -/
def masks (acc : List Nat) : List Oper → List Nat
  | [] => acc
  | o :: l => masks (acc ++ [maskOf acc (depsOf o)]) l

theorem maskOf_spec {acc : List Nat} {i : Nat} : ∀ {l : List Nat}, (maskOf acc l).testBit i = true → ∃ e ∈ l, i = e ∨ ((acc[e]?).getD 0).testBit i = true
  | [], h => by simp [maskOf] at h
  | e :: l, h => by
    simp only [maskOf, Nat.testBit_or, Bool.or_eq_true] at h
    rcases h with (h | h) | h
    · rw [Nat.testBit_two_pow] at h
      exact ⟨e, List.mem_cons_self, .inl (by have := of_decide_eq_true h; omega)⟩
    · exact ⟨e, List.mem_cons_self, .inr h⟩
    · obtain ⟨e', he, h'⟩ := maskOf_spec h
      exact ⟨e', List.mem_cons_of_mem _ he, h'⟩

theorem masks_spec : ∀ (l pre : List Oper) (acc : List Nat), acc.length = pre.length → (∀ j i, ((acc[j]?).getD 0).testBit i = true → Reach (pre ++ l) j i) →
    ∀ j i, (((masks acc l)[j]?).getD 0).testBit i = true → Reach (pre ++ l) j i
  | [], _, _, _, h => h
  | o :: l, pre, acc, hlen, h => by
    have := masks_spec l (pre ++ [o]) (acc ++ [maskOf acc (depsOf o)]) (by simp [hlen]) (fun j i hb => by
      rw [List.append_assoc, List.singleton_append]
      rcases Nat.lt_trichotomy j acc.length with hj | hj | hj
      · rw [List.getElem?_append_left hj] at hb; exact h j i hb
      · subst hj
        rw [List.getElem?_append_right (Nat.le_refl _)] at hb
        simp only [Nat.sub_self, List.getElem?_cons_zero, Option.getD_some] at hb
        have ho : (pre ++ o :: l)[acc.length]? = some o := by rw [hlen]; simp
        obtain ⟨e, he, hh⟩ := maskOf_spec hb
        rcases hh with rfl | hh
        · exact .edge ho he
        · exact .step ho he (h e i hh)
      · rw [List.getElem?_eq_none (by simp; omega)] at hb
        simp at hb)
    simpa [masks, List.append_assoc] using this

/-- What has come up holds with each all that it waits for. -/
def Closed (ops : List Oper) (listed : Array Bool) : Prop := ∀ j o, ops[j]? = some o → listed.getD j false = true → ∀ e ∈ depsOf o, listed.getD e false = true

theorem Closed.reach {listed : Array Bool} (h : Closed ops listed) {j i : Nat} (r : Reach ops j i) : listed.getD j false = true → listed.getD i false = true := by
  induction r with
  | edge ho he => exact fun hl => h _ _ ho hl _ he
  | step ho he _ ih => exact fun hl => ih (h _ _ ho hl _ he)

theorem mem_ready' {j : Nat} {listed : Array Bool} : j ∈ Region.ready .any ops.toArray listed ↔ listed.getD j true = false ∧ ∃ o, ops[j]? = some o ∧ ∀ e ∈ depsOf o, listed.getD e false = true := by
  rw [mem_ready]
  simp only [List.getElem?_toArray, depsOf, List.mem_map, List.mem_filter]
  constructor
  · rintro ⟨h1, o, h2, h3⟩
    refine ⟨h1, o, h2, ?_⟩
    rintro e ⟨x, ⟨hx, hb⟩, rfl⟩
    exact h3 x (by simpa using hx) hb
  · rintro ⟨h1, o, h2, h3⟩
    exact ⟨h1, o, h2, fun e he hb => h3 _ ⟨e, ⟨by simpa using he, hb⟩, rfl⟩⟩

theorem not_both {listed : Array Bool} {i : Nat} (h : listed.getD i true = false) : listed.getD i false = false := by
  rcases Nat.lt_or_ge i listed.size with h' | h'
  · simp [h'] at h ⊢; exact h
  · simp [Array.getElem?_eq_none h'] at h

theorem Closed.not_ready {listed : Array Bool} (h : Closed ops listed) {j i : Nat} (r : Reach ops j i) (hi : listed.getD i true = false) : j ∉ Region.ready .any ops.toArray listed := by
  intro hj
  obtain ⟨_, o, ho, hall⟩ := mem_ready'.1 hj
  have hf := not_both hi
  cases r with
  | edge ho' he =>
    have : o = _ := Option.some.inj (ho.symm.trans ho')
    subst this
    rw [hall _ he] at hf
    cases hf
  | step ho' he r =>
    have : o = _ := Option.some.inj (ho.symm.trans ho')
    subst this
    rw [h.reach r (hall _ he)] at hf
    cases hf

theorem Closed.set {listed : Array Bool} (h : Closed ops listed) {j : Nat} (hj : j ∈ Region.ready .any ops.toArray listed) : Closed ops (listed.setIfInBounds j true) := by
  intro k o ho hl e he
  obtain ⟨_, oj, hoj, hall⟩ := mem_ready'.1 hj
  by_cases hjk : j = k
  · subst hjk
    have : o = oj := Option.some.inj (ho.symm.trans hoj)
    subst this
    exact getD_set_true (hall e he)
  · rw [getD_set_ne false hjk] at hl
    exact getD_set_true (h k o ho hl e he)

/-! ### taking one first -/
/-- May 'i' be taken ahead of 'j', where j does not wait for it? -/
def freeOf (ops : List Oper) (cl : List Cls) (bad : List (Nat × Nat)) (i j : Nat) (oi oj : Oper) : Bool :=
  oi.apart ops.toArray oj &&
  match nth cl i, nth cl j with
  | some .ind, _ => true
  | some .rd, some .ind => true
  | some .rd, some .rd => true
  | some .rd, _ => bad.contains (i, j)
  | _, some .ind => true
  | _, _ => false

theorem freeOf_apart {i j : Nat} {oi oj : Oper} (h : freeOf ops cl bad i j oi oj = true) : oi.apart ops.toArray oj = true := by
  simp only [freeOf, Bool.and_eq_true] at h
  exact h.1

/-- What 'i' does at frame a and world w, in whatever later world: by its class. -/
def Gives (P : Program) (ops : List Oper) (cl : List Cls) (i : Nat) (oi : Oper) (v : Value) (C : World → Prop) (a : Act) (w : World) : Prop :=
  (Region.wanted oi (yielded ops.toArray a.tmps) = false ∧ v = undef) ∨
  (Region.wanted oi (yielded ops.toArray a.tmps) = true ∧
    match nth cl i with
    | some .ind => ∀ w', (execOp a.eval oi).run P w' = .ok (.value v) w'
    | some .rd => (∀ w' n, C w' → C (w'.drewN n)) ∧ C w ∧ (∀ w', C w' → Still P w' v ((execOp a.eval oi).run P w'))
    | _ => False)

theorem noSel (hs : Region.noSelect ops.toArray = true) {j : Nat} {o : Oper} (ho : ops[j]? = some o) (cs : Array SelectCase) (b : Bool) : o.op ≠ .select cs b :=
  Region.noSelect_spec hs j o cs b (by simpa using ho)

theorem Gives.put {i : Nat} {oi : Oper} {v : Value} {C : World → Prop} {a : Act} {w : World} (hs : ∀ cs b, oi.op ≠ .select cs b) (h : Gives P ops cl i oi v C a w) (d : Option Tmp) (u : Value)
    (hd : ∀ t, d = some t → t ∉ oi.looksAt ops.toArray) : Gives P ops cl i oi v C (a.put d u) w := by
  unfold Gives at *
  rw [wanted_put oi a d u hd, execOp_put oi hs a d u hd]
  exact h

/-- An 'ind' or a 'rd' may be taken first. -/
theorem anyT_first {Q : Act → World → Prop} {i : Nat} {oi : Oper} {v : Value} {C : World → Prop} (hi : ops[i]? = some oi) (hs : Region.noSelect ops.toArray = true) :
    ∀ (fuel : Nat) (listed : Array Bool) (L : Pend) (a : Act) (w : World), Closed ops listed →
      (∀ j oj, ops[j]? = some oj → j ≠ i → listed.getD j true = false → Reach ops j i ∨ freeOf ops cl bad i j oi oj = true) →
      i ∈ Region.ready .any ops.toArray listed → Gives P ops cl i oi v C a w →
      anyT P ops cl bad Q fuel (listed.setIfInBounds i true) ((i, C) :: L) (a.put oi.dst v) w → anyT P ops cl bad Q (fuel + 1) listed L a w := by
  have self : ∀ (L : Pend) (K : Pend → Act → World → Prop) (a : Act) (w : World), (∀ M M' a w, Less M' M → K M a w → K M' a w) → Gives P ops cl i oi v C a w → K ((i, C) :: L) (a.put oi.dst v) w → stepT P ops cl bad i L K a w := by
    intro L K a w hK hg h
    have hL : Less L ((i, C) :: L) := .of_sub fun p hp => List.mem_cons_of_mem _ hp
    unfold stepT
    rw [nth_eq, hi]
    simp only
    rcases hg with ⟨hw, rfl⟩ | ⟨hw, hg⟩
    · rw [if_neg (by simp [hw])]; exact hK _ _ _ _ hL h
    · rw [if_pos hw]
      cases hc : nth cl i with
      | none => simp only [hc] at hg
      | some c =>
        cases c with
        | ind => simp only [hc] at hg ⊢; exact ⟨v, hg, hK _ _ _ _ hL h⟩
        | rd => simp only [hc] at hg ⊢; exact ⟨v, C, hg.1, hg.2.1, hg.2.2, h⟩
        | wr => simp only [hc] at hg
  intro fuel
  induction fuel with
  | zero =>
    intro listed L a w _ _ hr hg H
    refine ⟨fun h => (by rw [h] at hr; cases hr), fun j hj => ?_⟩
    by_cases hji : j = i
    · subst hji; exact self _ _ _ _ (fun M M' a w hM hh => anyT_mono P ops cl bad 0 _ _ _ _ _ hM hh) hg H
    · have := ready_mono hj hji
      rw [H.1] at this
      cases this
  | succ fuel ih =>
    intro listed L a w hcl hfree hr hg H
    refine ⟨fun h => (by rw [h] at hr; cases hr), fun j hj => ?_⟩
    by_cases hji : j = i
    · subst hji; exact self _ _ _ _ (fun M M' a w hM hh => anyT_mono P ops cl bad _ _ _ _ _ _ hM hh) hg H
    · obtain ⟨hjun, oj, hoj, hall⟩ := mem_ready'.1 hj
      have hun := (mem_ready'.1 hr).1
      have hf : freeOf ops cl bad i j oi oj = true := (hfree j oj hoj hji hjun).resolve_left fun r => hcl.not_ready r hun hj
      obtain ⟨h1, h2, h3⟩ := Oper.apart_spec (freeOf_apart hf)
      have hseli := fun cs b => noSel hs hi cs b
      have hselj := fun cs b => noSel hs hoj cs b
      have H1 := H.2 j (ready_mono hj hji)
      have hfree' : ∀ k ok, ops[k]? = some ok → k ≠ i → (listed.setIfInBounds j true).getD k true = false → Reach ops k i ∨ freeOf ops cl bad i k oi ok = true := fun k ok hk hki hkun => by
        refine hfree k ok hk hki ?_
        by_cases hjk : j = k
        · subst hjk; exact hjun
        · rw [getD_set_ne true hjk] at hkun; exact hkun
      have hcl' := hcl.set hj
      have hr' := ready_mono hr (Ne.symm hji)
      have go : ∀ (M : Pend) (u : Value) (w' : World), Gives P ops cl i oi v C a w' → anyT P ops cl bad Q fuel ((listed.setIfInBounds i true).setIfInBounds j true) ((i, C) :: M) ((a.put oi.dst v).put oj.dst u) w' →
          anyT P ops cl bad Q (fuel + 1) (listed.setIfInBounds j true) M (a.put oj.dst u) w' := fun M u w' hg' h => by
        refine ih (listed.setIfInBounds j true) M (a.put oj.dst u) w' hcl' hfree' hr' (hg'.put hseli oj.dst u h3) ?_
        rw [Array.setIfInBounds_comm _ _ hji, ← Act.put_comm a v u h2]
        exact h
      unfold stepT at H1 ⊢
      rw [nth_eq, hoj] at H1 ⊢
      simp only at H1 ⊢
      rw [wanted_put oj a oi.dst v h1] at H1
      by_cases hw : Region.wanted oj (yielded ops.toArray a.tmps) = true
      · rw [if_pos hw] at H1 ⊢
        rw [execOp_put oj hselj a oi.dst v h1] at H1
        have hwr : (nth cl j = none ∨ nth cl j = some .wr) → (∀ n, Goes P (fun u w' => pend bad j ((i, C) :: L) w' ∧ anyT P ops cl bad Q fuel ((listed.setIfInBounds i true).setIfInBounds j true) ((i, C) :: L) ((a.put oi.dst v).put oj.dst u) w') ((execOp a.eval oj).run P (w.drewN n))) →
            ∀ n, Goes P (fun u w' => pend bad j L w' ∧ anyT P ops cl bad Q (fuel + 1) (listed.setIfInBounds j true) L (a.put oj.dst u) w') ((execOp a.eval oj).run P (w.drewN n)) := fun hcj hh n => by
          refine (hh n).mono fun u w' ⟨hp, hK⟩ => ⟨fun p hp' hb => hp p (List.mem_cons_of_mem _ hp') hb, go L u w' ?_ hK⟩
          rcases hg with hg | ⟨hgw, hg⟩
          · exact .inl hg
          · refine .inr ⟨hgw, ?_⟩
            cases hc : nth cl i with
            | none => simp only [hc] at hg
            | some c =>
              cases c with
              | ind => simp only [hc] at hg ⊢; exact hg
              | rd =>
                simp only [hc] at hg ⊢
                have hb : bad.contains (i, j) = true := by
                  simp only [freeOf, hc, Bool.and_eq_true] at hf
                  rcases hcj with hcj | hcj <;> simp only [hcj] at hf <;> exact hf.2
                exact ⟨hg.1, hp (i, C) List.mem_cons_self hb, hg.2.2⟩
              | wr => simp only [hc] at hg
        cases hc : nth cl j with
        | none => simp only [hc] at H1; exact hwr (.inl hc) H1
        | some c =>
          cases c with
          | ind => simp only [hc] at H1; obtain ⟨u, e1, e2⟩ := H1; exact ⟨u, e1, go L u w hg e2⟩
          | rd =>
            simp only [hc] at H1
            obtain ⟨u, D, e1, e2, e3, e4⟩ := H1
            refine ⟨u, D, e1, e2, e3, go _ u w hg (anyT_mono P ops cl bad _ _ _ _ _ _ (.of_sub ?_) e4)⟩
            intro p hp
            simp only [List.mem_cons] at hp ⊢
            rcases hp with h | h | h <;> simp [h]
          | wr => simp only [hc] at H1; exact hwr (.inr hc) H1
      · rw [if_neg hw] at H1 ⊢
        exact go L undef w hg H1

/-- A 'wr' may be taken first, where all that does not wait for it is 'ind'. -/
theorem anyT_first_wr {Q : Act → World → Prop} {i : Nat} {oi : Oper} (hi : ops[i]? = some oi) (hs : Region.noSelect ops.toArray = true) (hci : nth cl i ≠ some .ind ∧ nth cl i ≠ some .rd) :
    ∀ (fuel : Nat) (listed : Array Bool) (L : Pend) (a : Act) (w : World), Closed ops listed →
      (∀ j oj, ops[j]? = some oj → j ≠ i → listed.getD j true = false → Reach ops j i ∨ freeOf ops cl bad i j oi oj = true) →
      i ∈ Region.ready .any ops.toArray listed → Region.wanted oi (yielded ops.toArray a.tmps) = true →
      (∀ n, Goes P (fun v w' => pend bad i L w' ∧ anyT P ops cl bad Q fuel (listed.setIfInBounds i true) L (a.put oi.dst v) w') ((execOp a.eval oi).run P (w.drewN n))) →
      anyT P ops cl bad Q (fuel + 1) listed L a w := by
  have self : ∀ (L : Pend) (K : Pend → Act → World → Prop) (a : Act) (w : World), Region.wanted oi (yielded ops.toArray a.tmps) = true →
      (∀ n, Goes P (fun v w' => pend bad i L w' ∧ K L (a.put oi.dst v) w') ((execOp a.eval oi).run P (w.drewN n))) → stepT P ops cl bad i L K a w := by
    intro L K a w hw h
    unfold stepT
    rw [nth_eq, hi]
    simp only
    rw [if_pos hw]
    cases hc : nth cl i with
    | none => exact h
    | some c =>
      cases c with
      | ind => exact absurd hc hci.1
      | rd => exact absurd hc hci.2
      | wr => exact h
  intro fuel
  induction fuel with
  | zero =>
    intro listed L a w _ _ hr hw H
    refine ⟨fun h => (by rw [h] at hr; cases hr), fun j hj => ?_⟩
    by_cases hji : j = i
    · subst hji; exact self _ _ _ _ hw H
    · obtain ⟨v, w', _, hK⟩ := (H 0).some
      have := ready_mono hj hji
      rw [hK.1] at this
      cases this
  | succ fuel ih =>
    intro listed L a w hcl hfree hr hw H
    refine ⟨fun h => (by rw [h] at hr; cases hr), fun j hj => ?_⟩
    by_cases hji : j = i
    · subst hji; exact self _ _ _ _ hw H
    · obtain ⟨hjun, oj, hoj, hall⟩ := mem_ready'.1 hj
      have hun := (mem_ready'.1 hr).1
      have hf : freeOf ops cl bad i j oi oj = true := (hfree j oj hoj hji hjun).resolve_left fun r => hcl.not_ready r hun hj
      obtain ⟨h1, h2, h3⟩ := Oper.apart_spec (freeOf_apart hf)
      have hcj : nth cl j = some .ind := by
        simp only [freeOf, Bool.and_eq_true] at hf
        have hf2 := hf.2
        cases hc : nth cl j with
        | none =>
          exfalso
          cases hc' : nth cl i with
          | none => simp [hc, hc'] at hf2
          | some c => cases c <;> simp [hc, hc'] at hf2 <;> first | exact hci.1 hc' | exact hci.2 hc'
        | some d =>
          cases d with
          | ind => rfl
          | rd =>
            exfalso
            cases hc' : nth cl i with
            | none => simp [hc, hc'] at hf2
            | some c => cases c <;> simp [hc, hc'] at hf2 <;> first | exact hci.1 hc' | exact hci.2 hc'
          | wr =>
            exfalso
            cases hc' : nth cl i with
            | none => simp [hc, hc'] at hf2
            | some c => cases c <;> simp [hc, hc'] at hf2 <;> first | exact hci.1 hc' | exact hci.2 hc'
      have hseli := fun cs b => noSel hs hi cs b
      have hselj := fun cs b => noSel hs hoj cs b
      have hrj := ready_mono hj hji
      have hfree' : ∀ k ok, ops[k]? = some ok → k ≠ i → (listed.setIfInBounds j true).getD k true = false → Reach ops k i ∨ freeOf ops cl bad i k oi ok = true := fun k ok hk hki hkun => by
        refine hfree k ok hk hki ?_
        by_cases hjk : j = k
        · subst hjk; exact hjun
        · rw [getD_set_ne true hjk] at hkun; exact hkun
      have hcl' := hcl.set hj
      have hr' := ready_mono hr (Ne.symm hji)
      -- what j does, out of one way through i
      have step : ∀ (v : Value) (w' : World), anyT P ops cl bad Q (fuel + 1) (listed.setIfInBounds i true) L (a.put oi.dst v) w' →
          ∃ u, ((Region.wanted oj (yielded ops.toArray a.tmps) = true ∧ ∀ w'', (execOp a.eval oj).run P w'' = .ok (.value u) w'') ∨ (Region.wanted oj (yielded ops.toArray a.tmps) = false ∧ u = undef)) ∧
            anyT P ops cl bad Q fuel ((listed.setIfInBounds i true).setIfInBounds j true) L ((a.put oi.dst v).put oj.dst u) w' := fun v w' h => by
        have H1 := h.2 j hrj
        unfold stepT at H1
        rw [nth_eq, hoj] at H1
        simp only at H1
        rw [wanted_put oj a oi.dst v h1] at H1
        by_cases hwj : Region.wanted oj (yielded ops.toArray a.tmps) = true
        · rw [if_pos hwj] at H1
          simp only [hcj] at H1
          rw [execOp_put oj hselj a oi.dst v h1] at H1
          obtain ⟨u, e1, e2⟩ := H1
          exact ⟨u, .inl ⟨hwj, e1⟩, e2⟩
        · rw [if_neg hwj] at H1
          exact ⟨undef, .inr ⟨by simpa using hwj, rfl⟩, H1⟩
      obtain ⟨v0, w0, _, hK0⟩ := (H 0).some
      obtain ⟨u, hu, _⟩ := step v0 w0 hK0
      have key : anyT P ops cl bad Q (fuel + 1) (listed.setIfInBounds j true) L (a.put oj.dst u) w := by
        refine ih (listed.setIfInBounds j true) L (a.put oj.dst u) w hcl' hfree' hr' (by rw [wanted_put oi a oj.dst u h3]; exact hw) fun n => ?_
        rw [execOp_put oi hseli a oj.dst u h3]
        refine (H n).mono fun v w' ⟨hp, hK⟩ => ⟨hp, ?_⟩
        obtain ⟨u', hu', hK'⟩ := step v w' hK
        have : u' = u := by
          rcases hu with ⟨e1, e2⟩ | ⟨e1, e2⟩ <;> rcases hu' with ⟨e3, e4⟩ | ⟨e3, e4⟩
          · have := (e4 w).symm.trans (e2 w); simpa using this
          · rw [e1] at e3; cases e3
          · rw [e1] at e3; cases e3
          · rw [e2, e4]
        subst this
        rw [Array.setIfInBounds_comm _ _ hji, ← Act.put_comm a v u' h2]
        exact hK'
      unfold stepT
      rw [nth_eq, hoj]
      simp only
      rcases hu with ⟨e1, e2⟩ | ⟨e1, rfl⟩
      · rw [if_pos e1]; simp only [hcj]; exact ⟨u, e2, key⟩
      · rw [if_neg (by simp [e1])]; exact key

/-- Whatever its class, and whether it is wanted or not. -/
theorem anyT_take {Q : Act → World → Prop} {i : Nat} {oi : Oper} (hi : ops[i]? = some oi) (hs : Region.noSelect ops.toArray = true) {fuel : Nat} {listed : Array Bool} {L : Pend} {a : Act} {w : World}
    (hcl : Closed ops listed) (hfree : ∀ j oj, ops[j]? = some oj → j ≠ i → listed.getD j true = false → Reach ops j i ∨ freeOf ops cl bad i j oi oj = true)
    (hr : i ∈ Region.ready .any ops.toArray listed)
    (h : stepT P ops cl bad i L (fun M a w => anyT P ops cl bad Q fuel (listed.setIfInBounds i true) M a w) a w) : anyT P ops cl bad Q (fuel + 1) listed L a w := by
  unfold stepT at h
  rw [nth_eq, hi] at h
  simp only at h
  have tr : ∀ (a : Act) (w : World), anyT P ops cl bad Q fuel (listed.setIfInBounds i true) L a w → anyT P ops cl bad Q fuel (listed.setIfInBounds i true) ((i, fun _ => True) :: L) a w := fun a w h =>
    anyT_mono P ops cl bad _ _ _ _ _ _ (fun p hp => by
      rcases List.mem_cons.1 hp with rfl | hp
      · exact .inr fun _ => trivial
      · exact .inl hp) h
  by_cases hw : Region.wanted oi (yielded ops.toArray a.tmps) = true
  · rw [if_pos hw] at h
    cases hc : nth cl i with
    | none =>
      simp only [hc] at h
      exact anyT_first_wr hi hs ⟨by simp [hc], by simp [hc]⟩ fuel listed L a w hcl hfree hr hw h
    | some c =>
      cases c with
      | ind =>
        simp only [hc] at h
        obtain ⟨v, h1, h2⟩ := h
        exact anyT_first (C := fun _ => True) hi hs fuel listed L a w hcl hfree hr (.inr ⟨hw, by simp only [hc]; exact h1⟩) (tr _ _ h2)
      | rd =>
        simp only [hc] at h
        obtain ⟨v, C, h1, h2, h3, h4⟩ := h
        exact anyT_first hi hs fuel listed L a w hcl hfree hr (.inr ⟨hw, by simp only [hc]; exact ⟨h1, h2, h3⟩⟩) h4
      | wr =>
        simp only [hc] at h
        exact anyT_first_wr hi hs ⟨by simp [hc], by simp [hc]⟩ fuel listed L a w hcl hfree hr hw h
  · rw [if_neg hw] at h
    exact anyT_first (C := fun _ => True) hi hs fuel listed L a w hcl hfree hr (.inl ⟨by simpa using hw, rfl⟩) (tr _ _ h)

/-! ### the check of an order, by looking at the operations alone -/
def okT (ops : List Oper) (cl : List Cls) (bad : List (Nat × Nat)) (ms : List Nat) : Nat → Ot → List Nat → Bool
  | _, .done, X => (List.range ops.length).all fun j => X.contains j
  | 0, _, _ => false
  | f + 1, .one k t, X =>
    (match nth ops k with
    | none => false
    | some o => !X.contains k && (depsOf o).all (fun e => X.contains e) && (List.range ops.length).all fun j => j == k || X.contains j || ((nth ms j).getD 0).testBit k ||
        match nth ops j with
        | some oj => freeOf ops cl bad k j o oj
        | none => true) && okT ops cl bad ms f t (k :: X)
  | f + 1, .two x y tx ty, X =>
    (List.range ops.length).all (fun j => j == x || j == y || X.contains j || match nth ops j with
        | some oj => !(depsOf oj).all fun e => X.contains e
        | none => true) && (!X.contains x && match nth ops x with
        | some o => (depsOf o).all fun e => X.contains e
        | none => false) && okT ops cl bad ms f tx (x :: X) && okT ops cl bad ms f ty (y :: X)

/-- The array of what has come up, as a list of numbers. -/
def Lists (n : Nat) (listed : Array Bool) (X : List Nat) : Prop := listed.size = n ∧ (∀ j, j < n → listed.getD j true = X.contains j) ∧ ∀ x ∈ X, x < n

theorem Lists.both {n : Nat} {listed : Array Bool} {X : List Nat} (h : Lists n listed X) {j : Nat} (hj : j < n) : listed.getD j false = X.contains j := by
  rw [← h.2.1 j hj]
  have := h.1
  simp [show j < listed.size by omega]

theorem Lists.set {n : Nat} {listed : Array Bool} {X : List Nat} (h : Lists n listed X) {k : Nat} (hk : k < n) : Lists n (listed.setIfInBounds k true) (k :: X) := by
  refine ⟨by simp [h.1], fun j hj => ?_, fun x hx => by
    rcases List.mem_cons.1 hx with rfl | hx
    · exact hk
    · exact h.2.2 x hx⟩
  by_cases hk : k = j
  · subst hk
    have := h.1
    simp [show k < listed.size by omega]
  · rw [getD_set_ne true hk, h.2.1 j hj]
    simp [Ne.symm hk]

theorem closed_of_lists {n : Nat} {listed : Array Bool} {X : List Nat} (h : Lists n listed X) (j : Nat) (hj : listed.getD j false = true) : j < n := by
  rcases Nat.lt_or_ge j n with h' | h'
  · exact h'
  · have := h.1
    simp [Array.getElem?_eq_none (show listed.size ≤ j by omega)] at hj

theorem anyT_of_trunT {Q : Act → World → Prop} (hs : Region.noSelect ops.toArray = true) : ∀ (t : Ot) (f : Nat) (listed : Array Bool) (X : List Nat) (L : Pend) (a : Act) (w : World), Lists ops.length listed X → Closed ops listed →
    okT ops cl bad (masks [] ops) f t X = true → trunT P ops cl bad Q t L a w → anyT P ops cl bad Q f listed L a w := by
  have mono : ∀ (f : Nat) (listed : Array Bool) (M M' : Pend) (a : Act) (w : World), Less M' M → anyT P ops cl bad Q f listed M a w → anyT P ops cl bad Q f listed M' a w := fun f listed M M' a w h => anyT_mono P ops cl bad f listed M M' a w h
  intro t
  induction t with
  | done =>
    intro f listed X L a w hl _ hok h
    have hr : Region.ready .any ops.toArray listed = [] := by
      apply List.eq_nil_iff_forall_not_mem.2
      intro j hj
      obtain ⟨hun, o, ho, _⟩ := mem_ready'.1 hj
      have hlt : j < ops.length := (List.getElem?_eq_some_iff.1 ho).1
      have hall : ((List.range ops.length).all fun j => X.contains j) = true := by cases f <;> exact hok
      rw [hl.2.1 j hlt, List.all_eq_true.1 hall j (List.mem_range.2 hlt)] at hun
      cases hun
    cases f with
    | zero => exact ⟨hr, h⟩
    | succ f => exact ⟨fun _ => h, fun i hi => by rw [hr] at hi; cases hi⟩
  | one k t ih =>
    intro f listed X L a w hl hcl hok h
    cases f with
    | zero => simp [okT] at hok
    | succ f =>
      simp only [okT, Bool.and_eq_true] at hok
      obtain ⟨hok1, hok2⟩ := hok
      rw [nth_eq] at hok1
      cases ho : ops[k]? with
      | none => rw [ho] at hok1; cases hok1
      | some o =>
        simp only [ho, Bool.and_eq_true, Bool.not_eq_true'] at hok1
        obtain ⟨⟨hk1, hk2⟩, hk3⟩ := hok1
        have hlt : k < ops.length := (List.getElem?_eq_some_iff.1 ho).1
        have hr : k ∈ Region.ready .any ops.toArray listed := mem_ready'.2 ⟨by rw [hl.2.1 k hlt]; exact hk1, o, ho, fun e he => by
          have hc := List.all_eq_true.1 hk2 e he
          have he' : e < ops.length := hl.2.2 e (by simpa using hc)
          rw [hl.both he']; exact hc⟩
        refine anyT_take ho hs hcl (fun j oj hoj hji hun => ?_) hr ?_
        · have hj : j < ops.length := (List.getElem?_eq_some_iff.1 hoj).1
          have h3 := List.all_eq_true.1 hk3 j (List.mem_range.2 hj)
          rw [nth_eq, nth_eq, hoj] at h3
          rw [hl.2.1 j hj] at hun
          simp only [Bool.or_eq_true, beq_iff_eq, hji, false_or, hun, Bool.false_eq_true] at h3
          rcases h3 with h3 | h3
          · exact .inl (masks_spec ops [] [] rfl (by simp) j k h3)
          · exact .inr h3
        · exact stepT_mono P ops cl bad (.of_sub fun _ h => h) (fun M M' a w hM hK => mono _ _ _ _ _ _ hM (ih f _ (k :: X) M a w (hl.set hlt) (hcl.set hr) hok2 hK)) h
  | two x y tx ty ihx ihy =>
    intro f listed X L a w hl hcl hok h
    cases f with
    | zero => simp [okT] at hok
    | succ f =>
      simp only [okT, Bool.and_eq_true] at hok
      obtain ⟨⟨⟨hok1, hok0⟩, hok2⟩, hok3⟩ := hok
      obtain ⟨hx, hy⟩ := h
      have hsub : ∀ j ∈ Region.ready .any ops.toArray listed, j = x ∨ j = y := fun j hj => by
        obtain ⟨hun, oj, hoj, hall⟩ := mem_ready'.1 hj
        have hlt : j < ops.length := (List.getElem?_eq_some_iff.1 hoj).1
        have h1 := List.all_eq_true.1 hok1 j (List.mem_range.2 hlt)
        rw [nth_eq, hoj] at h1
        rw [hl.2.1 j hlt] at hun
        simp only [Bool.or_eq_true, beq_iff_eq, hun, Bool.false_eq_true, or_false] at h1
        rcases h1 with h1 | h1
        · exact h1
        · exfalso
          have : (depsOf oj).all (fun e => X.contains e) = true := List.all_eq_true.2 fun e he => by
            have h2 := hall e he
            rw [← hl.both (closed_of_lists hl e h2)]
            exact h2
          rw [this] at h1
          cases h1
      have lt : ∀ {k K L a w}, stepT P ops cl bad k L K a w → k < ops.length := fun {k K L a w} h => by
        unfold stepT at h
        rw [nth_eq] at h
        rcases Nat.lt_or_ge k ops.length with h' | h'
        · exact h'
        · rw [List.getElem?_eq_none h'] at h; exact h.elim
      have hlx := lt hx
      have hly := lt hy
      refine ⟨fun h0 => ?_, fun j hj => ?_⟩
      · exfalso
        rw [nth_eq] at hok0
        cases ho : ops[x]? with
        | none => rw [ho] at hok0; simp at hok0
        | some o =>
          simp only [ho, Bool.not_eq_true'] at hok0
          have : x ∈ Region.ready .any ops.toArray listed := mem_ready'.2 ⟨by rw [hl.2.1 x hlx]; exact hok0.1, o, ho, fun e he => by
            have hc := List.all_eq_true.1 hok0.2 e he
            rw [hl.both (hl.2.2 e (by simpa using hc))]
            exact hc⟩
          rw [h0] at this
          cases this
      · rcases hsub j hj with rfl | rfl
        · exact stepT_mono P ops cl bad (.of_sub fun _ h => h) (fun M M' a w hM hK => mono _ _ _ _ _ _ hM (ihx f _ (_ :: X) M a w (hl.set hlx) (hcl.set hj) hok2 hK)) hx
        · exact stepT_mono P ops cl bad (.of_sub fun _ h => h) (fun M M' a w hM hK => mono _ _ _ _ _ _ hM (ihy f _ (_ :: X) M a w (hl.set hly) (hcl.set hj) hok3 hK)) hy

/-- A region that draws its order. -/
theorem wp_region_t {id : Nat} {Q : Exit → Act → World → Prop} {a : Act} {w : World} (cl : List Cls) (bad : List (Nat × Nat)) (t : Ot) (hm : P.follows .mixedOrders = true)
    (hok : (Region.noSelect ops.toArray && okT ops cl bad (masks [] ops) ops.length t []) = true)
    (h : trunT P ops cl bad (fun a w => Q .normal a w) t [] a w) : (Code.region id ops.toArray true).wp P Q a w := by
  simp only [Bool.and_eq_true] at hok
  refine wp_region_any hm ?_
  have h0 : Closed ops (Array.replicate ops.toArray.size false) := fun j o _ hl => by
    rcases Nat.lt_or_ge j ops.length with h | h
    · simp [h] at hl
    · simp [h] at hl
  have hl : Lists ops.length (Array.replicate ops.toArray.size false) [] := ⟨by simp, fun j hj => by simp [hj], by simp⟩
  exact anyT_sound (fun a w h => h) ops.toArray.size _ [] a w 1 (anyT_of_trunT hok.1 t ops.length _ [] [] a w hl h0 hok.2 h)

/-- A region that does not. -/
theorem wp_region_s {id : Nat} {Q : Exit → Act → World → Prop} {a : Act} {w : World} (cl : List Cls) (h : trunT P ops cl [] (fun a w => Q .normal a w) (otOf (List.range ops.length)) [] a w) : (Code.region id ops.toArray false).wp P Q a w := by
  have key : ∀ (l : List Nat) (L : Pend) (a : Act) (w : World) (m : Nat), trunT P ops cl [] (fun a w => Q .normal a w) (otOf l) L a w → wpOps P ops.toArray Q l a (w.drewN m) := by
    intro l
    induction l with
    | nil => intro L a w m h; exact h m
    | cons k l ih =>
      intro L a w m h
      rw [wpOps_cons]
      exact stepT_sound (fun M a w m h => ih M a w m h) h m
  refine wp_region ?_
  have := key _ [] a w 0 h
  rw [World.drewN_zero] at this
  simpa using this
theorem wp_region_l {id : Nat} {Q : Exit → Act → World → Prop} {a : Act} {w : World} (cl : List Cls) (l : List Nat) (hl : List.range ops.length = l) (h : trunT P ops cl [] (fun a w => Q .normal a w) (otOf l) [] a w) : (Code.region id ops.toArray false).wp P Q a w :=
  wp_region_s cl (by rw [hl]; exact h)
end
end Go.Proofs.Ytboibdmflblphaa.Fw
