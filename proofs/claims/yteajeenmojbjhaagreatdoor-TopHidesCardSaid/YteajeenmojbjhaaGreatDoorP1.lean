/-
 Regions of operations walked in ONE order; frames as lists of slots.
-/
import Derived.Orders
import Derived.Deep.Draws
import Derived.KernelRfl
import Derived.WalkKit
import Derived.Deep.LoopGhost
import Derived.Laws.StructEq
namespace Go.Proofs.YteajeenmojbjhaaGreatDoor.Fw
open Go
inductive Cls | ind | rd | wr
 deriving DecidableEq
inductive Ot
 | done
 | one (k : Nat) (t : Ot)
 | two (x y : Nat) (tx ty : Ot)
 | alt (x : Nat) (tx rest : Ot)
def otOf : List Nat → Ot
 | [] => .done
 | k :: l => .one k (otOf l)
def nth {α : Type} : List α → Nat → Option α
 | [],_ => none
 | x :: _,0 => some x
 | _ :: l,n + 1 => nth l n
theorem nth_eq {α : Type} : ∀ (l : List α) (n : Nat),nth l n = l[n]?
 | [],_ => rfl
 | _ :: _,0 => rfl
 | _ :: l,n + 1 => by simp [nth,nth_eq l n]
def Goes (P : Program) (K : Value → World → Prop) : Result Next → Prop
 | .ok (.value v) w' => K v w'
 | .ok .skip w' => K undef w'
 | .ok (.enter f args) w' => Calls P f args w' fun e w'' => ∃ v,e = .returned v ∧ K v w''
 | _ => False
theorem Goes.mono {P : Program} {K K' : Value → World → Prop} (h : ∀ v w,K v w → K' v w) {r : Result Next} (hr : Goes P K r) : Goes P K' r := by
 cases r with
 | ok n w' =>
  cases n <;> simp only [Goes] at hr ⊢ <;> first
   | exact h _ _ hr
   | exact hr.mono fun e w'' ⟨v,e1,e2⟩ => ⟨v,e1,h _ _ e2⟩
 | halt x w' => exact hr
theorem Goes.some {P : Program} {K : Value → World → Prop} {r : Result Next} (hr : Goes P K r) : ∃ v w,K v w := by
 cases r with
 | ok n w' =>
  cases n <;> simp only [Goes] at hr <;> first
   | exact ⟨_,_,hr⟩
   | exact hr.elim
   | (obtain ⟨e,w'',fr,⟨v,_,hv⟩,_⟩ := hr []; exact ⟨_,_,hv⟩)
 | halt x w' => exact hr.elim
theorem Goes.wp {P : Program} {o : Oper} {a : Act} {w : World} {K : Act → World → Prop} {Q : Exit → Act → World → Prop} (h : Goes P (fun v w' => K (a.put o.dst v) w') ((execOp a.eval o).run P w)) : o.wp P a w K Q := by
 unfold Oper.wp
 generalize (execOp a.eval o).run P w = r at *
 cases r with
 | ok n w' =>
  cases n <;> simp only [Goes] at h <;> simp only [Oper.upon] <;> first
   | exact h
   | exact h.elim
   | (refine h.mono fun e w'' ⟨v,e1,e2⟩ => ?_; subst e1; exact e2)
 | halt x w' => exact h.elim
abbrev Pend := List (Nat × (World → Prop))
def Still (P : Program) (w : World) (v : Value) (r : Result Next) : Prop := Goes P (fun u w' => u = v ∧ ∃ m,w' = w.drewN m) r
def pend (bad : List (Nat × Nat)) (k : Nat) (L : Pend) (w : World) : Prop := ∀ p ∈ L,bad.contains (p.1,k) = true → p.2 w
section
variable (P : Program) (ops : List Oper) (cl : List Cls) (bad : List (Nat × Nat))
def stepT (k : Nat) (L : Pend) (K : Pend → Act → World → Prop) (a : Act) (w : World) : Prop :=
 match nth ops k with
 | none => False
 | some o =>
  if Region.wanted o (yielded ops.toArray a.tmps) = true then
   match nth cl k with
   | some .ind => ∃ v,(∀ w',(execOp a.eval o).run P w' = .ok (.value v) w') ∧ K L (a.put o.dst v) w
   | some .rd => ∃ v,∃ C : World → Prop,(∀ w' n,C w' → C (w'.drewN n)) ∧ C w ∧ (∀ w',C w' → Still P w' v ((execOp a.eval o).run P w')) ∧ K ((k,C) :: L) (a.put o.dst v) w
   | _ => ∀ n,Goes P (fun v w' => pend bad k L w' ∧ K L (a.put o.dst v) w') ((execOp a.eval o).run P (w.drewN n))
  else K L (a.put o.dst undef) w
def trunT (Q : Act → World → Prop) : Ot → Pend → Act → World → Prop
 | .done,_,a,w => ∀ n,Q a (w.drewN n)
 | .one k t,L,a,w => stepT P ops cl bad k L (trunT Q t) a w
 | .two x y tx ty,L,a,w => stepT P ops cl bad x L (trunT Q tx) a w ∧ stepT P ops cl bad y L (trunT Q ty) a w
 | .alt x tx r,L,a,w => stepT P ops cl bad x L (trunT Q tx) a w ∧ trunT Q r L a w
def Less (L' L : Pend) : Prop := ∀ p ∈ L',p ∈ L ∨ ∀ w,p.2 w
theorem Less.pend {L' L : Pend} (h : Less L' L) {k : Nat} {w : World} (hp : pend bad k L w) : pend bad k L' w := fun p hp' hb => (h p hp').elim (fun h => hp p h hb) (fun h => h w)
theorem Less.cons {L' L : Pend} (h : Less L' L) (x : Nat × (World → Prop)) : Less (x :: L') (x :: L) := fun p hp => by
 rcases List.mem_cons.1 hp with rfl | hp
 ·exact .inl List.mem_cons_self
 ·exact (h p hp).imp (List.mem_cons_of_mem _) id
theorem Less.of_sub {L' L : Pend} (h : ∀ p ∈ L',p ∈ L) : Less L' L := fun p hp => .inl (h p hp)
theorem stepT_mono {k : Nat} {L L' : Pend} {K K' : Pend → Act → World → Prop} (hL : Less L' L) (h : ∀ M M' a w,Less M' M → K M a w → K' M' a w)
  {a : Act} {w : World} (hh : stepT P ops cl bad k L K a w) : stepT P ops cl bad k L' K' a w := by
 unfold stepT at *
 cases ho : nth ops k with
 | none => rw [ho] at hh; exact hh.elim
 | some o =>
  simp only [ho] at hh ⊢
  by_cases hw : Region.wanted o (yielded ops.toArray a.tmps) = true
  ·rw [if_pos hw] at hh ⊢
   cases hc : nth cl k with
   | none => simp only [hc] at hh; exact fun n => (hh n).mono fun v w' ⟨h1,h2⟩ => ⟨hL.pend bad h1,h _ _ _ _ hL h2⟩
   | some c =>
    cases c with
    | ind => simp only [hc] at hh; obtain ⟨v,h1,h2⟩ := hh; exact ⟨v,h1,h _ _ _ _ hL h2⟩
    | rd =>
     simp only [hc] at hh
     obtain ⟨v,C,h1,h2,h3,h4⟩ := hh
     exact ⟨v,C,h1,h2,h3,h _ _ _ _ (hL.cons _) h4⟩
    | wr => simp only [hc] at hh; exact fun n => (hh n).mono fun v w' ⟨h1,h2⟩ => ⟨hL.pend bad h1,h _ _ _ _ hL h2⟩
  ·rw [if_neg hw] at hh ⊢
   exact h _ _ _ _ hL hh
def anyT (Q : Act → World → Prop) : Nat → Array Bool → Pend → Act → World → Prop
 | 0,listed,_,a,w => Region.ready .any ops.toArray listed = [] ∧ ∀ n,Q a (w.drewN n)
 | fuel + 1,listed,L,a,w =>
  (Region.ready .any ops.toArray listed = [] → ∀ n,Q a (w.drewN n)) ∧
  ∀ i ∈ Region.ready .any ops.toArray listed,stepT P ops cl bad i L (anyT Q fuel (listed.setIfInBounds i true)) a w
theorem anyT_mono {Q : Act → World → Prop} : ∀ (fuel : Nat) (listed : Array Bool) (L L' : Pend) (a : Act) (w : World),Less L' L → anyT P ops cl bad Q fuel listed L a w → anyT P ops cl bad Q fuel listed L' a w
 | 0,_,_,_,_,_,_,h => h
 | fuel + 1,_,_,_,_,_,hL,h => ⟨h.1,fun i hi => stepT_mono P ops cl bad hL (fun M M' a w hM hK => anyT_mono fuel _ M M' a w hM hK) (h.2 i hi)⟩
end
section
variable {P : Program} {ops : List Oper} {cl : List Cls} {bad : List (Nat × Nat)}
theorem stepT_sound {Q' : Exit → Act → World → Prop} {k : Nat} {L : Pend} {K : Pend → Act → World → Prop} {K' : Act → World → Prop} {a : Act} {w : World}
  (h : ∀ M a w m,K M a w → K' a (w.drewN m)) (hh : stepT P ops cl bad k L K a w) (m : Nat) : wpOp P ops.toArray Q' k K' a (w.drewN m) := by
 unfold stepT at hh
 unfold wpOp
 rw [nth_eq] at hh
 simp only [List.getElem?_toArray]
 cases ho : ops[k]? with
 | none => rw [ho] at hh; exact hh.elim
 | some o =>
  simp only [ho] at hh ⊢
  by_cases hw : Region.wanted o (yielded ops.toArray a.tmps) = true
  ·rw [if_pos hw] at hh ⊢
   refine .inl ?_
   have wr : (∀ n,Goes P (fun v w' => pend bad k L w' ∧ K L (a.put o.dst v) w') ((execOp a.eval o).run P (w.drewN n))) → o.wp P a (w.drewN m) K' Q' :=
    fun hh => Goes.wp ((hh m).mono fun v w' ⟨_,h2⟩ => h _ _ _ 0 h2)
   cases hc : nth cl k with
   | none => simp only [hc] at hh; exact wr hh
   | some c =>
    cases c with
    | ind =>
     simp only [hc] at hh
     obtain ⟨v,h1,h2⟩ := hh
     unfold Oper.wp
     rw [h1]
     exact h _ _ _ _ h2
    | rd =>
     simp only [hc] at hh
     obtain ⟨v,C,h1,h2,h3,h4⟩ := hh
     refine Goes.wp ((h3 _ (h1 w m h2)).mono ?_)
     rintro u w' ⟨rfl,m',rfl⟩
     rw [World.drewN_drewN]
     exact h _ _ _ _ h4
    | wr => simp only [hc] at hh; exact wr hh
  ·rw [if_neg hw] at hh ⊢
   exact h _ _ _ _ hh
theorem anyT_sound {Q : Act → World → Prop} {Q' : Exit → Act → World → Prop} (hQ : ∀ a w,Q a w → Q' .normal a w) : ∀ (fuel : Nat) (listed : Array Bool) (L : Pend) (a : Act) (w : World) (m : Nat),
  anyT P ops cl bad Q fuel listed L a w → wpAny P .any ops.toArray Q' fuel listed a (w.drewN m)
 | 0,_,_,_,_,m,h => ⟨h.1,hQ _ _ (h.2 m)⟩
 | fuel + 1,_,_,_,_,m,h => ⟨fun h0 => hQ _ _ (h.1 h0 m),fun i hi => stepT_sound (fun M a w m' => anyT_sound hQ fuel _ M a w m') (h.2 i hi) m⟩
def depsOf (o : Oper) : List Nat := (o.after.toList.filter (Region.binds .any)).map (·.on)
inductive Reach (ops : List Oper) : Nat → Nat → Prop
 | edge {j i : Nat} {o : Oper} (ho : ops[j]? = some o) (h : i ∈ depsOf o) : Reach ops j i
 | step {j e i : Nat} {o : Oper} (ho : ops[j]? = some o) (h : e ∈ depsOf o) (r : Reach ops e i) : Reach ops j i
def maskOf (acc : List Nat) : List Nat → Nat
 | [] => 0
 | e :: l => (2 ^ e ||| (acc[e]?).getD 0) ||| maskOf acc l
def masks (acc : List Nat) : List Oper → List Nat
 | [] => acc
 | o :: l => masks (acc ++ [maskOf acc (depsOf o)]) l
theorem maskOf_spec {acc : List Nat} {i : Nat} : ∀ {l : List Nat},(maskOf acc l).testBit i = true → ∃ e ∈ l,i = e ∨ ((acc[e]?).getD 0).testBit i = true
 | [],h => by simp [maskOf] at h
 | e :: l,h => by
  simp only [maskOf,Nat.testBit_or,Bool.or_eq_true] at h
  rcases h with (h | h) | h
  ·rw [Nat.testBit_two_pow] at h
   exact ⟨e,List.mem_cons_self,.inl (by have := of_decide_eq_true h; omega)⟩
  ·exact ⟨e,List.mem_cons_self,.inr h⟩
  ·obtain ⟨e',he,h'⟩ := maskOf_spec h
   exact ⟨e',List.mem_cons_of_mem _ he,h'⟩
theorem masks_spec : ∀ (l pre : List Oper) (acc : List Nat),acc.length = pre.length → (∀ j i,((acc[j]?).getD 0).testBit i = true → Reach (pre ++ l) j i) →
  ∀ j i,(((masks acc l)[j]?).getD 0).testBit i = true → Reach (pre ++ l) j i
 | [],_,_,_,h => h
 | o :: l,pre,acc,hlen,h => by
  have := masks_spec l (pre ++ [o]) (acc ++ [maskOf acc (depsOf o)]) (by simp [hlen]) (fun j i hb => by
   rw [List.append_assoc,List.singleton_append]
   rcases Nat.lt_trichotomy j acc.length with hj | hj | hj
   ·rw [List.getElem?_append_left hj] at hb; exact h j i hb
   ·subst hj
    rw [List.getElem?_append_right (Nat.le_refl _)] at hb
    simp only [Nat.sub_self,List.getElem?_cons_zero,Option.getD_some] at hb
    have ho : (pre ++ o :: l)[acc.length]? = some o := by rw [hlen]; simp
    obtain ⟨e,he,hh⟩ := maskOf_spec hb
    rcases hh with rfl | hh
    ·exact .edge ho he
    ·exact .step ho he (h e i hh)
   ·rw [List.getElem?_eq_none (by simp; omega)] at hb
    simp at hb)
  simpa [masks,List.append_assoc] using this
def Closed (ops : List Oper) (listed : Array Bool) : Prop := ∀ j o,ops[j]? = some o → listed.getD j false = true → ∀ e ∈ depsOf o,listed.getD e false = true
theorem Closed.reach {listed : Array Bool} (h : Closed ops listed) {j i : Nat} (r : Reach ops j i) : listed.getD j false = true → listed.getD i false = true := by
 induction r with
 | edge ho he => exact fun hl => h _ _ ho hl _ he
 | step ho he _ ih => exact fun hl => ih (h _ _ ho hl _ he)
theorem mem_ready' {j : Nat} {listed : Array Bool} : j ∈ Region.ready .any ops.toArray listed ↔ listed.getD j true = false ∧ ∃ o,ops[j]? = some o ∧ ∀ e ∈ depsOf o,listed.getD e false = true := by
 rw [mem_ready]
 simp only [List.getElem?_toArray,depsOf,List.mem_map,List.mem_filter]
 constructor
 ·rintro ⟨h1,o,h2,h3⟩
  refine ⟨h1,o,h2,?_⟩
  rintro e ⟨x,⟨hx,hb⟩,rfl⟩
  exact h3 x (by simpa using hx) hb
 ·rintro ⟨h1,o,h2,h3⟩
  exact ⟨h1,o,h2,fun e he hb => h3 _ ⟨e,⟨by simpa using he,hb⟩,rfl⟩⟩
theorem not_both {listed : Array Bool} {i : Nat} (h : listed.getD i true = false) : listed.getD i false = false := by
 rcases Nat.lt_or_ge i listed.size with h' | h'
 ·simp [h'] at h ⊢; exact h
 ·simp [Array.getElem?_eq_none h'] at h
theorem Closed.not_ready {listed : Array Bool} (h : Closed ops listed) {j i : Nat} (r : Reach ops j i) (hi : listed.getD i true = false) : j ∉ Region.ready .any ops.toArray listed := by
 intro hj
 obtain ⟨_,o,ho,hall⟩ := mem_ready'.1 hj
 have hf := not_both hi
 cases r with
 | edge ho' he =>
  have : o = _ := Option.some.inj (ho.symm.trans ho')
  subst this
  rw [hall _ he] at hf
  cases hf
 | step ho' he r =>
  have : o = _ := Option.some.inj (ho.symm.trans ho')
  subst this
  rw [h.reach r (hall _ he)] at hf
  cases hf
theorem Closed.set {listed : Array Bool} (h : Closed ops listed) {j : Nat} (hj : j ∈ Region.ready .any ops.toArray listed) : Closed ops (listed.setIfInBounds j true) := by
 intro k o ho hl e he
 obtain ⟨_,oj,hoj,hall⟩ := mem_ready'.1 hj
 by_cases hjk : j = k
 ·subst hjk
  have : o = oj := Option.some.inj (ho.symm.trans hoj)
  subst this
  exact getD_set_true (hall e he)
 ·rw [getD_set_ne false hjk] at hl
  exact getD_set_true (h k o ho hl e he)
def freeOf (ops : List Oper) (cl : List Cls) (bad : List (Nat × Nat)) (i j : Nat) (oi oj : Oper) : Bool :=
 oi.apart ops.toArray oj &&
 match nth cl i,nth cl j with
 | some .ind,_ => true
 | some .rd,some .ind => true
 | some .rd,some .rd => true
 | some .rd,_ => bad.contains (i,j)
 | _,some .ind => true
 | _,_ => false
theorem freeOf_apart {i j : Nat} {oi oj : Oper} (h : freeOf ops cl bad i j oi oj = true) : oi.apart ops.toArray oj = true := by
 simp only [freeOf,Bool.and_eq_true] at h
 exact h.1
def Gives (P : Program) (ops : List Oper) (cl : List Cls) (i : Nat) (oi : Oper) (v : Value) (C : World → Prop) (a : Act) (w : World) : Prop :=
 (Region.wanted oi (yielded ops.toArray a.tmps) = false ∧ v = undef) ∨
 (Region.wanted oi (yielded ops.toArray a.tmps) = true ∧
  match nth cl i with
  | some .ind => ∀ w',(execOp a.eval oi).run P w' = .ok (.value v) w'
  | some .rd => (∀ w' n,C w' → C (w'.drewN n)) ∧ C w ∧ (∀ w',C w' → Still P w' v ((execOp a.eval oi).run P w'))
  | _ => False)
theorem noSel (hs : Region.noSelect ops.toArray = true) {j : Nat} {o : Oper} (ho : ops[j]? = some o) (cs : Array SelectCase) (b : Bool) : o.op ≠ .select cs b :=
 Region.noSelect_spec hs j o cs b (by simpa using ho)
theorem Gives.put {i : Nat} {oi : Oper} {v : Value} {C : World → Prop} {a : Act} {w : World} (hs : ∀ cs b,oi.op ≠ .select cs b) (h : Gives P ops cl i oi v C a w) (d : Option Tmp) (u : Value)
  (hd : ∀ t,d = some t → t ∉ oi.looksAt ops.toArray) : Gives P ops cl i oi v C (a.put d u) w := by
 unfold Gives at *
 rw [wanted_put oi a d u hd,execOp_put oi hs a d u hd]
 exact h
theorem anyT_first {Q : Act → World → Prop} {i : Nat} {oi : Oper} {v : Value} {C : World → Prop} (hi : ops[i]? = some oi) (hs : Region.noSelect ops.toArray = true) :
  ∀ (fuel : Nat) (listed : Array Bool) (L : Pend) (a : Act) (w : World),Closed ops listed →
   (∀ j oj,ops[j]? = some oj → j ≠ i → listed.getD j true = false → Reach ops j i ∨ freeOf ops cl bad i j oi oj = true) →
   i ∈ Region.ready .any ops.toArray listed → Gives P ops cl i oi v C a w →
   anyT P ops cl bad Q fuel (listed.setIfInBounds i true) ((i,C) :: L) (a.put oi.dst v) w → anyT P ops cl bad Q (fuel + 1) listed L a w := by
 have self : ∀ (L : Pend) (K : Pend → Act → World → Prop) (a : Act) (w : World),(∀ M M' a w,Less M' M → K M a w → K M' a w) → Gives P ops cl i oi v C a w → K ((i,C) :: L) (a.put oi.dst v) w → stepT P ops cl bad i L K a w := by
  intro L K a w hK hg h
  have hL : Less L ((i,C) :: L) := .of_sub fun p hp => List.mem_cons_of_mem _ hp
  unfold stepT
  rw [nth_eq,hi]
  simp only
  rcases hg with ⟨hw,rfl⟩ | ⟨hw,hg⟩
  ·rw [if_neg (by simp [hw])]; exact hK _ _ _ _ hL h
  ·rw [if_pos hw]
   cases hc : nth cl i with
   | none => simp only [hc] at hg
   | some c =>
    cases c with
    | ind => simp only [hc] at hg ⊢; exact ⟨v,hg,hK _ _ _ _ hL h⟩
    | rd => simp only [hc] at hg ⊢; exact ⟨v,C,hg.1,hg.2.1,hg.2.2,h⟩
    | wr => simp only [hc] at hg
 intro fuel
 induction fuel with
 | zero =>
  intro listed L a w _ _ hr hg H
  refine ⟨fun h => (by rw [h] at hr; cases hr),fun j hj => ?_⟩
  by_cases hji : j = i
  ·subst hji; exact self _ _ _ _ (fun M M' a w hM hh => anyT_mono P ops cl bad 0 _ _ _ _ _ hM hh) hg H
  ·have := ready_mono hj hji
   rw [H.1] at this
   cases this
 | succ fuel ih =>
  intro listed L a w hcl hfree hr hg H
  refine ⟨fun h => (by rw [h] at hr; cases hr),fun j hj => ?_⟩
  by_cases hji : j = i
  ·subst hji; exact self _ _ _ _ (fun M M' a w hM hh => anyT_mono P ops cl bad _ _ _ _ _ _ hM hh) hg H
  ·obtain ⟨hjun,oj,hoj,hall⟩ := mem_ready'.1 hj
   have hun := (mem_ready'.1 hr).1
   have hf : freeOf ops cl bad i j oi oj = true := (hfree j oj hoj hji hjun).resolve_left fun r => hcl.not_ready r hun hj
   obtain ⟨h1,h2,h3⟩ := Oper.apart_spec (freeOf_apart hf)
   have hseli := fun cs b => noSel hs hi cs b
   have hselj := fun cs b => noSel hs hoj cs b
   have H1 := H.2 j (ready_mono hj hji)
   have hfree' : ∀ k ok,ops[k]? = some ok → k ≠ i → (listed.setIfInBounds j true).getD k true = false → Reach ops k i ∨ freeOf ops cl bad i k oi ok = true := fun k ok hk hki hkun => by
    refine hfree k ok hk hki ?_
    by_cases hjk : j = k
    ·subst hjk; exact hjun
    ·rw [getD_set_ne true hjk] at hkun; exact hkun
   have hcl' := hcl.set hj
   have hr' := ready_mono hr (Ne.symm hji)
   have go : ∀ (M : Pend) (u : Value) (w' : World),Gives P ops cl i oi v C a w' → anyT P ops cl bad Q fuel ((listed.setIfInBounds i true).setIfInBounds j true) ((i,C) :: M) ((a.put oi.dst v).put oj.dst u) w' →
     anyT P ops cl bad Q (fuel + 1) (listed.setIfInBounds j true) M (a.put oj.dst u) w' := fun M u w' hg' h => by
    refine ih (listed.setIfInBounds j true) M (a.put oj.dst u) w' hcl' hfree' hr' (hg'.put hseli oj.dst u h3) ?_
    rw [Array.setIfInBounds_comm _ _ hji,← Act.put_comm a v u h2]
    exact h
   unfold stepT at H1 ⊢
   rw [nth_eq,hoj] at H1 ⊢
   simp only at H1 ⊢
   rw [wanted_put oj a oi.dst v h1] at H1
   by_cases hw : Region.wanted oj (yielded ops.toArray a.tmps) = true
   ·rw [if_pos hw] at H1 ⊢
    rw [execOp_put oj hselj a oi.dst v h1] at H1
    have hwr : (nth cl j = none ∨ nth cl j = some .wr) → (∀ n,Goes P (fun u w' => pend bad j ((i,C) :: L) w' ∧ anyT P ops cl bad Q fuel ((listed.setIfInBounds i true).setIfInBounds j true) ((i,C) :: L) ((a.put oi.dst v).put oj.dst u) w') ((execOp a.eval oj).run P (w.drewN n))) →
      ∀ n,Goes P (fun u w' => pend bad j L w' ∧ anyT P ops cl bad Q (fuel + 1) (listed.setIfInBounds j true) L (a.put oj.dst u) w') ((execOp a.eval oj).run P (w.drewN n)) := fun hcj hh n => by
     refine (hh n).mono fun u w' ⟨hp,hK⟩ => ⟨fun p hp' hb => hp p (List.mem_cons_of_mem _ hp') hb,go L u w' ?_ hK⟩
     rcases hg with hg | ⟨hgw,hg⟩
     ·exact .inl hg
     ·refine .inr ⟨hgw,?_⟩
      cases hc : nth cl i with
      | none => simp only [hc] at hg
      | some c =>
       cases c with
       | ind => simp only [hc] at hg ⊢; exact hg
       | rd =>
        simp only [hc] at hg ⊢
        have hb : bad.contains (i,j) = true := by
         simp only [freeOf,hc,Bool.and_eq_true] at hf
         rcases hcj with hcj | hcj <;> simp only [hcj] at hf <;> exact hf.2
        exact ⟨hg.1,hp (i,C) List.mem_cons_self hb,hg.2.2⟩
       | wr => simp only [hc] at hg
    cases hc : nth cl j with
    | none => simp only [hc] at H1; exact hwr (.inl hc) H1
    | some c =>
     cases c with
     | ind => simp only [hc] at H1; obtain ⟨u,e1,e2⟩ := H1; exact ⟨u,e1,go L u w hg e2⟩
     | rd =>
      simp only [hc] at H1
      obtain ⟨u,D,e1,e2,e3,e4⟩ := H1
      refine ⟨u,D,e1,e2,e3,go _ u w hg (anyT_mono P ops cl bad _ _ _ _ _ _ (.of_sub ?_) e4)⟩
      intro p hp
      simp only [List.mem_cons] at hp ⊢
      rcases hp with h | h | h <;> simp [h]
     | wr => simp only [hc] at H1; exact hwr (.inr hc) H1
   ·rw [if_neg hw] at H1 ⊢
    exact go L undef w hg H1
theorem anyT_first_wr {Q : Act → World → Prop} {i : Nat} {oi : Oper} (hi : ops[i]? = some oi) (hs : Region.noSelect ops.toArray = true) (hci : nth cl i ≠ some .ind ∧ nth cl i ≠ some .rd) :
  ∀ (fuel : Nat) (listed : Array Bool) (L : Pend) (a : Act) (w : World),Closed ops listed →
   (∀ j oj,ops[j]? = some oj → j ≠ i → listed.getD j true = false → Reach ops j i ∨ freeOf ops cl bad i j oi oj = true) →
   i ∈ Region.ready .any ops.toArray listed → Region.wanted oi (yielded ops.toArray a.tmps) = true →
   (∀ n,Goes P (fun v w' => pend bad i L w' ∧ anyT P ops cl bad Q fuel (listed.setIfInBounds i true) L (a.put oi.dst v) w') ((execOp a.eval oi).run P (w.drewN n))) →
   anyT P ops cl bad Q (fuel + 1) listed L a w := by
 have self : ∀ (L : Pend) (K : Pend → Act → World → Prop) (a : Act) (w : World),Region.wanted oi (yielded ops.toArray a.tmps) = true →
   (∀ n,Goes P (fun v w' => pend bad i L w' ∧ K L (a.put oi.dst v) w') ((execOp a.eval oi).run P (w.drewN n))) → stepT P ops cl bad i L K a w := by
  intro L K a w hw h
  unfold stepT
  rw [nth_eq,hi]
  simp only
  rw [if_pos hw]
  cases hc : nth cl i with
  | none => exact h
  | some c =>
   cases c with
   | ind => exact absurd hc hci.1
   | rd => exact absurd hc hci.2
   | wr => exact h
 intro fuel
 induction fuel with
 | zero =>
  intro listed L a w _ _ hr hw H
  refine ⟨fun h => (by rw [h] at hr; cases hr),fun j hj => ?_⟩
  by_cases hji : j = i
  ·subst hji; exact self _ _ _ _ hw H
  ·obtain ⟨v,w',_,hK⟩ := (H 0).some
   have := ready_mono hj hji
   rw [hK.1] at this
   cases this
 | succ fuel ih =>
  intro listed L a w hcl hfree hr hw H
  refine ⟨fun h => (by rw [h] at hr; cases hr),fun j hj => ?_⟩
  by_cases hji : j = i
  ·subst hji; exact self _ _ _ _ hw H
  ·obtain ⟨hjun,oj,hoj,hall⟩ := mem_ready'.1 hj
   have hun := (mem_ready'.1 hr).1
   have hf : freeOf ops cl bad i j oi oj = true := (hfree j oj hoj hji hjun).resolve_left fun r => hcl.not_ready r hun hj
   obtain ⟨h1,h2,h3⟩ := Oper.apart_spec (freeOf_apart hf)
   have hcj : nth cl j = some .ind := by
    simp only [freeOf,Bool.and_eq_true] at hf
    have hf2 := hf.2
    cases hc : nth cl j with
    | none =>
     exfalso
     cases hc' : nth cl i with
     | none => simp [hc,hc'] at hf2
     | some c => cases c <;> simp [hc,hc'] at hf2 <;> first | exact hci.1 hc' | exact hci.2 hc'
    | some d =>
     cases d with
     | ind => rfl
     | rd =>
      exfalso
      cases hc' : nth cl i with
      | none => simp [hc,hc'] at hf2
      | some c => cases c <;> simp [hc,hc'] at hf2 <;> first | exact hci.1 hc' | exact hci.2 hc'
     | wr =>
      exfalso
      cases hc' : nth cl i with
      | none => simp [hc,hc'] at hf2
      | some c => cases c <;> simp [hc,hc'] at hf2 <;> first | exact hci.1 hc' | exact hci.2 hc'
   have hseli := fun cs b => noSel hs hi cs b
   have hselj := fun cs b => noSel hs hoj cs b
   have hrj := ready_mono hj hji
   have hfree' : ∀ k ok,ops[k]? = some ok → k ≠ i → (listed.setIfInBounds j true).getD k true = false → Reach ops k i ∨ freeOf ops cl bad i k oi ok = true := fun k ok hk hki hkun => by
    refine hfree k ok hk hki ?_
    by_cases hjk : j = k
    ·subst hjk; exact hjun
    ·rw [getD_set_ne true hjk] at hkun; exact hkun
   have hcl' := hcl.set hj
   have hr' := ready_mono hr (Ne.symm hji)
   have step : ∀ (v : Value) (w' : World),anyT P ops cl bad Q (fuel + 1) (listed.setIfInBounds i true) L (a.put oi.dst v) w' →
     ∃ u,((Region.wanted oj (yielded ops.toArray a.tmps) = true ∧ ∀ w'',(execOp a.eval oj).run P w'' = .ok (.value u) w'') ∨ (Region.wanted oj (yielded ops.toArray a.tmps) = false ∧ u = undef)) ∧
      anyT P ops cl bad Q fuel ((listed.setIfInBounds i true).setIfInBounds j true) L ((a.put oi.dst v).put oj.dst u) w' := fun v w' h => by
    have H1 := h.2 j hrj
    unfold stepT at H1
    rw [nth_eq,hoj] at H1
    simp only at H1
    rw [wanted_put oj a oi.dst v h1] at H1
    by_cases hwj : Region.wanted oj (yielded ops.toArray a.tmps) = true
    ·rw [if_pos hwj] at H1
     simp only [hcj] at H1
     rw [execOp_put oj hselj a oi.dst v h1] at H1
     obtain ⟨u,e1,e2⟩ := H1
     exact ⟨u,.inl ⟨hwj,e1⟩,e2⟩
    ·rw [if_neg hwj] at H1
     exact ⟨undef,.inr ⟨by simpa using hwj,rfl⟩,H1⟩
   obtain ⟨v0,w0,_,hK0⟩ := (H 0).some
   obtain ⟨u,hu,_⟩ := step v0 w0 hK0
   have key : anyT P ops cl bad Q (fuel + 1) (listed.setIfInBounds j true) L (a.put oj.dst u) w := by
    refine ih (listed.setIfInBounds j true) L (a.put oj.dst u) w hcl' hfree' hr' (by rw [wanted_put oi a oj.dst u h3]; exact hw) fun n => ?_
    rw [execOp_put oi hseli a oj.dst u h3]
    refine (H n).mono fun v w' ⟨hp,hK⟩ => ⟨hp,?_⟩
    obtain ⟨u',hu',hK'⟩ := step v w' hK
    have : u' = u := by
     rcases hu with ⟨e1,e2⟩ | ⟨e1,e2⟩ <;> rcases hu' with ⟨e3,e4⟩ | ⟨e3,e4⟩
     ·have := (e4 w).symm.trans (e2 w); simpa using this
     ·rw [e1] at e3; cases e3
     ·rw [e1] at e3; cases e3
     ·rw [e2,e4]
    subst this
    rw [Array.setIfInBounds_comm _ _ hji,← Act.put_comm a v u' h2]
    exact hK'
   unfold stepT
   rw [nth_eq,hoj]
   simp only
   rcases hu with ⟨e1,e2⟩ | ⟨e1,rfl⟩
   ·rw [if_pos e1]; simp only [hcj]; exact ⟨u,e2,key⟩
   ·rw [if_neg (by simp [e1])]; exact key
theorem anyT_take {Q : Act → World → Prop} {i : Nat} {oi : Oper} (hi : ops[i]? = some oi) (hs : Region.noSelect ops.toArray = true) {fuel : Nat} {listed : Array Bool} {L : Pend} {a : Act} {w : World}
  (hcl : Closed ops listed) (hfree : ∀ j oj,ops[j]? = some oj → j ≠ i → listed.getD j true = false → Reach ops j i ∨ freeOf ops cl bad i j oi oj = true)
  (hr : i ∈ Region.ready .any ops.toArray listed)
  (h : stepT P ops cl bad i L (fun M a w => anyT P ops cl bad Q fuel (listed.setIfInBounds i true) M a w) a w) : anyT P ops cl bad Q (fuel + 1) listed L a w := by
 unfold stepT at h
 rw [nth_eq,hi] at h
 simp only at h
 have tr : ∀ (a : Act) (w : World),anyT P ops cl bad Q fuel (listed.setIfInBounds i true) L a w → anyT P ops cl bad Q fuel (listed.setIfInBounds i true) ((i,fun _ => True) :: L) a w := fun a w h =>
  anyT_mono P ops cl bad _ _ _ _ _ _ (fun p hp => by
   rcases List.mem_cons.1 hp with rfl | hp
   ·exact .inr fun _ => trivial
   ·exact .inl hp) h
 by_cases hw : Region.wanted oi (yielded ops.toArray a.tmps) = true
 ·rw [if_pos hw] at h
  cases hc : nth cl i with
  | none =>
   simp only [hc] at h
   exact anyT_first_wr hi hs ⟨by simp [hc],by simp [hc]⟩ fuel listed L a w hcl hfree hr hw h
  | some c =>
   cases c with
   | ind =>
    simp only [hc] at h
    obtain ⟨v,h1,h2⟩ := h
    exact anyT_first (C := fun _ => True) hi hs fuel listed L a w hcl hfree hr (.inr ⟨hw,by simp only [hc]; exact h1⟩) (tr _ _ h2)
   | rd =>
    simp only [hc] at h
    obtain ⟨v,C,h1,h2,h3,h4⟩ := h
    exact anyT_first hi hs fuel listed L a w hcl hfree hr (.inr ⟨hw,by simp only [hc]; exact ⟨h1,h2,h3⟩⟩) h4
   | wr =>
    simp only [hc] at h
    exact anyT_first_wr hi hs ⟨by simp [hc],by simp [hc]⟩ fuel listed L a w hcl hfree hr hw h
 ·rw [if_neg hw] at h
  exact anyT_first (C := fun _ => True) hi hs fuel listed L a w hcl hfree hr (.inl ⟨by simpa using hw,rfl⟩) (tr _ _ h)
def heads : Ot → List Nat
 | .alt x _ r => x :: heads r
 | .two x y _ _ => [x,y]
 | _ => []
def coverT (ops : List Oper) (hs X : List Nat) : Bool := (List.range ops.length).all fun j => hs.contains j || X.contains j || match nth ops j with
  | some oj => !(depsOf oj).all fun e => X.contains e
  | none => true
def mayT (ops : List Oper) (x : Nat) (X : List Nat) : Bool := !X.contains x && match nth ops x with
  | some o => (depsOf o).all fun e => X.contains e
  | none => false
def okB (ops : List Oper) (cl : List Cls) (bad : List (Nat × Nat)) (ms : List Nat) : Ot → Bool → Nat → List Nat → Bool
 | .done,h,_,X => !h && (List.range ops.length).all fun j => X.contains j
 | .one k t,h,f,X => match f with
  | 0 => false
  | f + 1 => !h && (match nth ops k with
   | none => false
   | some o => !X.contains k && (depsOf o).all (fun e => X.contains e) && (List.range ops.length).all fun j => j == k || X.contains j || ((nth ms j).getD 0).testBit k ||
     match nth ops j with
     | some oj => freeOf ops cl bad k j o oj
     | none => true) && okB ops cl bad ms t false f (k :: X)
 | .two x y tx ty,h,f,X => match f with
  | 0 => false
  | f + 1 => (h || (coverT ops [x,y] X && mayT ops x X)) && okB ops cl bad ms tx false f (x :: X) && okB ops cl bad ms ty false f (y :: X)
 | .alt x tx r,h,f,X => match f with
  | 0 => false
  | f + 1 => (h || (coverT ops (x :: heads r) X && mayT ops x X)) && okB ops cl bad ms tx false f (x :: X) && okB ops cl bad ms r true (f + 1) X
def okT (ops : List Oper) (cl : List Cls) (bad : List (Nat × Nat)) (ms : List Nat) (f : Nat) (t : Ot) (X : List Nat) : Bool := okB ops cl bad ms t false f X
def Lists (n : Nat) (listed : Array Bool) (X : List Nat) : Prop := listed.size = n ∧ (∀ j,j < n → listed.getD j true = X.contains j) ∧ ∀ x ∈ X,x < n
theorem Lists.both {n : Nat} {listed : Array Bool} {X : List Nat} (h : Lists n listed X) {j : Nat} (hj : j < n) : listed.getD j false = X.contains j := by
 rw [← h.2.1 j hj]
 have := h.1
 simp [show j < listed.size by omega]
theorem Lists.set {n : Nat} {listed : Array Bool} {X : List Nat} (h : Lists n listed X) {k : Nat} (hk : k < n) : Lists n (listed.setIfInBounds k true) (k :: X) := by
 refine ⟨by simp [h.1],fun j hj => ?_,fun x hx => by
  rcases List.mem_cons.1 hx with rfl | hx
  ·exact hk
  ·exact h.2.2 x hx⟩
 by_cases hk : k = j
 ·subst hk
  have := h.1
  simp [show k < listed.size by omega]
 ·rw [getD_set_ne true hk,h.2.1 j hj]
  simp [Ne.symm hk]
theorem closed_of_lists {n : Nat} {listed : Array Bool} {X : List Nat} (h : Lists n listed X) (j : Nat) (hj : listed.getD j false = true) : j < n := by
 rcases Nat.lt_or_ge j n with h' | h'
 ·exact h'
 ·have := h.1
  simp [Array.getElem?_eq_none (show listed.size ≤ j by omega)] at hj
theorem anyT_of_trunT0 {Q : Act → World → Prop} (hs : Region.noSelect ops.toArray = true) : ∀ (t : Ot) (h : Bool) (f : Nat) (listed : Array Bool) (X : List Nat) (L : Pend) (a : Act) (w : World),Lists ops.length listed X → Closed ops listed →
  okB ops cl bad (masks [] ops) t h f X = true → trunT P ops cl bad Q t L a w →
  (h = false → anyT P ops cl bad Q f listed L a w) ∧ (∀ f',f = f' + 1 → ∀ j ∈ heads t,j ∈ Region.ready .any ops.toArray listed → stepT P ops cl bad j L (anyT P ops cl bad Q f' (listed.setIfInBounds j true)) a w) := by
 have mono : ∀ (f : Nat) (listed : Array Bool) (M M' : Pend) (a : Act) (w : World),Less M' M → anyT P ops cl bad Q f listed M a w → anyT P ops cl bad Q f listed M' a w := fun f listed M M' a w h => anyT_mono P ops cl bad f listed M M' a w h
 have lt : ∀ {k K L a w},stepT P ops cl bad k L K a w → k < ops.length := fun {k K L a w} h => by
  unfold stepT at h
  rw [nth_eq] at h
  rcases Nat.lt_or_ge k ops.length with h' | h'
  ·exact h'
  ·rw [List.getElem?_eq_none h'] at h; exact h.elim
 have up : ∀ (x : Nat) (tx : Ot),(∀ (h : Bool) (f : Nat) (listed : Array Bool) (X : List Nat) (L : Pend) (a : Act) (w : World),Lists ops.length listed X → Closed ops listed →
   okB ops cl bad (masks [] ops) tx h f X = true → trunT P ops cl bad Q tx L a w → (h = false → anyT P ops cl bad Q f listed L a w) ∧ (∀ f',f = f' + 1 → ∀ j ∈ heads tx,j ∈ Region.ready .any ops.toArray listed → stepT P ops cl bad j L (anyT P ops cl bad Q f' (listed.setIfInBounds j true)) a w)) →
   ∀ (f : Nat) (listed : Array Bool) (X : List Nat) (L : Pend) (a : Act) (w : World),Lists ops.length listed X → Closed ops listed → okB ops cl bad (masks [] ops) tx false f (x :: X) = true → stepT P ops cl bad x L (trunT P ops cl bad Q tx) a w →
   x ∈ Region.ready .any ops.toArray listed → stepT P ops cl bad x L (anyT P ops cl bad Q f (listed.setIfInBounds x true)) a w := fun x tx ih f listed X L a w hl hcl hok hx hr =>
  stepT_mono P ops cl bad (.of_sub fun _ h => h) (fun M M' a w hM hK => mono _ _ _ _ _ _ hM ((ih false f _ (x :: X) M a w (hl.set (lt hx)) (hcl.set hr) hok hK).1 rfl)) hx
 have cov : ∀ (hds : List Nat) (x : Nat) (f : Nat) (listed : Array Bool) (X : List Nat) (L : Pend) (a : Act) (w : World),Lists ops.length listed X → coverT ops hds X = true → mayT ops x X = true → x < ops.length →
   (∀ j ∈ hds,j ∈ Region.ready .any ops.toArray listed → stepT P ops cl bad j L (anyT P ops cl bad Q f (listed.setIfInBounds j true)) a w) → anyT P ops cl bad Q (f + 1) listed L a w := fun hds x f listed X L a w hl hc hm hlx hall => by
  refine ⟨fun h0 => ?_,fun j hj => ?_⟩
  ·exfalso
   unfold mayT at hm
   simp only [Bool.and_eq_true,Bool.not_eq_true'] at hm
   obtain ⟨hm1,hm2⟩ := hm
   rw [nth_eq] at hm2
   cases ho : ops[x]? with
   | none => rw [ho] at hm2; cases hm2
   | some o =>
    rw [ho] at hm2
    have : x ∈ Region.ready .any ops.toArray listed := mem_ready'.2 ⟨by rw [hl.2.1 x hlx]; exact hm1,o,ho,fun e he => by
     have hc := List.all_eq_true.1 hm2 e he
     rw [hl.both (hl.2.2 e (by simpa using hc))]
     exact hc⟩
    rw [h0] at this
    cases this
  ·refine hall j ?_ hj
   obtain ⟨hun,oj,hoj,hdep⟩ := mem_ready'.1 hj
   have hlt : j < ops.length := (List.getElem?_eq_some_iff.1 hoj).1
   have h1 := List.all_eq_true.1 hc j (List.mem_range.2 hlt)
   rw [nth_eq,hoj] at h1
   rw [hl.2.1 j hlt] at hun
   simp only [Bool.or_eq_true,hun,Bool.false_eq_true,or_false] at h1
   rcases h1 with h1 | h1
   ·simpa using h1
   ·exfalso
    have : (depsOf oj).all (fun e => X.contains e) = true := List.all_eq_true.2 fun e he => by
     have h2 := hdep e he
     rw [← hl.both (closed_of_lists hl e h2)]
     exact h2
    rw [this] at h1
    cases h1
 intro t
 induction t with
 | done =>
  intro b f listed X L a w hl _ hok h
  simp only [okB,Bool.and_eq_true,Bool.not_eq_true'] at hok
  refine ⟨fun _ => ?_,fun f' _ j hj => by cases hj⟩
  have hr : Region.ready .any ops.toArray listed = [] := by
   apply List.eq_nil_iff_forall_not_mem.2
   intro j hj
   obtain ⟨hun,o,ho,_⟩ := mem_ready'.1 hj
   have hlt : j < ops.length := (List.getElem?_eq_some_iff.1 ho).1
   rw [hl.2.1 j hlt,List.all_eq_true.1 hok.2 j (List.mem_range.2 hlt)] at hun
   cases hun
  cases f with
  | zero => exact ⟨hr,h⟩
  | succ f => exact ⟨fun _ => h,fun i hi => by rw [hr] at hi; cases hi⟩
 | one k t ih =>
  intro b f listed X L a w hl hcl hok h
  refine ⟨fun _ => ?_,fun f' _ j hj => by cases hj⟩
  cases f with
  | zero => simp [okB] at hok
  | succ f =>
   simp only [okB,Bool.and_eq_true] at hok
   obtain ⟨⟨_,hok1⟩,hok2⟩ := hok
   rw [nth_eq] at hok1
   cases ho : ops[k]? with
   | none => rw [ho] at hok1; cases hok1
   | some o =>
    simp only [ho,Bool.and_eq_true,Bool.not_eq_true'] at hok1
    obtain ⟨⟨hk1,hk2⟩,hk3⟩ := hok1
    have hlt : k < ops.length := (List.getElem?_eq_some_iff.1 ho).1
    have hr : k ∈ Region.ready .any ops.toArray listed := mem_ready'.2 ⟨by rw [hl.2.1 k hlt]; exact hk1,o,ho,fun e he => by
     have hc := List.all_eq_true.1 hk2 e he
     have he' : e < ops.length := hl.2.2 e (by simpa using hc)
     rw [hl.both he']; exact hc⟩
    refine anyT_take ho hs hcl (fun j oj hoj hji hun => ?_) hr ?_
    ·have hj : j < ops.length := (List.getElem?_eq_some_iff.1 hoj).1
     have h3 := List.all_eq_true.1 hk3 j (List.mem_range.2 hj)
     rw [nth_eq,nth_eq,hoj] at h3
     rw [hl.2.1 j hj] at hun
     simp only [Bool.or_eq_true,beq_iff_eq,hji,false_or,hun,Bool.false_eq_true] at h3
     rcases h3 with h3 | h3
     ·exact .inl (masks_spec ops [] [] rfl (by simp) j k h3)
     ·exact .inr h3
    ·exact stepT_mono P ops cl bad (.of_sub fun _ h => h) (fun M M' a w hM hK => mono _ _ _ _ _ _ hM ((ih false f _ (k :: X) M a w (hl.set hlt) (hcl.set hr) hok2 hK).1 rfl)) h
 | two x y tx ty ihx ihy =>
  intro b f listed X L a w hl hcl hok h
  cases f with
  | zero => simp [okB] at hok
  | succ f =>
   simp only [okB,Bool.and_eq_true] at hok
   obtain ⟨⟨hok0,hok2⟩,hok3⟩ := hok
   have hall : ∀ j ∈ heads (.two x y tx ty),j ∈ Region.ready .any ops.toArray listed → stepT P ops cl bad j L (anyT P ops cl bad Q f (listed.setIfInBounds j true)) a w := fun j hj hr => by
    simp only [heads,List.mem_cons,List.not_mem_nil,or_false] at hj
    rcases hj with rfl | rfl
    ·exact up _ tx ihx f listed X L a w hl hcl hok2 h.1 hr
    ·exact up _ ty ihy f listed X L a w hl hcl hok3 h.2 hr
   refine ⟨fun hb => ?_,fun f' hf j hj hr => by cases hf; exact hall j hj hr⟩
   subst hb
   simp only [Bool.false_or,Bool.and_eq_true] at hok0
   exact cov _ x f listed X L a w hl hok0.1 hok0.2 (lt h.1) hall
 | alt x tx r ihx ihr =>
  intro b f listed X L a w hl hcl hok h
  cases f with
  | zero => simp [okB] at hok
  | succ f =>
   simp only [okB,Bool.and_eq_true] at hok
   obtain ⟨⟨hok0,hok2⟩,hok3⟩ := hok
   have hall : ∀ j ∈ heads (.alt x tx r),j ∈ Region.ready .any ops.toArray listed → stepT P ops cl bad j L (anyT P ops cl bad Q f (listed.setIfInBounds j true)) a w := fun j hj hr => by
    simp only [heads,List.mem_cons] at hj
    rcases hj with rfl | hj
    ·exact up _ tx ihx f listed X L a w hl hcl hok2 h.1 hr
    ·exact (ihr true (f + 1) listed X L a w hl hcl hok3 h.2).2 f rfl j hj hr
   refine ⟨fun hb => ?_,fun f' hf j hj hr => by cases hf; exact hall j hj hr⟩
   subst hb
   simp only [Bool.false_or,Bool.and_eq_true] at hok0
   exact cov _ x f listed X L a w hl hok0.1 hok0.2 (lt h.1) hall
theorem anyT_of_trunT {Q : Act → World → Prop} (hs : Region.noSelect ops.toArray = true) (t : Ot) (f : Nat) (listed : Array Bool) (X : List Nat) (L : Pend) (a : Act) (w : World) (hl : Lists ops.length listed X) (hcl : Closed ops listed)
  (hok : okT ops cl bad (masks [] ops) f t X = true) (h : trunT P ops cl bad Q t L a w) : anyT P ops cl bad Q f listed L a w :=
 (anyT_of_trunT0 hs t false f listed X L a w hl hcl hok h).1 rfl
theorem wp_region_t {id : Nat} {Q : Exit → Act → World → Prop} {a : Act} {w : World} (cl : List Cls) (bad : List (Nat × Nat)) (t : Ot) (hm : P.follows .mixedOrders = true)
  (hok : (Region.noSelect ops.toArray && okT ops cl bad (masks [] ops) ops.length t []) = true)
  (h : trunT P ops cl bad (fun a w => Q .normal a w) t [] a w) : (Code.region id ops.toArray true).wp P Q a w := by
 simp only [Bool.and_eq_true] at hok
 refine wp_region_any hm ?_
 have h0 : Closed ops (Array.replicate ops.toArray.size false) := fun j o _ hl => by
  rcases Nat.lt_or_ge j ops.length with h | h
  ·simp [h] at hl
  ·simp [h] at hl
 have hl : Lists ops.length (Array.replicate ops.toArray.size false) [] := ⟨by simp,fun j hj => by simp [hj],by simp⟩
 exact anyT_sound (fun a w h => h) ops.toArray.size _ [] a w 1 (anyT_of_trunT hok.1 t ops.length _ [] [] a w hl h0 hok.2 h)
theorem wp_region_s {id : Nat} {Q : Exit → Act → World → Prop} {a : Act} {w : World} (cl : List Cls) (h : trunT P ops cl [] (fun a w => Q .normal a w) (otOf (List.range ops.length)) [] a w) : (Code.region id ops.toArray false).wp P Q a w := by
 have key : ∀ (l : List Nat) (L : Pend) (a : Act) (w : World) (m : Nat),trunT P ops cl [] (fun a w => Q .normal a w) (otOf l) L a w → wpOps P ops.toArray Q l a (w.drewN m) := by
  intro l
  induction l with
  | nil => intro L a w m h; exact h m
  | cons k l ih =>
   intro L a w m h
   rw [wpOps_cons]
   exact stepT_sound (fun M a w m h => ih M a w m h) h m
 refine wp_region ?_
 have := key _ [] a w 0 h
 rw [World.drewN_zero] at this
 simpa using this
theorem wp_region_l {id : Nat} {Q : Exit → Act → World → Prop} {a : Act} {w : World} (cl : List Cls) (l : List Nat) (hl : List.range ops.length = l) (h : trunT P ops cl [] (fun a w => Q .normal a w) (otOf l) [] a w) : (Code.region id ops.toArray false).wp P Q a w :=
 wp_region_s cl (by rw [hl]; exact h)
end
end Go.Proofs.YteajeenmojbjhaaGreatDoor.Fw
namespace Go.Proofs.YteajeenmojbjhaaGreatDoor.Fw
open Go
def lk : List (Nat × Value) → Nat → Option Value
 | [],_ => none
 | (j,v) :: l,i => match Nat.beq j i with
  | true => some v
  | false => lk l i
structure Fr (n : Nat) (a : Act) (l : List (Nat × Value)) : Prop where
 sz : a.tmps.size = n
 df : a.defers = []
 at_ : ∀ i v,lk l i = some v → a.tmps[i]? = some v
theorem Fr.put {n : Nat} {a : Act} {l : List (Nat × Value)} (F : Fr n a l) {d : Nat} (hd : Nat.blt d n = true) (v : Value) : Fr n (a.put (some d) v) ((d,v) :: l) := by
 have hd' : d < n := by simpa [Nat.blt_eq] using hd
 refine ⟨by simp [Act.put,F.sz],F.df,fun i u h => ?_⟩
 simp only [lk] at h
 simp only [Act.put]
 split at h
 ·rename_i e
  have e : d = i := Nat.eq_of_beq_eq_true e
  subst e
  cases h
  simp [F.sz,hd']
 ·rename_i e
  have e : d ≠ i := by intro h; subst h; simp at e
  rw [Array.getElem?_setIfInBounds_ne e]
  exact F.at_ i u h
theorem Fr.less {n : Nat} {a : Act} {l l' : List (Nat × Value)} (F : Fr n a l) (h : ∀ i v,lk l' i = some v → lk l i = some v) : Fr n a l' := ⟨F.sz,F.df,fun i v hv => F.at_ i v (h i v hv)⟩
def sub : List (Nat × Value) → List Nat → Option (List (Nat × Value))
 | _,[] => some []
 | l,i :: r => match lk l i,sub l r with
  | some v,some s => some ((i,v) :: s)
  | _,_ => none
theorem sub_spec {l : List (Nat × Value)} : ∀ {r : List Nat} {s : List (Nat × Value)},sub l r = some s → ∀ i v,lk s i = some v → lk l i = some v
 | [],s,h,i,v,hv => by simp only [sub,Option.some.injEq] at h; subst h; simp [lk] at hv
 | j :: r,s,h,i,v,hv => by
  simp only [sub] at h
  split at h
  ·rename_i u s' h1 h2
   simp only [Option.some.injEq] at h
   subst h
   simp only [lk] at hv
   split at hv
   ·rename_i e
    have e := Nat.eq_of_beq_eq_true e
    subst e
    rw [h1,← hv]
   ·exact sub_spec h2 i v hv
  ·cases h
theorem Fr.keep {n : Nat} {a : Act} {l s : List (Nat × Value)} (F : Fr n a l) (r : List Nat) (h : sub l r = some s) : Fr n a s := F.less (sub_spec h)
def ev (l : List (Nat × Value)) : Operand → Option Value
 | .tmp i => lk l i
 | .const v => some v
 | .func f => some (.func (.func f) #[] #[])
 | .global g => some (.pointer (some ⟨g,0,none⟩))
theorem Fr.ev {n : Nat} {a : Act} {l : List (Nat × Value)} (F : Fr n a l) {x : Operand} {v : Value} (h : ev l x = some v) : a.eval x = v := by
 cases x with
 | tmp i => simp only [Fw.ev] at h; simp [Act.eval,F.at_ i v h]
 | const u => simp only [Fw.ev,Option.some.injEq] at h; exact h
 | func f => simp only [Fw.ev,Option.some.injEq] at h; exact h
 | global g => simp only [Fw.ev,Option.some.injEq] at h; exact h
def evs (l : List (Nat × Value)) : List Operand → Option (List Value)
 | [] => some []
 | x :: r => match ev l x,evs l r with
  | some v,some s => some (v :: s)
  | _,_ => none
theorem Fr.evs {n : Nat} {a : Act} {l : List (Nat × Value)} (F : Fr n a l) : ∀ {xs : List Operand} {vs : List Value},evs l xs = some vs → xs.map a.eval = vs
 | [],vs,h => by simp only [Fw.evs,Option.some.injEq] at h; simp [h]
 | x :: r,vs,h => by
  simp only [Fw.evs] at h
  split at h
  ·rename_i v s h1 h2
   simp only [Option.some.injEq] at h
   subst h
   simp [F.ev h1,F.evs h2]
  ·cases h
def gd (ops : List Oper) (l : List (Nat × Value)) (j : Nat) : Option Bool :=
 match nth ops j with
 | some o => match o.dst with
  | some d => match lk l d with
   | some (.bool b) => some b
   | _ => none
  | none => none
 | none => none
theorem Fr.yielded {n : Nat} {a : Act} {l : List (Nat × Value)} (F : Fr n a l) {ops : List Oper} {j : Nat} {b : Bool} (h : gd ops l j = some b) : yielded ops.toArray a.tmps j = some b := by
 unfold gd at h
 unfold Go.yielded
 rw [nth_eq] at h
 simp only [List.getElem?_toArray]
 cases ho : ops[j]? with
 | none => rw [ho] at h; cases h
 | some o =>
  simp only [ho] at h
  cases hd : o.dst with
  | none => rw [hd] at h; cases h
  | some d =>
   simp only [hd] at h
   cases hl : lk l d with
   | none => rw [hl] at h; cases h
   | some v =>
    simp only [hl] at h
    cases v <;> simp only [Option.some.injEq,reduceCtorEq] at h
    subst h
    simp [hd,F.at_ d _ hl]
def gu (ops : List Oper) (l : List (Nat × Value)) (j : Nat) : Bool :=
 match nth ops j with
 | some o => match o.dst with
  | some d => match lk l d with
   | some (.tuple _) => true
   | _ => false
  | none => false
 | none => false
theorem Fr.unyielded {n : Nat} {a : Act} {l : List (Nat × Value)} (F : Fr n a l) {ops : List Oper} {j : Nat} (h : gu ops l j = true) : Go.yielded ops.toArray a.tmps j = none := by
 unfold gu at h
 unfold Go.yielded
 rw [nth_eq] at h
 simp only [List.getElem?_toArray]
 cases ho : ops[j]? with
 | none => rw [ho] at h; cases h
 | some o =>
  simp only [ho] at h
  cases hd : o.dst with
  | none => rw [hd] at h; cases h
  | some d =>
   simp only [hd] at h
   cases hl : lk l d with
   | none => rw [hl] at h; cases h
   | some v =>
    simp only [hl] at h
    cases v <;> try (cases h; done)
    simp [hd,F.at_ d _ hl]
def wn (ops : List Oper) (l : List (Nat × Value)) : Option (Nat × Bool) → Option Bool
 | none => some true
 | some (j,want) => match gd ops l j with
  | some true => some want
  | some false => some (!want)
  | none => match gu ops l j with
   | true => some false
   | false => none
theorem Fr.wanted {n : Nat} {a : Act} {l : List (Nat × Value)} (F : Fr n a l) {ops : List Oper} {o : Oper} {b : Bool} (h : wn ops l o.guard = some b) : Region.wanted o (Go.yielded ops.toArray a.tmps) = b := by
 unfold Region.wanted
 cases hg : o.guard with
 | none => rw [hg] at h; simp only [wn,Option.some.injEq] at h; exact h
 | some g =>
  obtain ⟨j,want⟩ := g
  simp only [hg,wn] at h
  cases hb : gd ops l j with
  | none =>
   rw [hb] at h
   simp only at h
   cases hu : gu ops l j with
   | true =>
    rw [hu] at h
    simp only [Option.some.injEq] at h
    subst h
    simp [F.unyielded hu]
   | false => rw [hu] at h; cases h
  | some c =>
   simp only [F.yielded hb]
   cases c <;> simp only [hb,Option.some.injEq] at h <;> subst h <;> cases want <;> rfl
structure Res where
 tag : Nat
 foot : List Nat
 ok : Array Obj → Prop
 loc : ∀ h h',(∀ b ∈ foot,h'[b]? = h[b]?) → ok h → ok h'
def blk (b : Nat) (o : Obj) : Res := ⟨0,[b],fun h => h[b]? = some o,fun _ _ h e => (h b List.mem_cons_self).trans e⟩
structure Chg (S : Nat → Prop) (w0 w : World) : Prop where
 size : w0.heap.size ≤ w.heap.size
 keep : ∀ b,b < w0.heap.size → ¬ S b → w.heap[b]? = w0.heap[b]?
 fz : ∀ a,a.block < w0.heap.size → w.frozen? a = w0.frozen? a
 os : w.os = w0.os
 tape : w.tape = w0.tape
 out : w.output = w0.output
theorem Chg.refl (S : Nat → Prop) (w : World) : Chg S w w := ⟨Nat.le_refl _,fun _ _ _ => rfl,fun _ _ => rfl,rfl,rfl,rfl⟩
theorem Chg.trans {S S' : Nat → Prop} {w0 w w' : World} (h : Chg S w0 w) (h' : Chg S' w w') (hs : ∀ b,S' b → S b ∨ w0.heap.size ≤ b) : Chg S w0 w' :=
 ⟨Nat.le_trans h.size h'.size,fun b hb hn => (h'.keep b (Nat.lt_of_lt_of_le hb h.size) fun hs' => (hs b hs').elim hn (fun h => absurd h (by omega))).trans (h.keep b hb hn),fun a ha => (h'.fz a (Nat.lt_of_lt_of_le ha h.size)).trans (h.fz a ha),
  h'.os.trans h.os,h'.tape.trans h.tape,h'.out.trans h.out⟩
theorem Chg.drewN {S : Nat → Prop} {w0 w : World} (h : Chg S w0 w) (n : Nat) : Chg S w0 (w.drewN n) := ⟨h.size,h.keep,h.fz,h.os,h.tape,h.out⟩
def foots (m : List Res) : List Nat := m.flatMap (·.foot)
structure Own (h : Array Obj) (m : List Res) : Prop where
 ok : ∀ r ∈ m,r.ok h
 lt : ∀ b ∈ foots m,b < h.size
 nd : (foots m).Nodup
structure Sep (S : Nat → Prop) (w0 w : World) (m : List Res) : Prop where
 own : Own w.heap m
 mine : ∀ b ∈ foots m,S b ∨ w0.heap.size ≤ b
 chg : Chg S w0 w
theorem Own.perm {w : Array Obj} {m m' : List Res} (h : Own w m) (hp : m.Perm m') : Own w m' := by
 have hf : (foots m).Perm (foots m') := hp.flatMap_right _
 exact ⟨fun r hr => h.ok r (hp.mem_iff.2 hr),fun b hb => h.lt b (hf.mem_iff.2 hb),hf.nodup_iff.1 h.nd⟩
theorem Sep.perm {S : Nat → Prop} {w0 w : World} {m m' : List Res} (h : Sep S w0 w m) (hp : m.Perm m') : Sep S w0 w m' :=
 ⟨h.own.perm hp,fun b hb => h.mine b ((hp.flatMap_right _).mem_iff.2 hb),h.chg⟩
section
variable {S : Nat → Prop} {w0 w : World} {x0 x1 x2 x3 x4 x5 x6 p : Res} {r : List Res}
theorem Sep.f1 (M : Sep S w0 w (x0 :: p :: r)) : Sep S w0 w (p :: x0 :: r) := M.perm (.swap _ _ _)
theorem Sep.f2 (M : Sep S w0 w (x0 :: x1 :: p :: r)) : Sep S w0 w (p :: x0 :: x1 :: r) := M.perm ((List.Perm.cons _ (.swap _ _ _)).trans (.swap _ _ _))
theorem Sep.f3 (M : Sep S w0 w (x0 :: x1 :: x2 :: p :: r)) : Sep S w0 w (p :: x0 :: x1 :: x2 :: r) := (M.perm (List.perm_middle (l₁ := [x0,x1,x2])))
theorem Sep.f4 (M : Sep S w0 w (x0 :: x1 :: x2 :: x3 :: p :: r)) : Sep S w0 w (p :: x0 :: x1 :: x2 :: x3 :: r) := (M.perm (List.perm_middle (l₁ := [x0,x1,x2,x3])))
theorem Sep.f5 (M : Sep S w0 w (x0 :: x1 :: x2 :: x3 :: x4 :: p :: r)) : Sep S w0 w (p :: x0 :: x1 :: x2 :: x3 :: x4 :: r) := (M.perm (List.perm_middle (l₁ := [x0,x1,x2,x3,x4])))
theorem Sep.f6 (M : Sep S w0 w (x0 :: x1 :: x2 :: x3 :: x4 :: x5 :: p :: r)) : Sep S w0 w (p :: x0 :: x1 :: x2 :: x3 :: x4 :: x5 :: r) := (M.perm (List.perm_middle (l₁ := [x0,x1,x2,x3,x4,x5])))
theorem Sep.h0 (M : Sep S w0 w (p :: r)) : p.ok w.heap := M.own.ok p (by simp)
theorem Sep.h1 (M : Sep S w0 w (x0 :: p :: r)) : p.ok w.heap := M.own.ok p (by simp)
theorem Sep.h2 (M : Sep S w0 w (x0 :: x1 :: p :: r)) : p.ok w.heap := M.own.ok p (by simp)
theorem Sep.h3 (M : Sep S w0 w (x0 :: x1 :: x2 :: p :: r)) : p.ok w.heap := M.own.ok p (by simp)
theorem Sep.h4 (M : Sep S w0 w (x0 :: x1 :: x2 :: x3 :: p :: r)) : p.ok w.heap := M.own.ok p (by simp)
theorem Sep.h5 (M : Sep S w0 w (x0 :: x1 :: x2 :: x3 :: x4 :: p :: r)) : p.ok w.heap := M.own.ok p (by simp)
theorem Sep.tl (M : Sep S w0 w (p :: r)) : Sep S w0 w r := by
 have hf : foots (p :: r) = p.foot ++ foots r := rfl
 refine ⟨⟨fun q hq => M.own.ok q (List.mem_cons_of_mem _ hq),fun b hb => M.own.lt b (by rw [hf]; exact List.mem_append_right _ hb),?_⟩,fun b hb => M.mine b (by rw [hf]; exact List.mem_append_right _ hb),M.chg⟩
 have := M.own.nd
 rw [hf,List.nodup_append] at this
 exact this.2.1
theorem Sep.drewN {m : List Res} (M : Sep S w0 w m) (n : Nat) : Sep S w0 (w.drewN n) m := ⟨⟨M.own.ok,M.own.lt,M.own.nd⟩,M.mine,M.chg.drewN n⟩
theorem Sep.nil (S : Nat → Prop) (w : World) : Sep S w w [] := ⟨⟨by simp,by simp [foots],by simp [foots]⟩,by simp [foots],.refl _ _⟩
end
structure Ro (S : Nat → Prop) (w0 : World) (r : Res) : Prop where
 ok : r.ok w0.heap
 lt : ∀ b ∈ r.foot,b < w0.heap.size ∧ ¬ S b
theorem Chg.ro {S : Nat → Prop} {w0 w : World} (h : Chg S w0 w) {r : Res} (hr : Ro S w0 r) : r.ok w.heap := r.loc _ _ (fun b hb => h.keep b (hr.lt b hb).1 (hr.lt b hb).2) hr.ok
theorem Sep.frame {S : Nat → Prop} {w0 w w' : World} {m m' r : List Res} (M : Sep S w0 w (m ++ r)) (h : Sep (fun b => b ∈ foots m) w w' m') : Sep S w0 w' (m' ++ r) := by
 have hf : ∀ a b : List Res,foots (a ++ b) = foots a ++ foots b := fun a b => by simp [foots]
 have nd := M.own.nd
 rw [hf,List.nodup_append] at nd
 have hr : ∀ b ∈ foots r,b < w.heap.size ∧ b ∉ foots m := fun b hb => ⟨M.own.lt b (by rw [hf]; exact List.mem_append_right _ hb),fun hm => nd.2.2 b hm b hb rfl⟩
 have hm' : ∀ b ∈ foots m',b ∈ foots m ∨ w.heap.size ≤ b := h.mine
 refine ⟨⟨fun q hq => ?_,fun b hb => ?_,?_⟩,fun b hb => ?_,M.chg.trans h.chg fun b hb => M.mine b (by rw [hf]; exact List.mem_append_left _ hb)⟩
 ·rcases List.mem_append.1 hq with hq | hq
  ·exact h.own.ok q hq
  ·refine q.loc _ _ (fun b hb => ?_) (M.own.ok q (List.mem_append_right _ hq))
   have hb' : b ∈ foots r := List.mem_flatMap.2 ⟨q,hq,hb⟩
   exact h.chg.keep b (hr b hb').1 (hr b hb').2
 ·rw [hf] at hb
  rcases List.mem_append.1 hb with hb | hb
  ·exact h.own.lt b hb
  ·exact Nat.lt_of_lt_of_le (hr b hb).1 h.chg.size
 ·rw [hf,List.nodup_append]
  refine ⟨h.own.nd,nd.2.1,fun a ha b hb e => ?_⟩
  subst e
  rcases hm' a ha with h1 | h1
  ·exact (hr a hb).2 h1
  ·exact absurd (hr a hb).1 (by omega)
 ·rw [hf] at hb
  rcases List.mem_append.1 hb with hb | hb
  ·rcases hm' b hb with h1 | h1
   ·exact M.mine b (by rw [hf]; exact List.mem_append_left _ h1)
   ·exact .inr (Nat.le_trans M.chg.size h1)
  ·exact M.mine b (by rw [hf]; exact List.mem_append_right _ hb)
theorem Sep.turn {S : Nat → Prop} {w0 w : World} {p q : Res} {r : List Res} (M : Sep S w0 w (p :: r)) (hf : q.foot = p.foot) (h : p.ok w.heap → q.ok w.heap) : Sep S w0 w (q :: r) := by
 have hff : foots (q :: r) = foots (p :: r) := by simp [foots,hf]
 refine ⟨⟨fun x hx => ?_,fun b hb => M.own.lt b (hff ▸ hb),hff ▸ M.own.nd⟩,fun b hb => M.mine b (hff ▸ hb),M.chg⟩
 rcases List.mem_cons.1 hx with rfl | hx
 ·exact h (M.own.ok p List.mem_cons_self)
 ·exact M.own.ok x (List.mem_cons_of_mem _ hx)
theorem Chg.alloc (S : Nat → Prop) (w : World) (o : Obj) (ho : ∀ c e f,o = .cells c e f → f = (0,0)) : Chg S w { w with heap := w.heap.push o } := by
 refine ⟨by simp,fun b hb _ => by simp [Array.getElem?_push,Nat.ne_of_lt hb],fun a _ => ?_,rfl,rfl,rfl⟩
 unfold World.frozen?
 simp only [Array.getElem?_push]
 by_cases h : a.block = w.heap.size
 ·rw [if_pos h]
  have : w.heap[a.block]? = none := Array.getElem?_eq_none (by omega)
  rw [this]
  cases o <;> first
   | rfl
   | (rename_i c e f; obtain rfl := ho c e f rfl; simp)
 ·rw [if_neg h]
theorem Sep.alloc {S : Nat → Prop} {w0 w : World} {r : List Res} (M : Sep S w0 w r) (o : Obj) (ho : ∀ c e f,o = .cells c e f → f = (0,0)) : Sep S w0 { w with heap := w.heap.push o } (blk w.heap.size o :: r) := by
 have hc := Chg.alloc (fun b => b ∈ foots ([] : List Res)) w o ho
 have h1 : Sep (fun b => b ∈ foots ([] : List Res)) w { w with heap := w.heap.push o } [blk w.heap.size o] :=
  ⟨⟨by simp [blk],by simp [foots,blk],by simp [foots,blk]⟩,by simp [foots,blk],hc⟩
 simpa using Sep.frame (m := []) M h1
theorem Sep.setCell {S : Nat → Prop} {w0 w : World} {b : Nat} {cs : Array Value} {T : TypeId} {r : List Res} (M : Sep S w0 w (blk b (.cells cs T (0,0)) :: r)) (off : Nat) (v : Value) :
  Sep S w0 (w.setCell ⟨b,off,none⟩ v) (blk b (.cells (cs.setIfInBounds off v) T (0,0)) :: r) := by
 have hb : w.heap[b]? = some (.cells cs T (0,0)) := M.h0
 have hlt : b < w.heap.size := M.own.lt b (by simp [foots,blk])
 have h1 : Sep (fun x => x ∈ foots [blk b (.cells cs T (0,0))]) w (w.setCell ⟨b,off,none⟩ v) [blk b (.cells (cs.setIfInBounds off v) T (0,0))] := by
  refine ⟨⟨?_,by simp [foots,blk,World.setCell,hlt],by simp [foots,blk]⟩,fun x hx => .inl (by simpa [foots,blk] using hx),⟨by simp [World.setCell],fun x hx hn => ?_,fun a _ => ?_,rfl,rfl,rfl⟩⟩
  ·intro x hx
   simp only [List.mem_cons,List.not_mem_nil,or_false] at hx
   subst hx
   simp [blk,World.setCell,Array.getElem?_modify,hb]
  ·have hne : b ≠ x := fun e => hn (by simp [foots,blk,e])
   simp [World.setCell,Array.getElem?_modify,hne]
  ·unfold World.frozen? World.setCell
   simp only [Array.getElem?_modify]
   by_cases h : b = a.block
   ·subst h; simp [hb]
   ·simp [h]
 exact Sep.frame (m := [blk b (.cells cs T (0,0))]) M h1
theorem Sep.setObj {S : Nat → Prop} {w0 w : World} {b : Nat} {o o' : Obj} {r : List Res} (M : Sep S w0 w (blk b o :: r)) (h1 : ∀ c e f,o ≠ .cells c e f) (h2 : ∀ c e f,o' ≠ .cells c e f) :
  Sep S w0 { w with heap := w.heap.setIfInBounds b o' } (blk b o' :: r) := by
 have hb : w.heap[b]? = some o := M.h0
 have hlt : b < w.heap.size := M.own.lt b (by simp [foots,blk])
 have h1 : Sep (fun x => x ∈ foots [blk b o]) w { w with heap := w.heap.setIfInBounds b o' } [blk b o'] := by
  refine ⟨⟨by simp [blk,hlt],by simp [foots,blk,hlt],by simp [foots,blk]⟩,fun x hx => .inl (by simpa [foots,blk] using hx),⟨by simp,fun x hx hn => ?_,fun a _ => ?_,rfl,rfl,rfl⟩⟩
  ·have hne : b ≠ x := fun e => hn (by simp [foots,blk,e])
   simp [Array.getElem?_setIfInBounds_ne hne]
  ·unfold World.frozen?
   by_cases h : b = a.block
   ·subst h
    simp only [hb,Array.getElem?_setIfInBounds,if_true,hlt]
    cases o <;> cases o' <;> first
     | rfl
     | exact absurd rfl (h1 _ _ _)
     | exact absurd rfl (h2 _ _ _)
   ·simp [Array.getElem?_setIfInBounds_ne h]
 exact Sep.frame (m := [blk b o]) M h1
theorem cell_of_blk {w : World} {b : Nat} {cs : Array Value} {T : TypeId} {fz : Nat × Nat} {off : Nat} {v : Value} (hb : w.heap[b]? = some (.cells cs T fz)) (hv : cs[off]? = some v) : w.cell? ⟨b,off,none⟩ = some v := by
 simp [World.cell?,hb,hv]
end Go.Proofs.YteajeenmojbjhaaGreatDoor.Fw
namespace Go.Proofs.YteajeenmojbjhaaGreatDoor.Fw
open Go
def scalB (P : Program) (t : TypeId) : Bool :=
 match P.underlying t,P.info? t with
 | some (.struct _),_ | some (.array ..),_ => false
 | some _,some i => i.size == 1
 | _,_ => false
def aggB (P : Program) (t : TypeId) : Option Nat :=
 match P.underlying t,P.info? t with
 | some (.struct _),some i | some (.array ..),some i => some i.size
 | _,_ => none
def sizeB (P : Program) (t : TypeId) : Option Nat := (P.info? t).map (·.size)
def callB (P : Program) (f : FuncId) : Bool :=
 match P.funcs[f]? with
 | some fn => !(fn.name == "runtime.NumGoroutine") && fn.body.isSome
 | none => false
def oneC : Value → Bool
 | .agg _ | .tuple _ => false
 | _ => true
section
variable {P : Program} {ops : List Oper} {cl : List Cls} {bad : List (Nat × Nat)} {Q : Act → World → Prop} {n k d : Nat} {t : Ot} {L : Pend} {a : Act} {w : World} {l : List (Nat × Value)}
theorem t_endM {S : Nat → Prop} {w0 : World} {m : List Res} (M : Sep S w0 w m) (h : ∀ w',Sep S w0 w' m → Q a w') : trunT P ops cl bad Q .done L a w := fun n => h _ (M.drewN n)
theorem s_no {o : Oper} (F : Fr n a l) (ho : nth ops k = some o) (hw : wn ops l o.guard = some false) (hd : o.dst = some d) (hlt : Nat.blt d n = true)
  (h : ∀ a',Fr n a' ((d,undef) :: l) → trunT P ops cl bad Q t L a' w) : trunT P ops cl bad Q (.one k t) L a w := by
 simp only [trunT,stepT,ho]
 rw [if_neg (by rw [F.wanted hw]; simp)]
 rw [hd]
 exact h _ (F.put hlt _)
theorem s_ind {o : Oper} {v : Value} (F : Fr n a l) (ho : nth ops k = some o) (hw : wn ops l o.guard = some true) (hc : nth cl k = some .ind) (hd : o.dst = some d) (hlt : Nat.blt d n = true)
  (hv : ∀ w',(execOp a.eval o).run P w' = .ok (.value v) w') (h : ∀ a',Fr n a' ((d,v) :: l) → trunT P ops cl bad Q t L a' w) : trunT P ops cl bad Q (.one k t) L a w := by
 simp only [trunT,stepT,ho]
 rw [if_pos (F.wanted hw)]
 simp only [hc]
 refine ⟨v,hv,?_⟩
 rw [hd]
 exact h _ (F.put hlt _)
theorem trunT_nil : ∀ (t : Ot) (L L' : Pend) (a : Act) (w : World),trunT P ops cl [] Q t L a w → trunT P ops cl [] Q t L' a w := by
 have key : ∀ (k : Nat) (t : Ot),(∀ (L L' : Pend) (a : Act) (w : World),trunT P ops cl [] Q t L a w → trunT P ops cl [] Q t L' a w) → ∀ (L L' : Pend) (a : Act) (w : World),stepT P ops cl [] k L (trunT P ops cl [] Q t) a w → stepT P ops cl [] k L' (trunT P ops cl [] Q t) a w := by
  intro k t ih L L' a w h
  unfold stepT at h ⊢
  cases ho : nth ops k with
  | none => rw [ho] at h; exact h
  | some o =>
   simp only [ho] at h ⊢
   by_cases hw : Region.wanted o (yielded ops.toArray a.tmps) = true
   ·rw [if_pos hw] at h ⊢
    have wr : (∀ n,Goes P (fun v w' => pend [] k L w' ∧ trunT P ops cl [] Q t L (a.put o.dst v) w') ((execOp a.eval o).run P (w.drewN n))) → (∀ n,Goes P (fun v w' => pend [] k L' w' ∧ trunT P ops cl [] Q t L' (a.put o.dst v) w') ((execOp a.eval o).run P (w.drewN n))) :=
     fun h n => (h n).mono fun v w' ⟨_,h2⟩ => ⟨fun p _ hb => by simp at hb,ih _ _ _ _ h2⟩
    cases hc : nth cl k with
    | none => simp only [hc] at h; exact wr h
    | some c =>
     cases c with
     | ind => simp only [hc] at h; obtain ⟨v,h1,h2⟩ := h; exact ⟨v,h1,ih _ _ _ _ h2⟩
     | rd => simp only [hc] at h; obtain ⟨v,C,h1,h2,h3,h4⟩ := h; exact ⟨v,C,h1,h2,h3,ih _ _ _ _ h4⟩
     | wr => simp only [hc] at h; exact wr h
   ·rw [if_neg hw] at h ⊢
    exact ih _ _ _ _ h
 intro t
 induction t with
 | done => exact fun _ _ _ _ h => h
 | one k t ih => exact key k t ih
 | two x y tx ty ihx ihy => exact fun L L' a w h => ⟨key x tx ihx L L' a w h.1,key y ty ihy L L' a w h.2⟩
 | alt x tx r ihx ihr => exact fun L L' a w h => ⟨key x tx ihx L L' a w h.1,ihr L L' a w h.2⟩
theorem s_rdL {o : Oper} {v : Value} (C : World → Prop) (F : Fr n a l) (ho : nth ops k = some o) (hw : wn ops l o.guard = some true) (hc : nth cl k = some .rd) (hd : o.dst = some d) (hlt : Nat.blt d n = true)
  (hC : ∀ w' n,C w' → C (w'.drewN n)) (hCw : C w) (hv : ∀ w',C w' → (execOp a.eval o).run P w' = .ok (.value v) w') (h : ∀ a',Fr n a' ((d,v) :: l) → trunT P ops cl bad Q t ((k,C) :: L) a' w) : trunT P ops cl bad Q (.one k t) L a w := by
 simp only [trunT,stepT,ho]
 rw [if_pos (F.wanted hw)]
 simp only [hc]
 refine ⟨v,C,hC,hCw,fun w' hw' => ?_,?_⟩
 ·unfold Still
  rw [hv w' hw']
  exact ⟨rfl,0,rfl⟩
 ·rw [hd]
  exact h _ (F.put hlt _)
theorem s_wrL {o : Oper} {R : Value → World → Prop} (F : Fr n a l) (ho : nth ops k = some o) (hw : wn ops l o.guard = some true) (hc : nth cl k = some .wr) (hd : o.dst = some d) (hlt : Nat.blt d n = true)
  (hv : ∀ n,Goes P R ((execOp a.eval o).run P (w.drewN n))) (hp : ∀ v w',R v w' → pend bad k L w') (h : ∀ v w',R v w' → ∀ a',Fr n a' ((d,v) :: l) → trunT P ops cl bad Q t L a' w') : trunT P ops cl bad Q (.one k t) L a w := by
 simp only [trunT,stepT,ho]
 rw [if_pos (F.wanted hw)]
 simp only [hc]
 intro n
 rw [hd]
 exact (hv n).mono fun v w' hR => ⟨hp v w' hR,h v w' hR _ (F.put hlt _)⟩
theorem pend_nil {w : World} : pend [] k L w := fun p _ hb => by simp at hb
theorem pend_none {w : World} : pend bad k [] w := fun p h _ => by simp at h
theorem pend_skip {w : World} {i : Nat} {C : World → Prop} (hb : bad.contains (i,k) = false) (h : pend bad k L w) : pend bad k ((i,C) :: L) w := fun p hp hb' => by
 rcases List.mem_cons.1 hp with rfl | hp
 ·rw [hb] at hb'; cases hb'
 ·exact h p hp hb'
theorem pend_take {w : World} {i : Nat} {C : World → Prop} (hC : C w) (h : pend bad k L w) : pend bad k ((i,C) :: L) w := fun p hp hb' => by
 rcases List.mem_cons.1 hp with rfl | hp
 ·exact hC
 ·exact h p hp hb'
theorem s_wr {o : Oper} {R : Value → World → Prop} (F : Fr n a l) (ho : nth ops k = some o) (hw : wn ops l o.guard = some true) (hc : nth cl k = some .wr) (hd : o.dst = some d) (hlt : Nat.blt d n = true)
  (hv : ∀ n,Goes P R ((execOp a.eval o).run P (w.drewN n))) (h : ∀ v w',R v w' → ∀ a',Fr n a' ((d,v) :: l) → trunT P ops cl [] Q t L a' w') : trunT P ops cl [] Q (.one k t) L a w :=
 s_wrL F ho hw hc hd hlt hv (fun _ _ _ => pend_nil) h
theorem s_wrL0 {o : Oper} {R : Value → World → Prop} (F : Fr n a l) (ho : nth ops k = some o) (hw : wn ops l o.guard = some true) (hc : nth cl k = some .wr) (hd : o.dst = none)
  (hv : ∀ n,Goes P R ((execOp a.eval o).run P (w.drewN n))) (hp : ∀ v w',R v w' → pend bad k L w') (h : ∀ v w',R v w' → trunT P ops cl bad Q t L a w') : trunT P ops cl bad Q (.one k t) L a w := by
 simp only [trunT,stepT,ho]
 rw [if_pos (F.wanted hw)]
 simp only [hc]
 intro n
 rw [hd]
 exact (hv n).mono fun v w' hR => ⟨hp v w' hR,h v w' hR⟩
theorem bsplit {G : Prop} {c : Bool} (F : Fr n a l) (d : Nat) (_hv : lk l d = some (.bool c)) (h1 : c = true → Fr n a l → G) (h0 : c = false → Fr n a l → G) : G := by
 cases c
 ·exact h0 rfl F
 ·exact h1 rfl F
end
def binI : BinOp → Value → Value → Option Value
 | .lss,.int .i64 a,.int .i64 b => some (.bool (decide (a < b)))
 | .leq,.int .i64 a,.int .i64 b => some (.bool (decide (a ≤ b)))
 | .gtr,.int .i64 a,.int .i64 b => some (.bool (decide (b < a)))
 | .geq,.int .i64 a,.int .i64 b => some (.bool (decide (b ≤ a)))
 | .eql,.int .i64 a,.int .i64 b => some (.bool (decide (a = b)))
 | .neq,.int .i64 a,.int .i64 b => some (.bool (!decide (a = b)))
 | .eql,.string a,.string b => some (.bool (decide (a = b)))
 | .neq,.string a,.string b => some (.bool (!decide (a = b)))
 | _,_,_ => none
def evI (l : List (Nat × Value)) : Op → Option Value
 | .move x | .assign x => ev l x
 | .pick c x y => match ev l c with
  | some (.bool true) => ev l x
  | some (.bool false) => ev l y
  | _ => none
 | .nilCheck x => match ev l x with
  | some (.pointer (some p)) => some (.pointer (some p))
  | some (.func (.func f) a b) => some (.func (.func f) a b)
  | _ => none
 | .unOp .not _ x => match ev l x with
  | some (.bool b) => some (.bool (!b))
  | _ => none
 | .extract x i => match ev l x with
  | some (.tuple vs) => nth vs.toList i
  | _ => none
 | _ => none
theorem bytes_toList_inj {a b : ByteArray} : (a.toList == b.toList) = decide (a = b) := by
 rw [Bool.eq_iff_iff]
 simp only [beq_iff_eq,decide_eq_true_eq]
 constructor
 ·intro h
  have h' : a.data.toList = b.data.toList := by
   rw [ByteArray.toList_eq,ByteArray.toList_eq] at h
   exact h
  cases a; cases b
  simpa using Array.toList_inj.1 h'
 ·rintro rfl; rfl
section
variable {P : Program} {ops : List Oper} {cl : List Cls} {bad : List (Nat × Nat)} {Q : Act → World → Prop} {n k d : Nat} {t : Ot} {L : Pend} {a : Act} {w : World} {l : List (Nat × Value)}
theorem evI_run {o : Oper} {v : Value} (F : Fr n a l) (h : evI l o.op = some v) : ∀ w',(execOp a.eval o).run P w' = .ok (.value v) w' := by
 intro w'
 obtain ⟨dst,op,ty,ps,af,g⟩ := o
 simp only at h
 cases op <;> simp only [evI] at h <;> try (cases h; done)
 case move x => simp [execOp,F.ev h]
 case assign x => simp [execOp,F.ev h]
 case pick c x y =>
  cases hc : ev l c with
  | none => simp [hc] at h
  | some u =>
   rw [hc] at h
   cases u <;> try (cases h; done)
   rename_i b
   cases b <;> simp only at h <;> simp [execOp,F.ev hc,F.ev h,asBool]
 case nilCheck x =>
  cases hc : ev l x with
  | none => simp [hc] at h
  | some u =>
   rw [hc] at h
   cases u <;> try (cases h; done)
   case pointer p =>
    cases p <;> try (cases h; done)
    simp only [Option.some.injEq] at h
    subst h
    simp [execOp,F.ev hc]
   case func fn a b =>
    cases fn <;> try (cases h; done)
    simp only [Option.some.injEq] at h
    subst h
    simp [execOp,F.ev hc]
 case unOp op ty x =>
  cases op <;> try (cases h; done)
  simp only at h
  cases hc : ev l x with
  | none => simp [hc] at h
  | some u =>
   rw [hc] at h
   cases u <;> try (cases h; done)
   simp only [Option.some.injEq] at h
   subst h
   simp [execOp,F.ev hc,Op.unary]
 case extract x i =>
  cases hc : ev l x with
  | none => simp [hc] at h
  | some u =>
   rw [hc] at h
   cases u <;> try (cases h; done)
   rename_i vs
   simp only at h
   rw [nth_eq] at h
   have h' : vs[i]? = some v := by simpa using h
   simp [execOp,F.ev hc,Instr.extract,h']
theorem s_I {o : Oper} {v : Value} (F : Fr n a l) (ho : nth ops k = some o) (hw : wn ops l o.guard = some true) (hc : nth cl k = some .ind) (hd : o.dst = some d) (hlt : Nat.blt d n = true)
  (hv : evI l o.op = some v) (h : ∀ a',Fr n a' ((d,v) :: l) → trunT P ops cl bad Q t L a' w) : trunT P ops cl bad Q (.one k t) L a w :=
 s_ind F ho hw hc hd hlt (evI_run F hv) h
theorem binI_run {op : BinOp} {tx ty : TypeId} {x y : Operand} {u v r : Value} {dst : Option Tmp} {tt : TypeId} {ps : String} {af : Array Edge} {g : Option (Nat × Bool)} (F : Fr n a l) (hx : ev l x = some u) (hy : ev l y = some v) (h : binI op u v = some r) :
  ∀ w',(execOp a.eval ⟨dst,.binOp op tx x y ty,tt,ps,af,g⟩).run P w' = .ok (.value r) w' := by
 intro w'
 simp only [execOp,F.ev hx,F.ev hy]
 unfold binI at h
 split at h <;> first
  | (cases h; done)
  | (simp only [Option.some.injEq] at h; subst h)
 case h_5 a b => simp [eqGuard,Go.binOp,Op.intCmp]; rfl
 case h_6 a b => simp [eqGuard,Go.binOp,Op.intCmp]; rfl
 case h_7 a b => simp [eqGuard,Go.binOp,Op.stringOp,bytes_toList_inj]
 case h_8 a b => simp [eqGuard,Go.binOp,Op.stringOp,bytes_toList_inj]
 all_goals simp [eqGuard,Go.binOp,Op.intCmp]
end
end Go.Proofs.YteajeenmojbjhaaGreatDoor.Fw
namespace Go.Proofs.YteajeenmojbjhaaGreatDoor.Fw
open Go
def ptrB (P : Program) (t : TypeId) : Bool :=
 match P.underlying t with
 | some (.pointer _) => true
 | _ => false
def intB (P : Program) (t : TypeId) : Option IntKind :=
 match P.underlying t with
 | some (.int k) => some k
 | _ => none
def arrB (P : Program) (t : TypeId) : Option (Nat × Nat) :=
 match P.underlying t with
 | some (.array n e) => (P.info? e).map fun i => (n,i.size)
 | _ => none
def slcB (P : Program) (t : TypeId) : Option (TypeId × Nat) :=
 match P.underlying t with
 | some (.slice e) => (P.info? e).map fun i => (e,i.size)
 | _ => none
theorem arrB_spec {P : Program} {t : TypeId} {n s : Nat} (h : arrB P t = some (n,s)) : ∃ e i,P.underlying t = some (.array n e) ∧ P.info? e = some i ∧ i.size = s := by
 unfold arrB at h
 split at h
 ·rename_i m e he
  cases hi : P.info? e with
  | none => rw [hi] at h; cases h
  | some i =>
   rw [hi] at h
   simp only [Option.map_some,Option.some.injEq,Prod.mk.injEq] at h
   obtain ⟨rfl,rfl⟩ := h
   exact ⟨e,i,he,hi,rfl⟩
 ·cases h
theorem slcB_spec {P : Program} {t e : TypeId} {s : Nat} (h : slcB P t = some (e,s)) : ∃ i,P.underlying t = some (.slice e) ∧ P.info? e = some i ∧ i.size = s := by
 unfold slcB at h
 split at h
 ·rename_i e' he
  cases hi : P.info? e' with
  | none => rw [hi] at h; cases h
  | some i =>
   rw [hi] at h
   simp only [Option.map_some,Option.some.injEq,Prod.mk.injEq] at h
   obtain ⟨rfl,rfl⟩ := h
   exact ⟨i,he,hi,rfl⟩
 ·cases h
theorem add_at (b o k : Nat) : (⟨b,o,none⟩ : Addr).add k = ⟨b,o + k,none⟩ := by
 unfold Addr.add
 split
 ·rename_i h; subst h; rfl
 ·rfl
theorem lit {cs : Array Value} {off : Nat} {v : Value} (h : nth cs.toList off = some v) : cs[off]? = some v := by
 rw [nth_eq] at h
 simpa using h
section
variable {P : Program} {ops : List Oper} {cl : List Cls} {bad : List (Nat × Nat)} {Q : Act → World → Prop} {n k d : Nat} {t : Ot} {L : Pend} {a : Act} {w : World} {l : List (Nat × Value)}
variable {ty : TypeId} {ps : String} {af : Array Edge} {g : Option (Nat × Bool)}
theorem s_bin {op : BinOp} {tx ty' : TypeId} {x y : Operand} {u v r : Value} (F : Fr n a l) (ho : nth ops k = some ⟨some d,.binOp op tx x y ty',ty,ps,af,g⟩) (hw : wn ops l g = some true) (hc : nth cl k = some .ind) (hlt : Nat.blt d n = true)
  (hx : ev l x = some u) (hy : ev l y = some v) (hr : binI op u v = some r) (h : ∀ a',Fr n a' ((d,r) :: l) → trunT P ops cl bad Q t L a' w) : trunT P ops cl bad Q (.one k t) L a w :=
 s_ind F ho hw hc rfl hlt (binI_run F hx hy hr) h
def In64 (x : Int) : Prop := -9223372036854775808 ≤ x ∧ x ≤ 9223372036854775807
theorem wrap_in {x : Int} (h : In64 x) : IntKind.i64.wrap x = x := IntWalk.i64_in x h
theorem s_add {tx ty' : TypeId} {x y : Operand} {u v : Int} (F : Fr n a l) (ho : nth ops k = some ⟨some d,.binOp .add tx x y ty',ty,ps,af,g⟩) (hw : wn ops l g = some true) (hc : nth cl k = some .ind) (hlt : Nat.blt d n = true)
  (hx : ev l x = some (.int .i64 u)) (hy : ev l y = some (.int .i64 v)) (hr : In64 (u + v)) (h : ∀ a',Fr n a' ((d,.int .i64 (u + v)) :: l) → trunT P ops cl bad Q t L a' w) : trunT P ops cl bad Q (.one k t) L a w :=
 s_ind F ho hw hc rfl hlt (fun w' => by simp [execOp,F.ev hx,F.ev hy,eqGuard,Go.binOp,Op.intArith,wrap_in hr]) h
theorem s_sub {tx ty' : TypeId} {x y : Operand} {u v : Int} (F : Fr n a l) (ho : nth ops k = some ⟨some d,.binOp .sub tx x y ty',ty,ps,af,g⟩) (hw : wn ops l g = some true) (hc : nth cl k = some .ind) (hlt : Nat.blt d n = true)
  (hx : ev l x = some (.int .i64 u)) (hy : ev l y = some (.int .i64 v)) (hr : In64 (u - v)) (h : ∀ a',Fr n a' ((d,.int .i64 (u - v)) :: l) → trunT P ops cl bad Q t L a' w) : trunT P ops cl bad Q (.one k t) L a w :=
 s_ind F ho hw hc rfl hlt (fun w' => by simp [execOp,F.ev hx,F.ev hy,eqGuard,Go.binOp,Op.intArith,wrap_in hr]) h
theorem s_mul {tx ty' : TypeId} {x y : Operand} {u v : Int} (F : Fr n a l) (ho : nth ops k = some ⟨some d,.binOp .mul tx x y ty',ty,ps,af,g⟩) (hw : wn ops l g = some true) (hc : nth cl k = some .ind) (hlt : Nat.blt d n = true)
  (hx : ev l x = some (.int .i64 u)) (hy : ev l y = some (.int .i64 v)) (hr : In64 (u * v)) (h : ∀ a',Fr n a' ((d,.int .i64 (u * v)) :: l) → trunT P ops cl bad Q t L a' w) : trunT P ops cl bad Q (.one k t) L a w :=
 s_ind F ho hw hc rfl hlt (fun w' => by simp [execOp,F.ev hx,F.ev hy,eqGuard,Go.binOp,Op.intArith,wrap_in hr]) h
theorem s_quo {tx ty' : TypeId} {x y : Operand} {u v : Int} (F : Fr n a l) (ho : nth ops k = some ⟨some d,.binOp .quo tx x y ty',ty,ps,af,g⟩) (hw : wn ops l g = some true) (hc : nth cl k = some .ind) (hlt : Nat.blt d n = true)
  (hx : ev l x = some (.int .i64 u)) (hy : ev l y = some (.int .i64 v)) (h0 : 0 ≤ u) (h1 : 0 < v) (h2 : u ≤ 9223372036854775807) (h : ∀ a',Fr n a' ((d,.int .i64 (u / v)) :: l) → trunT P ops cl bad Q t L a' w) : trunT P ops cl bad Q (.one k t) L a w := by
 refine s_ind F ho hw hc rfl hlt (fun w' => ?_) h
 have hne : v ≠ 0 := by omega
 have e : u.tdiv v = u / v := Int.tdiv_eq_ediv_of_nonneg h0
 have hle : u / v ≤ u := Int.ediv_le_self _ h0
 have hge : 0 ≤ u / v := Int.ediv_nonneg h0 (by omega)
 simp [execOp,F.ev hx,F.ev hy,eqGuard,Go.binOp,Op.intDiv,hne,e,wrap_in (x := u / v) ⟨by omega,by omega⟩]
theorem s_rem {K : IntKind} {tx ty' : TypeId} {x y : Operand} {u v : Int} (F : Fr n a l) (ho : nth ops k = some ⟨some d,.binOp .rem tx x y ty',ty,ps,af,g⟩) (hw : wn ops l g = some true) (hc : nth cl k = some .ind) (hlt : Nat.blt d n = true)
  (hx : ev l x = some (.int K u)) (hy : ev l y = some (.int K v)) (h1 : v ≠ 0) (h : ∀ a',Fr n a' ((d,.int K (u.tmod v)) :: l) → trunT P ops cl bad Q t L a' w) : trunT P ops cl bad Q (.one k t) L a w :=
 s_ind F ho hw hc rfl hlt (fun w' => by simp [execOp,F.ev hx,F.ev hy,eqGuard,Go.binOp,Op.intDiv,h1]) h
theorem s_cvt {ts td : TypeId} {x : Operand} {K K' : IntKind} {u : Int} (F : Fr n a l) (ho : nth ops k = some ⟨some d,.convert ts td x,ty,ps,af,g⟩) (hw : wn ops l g = some true) (hc : nth cl k = some .ind) (hlt : Nat.blt d n = true)
  (hs : intB P ts = some K) (hd : intB P td = some K') (hx : ev l x = some (.int K u)) (h : ∀ a',Fr n a' ((d,.int K' (K'.wrap u)) :: l) → trunT P ops cl bad Q t L a' w) : trunT P ops cl bad Q (.one k t) L a w := by
 refine s_ind F ho hw hc rfl hlt (fun w' => ?_) h
 unfold intB at hs hd
 split at hs <;> try (cases hs; done)
 rename_i k1 h1
 split at hd <;> try (cases hd; done)
 rename_i k2 h2
 simp only [Option.some.injEq] at hs hd
 subst hs; subst hd
 simp [execOp,F.ev hx,Go.convert,run_underlying h1,run_underlying h2,Conv.intToInt]
theorem s_len {x : Operand} {tx e : TypeId} {sz : Nat} {A : Option Addr} {m c : Nat} (F : Fr n a l) (ho : nth ops k = some ⟨some d,.call ⟨.builtin .len,#[x],#[tx]⟩,ty,ps,af,g⟩) (hw : wn ops l g = some true) (hc : nth cl k = some .ind) (hlt : Nat.blt d n = true)
  (hT : slcB P tx = some (e,sz)) (hx : ev l x = some (.slice A m c)) (h : ∀ a',Fr n a' ((d,.int .i64 m) :: l) → trunT P ops cl bad Q t L a' w) : trunT P ops cl bad Q (.one k t) L a w := by
 refine s_ind F ho hw hc rfl hlt (fun w' => ?_) h
 obtain ⟨i,h1,_,_⟩ := slcB_spec hT
 simp [execOp,resolve,invoke,builtin,F.ev hx,Builtin.len_,run_underlying h1,goInt]
def FA (P : Program) (T : TypeId) (f o : Nat) : Prop := ∀ (b off : Nat) (w : World),(Instr.fieldAt T (.pointer (some ⟨b,off,none⟩)) f).run P w = .ok (.pointer (some ⟨b,off + o,none⟩)) w
theorem s_fa {T : TypeId} {x : Operand} {f o b off : Nat} (F : Fr n a l) (ho : nth ops k = some ⟨some d,.fieldAddr T x f,ty,ps,af,g⟩) (hw : wn ops l g = some true) (hc : nth cl k = some .ind) (hlt : Nat.blt d n = true)
  (hT : FA P T f o) (hx : ev l x = some (.pointer (some ⟨b,off,none⟩))) (h : ∀ a',Fr n a' ((d,.pointer (some ⟨b,off + o,none⟩)) :: l) → trunT P ops cl bad Q t L a' w) : trunT P ops cl bad Q (.one k t) L a w :=
 s_ind F ho hw hc rfl hlt (fun w' => by simp [execOp,F.ev hx,hT b off w']) h
theorem s_fa0 {T : TypeId} {x : Operand} {f o b : Nat} (F : Fr n a l) (ho : nth ops k = some ⟨some d,.fieldAddr T x f,ty,ps,af,g⟩) (hw : wn ops l g = some true) (hc : nth cl k = some .ind) (hlt : Nat.blt d n = true)
  (hT : FA P T f o) (hx : ev l x = some (.pointer (some ⟨b,0,none⟩))) (h : ∀ a',Fr n a' ((d,.pointer (some ⟨b,o,none⟩)) :: l) → trunT P ops cl bad Q t L a' w) : trunT P ops cl bad Q (.one k t) L a w :=
 s_fa F ho hw hc hlt hT hx (by simpa using h)
theorem s_ia {T : TypeId} {x y : Operand} {m sz b off : Nat} {i : Int} (F : Fr n a l) (ho : nth ops k = some ⟨some d,.indexAddr T x y,ty,ps,af,g⟩) (hw : wn ops l g = some true) (hc : nth cl k = some .ind) (hlt : Nat.blt d n = true)
  (hT : arrB P T = some (m,sz)) (hx : ev l x = some (.pointer (some ⟨b,off,none⟩))) (hy : ev l y = some (.int .i64 i)) (h0 : 0 ≤ i) (h1 : i < m)
  (h : ∀ a',Fr n a' ((d,.pointer (some ⟨b,off + i.toNat * sz,none⟩)) :: l) → trunT P ops cl bad Q t L a' w) : trunT P ops cl bad Q (.one k t) L a w := by
 refine s_ind F ho hw hc rfl hlt (fun w' => ?_) h
 obtain ⟨e,i',h2,h3,h4⟩ := arrB_spec hT
 subst h4
 simp [execOp,F.ev hx,F.ev hy,Instr.indexAt,asIntOf,run_underlying h2,Instr.sureAddr,h0,h1,sizeOf,typeInfo,h3,add_at]
theorem s_is {T e : TypeId} {x y : Operand} {sz b off m c : Nat} {i : Int} (F : Fr n a l) (ho : nth ops k = some ⟨some d,.indexAddr T x y,ty,ps,af,g⟩) (hw : wn ops l g = some true) (hc : nth cl k = some .ind) (hlt : Nat.blt d n = true)
  (hT : slcB P T = some (e,sz)) (hx : ev l x = some (.slice (some ⟨b,off,none⟩) m c)) (hy : ev l y = some (.int .i64 i)) (h0 : 0 ≤ i) (h1 : i < m)
  (h : ∀ a',Fr n a' ((d,.pointer (some ⟨b,off + i.toNat * sz,none⟩)) :: l) → trunT P ops cl bad Q t L a' w) : trunT P ops cl bad Q (.one k t) L a w := by
 refine s_ind F ho hw hc rfl hlt (fun w' => ?_) h
 obtain ⟨i',h2,h3,h4⟩ := slcB_spec hT
 subst h4
 simp [execOp,F.ev hx,F.ev hy,Instr.indexAt,asIntOf,run_underlying h2,h0,h1,sizeOf,typeInfo,h3,add_at]
theorem scal_load {t' : TypeId} (hs : scalB P t' = true) {p : Addr} {v : Value} {w' : World} (h : w'.cell? p = some v) : (loadVar t' p).run P w' = .ok v w' := by
 unfold scalB at hs
 split at hs <;> try (cases hs; done)
 rename_i d i h3 h4 h1 h2
 have : (isAgg t').run P w' = .ok false w' := by
  unfold isAgg
  simp only [Sem.run_bind,run_underlying h1,Result.andThen_ok]
  cases d <;> first
   | rfl
   | exact absurd rfl (h3 _)
   | exact absurd rfl (h4 _ _)
 simp [loadVar,this,h,load,Sem.run]
theorem part_scal {t : TypeId} (hs : scalB P t = true) {cs : Array Value} {o : Nat} {v : Value} (hv : cs[o]? = some v) (w : World) : (part t cs o).run P w = .ok v w := by
 unfold scalB at hs
 split at hs <;> try (cases hs; done)
 rename_i d i h3 h4 h1 h2
 have : (isAgg t).run P w = .ok false w := by
  unfold isAgg
  simp only [Sem.run_bind,run_underlying h1,Result.andThen_ok]
  cases d <;> first
   | rfl
   | exact absurd rfl (h3 _)
   | exact absurd rfl (h4 _ _)
 simp [part,this,hv]
theorem s_ldL {t' : TypeId} {x : Operand} {p : Addr} {v : Value} (F : Fr n a l) (ho : nth ops k = some ⟨some d,.load t' x,ty,ps,af,g⟩) (hw : wn ops l g = some true) (hc : nth cl k = some .rd) (hlt : Nat.blt d n = true)
  (hs : scalB P t' = true) (hx : ev l x = some (.pointer (some p))) (hv : w.cell? p = some v) (h : ∀ a',Fr n a' ((d,v) :: l) → trunT P ops cl bad Q t ((k,fun w' => w'.cell? p = some v) :: L) a' w) : trunT P ops cl bad Q (.one k t) L a w :=
 s_rdL (fun w' => w'.cell? p = some v) F ho hw hc rfl hlt (fun _ _ h => h) hv (fun w' hC => by simp [execOp,F.ev hx,Instr.loadAt,Instr.sureAddr,scal_load hs hC]) h
theorem s_ld {t' : TypeId} {x : Operand} {p : Addr} {v : Value} (F : Fr n a l) (ho : nth ops k = some ⟨some d,.load t' x,ty,ps,af,g⟩) (hw : wn ops l g = some true) (hc : nth cl k = some .rd) (hlt : Nat.blt d n = true)
  (hs : scalB P t' = true) (hx : ev l x = some (.pointer (some p))) (hv : w.cell? p = some v) (h : ∀ a',Fr n a' ((d,v) :: l) → trunT P ops cl [] Q t L a' w) : trunT P ops cl [] Q (.one k t) L a w :=
 s_ldL F ho hw hc hlt hs hx hv fun a' F' => trunT_nil _ _ _ _ _ (h a' F')
theorem agg_load {t' : TypeId} {m : Nat} (hs : aggB P t' = some m) {p : Addr} {cs : Array Value} (hm : cs.size = m) {w' : World} (h : ∀ j v,cs[j]? = some v → w'.cell? (p.add j) = some v) : (loadVar t' p).run P w' = .ok (.agg cs) w' := by
 have key : ∀ (r i : Nat) (acc : Array Value),(∀ j v,cs[j]? = some v → w'.cell? (p.add j) = some v) → i + r = cs.size → acc = cs.extract 0 i → (loadCellsFrom p i r acc).run P w' = .ok cs w' := by
  intro r
  induction r with
  | zero =>
   intro i acc _ hi hacc
   simp only [loadCellsFrom,Sem.run_pure]
   have : i = cs.size := by omega
   rw [hacc,this]
   simp
  | succ r ih =>
   intro i acc hh hi hacc
   have hlt : i < cs.size := by omega
   have hc := hh i cs[i] (by simp [hlt])
   simp only [loadCellsFrom,Sem.run_bind,load]
   rw [show (Sem.load Mode.plain (p.add i) Sem.pure).run P w' = .ok cs[i] w' from by simp [Sem.run,hc]]
   simp only [Result.andThen_ok]
   refine ih (i + 1) _ hh (by omega) ?_
   rw [hacc]
   apply Array.ext
   ·simp only [Array.size_push,Array.size_extract]; omega
   ·intro j h1 h2
    simp only [Array.getElem_push,Array.getElem_extract,Array.size_extract]
    split
    ·simp
    ·rename_i hne
     simp at h1 hne
     have : j = i := by omega
     subst this
     simp
 unfold aggB at hs
 split at hs <;> try (cases hs; done)
 all_goals
  simp only [Option.some.injEq] at hs
  rename_i h1 h2
  have h3 : (isAgg t').run P w' = .ok true w' := by simp [isAgg,run_underlying h1]
  have h4 : (sizeOf t').run P w' = .ok m w' := by simp [sizeOf,typeInfo,h2,hs]
  simp only [loadVar,Sem.run_bind,h3,h4,Result.andThen_ok,if_true,loadCells]
  rw [key m 0 #[] h (by omega) (by simp)]
  simp
theorem s_ldaL {t' : TypeId} {x : Operand} {m : Nat} {p : Addr} {cs : Array Value} (F : Fr n a l) (ho : nth ops k = some ⟨some d,.load t' x,ty,ps,af,g⟩) (hw : wn ops l g = some true) (hc : nth cl k = some .rd) (hlt : Nat.blt d n = true)
  (hs : aggB P t' = some m) (hx : ev l x = some (.pointer (some p))) (hm : cs.size = m) (hv : ∀ j v,cs[j]? = some v → w.cell? (p.add j) = some v) (h : ∀ a',Fr n a' ((d,.agg cs) :: l) → trunT P ops cl bad Q t ((k,fun w' => ∀ j v,cs[j]? = some v → w'.cell? (p.add j) = some v) :: L) a' w) : trunT P ops cl bad Q (.one k t) L a w :=
 s_rdL (fun w' => ∀ j v,cs[j]? = some v → w'.cell? (p.add j) = some v) F ho hw hc rfl hlt (fun _ _ h => h) hv (fun w' hC => by simp [execOp,F.ev hx,Instr.loadAt,Instr.sureAddr,agg_load hs hm hC]) h
theorem s_lda {t' : TypeId} {x : Operand} {m : Nat} {p : Addr} {cs : Array Value} (F : Fr n a l) (ho : nth ops k = some ⟨some d,.load t' x,ty,ps,af,g⟩) (hw : wn ops l g = some true) (hc : nth cl k = some .rd) (hlt : Nat.blt d n = true)
  (hs : aggB P t' = some m) (hx : ev l x = some (.pointer (some p))) (hm : cs.size = m) (hv : ∀ j v,cs[j]? = some v → w.cell? (p.add j) = some v) (h : ∀ a',Fr n a' ((d,.agg cs) :: l) → trunT P ops cl [] Q t L a' w) : trunT P ops cl [] Q (.one k t) L a w :=
 s_ldaL F ho hw hc hlt hs hx hm hv fun a' F' => trunT_nil _ _ _ _ _ (h a' F')
theorem cells_whole {b : Nat} {cs : Array Value} {T : TypeId} {fz : Nat × Nat} (hb : w.heap[b]? = some (.cells cs T fz)) : ∀ j v,cs[j]? = some v → w.cell? ((⟨b,0,none⟩ : Addr).add j) = some v := fun j v hv => by
 rw [add_at]; exact cell_of_blk hb (by simpa using hv)
theorem cells_part {b off : Nat} {arr cs : Array Value} {T : TypeId} {fz : Nat × Nat} (hb : w.heap[b]? = some (.cells arr T fz)) (hp : ∀ j v,cs[j]? = some v → arr[off + j]? = some v) : ∀ j v,cs[j]? = some v → w.cell? ((⟨b,off,none⟩ : Addr).add j) = some v := fun j v hv => by
 rw [add_at]; exact cell_of_blk hb (hp j v hv)
def setCells (arr : Array Value) (off : Nat) : List Value → Array Value
 | [] => arr
 | v :: vs => setCells (arr.setIfInBounds off v) (off + 1) vs
theorem run_store {S : Nat → Prop} {w0 w : World} {b off : Nat} {cs : Array Value} {T : TypeId} {r : List Res} {v : Value} (M : Sep S w0 w (blk b (.cells cs T (0,0)) :: r)) (hoff : off < cs.size) (hv : oneC v = true) :
  ∃ w',(store ⟨b,off,none⟩ v).run P w = .ok () w' ∧ Sep S w0 w' (blk b (.cells (cs.setIfInBounds off v) T (0,0)) :: r) := by
 have hb : w.heap[b]? = some (.cells cs T (0,0)) := M.h0
 have hc : w.cell? ⟨b,off,none⟩ = some cs[off] := cell_of_blk hb (by simp [hoff])
 have hf : w.frozen? ⟨b,off,none⟩ = false := by simp [World.frozen?,hb]
 refine ⟨_,?_,M.setCell off v⟩
 unfold store
 cases v <;> first
  | (cases hv; done)
  | simp [Sem.run,hc,hf]
theorem run_storeCells {S : Nat → Prop} {w0 : World} {b : Nat} {T : TypeId} {r : List Res} {off : Nat} : ∀ (vs : List Value) (i : Nat) (cs : Array Value) (w : World),Sep S w0 w (blk b (.cells cs T (0,0)) :: r) → off + i + vs.length ≤ cs.size → (∀ v ∈ vs,oneC v = true) →
  ∃ w',(storeCells ⟨b,off,none⟩ vs i).run P w = .ok () w' ∧ Sep S w0 w' (blk b (.cells (setCells cs (off + i) vs) T (0,0)) :: r)
 | [],i,cs,w,M,_,_ => ⟨w,by simp [storeCells],M⟩
 | v :: vs,i,cs,w,M,hl,h1 => by
  simp only [List.length_cons] at hl
  obtain ⟨w1,hr,M1⟩ := run_store (P := P) M (off := off + i) (v := v) (by omega) (h1 v List.mem_cons_self)
  obtain ⟨w2,hr2,M2⟩ := run_storeCells (off := off) vs (i + 1) _ w1 M1 (by simp; omega) (fun u hu => h1 u (List.mem_cons_of_mem _ hu))
  refine ⟨w2,?_,by rw [← Nat.add_assoc] at M2; exact M2⟩
  simp only [storeCells,add_at,Sem.run_bind,hr,Result.andThen_ok,hr2]
theorem run_storeVar {S : Nat → Prop} {w0 : World} {b off : Nat} {T t' : TypeId} {m : Nat} {r : List Res} {cs : Array Value} {v : Value} (hs : sizeB P t' = some m) (M : Sep S w0 w (blk b (.cells cs T (0,0)) :: r)) (hm : v.cells.size = m) (hl : off + m ≤ cs.size) (h1 : ∀ u ∈ v.cells.toList,oneC u = true) :
  ∃ w',(storeVar t' ⟨b,off,none⟩ v).run P w = .ok () w' ∧ Sep S w0 w' (blk b (.cells (setCells cs off v.cells.toList) T (0,0)) :: r) := by
 obtain ⟨w1,hr,M1⟩ := run_storeCells (P := P) (off := off) v.cells.toList 0 cs w M (by simp; omega) h1
 refine ⟨w1,?_,M1⟩
 have h4 : (sizeOf t').run P w = .ok m w := by
  unfold sizeB at hs
  cases hi : P.info? t' with
  | none => rw [hi] at hs; cases hs
  | some i => rw [hi] at hs; simp only [Option.map_some,Option.some.injEq] at hs; simp [sizeOf,typeInfo,hi,hs]
 simp [storeVar,h4,hm,hr]
theorem s_stL {S : Nat → Prop} {w0 : World} {b off : Nat} {T t' : TypeId} {x y : Operand} {r : List Res} {cs : Array Value} {v : Value} (F : Fr n a l) (M : Sep S w0 w (blk b (.cells cs T (0,0)) :: r)) (ho : nth ops k = some ⟨none,.store t' x y,ty,ps,af,g⟩) (hw : wn ops l g = some true) (hc : nth cl k = some .wr)
  (hs : sizeB P t' = some 1) (hx : ev l x = some (.pointer (some ⟨b,off,none⟩))) (hy : ev l y = some v) (hv : oneC v = true) (hoff : off < cs.size)
  (hp : ∀ w',Sep S w0 w' (blk b (.cells (cs.setIfInBounds off v) T (0,0)) :: r) → pend bad k L w')
  (h : ∀ w',Sep S w0 w' (blk b (.cells (cs.setIfInBounds off v) T (0,0)) :: r) → trunT P ops cl bad Q t L a w') : trunT P ops cl bad Q (.one k t) L a w := by
 have hcells : v.cells = #[v] := by cases v <;> first | rfl | cases hv
 refine s_wrL0 (R := fun _ w' => Sep S w0 w' (blk b (.cells (cs.setIfInBounds off v) T (0,0)) :: r)) F ho hw hc rfl (fun n => ?_) (fun _ w' hR => hp w' hR) (fun _ w' hR => h w' hR)
 obtain ⟨w',hr,M'⟩ := run_storeVar (P := P) (t' := t') (v := v) (off := off) hs (M.drewN n) (by rw [hcells]; rfl) (by omega) (by rw [hcells]; simpa using hv)
 simp only [execOp,F.ev hx,F.ev hy,Instr.storeAt,Instr.sureAddr,Sem.run_bind,Sem.run_pure,Result.andThen_ok,hr,Goes]
 rw [hcells] at M'
 exact M'
theorem s_st {S : Nat → Prop} {w0 : World} {b off : Nat} {T t' : TypeId} {x y : Operand} {r : List Res} {cs : Array Value} {v : Value} (F : Fr n a l) (M : Sep S w0 w (blk b (.cells cs T (0,0)) :: r)) (ho : nth ops k = some ⟨none,.store t' x y,ty,ps,af,g⟩) (hw : wn ops l g = some true) (hc : nth cl k = some .wr)
  (hs : sizeB P t' = some 1) (hx : ev l x = some (.pointer (some ⟨b,off,none⟩))) (hy : ev l y = some v) (hv : oneC v = true) (hoff : off < cs.size)
  (h : ∀ w',Sep S w0 w' (blk b (.cells (cs.setIfInBounds off v) T (0,0)) :: r) → trunT P ops cl [] Q t L a w') : trunT P ops cl [] Q (.one k t) L a w :=
 s_stL F M ho hw hc hs hx hy hv hoff (fun _ _ => pend_nil) h
theorem s_staL {S : Nat → Prop} {w0 : World} {b off m : Nat} {T t' : TypeId} {x y : Operand} {r : List Res} {cs vs : Array Value} (F : Fr n a l) (M : Sep S w0 w (blk b (.cells cs T (0,0)) :: r)) (ho : nth ops k = some ⟨none,.store t' x y,ty,ps,af,g⟩) (hw : wn ops l g = some true) (hc : nth cl k = some .wr)
  (hs : sizeB P t' = some m) (hx : ev l x = some (.pointer (some ⟨b,off,none⟩))) (hy : ev l y = some (.agg vs)) (hm : vs.size = m) (hv : vs.toList.all oneC = true) (hoff : off + m ≤ cs.size)
  (hp : ∀ w',Sep S w0 w' (blk b (.cells (setCells cs off vs.toList) T (0,0)) :: r) → pend bad k L w')
  (h : ∀ w',Sep S w0 w' (blk b (.cells (setCells cs off vs.toList) T (0,0)) :: r) → trunT P ops cl bad Q t L a w') : trunT P ops cl bad Q (.one k t) L a w := by
 refine s_wrL0 (R := fun _ w' => Sep S w0 w' (blk b (.cells (setCells cs off vs.toList) T (0,0)) :: r)) F ho hw hc rfl (fun n => ?_) (fun _ w' hR => hp w' hR) (fun _ w' hR => h w' hR)
 obtain ⟨w',hr,M'⟩ := run_storeVar (P := P) (t' := t') (v := .agg vs) (off := off) hs (M.drewN n) hm (by omega) (fun u hu => List.all_eq_true.1 hv u hu)
 simp only [execOp,F.ev hx,F.ev hy,Instr.storeAt,Instr.sureAddr,Sem.run_bind,Sem.run_pure,Result.andThen_ok,hr,Goes]
 exact M'
def News (P : Program) (s : Sem Value) (o : Obj) (v : Nat → Value) : Prop := ∀ w,s.run P w = .ok (v w.heap.size) { w with heap := w.heap.push o }
theorem s_newL {S : Nat → Prop} {w0 : World} {op : Op} {s : Sem Value} {o : Obj} {v : Nat → Value} {r : List Res} (F : Fr n a l) (M : Sep S w0 w r) (ho : nth ops k = some ⟨some d,op,ty,ps,af,g⟩) (hw : wn ops l g = some true) (hc : nth cl k = some .wr) (hlt : Nat.blt d n = true)
  (hs : execOp a.eval ⟨some d,op,ty,ps,af,g⟩ = (do pure (.value (← s)))) (hN : News P s o v) (hfz : ∀ c e f,o = .cells c e f → f = (0,0))
  (hp : ∀ b w',Sep S w0 w' (blk b o :: r) → pend bad k L w')
  (h : ∀ b w',Sep S w0 w' (blk b o :: r) → ∀ a',Fr n a' ((d,v b) :: l) → trunT P ops cl bad Q t L a' w') : trunT P ops cl bad Q (.one k t) L a w := by
 refine s_wrL (R := fun u w' => ∃ b,u = v b ∧ Sep S w0 w' (blk b o :: r)) F ho hw hc rfl hlt (fun n => ?_) (fun _ w' ⟨b,_,hR⟩ => hp b w' hR) (fun u w' ⟨b,hu,hR⟩ a' F' => by subst hu; exact h b w' hR a' F')
 rw [hs]
 have := hN (w.drewN n)
 simp only [Sem.run_bind,this,Result.andThen_ok,Sem.run_pure,Goes]
 exact ⟨_,rfl,(M.drewN n).alloc o hfz⟩
theorem news_box {T : TypeId} {v : Value} {cs : Array Value} (hcs : v.cells = cs) : News P (Instr.box T v) (.cells cs T) fun b => .pointer (some ⟨b,0,none⟩) := fun w => by
 subst hcs; rfl
theorem fz_cells {cs : Array Value} {T : TypeId} : ∀ c e f,Obj.cells cs T = .cells c e f → f = (0,0) := fun c e f h => by cases h; rfl
theorem s_boxL {S : Nat → Prop} {w0 : World} {T : TypeId} {x : Operand} {v : Value} {cs : Array Value} {r : List Res} (F : Fr n a l) (M : Sep S w0 w r) (ho : nth ops k = some ⟨some d,.box T x,ty,ps,af,g⟩) (hw : wn ops l g = some true) (hc : nth cl k = some .wr) (hlt : Nat.blt d n = true)
  (hx : ev l x = some v) (hcs : v.cells = cs) (hp : ∀ b w',Sep S w0 w' (blk b (.cells cs T) :: r) → pend bad k L w')
  (h : ∀ b w',Sep S w0 w' (blk b (.cells cs T) :: r) → ∀ a',Fr n a' ((d,.pointer (some ⟨b,0,none⟩)) :: l) → trunT P ops cl bad Q t L a' w') : trunT P ops cl bad Q (.one k t) L a w :=
 s_newL F M ho hw hc hlt (s := Instr.box T v) (v := fun b => .pointer (some ⟨b,0,none⟩)) (by simp only [execOp,F.ev hx]) (news_box hcs) fz_cells hp h
theorem s_box {S : Nat → Prop} {w0 : World} {T : TypeId} {x : Operand} {v : Value} {cs : Array Value} {r : List Res} (F : Fr n a l) (M : Sep S w0 w r) (ho : nth ops k = some ⟨some d,.box T x,ty,ps,af,g⟩) (hw : wn ops l g = some true) (hc : nth cl k = some .wr) (hlt : Nat.blt d n = true)
  (hx : ev l x = some v) (hcs : v.cells = cs) (h : ∀ b w',Sep S w0 w' (blk b (.cells cs T) :: r) → ∀ a',Fr n a' ((d,.pointer (some ⟨b,0,none⟩)) :: l) → trunT P ops cl [] Q t L a' w') : trunT P ops cl [] Q (.one k t) L a w :=
 s_boxL F M ho hw hc hlt hx hcs (fun _ _ _ => pend_nil) h
theorem s_bxA {S : Nat → Prop} {w0 : World} {T : TypeId} {x : Operand} {cs : Array Value} {r : List Res} (F : Fr n a l) (M : Sep S w0 w r) (ho : nth ops k = some ⟨some d,.box T x,ty,ps,af,g⟩) (hw : wn ops l g = some true) (hc : nth cl k = some .wr) (hlt : Nat.blt d n = true)
  (hx : ev l x = some (.agg cs)) (h : ∀ b w',Sep S w0 w' (blk b (.cells cs T) :: r) → ∀ a',Fr n a' ((d,.pointer (some ⟨b,0,none⟩)) :: l) → trunT P ops cl [] Q t L a' w') : trunT P ops cl [] Q (.one k t) L a w :=
 s_box F M ho hw hc hlt hx rfl h
def zeroB (P : Program) (T : TypeId) : Option Value := (P.info? T).bind (·.zero)
theorem news_alloc {T : TypeId} {z : Value} {cs : Array Value} (hz : zeroB P T = some z) (hcs : z.cells = cs) : News P (Instr.alloc T true (.tuple #[])) (.cells cs T) fun b => .pointer (some ⟨b,0,none⟩) := fun w => by
 subst hcs
 unfold zeroB at hz
 cases hi : P.info? T with
 | none => rw [hi] at hz; cases hz
 | some i =>
  rw [hi] at hz
  simp only [Option.bind_some] at hz
  have : (zeroValue T).run P w = .ok z w := by simp [zeroValue,typeInfo,hi,hz]
  simp [Instr.alloc,this,newVar,newRow,newObj,Sem.run]
theorem s_alcL {S : Nat → Prop} {w0 : World} {T : TypeId} {z : Value} {cs : Array Value} {r : List Res} (F : Fr n a l) (M : Sep S w0 w r) (ho : nth ops k = some ⟨some d,.alloc T,ty,ps,af,g⟩) (hw : wn ops l g = some true) (hc : nth cl k = some .wr) (hlt : Nat.blt d n = true)
  (hz : zeroB P T = some z) (hcs : z.cells = cs) (hp : ∀ b w',Sep S w0 w' (blk b (.cells cs T) :: r) → pend bad k L w')
  (h : ∀ b w',Sep S w0 w' (blk b (.cells cs T) :: r) → ∀ a',Fr n a' ((d,.pointer (some ⟨b,0,none⟩)) :: l) → trunT P ops cl bad Q t L a' w') : trunT P ops cl bad Q (.one k t) L a w :=
 s_newL F M ho hw hc hlt (s := Instr.alloc T true (.tuple #[])) (v := fun b => .pointer (some ⟨b,0,none⟩)) (by simp only [execOp]) (news_alloc hz hcs) fz_cells hp h
theorem s_alc {S : Nat → Prop} {w0 : World} {T : TypeId} {z : Value} {cs : Array Value} {r : List Res} (F : Fr n a l) (M : Sep S w0 w r) (ho : nth ops k = some ⟨some d,.alloc T,ty,ps,af,g⟩) (hw : wn ops l g = some true) (hc : nth cl k = some .wr) (hlt : Nat.blt d n = true)
  (hz : zeroB P T = some z) (hcs : z.cells = cs) (h : ∀ b w',Sep S w0 w' (blk b (.cells cs T) :: r) → ∀ a',Fr n a' ((d,.pointer (some ⟨b,0,none⟩)) :: l) → trunT P ops cl [] Q t L a' w') : trunT P ops cl [] Q (.one k t) L a w :=
 s_alcL F M ho hw hc hlt hz hcs (fun _ _ _ => pend_nil) h
theorem s_bsL {S : Nat → Prop} {w0 : World} {T E : TypeId} {m : Nat} {parts : Array (Nat × Operand)} {vs : Array (Nat × Value)} {cs : Array Value} {r : List Res} (F : Fr n a l) (M : Sep S w0 w r) (ho : nth ops k = some ⟨some d,.buildSlice T m parts,ty,ps,af,g⟩) (hw : wn ops l g = some true) (hc : nth cl k = some .wr) (hlt : Nat.blt d n = true)
  (hvs : parts.map (fun (i,x) => (i,a.eval x)) = vs) (hN : News P (Instr.buildSlice T m vs) (.cells cs E) fun b => .slice (some ⟨b,0,none⟩) m m)
  (hp : ∀ b w',Sep S w0 w' (blk b (.cells cs E) :: r) → pend bad k L w')
  (h : ∀ b w',Sep S w0 w' (blk b (.cells cs E) :: r) → ∀ a',Fr n a' ((d,.slice (some ⟨b,0,none⟩) m m) :: l) → trunT P ops cl bad Q t L a' w') : trunT P ops cl bad Q (.one k t) L a w :=
 s_newL F M ho hw hc hlt (s := Instr.buildSlice T m vs) (v := fun b => .slice (some ⟨b,0,none⟩) m m) (by simp only [execOp,hvs]) hN fz_cells hp h
theorem s_bs {S : Nat → Prop} {w0 : World} {T E : TypeId} {m : Nat} {parts : Array (Nat × Operand)} {vs : Array (Nat × Value)} {cs : Array Value} {r : List Res} (F : Fr n a l) (M : Sep S w0 w r) (ho : nth ops k = some ⟨some d,.buildSlice T m parts,ty,ps,af,g⟩) (hw : wn ops l g = some true) (hc : nth cl k = some .wr) (hlt : Nat.blt d n = true)
  (hvs : parts.map (fun (i,x) => (i,a.eval x)) = vs) (hN : News P (Instr.buildSlice T m vs) (.cells cs E) fun b => .slice (some ⟨b,0,none⟩) m m)
  (h : ∀ b w',Sep S w0 w' (blk b (.cells cs E) :: r) → ∀ a',Fr n a' ((d,.slice (some ⟨b,0,none⟩) m m) :: l) → trunT P ops cl [] Q t L a' w') : trunT P ops cl [] Q (.one k t) L a w :=
 s_bsL F M ho hw hc hlt hvs hN (fun _ _ _ => pend_nil) h
theorem parts1 {i0 : Nat} {x0 : Operand} {v0 : Value} (F : Fr n a l) (h0 : ev l x0 = some v0) : (#[(i0,x0)] : Array (Nat × Operand)).map (fun (i,x) => (i,a.eval x)) = #[(i0,v0)] := by simp [F.ev h0]
theorem parts3 {i0 i1 i2 : Nat} {x0 x1 x2 : Operand} {v0 v1 v2 : Value} (F : Fr n a l) (h0 : ev l x0 = some v0) (h1 : ev l x1 = some v1) (h2 : ev l x2 = some v2) : (#[(i0,x0),(i1,x1),(i2,x2)] : Array (Nat × Operand)).map (fun (i,x) => (i,a.eval x)) = #[(i0,v0),(i1,v1),(i2,v2)] := by simp [F.ev h0,F.ev h1,F.ev h2]
theorem parts4 {i0 i1 i2 i3 : Nat} {x0 x1 x2 x3 : Operand} {v0 v1 v2 v3 : Value} (F : Fr n a l) (h0 : ev l x0 = some v0) (h1 : ev l x1 = some v1) (h2 : ev l x2 = some v2) (h3 : ev l x3 = some v3) : (#[(i0,x0),(i1,x1),(i2,x2),(i3,x3)] : Array (Nat × Operand)).map (fun (i,x) => (i,a.eval x)) = #[(i0,v0),(i1,v1),(i2,v2),(i3,v3)] := by simp [F.ev h0,F.ev h1,F.ev h2,F.ev h3]
theorem s_bld {T : TypeId} {parts : Array (Nat × Operand)} {vs : Array (Nat × Value)} {v : Value} (F : Fr n a l) (ho : nth ops k = some ⟨some d,.build T parts,ty,ps,af,g⟩) (hw : wn ops l g = some true) (hc : nth cl k = some .ind) (hlt : Nat.blt d n = true)
  (hvs : parts.map (fun (i,x) => (i,a.eval x)) = vs) (hB : ∀ w,(Instr.build T vs).run P w = .ok v w) (h : ∀ a',Fr n a' ((d,v) :: l) → trunT P ops cl bad Q t L a' w) : trunT P ops cl bad Q (.one k t) L a w :=
 s_ind F ho hw hc rfl hlt (fun w' => by simp only [execOp,hvs,Sem.run_bind,hB w',Result.andThen_ok,Sem.run_pure]) h
theorem run_callFunc {f : FuncId} (hB : callB P f = true) (args : Array Value) (w : World) : (callFunc f args).run P w = .ok (.enter f args) w := by
 unfold callB at hB
 cases hf : P.funcs[f]? with
 | none => rw [hf] at hB; cases hB
 | some fn =>
  rw [hf] at hB
  simp only [Bool.and_eq_true,Bool.not_eq_true',beq_eq_false_iff_ne,ne_eq] at hB
  obtain ⟨h1,h2⟩ := hB
  have h4 : ¬ fn.body = none := by intro e; rw [e] at h2; cases h2
  simp [callFunc,hf,h1,h4]
structure Cl (P : Program) (f : FuncId) (args : Array Value) (w : World) (R : Ending → World → Prop) : Prop where
 out : Calls P f args w R
def RetS {α : Type} (m : List Res) (w : World) (post : Value → α → Prop) (mm : α → List Res) (e : Ending) (w' : World) : Prop :=
 ∃ v x,e = .returned v ∧ post v x ∧ Sep (fun b => b ∈ foots m) w w' (mm x)
theorem s_callL {α : Type} {S : Nat → Prop} {w0 : World} {fo : Operand} {args : Array Operand} {tys : Array TypeId} {f : FuncId} {fs cs : Array Value} {vs : List Value} {m r : List Res} {post : Value → α → Prop} {mm : α → List Res}
  (F : Fr n a l) (M : Sep S w0 w (m ++ r)) (ho : nth ops k = some ⟨some d,.call ⟨.value fo,args,tys⟩,ty,ps,af,g⟩) (hw : wn ops l g = some true) (hc : nth cl k = some .wr) (hlt : Nat.blt d n = true)
  (hf : ev l fo = some (.func (.func f) fs cs)) (ha : evs l args.toList = some vs) (hB : callB P f = true) (hcall : ∀ n,Cl P f (fs ++ vs.toArray ++ cs) (w.drewN n) (RetS m (w.drewN n) post mm))
  (hp : ∀ v x w',post v x → Sep S w0 w' (mm x ++ r) → pend bad k L w')
  (h : ∀ v x w',post v x → Sep S w0 w' (mm x ++ r) → ∀ a',Fr n a' ((d,v) :: l) → trunT P ops cl bad Q t L a' w') : trunT P ops cl bad Q (.one k t) L a w := by
 refine s_wrL (R := fun v w' => ∃ x,post v x ∧ Sep S w0 w' (mm x ++ r)) F ho hw hc rfl hlt (fun n => ?_) (fun v w' ⟨x,h1,h2⟩ => hp v x w' h1 h2) (fun v w' ⟨x,h1,h2⟩ => h v x w' h1 h2)
 have hargs : args.map a.eval = vs.toArray := by
  have := F.evs ha
  apply Array.toList_inj.1
  simpa using this
 have hr : (execOp a.eval ⟨some d,.call ⟨.value fo,args,tys⟩,ty,ps,af,g⟩).run P (w.drewN n) = .ok (.enter f (fs ++ vs.toArray ++ cs)) (w.drewN n) := by
  simp only [execOp,resolve,F.ev hf,Deferred.ofValue,hargs,Sem.run_bind,Sem.run_pure,Result.andThen_ok,invoke,run_callFunc hB]
 rw [hr]
 simp only [Goes]
 refine (hcall n).out.mono ?_
 rintro e w' ⟨v,x,rfl,h1,h2⟩
 exact ⟨v,rfl,x,h1,(M.drewN n).frame h2⟩
theorem s_call {α : Type} {S : Nat → Prop} {w0 : World} {fo : Operand} {args : Array Operand} {tys : Array TypeId} {f : FuncId} {vs : List Value} {m r : List Res} {post : Value → α → Prop} {mm : α → List Res}
  (F : Fr n a l) (M : Sep S w0 w (m ++ r)) (ho : nth ops k = some ⟨some d,.call ⟨.value fo,args,tys⟩,ty,ps,af,g⟩) (hw : wn ops l g = some true) (hc : nth cl k = some .wr) (hlt : Nat.blt d n = true)
  (hf : ev l fo = some (.func (.func f) #[] #[])) (ha : evs l args.toList = some vs) (hB : callB P f = true) (hcall : ∀ n,Cl P f vs.toArray (w.drewN n) (RetS m (w.drewN n) post mm))
  (h : ∀ v x w',post v x → Sep S w0 w' (mm x ++ r) → ∀ a',Fr n a' ((d,v) :: l) → trunT P ops cl [] Q t L a' w') : trunT P ops cl [] Q (.one k t) L a w :=
 s_callL F M ho hw hc hlt hf ha hB (fun n => by simpa using hcall n) (fun _ _ _ _ _ => pend_nil) h
def RetQ (w : World) (post : Value → Prop) (e : Ending) (w' : World) : Prop := ∃ v,e = .returned v ∧ post v ∧ Chg (fun _ => False) w w'
theorem Sep.quiet {S : Nat → Prop} {w0 w w' : World} {r : List Res} (M : Sep S w0 w r) (h : Chg (fun _ => False) w w') : Sep S w0 w' r := by
 have h' : Sep (fun b => b ∈ foots ([] : List Res)) w w' [] := ⟨⟨by simp,by simp [foots],by simp [foots]⟩,by simp [foots],⟨h.size,fun b hb _ => h.keep b hb id,h.fz,h.os,h.tape,h.out⟩⟩
 exact Sep.frame (m := []) M h'
theorem s_cqL {S : Nat → Prop} {w0 : World} {fo : Operand} {args : Array Operand} {tys : Array TypeId} {f : FuncId} {vs : List Value} {r : List Res} {post : Value → Prop}
  (F : Fr n a l) (M : Sep S w0 w r) (ho : nth ops k = some ⟨some d,.call ⟨.value fo,args,tys⟩,ty,ps,af,g⟩) (hw : wn ops l g = some true) (hc : nth cl k = some .wr) (hlt : Nat.blt d n = true)
  (hf : ev l fo = some (.func (.func f) #[] #[])) (ha : evs l args.toList = some vs) (hB : callB P f = true) (hcall : ∀ n,Cl P f vs.toArray (w.drewN n) (RetQ (w.drewN n) post))
  (hp : ∀ v w',post v → Sep S w0 w' r → pend bad k L w')
  (h : ∀ v w',post v → Sep S w0 w' r → ∀ a',Fr n a' ((d,v) :: l) → trunT P ops cl bad Q t L a' w') : trunT P ops cl bad Q (.one k t) L a w := by
 refine s_wrL (R := fun v w' => post v ∧ Sep S w0 w' r) F ho hw hc rfl hlt (fun n => ?_) (fun v w' ⟨h1,h2⟩ => hp v w' h1 h2) (fun v w' ⟨h1,h2⟩ => h v w' h1 h2)
 have hargs : args.map a.eval = vs.toArray := by
  have := F.evs ha
  apply Array.toList_inj.1
  simpa using this
 have hr : (execOp a.eval ⟨some d,.call ⟨.value fo,args,tys⟩,ty,ps,af,g⟩).run P (w.drewN n) = .ok (.enter f vs.toArray) (w.drewN n) := by
  simp only [execOp,resolve,F.ev hf,Deferred.ofValue,hargs,Sem.run_bind,Sem.run_pure,Result.andThen_ok,invoke,run_callFunc hB]
  simp
 rw [hr]
 simp only [Goes]
 refine (hcall n).out.mono ?_
 rintro e w' ⟨v,rfl,h1,h2⟩
 exact ⟨v,rfl,h1,(M.drewN n).quiet h2⟩
theorem s_cq {S : Nat → Prop} {w0 : World} {fo : Operand} {args : Array Operand} {tys : Array TypeId} {f : FuncId} {vs : List Value} {r : List Res} {post : Value → Prop}
  (F : Fr n a l) (M : Sep S w0 w r) (ho : nth ops k = some ⟨some d,.call ⟨.value fo,args,tys⟩,ty,ps,af,g⟩) (hw : wn ops l g = some true) (hc : nth cl k = some .wr) (hlt : Nat.blt d n = true)
  (hf : ev l fo = some (.func (.func f) #[] #[])) (ha : evs l args.toList = some vs) (hB : callB P f = true) (hcall : ∀ n,Cl P f vs.toArray (w.drewN n) (RetQ (w.drewN n) post))
  (h : ∀ v w',post v → Sep S w0 w' r → ∀ a',Fr n a' ((d,v) :: l) → trunT P ops cl [] Q t L a' w') : trunT P ops cl [] Q (.one k t) L a w :=
 s_cqL F M ho hw hc hlt hf ha hB hcall (fun _ _ _ _ => pend_nil) h
theorem nd1 {p : Prop} [Decidable p] (h : (!decide p) = true) : ¬ p := by simpa using h
theorem nd0 {p : Prop} [Decidable p] (h : (!decide p) = false) : p := by simpa using h
theorem nt {b : Bool} (h : (!b) = true) : b = false := by simpa using h
theorem nf {b : Bool} (h : (!b) = false) : b = true := by simpa using h
def enum : Nat → List Value → List (Nat × Value)
 | _,[] => []
 | i,v :: vs => (i,v) :: enum (i + 1) vs
theorem lk_enum : ∀ (vs : List Value) (i j : Nat) (v : Value),lk (enum i vs) j = some v → i ≤ j ∧ vs[j - i]? = some v
 | [],_,_,_,h => by simp [enum,lk] at h
 | u :: vs,i,j,v,h => by
  simp only [enum,lk] at h
  split at h
  ·rename_i e
   have e := Nat.eq_of_beq_eq_true e
   subst e
   simp only [Option.some.injEq] at h
   simp [h]
  ·obtain ⟨h1,h2⟩ := lk_enum vs (i + 1) j v h
   refine ⟨by omega,?_⟩
   rw [show j - i = (j - (i + 1)) + 1 by omega]
   simpa using h2
theorem enter {f : FuncId} {fn : Func} {c : Code} {vs : List Value} {R : Ending → World → Prop} (hf : P.funcs[f]? = some fn) (hb : fn.body = some c) (hn : fn.ntmps = n) (hvs : Nat.ble vs.length n = true)
  (h : ∀ a,Fr n a (enum 0 vs) → c.wp P (bodyPost P fn R) a w) : Cl P f vs.toArray w R := by
 have hle : vs.length ≤ n := Nat.le_of_ble_eq_true hvs
 refine .mk <| calls_of_wp hf hb (h _ ⟨by simp [hn]; omega,rfl,fun i v hv => ?_⟩)
 obtain ⟨_,h2⟩ := lk_enum vs 0 i v hv
 simp only [Nat.sub_zero] at h2
 have hlt : i < vs.length := (List.getElem?_eq_some_iff.1 h2).1
 simp only
 rw [Array.getElem?_append_left (by simpa using hlt)]
 simpa using h2
section
variable {fn : Func} {R : Ending → World → Prop}
theorem ret1 {i : Nat} {v : Value} (F : Fr n a l) (hr : fn.results = #[.tmp i]) (hv : lk l i = some v) (h : R (.returned v) w) : bodyPost P fn R .ret a w := by
 refine ⟨F.df,v,?_,h⟩
 simp [results,hr,F.at_ i v hv]
theorem ret2 {i j : Nat} {u v : Value} (F : Fr n a l) (hr : fn.results = #[.tmp i,.tmp j]) (hu : lk l i = some u) (hv : lk l j = some v) (h : R (.returned (.tuple #[u,v])) w) : bodyPost P fn R .ret a w := by
 refine ⟨F.df,_,?_,h⟩
 simp [results,hr,F.at_ i u hu,F.at_ j v hv]
end
theorem c_if {c : Operand} {x y : Code} {b : Bool} {Q : Exit → Act → World → Prop} (F : Fr n a l) (hc : ev l c = some (.bool b)) (h1 : b = true → Fr n a l → x.wp P Q a w) (h0 : b = false → Fr n a l → y.wp P Q a w) : (Code.cond c x y).wp P Q a w :=
 wp_cond_split (F.ev hc) (fun h => h1 h F) (fun h => h0 h F)
theorem c_t {c : Operand} {x y : Code} {Q : Exit → Act → World → Prop} (F : Fr n a l) (hc : ev l c = some (.bool true)) (h : x.wp P Q a w) : (Code.cond c x y).wp P Q a w := wp_cond_true (F.ev hc) h
theorem c_f {c : Operand} {x y : Code} {Q : Exit → Act → World → Prop} (F : Fr n a l) (hc : ev l c = some (.bool false)) (h : y.wp P Q a w) : (Code.cond c x y).wp P Q a w := wp_cond_false (F.ev hc) h
end
end Go.Proofs.YteajeenmojbjhaaGreatDoor.Fw
namespace Go.Proofs.YteajeenmojbjhaaGreatDoor.Fw
open Go
section
variable {P : Program} {ops : List Oper} {cl : List Cls} {bad : List (Nat × Nat)} {Q : Act → World → Prop} {n k d : Nat} {t : Ot} {L : Pend} {a : Act} {w : World} {l : List (Nat × Value)}
variable {ty : TypeId} {ps : String} {af : Array Edge} {g : Option (Nat × Bool)}
variable {κ : Type} [DecidableEq κ] {enc : κ → Value} {kt : TypeId}
end
def RdSl (h : Array Obj) (x : Value) (m sz : Nat) (xs : List Value) : Prop :=
 xs.length = m * sz ∧ ∃ A c,x = .slice A m c ∧ m ≤ c ∧ (0 < m → ∃ b off arr T fz,A = some ⟨b,off,none⟩ ∧ h[b]? = some (.cells arr T fz) ∧ ∀ j u,xs[j]? = some u → arr[off + j]? = some u)
def SlOk (h : Array Obj) (v : Value) (n : Nat) (E : TypeId) (sz : Nat) (xs : List Value) : Prop :=
 xs.length = n * sz ∧ ((v = .slice none 0 0 ∧ n = 0) ∨ ∃ b cap rest,v = .slice (some ⟨b,0,none⟩) n cap ∧ n ≤ cap ∧ h[b]? = some (.cells (xs ++ rest).toArray E (0,0)) ∧ (xs ++ rest).length = cap * sz)
def ownB : Value → List Nat
 | .slice (some a) _ _ => [a.block]
 | _ => []
def slR (v : Value) (n : Nat) (E : TypeId) (sz : Nat) (xs : List Value) : Res :=
 ⟨3,ownB v,fun h => SlOk h v n E sz xs,fun h h' hb ⟨h1,h2⟩ => ⟨h1,h2.imp id fun ⟨b,cap,rest,e,hc,hh,hl⟩ => by subst e; exact ⟨b,cap,rest,rfl,hc,(hb b (by simp [ownB])).trans hh,hl⟩⟩⟩
theorem SlOk.rd {h : Array Obj} {v : Value} {n : Nat} {E : TypeId} {sz : Nat} {xs : List Value} (hs : SlOk h v n E sz xs) : RdSl h v n sz xs := by
 obtain ⟨h1,⟨rfl,rfl⟩ | ⟨b,cap,rest,rfl,hc,hh,hl⟩⟩ := hs
 ·exact ⟨h1,none,0,rfl,Nat.le_refl _,fun h => absurd h (by omega)⟩
 ·refine ⟨h1,_,cap,rfl,hc,fun _ => ⟨b,0,_,E,(0,0),rfl,hh,fun j u hu => ?_⟩⟩
  have hlt : j < xs.length := (List.getElem?_eq_some_iff.1 hu).1
  simp [List.getElem?_append_left hlt,hu]
theorem SlOk.nil {h : Array Obj} {E : TypeId} {sz : Nat} : SlOk h (.slice none 0 0) 0 E sz [] := ⟨by simp,.inl ⟨rfl,rfl⟩⟩
theorem Sep.nilS {S : Nat → Prop} {w0 w : World} {r : List Res} (M : Sep S w0 w r) (E : TypeId) (sz : Nat) : Sep S w0 w (slR (.slice none 0 0) 0 E sz [] :: r) := by
 have : foots (slR (.slice none 0 0) 0 E sz [] :: r) = foots r := by simp [foots,slR,ownB]
 refine ⟨⟨fun x hx => ?_,this ▸ M.own.lt,this ▸ M.own.nd⟩,this ▸ M.mine,M.chg⟩
 rcases List.mem_cons.1 hx with rfl | hx
 ·exact SlOk.nil
 ·exact M.own.ok x hx
theorem run_loadCells {P : Program} {p : Addr} {cs : Array Value} {w' : World} (h : ∀ j v,cs[j]? = some v → w'.cell? (p.add j) = some v) : (loadCells p cs.size).run P w' = .ok cs w' := by
 have key : ∀ (r i : Nat) (acc : Array Value),i + r = cs.size → acc = cs.extract 0 i → (loadCellsFrom p i r acc).run P w' = .ok cs w' := by
  intro r
  induction r with
  | zero =>
   intro i acc hi hacc
   simp only [loadCellsFrom,Sem.run_pure]
   have : i = cs.size := by omega
   rw [hacc,this]
   simp
  | succ r ih =>
   intro i acc hi hacc
   have hlt : i < cs.size := by omega
   have hc := h i cs[i] (by simp [hlt])
   simp only [loadCellsFrom,Sem.run_bind,load]
   rw [show (Sem.load Mode.plain (p.add i) Sem.pure).run P w' = .ok cs[i] w' from by simp [Sem.run,hc]]
   simp only [Result.andThen_ok]
   refine ih (i + 1) _ (by omega) ?_
   rw [hacc]
   apply Array.ext
   ·simp only [Array.size_push,Array.size_extract]; omega
   ·intro j h1 h2
    simp only [Array.getElem_push,Array.getElem_extract,Array.size_extract]
    split
    ·simp
    ·rename_i hne
     simp at h1 hne
     have : j = i := by omega
     subst this
     simp
 exact key cs.size 0 #[] (by omega) (by simp)
theorem run_firstCells {P : Program} {w : World} {x : Value} {m sz : Nat} {xs : List Value} (h : RdSl w.heap x m sz xs) : (Builtin.firstCells sz m x).run P w = .ok xs.toArray w := by
 obtain ⟨h1,A,c,rfl,_,h2⟩ := h
 rcases Nat.eq_zero_or_pos m with h0 | h0
 ·subst h0
  have : xs = [] := List.eq_nil_of_length_eq_zero (by simpa using h1)
  subst this
  cases A with
  | none => rfl
  | some ad => simp [Builtin.firstCells,loadCells,loadCellsFrom]
 ·obtain ⟨b,off,arr,T,fz,rfl,hb,hc⟩ := h2 h0
  have := run_loadCells (P := P) (p := ⟨b,off,none⟩) (cs := xs.toArray) (w' := w) (fun j v hv => by rw [add_at]; exact cell_of_blk hb (hc j v (by simpa using hv)))
  simp only [List.size_toArray] at this
  rw [h1] at this
  exact this
def bytesB (P : Program) (t : TypeId) : Option Nat := (P.info? t).map (·.bytes)
theorem setCells_append (xs vs : List Value) (rest : List Value) (hl : vs.length ≤ rest.length) : setCells (xs ++ rest).toArray xs.length vs = (xs ++ (vs ++ rest.drop vs.length)).toArray := by
 induction vs generalizing xs rest with
 | nil => simp [setCells]
 | cons v vs ih =>
  cases rest with
  | nil => simp at hl
  | cons y rest =>
   simp only [setCells,List.setIfInBounds_toArray]
   have e : (xs ++ y :: rest).set xs.length v = (xs ++ [v]) ++ rest := by simp
   rw [e]
   have := ih (xs ++ [v]) rest (by simpa using hl)
   simp only [List.length_append,List.length_singleton] at this
   rw [this]
   simp
theorem run_append {P : Program} {T ty E : TypeId} {sz by_ m : Nat} {z v x : Value} {n : Nat} {xs news : List Value} {S : Nat → Prop} {w0 w : World} {r : List Res}
  (ht : slcB P T = some (E,sz)) (hz : zeroB P E = some z) (hby : bytesB P E = some by_) (M : Sep S w0 w (slR v n E sz xs :: r)) (hx : RdSl w.heap x m sz news) (h1 : news.all oneC = true) (hzs : z.cells.size = sz)
  (hb : (n + m) * by_ ≤ 140737488355328) (hby0 : 0 < by_) :
  ∃ v' w',(Builtin.append_ #[T,T] ty #[v,x]).run P w = .ok v' w' ∧ Sep S w0 w' (slR v' (n + m) E sz (xs ++ news) :: r) := by
 obtain ⟨i,hu,hi,hisz⟩ := slcB_spec ht
 have hib : i.bytes = by_ := by unfold bytesB at hby; rw [hi] at hby; simpa using hby
 have hzv : ∀ w : World,(zeroValue E).run P w = .ok z w := fun w => by
  unfold zeroB at hz
  rw [hi] at hz
  simp only [Option.bind_some] at hz
  simp [zeroValue,typeInfo,hi,hz]
 have hsv : ∀ w : World,(sizeOf E).run P w = .ok sz w := fun w => by simp [sizeOf,typeInfo,hi,hisz]
 have hti : ∀ w : World,(typeInfo E).run P w = .ok i w := fun w => by simp [typeInfo,hi]
 have huT : ∀ w : World,(underlying T).run P w = .ok (.slice E) w := fun w => run_underlying hu w
 obtain ⟨hxl,hv⟩ := M.h0
 have hx0 := hx
 obtain ⟨hnl,A,c,rfl,hmc,_⟩ := hx
 have grow : ∀ (base : Option Addr) (cap : Nat),v = .slice base n cap → cap < n + m → ∃ v' w',(Builtin.append_ #[T,T] ty #[v,.slice A m c]).run P w = .ok v' w' ∧ Sep S w0 w' (slR v' (n + m) E sz (xs ++ news) :: r) := by
  intro base cap hv hlt
  subst hv
  have hold : ∀ k,(Builtin.firstCells sz n (.slice base n cap)).run P (w.drewN k) = .ok xs.toArray (w.drewN k) := fun k => run_firstCells (h := (SlOk.rd (h := (w.drewN k).heap) (v := .slice base n cap) (E := E) (xs := xs) (by exact M.h0)))
  have hnew : ∀ k,(Builtin.firstCells sz m (.slice A m c)).run P (w.drewN k) = .ok news.toArray (w.drewN k) := fun k => run_firstCells (w := w.drewN k) hx0
  have hnc : ¬ (n + m ≤ cap) := by omega
  have hcapb : ¬ (Builtin.nextslicecap (n + m) cap * by_ > 2 ^ 48) := by
   have h1 := nextslicecap_le hlt
   have h2 := Nat.mul_le_mul_right by_ h1
   have h3 : 2 * (n + m) * by_ = 2 * ((n + m) * by_) := by rw [Nat.mul_assoc]
   omega
  let nc := (Question.appendCap (n + m) cap E).cut (w.tape w.drawn (.appendCap (n + m) cap E))
  have hch : (choose (.appendCap (n + m) cap E)).run P w = .ok nc (w.drewN 1) := by
   simp [choose,Sem.run,Question.forced,World.drewN,nc]
  have hask : ∀ q (w : World),(askRoom q).run P w = .ok () w := fun q w => by
   unfold askRoom; split <;> simp [mark,Sem.run]
  have hncge : n + m ≤ nc := by simp [nc,Question.cut]
  have hrun : (Builtin.append_ #[T,T] ty #[.slice base n cap,.slice A m c]).run P w = .ok (.slice (some ⟨w.heap.size,0,none⟩) (n + m) nc) { (w.drewN 1) with heap := w.heap.push (.cells (xs.toArray ++ news.toArray ++ Builtin.zeroCells z.cells (nc - (n + m))) E) } := by
   unfold Builtin.append_
   simp only [List.getElem?_toArray,List.getElem?_cons_zero,List.getElem?_cons_succ,Sem.run_bind,huT,hsv,Result.andThen_ok,Sem.run_pure,Bool.false_eq_true,if_false,Builtin.lenOf]
   rw [if_neg hnc]
   simp only [Sem.run_bind,hti,Result.andThen_ok,Bool.not_false,if_true,Sem.run_ite,Sem.run_pure]
   rw [if_neg (by rintro ⟨_,h | h⟩ <;> omega),if_neg (by rw [hib]; exact hcapb)]
   simp only [hch,Result.andThen_ok,hask,hold,hnew,hzv]
   rfl
  have hM1 := (M.tl.drewN 1).alloc (.cells (xs.toArray ++ news.toArray ++ Builtin.zeroCells z.cells (nc - (n + m))) E) (fun _ _ _ h => by cases h; rfl)
  refine ⟨_,_,hrun,?_⟩
  refine hM1.turn (q := slR (.slice (some ⟨w.heap.size,0,none⟩) (n + m) nc) (n + m) E sz (xs ++ news)) rfl fun hh => ⟨by rw [List.length_append,hxl,hnl,Nat.add_mul],.inr ⟨w.heap.size,nc,(Builtin.zeroCells z.cells (nc - (n + m))).toList,rfl,hncge,?_,?_⟩⟩
  ·rw [show (w.drewN 1).heap = w.heap from rfl] at hh
   refine hh.trans ?_
   congr 1
   simp
  ·simp only [List.length_append,hxl,hnl,Array.length_toList,Builtin.zeroCells,Array.size_map,Array.size_range,hzs]
   rw [← Nat.add_mul,← Nat.add_mul]
   congr 1
   omega
 rcases hv with ⟨rfl,rfl⟩ | ⟨b,cap,rest,rfl,hcap,hbk,hlen⟩
 ·rcases Nat.eq_zero_or_pos m with h0 | h0
  ·subst h0
   have : news = [] := List.eq_nil_of_length_eq_zero (by simpa using hnl)
   subst this
   have : xs = [] := List.eq_nil_of_length_eq_zero (by simpa using hxl)
   subst this
   refine ⟨_,w,?_,M⟩
   have hnew := run_firstCells (P := P) (w := w) hx0
   unfold Builtin.append_
   simp only [List.getElem?_toArray,List.getElem?_cons_zero,List.getElem?_cons_succ,Sem.run_bind,huT,hsv,Result.andThen_ok,Sem.run_pure,Bool.false_eq_true,if_false,Builtin.lenOf]
   rw [if_pos (by omega)]
   simp only [Bool.not_false,if_true,Sem.run_bind,hnew,Result.andThen_ok,Nat.add_zero,Sem.run_pure]
  ·exact grow none 0 rfl (by omega)
 ·by_cases hfit : n + m ≤ cap
  ·have hnew := run_firstCells (P := P) (w := w) hx0
   have hM1 : Sep S w0 w (blk b (.cells (xs ++ rest).toArray E (0,0)) :: r) := M.turn (q := blk b (.cells (xs ++ rest).toArray E (0,0))) rfl fun _ => hbk
   have hrl : rest.length = cap * sz - n * sz := by rw [List.length_append,hxl] at hlen; omega
   have hml : n * sz + m * sz ≤ cap * sz := by rw [← Nat.add_mul]; exact Nat.mul_le_mul_right _ hfit
   have hnr : news.length ≤ rest.length := by omega
   obtain ⟨w',hst,M'⟩ := run_storeCells (P := P) (off := n * sz) news 0 _ w hM1 (by rw [List.size_toArray,hlen,hnl]; omega) (fun u hu => List.all_eq_true.1 h1 u hu)
   refine ⟨.slice (some ⟨b,0,none⟩) (n + m) cap,w',?_,?_⟩
   ·unfold Builtin.append_
    simp only [List.getElem?_toArray,List.getElem?_cons_zero,List.getElem?_cons_succ,Sem.run_bind,huT,hsv,Result.andThen_ok,Sem.run_pure,Bool.false_eq_true,if_false,Builtin.lenOf]
    rw [if_pos hfit]
    simp only [Bool.not_false,if_true,Sem.run_bind,hnew,Result.andThen_ok,Sem.run_pure,add_at,Nat.zero_add,hst]
   ·refine M'.turn (q := slR (.slice (some ⟨b,0,none⟩) (n + m) cap) (n + m) E sz (xs ++ news)) rfl fun hh => ⟨by rw [List.length_append,hxl,hnl,Nat.add_mul],.inr ⟨b,cap,rest.drop news.length,rfl,hfit,?_,?_⟩⟩
    ·refine hh.trans ?_
     rw [Nat.add_zero,← hxl,setCells_append xs news rest hnr,List.append_assoc]
    ·rw [List.length_append,List.length_append,List.length_drop,hxl,hnl,hrl]
     omega
  ·exact grow _ cap rfl (by omega)
theorem SlOk.form {h : Array Obj} {v : Value} {n : Nat} {E : TypeId} {sz : Nat} {xs : List Value} (hs : SlOk h v n E sz xs) : ∃ A c,v = .slice A n c := by
 obtain ⟨_,⟨rfl,rfl⟩ | ⟨b,cap,rest,rfl,_⟩⟩ := hs
 ·exact ⟨_,_,rfl⟩
 ·exact ⟨_,_,rfl⟩
structure SlT (P : Program) (T E : TypeId) (sz by_ : Nat) (z : Value) : Prop where
 slc : slcB P T = some (E,sz)
 zero : zeroB P E = some z
 size : z.cells.size = sz
 bytes : bytesB P E = some by_
 pos : 0 < by_
section
variable {P : Program} {ops : List Oper} {cl : List Cls} {bad : List (Nat × Nat)} {Q : Act → World → Prop} {n k d : Nat} {t : Ot} {L : Pend} {a : Act} {w : World} {l : List (Nat × Value)}
variable {ty : TypeId} {ps : String} {af : Array Edge} {g : Option (Nat × Bool)}
theorem s_apL {S : Nat → Prop} {w0 : World} {T E : TypeId} {sz by_ m0 m : Nat} {z v u : Value} {x y : Operand} {xs news : List Value} {r : List Res} (F : Fr n a l) (M : Sep S w0 w (slR v m0 E sz xs :: r)) (ho : nth ops k = some ⟨some d,.call ⟨.builtin .append,#[x,y],#[T,T]⟩,ty,ps,af,g⟩) (hw : wn ops l g = some true) (hc : nth cl k = some .wr) (hlt : Nat.blt d n = true)
  (hT : SlT P T E sz by_ z) (hx : ev l x = some v) (hy : ev l y = some u) (hu : RdSl w.heap u m sz news) (h1 : news.all oneC = true) (hb : (m0 + m) * by_ ≤ 140737488355328)
  (hp : ∀ A c w',Sep S w0 w' (slR (.slice A (m0 + m) c) (m0 + m) E sz (xs ++ news) :: r) → pend bad k L w')
  (h : ∀ A c w',Sep S w0 w' (slR (.slice A (m0 + m) c) (m0 + m) E sz (xs ++ news) :: r) → ∀ a',Fr n a' ((d,.slice A (m0 + m) c) :: l) → trunT P ops cl bad Q t L a' w') : trunT P ops cl bad Q (.one k t) L a w := by
 refine s_wrL (R := fun v' w' => ∃ A c,v' = .slice A (m0 + m) c ∧ Sep S w0 w' (slR (.slice A (m0 + m) c) (m0 + m) E sz (xs ++ news) :: r)) F ho hw hc rfl hlt (fun n => ?_) (fun _ w' ⟨A,c,_,h2⟩ => hp A c w' h2) (fun v w' ⟨A,c,h1,h2⟩ a' F' => by subst h1; exact h A c w' h2 a' F')
 obtain ⟨v',w',hr,M'⟩ := run_append (P := P) (ty := ty) hT.slc hT.zero hT.bytes (M.drewN n) (x := u) (m := m) (by exact hu) h1 hT.size hb hT.pos
 obtain ⟨A,c,rfl⟩ := SlOk.form M'.h0
 simp only [execOp,resolve,invoke,builtin,List.map_toArray,List.map_cons,List.map_nil,F.ev hx,F.ev hy,Sem.run_bind,Sem.run_pure,hr,Result.andThen_ok,Goes]
 exact ⟨A,c,rfl,M'⟩
end
theorem rd_blk {h : Array Obj} {b m sz : Nat} {cs : Array Value} {T : TypeId} (hb : h[b]? = some (.cells cs T (0,0))) (hl : cs.size = m * sz) : RdSl h (.slice (some ⟨b,0,none⟩) m m) m sz cs.toList :=
 ⟨by simpa using hl,_,m,rfl,Nat.le_refl _,fun _ => ⟨b,0,cs,T,(0,0),rfl,hb,fun j u hu => by simpa using hu⟩⟩
theorem sl_of_blk {S : Nat → Prop} {w0 w : World} {b m sz : Nat} {cs : Array Value} {E : TypeId} {r : List Res} (M : Sep S w0 w (blk b (.cells cs E (0,0)) :: r)) (hl : cs.size = m * sz) : Sep S w0 w (slR (.slice (some ⟨b,0,none⟩) m m) m E sz cs.toList :: r) :=
 M.turn (q := slR (.slice (some ⟨b,0,none⟩) m m) m E sz cs.toList) rfl fun hb => ⟨by simpa using hl,.inr ⟨b,m,[],rfl,Nat.le_refl _,by have hb : w.heap[b]? = _ := hb; simpa using hb,by simpa using hl⟩⟩
def rdR (x : Value) (m sz : Nat) (xs : List Value) : Res :=
 ⟨4,if m = 0 then [] else ownB x,fun h => RdSl h x m sz xs,fun h h' hb ⟨h1,A,c,e,hc,h2⟩ => ⟨h1,A,c,e,hc,fun h0 => by
  obtain ⟨b,off,arr,T,fz,rfl,h3,h4⟩ := h2 h0
  subst e
  exact ⟨b,off,arr,T,fz,rfl,(hb b (by rw [if_neg (by omega)]; simp [ownB])).trans h3,h4⟩⟩⟩
theorem ro_of {w0 : World} {x : Value} {m sz : Nat} {xs : List Value} (h : RdSl w0.heap x m sz xs) : Ro (fun _ => False) w0 (rdR x m sz xs) := by
 refine ⟨h,fun b hb => ⟨?_,id⟩⟩
 simp only [rdR] at hb
 split at hb
 ·simp at hb
 ·rename_i h0
  obtain ⟨_,A,c,rfl,_,h2⟩ := h
  obtain ⟨b',off,arr,T,fz,rfl,h3,_⟩ := h2 (by omega)
  simp [ownB] at hb
  subst hb
  exact (Array.getElem?_eq_some_iff.1 h3).1
theorem RdSl.form {h : Array Obj} {x : Value} {m sz : Nat} {xs : List Value} (hs : RdSl h x m sz xs) : ∃ A c,x = .slice A m c ∧ m ≤ c := by
 obtain ⟨_,A,c,e,hc,_⟩ := hs
 exact ⟨A,c,e,hc⟩
theorem RdSl.at_ {h : Array Obj} {A : Option Addr} {m c sz : Nat} {xs : List Value} (hs : RdSl h (.slice A m c) m sz xs) (h0 : 0 < m) : ∃ b off arr T fz,A = some ⟨b,off,none⟩ ∧ h[b]? = some (.cells arr T fz) ∧ ∀ j u,xs[j]? = some u → arr[off + j]? = some u := by
 obtain ⟨_,A',c',e,_,h2⟩ := hs
 injection e with e1 _ _
 subst e1
 exact h2 h0
theorem flat_get {α : Type} {enc : α → List Value} {sz : Nat} (henc : ∀ e,(enc e).length = sz) {f : Nat} {e : α} {v : Value} : ∀ {l : List α} {i : Nat},l[i]? = some e → (enc e)[f]? = some v → (l.flatMap enc)[i * sz + f]? = some v
 | [],i,h,_ => by simp at h
 | x :: l,0,h,hf => by
  simp only [List.getElem?_cons_zero,Option.some.injEq] at h
  subst h
  have hlt : f < (enc x).length := (List.getElem?_eq_some_iff.1 hf).1
  simp only [List.flatMap_cons,Nat.zero_mul,Nat.zero_add]
  rw [List.getElem?_append_left hlt]
  exact hf
 | x :: l,i + 1,h,hf => by
  simp only [List.getElem?_cons_succ] at h
  simp only [List.flatMap_cons]
  rw [List.getElem?_append_right (by rw [henc,Nat.add_mul]; omega),henc,show (i + 1) * sz + f - sz = i * sz + f by rw [Nat.add_mul]; omega]
  exact flat_get henc h hf
theorem flat_len {α : Type} {enc : α → List Value} {sz : Nat} (henc : ∀ e,(enc e).length = sz) : ∀ l : List α,(l.flatMap enc).length = l.length * sz
 | [] => by simp
 | x :: l => by simp [henc,flat_len henc l,Nat.add_mul,Nat.add_comm]
theorem el_cell {α : Type} {enc : α → List Value} {w : World} {b off sz i f : Nat} {arr : Array Value} {T : TypeId} {fz : Nat × Nat} {l : List α} {e : α} {v : Value} (hb : w.heap[b]? = some (.cells arr T fz)) (hc : ∀ j u,(l.flatMap enc)[j]? = some u → arr[off + j]? = some u) (henc : ∀ e,(enc e).length = sz)
  (hi : l[i]? = some e) (hf : (enc e)[f]? = some v) : w.cell? ⟨b,off + i * sz + f,none⟩ = some v :=
 cell_of_blk hb (by rw [Nat.add_assoc]; exact hc _ _ (flat_get henc hi hf))
theorem Sep.left {S : Nat → Prop} {w0 w : World} {m r : List Res} (M : Sep S w0 w (m ++ r)) : Sep S w0 w m := by
 have hf : foots (m ++ r) = foots m ++ foots r := by simp [foots]
 refine ⟨⟨fun x hx => M.own.ok x (List.mem_append_left _ hx),fun b hb => M.own.lt b (by rw [hf]; exact List.mem_append_left _ hb),?_⟩,fun b hb => M.mine b (by rw [hf]; exact List.mem_append_left _ hb),M.chg⟩
 have := M.own.nd
 rw [hf,List.nodup_append] at this
 exact this.1
end Go.Proofs.YteajeenmojbjhaaGreatDoor.Fw
namespace Go.Proofs.YteajeenmojbjhaaGreatDoor.Fw
open Go
section
variable {P : Program} {n : Nat} {a : Act} {w : World} {l : List (Nat × Value)}
def RvOk (P : Program) (a : Act) (w : World) : ResultVar → Value → Prop
 | .tmp t,v => a.tmps.getD t undef = v
 | .cell c t,v => ∃ p,a.tmps.getD c undef = .pointer (some p) ∧ (loadVar t p).run P w = .ok v w
theorem rv_t {i : Nat} {v : Value} (F : Fr n a l) (h : lk l i = some v) : RvOk P a w (.tmp i) v := by
 show a.tmps.getD i undef = v
 simp [F.at_ i v h]
theorem rv_a {i m : Nat} {t : TypeId} {p : Addr} {cs : Array Value} (F : Fr n a l) (h : lk l i = some (.pointer (some p))) (hs : aggB P t = some m) (hm : cs.size = m) (hv : ∀ j v,cs[j]? = some v → w.cell? (p.add j) = some v) : RvOk P a w (.cell i t) (.agg cs) :=
 ⟨p,by simp [F.at_ i _ h],agg_load hs hm hv⟩
theorem rv_cases {r : ResultVar} {v : Value} (h : RvOk P a w r v) : (∃ t,r = .tmp t ∧ a.tmps.getD t undef = v) ∨ ∃ c t p,r = .cell c t ∧ a.tmps.getD c undef = .pointer (some p) ∧ (loadVar t p).run P w = .ok v w := by
 cases r with
 | tmp t => exact .inl ⟨t,rfl,h⟩
 | cell c t => obtain ⟨p,h1,h2⟩ := h; exact .inr ⟨c,t,p,rfl,h1,h2⟩
variable {fn : Func} {R : Ending → World → Prop}
theorem rt1 {r0 : ResultVar} {v0 : Value} (F : Fr n a l) (hr : fn.results = #[r0]) (h0 : RvOk P a w r0 v0) (h : R (.returned v0) w) : bodyPost P fn R .ret a w := by
 refine ⟨F.df,_,?_,h⟩
 unfold results
 rw [hr]
 rcases rv_cases h0 with ⟨t0,rfl,e0⟩ | ⟨c0,t0,p0,rfl,e0,g0⟩
 all_goals simp_all [-Array.getD_eq_getD_getElem?,asAddr]
theorem rt2 {r0 r1 : ResultVar} {v0 v1 : Value} (F : Fr n a l) (hr : fn.results = #[r0,r1]) (h0 : RvOk P a w r0 v0) (h1 : RvOk P a w r1 v1) (h : R (.returned (.tuple #[v0,v1])) w) : bodyPost P fn R .ret a w := by
 refine ⟨F.df,_,?_,h⟩
 unfold results
 rw [hr]
 rcases rv_cases h0 with ⟨t0,rfl,e0⟩ | ⟨c0,t0,p0,rfl,e0,g0⟩
 all_goals rcases rv_cases h1 with ⟨t1,rfl,e1⟩ | ⟨c1,t1,p1,rfl,e1,g1⟩
 all_goals simp_all [-Array.getD_eq_getD_getElem?,asAddr]
theorem wp_cut {c : Code} {Q : Exit → Act → World → Prop} (R : Act → World → Prop) (h1 : c.wp P (Exit.then R Q) a w) (h2 : ∀ a w,R a w → Q .normal a w) : c.wp P Q a w :=
 wp_mono h1 fun e a w h => by
  cases e with
  | normal => exact h2 a w h
  | _ => exact h
end
section
variable {P : Program} {ops : List Oper} {cl : List Cls} {bad : List (Nat × Nat)} {Q : Act → World → Prop} {n k d : Nat} {t : Ot} {L : Pend} {a : Act} {w : World} {l : List (Nat × Value)}
variable {ty : TypeId} {ps : String} {af : Array Edge} {g : Option (Nat × Bool)}
theorem t_two {x y : Nat} {tx ty : Ot} (h1 : trunT P ops cl bad Q (.one x tx) L a w) (h2 : trunT P ops cl bad Q (.one y ty) L a w) : trunT P ops cl bad Q (.two x y tx ty) L a w := ⟨h1,h2⟩
theorem t_alt {x : Nat} {tx r : Ot} (h1 : trunT P ops cl bad Q (.one x tx) L a w) (h2 : trunT P ops cl bad Q r L a w) : trunT P ops cl bad Q (.alt x tx r) L a w := ⟨h1,h2⟩
theorem setCells_get : ∀ (vs : List Value) (arr : Array Value) (off i : Nat),(setCells arr off vs)[i]? = if off ≤ i ∧ i < off + vs.length ∧ i < arr.size then vs[i - off]? else arr[i]?
 | [],arr,off,i => by
  rw [if_neg (by simp; omega)]; rfl
 | v :: vs,arr,off,i => by
  simp only [setCells]
  rw [setCells_get vs,Array.size_setIfInBounds,Array.getElem?_setIfInBounds]
  by_cases h : off = i
  ·subst h
   rw [if_neg (by omega)]
   by_cases hs : off < arr.size
   ·simp [hs]
   ·simp [hs]
  ·by_cases h2 : off + 1 ≤ i ∧ i < off + 1 + vs.length ∧ i < arr.size
   ·rw [if_pos h2,if_pos ⟨by omega,by simp; omega,h2.2.2⟩,show i - off = (i - (off + 1)) + 1 by omega]; rfl
   ·rw [if_neg h2,if_neg h,if_neg (fun h3 => h2 ⟨by omega,by have := h3.2.1; simp at this; omega,h3.2.2⟩)]
theorem setCells_all {arr vs : Array Value} (h : vs.size = arr.size) : setCells arr 0 vs.toList = vs := by
 apply Array.ext_getElem?
 intro i
 rw [setCells_get]
 by_cases hi : i < arr.size
 ·rw [if_pos ⟨Nat.zero_le _,by simp; omega,hi⟩]; simp
 ·rw [if_neg (fun h' => hi h'.2.2),Array.getElem?_eq_none (by omega),Array.getElem?_eq_none (by omega)]
theorem s_stWL {S : Nat → Prop} {w0 : World} {b m : Nat} {T t' : TypeId} {x y : Operand} {r : List Res} {cs vs : Array Value} (F : Fr n a l) (M : Sep S w0 w (blk b (.cells cs T (0,0)) :: r)) (ho : nth ops k = some ⟨none,.store t' x y,ty,ps,af,g⟩) (hw : wn ops l g = some true) (hc : nth cl k = some .wr)
  (hs : sizeB P t' = some m) (hx : ev l x = some (.pointer (some ⟨b,0,none⟩))) (hy : ev l y = some (.agg vs)) (hm : vs.size = m) (hv : vs.toList.all oneC = true) (hcs : cs.size = m)
  (hp : ∀ w',Sep S w0 w' (blk b (.cells vs T (0,0)) :: r) → pend bad k L w')
  (h : ∀ w',Sep S w0 w' (blk b (.cells vs T (0,0)) :: r) → trunT P ops cl bad Q t L a w') : trunT P ops cl bad Q (.one k t) L a w := by
 have e := setCells_all (hm.trans hcs.symm)
 exact s_staL F M ho hw hc hs hx hy hm hv (by omega) (fun w' => by rw [e]; exact hp w') (fun w' => by rw [e]; exact h w')
theorem s_stW {S : Nat → Prop} {w0 : World} {b m : Nat} {T t' : TypeId} {x y : Operand} {r : List Res} {cs vs : Array Value} (F : Fr n a l) (M : Sep S w0 w (blk b (.cells cs T (0,0)) :: r)) (ho : nth ops k = some ⟨none,.store t' x y,ty,ps,af,g⟩) (hw : wn ops l g = some true) (hc : nth cl k = some .wr)
  (hs : sizeB P t' = some m) (hx : ev l x = some (.pointer (some ⟨b,0,none⟩))) (hy : ev l y = some (.agg vs)) (hm : vs.size = m) (hv : vs.toList.all oneC = true) (hcs : cs.size = m)
  (h : ∀ w',Sep S w0 w' (blk b (.cells vs T (0,0)) :: r) → trunT P ops cl [] Q t L a w') : trunT P ops cl [] Q (.one k t) L a w :=
 s_stWL F M ho hw hc hs hx hy hm hv hcs (fun _ _ => pend_nil) h
structure EqV (P : Program) (t : TypeId) {κ : Type} [DecidableEq κ] (enc : κ → List Value) : Prop where
 gd : P.eqGuardType P.depth t = false
 eq : ∀ (k k' : κ) (w : World),(Op.equalIn 10000 t (.agg (enc k).toArray) (.agg (enc k').toArray)).run P w = .ok (decide (k = k')) w
theorem s_seq {κ : Type} [DecidableEq κ] {enc : κ → List Value} {tx ty' : TypeId} {x y : Operand} {u v : κ} (E : EqV P tx enc) (F : Fr n a l) (ho : nth ops k = some ⟨some d,.binOp .eql tx x y ty',ty,ps,af,g⟩) (hw : wn ops l g = some true) (hc : nth cl k = some .ind) (hlt : Nat.blt d n = true)
  (hx : ev l x = some (.agg (enc u).toArray)) (hy : ev l y = some (.agg (enc v).toArray)) (h : ∀ a',Fr n a' ((d,.bool (decide (u = v))) :: l) → trunT P ops cl bad Q t L a' w) : trunT P ops cl bad Q (.one k t) L a w := by
 refine s_ind F ho hw hc rfl hlt (fun w' => ?_) h
 have h1 := run_eql_struct (P := P) w' tx (enc u).toArray (enc v).toArray
 rw [E.eq u v w'] at h1
 simp [execOp,F.ev hx,F.ev hy,run_eqGuard_agg w' _ tx x y _ _ E.gd,h1]
theorem s_sne {κ : Type} [DecidableEq κ] {enc : κ → List Value} {tx ty' : TypeId} {x y : Operand} {u v : κ} (E : EqV P tx enc) (F : Fr n a l) (ho : nth ops k = some ⟨some d,.binOp .neq tx x y ty',ty,ps,af,g⟩) (hw : wn ops l g = some true) (hc : nth cl k = some .ind) (hlt : Nat.blt d n = true)
  (hx : ev l x = some (.agg (enc u).toArray)) (hy : ev l y = some (.agg (enc v).toArray)) (h : ∀ a',Fr n a' ((d,.bool (!decide (u = v))) :: l) → trunT P ops cl bad Q t L a' w) : trunT P ops cl bad Q (.one k t) L a w := by
 refine s_ind F ho hw hc rfl hlt (fun w' => ?_) h
 have h1 := run_neq_struct (P := P) w' tx (enc u).toArray (enc v).toArray
 rw [E.eq u v w'] at h1
 simp [execOp,F.ev hx,F.ev hy,run_eqGuard_agg w' _ tx x y _ _ E.gd,h1]
end
section
variable {P : Program} {ops : List Oper} {cl : List Cls} {bad : List (Nat × Nat)} {Q : Act → World → Prop} {n k d : Nat} {t : Ot} {L : Pend} {a : Act} {w : World} {l : List (Nat × Value)}
variable {ty : TypeId} {ps : String} {af : Array Edge} {g : Option (Nat × Bool)}
theorem s_isA {T e : TypeId} {x y : Operand} {A : Option Addr} {sz b off m c : Nat} {i : Int} (hA : A = some ⟨b,off,none⟩) (F : Fr n a l) (ho : nth ops k = some ⟨some d,.indexAddr T x y,ty,ps,af,g⟩) (hw : wn ops l g = some true) (hc : nth cl k = some .ind) (hlt : Nat.blt d n = true)
  (hT : slcB P T = some (e,sz)) (hx : ev l x = some (.slice A m c)) (hy : ev l y = some (.int .i64 i)) (h0 : 0 ≤ i) (h1 : i < m) (h : ∀ a',Fr n a' ((d,.pointer (some ⟨b,off + i.toNat * sz,none⟩)) :: l) → trunT P ops cl bad Q t L a' w) : trunT P ops cl bad Q (.one k t) L a w := by
 subst hA
 exact s_is F ho hw hc hlt hT hx hy h0 h1 h
end
theorem RdSl.ptr {h : Array Obj} {A : Option Addr} {m c sz : Nat} {xs : List Value} (hs : RdSl h (.slice A m c) m sz xs) (h0 : 0 < m) : ∃ b off,A = some ⟨b,off,none⟩ := by
 obtain ⟨b,off,_,_,_,e,_⟩ := hs.at_ h0
 exact ⟨b,off,e⟩
theorem rd_el0 {α : Type} {enc : α → List Value} {w : World} {b off m c sz i f : Nat} {l : List α} {e : α} {v : Value} (hs : RdSl w.heap (.slice (some ⟨b,off,none⟩) m c) m sz (l.flatMap enc)) (henc : ∀ e,(enc e).length = sz)
  (hi : l[i]? = some e) (hf : nth (enc e) f = some v) : w.cell? ⟨b,off + i * sz + f,none⟩ = some v := by
 rw [nth_eq] at hf
 have hlt : i < l.length := (List.getElem?_eq_some_iff.1 hi).1
 have hf' : f < sz := by rw [← henc e]; exact (List.getElem?_eq_some_iff.1 hf).1
 have hm : 0 < m := by
  have h1 := hs.1
  rw [flat_len henc] at h1
  rcases Nat.eq_zero_or_pos m with h0 | h0
  ·subst h0
   have : 0 < l.length * sz := Nat.mul_pos (by omega) (by omega)
   omega
  ·exact h0
 obtain ⟨b',off',arr,T,fz,e1,hb,hat⟩ := hs.at_ hm
 injection e1 with e1
 injection e1 with e1 e2
 subst e1; subst e2
 exact el_cell hb hat henc hi hf
theorem rd_els0 {α : Type} {enc : α → List Value} {w : World} {b off m c sz i : Nat} {l : List α} {e : α} (hs : RdSl w.heap (.slice (some ⟨b,off,none⟩) m c) m sz (l.flatMap enc)) (henc : ∀ e,(enc e).length = sz)
  (hi : l[i]? = some e) : ∀ j v,(enc e).toArray[j]? = some v → w.cell? ((⟨b,off + i * sz,none⟩ : Addr).add j) = some v := fun j v hv => by
 rw [add_at]
 exact rd_el0 hs henc hi (by rw [nth_eq]; simpa using hv)
theorem rd_el {α : Type} {enc : α → List Value} {w : World} {A : Option Addr} {b off m c sz i f : Nat} {l : List α} {e : α} {v : Value} (hA : A = some ⟨b,off,none⟩) (hs : RdSl w.heap (.slice A m c) m sz (l.flatMap enc)) (henc : ∀ e,(enc e).length = sz)
  (hi : l[i]? = some e) (hf : nth (enc e) f = some v) : w.cell? ⟨b,off + i * sz + f,none⟩ = some v := by
 subst hA; exact rd_el0 hs henc hi hf
theorem rd_els {α : Type} {enc : α → List Value} {w : World} {A : Option Addr} {b off m c sz i : Nat} {l : List α} {e : α} (hA : A = some ⟨b,off,none⟩) (hs : RdSl w.heap (.slice A m c) m sz (l.flatMap enc)) (henc : ∀ e,(enc e).length = sz)
  (hi : l[i]? = some e) : ∀ j v,(enc e).toArray[j]? = some v → w.cell? ((⟨b,off + i * sz,none⟩ : Addr).add j) = some v := by
 subst hA; exact rd_els0 hs henc hi
theorem get_of {α : Type} {l : List α} {i : Int} (h0 : 0 ≤ i) (h1 : i < l.length) : ∃ e,l[i.toNat]? = some e := ⟨l[i.toNat]'(by omega),List.getElem?_eq_getElem _⟩
theorem Ro.nil {w0 : World} {r : Res} (h : Ro (fun _ => False) w0 r) : Ro (fun b => b ∈ foots ([] : List Res)) w0 r := ⟨h.ok,fun b hb => ⟨(h.lt b hb).1,by simp [foots]⟩⟩
theorem parts0 {n : Nat} {a : Act} {l : List (Nat × Value)} (_ : Fr n a l) : (#[] : Array (Nat × Operand)).map (fun (i,x) => (i,a.eval x)) = #[] := by simp
end Go.Proofs.YteajeenmojbjhaaGreatDoor.Fw
namespace Go.Proofs.YteajeenmojbjhaaGreatDoor.Fw
open Go
inductive Pk (m : List Res) : List Nat → List Res → Prop
 | nil : Pk m [] []
 | cons (i : Nat) {x : Res} {is : List Nat} {xs : List Res} (h : nth m i = some x) (t : Pk m is xs) : Pk m (i :: is) (x :: xs)
def ndB : List Nat → Bool
 | [] => true
 | x :: l => !l.contains x && ndB l
theorem ndB_spec : ∀ {l : List Nat},ndB l = true → l.Nodup
 | [],_ => List.nodup_nil
 | x :: l,h => by
  simp only [ndB,Bool.and_eq_true,Bool.not_eq_true',List.contains_eq_mem,decide_eq_false_iff_not] at h
  exact List.nodup_cons.2 ⟨h.1,ndB_spec h.2⟩
theorem Pk.mem {m : List Res} {is : List Nat} {t : List Res} (h : Pk m is t) : ∀ x ∈ t,x ∈ m := by
 induction h with
 | nil => simp
 | cons i hi _ ih =>
  intro y hy
  rcases List.mem_cons.1 hy with rfl | hy
  ·rw [nth_eq] at hi; exact List.mem_of_getElem? hi
  ·exact ih y hy
theorem foots_at {m : List Res} (hn : (foots m).Nodup) {i j : Nat} {x y : Res} (hi : m[i]? = some x) (hj : m[j]? = some y) (hij : i ≠ j) : ∀ b ∈ x.foot,b ∉ y.foot := by
 induction m generalizing i j with
 | nil => simp at hi
 | cons z m ih =>
  have hf : foots (z :: m) = z.foot ++ foots m := rfl
  rw [hf,List.nodup_append] at hn
  obtain ⟨h1,h2,h3⟩ := hn
  intro b hb hb'
  cases i with
  | zero =>
   simp at hi; subst hi
   cases j with
   | zero => exact hij rfl
   | succ j => simp at hj; exact h3 b hb b (List.mem_flatMap.2 ⟨y,List.mem_of_getElem? hj,hb'⟩) rfl
  | succ i =>
   simp at hi
   cases j with
   | zero => simp at hj; subst hj; exact h3 b hb' b (List.mem_flatMap.2 ⟨x,List.mem_of_getElem? hi,hb⟩) rfl
   | succ j => simp at hj; exact ih h2 hi hj (fun e => hij (by omega)) b hb hb'
theorem foot_nd {m : List Res} (hn : (foots m).Nodup) {x : Res} (hx : x ∈ m) : x.foot.Nodup := by
 induction m with
 | nil => cases hx
 | cons z m ih =>
  have hf : foots (z :: m) = z.foot ++ foots m := rfl
  rw [hf,List.nodup_append] at hn
  rcases List.mem_cons.1 hx with rfl | hx
  ·exact hn.1
  ·exact ih hn.2.1 hx
theorem Pk.nd {m : List Res} (hn : (foots m).Nodup) {is : List Nat} {t : List Res} (h : Pk m is t) (hi : is.Nodup) : (foots t).Nodup := by
 induction h with
 | nil => simp [foots]
 | @cons i x is xs hx ht ih =>
  have hf : foots (x :: xs) = x.foot ++ foots xs := rfl
  rw [nth_eq] at hx
  obtain ⟨h1,h2⟩ := List.nodup_cons.1 hi
  rw [hf,List.nodup_append]
  refine ⟨foot_nd hn (List.mem_of_getElem? hx),ih h2,fun b hb b' hb' e => ?_⟩
  subst e
  have key : ∀ {is : List Nat} {xs : List Res},Pk m is xs → i ∉ is → b ∉ foots xs := by
   intro is xs hp
   induction hp with
   | nil => simp [foots]
   | @cons j y js ys hy _ ih =>
    intro hni hbf
    simp only [List.mem_cons,not_or] at hni
    have hf : foots (y :: ys) = y.foot ++ foots ys := rfl
    rw [hf] at hbf
    rw [nth_eq] at hy
    rcases List.mem_append.1 hbf with hbf | hbf
    ·exact foots_at hn hx hy hni.1 b hb hbf
    ·exact ih hni.2 hbf
  exact key ht h1 hb'
theorem Sep.pk {S : Nat → Prop} {w0 w : World} {m t : List Res} {is : List Nat} (M : Sep S w0 w m) (h : Pk m is t) (hi : ndB is = true) : Sep S w0 w t := by
 have hs : ∀ b ∈ foots t,b ∈ foots m := fun b hb => by
  obtain ⟨x,hx,hb⟩ := List.mem_flatMap.1 hb
  exact List.mem_flatMap.2 ⟨x,h.mem x hx,hb⟩
 exact ⟨⟨fun x hx => M.own.ok x (h.mem x hx),fun b hb => M.own.lt b (hs b hb),h.nd M.own.nd (ndB_spec hi)⟩,fun b hb => M.mine b (hs b hb),M.chg⟩
inductive PkG (m : List Res) : List Nat → List Res → Prop
 | nil {u : List Nat} : PkG m u []
 | cons (i : Nat) {u : List Nat} {x : Res} {xs : List Res} (h : nth m i = some x) (hu : u.contains i = false) (t : PkG m (i :: u) xs) : PkG m u (x :: xs)
theorem PkG.pk {m : List Res} {u : List Nat} {t : List Res} (h : PkG m u t) : ∃ is,Pk m is t ∧ ndB is = true ∧ ∀ i ∈ is,i ∉ u := by
 induction h with
 | nil => exact ⟨[],.nil,rfl,by simp⟩
 | @cons i u x xs h hu _ ih =>
  obtain ⟨is,h1,h2,h3⟩ := ih
  refine ⟨i :: is,.cons i h h1,?_,fun j hj => ?_⟩
  ·simp only [ndB,Bool.and_eq_true,Bool.not_eq_true',List.contains_eq_mem,decide_eq_false_iff_not]
   exact ⟨fun hi => h3 i hi List.mem_cons_self,h2⟩
  ·rcases List.mem_cons.1 hj with rfl | hj
   ·simpa using hu
   ·exact fun hu' => h3 j hj (List.mem_cons_of_mem _ hu')
theorem Sep.pick {S : Nat → Prop} {w0 w : World} {m t : List Res} (M : Sep S w0 w m) (h : PkG m [] t) : Sep S w0 w t := by
 obtain ⟨is,h1,h2,_⟩ := h.pk
 exact M.pk h1 h2
section
variable {P : Program} {Q : Exit → Act → World → Prop} {n : Nat} {a : Act} {w w0 : World} {l s : List (Nat × Value)} {S : Nat → Prop} {r : List Res}
def Round (X : Type) (n : Nat) (I : X → Prop) (ms : X → List (Nat × Value)) (mm : X → List Res) (me : X → Nat) (s : List (Nat × Value)) (S : Nat → Prop) (w0 : World) (r : List Res) (k : Nat) (a : Act) (w : World) : Prop :=
 ∃ x,me x < k ∧ I x ∧ Fr n a (ms x ++ s) ∧ Sep S w0 w (mm x ++ r)
theorem loopX {X : Type} {c : Code} (_F : Fr n a l) (ks : List Nat) (_hs : sub l ks = some s) (I : X → Prop) (ms : X → List (Nat × Value)) (mm : X → List Res) (me : X → Nat) (x0 : X)
  (M : Sep S w0 w (mm x0 ++ r)) (hI : I x0) (hF : Fr n a (ms x0 ++ s))
  (h : ∀ x a w,I x → Fr n a (ms x ++ s) → Sep S w0 w (mm x ++ r) → c.wp P (Exit.then (fun a w => Round X n I ms mm me s S w0 r (me x) a w) Q) a w) : (Code.loop c).wp P Q a w := by
 refine wp_loop_ghost (fun k a w => ∃ x,me x = k ∧ I x ∧ Fr n a (ms x ++ s) ∧ Sep S w0 w (mm x ++ r)) (me x0) ⟨x0,rfl,hI,hF,M⟩ ?_
 rintro k a w ⟨x,rfl,h1,h2,h3⟩
 refine wp_mono (h x a w h1 h2 h3) fun e a w hh => ?_
 cases e with
 | normal =>
  obtain ⟨x',h1,h2,h3,h4⟩ := hh
  exact ⟨me x',h1,x',rfl,h2,h3,h4⟩
 | _ => exact hh
theorem again {X : Type} {I : X → Prop} {ms : X → List (Nat × Value)} {mm : X → List Res} {me : X → Nat} {k : Nat} (x : X) (h1 : me x < k) (h2 : I x) (h3 : Fr n a (ms x ++ s)) (h4 : Sep S w0 w (mm x ++ r)) :
  Round X n I ms mm me s S w0 r k a w := ⟨x,h1,h2,h3,h4⟩
def Cut (X : Type) (n : Nat) (I : X → Prop) (ms : X → List (Nat × Value)) (mm : X → List Res) (s : List (Nat × Value)) (S : Nat → Prop) (w0 : World) (r : List Res) (a : Act) (w : World) : Prop :=
 ∃ x,I x ∧ Fr n a (ms x ++ s) ∧ Sep S w0 w (mm x ++ r)
theorem cutX {X : Type} {c : Code} {m0 : List Res} (_F : Fr n a l) (ks : List Nat) (_hs : sub l ks = some s) (_M : Sep S w0 w (m0 ++ r)) (I : X → Prop) (ms : X → List (Nat × Value)) (mm : X → List Res)
  (h1 : c.wp P (Exit.then (fun a w => Cut X n I ms mm s S w0 r a w) Q) a w)
  (h2 : ∀ x a w,I x → Fr n a (ms x ++ s) → Sep S w0 w (mm x ++ r) → Q .normal a w) : c.wp P Q a w :=
 wp_cut (fun a w => Cut X n I ms mm s S w0 r a w) h1 fun a w ⟨x,h3,h4,h5⟩ => h2 x a w h3 h4 h5
theorem joined {X : Type} {I : X → Prop} {ms : X → List (Nat × Value)} {mm : X → List Res} (x : X) (h2 : I x) (h3 : Fr n a (ms x ++ s)) (h4 : Sep S w0 w (mm x ++ r)) :
  Cut X n I ms mm s S w0 r a w := ⟨x,h2,h3,h4⟩
end
section
variable {S : Nat → Prop} {w0 w : World} {α : Type} {f : α → Res} {r : List Res}
end
def bk (A : Option Addr) : Nat := match A with
 | some a => a.block
 | none => 0
def of (A : Option Addr) : Nat := match A with
 | some a => a.off
 | none => 0
theorem RdSl.bkof {h : Array Obj} {A : Option Addr} {m c sz : Nat} {xs : List Value} (hs : RdSl h (.slice A m c) m sz xs) (h0 : 0 < m) : A = some ⟨bk A,of A,none⟩ := by
 obtain ⟨b,off,rfl⟩ := hs.ptr h0
 rfl
theorem at_pos {α : Type} {l : List α} {i : Nat} {e : α} (h : l[i]? = some e) : 0 < l.length := by
 have := (List.getElem?_eq_some_iff.1 h).1
 omega
theorem rdX {α : Type} {enc : α → List Value} {w : World} {A : Option Addr} {c sz i f : Nat} {l : List α} {e : α} {v : Value} (hs : RdSl w.heap (.slice A l.length c) l.length sz (l.flatMap enc)) (henc : ∀ e,(enc e).length = sz)
  (hi : l[i]? = some e) (hf : nth (enc e) f = some v) : w.cell? ⟨bk A,of A + i * sz + f,none⟩ = some v := rd_el (hs.bkof (at_pos hi)) hs henc hi hf
theorem rdX0 {α : Type} {enc : α → List Value} {w : World} {A : Option Addr} {c sz i : Nat} {l : List α} {e : α} {v : Value} (hs : RdSl w.heap (.slice A l.length c) l.length sz (l.flatMap enc)) (henc : ∀ e,(enc e).length = sz)
  (hi : l[i]? = some e) (hf : nth (enc e) 0 = some v) : w.cell? ⟨bk A,of A + i * sz,none⟩ = some v := rdX hs henc hi hf
theorem rdsX {α : Type} {enc : α → List Value} {w : World} {A : Option Addr} {c sz i : Nat} {l : List α} {e : α} (hs : RdSl w.heap (.slice A l.length c) l.length sz (l.flatMap enc)) (henc : ∀ e,(enc e).length = sz)
  (hi : l[i]? = some e) : ∀ j v,(enc e).toArray[j]? = some v → w.cell? ((⟨bk A,of A + i * sz,none⟩ : Addr).add j) = some v := rd_els (hs.bkof (at_pos hi)) hs henc hi
theorem Sep.nilT {α : Type} {S : Nat → Prop} {w0 w : World} {r : List Res} (M : Sep S w0 w r) (enc : α → List Value) (E : TypeId) (sz : Nat) : Sep S w0 w (slR (.slice none 0 0) ([] : List α).length E sz (([] : List α).flatMap enc) :: r) := M.nilS E sz
section
variable {P : Program} {ops : List Oper} {cl : List Cls} {bad : List (Nat × Nat)} {Q : Act → World → Prop} {n k d : Nat} {t : Ot} {L : Pend} {a : Act} {w : World} {l : List (Nat × Value)}
variable {ty : TypeId} {ps : String} {af : Array Edge} {g : Option (Nat × Bool)}
theorem s_ix {α : Type} {enc : α → List Value} {T e' : TypeId} {x y : Operand} {A : Option Addr} {sz c : Nat} {i : Int} {lst : List α} (F : Fr n a l) (ho : nth ops k = some ⟨some d,.indexAddr T x y,ty,ps,af,g⟩) (hw : wn ops l g = some true) (hc : nth cl k = some .ind) (hlt : Nat.blt d n = true)
  (hT : slcB P T = some (e',sz)) (hx : ev l x = some (.slice A lst.length c)) (hy : ev l y = some (.int .i64 i)) (hR : RdSl w.heap (.slice A lst.length c) lst.length sz (lst.flatMap enc)) (h0 : 0 ≤ i) (h1 : i < lst.length)
  (h : ∀ e,lst[i.toNat]? = some e → ∀ a',Fr n a' ((d,.pointer (some ⟨bk A,of A + i.toNat * sz,none⟩)) :: l) → trunT P ops cl bad Q t L a' w) : trunT P ops cl bad Q (.one k t) L a w := by
 obtain ⟨e,he⟩ := get_of h0 h1
 exact s_isA (hR.bkof (at_pos he)) F ho hw hc hlt hT hx hy h0 h1 (h e he)
def evO (l : List (Nat × Value)) (z : Int) : Option Operand → Option Int
 | none => some z
 | some x => match ev l x with
  | some (.int .i64 i) => some i
  | _ => none
theorem run_sb {v : Value} {i : Int} {m : Nat} {code : BoundsCode} (hv : v = .int .i64 i) (h0 : 0 ≤ i) (h1 : i ≤ m) (w : World) : (Instr.sliceBound v m code).run P w = .ok i.toNat w := by
 subst hv
 unfold Instr.sliceBound
 simp [asIntOf,h0,h1]
theorem s_cu {ts td : TypeId} {x : Operand} {u : Int} (F : Fr n a l) (ho : nth ops k = some ⟨some d,.convert ts td x,ty,ps,af,g⟩) (hw : wn ops l g = some true) (hc : nth cl k = some .ind) (hlt : Nat.blt d n = true)
  (hs : intB P ts = some .i64) (hd : intB P td = some .u64) (hx : ev l x = some (.int .i64 u)) (h : ∀ a',Fr n a' ((d,.int .u64 (u % 18446744073709551616)) :: l) → trunT P ops cl bad Q t L a' w) : trunT P ops cl bad Q (.one k t) L a w := by
 refine s_cvt F ho hw hc hlt hs hd hx ?_
 have : IntKind.u64.wrap u = u % 18446744073709551616 := by
  simp [IntKind.wrap,IntKind.bits,IntKind.signed]
 rw [this]
 exact h
theorem s_apE {α : Type} {enc : α → List Value} {S : Nat → Prop} {w0 : World} {T E : TypeId} {sz by_ : Nat} {z v u : Value} {x y : Operand} {lst : List α} {r : List Res} (e : α) (F : Fr n a l) (M : Sep S w0 w (slR v lst.length E sz (lst.flatMap enc) :: r)) (ho : nth ops k = some ⟨some d,.call ⟨.builtin .append,#[x,y],#[T,T]⟩,ty,ps,af,g⟩) (hw : wn ops l g = some true) (hc : nth cl k = some .wr) (hlt : Nat.blt d n = true)
  (hT : SlT P T E sz by_ z) (hx : ev l x = some v) (hy : ev l y = some u) (hu : RdSl w.heap u 1 sz (enc e)) (h1 : (enc e).all oneC = true) (hb : (lst.length + 1) * by_ ≤ 140737488355328)
  (hp : ∀ A c w',Sep S w0 w' (slR (.slice A (lst ++ [e]).length c) (lst ++ [e]).length E sz ((lst ++ [e]).flatMap enc) :: r) → pend bad k L w')
  (h : ∀ A c w',Sep S w0 w' (slR (.slice A (lst ++ [e]).length c) (lst ++ [e]).length E sz ((lst ++ [e]).flatMap enc) :: r) → ∀ a',Fr n a' ((d,.slice A (lst ++ [e]).length c) :: l) → trunT P ops cl bad Q t L a' w') : trunT P ops cl bad Q (.one k t) L a w := by
 have e1 : (lst ++ [e]).flatMap enc = lst.flatMap enc ++ enc e := by simp
 have e2 : (lst ++ [e]).length = lst.length + 1 := by simp
 rw [e1,e2] at h hp
 exact s_apL F M ho hw hc hlt hT hx hy hu h1 hb hp h
end
end Go.Proofs.YteajeenmojbjhaaGreatDoor.Fw
