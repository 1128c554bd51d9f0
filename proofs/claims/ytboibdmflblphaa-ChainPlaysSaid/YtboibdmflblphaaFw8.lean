/-
  Loops and cuts that keep what they do not name; resources picked by their places; many resources as one.
-/
import Derived.Test.YtboibdmflblphaaFw7
namespace Go.Proofs.Ytboibdmflblphaa.Fw
open Go

/-! ### picking resources -/
inductive Pk (m : List Res) : List Nat → List Res → Prop
  | nil : Pk m [] []
  | cons (i : Nat) {x : Res} {is : List Nat} {xs : List Res} (h : nth m i = some x) (t : Pk m is xs) : Pk m (i :: is) (x :: xs)

def ndB : List Nat → Bool
  | [] => true
  | x :: l => !l.contains x && ndB l

theorem ndB_spec : ∀ {l : List Nat}, ndB l = true → l.Nodup
  | [], _ => List.nodup_nil
  | x :: l, h => by
    simp only [ndB, Bool.and_eq_true, Bool.not_eq_true', List.contains_eq_mem, decide_eq_false_iff_not] at h
    exact List.nodup_cons.2 ⟨h.1, ndB_spec h.2⟩

theorem Pk.mem {m : List Res} {is : List Nat} {t : List Res} (h : Pk m is t) : ∀ x ∈ t, x ∈ m := by
  induction h with
  | nil => simp
  | cons i hi _ ih =>
    intro y hy
    rcases List.mem_cons.1 hy with rfl | hy
    · rw [nth_eq] at hi; exact List.mem_of_getElem? hi
    · exact ih y hy

theorem foots_at {m : List Res} (hn : (foots m).Nodup) {i j : Nat} {x y : Res} (hi : m[i]? = some x) (hj : m[j]? = some y) (hij : i ≠ j) : ∀ b ∈ x.foot, b ∉ y.foot := by
  induction m generalizing i j with
  | nil => simp at hi
  | cons z m ih =>
    have hf : foots (z :: m) = z.foot ++ foots m := rfl
    rw [hf, List.nodup_append] at hn
    obtain ⟨h1, h2, h3⟩ := hn
    intro b hb hb'
    cases i with
    | zero =>
      simp at hi; subst hi
      cases j with
      | zero => exact hij rfl
      | succ j => simp at hj; exact h3 b hb b (List.mem_flatMap.2 ⟨y, List.mem_of_getElem? hj, hb'⟩) rfl
    | succ i =>
      simp at hi
      cases j with
      | zero => simp at hj; subst hj; exact h3 b hb' b (List.mem_flatMap.2 ⟨x, List.mem_of_getElem? hi, hb⟩) rfl
      | succ j => simp at hj; exact ih h2 hi hj (fun e => hij (by omega)) b hb hb'

theorem foot_nd {m : List Res} (hn : (foots m).Nodup) {x : Res} (hx : x ∈ m) : x.foot.Nodup := by
  induction m with
  | nil => cases hx
  | cons z m ih =>
    have hf : foots (z :: m) = z.foot ++ foots m := rfl
    rw [hf, List.nodup_append] at hn
    rcases List.mem_cons.1 hx with rfl | hx
    · exact hn.1
    · exact ih hn.2.1 hx

theorem Pk.nd {m : List Res} (hn : (foots m).Nodup) {is : List Nat} {t : List Res} (h : Pk m is t) (hi : is.Nodup) : (foots t).Nodup := by
  induction h with
  | nil => simp [foots]
  | @cons i x is xs hx ht ih =>
    have hf : foots (x :: xs) = x.foot ++ foots xs := rfl
    rw [nth_eq] at hx
    obtain ⟨h1, h2⟩ := List.nodup_cons.1 hi
    rw [hf, List.nodup_append]
    refine ⟨foot_nd hn (List.mem_of_getElem? hx), ih h2, fun b hb b' hb' e => ?_⟩
    subst e
    -- b lies in some picked one at another place
    have key : ∀ {is : List Nat} {xs : List Res}, Pk m is xs → i ∉ is → b ∉ foots xs := by
      intro is xs hp
      induction hp with
      | nil => simp [foots]
      | @cons j y js ys hy _ ih =>
        intro hni hbf
        simp only [List.mem_cons, not_or] at hni
        have hf : foots (y :: ys) = y.foot ++ foots ys := rfl
        rw [hf] at hbf
        rw [nth_eq] at hy
        rcases List.mem_append.1 hbf with hbf | hbf
        · exact foots_at hn hx hy hni.1 b hb hbf
        · exact ih hni.2 hbf
    exact key ht h1 hb'

theorem Sep.pk {S : Nat → Prop} {w0 w : World} {m t : List Res} {is : List Nat} (M : Sep S w0 w m) (h : Pk m is t) (hi : ndB is = true) : Sep S w0 w t := by
  have hs : ∀ b ∈ foots t, b ∈ foots m := fun b hb => by
    obtain ⟨x, hx, hb⟩ := List.mem_flatMap.1 hb
    exact List.mem_flatMap.2 ⟨x, h.mem x hx, hb⟩
  exact ⟨⟨fun x hx => M.own.ok x (h.mem x hx), fun b hb => M.own.lt b (hs b hb), h.nd M.own.nd (ndB_spec hi)⟩, fun b hb => M.mine b (hs b hb), M.chg⟩

/-- The same, with the places that are used so far. -/
inductive PkG (m : List Res) : List Nat → List Res → Prop
  | nil {u : List Nat} : PkG m u []
  | cons (i : Nat) {u : List Nat} {x : Res} {xs : List Res} (h : nth m i = some x) (hu : u.contains i = false) (t : PkG m (i :: u) xs) : PkG m u (x :: xs)
theorem PkG.pk {m : List Res} {u : List Nat} {t : List Res} (h : PkG m u t) : ∃ is, Pk m is t ∧ ndB is = true ∧ ∀ i ∈ is, i ∉ u := by
  induction h with
  | nil => exact ⟨[], .nil, rfl, by simp⟩
  | @cons i u x xs h hu _ ih =>
    obtain ⟨is, h1, h2, h3⟩ := ih
    refine ⟨i :: is, .cons i h h1, ?_, fun j hj => ?_⟩
    · simp only [ndB, Bool.and_eq_true, Bool.not_eq_true', List.contains_eq_mem, decide_eq_false_iff_not]
      exact ⟨fun hi => h3 i hi List.mem_cons_self, h2⟩
    · rcases List.mem_cons.1 hj with rfl | hj
      · simpa using hu
      · exact fun hu' => h3 j hj (List.mem_cons_of_mem _ hu')
theorem Sep.pick {S : Nat → Prop} {w0 w : World} {m t : List Res} (M : Sep S w0 w m) (h : PkG m [] t) : Sep S w0 w t := by
  obtain ⟨is, h1, h2, _⟩ := h.pk
  exact M.pk h1 h2

/-! ### loops and cuts -/
section
variable {P : Program} {Q : Exit → Act → World → Prop} {n : Nat} {a : Act} {w w0 : World} {l s : List (Nat × Value)} {S : Nat → Prop} {r : List Res}

/-- What is left to show at a round's end. -/
def Round (X : Type) (n : Nat) (I : X → Prop) (ms : X → List (Nat × Value)) (mm : X → List Res) (me : X → Nat) (s : List (Nat × Value)) (S : Nat → Prop) (w0 : World) (r : List Res) (k : Nat) (a : Act) (w : World) : Prop :=
  ∃ x, me x < k ∧ I x ∧ Fr n a (ms x ++ s) ∧ Sep S w0 w (mm x ++ r)

theorem loopX {X : Type} {c : Code} (_F : Fr n a l) (ks : List Nat) (_hs : sub l ks = some s) (I : X → Prop) (ms : X → List (Nat × Value)) (mm : X → List Res) (me : X → Nat) (x0 : X)
    (M : Sep S w0 w (mm x0 ++ r)) (hI : I x0) (hF : Fr n a (ms x0 ++ s))
    (h : ∀ x a w, I x → Fr n a (ms x ++ s) → Sep S w0 w (mm x ++ r) → c.wp P (Exit.then (fun a w => Round X n I ms mm me s S w0 r (me x) a w) Q) a w) : (Code.loop c).wp P Q a w := by
  refine wp_loop_ghost (fun k a w => ∃ x, me x = k ∧ I x ∧ Fr n a (ms x ++ s) ∧ Sep S w0 w (mm x ++ r)) (me x0) ⟨x0, rfl, hI, hF, M⟩ ?_
  rintro k a w ⟨x, rfl, h1, h2, h3⟩
  refine wp_mono (h x a w h1 h2 h3) fun e a w hh => ?_
  cases e with
  | normal =>
    obtain ⟨x', h1, h2, h3, h4⟩ := hh
    exact ⟨me x', h1, x', rfl, h2, h3, h4⟩
  | _ => exact hh

theorem again {X : Type} {I : X → Prop} {ms : X → List (Nat × Value)} {mm : X → List Res} {me : X → Nat} {k : Nat} (x : X) (h1 : me x < k) (h2 : I x) (h3 : Fr n a (ms x ++ s)) (h4 : Sep S w0 w (mm x ++ r)) :
    Round X n I ms mm me s S w0 r k a w := ⟨x, h1, h2, h3, h4⟩

def Cut (X : Type) (n : Nat) (I : X → Prop) (ms : X → List (Nat × Value)) (mm : X → List Res) (s : List (Nat × Value)) (S : Nat → Prop) (w0 : World) (r : List Res) (a : Act) (w : World) : Prop :=
  ∃ x, I x ∧ Fr n a (ms x ++ s) ∧ Sep S w0 w (mm x ++ r)

theorem cutX {X : Type} {c : Code} {m0 : List Res} (_F : Fr n a l) (ks : List Nat) (_hs : sub l ks = some s) (_M : Sep S w0 w (m0 ++ r)) (I : X → Prop) (ms : X → List (Nat × Value)) (mm : X → List Res)
    (h1 : c.wp P (Exit.then (fun a w => Cut X n I ms mm s S w0 r a w) Q) a w)
    (h2 : ∀ x a w, I x → Fr n a (ms x ++ s) → Sep S w0 w (mm x ++ r) → Q .normal a w) : c.wp P Q a w :=
  wp_cut (fun a w => Cut X n I ms mm s S w0 r a w) h1 fun a w ⟨x, h3, h4, h5⟩ => h2 x a w h3 h4 h5

theorem joined {X : Type} {I : X → Prop} {ms : X → List (Nat × Value)} {mm : X → List Res} (x : X) (h2 : I x) (h3 : Fr n a (ms x ++ s)) (h4 : Sep S w0 w (mm x ++ r)) :
    Cut X n I ms mm s S w0 r a w := ⟨x, h2, h3, h4⟩
end

/-! ### many resources as one -/
def bigR {α : Type} (f : α → Res) (xs : List α) : Res :=
  ⟨20, xs.flatMap fun x => (f x).foot, fun h => ∀ x ∈ xs, (f x).ok h, fun h h' hb hk x hx => (f x).loc h h' (fun b hb' => hb b (List.mem_flatMap.2 ⟨x, hx, hb'⟩)) (hk x hx)⟩

section
variable {S : Nat → Prop} {w0 w : World} {α : Type} {f : α → Res} {r : List Res}
end

/-! ### slices: elements without names for their place; parts of slices; appending -/
def bk (A : Option Addr) : Nat := match A with
  | some a => a.block
  | none => 0
def of (A : Option Addr) : Nat := match A with
  | some a => a.off
  | none => 0
theorem RdSl.bkof {h : Array Obj} {A : Option Addr} {m c sz : Nat} {xs : List Value} (hs : RdSl h (.slice A m c) m sz xs) (h0 : 0 < m) : A = some ⟨bk A, of A, none⟩ := by
  obtain ⟨b, off, rfl⟩ := hs.ptr h0
  rfl
theorem at_pos {α : Type} {l : List α} {i : Nat} {e : α} (h : l[i]? = some e) : 0 < l.length := by
  have := (List.getElem?_eq_some_iff.1 h).1
  omega
theorem rdX {α : Type} {enc : α → List Value} {w : World} {A : Option Addr} {c sz i f : Nat} {l : List α} {e : α} {v : Value} (hs : RdSl w.heap (.slice A l.length c) l.length sz (l.flatMap enc)) (henc : ∀ e, (enc e).length = sz)
    (hi : l[i]? = some e) (hf : nth (enc e) f = some v) : w.cell? ⟨bk A, of A + i * sz + f, none⟩ = some v := rd_el (hs.bkof (at_pos hi)) hs henc hi hf
theorem rdX0 {α : Type} {enc : α → List Value} {w : World} {A : Option Addr} {c sz i : Nat} {l : List α} {e : α} {v : Value} (hs : RdSl w.heap (.slice A l.length c) l.length sz (l.flatMap enc)) (henc : ∀ e, (enc e).length = sz)
    (hi : l[i]? = some e) (hf : nth (enc e) 0 = some v) : w.cell? ⟨bk A, of A + i * sz, none⟩ = some v := rdX hs henc hi hf
theorem rdsX {α : Type} {enc : α → List Value} {w : World} {A : Option Addr} {c sz i : Nat} {l : List α} {e : α} (hs : RdSl w.heap (.slice A l.length c) l.length sz (l.flatMap enc)) (henc : ∀ e, (enc e).length = sz)
    (hi : l[i]? = some e) : ∀ j v, (enc e).toArray[j]? = some v → w.cell? ((⟨bk A, of A + i * sz, none⟩ : Addr).add j) = some v := rd_els (hs.bkof (at_pos hi)) hs henc hi
theorem rdX2 {α : Type} {enc : α → List Value} {w : World} {A : Option Addr} {c sz i f g : Nat} {l : List α} {e : α} {v : Value} (hs : RdSl w.heap (.slice A l.length c) l.length sz (l.flatMap enc)) (henc : ∀ e, (enc e).length = sz)
    (hi : l[i]? = some e) (hf : nth (enc e) (f + g) = some v) : w.cell? ⟨bk A, of A + i * sz + f + g, none⟩ = some v := by rw [Nat.add_assoc]; exact rdX hs henc hi hf
theorem rdX3 {α : Type} {enc : α → List Value} {w : World} {A : Option Addr} {c sz i f g j : Nat} {l : List α} {e : α} {v : Value} (hs : RdSl w.heap (.slice A l.length c) l.length sz (l.flatMap enc)) (henc : ∀ e, (enc e).length = sz)
    (hi : l[i]? = some e) (hf : nth (enc e) (f + g + j) = some v) : w.cell? ⟨bk A, of A + i * sz + f + g + j, none⟩ = some v := by rw [Nat.add_assoc]; exact rdX2 hs henc hi (by rw [← Nat.add_assoc]; exact hf)
def cutA (A : Option Addr) (c lo sz : Nat) : Option Addr := if c = lo then A else A.map (·.add (lo * sz))
theorem RdSl.sub {α : Type} {enc : α → List Value} {h : Array Obj} {A : Option Addr} {c sz : Nat} {l : List α} (hs : RdSl h (.slice A l.length c) l.length sz (l.flatMap enc)) (henc : ∀ e, (enc e).length = sz) (lo hi : Nat) (h1 : lo ≤ hi) (h2 : hi ≤ l.length) :
    RdSl h (.slice (cutA A c lo sz) (hi - lo) (c - lo)) (hi - lo) sz (((l.drop lo).take (hi - lo)).flatMap enc) := by
  have hc : l.length ≤ c := by
    obtain ⟨_, A', c', e, hc, _⟩ := hs
    injection e with _ _ e
    subst e
    exact hc
  refine ⟨by rw [flat_len henc, List.length_take, List.length_drop, Nat.min_eq_left (by omega)], _, _, rfl, by omega, fun h0 => ?_⟩
  obtain ⟨b, off, arr, T, fz, rfl, hb, hat⟩ := hs.at_ (by omega)
  have hne : c ≠ lo := by omega
  refine ⟨b, off + lo * sz, arr, T, fz, ?_, hb, fun j u hu => ?_⟩
  · unfold cutA
    rw [if_neg hne]
    simp [add_at]
  · rw [Nat.add_assoc]
    refine hat _ _ ?_
    have e1 : l = l.take lo ++ (l.drop lo).take (hi - lo) ++ l.drop hi := by
      rw [List.append_assoc]
      have : (l.drop lo).take (hi - lo) ++ l.drop hi = l.drop lo := by
        have := List.take_append_drop (hi - lo) (l.drop lo)
        rw [List.drop_drop, show lo + (hi - lo) = hi by omega] at this
        exact this
      rw [this, List.take_append_drop]
    rw [e1, List.flatMap_append, List.flatMap_append, List.append_assoc, List.getElem?_append_right (by rw [flat_len henc, List.length_take, Nat.min_eq_left (by omega)]; omega), flat_len henc, List.length_take, Nat.min_eq_left (by omega), Nat.add_sub_cancel_left]
    rw [List.getElem?_append_left ((List.getElem?_eq_some_iff.1 hu).1)]
    exact hu
theorem RdSl.pre {α : Type} {enc : α → List Value} {h : Array Obj} {A : Option Addr} {c sz : Nat} {l : List α} (hs : RdSl h (.slice A l.length c) l.length sz (l.flatMap enc)) (henc : ∀ e, (enc e).length = sz) (hi : Nat) (h2 : hi ≤ l.length) :
    RdSl h (.slice (cutA A c 0 sz) (hi - 0) (c - 0)) (l.take hi).length sz ((l.take hi).flatMap enc) := by
  have := hs.sub henc 0 hi (Nat.zero_le _) h2
  rw [List.drop_zero, Nat.sub_zero] at this
  rw [List.length_take, Nat.min_eq_left h2]
  exact this
theorem RdSl.suf {α : Type} {enc : α → List Value} {h : Array Obj} {A : Option Addr} {c sz : Nat} {l : List α} (hs : RdSl h (.slice A l.length c) l.length sz (l.flatMap enc)) (henc : ∀ e, (enc e).length = sz) (lo : Nat) (h2 : lo ≤ l.length) :
    RdSl h (.slice (cutA A c lo sz) (l.length - lo) (c - lo)) (l.drop lo).length sz ((l.drop lo).flatMap enc) := by
  have := hs.sub henc lo l.length h2 (Nat.le_refl _)
  rw [show (l.drop lo).take (l.length - lo) = l.drop lo from List.take_of_length_le (by simp)] at this
  rw [List.length_drop]
  exact this
theorem Sep.nilT {α : Type} {S : Nat → Prop} {w0 w : World} {r : List Res} (M : Sep S w0 w r) (enc : α → List Value) (E : TypeId) (sz : Nat) : Sep S w0 w (slR (.slice none 0 0) ([] : List α).length E sz (([] : List α).flatMap enc) :: r) := M.nilS E sz
section
variable {P : Program} {ops : List Oper} {cl : List Cls} {bad : List (Nat × Nat)} {Q : Act → World → Prop} {n k d : Nat} {t : Ot} {L : Pend} {a : Act} {w : World} {l : List (Nat × Value)}
variable {ty : TypeId} {ps : String} {af : Array Edge} {g : Option (Nat × Bool)}

/-- l[i] of a slice: the element gets a name. -/
theorem s_ix {α : Type} {enc : α → List Value} {T e' : TypeId} {x y : Operand} {A : Option Addr} {sz c : Nat} {i : Int} {lst : List α} (F : Fr n a l) (ho : nth ops k = some ⟨some d, .indexAddr T x y, ty, ps, af, g⟩) (hw : wn ops l g = some true) (hc : nth cl k = some .ind) (hlt : Nat.blt d n = true)
    (hT : slcB P T = some (e', sz)) (hx : ev l x = some (.slice A lst.length c)) (hy : ev l y = some (.int .i64 i)) (hR : RdSl w.heap (.slice A lst.length c) lst.length sz (lst.flatMap enc)) (h0 : 0 ≤ i) (h1 : i < lst.length)
    (h : ∀ e, lst[i.toNat]? = some e → ∀ a', Fr n a' ((d, .pointer (some ⟨bk A, of A + i.toNat * sz, none⟩)) :: l) → trunT P ops cl bad Q t L a' w) : trunT P ops cl bad Q (.one k t) L a w := by
  obtain ⟨e, he⟩ := get_of h0 h1
  exact s_isA (hR.bkof (at_pos he)) F ho hw hc hlt hT hx hy h0 h1 (h e he)

/-- l[lo:hi] -/
def evO (l : List (Nat × Value)) (z : Int) : Option Operand → Option Int
  | none => some z
  | some x => match ev l x with
    | some (.int .i64 i) => some i
    | _ => none
theorem run_sb {v : Value} {i : Int} {m : Nat} {code : BoundsCode} (hv : v = .int .i64 i) (h0 : 0 ≤ i) (h1 : i ≤ m) (w : World) : (Instr.sliceBound v m code).run P w = .ok i.toNat w := by
  subst hv
  unfold Instr.sliceBound
  simp [asIntOf, h0, h1]
theorem s_slc {T e : TypeId} {x : Operand} {lo hi : Option Operand} {A : Option Addr} {sz m c : Nat} {i j : Int} {xs : List Value} (F : Fr n a l) (ho : nth ops k = some ⟨some d, .slice T x lo hi none, ty, ps, af, g⟩) (hw : wn ops l g = some true) (hc : nth cl k = some .ind) (hlt : Nat.blt d n = true)
    (hT : slcB P T = some (e, sz)) (hx : ev l x = some (.slice A m c)) (hlo : evO l 0 lo = some i) (hhi : evO l m hi = some j) (hR : RdSl w.heap (.slice A m c) m sz xs) (h0 : 0 ≤ i) (h1 : i ≤ j) (h2 : j ≤ m)
    (h : ∀ a', Fr n a' ((d, .slice (cutA A c i.toNat sz) (j.toNat - i.toNat) (c - i.toNat)) :: l) → trunT P ops cl bad Q t L a' w) : trunT P ops cl bad Q (.one k t) L a w := by
  have hmc : m ≤ c := by
    obtain ⟨_, A', c', e, hc, _⟩ := hR
    injection e with _ _ e
    subst e
    exact hc
  refine s_ind F ho hw hc rfl hlt (fun w' => ?_) h
  obtain ⟨inf, h3, h4, h5⟩ := slcB_spec hT
  have hlo' : (match (lo.map a.eval) with | some v => Instr.sliceBound v j.toNat BoundsCode.sliceB | none => pure 0 : Sem Nat).run P w' = .ok i.toNat w' := by
    cases lo with
    | none => simp only [evO, Option.some.injEq] at hlo; subst hlo; rfl
    | some y =>
      simp only [evO] at hlo
      split at hlo <;> simp only [Option.some.injEq, reduceCtorEq] at hlo
      rename_i i' hy
      subst hlo
      exact run_sb (F.ev hy) h0 (by omega) w'
  have hhi' : (match (hi.map a.eval) with | some v => Instr.sliceBound v c BoundsCode.sliceAcap | none => pure m : Sem Nat).run P w' = .ok j.toNat w' := by
    cases hi with
    | none => simp only [evO, Option.some.injEq] at hhi; subst hhi; rfl
    | some y =>
      simp only [evO] at hhi
      split at hhi <;> simp only [Option.some.injEq, reduceCtorEq] at hhi
      rename_i i' hy
      subst hhi
      exact run_sb (F.ev hy) (by omega) (by omega) w'
  have hu : Instr.slice T (.slice A m c) (lo.map a.eval) (hi.map a.eval) none = Instr.slice T (.slice A m c) (lo.map a.eval) (hi.map a.eval) none := rfl
  cases lo <;> cases hi <;> simp only [Option.map_none, Option.map_some] at hlo' hhi' <;>
    simp [execOp, F.ev hx, Instr.sliceAt, Instr.slice, Instr.sliceBounds, run_underlying h3, hlo', hhi', sizeOf, typeInfo, h4, h5, cutA] <;> (try simp only [Sem.run_pure, Result.ok.injEq, and_true] at hlo') <;> (try simp only [Sem.run_pure, Result.ok.injEq, and_true] at hhi') <;> (try rw [← hlo']) <;> (try rw [← hhi']) <;> (try simp) <;> (try (rw [← hhi'] at hlo'; simp [hlo']))

/-- append of one element. -/
theorem s_apE {α : Type} {enc : α → List Value} {S : Nat → Prop} {w0 : World} {T E : TypeId} {sz by_ : Nat} {z v u : Value} {x y : Operand} {lst : List α} {r : List Res} (e : α) (F : Fr n a l) (M : Sep S w0 w (slR v lst.length E sz (lst.flatMap enc) :: r)) (ho : nth ops k = some ⟨some d, .call ⟨.builtin .append, #[x, y], #[T, T]⟩, ty, ps, af, g⟩) (hw : wn ops l g = some true) (hc : nth cl k = some .wr) (hlt : Nat.blt d n = true)
    (hT : SlT P T E sz by_ z) (hx : ev l x = some v) (hy : ev l y = some u) (hu : RdSl w.heap u 1 sz (enc e)) (h1 : (enc e).all oneC = true) (hb : (lst.length + 1) * by_ ≤ 140737488355328)
    (hp : ∀ A c w', Sep S w0 w' (slR (.slice A (lst ++ [e]).length c) (lst ++ [e]).length E sz ((lst ++ [e]).flatMap enc) :: r) → pend bad k L w')
    (h : ∀ A c w', Sep S w0 w' (slR (.slice A (lst ++ [e]).length c) (lst ++ [e]).length E sz ((lst ++ [e]).flatMap enc) :: r) → ∀ a', Fr n a' ((d, .slice A (lst ++ [e]).length c) :: l) → trunT P ops cl bad Q t L a' w') : trunT P ops cl bad Q (.one k t) L a w := by
  have e1 : (lst ++ [e]).flatMap enc = lst.flatMap enc ++ enc e := by simp
  have e2 : (lst ++ [e]).length = lst.length + 1 := by simp
  rw [e1, e2] at h hp
  exact s_apL F M ho hw hc hlt hT hx hy hu h1 hb hp h
/-- append of many. -/
theorem s_apM {α : Type} {enc : α → List Value} {S : Nat → Prop} {w0 : World} {T E : TypeId} {sz by_ : Nat} {z v u : Value} {x y : Operand} {lst : List α} {r : List Res} (es : List α) (F : Fr n a l) (M : Sep S w0 w (slR v lst.length E sz (lst.flatMap enc) :: r)) (ho : nth ops k = some ⟨some d, .call ⟨.builtin .append, #[x, y], #[T, T]⟩, ty, ps, af, g⟩) (hw : wn ops l g = some true) (hc : nth cl k = some .wr) (hlt : Nat.blt d n = true)
    (hT : SlT P T E sz by_ z) (hx : ev l x = some v) (hy : ev l y = some u) (hu : RdSl w.heap u es.length sz (es.flatMap enc)) (h1 : ∀ e, (enc e).all oneC = true) (hb : (lst.length + es.length) * by_ ≤ 140737488355328)
    (hp : ∀ A c w', Sep S w0 w' (slR (.slice A (lst ++ es).length c) (lst ++ es).length E sz ((lst ++ es).flatMap enc) :: r) → pend bad k L w')
    (h : ∀ A c w', Sep S w0 w' (slR (.slice A (lst ++ es).length c) (lst ++ es).length E sz ((lst ++ es).flatMap enc) :: r) → ∀ a', Fr n a' ((d, .slice A (lst ++ es).length c) :: l) → trunT P ops cl bad Q t L a' w') : trunT P ops cl bad Q (.one k t) L a w := by
  rw [List.flatMap_append, List.length_append] at h hp
  exact s_apL F M ho hw hc hlt hT hx hy hu (flat_one h1 es) hb hp h
end
end Go.Proofs.Ytboibdmflblphaa.Fw
