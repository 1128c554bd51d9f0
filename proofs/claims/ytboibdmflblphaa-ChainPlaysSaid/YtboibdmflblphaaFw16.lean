/-
  A run of simple steps at once (to shorten printed texts).
-/
import Derived.Test.YtboibdmflblphaaFw4
namespace Go.Proofs.Ytboibdmflblphaa.Fw
open Go
/-- The next m operations of a line. -/
def cutT : Nat → Ot → Option (List Nat × Ot)
  | 0, t => some ([], t)
  | m + 1, .one k t => match cutT m t with
    | some (ks, r) => some (k :: ks, r)
    | none => none
  | _ + 1, _ => none
def evB (l : List (Nat × Value)) (op : Op) : Option Value :=
  match evI l op with
  | some v => some v
  | none => match op with
    | .binOp b _ x y _ => match ev l x, ev l y with
      | some u, some v => binI b u v
      | _, _ => none
    | _ => none
/-- What one simple operation adds to the slots. -/
def runO (ops : List Oper) (cl : List Cls) (n : Nat) (l : List (Nat × Value)) (k : Nat) : Option (List (Nat × Value)) :=
  match nth ops k with
  | some o => match o.dst with
    | some d => match Nat.blt d n with
      | true => match wn ops l o.guard with
        | some false => some ((d, undef) :: l)
        | some true => match nth cl k with
          | some .ind => match evB l o.op with
            | some v => some ((d, v) :: l)
            | none => none
          | _ => none
        | none => none
      | false => none
    | none => none
  | none => none
def runI (ops : List Oper) (cl : List Cls) (n : Nat) : List Nat → List (Nat × Value) → Option (List (Nat × Value))
  | [], l => some l
  | k :: r, l => match runO ops cl n l k with
    | some l' => runI ops cl n r l'
    | none => none
section
variable {P : Program} {ops : List Oper} {cl : List Cls} {bad : List (Nat × Nat)} {Q : Act → World → Prop} {n k : Nat} {t : Ot} {L : Pend} {a : Act} {w : World} {l : List (Nat × Value)}
theorem s_B {d : Nat} {o : Oper} {v : Value} (F : Fr n a l) (ho : nth ops k = some o) (hw : wn ops l o.guard = some true) (hc : nth cl k = some .ind) (hd : o.dst = some d) (hlt : Nat.blt d n = true)
    (hv : evB l o.op = some v) (h : ∀ a', Fr n a' ((d, v) :: l) → trunT P ops cl bad Q t L a' w) : trunT P ops cl bad Q (.one k t) L a w := by
  unfold evB at hv
  split at hv
  · rename_i u hu
    simp only [Option.some.injEq] at hv
    subst hv
    exact s_I F ho hw hc hd hlt hu h
  · split at hv
    · rename_i b tx x y ty hop
      split at hv
      · rename_i u u' hu hu'
        obtain ⟨dst, op, ty2, ps, af, g⟩ := o
        simp only at hop hd hw
        subst hop; subst hd
        exact s_bin F ho hw hc hlt hu hu' hv h
      · cases hv
    · cases hv
theorem s_one {l' : List (Nat × Value)} (F : Fr n a l) (hr : runO ops cl n l k = some l') (h : ∀ a', Fr n a' l' → trunT P ops cl bad Q t L a' w) : trunT P ops cl bad Q (.one k t) L a w := by
  unfold runO at hr
  split at hr
  · rename_i o ho
    split at hr
    · rename_i d hd
      split at hr
      · rename_i hlt
        split at hr
        · rename_i hw
          simp only [Option.some.injEq] at hr
          subst hr
          exact s_no F ho hw hd hlt h
        · rename_i hw
          split at hr
          · rename_i hc
            split at hr
            · rename_i v hv
              simp only [Option.some.injEq] at hr
              subst hr
              exact s_B F ho hw hc hd hlt hv h
            · cases hr
          · cases hr
        · cases hr
      · cases hr
    · cases hr
  · cases hr
theorem s_rn {t0 : Ot} {ks : List Nat} {l' : List (Nat × Value)} (m : Nat) (F : Fr n a l) (hs : cutT m t0 = some (ks, t)) (hr : runI ops cl n ks l = some l') (h : ∀ a', Fr n a' l' → trunT P ops cl bad Q t L a' w) : trunT P ops cl bad Q t0 L a w := by
  induction m generalizing t0 ks l a with
  | zero =>
    simp only [cutT, Option.some.injEq, Prod.mk.injEq] at hs
    obtain ⟨rfl, rfl⟩ := hs
    simp only [runI, Option.some.injEq] at hr
    subst hr
    exact h a F
  | succ m ih =>
    cases t0 with
    | done => cases hs
    | two => cases hs
    | one k t1 =>
      simp only [cutT] at hs
      split at hs
      · rename_i ks1 r1 hs1
        simp only [Option.some.injEq, Prod.mk.injEq] at hs
        obtain ⟨rfl, rfl⟩ := hs
        simp only [runI] at hr
        split at hr
        · rename_i l1 h1
          exact s_one F h1 fun a' F' => ih F' hs1 hr
        · cases hr
      · cases hs
end
end Go.Proofs.Ytboibdmflblphaa.Fw
