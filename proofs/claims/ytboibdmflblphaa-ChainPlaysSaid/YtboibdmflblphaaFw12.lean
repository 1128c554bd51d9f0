/-
  A store into a part of an element of an owned slice.
-/
import Derived.Test.YtboibdmflblphaaFw9
namespace Go.Proofs.Ytboibdmflblphaa.Fw
open Go
theorem setCells_mid (X m Y vs : List Value) (h : m.length = vs.length) : setCells (X ++ m ++ Y).toArray X.length vs = (X ++ vs ++ Y).toArray := by
  induction vs generalizing X m with
  | nil =>
    have : m = [] := List.length_eq_zero_iff.1 h
    subst this; rfl
  | cons v vs ih =>
    cases m with
    | nil => simp at h
    | cons y m =>
      simp only [setCells]
      have e : (X ++ y :: m ++ Y).toArray.setIfInBounds X.length v = ((X ++ [v]) ++ m ++ Y).toArray := by
        simp [List.setIfInBounds_toArray, List.set_append]
      rw [e, show X.length + 1 = (X ++ [v]).length by simp, ih (X ++ [v]) m (by simpa using h)]
      simp
section
variable {P : Program} {ops : List Oper} {cl : List Cls} {bad : List (Nat × Nat)} {Q : Act → World → Prop} {n k : Nat} {t : Ot} {L : Pend} {a : Act} {w : World} {l : List (Nat × Value)}
variable {ty : TypeId} {ps : String} {af : Array Edge} {g : Option (Nat × Bool)}
end
end Go.Proofs.Ytboibdmflblphaa.Fw
