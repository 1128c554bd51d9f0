/-
  Operations whose results are given as facts: sums, conversions, complex numbers' parts.
-/
import Derived.Test.YtboibdmflblphaaFw9
namespace Go.Proofs.Ytboibdmflblphaa.Fw
open Go
section
variable {P : Program} {ops : List Oper} {cl : List Cls} {bad : List (Nat × Nat)} {Q : Act → World → Prop} {n k d : Nat} {t : Ot} {L : Pend} {a : Act} {w : World} {l : List (Nat × Value)}
variable {ty : TypeId} {ps : String} {af : Array Edge} {g : Option (Nat × Bool)}
theorem s_addR {tx ty' : TypeId} {x y : Operand} {u v r : Value} (F : Fr n a l) (ho : nth ops k = some ⟨some d, .binOp .add tx x y ty', ty, ps, af, g⟩) (hw : wn ops l g = some true) (hc : nth cl k = some .ind) (hlt : Nat.blt d n = true)
    (hx : ev l x = some u) (hy : ev l y = some v) (hr : ∀ w : World, (Go.binOp .add tx u v).run P w = .ok r w) (h : ∀ a', Fr n a' ((d, r) :: l) → trunT P ops cl bad Q t L a' w) : trunT P ops cl bad Q (.one k t) L a w :=
  s_ind F ho hw hc rfl hlt (fun w' => by simp [execOp, F.ev hx, F.ev hy, eqGuard, hr]) h
theorem s_cvR {ts td : TypeId} {x : Operand} {u r : Value} (F : Fr n a l) (ho : nth ops k = some ⟨some d, .convert ts td x, ty, ps, af, g⟩) (hw : wn ops l g = some true) (hc : nth cl k = some .ind) (hlt : Nat.blt d n = true)
    (hx : ev l x = some u) (hr : ∀ w : World, (Go.convert ts td u).run P w = .ok r w) (h : ∀ a', Fr n a' ((d, r) :: l) → trunT P ops cl bad Q t L a' w) : trunT P ops cl bad Q (.one k t) L a w :=
  s_ind F ho hw hc rfl hlt (fun w' => by simp [execOp, F.ev hx, hr]) h
theorem s_real {x : Operand} {tys : Array TypeId} {K : FloatKind} {re im : Nat} (F : Fr n a l) (ho : nth ops k = some ⟨some d, .call ⟨.builtin .real, #[x], tys⟩, ty, ps, af, g⟩) (hw : wn ops l g = some true) (hc : nth cl k = some .ind) (hlt : Nat.blt d n = true)
    (hx : ev l x = some (.complex K re im)) (h : ∀ a', Fr n a' ((d, .float K re) :: l) → trunT P ops cl bad Q t L a' w) : trunT P ops cl bad Q (.one k t) L a w :=
  s_ind F ho hw hc rfl hlt (fun w' => by
    have e : ∀ (tys : Array TypeId) (ty : TypeId), Builtin.real_ tys ty #[.complex K re im] = pure (.float K re) := fun _ _ => rfl
    simp [execOp, resolve, invoke, builtin, F.ev hx, e]) h
end
end Go.Proofs.Ytboibdmflblphaa.Fw
