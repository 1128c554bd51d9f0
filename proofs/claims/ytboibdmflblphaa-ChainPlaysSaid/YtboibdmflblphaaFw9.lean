/-
  More operations: maps and slices against nil, max and min; maps whose size nobody asks for.
-/
import Derived.Test.YtboibdmflblphaaFw8
import Derived.WalkSpells
namespace Go.Proofs.Ytboibdmflblphaa.Fw
open Go

section
variable {P : Program} {ops : List Oper} {cl : List Cls} {bad : List (Nat × Nat)} {Q : Act → World → Prop} {n k d : Nat} {t : Ot} {L : Pend} {a : Act} {w : World} {l : List (Nat × Value)}
variable {ty : TypeId} {ps : String} {af : Array Edge} {g : Option (Nat × Bool)}

theorem s_sn {tx ty' e : TypeId} {x : Operand} {A : Option Addr} {m c sz : Nat} (F : Fr n a l) (ho : nth ops k = some ⟨some d, .binOp .eql tx x (.const (.slice none 0 0)) ty', ty, ps, af, g⟩) (hw : wn ops l g = some true) (hc : nth cl k = some .ind) (hlt : Nat.blt d n = true)
    (hT : slcB P tx = some (e, sz)) (hx : ev l x = some (.slice A m c)) (h : ∀ a', Fr n a' ((d, .bool A.isNone) :: l) → trunT P ops cl bad Q t L a' w) : trunT P ops cl bad Q (.one k t) L a w := by
  refine s_ind F ho hw hc rfl hlt (fun w' => ?_) h
  obtain ⟨i, h1, _, _⟩ := slcB_spec hT
  have hk : a.eval (.const (.slice none 0 0)) = .slice none 0 0 := rfl
  simp [execOp, F.ev hx, hk, eqGuard, Lib.run_eql_slice_nil w' tx e A m c 0 0 h1]

theorem s_max {x y : Operand} {tys : Array TypeId} {u v : Int} (F : Fr n a l) (ho : nth ops k = some ⟨some d, .call ⟨.builtin .max, #[x, y], tys⟩, ty, ps, af, g⟩) (hw : wn ops l g = some true) (hc : nth cl k = some .ind) (hlt : Nat.blt d n = true)
    (hx : ev l x = some (.int .i64 u)) (hy : ev l y = some (.int .i64 v)) (h : ∀ a', Fr n a' ((d, .int .i64 (max u v)) :: l) → trunT P ops cl bad Q t L a' w) : trunT P ops cl bad Q (.one k t) L a w := by
  refine s_ind F ho hw hc rfl hlt (fun w' => ?_) h
  have e : (if v > u then v else u) = max u v := by split <;> omega
  simp [execOp, resolve, invoke, builtin, F.ev hx, F.ev hy, Builtin.max_, Builtin.max2, e]
end

section
variable {S : Nat → Prop} {w0 w : World} {r : List Res} {κ : Type} [DecidableEq κ] {enc : κ → Value} {b : Nat} {D D' : κ → Option Value}
end

/-! ### many resources: other functions, nothing -/
section
variable {S : Nat → Prop} {w0 w : World} {α : Type} {f g : α → Res} {r : List Res}
theorem Sep.two {p q p' : Res} (M : Sep S w0 w (p :: q :: r)) (hf : p'.foot = p.foot ++ q.foot) (h : p.ok w.heap → q.ok w.heap → p'.ok w.heap) : Sep S w0 w (p' :: r) := by
  refine Sep.regroup (m := [p, q]) (m' := [p']) M ?_ fun hk x hx => ?_
  · simp [foots, hf]
  · simp only [List.mem_cons, List.not_mem_nil, or_false] at hx
    subst hx
    exact h (hk p (by simp)) (hk q (by simp))
end
section
variable {P : Program} {ops : List Oper} {cl : List Cls} {bad : List (Nat × Nat)} {Q : Act → World → Prop} {n k : Nat} {t : Ot} {L : Pend} {a : Act} {w : World} {l : List (Nat × Value)}
variable {ty : TypeId} {ps : String} {af : Array Edge} {g : Option (Nat × Bool)} {κ : Type} [DecidableEq κ] {kt : TypeId} {enc : κ → Value}
end
end Go.Proofs.Ytboibdmflblphaa.Fw
