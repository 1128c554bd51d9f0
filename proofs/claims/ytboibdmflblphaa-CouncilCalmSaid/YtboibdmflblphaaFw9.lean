/-
  More operations: maps and slices against nil, max and min; maps whose size nobody asks for.
-/
import Derived.Test.YtboibdmflblphaaFw8
import Derived.WalkSpells
namespace Go.Proofs.Ytboibdmflblphaa.Fw
open Go

section
variable {P : Program} {ops : List Oper} {cl : List Cls} {bad : List (Nat × Nat)} {Q : Act → World → Prop} {n k d : Nat} {t : Ot} {L : Pend} {a : Act} {w : World} {l : List (Nat × Value)}
variable {ty : TypeId} {ps : String} {af : Array Edge} {g : Option (Nat × Bool)}

theorem s_mn {tx ty' kt et : TypeId} {x : Operand} {p : Option Nat} (F : Fr n a l) (ho : nth ops k = some ⟨some d, .binOp .eql tx x (.const (.map none)) ty', ty, ps, af, g⟩) (hw : wn ops l g = some true) (hc : nth cl k = some .ind) (hlt : Nat.blt d n = true)
    (hT : mapB P tx = some (kt, et)) (hx : ev l x = some (.map p)) (h : ∀ a', Fr n a' ((d, .bool p.isNone) :: l) → trunT P ops cl bad Q t L a' w) : trunT P ops cl bad Q (.one k t) L a w := by
  refine s_ind F ho hw hc rfl hlt (fun w' => ?_) h
  have hk : a.eval (.const (.map none)) = .map none := rfl
  simp [execOp, F.ev hx, hk, eqGuard, run_eql_map_nil w' tx kt et p (mapB_spec hT)]

theorem s_sn {tx ty' e : TypeId} {x : Operand} {A : Option Addr} {m c sz : Nat} (F : Fr n a l) (ho : nth ops k = some ⟨some d, .binOp .eql tx x (.const (.slice none 0 0)) ty', ty, ps, af, g⟩) (hw : wn ops l g = some true) (hc : nth cl k = some .ind) (hlt : Nat.blt d n = true)
    (hT : slcB P tx = some (e, sz)) (hx : ev l x = some (.slice A m c)) (h : ∀ a', Fr n a' ((d, .bool A.isNone) :: l) → trunT P ops cl bad Q t L a' w) : trunT P ops cl bad Q (.one k t) L a w := by
  refine s_ind F ho hw hc rfl hlt (fun w' => ?_) h
  obtain ⟨i, h1, _, _⟩ := slcB_spec hT
  have hk : a.eval (.const (.slice none 0 0)) = .slice none 0 0 := rfl
  simp [execOp, F.ev hx, hk, eqGuard, Lib.run_eql_slice_nil w' tx e A m c 0 0 h1]

theorem s_max {x y : Operand} {tys : Array TypeId} {u v : Int} (F : Fr n a l) (ho : nth ops k = some ⟨some d, .call ⟨.builtin .max, #[x, y], tys⟩, ty, ps, af, g⟩) (hw : wn ops l g = some true) (hc : nth cl k = some .ind) (hlt : Nat.blt d n = true)
    (hx : ev l x = some (.int .i64 u)) (hy : ev l y = some (.int .i64 v)) (h : ∀ a', Fr n a' ((d, .int .i64 (max u v)) :: l) → trunT P ops cl bad Q t L a' w) : trunT P ops cl bad Q (.one k t) L a w := by
  refine s_ind F ho hw hc rfl hlt (fun w' => ?_) h
  have e : (if v > u then v else u) = max u v := by split <;> omega
  simp [execOp, resolve, invoke, builtin, F.ev hx, F.ev hy, Builtin.max_, Builtin.max2, e]
theorem s_min {x y : Operand} {tys : Array TypeId} {u v : Int} (F : Fr n a l) (ho : nth ops k = some ⟨some d, .call ⟨.builtin .min, #[x, y], tys⟩, ty, ps, af, g⟩) (hw : wn ops l g = some true) (hc : nth cl k = some .ind) (hlt : Nat.blt d n = true)
    (hx : ev l x = some (.int .i64 u)) (hy : ev l y = some (.int .i64 v)) (h : ∀ a', Fr n a' ((d, .int .i64 (min u v)) :: l) → trunT P ops cl bad Q t L a' w) : trunT P ops cl bad Q (.one k t) L a w := by
  refine s_ind F ho hw hc rfl hlt (fun w' => ?_) h
  have e : (if v < u then v else u) = min u v := by split <;> omega
  simp [execOp, resolve, invoke, builtin, F.ev hx, F.ev hy, Builtin.min_, Builtin.min2, e]
end

/-- A map whose size nobody asks for. -/
def mapX {κ : Type} [DecidableEq κ] (enc : κ → Value) (b : Nat) (D : κ → Option Value) : Res :=
  ⟨6, [b], fun h => ∃ N, MapHolds enc b D N h, fun h h' hb ⟨N, l, clk, h1, h2⟩ => ⟨N, l, clk, (hb b (by simp)).trans h1, h2⟩⟩
section
variable {S : Nat → Prop} {w0 w : World} {r : List Res} {κ : Type} [DecidableEq κ] {enc : κ → Value} {b : Nat} {D D' : κ → Option Value}
theorem Sep.mapOpen (M : Sep S w0 w (mapX enc b D :: r)) : ∃ N, Sep S w0 w (mapR enc b D N :: r) := by
  obtain ⟨N, h⟩ := M.h0
  exact ⟨N, M.turn (q := mapR enc b D N) rfl fun _ => h⟩
theorem Sep.mapShut {N : Nat} (M : Sep S w0 w (mapR enc b D N :: r)) (h : ∀ k, D k = D' k) : Sep S w0 w (mapX enc b D' :: r) := by
  have : D = D' := funext h
  subst this
  exact M.turn (q := mapX enc b D) rfl fun h => ⟨N, h⟩
end

/-! ### many resources: other functions, nothing -/
section
variable {S : Nat → Prop} {w0 w : World} {α : Type} {f g : α → Res} {r : List Res}
theorem Sep.bigCongr {xs : List α} (M : Sep S w0 w (bigR f xs :: r)) (h : ∀ x ∈ xs, f x = g x) : Sep S w0 w (bigR g xs :: r) := by
  refine Sep.regroup (m := [bigR f xs]) (m' := [bigR g xs]) M ?_ fun hk x hx => ?_
  · have e : ∀ ys : List α, (∀ x ∈ ys, f x = g x) → (ys.flatMap fun x => (f x).foot) = ys.flatMap fun x => (g x).foot := by
      intro ys hy
      induction ys with
      | nil => rfl
      | cons y ys ih => simp only [List.flatMap_cons]; rw [hy y (by simp), ih fun x hx => hy x (by simp [hx])]
    simp only [foots, List.flatMap_cons, List.flatMap_nil, List.append_nil, bigR]
    rw [e xs h]
  · simp only [List.mem_cons, List.not_mem_nil, or_false] at hx
    subst hx
    intro y hy
    have := hk (bigR f xs) List.mem_cons_self y hy
    rw [h y hy] at this
    exact this
/-- A resource without a foot may come, if it holds. -/
theorem Sep.pureIn {q : Res} (M : Sep S w0 w r) (hf : q.foot = []) (h : q.ok w.heap) : Sep S w0 w (q :: r) := by
  have hff : foots (q :: r) = foots r := by simp [foots, hf]
  refine ⟨⟨fun x hx => ?_, hff ▸ M.own.lt, hff ▸ M.own.nd⟩, hff ▸ M.mine, M.chg⟩
  rcases List.mem_cons.1 hx with rfl | hx
  · exact h
  · exact M.own.ok x hx
theorem Sep.own1 {p : Res} (M : Sep S w0 w (p :: r)) : Own w.heap [p] := M.own.one
theorem Sep.two {p q p' : Res} (M : Sep S w0 w (p :: q :: r)) (hf : p'.foot = p.foot ++ q.foot) (h : p.ok w.heap → q.ok w.heap → p'.ok w.heap) : Sep S w0 w (p' :: r) := by
  refine Sep.regroup (m := [p, q]) (m' := [p']) M ?_ fun hk x hx => ?_
  · simp [foots, hf]
  · simp only [List.mem_cons, List.not_mem_nil, or_false] at hx
    subst hx
    exact h (hk p (by simp)) (hk q (by simp))
theorem Sep.apart {p q p' : Res} (M : Sep S w0 w (p' :: r)) (hf : p'.foot = p.foot ++ q.foot) (h : p'.ok w.heap → p.ok w.heap ∧ q.ok w.heap) : Sep S w0 w (p :: q :: r) := by
  refine Sep.regroup (m := [p']) (m' := [p, q]) M ?_ fun hk x hx => ?_
  · simp [foots, hf]
  · have := h (hk p' (by simp))
    simp only [List.mem_cons, List.not_mem_nil, or_false] at hx
    rcases hx with rfl | rfl
    · exact this.1
    · exact this.2
end
theorem eraseIdx_range {n i : Nat} (h : i < n) : ∀ x ∈ (List.range n).eraseIdx i, x ≠ i := by
  intro x hx e
  subst e
  have := (perm_get (xs := List.range n) (i := x) (x := x) (by simp [h])).nodup_iff.1 List.nodup_range
  exact (List.nodup_cons.1 this).1 hx
theorem Cl.monoS {α : Type} {P : Program} {f : FuncId} {args : Array Value} {w : World} {m : List Res} {p q : Value → α → Prop} {mm : α → List Res} (h : Cl P f args w (RetS m w p mm)) (hpq : ∀ v x, p v x → q v x) : Cl P f args w (RetS m w q mm) :=
  ⟨h.out.mono fun _ _ ⟨v, x, e, hp, hc⟩ => ⟨v, x, e, hpq v x hp, hc⟩⟩
section
variable {P : Program} {ops : List Oper} {cl : List Cls} {bad : List (Nat × Nat)} {Q : Act → World → Prop} {n k : Nat} {t : Ot} {L : Pend} {a : Act} {w : World} {l : List (Nat × Value)}
variable {ty : TypeId} {ps : String} {af : Array Edge} {g : Option (Nat × Bool)} {κ : Type} [DecidableEq κ] {kt : TypeId} {enc : κ → Value}
/-- delete whose empty result nobody names -/
theorem s_del0 (K : KE P kt enc) {S : Nat → Prop} {w0 : World} {T T' et : TypeId} {x y : Operand} {b N : Nat} {D : κ → Option Value} {r : List Res} (key : κ) (F : Fr n a l) (M : Sep S w0 w (mapR enc b D N :: r)) (ho : nth ops k = some ⟨none, .call ⟨.builtin .delete, #[x, y], #[T, T']⟩, ty, ps, af, g⟩) (hw : wn ops l g = some true) (hc : nth cl k = some .wr)
    (hT : mapB P T = some (kt, et)) (hx : ev l x = some (.map (some b))) (hy : ev l y = some (enc key))
    (hp : ∀ w', Sep S w0 w' (mapR enc b (fun k' => if k' = key then none else D k') (if (D key).isSome then N - 1 else N) :: r) → pend bad k L w')
    (h : ∀ w', Sep S w0 w' (mapR enc b (fun k' => if k' = key then none else D k') (if (D key).isSome then N - 1 else N) :: r) → trunT P ops cl bad Q t L a w') : trunT P ops cl bad Q (.one k t) L a w := by
  refine s_wrL0 (R := fun _ w' => Sep S w0 w' (mapR enc b (fun k' => if k' = key then none else D k') (if (D key).isSome then N - 1 else N) :: r)) F ho hw hc rfl (fun n => ?_) (fun _ w' h2 => hp w' h2) (fun v w' h2 => h w' h2)
  obtain ⟨w', hr, M'⟩ := run_delete (ks := T') (ty := ty) K hT (M.drewN n) key
  simp only [execOp, resolve, invoke, builtin, List.map_toArray, List.map_cons, List.map_nil, F.ev hx, F.ev hy, Sem.run_bind, Sem.run_pure, hr, Result.andThen_ok, Goes]
  exact M'
end
end Go.Proofs.Ytboibdmflblphaa.Fw
