/-
  A deferred closure.
-/
import Derived.Test.YtboibdmflblphaaFw14
import Derived.Defers
namespace Go.Proofs.Ytboibdmflblphaa.Fw
open Go
section
variable {P : Program} {ops : List Oper} {cl : List Cls} {bad : List (Nat × Nat)} {Q : Act → World → Prop} {n k d : Nat} {t : Ot} {L : Pend} {a : Act} {w : World} {l : List (Nat × Value)}

/-- The same frame, calls deferred. -/
def wD (D : List Deferred) (a : Act) : Act := { a with defers := D }
theorem wD_put {D : List Deferred} {d : Option Tmp} {v : Value} : (wD D a).put d v = wD D (a.put d v) := by cases d <;> rfl
theorem wD_eval {D : List Deferred} : (wD D a).eval = a.eval := by
  funext x
  cases x <;> rfl
theorem stepT_wD {D : List Deferred} {k : Nat} {L : Pend} {K K' : Pend → Act → World → Prop} (hK : ∀ L a w, K L a w → K' L (wD D a) w) (h : stepT P ops cl bad k L K a w) : stepT P ops cl bad k L K' (wD D a) w := by
  unfold stepT at *
  cases ho : nth ops k with
  | none => rw [ho] at h; exact h.elim
  | some o =>
    simp only [ho] at h ⊢
    have e1 : (wD D a).tmps = a.tmps := rfl
    rw [e1]
    by_cases hw : Region.wanted o (yielded ops.toArray a.tmps) = true
    · rw [if_pos hw] at h ⊢
      cases hc : nth cl k with
      | none =>
        simp only [hc] at h
        intro n
        have := h n
        rw [wD_eval]
        exact this.mono fun v w' ⟨h1, h2⟩ => ⟨h1, by rw [wD_put]; exact hK _ _ _ h2⟩
      | some c =>
        cases c with
        | ind =>
          simp only [hc] at h
          obtain ⟨v, h1, h2⟩ := h
          exact ⟨v, by rw [wD_eval]; exact h1, by rw [wD_put]; exact hK _ _ _ h2⟩
        | rd =>
          simp only [hc] at h
          obtain ⟨v, C, h1, h2, h3, h4⟩ := h
          exact ⟨v, C, h1, h2, by rw [wD_eval]; exact h3, by rw [wD_put]; exact hK _ _ _ h4⟩
        | wr =>
          simp only [hc] at h
          intro n
          have := h n
          rw [wD_eval]
          exact this.mono fun v w' ⟨h1, h2⟩ => ⟨h1, by rw [wD_put]; exact hK _ _ _ h2⟩
    · rw [if_neg hw] at h ⊢
      rw [wD_put]
      exact hK _ _ _ h
theorem trunT_wD {D : List Deferred} : ∀ (t : Ot) (L : Pend) (a : Act) (w : World), trunT P ops cl bad (fun a w => Q (wD D a) w) t L a w → trunT P ops cl bad Q t L (wD D a) w
  | .done, _, _, _, h => h
  | .one _ t, _, _, _, h => stepT_wD (fun L a w h => trunT_wD t L a w h) h
  | .two _ _ tx ty, _, _, _, h => ⟨stepT_wD (fun L a w h => trunT_wD tx L a w h) h.1, stepT_wD (fun L a w h => trunT_wD ty L a w h) h.2⟩

/-- A region behind a defer. -/
theorem wp_region_tD {D : List Deferred} {id : Nat} {Q : Exit → Act → World → Prop} (cl : List Cls) (bad : List (Nat × Nat)) (t : Ot) (hm : P.follows .mixedOrders = true)
    (hok : (Region.noSelect ops.toArray && okT ops cl bad (masks [] ops) ops.length t []) = true)
    (h : trunT P ops cl bad (fun a w => Q .normal (wD D a) w) t [] a w) : (Code.region id ops.toArray true).wp P Q (wD D a) w :=
  wp_region_t cl bad t hm hok (trunT_wD (Q := fun a w => Q .normal a w) t [] a w h)

variable {ty ty2 : TypeId} {ps ps2 : String} {af af2 : Array Edge} {tys : Array TypeId}
/-- A closure of two variables is made and deferred. -/
theorem wp_dfr2 {id : Nat} {f : FuncId} {x y : Operand} {v0 v1 : Value} {Q : Exit → Act → World → Prop} (F : Fr n a l) (hlt : Nat.blt d n = true) (hx : ev l x = some v0) (hy : ev l y = some v1)
    (h : ∀ a', Fr n a' ((d, .func (.func f) #[] #[v0, v1]) :: l) → Q .normal (wD [⟨.fn (.func f) #[v0, v1], #[]⟩] a') w) :
    (Code.region id #[⟨some d, .makeFunc (.func f) #[] #[x, y], ty, ps, af, none⟩, ⟨none, .defer ⟨.value (.tmp d), #[], tys⟩, ty2, ps2, af2, none⟩] false).wp P Q a w := by
  have F1 := F.put hlt (.func (.func f) #[] #[v0, v1])
  have h := h _ F1
  refine wp_region ?_
  show wpOps P _ Q [0, 1] a w
  have e0 : a.eval x = v0 := F.ev hx
  have e1 : a.eval y = v1 := F.ev hy
  have e2 : (a.put (some d) (.func (.func f) #[] #[v0, v1])).eval (.tmp d) = .func (.func f) #[] #[v0, v1] := F1.ev (x := .tmp d) (by simp [Fw.ev, lk])
  have e3 : (a.put (some d) (.func (.func f) #[] #[v0, v1])).defers = [] := F1.df
  rw [wpOps_cons]
  unfold wpOp
  simp only [List.getElem?_toArray, List.getElem?_cons_zero, Region.wanted, if_true]
  refine .inl ?_
  unfold Oper.wp
  simp only [execOp, Instr.makeFunc, Sem.run_bind, Sem.run_pure, Result.andThen_ok, Oper.upon_value, List.map_toArray, List.map_cons, List.map_nil, e0, e1]
  rw [wpOps_cons]
  unfold wpOp
  simp only [List.getElem?_toArray, List.getElem?_cons_zero, List.getElem?_cons_succ, Region.wanted, if_true]
  refine .inl ?_
  unfold Oper.wp
  simp only [execOp, resolve, Deferred.ofValue, Sem.run_bind, Sem.run_pure, Result.andThen_ok, Oper.upon_defer, List.map_toArray, List.map_cons, List.map_nil, e2, e3]
  exact h
/-- A deferred call's contract: the mode of the frame below stays. -/
structure ClD (P : Program) (f : FuncId) (args : Array Value) (w : World) (R : Ending → World → Prop) : Prop where
  out : ∀ u, CallsD P f args u w fun e u' w' => u' = u ∧ R e w'
theorem enterD {f : FuncId} {fn : Func} {c : Code} {vs : List Value} {R : Ending → World → Prop} (hf : P.funcs[f]? = some fn) (hb : fn.body = some c) (hn : fn.ntmps = n) (hvs : Nat.ble vs.length n = true)
    (h : ∀ a, Fr n a (enum 0 vs) → c.wp P (bodyPost P fn R) a w) : ClD P f vs.toArray w R := by
  have hle : vs.length ≤ n := Nat.le_of_ble_eq_true hvs
  refine .mk fun u => callsD_of_wp hf hb (h _ ⟨by simp [hn]; omega, rfl, fun i v hv => ?_⟩)
  obtain ⟨_, h2⟩ := lk_enum vs 0 i v hv
  simp only [Nat.sub_zero] at h2
  have hlt : i < vs.length := (List.getElem?_eq_some_iff.1 h2).1
  simp only
  rw [Array.getElem?_append_left (by simpa using hlt)]
  simpa using h2
/-- A function that defers is entered. -/
theorem enterX {f : FuncId} {fn : Func} {c : Code} {vs : List Value} {R : Ending → World → Prop} (hf : P.funcs[f]? = some fn) (hb : fn.body = some c) (hn : fn.ntmps = n) (hvs : Nat.ble vs.length n = true)
    (h : ∀ a, Fr n a (enum 0 vs) → c.wp P (bodyPostD P fn R) a w) : Cl P f vs.toArray w R := by
  have hle : vs.length ≤ n := Nat.le_of_ble_eq_true hvs
  refine .mk <| calls_of_wp_defers hf hb (h _ ⟨by simp [hn]; omega, rfl, fun i v hv => ?_⟩)
  obtain ⟨_, h2⟩ := lk_enum vs 0 i v hv
  simp only [Nat.sub_zero] at h2
  have hlt : i < vs.length := (List.getElem?_eq_some_iff.1 h2).1
  simp only
  rw [Array.getElem?_append_left (by simpa using hlt)]
  simpa using h2
variable {fn : Func} {R : Ending → World → Prop}
/-- Left where nothing is deferred. -/
theorem bodyD (h : bodyPost P fn R .ret a w) : bodyPostD P fn R .ret a w := by
  obtain ⟨h1, v, h2, h3⟩ := h
  show Leaves P fn a.tmps R a.defers .returning w
  rw [h1]
  exact ⟨v, h2, h3⟩
/-- Left where a closure is deferred. -/
theorem retD {f : FuncId} {cap : Array Value} {i : Nat} {T : TypeId} {p : Addr} (F : Fr n a l) (hr : fn.results = #[.cell i T]) (hp : lk l i = some (.pointer (some p))) (hs : scalB P T = true) (hB : callB P f = true)
    (h : ClD P f cap w fun e w' => ∃ u v, e = .returned u ∧ w'.cell? p = some v ∧ R (.returned v) w') : bodyPostD P fn R .ret (wD [⟨.fn (.func f) cap, #[]⟩] a) w := by
  refine leaves_cons (f := f) (args := cap) (by intro h; cases h) ?_ ((h.out .returning).mono ?_)
  · simp only [invoke]
    rw [run_callFunc hB]
    simp
  · rintro e u' w' ⟨rfl, u, v, rfl, hv, hR⟩
    have hld : (results fn a.tmps).run P w' = .ok v w' := by
      unfold results
      rw [hr]
      have h1 : a.tmps.getD i undef = .pointer (some p) := by simp [F.at_ i _ hp]
      have h2 : (loadVar T p).run P w' = .ok v w' := scal_load hs hv
      simp_all [-Array.getD_eq_getD_getElem?, asAddr]
    exact ⟨v, hld, hR⟩
end
end Go.Proofs.Ytboibdmflblphaa.Fw
