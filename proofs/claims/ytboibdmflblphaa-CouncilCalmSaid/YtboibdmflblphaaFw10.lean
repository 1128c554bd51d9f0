/-
  Interfaces that hold a pointer: makeInterface, a method called through it.
-/
import Derived.Test.YtboibdmflblphaaFw9
namespace Go.Proofs.Ytboibdmflblphaa.Fw
open Go
section
variable {P : Program} {ops : List Oper} {cl : List Cls} {bad : List (Nat × Nat)} {Q : Act → World → Prop} {n k d : Nat} {t : Ot} {L : Pend} {a : Act} {w : World} {l : List (Nat × Value)}
variable {ty : TypeId} {ps : String} {af : Array Edge} {g : Option (Nat × Bool)}

theorem s_mi {T : TypeId} {x : Operand} {v : Value} (F : Fr n a l) (ho : nth ops k = some ⟨some d, .makeInterface T x, ty, ps, af, g⟩) (hw : wn ops l g = some true) (hc : nth cl k = some .ind) (hlt : Nat.blt d n = true)
    (hT : ptrB P T = true) (hx : ev l x = some v) (h : ∀ a', Fr n a' ((d, .iface T v) :: l) → trunT P ops cl bad Q t L a' w) : trunT P ops cl bad Q (.one k t) L a w := by
  refine s_ind F ho hw hc rfl hlt (fun w' => ?_) h
  unfold ptrB at hT
  split at hT
  · rename_i e he
    simp [execOp, F.ev hx, Instr.makeInterface, run_underlying he]
  · cases hT

/-- Which function a method of a type is. -/
def Meth (P : Program) (T : TypeId) (name : String) (recv : Value) (f : FuncId) : Prop := ∀ w, (method (P.types.size + Made.depth) T recv name).run P w = .ok (f, recv) w

theorem s_invL {α : Type} {S : Nat → Prop} {w0 : World} {x : Operand} {name : String} {T : TypeId} {recv : Value} {args : Array Operand} {tys : Array TypeId} {f : FuncId} {vs : List Value} {m r : List Res} {post : Value → α → Prop} {mm : α → List Res}
    (F : Fr n a l) (M : Sep S w0 w (m ++ r)) (ho : nth ops k = some ⟨some d, .call ⟨.invoke x name, args, tys⟩, ty, ps, af, g⟩) (hw : wn ops l g = some true) (hc : nth cl k = some .wr) (hlt : Nat.blt d n = true)
    (hx : ev l x = some (.iface T recv)) (hm : Meth P T name recv f) (ha : evs l args.toList = some vs) (hB : callB P f = true) (hcall : ∀ n, Cl P f (recv :: vs).toArray (w.drewN n) (RetS m (w.drewN n) post mm))
    (hp : ∀ v x w', post v x → Sep S w0 w' (mm x ++ r) → pend bad k L w')
    (h : ∀ v x w', post v x → Sep S w0 w' (mm x ++ r) → ∀ a', Fr n a' ((d, v) :: l) → trunT P ops cl bad Q t L a' w') : trunT P ops cl bad Q (.one k t) L a w := by
  refine s_wrL (R := fun v w' => ∃ x, post v x ∧ Sep S w0 w' (mm x ++ r)) F ho hw hc rfl hlt (fun n => ?_) (fun v w' ⟨x, h1, h2⟩ => hp v x w' h1 h2) (fun v w' ⟨x, h1, h2⟩ => h v x w' h1 h2)
  have hargs : args.map a.eval = vs.toArray := by
    have := F.evs ha
    apply Array.toList_inj.1
    simpa using this
  have hpr : ∀ w : World, (Sem.program Sem.pure).run P w = .ok P w := fun _ => rfl
  have hmm := hm (w.drewN n)
  have hcc := hcall n
  have e : (execOp a.eval ⟨some d, .call ⟨.invoke x name, args, tys⟩, ty, ps, af, g⟩).run P (w.drewN n) = .ok (.enter f (recv :: vs).toArray) (w.drewN n) := by
    simp [execOp, resolve, invoke, callMethod, F.ev hx, hargs, program, hpr, hmm, run_callFunc hB]
  rw [e]
  exact (hcc.out).mono fun e' w'' ⟨v, x, e1, h1, h2⟩ => ⟨v, e1, x, h1, Sep.frame (M.drewN n) h2⟩
theorem s_invQ {S : Nat → Prop} {w0 : World} {x : Operand} {name : String} {T : TypeId} {recv : Value} {args : Array Operand} {tys : Array TypeId} {f : FuncId} {vs : List Value} {r : List Res} {post : Value → Prop}
    (F : Fr n a l) (M : Sep S w0 w r) (ho : nth ops k = some ⟨some d, .call ⟨.invoke x name, args, tys⟩, ty, ps, af, g⟩) (hw : wn ops l g = some true) (hc : nth cl k = some .wr) (hlt : Nat.blt d n = true)
    (hx : ev l x = some (.iface T recv)) (hm : Meth P T name recv f) (ha : evs l args.toList = some vs) (hB : callB P f = true) (hcall : ∀ n, Cl P f (recv :: vs).toArray (w.drewN n) (RetQ (w.drewN n) post))
    (hp : ∀ v w', post v → Sep S w0 w' r → pend bad k L w')
    (h : ∀ v w', post v → Sep S w0 w' r → ∀ a', Fr n a' ((d, v) :: l) → trunT P ops cl bad Q t L a' w') : trunT P ops cl bad Q (.one k t) L a w := by
  refine s_invL (m := []) (post := fun v (_ : Unit) => post v) (mm := fun _ => []) F M ho hw hc hlt hx hm ha hB (fun n => ?_) (fun v _ w' h1 h2 => hp v w' h1 h2) (fun v _ w' h1 h2 => h v w' h1 h2)
  refine ⟨(hcall n).out.mono fun e w' ⟨v, e1, h1, h2⟩ => ⟨v, (), e1, h1, ?_⟩⟩
  exact ⟨⟨by simp, by simp [foots], by simp [foots]⟩, by simp [foots], ⟨h2.size, fun b hb _ => h2.keep b hb id, h2.fz, h2.os, h2.tape, h2.out⟩⟩
end
end Go.Proofs.Ytboibdmflblphaa.Fw
