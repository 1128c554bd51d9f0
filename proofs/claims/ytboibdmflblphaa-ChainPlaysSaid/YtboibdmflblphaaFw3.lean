/-
  One lemma an operation.
-/
import Derived.Test.YtboibdmflblphaaFw2
import Derived.WalkKit
namespace Go.Proofs.Ytboibdmflblphaa.Fw
open Go

/-! ### what a program's tables say, as Bools for the kernel -/
def scalB (P : Program) (t : TypeId) : Bool :=
  match P.underlying t, P.info? t with
  | some (.struct _), _ | some (.array ..), _ => false
  | some _, some i => i.size == 1
  | _, _ => false
def aggB (P : Program) (t : TypeId) : Option Nat :=
  match P.underlying t, P.info? t with
  | some (.struct _), some i | some (.array ..), some i => some i.size
  | _, _ => none
def sizeB (P : Program) (t : TypeId) : Option Nat := (P.info? t).map (·.size)
def callB (P : Program) (f : FuncId) : Bool :=
  match P.funcs[f]? with
  | some fn => !(fn.name == "runtime.NumGoroutine") && fn.body.isSome
  | none => false

def oneC : Value → Bool
  | .agg _ | .tuple _ => false
  | _ => true

section
variable {P : Program} {ops : List Oper} {cl : List Cls} {bad : List (Nat × Nat)} {Q : Act → World → Prop} {n k d : Nat} {t : Ot} {L : Pend} {a : Act} {w : World} {l : List (Nat × Value)}

theorem t_endM {S : Nat → Prop} {w0 : World} {m : List Res} (M : Sep S w0 w m) (h : ∀ w', Sep S w0 w' m → Q a w') : trunT P ops cl bad Q .done L a w := fun n => h _ (M.drewN n)

/-- Not wanted. -/
theorem s_no {o : Oper} (F : Fr n a l) (ho : nth ops k = some o) (hw : wn ops l o.guard = some false) (hd : o.dst = some d) (hlt : Nat.blt d n = true)
    (h : ∀ a', Fr n a' ((d, undef) :: l) → trunT P ops cl bad Q t L a' w) : trunT P ops cl bad Q (.one k t) L a w := by
  simp only [trunT, stepT, ho]
  rw [if_neg (by rw [F.wanted hw]; simp)]
  rw [hd]
  exact h _ (F.put hlt _)
theorem s_ind {o : Oper} {v : Value} (F : Fr n a l) (ho : nth ops k = some o) (hw : wn ops l o.guard = some true) (hc : nth cl k = some .ind) (hd : o.dst = some d) (hlt : Nat.blt d n = true)
    (hv : ∀ w', (execOp a.eval o).run P w' = .ok (.value v) w') (h : ∀ a', Fr n a' ((d, v) :: l) → trunT P ops cl bad Q t L a' w) : trunT P ops cl bad Q (.one k t) L a w := by
  simp only [trunT, stepT, ho]
  rw [if_pos (F.wanted hw)]
  simp only [hc]
  refine ⟨v, hv, ?_⟩
  rw [hd]
  exact h _ (F.put hlt _)

theorem trunT_nil : ∀ (t : Ot) (L L' : Pend) (a : Act) (w : World), trunT P ops cl [] Q t L a w → trunT P ops cl [] Q t L' a w := by
  have key : ∀ (k : Nat) (t : Ot), (∀ (L L' : Pend) (a : Act) (w : World), trunT P ops cl [] Q t L a w → trunT P ops cl [] Q t L' a w) → ∀ (L L' : Pend) (a : Act) (w : World), stepT P ops cl [] k L (trunT P ops cl [] Q t) a w → stepT P ops cl [] k L' (trunT P ops cl [] Q t) a w := by
    intro k t ih L L' a w h
    unfold stepT at h ⊢
    cases ho : nth ops k with
    | none => rw [ho] at h; exact h
    | some o =>
      simp only [ho] at h ⊢
      by_cases hw : Region.wanted o (yielded ops.toArray a.tmps) = true
      · rw [if_pos hw] at h ⊢
        have wr : (∀ n, Goes P (fun v w' => pend [] k L w' ∧ trunT P ops cl [] Q t L (a.put o.dst v) w') ((execOp a.eval o).run P (w.drewN n))) → (∀ n, Goes P (fun v w' => pend [] k L' w' ∧ trunT P ops cl [] Q t L' (a.put o.dst v) w') ((execOp a.eval o).run P (w.drewN n))) :=
          fun h n => (h n).mono fun v w' ⟨_, h2⟩ => ⟨fun p _ hb => by simp at hb, ih _ _ _ _ h2⟩
        cases hc : nth cl k with
        | none => simp only [hc] at h; exact wr h
        | some c =>
          cases c with
          | ind => simp only [hc] at h; obtain ⟨v, h1, h2⟩ := h; exact ⟨v, h1, ih _ _ _ _ h2⟩
          | rd => simp only [hc] at h; obtain ⟨v, C, h1, h2, h3, h4⟩ := h; exact ⟨v, C, h1, h2, h3, ih _ _ _ _ h4⟩
          | wr => simp only [hc] at h; exact wr h
      · rw [if_neg hw] at h ⊢
        exact ih _ _ _ _ h
  intro t
  induction t with
  | done => exact fun _ _ _ _ h => h
  | one k t ih => exact key k t ih
  | two x y tx ty ihx ihy => exact fun L L' a w h => ⟨key x tx ihx L L' a w h.1, key y ty ihy L L' a w h.2⟩

/-- A reading operation. -/
theorem s_rdL {o : Oper} {v : Value} (C : World → Prop) (F : Fr n a l) (ho : nth ops k = some o) (hw : wn ops l o.guard = some true) (hc : nth cl k = some .rd) (hd : o.dst = some d) (hlt : Nat.blt d n = true)
    (hC : ∀ w' n, C w' → C (w'.drewN n)) (hCw : C w) (hv : ∀ w', C w' → (execOp a.eval o).run P w' = .ok (.value v) w') (h : ∀ a', Fr n a' ((d, v) :: l) → trunT P ops cl bad Q t ((k, C) :: L) a' w) : trunT P ops cl bad Q (.one k t) L a w := by
  simp only [trunT, stepT, ho]
  rw [if_pos (F.wanted hw)]
  simp only [hc]
  refine ⟨v, C, hC, hCw, fun w' hw' => ?_, ?_⟩
  · unfold Still
    rw [hv w' hw']
    exact ⟨rfl, 0, rfl⟩
  · rw [hd]
    exact h _ (F.put hlt _)
/-- A writing operation. -/
theorem s_wrL {o : Oper} {R : Value → World → Prop} (F : Fr n a l) (ho : nth ops k = some o) (hw : wn ops l o.guard = some true) (hc : nth cl k = some .wr) (hd : o.dst = some d) (hlt : Nat.blt d n = true)
    (hv : ∀ n, Goes P R ((execOp a.eval o).run P (w.drewN n))) (hp : ∀ v w', R v w' → pend bad k L w') (h : ∀ v w', R v w' → ∀ a', Fr n a' ((d, v) :: l) → trunT P ops cl bad Q t L a' w') : trunT P ops cl bad Q (.one k t) L a w := by
  simp only [trunT, stepT, ho]
  rw [if_pos (F.wanted hw)]
  simp only [hc]
  intro n
  rw [hd]
  exact (hv n).mono fun v w' hR => ⟨hp v w' hR, h v w' hR _ (F.put hlt _)⟩
theorem pend_nil {w : World} : pend [] k L w := fun p _ hb => by simp at hb
theorem pend_none {w : World} : pend bad k [] w := fun p h _ => by simp at h
theorem pend_skip {w : World} {i : Nat} {C : World → Prop} (hb : bad.contains (i, k) = false) (h : pend bad k L w) : pend bad k ((i, C) :: L) w := fun p hp hb' => by
  rcases List.mem_cons.1 hp with rfl | hp
  · rw [hb] at hb'; cases hb'
  · exact h p hp hb'
theorem pend_take {w : World} {i : Nat} {C : World → Prop} (hC : C w) (h : pend bad k L w) : pend bad k ((i, C) :: L) w := fun p hp hb' => by
  rcases List.mem_cons.1 hp with rfl | hp
  · exact hC
  · exact h p hp hb'
theorem s_wr {o : Oper} {R : Value → World → Prop} (F : Fr n a l) (ho : nth ops k = some o) (hw : wn ops l o.guard = some true) (hc : nth cl k = some .wr) (hd : o.dst = some d) (hlt : Nat.blt d n = true)
    (hv : ∀ n, Goes P R ((execOp a.eval o).run P (w.drewN n))) (h : ∀ v w', R v w' → ∀ a', Fr n a' ((d, v) :: l) → trunT P ops cl [] Q t L a' w') : trunT P ops cl [] Q (.one k t) L a w :=
  s_wrL F ho hw hc hd hlt hv (fun _ _ _ => pend_nil) h
/-- .. that leaves no value. -/
theorem s_wrL0 {o : Oper} {R : Value → World → Prop} (F : Fr n a l) (ho : nth ops k = some o) (hw : wn ops l o.guard = some true) (hc : nth cl k = some .wr) (hd : o.dst = none)
    (hv : ∀ n, Goes P R ((execOp a.eval o).run P (w.drewN n))) (hp : ∀ v w', R v w' → pend bad k L w') (h : ∀ v w', R v w' → trunT P ops cl bad Q t L a w') : trunT P ops cl bad Q (.one k t) L a w := by
  simp only [trunT, stepT, ho]
  rw [if_pos (F.wanted hw)]
  simp only [hc]
  intro n
  rw [hd]
  exact (hv n).mono fun v w' hR => ⟨hp v w' hR, h v w' hR⟩
theorem s_wr0 {o : Oper} {R : Value → World → Prop} (F : Fr n a l) (ho : nth ops k = some o) (hw : wn ops l o.guard = some true) (hc : nth cl k = some .wr) (hd : o.dst = none)
    (hv : ∀ n, Goes P R ((execOp a.eval o).run P (w.drewN n))) (h : ∀ v w', R v w' → trunT P ops cl [] Q t L a w') : trunT P ops cl [] Q (.one k t) L a w :=
  s_wrL0 F ho hw hc hd hv (fun _ _ _ => pend_nil) h

/-- Part on a Bool in a slot. -/
theorem bsplit {G : Prop} {c : Bool} (F : Fr n a l) (d : Nat) (_hv : lk l d = some (.bool c)) (h1 : c = true → Fr n a l → G) (h0 : c = false → Fr n a l → G) : G := by
  cases c
  · exact h0 rfl F
  · exact h1 rfl F
end

/-! ### operations that ask no memory -/
def binI : BinOp → Value → Value → Option Value
  | .lss, .int .i64 a, .int .i64 b => some (.bool (decide (a < b)))
  | .leq, .int .i64 a, .int .i64 b => some (.bool (decide (a ≤ b)))
  | .gtr, .int .i64 a, .int .i64 b => some (.bool (decide (b < a)))
  | .geq, .int .i64 a, .int .i64 b => some (.bool (decide (b ≤ a)))
  | .eql, .int .i64 a, .int .i64 b => some (.bool (decide (a = b)))
  | .neq, .int .i64 a, .int .i64 b => some (.bool (!decide (a = b)))
  | .eql, .string a, .string b => some (.bool (decide (a = b)))
  | .neq, .string a, .string b => some (.bool (!decide (a = b)))
  | _, _, _ => none

def evI (l : List (Nat × Value)) : Op → Option Value
  | .move x | .assign x => ev l x
  | .pick c x y => match ev l c with
    | some (.bool true) => ev l x
    | some (.bool false) => ev l y
    | _ => none
  | .nilCheck x => match ev l x with
    | some (.pointer (some p)) => some (.pointer (some p))
    | some (.func (.func f) a b) => some (.func (.func f) a b)
    | _ => none
  | .unOp .not _ x => match ev l x with
    | some (.bool b) => some (.bool (!b))
    | _ => none
  | .extract x i => match ev l x with
    | some (.tuple vs) => nth vs.toList i
    | _ => none
  | _ => none

theorem bytes_toList_inj {a b : ByteArray} : (a.toList == b.toList) = decide (a = b) := by
  rw [Bool.eq_iff_iff]
  simp only [beq_iff_eq, decide_eq_true_eq]
  constructor
  · intro h
    have h' : a.data.toList = b.data.toList := by
      rw [ByteArray.toList_eq, ByteArray.toList_eq] at h
      exact h
    cases a; cases b
    simpa using Array.toList_inj.1 h'
  · rintro rfl; rfl

section
variable {P : Program} {ops : List Oper} {cl : List Cls} {bad : List (Nat × Nat)} {Q : Act → World → Prop} {n k d : Nat} {t : Ot} {L : Pend} {a : Act} {w : World} {l : List (Nat × Value)}

theorem evI_run {o : Oper} {v : Value} (F : Fr n a l) (h : evI l o.op = some v) : ∀ w', (execOp a.eval o).run P w' = .ok (.value v) w' := by
  intro w'
  obtain ⟨dst, op, ty, ps, af, g⟩ := o
  simp only at h
  cases op <;> simp only [evI] at h <;> try (cases h; done)
  case move x => simp [execOp, F.ev h]
  case assign x => simp [execOp, F.ev h]
  case pick c x y =>
    cases hc : ev l c with
    | none => simp [hc] at h
    | some u =>
      rw [hc] at h
      cases u <;> try (cases h; done)
      rename_i b
      cases b <;> simp only at h <;> simp [execOp, F.ev hc, F.ev h, asBool]
  case nilCheck x =>
    cases hc : ev l x with
    | none => simp [hc] at h
    | some u =>
      rw [hc] at h
      cases u <;> try (cases h; done)
      case pointer p =>
        cases p <;> try (cases h; done)
        simp only [Option.some.injEq] at h
        subst h
        simp [execOp, F.ev hc]
      case func fn a b =>
        cases fn <;> try (cases h; done)
        simp only [Option.some.injEq] at h
        subst h
        simp [execOp, F.ev hc]
  case unOp op ty x =>
    cases op <;> try (cases h; done)
    simp only at h
    cases hc : ev l x with
    | none => simp [hc] at h
    | some u =>
      rw [hc] at h
      cases u <;> try (cases h; done)
      simp only [Option.some.injEq] at h
      subst h
      simp [execOp, F.ev hc, Op.unary]
  case extract x i =>
    cases hc : ev l x with
    | none => simp [hc] at h
    | some u =>
      rw [hc] at h
      cases u <;> try (cases h; done)
      rename_i vs
      simp only at h
      rw [nth_eq] at h
      have h' : vs[i]? = some v := by simpa using h
      simp [execOp, F.ev hc, Instr.extract, h']

theorem s_I {o : Oper} {v : Value} (F : Fr n a l) (ho : nth ops k = some o) (hw : wn ops l o.guard = some true) (hc : nth cl k = some .ind) (hd : o.dst = some d) (hlt : Nat.blt d n = true)
    (hv : evI l o.op = some v) (h : ∀ a', Fr n a' ((d, v) :: l) → trunT P ops cl bad Q t L a' w) : trunT P ops cl bad Q (.one k t) L a w :=
  s_ind F ho hw hc hd hlt (evI_run F hv) h

theorem binI_run {op : BinOp} {tx ty : TypeId} {x y : Operand} {u v r : Value} {dst : Option Tmp} {tt : TypeId} {ps : String} {af : Array Edge} {g : Option (Nat × Bool)} (F : Fr n a l) (hx : ev l x = some u) (hy : ev l y = some v) (h : binI op u v = some r) :
    ∀ w', (execOp a.eval ⟨dst, .binOp op tx x y ty, tt, ps, af, g⟩).run P w' = .ok (.value r) w' := by
  intro w'
  simp only [execOp, F.ev hx, F.ev hy]
  unfold binI at h
  split at h <;> first
    | (cases h; done)
    | (simp only [Option.some.injEq] at h; subst h)
  case h_5 a b => simp [eqGuard, Go.binOp, Op.intCmp]; rfl
  case h_6 a b => simp [eqGuard, Go.binOp, Op.intCmp]; rfl
  case h_7 a b => simp [eqGuard, Go.binOp, Op.stringOp, bytes_toList_inj]
  case h_8 a b => simp [eqGuard, Go.binOp, Op.stringOp, bytes_toList_inj]
  all_goals simp [eqGuard, Go.binOp, Op.intCmp]
end
end Go.Proofs.Ytboibdmflblphaa.Fw
