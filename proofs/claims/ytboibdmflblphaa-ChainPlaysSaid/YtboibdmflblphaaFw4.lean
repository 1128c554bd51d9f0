/-
  Operations on memory, calls, entry and return.
-/
import Derived.Test.YtboibdmflblphaaFw3
namespace Go.Proofs.Ytboibdmflblphaa.Fw
open Go

def ptrB (P : Program) (t : TypeId) : Bool :=
  match P.underlying t with
  | some (.pointer _) => true
  | _ => false
def strB (P : Program) (t : TypeId) : Bool :=
  match P.underlying t with
  | some .string => true
  | _ => false
/-- An array type's length and the cells of an element. -/
def arrB (P : Program) (t : TypeId) : Option (Nat × Nat) :=
  match P.underlying t with
  | some (.array n e) => (P.info? e).map fun i => (n, i.size)
  | _ => none
/-- A slice type's element type, and its cells. -/
def slcB (P : Program) (t : TypeId) : Option (TypeId × Nat) :=
  match P.underlying t with
  | some (.slice e) => (P.info? e).map fun i => (e, i.size)
  | _ => none

theorem arrB_spec {P : Program} {t : TypeId} {n s : Nat} (h : arrB P t = some (n, s)) : ∃ e i, P.underlying t = some (.array n e) ∧ P.info? e = some i ∧ i.size = s := by
  unfold arrB at h
  split at h
  · rename_i m e he
    cases hi : P.info? e with
    | none => rw [hi] at h; cases h
    | some i =>
      rw [hi] at h
      simp only [Option.map_some, Option.some.injEq, Prod.mk.injEq] at h
      obtain ⟨rfl, rfl⟩ := h
      exact ⟨e, i, he, hi, rfl⟩
  · cases h
theorem slcB_spec {P : Program} {t e : TypeId} {s : Nat} (h : slcB P t = some (e, s)) : ∃ i, P.underlying t = some (.slice e) ∧ P.info? e = some i ∧ i.size = s := by
  unfold slcB at h
  split at h
  · rename_i e' he
    cases hi : P.info? e' with
    | none => rw [hi] at h; cases h
    | some i =>
      rw [hi] at h
      simp only [Option.map_some, Option.some.injEq, Prod.mk.injEq] at h
      obtain ⟨rfl, rfl⟩ := h
      exact ⟨i, he, hi, rfl⟩
  · cases h

theorem add_at (b o k : Nat) : (⟨b, o, none⟩ : Addr).add k = ⟨b, o + k, none⟩ := by
  unfold Addr.add
  split
  · rename_i h; subst h; rfl
  · rfl

theorem lit {cs : Array Value} {off : Nat} {v : Value} (h : nth cs.toList off = some v) : cs[off]? = some v := by
  rw [nth_eq] at h
  simpa using h

section
variable {P : Program} {ops : List Oper} {cl : List Cls} {bad : List (Nat × Nat)} {Q : Act → World → Prop} {n k d : Nat} {t : Ot} {L : Pend} {a : Act} {w : World} {l : List (Nat × Value)}
variable {ty : TypeId} {ps : String} {af : Array Edge} {g : Option (Nat × Bool)}

/-! ### numbers -/
theorem s_bin {op : BinOp} {tx ty' : TypeId} {x y : Operand} {u v r : Value} (F : Fr n a l) (ho : nth ops k = some ⟨some d, .binOp op tx x y ty', ty, ps, af, g⟩) (hw : wn ops l g = some true) (hc : nth cl k = some .ind) (hlt : Nat.blt d n = true)
    (hx : ev l x = some u) (hy : ev l y = some v) (hr : binI op u v = some r) (h : ∀ a', Fr n a' ((d, r) :: l) → trunT P ops cl bad Q t L a' w) : trunT P ops cl bad Q (.one k t) L a w :=
  s_ind F ho hw hc rfl hlt (binI_run F hx hy hr) h

theorem s_pn {tx ty' : TypeId} {x : Operand} {p : Option Addr} (F : Fr n a l) (ho : nth ops k = some ⟨some d, .binOp .eql tx x (.const (.pointer none)) ty', ty, ps, af, g⟩) (hw : wn ops l g = some true) (hc : nth cl k = some .ind) (hlt : Nat.blt d n = true)
    (hT : ptrB P tx = true) (hx : ev l x = some (.pointer p)) (h : ∀ a', Fr n a' ((d, .bool p.isNone) :: l) → trunT P ops cl bad Q t L a' w) : trunT P ops cl bad Q (.one k t) L a w := by
  refine s_ind F ho hw hc rfl hlt (fun w' => ?_) h
  unfold ptrB at hT
  split at hT
  · rename_i e he
    have hp : P.underlying tx = some (.pointer (P.pointee tx)) := by simp [Program.pointee, he]
    have hk : a.eval (.const (.pointer none)) = .pointer none := rfl
    simp [execOp, F.ev hx, hk, eqGuard, run_eql_pointer_nil w' tx p hp]
  · cases hT
theorem s_pne {tx ty' : TypeId} {x : Operand} {p : Option Addr} (F : Fr n a l) (ho : nth ops k = some ⟨some d, .binOp .neq tx x (.const (.pointer none)) ty', ty, ps, af, g⟩) (hw : wn ops l g = some true) (hc : nth cl k = some .ind) (hlt : Nat.blt d n = true)
    (hT : ptrB P tx = true) (hx : ev l x = some (.pointer p)) (h : ∀ a', Fr n a' ((d, .bool (!p.isNone)) :: l) → trunT P ops cl bad Q t L a' w) : trunT P ops cl bad Q (.one k t) L a w := by
  refine s_ind F ho hw hc rfl hlt (fun w' => ?_) h
  unfold ptrB at hT
  split at hT
  · rename_i e he
    have hp : P.underlying tx = some (.pointer (P.pointee tx)) := by simp [Program.pointee, he]
    have hk : a.eval (.const (.pointer none)) = .pointer none := rfl
    simp [execOp, F.ev hx, hk, eqGuard, run_neq_pointer_nil w' tx p hp]
  · cases hT
def In64 (x : Int) : Prop := -9223372036854775808 ≤ x ∧ x ≤ 9223372036854775807

theorem wrap_in {x : Int} (h : In64 x) : IntKind.i64.wrap x = x := IntWalk.i64_in x h

theorem s_add {tx ty' : TypeId} {x y : Operand} {u v : Int} (F : Fr n a l) (ho : nth ops k = some ⟨some d, .binOp .add tx x y ty', ty, ps, af, g⟩) (hw : wn ops l g = some true) (hc : nth cl k = some .ind) (hlt : Nat.blt d n = true)
    (hx : ev l x = some (.int .i64 u)) (hy : ev l y = some (.int .i64 v)) (hr : In64 (u + v)) (h : ∀ a', Fr n a' ((d, .int .i64 (u + v)) :: l) → trunT P ops cl bad Q t L a' w) : trunT P ops cl bad Q (.one k t) L a w :=
  s_ind F ho hw hc rfl hlt (fun w' => by simp [execOp, F.ev hx, F.ev hy, eqGuard, Go.binOp, Op.intArith, wrap_in hr]) h
theorem s_sub {tx ty' : TypeId} {x y : Operand} {u v : Int} (F : Fr n a l) (ho : nth ops k = some ⟨some d, .binOp .sub tx x y ty', ty, ps, af, g⟩) (hw : wn ops l g = some true) (hc : nth cl k = some .ind) (hlt : Nat.blt d n = true)
    (hx : ev l x = some (.int .i64 u)) (hy : ev l y = some (.int .i64 v)) (hr : In64 (u - v)) (h : ∀ a', Fr n a' ((d, .int .i64 (u - v)) :: l) → trunT P ops cl bad Q t L a' w) : trunT P ops cl bad Q (.one k t) L a w :=
  s_ind F ho hw hc rfl hlt (fun w' => by simp [execOp, F.ev hx, F.ev hy, eqGuard, Go.binOp, Op.intArith, wrap_in hr]) h
theorem s_mul {tx ty' : TypeId} {x y : Operand} {u v : Int} (F : Fr n a l) (ho : nth ops k = some ⟨some d, .binOp .mul tx x y ty', ty, ps, af, g⟩) (hw : wn ops l g = some true) (hc : nth cl k = some .ind) (hlt : Nat.blt d n = true)
    (hx : ev l x = some (.int .i64 u)) (hy : ev l y = some (.int .i64 v)) (hr : In64 (u * v)) (h : ∀ a', Fr n a' ((d, .int .i64 (u * v)) :: l) → trunT P ops cl bad Q t L a' w) : trunT P ops cl bad Q (.one k t) L a w :=
  s_ind F ho hw hc rfl hlt (fun w' => by simp [execOp, F.ev hx, F.ev hy, eqGuard, Go.binOp, Op.intArith, wrap_in hr]) h
/-- Division of numbers that are not below 0. -/
theorem s_quo {tx ty' : TypeId} {x y : Operand} {u v : Int} (F : Fr n a l) (ho : nth ops k = some ⟨some d, .binOp .quo tx x y ty', ty, ps, af, g⟩) (hw : wn ops l g = some true) (hc : nth cl k = some .ind) (hlt : Nat.blt d n = true)
    (hx : ev l x = some (.int .i64 u)) (hy : ev l y = some (.int .i64 v)) (h0 : 0 ≤ u) (h1 : 0 < v) (h2 : u ≤ 9223372036854775807) (h : ∀ a', Fr n a' ((d, .int .i64 (u / v)) :: l) → trunT P ops cl bad Q t L a' w) : trunT P ops cl bad Q (.one k t) L a w := by
  refine s_ind F ho hw hc rfl hlt (fun w' => ?_) h
  have hne : v ≠ 0 := by omega
  have e : u.tdiv v = u / v := Int.tdiv_eq_ediv_of_nonneg h0
  have hle : u / v ≤ u := Int.ediv_le_self _ h0
  have hge : 0 ≤ u / v := Int.ediv_nonneg h0 (by omega)
  simp [execOp, F.ev hx, F.ev hy, eqGuard, Go.binOp, Op.intDiv, hne, e, wrap_in (x := u / v) ⟨by omega, by omega⟩]
theorem s_rem {K : IntKind} {tx ty' : TypeId} {x y : Operand} {u v : Int} (F : Fr n a l) (ho : nth ops k = some ⟨some d, .binOp .rem tx x y ty', ty, ps, af, g⟩) (hw : wn ops l g = some true) (hc : nth cl k = some .ind) (hlt : Nat.blt d n = true)
    (hx : ev l x = some (.int K u)) (hy : ev l y = some (.int K v)) (h1 : v ≠ 0) (h : ∀ a', Fr n a' ((d, .int K (u.tmod v)) :: l) → trunT P ops cl bad Q t L a' w) : trunT P ops cl bad Q (.one k t) L a w :=
  s_ind F ho hw hc rfl hlt (fun w' => by simp [execOp, F.ev hx, F.ev hy, eqGuard, Go.binOp, Op.intDiv, h1]) h
theorem s_lenS {x : Operand} {tx : TypeId} {s : ByteArray} (F : Fr n a l) (ho : nth ops k = some ⟨some d, .call ⟨.builtin .len, #[x], #[tx]⟩, ty, ps, af, g⟩) (hw : wn ops l g = some true) (hc : nth cl k = some .ind) (hlt : Nat.blt d n = true)
    (hT : strB P tx = true) (hx : ev l x = some (.string s)) (h : ∀ a', Fr n a' ((d, .int .i64 s.size) :: l) → trunT P ops cl bad Q t L a' w) : trunT P ops cl bad Q (.one k t) L a w := by
  refine s_ind F ho hw hc rfl hlt (fun w' => ?_) h
  unfold strB at hT
  split at hT <;> try (cases hT; done)
  rename_i h1
  simp [execOp, resolve, invoke, builtin, F.ev hx, Builtin.len_, run_underlying h1, goInt]
theorem s_len {x : Operand} {tx e : TypeId} {sz : Nat} {A : Option Addr} {m c : Nat} (F : Fr n a l) (ho : nth ops k = some ⟨some d, .call ⟨.builtin .len, #[x], #[tx]⟩, ty, ps, af, g⟩) (hw : wn ops l g = some true) (hc : nth cl k = some .ind) (hlt : Nat.blt d n = true)
    (hT : slcB P tx = some (e, sz)) (hx : ev l x = some (.slice A m c)) (h : ∀ a', Fr n a' ((d, .int .i64 m) :: l) → trunT P ops cl bad Q t L a' w) : trunT P ops cl bad Q (.one k t) L a w := by
  refine s_ind F ho hw hc rfl hlt (fun w' => ?_) h
  obtain ⟨i, h1, _, _⟩ := slcB_spec hT
  simp [execOp, resolve, invoke, builtin, F.ev hx, Builtin.len_, run_underlying h1, goInt]

/-! ### addresses -/
/-- Where a field lies. -/
def FA (P : Program) (T : TypeId) (f o : Nat) : Prop := ∀ (b off : Nat) (w : World), (Instr.fieldAt T (.pointer (some ⟨b, off, none⟩)) f).run P w = .ok (.pointer (some ⟨b, off + o, none⟩)) w

theorem s_fa {T : TypeId} {x : Operand} {f o b off : Nat} (F : Fr n a l) (ho : nth ops k = some ⟨some d, .fieldAddr T x f, ty, ps, af, g⟩) (hw : wn ops l g = some true) (hc : nth cl k = some .ind) (hlt : Nat.blt d n = true)
    (hT : FA P T f o) (hx : ev l x = some (.pointer (some ⟨b, off, none⟩))) (h : ∀ a', Fr n a' ((d, .pointer (some ⟨b, off + o, none⟩)) :: l) → trunT P ops cl bad Q t L a' w) : trunT P ops cl bad Q (.one k t) L a w :=
  s_ind F ho hw hc rfl hlt (fun w' => by simp [execOp, F.ev hx, hT b off w']) h
/-- The same where the struct begins its block. -/
theorem s_fa0 {T : TypeId} {x : Operand} {f o b : Nat} (F : Fr n a l) (ho : nth ops k = some ⟨some d, .fieldAddr T x f, ty, ps, af, g⟩) (hw : wn ops l g = some true) (hc : nth cl k = some .ind) (hlt : Nat.blt d n = true)
    (hT : FA P T f o) (hx : ev l x = some (.pointer (some ⟨b, 0, none⟩))) (h : ∀ a', Fr n a' ((d, .pointer (some ⟨b, o, none⟩)) :: l) → trunT P ops cl bad Q t L a' w) : trunT P ops cl bad Q (.one k t) L a w :=
  s_fa F ho hw hc hlt hT hx (by simpa using h)

theorem s_ia {T : TypeId} {x y : Operand} {m sz b off : Nat} {i : Int} (F : Fr n a l) (ho : nth ops k = some ⟨some d, .indexAddr T x y, ty, ps, af, g⟩) (hw : wn ops l g = some true) (hc : nth cl k = some .ind) (hlt : Nat.blt d n = true)
    (hT : arrB P T = some (m, sz)) (hx : ev l x = some (.pointer (some ⟨b, off, none⟩))) (hy : ev l y = some (.int .i64 i)) (h0 : 0 ≤ i) (h1 : i < m)
    (h : ∀ a', Fr n a' ((d, .pointer (some ⟨b, off + i.toNat * sz, none⟩)) :: l) → trunT P ops cl bad Q t L a' w) : trunT P ops cl bad Q (.one k t) L a w := by
  refine s_ind F ho hw hc rfl hlt (fun w' => ?_) h
  obtain ⟨e, i', h2, h3, h4⟩ := arrB_spec hT
  subst h4
  simp [execOp, F.ev hx, F.ev hy, Instr.indexAt, asIntOf, run_underlying h2, Instr.sureAddr, h0, h1, sizeOf, typeInfo, h3, add_at]

theorem s_is {T e : TypeId} {x y : Operand} {sz b off m c : Nat} {i : Int} (F : Fr n a l) (ho : nth ops k = some ⟨some d, .indexAddr T x y, ty, ps, af, g⟩) (hw : wn ops l g = some true) (hc : nth cl k = some .ind) (hlt : Nat.blt d n = true)
    (hT : slcB P T = some (e, sz)) (hx : ev l x = some (.slice (some ⟨b, off, none⟩) m c)) (hy : ev l y = some (.int .i64 i)) (h0 : 0 ≤ i) (h1 : i < m)
    (h : ∀ a', Fr n a' ((d, .pointer (some ⟨b, off + i.toNat * sz, none⟩)) :: l) → trunT P ops cl bad Q t L a' w) : trunT P ops cl bad Q (.one k t) L a w := by
  refine s_ind F ho hw hc rfl hlt (fun w' => ?_) h
  obtain ⟨i', h2, h3, h4⟩ := slcB_spec hT
  subst h4
  simp [execOp, F.ev hx, F.ev hy, Instr.indexAt, asIntOf, run_underlying h2, h0, h1, sizeOf, typeInfo, h3, add_at]

/-! ### reading -/
theorem scal_load {t' : TypeId} (hs : scalB P t' = true) {p : Addr} {v : Value} {w' : World} (h : w'.cell? p = some v) : (loadVar t' p).run P w' = .ok v w' := by
  unfold scalB at hs
  split at hs <;> try (cases hs; done)
  rename_i d i h3 h4 h1 h2
  have : (isAgg t').run P w' = .ok false w' := by
    unfold isAgg
    simp only [Sem.run_bind, run_underlying h1, Result.andThen_ok]
    cases d <;> first
      | rfl
      | exact absurd rfl (h3 _)
      | exact absurd rfl (h4 _ _)
  simp [loadVar, this, h, load, Sem.run]

theorem part_scal {t : TypeId} (hs : scalB P t = true) {cs : Array Value} {o : Nat} {v : Value} (hv : cs[o]? = some v) (w : World) : (part t cs o).run P w = .ok v w := by
  unfold scalB at hs
  split at hs <;> try (cases hs; done)
  rename_i d i h3 h4 h1 h2
  have : (isAgg t).run P w = .ok false w := by
    unfold isAgg
    simp only [Sem.run_bind, run_underlying h1, Result.andThen_ok]
    cases d <;> first
      | rfl
      | exact absurd rfl (h3 _)
      | exact absurd rfl (h4 _ _)
  simp [part, this, hv]

theorem s_ldL {t' : TypeId} {x : Operand} {p : Addr} {v : Value} (F : Fr n a l) (ho : nth ops k = some ⟨some d, .load t' x, ty, ps, af, g⟩) (hw : wn ops l g = some true) (hc : nth cl k = some .rd) (hlt : Nat.blt d n = true)
    (hs : scalB P t' = true) (hx : ev l x = some (.pointer (some p))) (hv : w.cell? p = some v) (h : ∀ a', Fr n a' ((d, v) :: l) → trunT P ops cl bad Q t ((k, fun w' => w'.cell? p = some v) :: L) a' w) : trunT P ops cl bad Q (.one k t) L a w :=
  s_rdL (fun w' => w'.cell? p = some v) F ho hw hc rfl hlt (fun _ _ h => h) hv (fun w' hC => by simp [execOp, F.ev hx, Instr.loadAt, Instr.sureAddr, scal_load hs hC]) h
theorem s_ld {t' : TypeId} {x : Operand} {p : Addr} {v : Value} (F : Fr n a l) (ho : nth ops k = some ⟨some d, .load t' x, ty, ps, af, g⟩) (hw : wn ops l g = some true) (hc : nth cl k = some .rd) (hlt : Nat.blt d n = true)
    (hs : scalB P t' = true) (hx : ev l x = some (.pointer (some p))) (hv : w.cell? p = some v) (h : ∀ a', Fr n a' ((d, v) :: l) → trunT P ops cl [] Q t L a' w) : trunT P ops cl [] Q (.one k t) L a w :=
  s_ldL F ho hw hc hlt hs hx hv fun a' F' => trunT_nil _ _ _ _ _ (h a' F')

theorem agg_load {t' : TypeId} {m : Nat} (hs : aggB P t' = some m) {p : Addr} {cs : Array Value} (hm : cs.size = m) {w' : World} (h : ∀ j v, cs[j]? = some v → w'.cell? (p.add j) = some v) : (loadVar t' p).run P w' = .ok (.agg cs) w' := by
  have key : ∀ (r i : Nat) (acc : Array Value), (∀ j v, cs[j]? = some v → w'.cell? (p.add j) = some v) → i + r = cs.size → acc = cs.extract 0 i → (loadCellsFrom p i r acc).run P w' = .ok cs w' := by
    intro r
    induction r with
    | zero =>
      intro i acc _ hi hacc
      simp only [loadCellsFrom, Sem.run_pure]
      have : i = cs.size := by omega
      rw [hacc, this]
      simp
    | succ r ih =>
      intro i acc hh hi hacc
      have hlt : i < cs.size := by omega
      have hc := hh i cs[i] (by simp [hlt])
      simp only [loadCellsFrom, Sem.run_bind, load]
      rw [show (Sem.load Mode.plain (p.add i) Sem.pure).run P w' = .ok cs[i] w' from by simp [Sem.run, hc]]
      simp only [Result.andThen_ok]
      refine ih (i + 1) _ hh (by omega) ?_
      rw [hacc]
      apply Array.ext
      · simp only [Array.size_push, Array.size_extract]; omega
      · intro j h1 h2
        simp only [Array.getElem_push, Array.getElem_extract, Array.size_extract]
        split
        · simp
        · rename_i hne
          simp at h1 hne
          have : j = i := by omega
          subst this
          simp
  unfold aggB at hs
  split at hs <;> try (cases hs; done)
  all_goals
    simp only [Option.some.injEq] at hs
    rename_i h1 h2
    have h3 : (isAgg t').run P w' = .ok true w' := by simp [isAgg, run_underlying h1]
    have h4 : (sizeOf t').run P w' = .ok m w' := by simp [sizeOf, typeInfo, h2, hs]
    simp only [loadVar, Sem.run_bind, h3, h4, Result.andThen_ok, if_true, loadCells]
    rw [key m 0 #[] h (by omega) (by simp)]
    simp

theorem s_ldaL {t' : TypeId} {x : Operand} {m : Nat} {p : Addr} {cs : Array Value} (F : Fr n a l) (ho : nth ops k = some ⟨some d, .load t' x, ty, ps, af, g⟩) (hw : wn ops l g = some true) (hc : nth cl k = some .rd) (hlt : Nat.blt d n = true)
    (hs : aggB P t' = some m) (hx : ev l x = some (.pointer (some p))) (hm : cs.size = m) (hv : ∀ j v, cs[j]? = some v → w.cell? (p.add j) = some v) (h : ∀ a', Fr n a' ((d, .agg cs) :: l) → trunT P ops cl bad Q t ((k, fun w' => ∀ j v, cs[j]? = some v → w'.cell? (p.add j) = some v) :: L) a' w) : trunT P ops cl bad Q (.one k t) L a w :=
  s_rdL (fun w' => ∀ j v, cs[j]? = some v → w'.cell? (p.add j) = some v) F ho hw hc rfl hlt (fun _ _ h => h) hv (fun w' hC => by simp [execOp, F.ev hx, Instr.loadAt, Instr.sureAddr, agg_load hs hm hC]) h
theorem s_lda {t' : TypeId} {x : Operand} {m : Nat} {p : Addr} {cs : Array Value} (F : Fr n a l) (ho : nth ops k = some ⟨some d, .load t' x, ty, ps, af, g⟩) (hw : wn ops l g = some true) (hc : nth cl k = some .rd) (hlt : Nat.blt d n = true)
    (hs : aggB P t' = some m) (hx : ev l x = some (.pointer (some p))) (hm : cs.size = m) (hv : ∀ j v, cs[j]? = some v → w.cell? (p.add j) = some v) (h : ∀ a', Fr n a' ((d, .agg cs) :: l) → trunT P ops cl [] Q t L a' w) : trunT P ops cl [] Q (.one k t) L a w :=
  s_ldaL F ho hw hc hlt hs hx hm hv fun a' F' => trunT_nil _ _ _ _ _ (h a' F')
/-- The cells of a whole block. -/
theorem cells_whole {b : Nat} {cs : Array Value} {T : TypeId} {fz : Nat × Nat} (hb : w.heap[b]? = some (.cells cs T fz)) : ∀ j v, cs[j]? = some v → w.cell? ((⟨b, 0, none⟩ : Addr).add j) = some v := fun j v hv => by
  rw [add_at]; exact cell_of_blk hb (by simpa using hv)
theorem cells_part {b off : Nat} {arr cs : Array Value} {T : TypeId} {fz : Nat × Nat} (hb : w.heap[b]? = some (.cells arr T fz)) (hp : ∀ j v, cs[j]? = some v → arr[off + j]? = some v) : ∀ j v, cs[j]? = some v → w.cell? ((⟨b, off, none⟩ : Addr).add j) = some v := fun j v hv => by
  rw [add_at]; exact cell_of_blk hb (hp j v hv)

/-! ### writing -/
def setCells (arr : Array Value) (off : Nat) : List Value → Array Value
  | [] => arr
  | v :: vs => setCells (arr.setIfInBounds off v) (off + 1) vs

theorem setCells_size (arr : Array Value) (off : Nat) (vs : List Value) : (setCells arr off vs).size = arr.size := by
  induction vs generalizing arr off with
  | nil => rfl
  | cons v vs ih => simp [setCells, ih]

theorem run_store {S : Nat → Prop} {w0 w : World} {b off : Nat} {cs : Array Value} {T : TypeId} {r : List Res} {v : Value} (M : Sep S w0 w (blk b (.cells cs T (0, 0)) :: r)) (hoff : off < cs.size) (hv : oneC v = true) :
    ∃ w', (store ⟨b, off, none⟩ v).run P w = .ok () w' ∧ Sep S w0 w' (blk b (.cells (cs.setIfInBounds off v) T (0, 0)) :: r) := by
  have hb : w.heap[b]? = some (.cells cs T (0, 0)) := M.h0
  have hc : w.cell? ⟨b, off, none⟩ = some cs[off] := cell_of_blk hb (by simp [hoff])
  have hf : w.frozen? ⟨b, off, none⟩ = false := by simp [World.frozen?, hb]
  refine ⟨_, ?_, M.setCell off v⟩
  unfold store
  cases v <;> first
    | (cases hv; done)
    | simp [Sem.run, hc, hf]

theorem run_storeCells {S : Nat → Prop} {w0 : World} {b : Nat} {T : TypeId} {r : List Res} {off : Nat} : ∀ (vs : List Value) (i : Nat) (cs : Array Value) (w : World), Sep S w0 w (blk b (.cells cs T (0, 0)) :: r) → off + i + vs.length ≤ cs.size → (∀ v ∈ vs, oneC v = true) →
    ∃ w', (storeCells ⟨b, off, none⟩ vs i).run P w = .ok () w' ∧ Sep S w0 w' (blk b (.cells (setCells cs (off + i) vs) T (0, 0)) :: r)
  | [], i, cs, w, M, _, _ => ⟨w, by simp [storeCells], M⟩
  | v :: vs, i, cs, w, M, hl, h1 => by
    simp only [List.length_cons] at hl
    obtain ⟨w1, hr, M1⟩ := run_store (P := P) M (off := off + i) (v := v) (by omega) (h1 v List.mem_cons_self)
    obtain ⟨w2, hr2, M2⟩ := run_storeCells (off := off) vs (i + 1) _ w1 M1 (by simp; omega) (fun u hu => h1 u (List.mem_cons_of_mem _ hu))
    refine ⟨w2, ?_, by rw [← Nat.add_assoc] at M2; exact M2⟩
    simp only [storeCells, add_at, Sem.run_bind, hr, Result.andThen_ok, hr2]

theorem run_storeVar {S : Nat → Prop} {w0 : World} {b off : Nat} {T t' : TypeId} {m : Nat} {r : List Res} {cs : Array Value} {v : Value} (hs : sizeB P t' = some m) (M : Sep S w0 w (blk b (.cells cs T (0, 0)) :: r)) (hm : v.cells.size = m) (hl : off + m ≤ cs.size) (h1 : ∀ u ∈ v.cells.toList, oneC u = true) :
    ∃ w', (storeVar t' ⟨b, off, none⟩ v).run P w = .ok () w' ∧ Sep S w0 w' (blk b (.cells (setCells cs off v.cells.toList) T (0, 0)) :: r) := by
  obtain ⟨w1, hr, M1⟩ := run_storeCells (P := P) (off := off) v.cells.toList 0 cs w M (by simp; omega) h1
  refine ⟨w1, ?_, M1⟩
  have h4 : (sizeOf t').run P w = .ok m w := by
    unfold sizeB at hs
    cases hi : P.info? t' with
    | none => rw [hi] at hs; cases hs
    | some i => rw [hi] at hs; simp only [Option.map_some, Option.some.injEq] at hs; simp [sizeOf, typeInfo, hi, hs]
  simp [storeVar, h4, hm, hr]

/-- A store of one cell. -/
theorem s_stL {S : Nat → Prop} {w0 : World} {b off : Nat} {T t' : TypeId} {x y : Operand} {r : List Res} {cs : Array Value} {v : Value} (F : Fr n a l) (M : Sep S w0 w (blk b (.cells cs T (0, 0)) :: r)) (ho : nth ops k = some ⟨none, .store t' x y, ty, ps, af, g⟩) (hw : wn ops l g = some true) (hc : nth cl k = some .wr)
    (hs : sizeB P t' = some 1) (hx : ev l x = some (.pointer (some ⟨b, off, none⟩))) (hy : ev l y = some v) (hv : oneC v = true) (hoff : off < cs.size)
    (hp : ∀ w', Sep S w0 w' (blk b (.cells (cs.setIfInBounds off v) T (0, 0)) :: r) → pend bad k L w')
    (h : ∀ w', Sep S w0 w' (blk b (.cells (cs.setIfInBounds off v) T (0, 0)) :: r) → trunT P ops cl bad Q t L a w') : trunT P ops cl bad Q (.one k t) L a w := by
  have hcells : v.cells = #[v] := by cases v <;> first | rfl | cases hv
  refine s_wrL0 (R := fun _ w' => Sep S w0 w' (blk b (.cells (cs.setIfInBounds off v) T (0, 0)) :: r)) F ho hw hc rfl (fun n => ?_) (fun _ w' hR => hp w' hR) (fun _ w' hR => h w' hR)
  obtain ⟨w', hr, M'⟩ := run_storeVar (P := P) (t' := t') (v := v) (off := off) hs (M.drewN n) (by rw [hcells]; rfl) (by omega) (by rw [hcells]; simpa using hv)
  simp only [execOp, F.ev hx, F.ev hy, Instr.storeAt, Instr.sureAddr, Sem.run_bind, Sem.run_pure, Result.andThen_ok, hr, Goes]
  rw [hcells] at M'
  exact M'
theorem s_st {S : Nat → Prop} {w0 : World} {b off : Nat} {T t' : TypeId} {x y : Operand} {r : List Res} {cs : Array Value} {v : Value} (F : Fr n a l) (M : Sep S w0 w (blk b (.cells cs T (0, 0)) :: r)) (ho : nth ops k = some ⟨none, .store t' x y, ty, ps, af, g⟩) (hw : wn ops l g = some true) (hc : nth cl k = some .wr)
    (hs : sizeB P t' = some 1) (hx : ev l x = some (.pointer (some ⟨b, off, none⟩))) (hy : ev l y = some v) (hv : oneC v = true) (hoff : off < cs.size)
    (h : ∀ w', Sep S w0 w' (blk b (.cells (cs.setIfInBounds off v) T (0, 0)) :: r) → trunT P ops cl [] Q t L a w') : trunT P ops cl [] Q (.one k t) L a w :=
  s_stL F M ho hw hc hs hx hy hv hoff (fun _ _ => pend_nil) h
/-- A store of a struct. -/
theorem s_staL {S : Nat → Prop} {w0 : World} {b off m : Nat} {T t' : TypeId} {x y : Operand} {r : List Res} {cs vs : Array Value} (F : Fr n a l) (M : Sep S w0 w (blk b (.cells cs T (0, 0)) :: r)) (ho : nth ops k = some ⟨none, .store t' x y, ty, ps, af, g⟩) (hw : wn ops l g = some true) (hc : nth cl k = some .wr)
    (hs : sizeB P t' = some m) (hx : ev l x = some (.pointer (some ⟨b, off, none⟩))) (hy : ev l y = some (.agg vs)) (hm : vs.size = m) (hv : vs.toList.all oneC = true) (hoff : off + m ≤ cs.size)
    (hp : ∀ w', Sep S w0 w' (blk b (.cells (setCells cs off vs.toList) T (0, 0)) :: r) → pend bad k L w')
    (h : ∀ w', Sep S w0 w' (blk b (.cells (setCells cs off vs.toList) T (0, 0)) :: r) → trunT P ops cl bad Q t L a w') : trunT P ops cl bad Q (.one k t) L a w := by
  refine s_wrL0 (R := fun _ w' => Sep S w0 w' (blk b (.cells (setCells cs off vs.toList) T (0, 0)) :: r)) F ho hw hc rfl (fun n => ?_) (fun _ w' hR => hp w' hR) (fun _ w' hR => h w' hR)
  obtain ⟨w', hr, M'⟩ := run_storeVar (P := P) (t' := t') (v := .agg vs) (off := off) hs (M.drewN n) hm (by omega) (fun u hu => List.all_eq_true.1 hv u hu)
  simp only [execOp, F.ev hx, F.ev hy, Instr.storeAt, Instr.sureAddr, Sem.run_bind, Sem.run_pure, Result.andThen_ok, hr, Goes]
  exact M'
theorem s_sta {S : Nat → Prop} {w0 : World} {b off m : Nat} {T t' : TypeId} {x y : Operand} {r : List Res} {cs vs : Array Value} (F : Fr n a l) (M : Sep S w0 w (blk b (.cells cs T (0, 0)) :: r)) (ho : nth ops k = some ⟨none, .store t' x y, ty, ps, af, g⟩) (hw : wn ops l g = some true) (hc : nth cl k = some .wr)
    (hs : sizeB P t' = some m) (hx : ev l x = some (.pointer (some ⟨b, off, none⟩))) (hy : ev l y = some (.agg vs)) (hm : vs.size = m) (hv : vs.toList.all oneC = true) (hoff : off + m ≤ cs.size)
    (h : ∀ w', Sep S w0 w' (blk b (.cells (setCells cs off vs.toList) T (0, 0)) :: r) → trunT P ops cl [] Q t L a w') : trunT P ops cl [] Q (.one k t) L a w :=
  s_staL F M ho hw hc hs hx hy hm hv hoff (fun _ _ => pend_nil) h

/-- What makes one new block, and hands back a value over it. -/
def News (P : Program) (s : Sem Value) (o : Obj) (v : Nat → Value) : Prop := ∀ w, s.run P w = .ok (v w.heap.size) { w with heap := w.heap.push o }

theorem s_newL {S : Nat → Prop} {w0 : World} {op : Op} {s : Sem Value} {o : Obj} {v : Nat → Value} {r : List Res} (F : Fr n a l) (M : Sep S w0 w r) (ho : nth ops k = some ⟨some d, op, ty, ps, af, g⟩) (hw : wn ops l g = some true) (hc : nth cl k = some .wr) (hlt : Nat.blt d n = true)
    (hs : execOp a.eval ⟨some d, op, ty, ps, af, g⟩ = (do pure (.value (← s)))) (hN : News P s o v) (hfz : ∀ c e f, o = .cells c e f → f = (0, 0))
    (hp : ∀ b w', Sep S w0 w' (blk b o :: r) → pend bad k L w')
    (h : ∀ b w', Sep S w0 w' (blk b o :: r) → ∀ a', Fr n a' ((d, v b) :: l) → trunT P ops cl bad Q t L a' w') : trunT P ops cl bad Q (.one k t) L a w := by
  refine s_wrL (R := fun u w' => ∃ b, u = v b ∧ Sep S w0 w' (blk b o :: r)) F ho hw hc rfl hlt (fun n => ?_) (fun _ w' ⟨b, _, hR⟩ => hp b w' hR) (fun u w' ⟨b, hu, hR⟩ a' F' => by subst hu; exact h b w' hR a' F')
  rw [hs]
  have := hN (w.drewN n)
  simp only [Sem.run_bind, this, Result.andThen_ok, Sem.run_pure, Goes]
  exact ⟨_, rfl, (M.drewN n).alloc o hfz⟩

theorem news_box {T : TypeId} {v : Value} {cs : Array Value} (hcs : v.cells = cs) : News P (Instr.box T v) (.cells cs T) fun b => .pointer (some ⟨b, 0, none⟩) := fun w => by
  subst hcs; rfl
theorem fz_cells {cs : Array Value} {T : TypeId} : ∀ c e f, Obj.cells cs T = .cells c e f → f = (0, 0) := fun c e f h => by cases h; rfl
theorem s_boxL {S : Nat → Prop} {w0 : World} {T : TypeId} {x : Operand} {v : Value} {cs : Array Value} {r : List Res} (F : Fr n a l) (M : Sep S w0 w r) (ho : nth ops k = some ⟨some d, .box T x, ty, ps, af, g⟩) (hw : wn ops l g = some true) (hc : nth cl k = some .wr) (hlt : Nat.blt d n = true)
    (hx : ev l x = some v) (hcs : v.cells = cs) (hp : ∀ b w', Sep S w0 w' (blk b (.cells cs T) :: r) → pend bad k L w')
    (h : ∀ b w', Sep S w0 w' (blk b (.cells cs T) :: r) → ∀ a', Fr n a' ((d, .pointer (some ⟨b, 0, none⟩)) :: l) → trunT P ops cl bad Q t L a' w') : trunT P ops cl bad Q (.one k t) L a w :=
  s_newL F M ho hw hc hlt (s := Instr.box T v) (v := fun b => .pointer (some ⟨b, 0, none⟩)) (by simp only [execOp, F.ev hx]) (news_box hcs) fz_cells hp h
theorem s_box {S : Nat → Prop} {w0 : World} {T : TypeId} {x : Operand} {v : Value} {cs : Array Value} {r : List Res} (F : Fr n a l) (M : Sep S w0 w r) (ho : nth ops k = some ⟨some d, .box T x, ty, ps, af, g⟩) (hw : wn ops l g = some true) (hc : nth cl k = some .wr) (hlt : Nat.blt d n = true)
    (hx : ev l x = some v) (hcs : v.cells = cs) (h : ∀ b w', Sep S w0 w' (blk b (.cells cs T) :: r) → ∀ a', Fr n a' ((d, .pointer (some ⟨b, 0, none⟩)) :: l) → trunT P ops cl [] Q t L a' w') : trunT P ops cl [] Q (.one k t) L a w :=
  s_boxL F M ho hw hc hlt hx hcs (fun _ _ _ => pend_nil) h
theorem s_bxA {S : Nat → Prop} {w0 : World} {T : TypeId} {x : Operand} {cs : Array Value} {r : List Res} (F : Fr n a l) (M : Sep S w0 w r) (ho : nth ops k = some ⟨some d, .box T x, ty, ps, af, g⟩) (hw : wn ops l g = some true) (hc : nth cl k = some .wr) (hlt : Nat.blt d n = true)
    (hx : ev l x = some (.agg cs)) (h : ∀ b w', Sep S w0 w' (blk b (.cells cs T) :: r) → ∀ a', Fr n a' ((d, .pointer (some ⟨b, 0, none⟩)) :: l) → trunT P ops cl [] Q t L a' w') : trunT P ops cl [] Q (.one k t) L a w :=
  s_box F M ho hw hc hlt hx rfl h
theorem s_bxS {S : Nat → Prop} {w0 : World} {T : TypeId} {x : Operand} {v : Value} {r : List Res} (F : Fr n a l) (M : Sep S w0 w r) (ho : nth ops k = some ⟨some d, .box T x, ty, ps, af, g⟩) (hw : wn ops l g = some true) (hc : nth cl k = some .wr) (hlt : Nat.blt d n = true)
    (hx : ev l x = some v) (hv : oneC v = true) (h : ∀ b w', Sep S w0 w' (blk b (.cells #[v] T) :: r) → ∀ a', Fr n a' ((d, .pointer (some ⟨b, 0, none⟩)) :: l) → trunT P ops cl [] Q t L a' w') : trunT P ops cl [] Q (.one k t) L a w :=
  s_box F M ho hw hc hlt hx (by cases v <;> first | rfl | cases hv) h
/-- A new variable, at its zero value. -/
def zeroB (P : Program) (T : TypeId) : Option Value := (P.info? T).bind (·.zero)
theorem news_alloc {T : TypeId} {z : Value} {cs : Array Value} (hz : zeroB P T = some z) (hcs : z.cells = cs) : News P (Instr.alloc T true (.tuple #[])) (.cells cs T) fun b => .pointer (some ⟨b, 0, none⟩) := fun w => by
  subst hcs
  unfold zeroB at hz
  cases hi : P.info? T with
  | none => rw [hi] at hz; cases hz
  | some i =>
    rw [hi] at hz
    simp only [Option.bind_some] at hz
    have : (zeroValue T).run P w = .ok z w := by simp [zeroValue, typeInfo, hi, hz]
    simp [Instr.alloc, this, newVar, newRow, newObj, Sem.run]
theorem s_alcL {S : Nat → Prop} {w0 : World} {T : TypeId} {z : Value} {cs : Array Value} {r : List Res} (F : Fr n a l) (M : Sep S w0 w r) (ho : nth ops k = some ⟨some d, .alloc T, ty, ps, af, g⟩) (hw : wn ops l g = some true) (hc : nth cl k = some .wr) (hlt : Nat.blt d n = true)
    (hz : zeroB P T = some z) (hcs : z.cells = cs) (hp : ∀ b w', Sep S w0 w' (blk b (.cells cs T) :: r) → pend bad k L w')
    (h : ∀ b w', Sep S w0 w' (blk b (.cells cs T) :: r) → ∀ a', Fr n a' ((d, .pointer (some ⟨b, 0, none⟩)) :: l) → trunT P ops cl bad Q t L a' w') : trunT P ops cl bad Q (.one k t) L a w :=
  s_newL F M ho hw hc hlt (s := Instr.alloc T true (.tuple #[])) (v := fun b => .pointer (some ⟨b, 0, none⟩)) (by simp only [execOp]) (news_alloc hz hcs) fz_cells hp h
theorem s_alc {S : Nat → Prop} {w0 : World} {T : TypeId} {z : Value} {cs : Array Value} {r : List Res} (F : Fr n a l) (M : Sep S w0 w r) (ho : nth ops k = some ⟨some d, .alloc T, ty, ps, af, g⟩) (hw : wn ops l g = some true) (hc : nth cl k = some .wr) (hlt : Nat.blt d n = true)
    (hz : zeroB P T = some z) (hcs : z.cells = cs) (h : ∀ b w', Sep S w0 w' (blk b (.cells cs T) :: r) → ∀ a', Fr n a' ((d, .pointer (some ⟨b, 0, none⟩)) :: l) → trunT P ops cl [] Q t L a' w') : trunT P ops cl [] Q (.one k t) L a w :=
  s_alcL F M ho hw hc hlt hz hcs (fun _ _ _ => pend_nil) h
/-- A new row. -/
theorem s_bsL {S : Nat → Prop} {w0 : World} {T E : TypeId} {m : Nat} {parts : Array (Nat × Operand)} {vs : Array (Nat × Value)} {cs : Array Value} {r : List Res} (F : Fr n a l) (M : Sep S w0 w r) (ho : nth ops k = some ⟨some d, .buildSlice T m parts, ty, ps, af, g⟩) (hw : wn ops l g = some true) (hc : nth cl k = some .wr) (hlt : Nat.blt d n = true)
    (hvs : parts.map (fun (i, x) => (i, a.eval x)) = vs) (hN : News P (Instr.buildSlice T m vs) (.cells cs E) fun b => .slice (some ⟨b, 0, none⟩) m m)
    (hp : ∀ b w', Sep S w0 w' (blk b (.cells cs E) :: r) → pend bad k L w')
    (h : ∀ b w', Sep S w0 w' (blk b (.cells cs E) :: r) → ∀ a', Fr n a' ((d, .slice (some ⟨b, 0, none⟩) m m) :: l) → trunT P ops cl bad Q t L a' w') : trunT P ops cl bad Q (.one k t) L a w :=
  s_newL F M ho hw hc hlt (s := Instr.buildSlice T m vs) (v := fun b => .slice (some ⟨b, 0, none⟩) m m) (by simp only [execOp, hvs]) hN fz_cells hp h
theorem s_bs {S : Nat → Prop} {w0 : World} {T E : TypeId} {m : Nat} {parts : Array (Nat × Operand)} {vs : Array (Nat × Value)} {cs : Array Value} {r : List Res} (F : Fr n a l) (M : Sep S w0 w r) (ho : nth ops k = some ⟨some d, .buildSlice T m parts, ty, ps, af, g⟩) (hw : wn ops l g = some true) (hc : nth cl k = some .wr) (hlt : Nat.blt d n = true)
    (hvs : parts.map (fun (i, x) => (i, a.eval x)) = vs) (hN : News P (Instr.buildSlice T m vs) (.cells cs E) fun b => .slice (some ⟨b, 0, none⟩) m m)
    (h : ∀ b w', Sep S w0 w' (blk b (.cells cs E) :: r) → ∀ a', Fr n a' ((d, .slice (some ⟨b, 0, none⟩) m m) :: l) → trunT P ops cl [] Q t L a' w') : trunT P ops cl [] Q (.one k t) L a w :=
  s_bsL F M ho hw hc hlt hvs hN (fun _ _ _ => pend_nil) h
/-- The parts of a literal, as values. -/
theorem parts1 {i0 : Nat} {x0 : Operand} {v0 : Value} (F : Fr n a l) (h0 : ev l x0 = some v0) : (#[(i0, x0)] : Array (Nat × Operand)).map (fun (i, x) => (i, a.eval x)) = #[(i0, v0)] := by simp [F.ev h0]
theorem parts2 {i0 i1 : Nat} {x0 x1 : Operand} {v0 v1 : Value} (F : Fr n a l) (h0 : ev l x0 = some v0) (h1 : ev l x1 = some v1) : (#[(i0, x0), (i1, x1)] : Array (Nat × Operand)).map (fun (i, x) => (i, a.eval x)) = #[(i0, v0), (i1, v1)] := by simp [F.ev h0, F.ev h1]
theorem parts3 {i0 i1 i2 : Nat} {x0 x1 x2 : Operand} {v0 v1 v2 : Value} (F : Fr n a l) (h0 : ev l x0 = some v0) (h1 : ev l x1 = some v1) (h2 : ev l x2 = some v2) : (#[(i0, x0), (i1, x1), (i2, x2)] : Array (Nat × Operand)).map (fun (i, x) => (i, a.eval x)) = #[(i0, v0), (i1, v1), (i2, v2)] := by simp [F.ev h0, F.ev h1, F.ev h2]
theorem parts4 {i0 i1 i2 i3 : Nat} {x0 x1 x2 x3 : Operand} {v0 v1 v2 v3 : Value} (F : Fr n a l) (h0 : ev l x0 = some v0) (h1 : ev l x1 = some v1) (h2 : ev l x2 = some v2) (h3 : ev l x3 = some v3) : (#[(i0, x0), (i1, x1), (i2, x2), (i3, x3)] : Array (Nat × Operand)).map (fun (i, x) => (i, a.eval x)) = #[(i0, v0), (i1, v1), (i2, v2), (i3, v3)] := by simp [F.ev h0, F.ev h1, F.ev h2, F.ev h3]
/-- A struct or an array built of its parts. -/
theorem s_bld {T : TypeId} {parts : Array (Nat × Operand)} {vs : Array (Nat × Value)} {v : Value} (F : Fr n a l) (ho : nth ops k = some ⟨some d, .build T parts, ty, ps, af, g⟩) (hw : wn ops l g = some true) (hc : nth cl k = some .ind) (hlt : Nat.blt d n = true)
    (hvs : parts.map (fun (i, x) => (i, a.eval x)) = vs) (hB : ∀ w, (Instr.build T vs).run P w = .ok v w) (h : ∀ a', Fr n a' ((d, v) :: l) → trunT P ops cl bad Q t L a' w) : trunT P ops cl bad Q (.one k t) L a w :=
  s_ind F ho hw hc rfl hlt (fun w' => by simp only [execOp, hvs, Sem.run_bind, hB w', Result.andThen_ok, Sem.run_pure]) h

/-! ### calls -/
theorem run_callFunc {f : FuncId} (hB : callB P f = true) (args : Array Value) (w : World) : (callFunc f args).run P w = .ok (.enter f args) w := by
  unfold callB at hB
  cases hf : P.funcs[f]? with
  | none => rw [hf] at hB; cases hB
  | some fn =>
    rw [hf] at hB
    simp only [Bool.and_eq_true, Bool.not_eq_true', beq_eq_false_iff_ne, ne_eq] at hB
    obtain ⟨h1, h2⟩ := hB
    have h4 : ¬ fn.body = none := by intro e; rw [e] at h2; cases h2
    simp [callFunc, hf, h1, h4]

/-- A contract; wrapped, so that unequal arguments are seen at once. -/
structure Cl (P : Program) (f : FuncId) (args : Array Value) (w : World) (R : Ending → World → Prop) : Prop where
  out : Calls P f args w R

/-- What a contract promises: a value, and what became of the resources. -/
def RetS {α : Type} (m : List Res) (w : World) (post : Value → α → Prop) (mm : α → List Res) (e : Ending) (w' : World) : Prop :=
  ∃ v x, e = .returned v ∧ post v x ∧ Sep (fun b => b ∈ foots m) w w' (mm x)

theorem s_callL {α : Type} {S : Nat → Prop} {w0 : World} {fo : Operand} {args : Array Operand} {tys : Array TypeId} {f : FuncId} {fs cs : Array Value} {vs : List Value} {m r : List Res} {post : Value → α → Prop} {mm : α → List Res}
    (F : Fr n a l) (M : Sep S w0 w (m ++ r)) (ho : nth ops k = some ⟨some d, .call ⟨.value fo, args, tys⟩, ty, ps, af, g⟩) (hw : wn ops l g = some true) (hc : nth cl k = some .wr) (hlt : Nat.blt d n = true)
    (hf : ev l fo = some (.func (.func f) fs cs)) (ha : evs l args.toList = some vs) (hB : callB P f = true) (hcall : ∀ n, Cl P f (fs ++ vs.toArray ++ cs) (w.drewN n) (RetS m (w.drewN n) post mm))
    (hp : ∀ v x w', post v x → Sep S w0 w' (mm x ++ r) → pend bad k L w')
    (h : ∀ v x w', post v x → Sep S w0 w' (mm x ++ r) → ∀ a', Fr n a' ((d, v) :: l) → trunT P ops cl bad Q t L a' w') : trunT P ops cl bad Q (.one k t) L a w := by
  refine s_wrL (R := fun v w' => ∃ x, post v x ∧ Sep S w0 w' (mm x ++ r)) F ho hw hc rfl hlt (fun n => ?_) (fun v w' ⟨x, h1, h2⟩ => hp v x w' h1 h2) (fun v w' ⟨x, h1, h2⟩ => h v x w' h1 h2)
  have hargs : args.map a.eval = vs.toArray := by
    have := F.evs ha
    apply Array.toList_inj.1
    simpa using this
  have hr : (execOp a.eval ⟨some d, .call ⟨.value fo, args, tys⟩, ty, ps, af, g⟩).run P (w.drewN n) = .ok (.enter f (fs ++ vs.toArray ++ cs)) (w.drewN n) := by
    simp only [execOp, resolve, F.ev hf, Deferred.ofValue, hargs, Sem.run_bind, Sem.run_pure, Result.andThen_ok, invoke, run_callFunc hB]
  rw [hr]
  simp only [Goes]
  refine (hcall n).out.mono ?_
  rintro e w' ⟨v, x, rfl, h1, h2⟩
  exact ⟨v, rfl, x, h1, (M.drewN n).frame h2⟩
theorem s_call {α : Type} {S : Nat → Prop} {w0 : World} {fo : Operand} {args : Array Operand} {tys : Array TypeId} {f : FuncId} {vs : List Value} {m r : List Res} {post : Value → α → Prop} {mm : α → List Res}
    (F : Fr n a l) (M : Sep S w0 w (m ++ r)) (ho : nth ops k = some ⟨some d, .call ⟨.value fo, args, tys⟩, ty, ps, af, g⟩) (hw : wn ops l g = some true) (hc : nth cl k = some .wr) (hlt : Nat.blt d n = true)
    (hf : ev l fo = some (.func (.func f) #[] #[])) (ha : evs l args.toList = some vs) (hB : callB P f = true) (hcall : ∀ n, Cl P f vs.toArray (w.drewN n) (RetS m (w.drewN n) post mm))
    (h : ∀ v x w', post v x → Sep S w0 w' (mm x ++ r) → ∀ a', Fr n a' ((d, v) :: l) → trunT P ops cl [] Q t L a' w') : trunT P ops cl [] Q (.one k t) L a w :=
  s_callL F M ho hw hc hlt hf ha hB (fun n => by simpa using hcall n) (fun _ _ _ _ _ => pend_nil) h

/-- A contract of a function that leaves memory alone (but for what is new and nobody's). -/
def RetQ (w : World) (post : Value → Prop) (e : Ending) (w' : World) : Prop := ∃ v, e = .returned v ∧ post v ∧ Chg (fun _ => False) w w'

theorem Sep.quiet {S : Nat → Prop} {w0 w w' : World} {r : List Res} (M : Sep S w0 w r) (h : Chg (fun _ => False) w w') : Sep S w0 w' r := by
  have h' : Sep (fun b => b ∈ foots ([] : List Res)) w w' [] := ⟨⟨by simp, by simp [foots], by simp [foots]⟩, by simp [foots], ⟨h.size, fun b hb _ => h.keep b hb id, h.fz, h.os, h.tape, h.out⟩⟩
  exact Sep.frame (m := []) M h'

theorem s_cqL {S : Nat → Prop} {w0 : World} {fo : Operand} {args : Array Operand} {tys : Array TypeId} {f : FuncId} {vs : List Value} {r : List Res} {post : Value → Prop}
    (F : Fr n a l) (M : Sep S w0 w r) (ho : nth ops k = some ⟨some d, .call ⟨.value fo, args, tys⟩, ty, ps, af, g⟩) (hw : wn ops l g = some true) (hc : nth cl k = some .wr) (hlt : Nat.blt d n = true)
    (hf : ev l fo = some (.func (.func f) #[] #[])) (ha : evs l args.toList = some vs) (hB : callB P f = true) (hcall : ∀ n, Cl P f vs.toArray (w.drewN n) (RetQ (w.drewN n) post))
    (hp : ∀ v w', post v → Sep S w0 w' r → pend bad k L w')
    (h : ∀ v w', post v → Sep S w0 w' r → ∀ a', Fr n a' ((d, v) :: l) → trunT P ops cl bad Q t L a' w') : trunT P ops cl bad Q (.one k t) L a w := by
  refine s_wrL (R := fun v w' => post v ∧ Sep S w0 w' r) F ho hw hc rfl hlt (fun n => ?_) (fun v w' ⟨h1, h2⟩ => hp v w' h1 h2) (fun v w' ⟨h1, h2⟩ => h v w' h1 h2)
  have hargs : args.map a.eval = vs.toArray := by
    have := F.evs ha
    apply Array.toList_inj.1
    simpa using this
  have hr : (execOp a.eval ⟨some d, .call ⟨.value fo, args, tys⟩, ty, ps, af, g⟩).run P (w.drewN n) = .ok (.enter f vs.toArray) (w.drewN n) := by
    simp only [execOp, resolve, F.ev hf, Deferred.ofValue, hargs, Sem.run_bind, Sem.run_pure, Result.andThen_ok, invoke, run_callFunc hB]
    simp
  rw [hr]
  simp only [Goes]
  refine (hcall n).out.mono ?_
  rintro e w' ⟨v, rfl, h1, h2⟩
  exact ⟨v, rfl, h1, (M.drewN n).quiet h2⟩
theorem s_cq {S : Nat → Prop} {w0 : World} {fo : Operand} {args : Array Operand} {tys : Array TypeId} {f : FuncId} {vs : List Value} {r : List Res} {post : Value → Prop}
    (F : Fr n a l) (M : Sep S w0 w r) (ho : nth ops k = some ⟨some d, .call ⟨.value fo, args, tys⟩, ty, ps, af, g⟩) (hw : wn ops l g = some true) (hc : nth cl k = some .wr) (hlt : Nat.blt d n = true)
    (hf : ev l fo = some (.func (.func f) #[] #[])) (ha : evs l args.toList = some vs) (hB : callB P f = true) (hcall : ∀ n, Cl P f vs.toArray (w.drewN n) (RetQ (w.drewN n) post))
    (h : ∀ v w', post v → Sep S w0 w' r → ∀ a', Fr n a' ((d, v) :: l) → trunT P ops cl [] Q t L a' w') : trunT P ops cl [] Q (.one k t) L a w :=
  s_cqL F M ho hw hc hlt hf ha hB hcall (fun _ _ _ _ => pend_nil) h

theorem nd1 {p : Prop} [Decidable p] (h : (!decide p) = true) : ¬ p := by simpa using h
theorem nd0 {p : Prop} [Decidable p] (h : (!decide p) = false) : p := by simpa using h
theorem nt {b : Bool} (h : (!b) = true) : b = false := by simpa using h
theorem nf {b : Bool} (h : (!b) = false) : b = true := by simpa using h

/-! ### entry and return -/
def enum : Nat → List Value → List (Nat × Value)
  | _, [] => []
  | i, v :: vs => (i, v) :: enum (i + 1) vs

theorem lk_enum : ∀ (vs : List Value) (i j : Nat) (v : Value), lk (enum i vs) j = some v → i ≤ j ∧ vs[j - i]? = some v
  | [], _, _, _, h => by simp [enum, lk] at h
  | u :: vs, i, j, v, h => by
    simp only [enum, lk] at h
    split at h
    · rename_i e
      have e := Nat.eq_of_beq_eq_true e
      subst e
      simp only [Option.some.injEq] at h
      simp [h]
    · obtain ⟨h1, h2⟩ := lk_enum vs (i + 1) j v h
      refine ⟨by omega, ?_⟩
      rw [show j - i = (j - (i + 1)) + 1 by omega]
      simpa using h2

theorem enter {f : FuncId} {fn : Func} {c : Code} {vs : List Value} {R : Ending → World → Prop} (hf : P.funcs[f]? = some fn) (hb : fn.body = some c) (hn : fn.ntmps = n) (hvs : Nat.ble vs.length n = true)
    (h : ∀ a, Fr n a (enum 0 vs) → c.wp P (bodyPost P fn R) a w) : Cl P f vs.toArray w R := by
  have hle : vs.length ≤ n := Nat.le_of_ble_eq_true hvs
  refine .mk <| calls_of_wp hf hb (h _ ⟨by simp [hn]; omega, rfl, fun i v hv => ?_⟩)
  obtain ⟨_, h2⟩ := lk_enum vs 0 i v hv
  simp only [Nat.sub_zero] at h2
  have hlt : i < vs.length := (List.getElem?_eq_some_iff.1 h2).1
  simp only
  rw [Array.getElem?_append_left (by simpa using hlt)]
  simpa using h2

section
variable {fn : Func} {R : Ending → World → Prop}
theorem ret0 (F : Fr n a l) (hr : fn.results = #[]) (h : R (.returned (.tuple #[])) w) : bodyPost P fn R .ret a w ∧ bodyPost P fn R .normal a w := by
  have : (results fn a.tmps).run P w = .ok (.tuple #[]) w := by simp [results, hr]
  exact ⟨⟨F.df, _, this, h⟩, F.df, _, this, h⟩
theorem ret1 {i : Nat} {v : Value} (F : Fr n a l) (hr : fn.results = #[.tmp i]) (hv : lk l i = some v) (h : R (.returned v) w) : bodyPost P fn R .ret a w := by
  refine ⟨F.df, v, ?_, h⟩
  simp [results, hr, F.at_ i v hv]
theorem ret2 {i j : Nat} {u v : Value} (F : Fr n a l) (hr : fn.results = #[.tmp i, .tmp j]) (hu : lk l i = some u) (hv : lk l j = some v) (h : R (.returned (.tuple #[u, v])) w) : bodyPost P fn R .ret a w := by
  refine ⟨F.df, _, ?_, h⟩
  simp [results, hr, F.at_ i u hu, F.at_ j v hv]
end

/-! ### statements -/
theorem c_if {c : Operand} {x y : Code} {b : Bool} {Q : Exit → Act → World → Prop} (F : Fr n a l) (hc : ev l c = some (.bool b)) (h1 : b = true → Fr n a l → x.wp P Q a w) (h0 : b = false → Fr n a l → y.wp P Q a w) : (Code.cond c x y).wp P Q a w :=
  wp_cond_split (F.ev hc) (fun h => h1 h F) (fun h => h0 h F)
theorem c_t {c : Operand} {x y : Code} {Q : Exit → Act → World → Prop} (F : Fr n a l) (hc : ev l c = some (.bool true)) (h : x.wp P Q a w) : (Code.cond c x y).wp P Q a w := wp_cond_true (F.ev hc) h
theorem c_f {c : Operand} {x y : Code} {Q : Exit → Act → World → Prop} (F : Fr n a l) (hc : ev l c = some (.bool false)) (h : y.wp P Q a w) : (Code.cond c x y).wp P Q a w := wp_cond_false (F.ev hc) h
end
end Go.Proofs.Ytboibdmflblphaa.Fw
