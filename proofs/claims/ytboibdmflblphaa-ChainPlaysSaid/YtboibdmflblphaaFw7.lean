/-
  Results in cells; cuts, loops; struct values compared; elements of slices.
-/
import Derived.Test.YtboibdmflblphaaFw6
import Derived.Deep.LoopGhost
import Derived.Laws.StructEq
namespace Go.Proofs.Ytboibdmflblphaa.Fw
open Go

section
variable {P : Program} {n : Nat} {a : Act} {w : World} {l : List (Nat × Value)}

/-! ### results, some of them in cells -/
def RvOk (P : Program) (a : Act) (w : World) : ResultVar → Value → Prop
  | .tmp t, v => a.tmps.getD t undef = v
  | .cell c t, v => ∃ p, a.tmps.getD c undef = .pointer (some p) ∧ (loadVar t p).run P w = .ok v w

theorem rv_t {i : Nat} {v : Value} (F : Fr n a l) (h : lk l i = some v) : RvOk P a w (.tmp i) v := by
  show a.tmps.getD i undef = v
  simp [F.at_ i v h]
theorem rv_s {i : Nat} {t : TypeId} {p : Addr} {v : Value} (F : Fr n a l) (h : lk l i = some (.pointer (some p))) (hs : scalB P t = true) (hv : w.cell? p = some v) : RvOk P a w (.cell i t) v :=
  ⟨p, by simp [F.at_ i _ h], scal_load hs hv⟩
theorem rv_a {i m : Nat} {t : TypeId} {p : Addr} {cs : Array Value} (F : Fr n a l) (h : lk l i = some (.pointer (some p))) (hs : aggB P t = some m) (hm : cs.size = m) (hv : ∀ j v, cs[j]? = some v → w.cell? (p.add j) = some v) : RvOk P a w (.cell i t) (.agg cs) :=
  ⟨p, by simp [F.at_ i _ h], agg_load hs hm hv⟩

theorem rv_cases {r : ResultVar} {v : Value} (h : RvOk P a w r v) : (∃ t, r = .tmp t ∧ a.tmps.getD t undef = v) ∨ ∃ c t p, r = .cell c t ∧ a.tmps.getD c undef = .pointer (some p) ∧ (loadVar t p).run P w = .ok v w := by
  cases r with
  | tmp t => exact .inl ⟨t, rfl, h⟩
  | cell c t => obtain ⟨p, h1, h2⟩ := h; exact .inr ⟨c, t, p, rfl, h1, h2⟩

variable {fn : Func} {R : Ending → World → Prop}
theorem rt1 {r0 : ResultVar} {v0 : Value} (F : Fr n a l) (hr : fn.results = #[r0]) (h0 : RvOk P a w r0 v0) (h : R (.returned v0) w) : bodyPost P fn R .ret a w := by
  refine ⟨F.df, _, ?_, h⟩
  unfold results
  rw [hr]
  rcases rv_cases h0 with ⟨t0, rfl, e0⟩ | ⟨c0, t0, p0, rfl, e0, g0⟩
  all_goals simp_all [-Array.getD_eq_getD_getElem?, asAddr]
theorem rt2 {r0 r1 : ResultVar} {v0 v1 : Value} (F : Fr n a l) (hr : fn.results = #[r0, r1]) (h0 : RvOk P a w r0 v0) (h1 : RvOk P a w r1 v1) (h : R (.returned (.tuple #[v0, v1])) w) : bodyPost P fn R .ret a w := by
  refine ⟨F.df, _, ?_, h⟩
  unfold results
  rw [hr]
  rcases rv_cases h0 with ⟨t0, rfl, e0⟩ | ⟨c0, t0, p0, rfl, e0, g0⟩
  all_goals rcases rv_cases h1 with ⟨t1, rfl, e1⟩ | ⟨c1, t1, p1, rfl, e1, g1⟩
  all_goals simp_all [-Array.getD_eq_getD_getElem?, asAddr]
theorem rt3 {r0 r1 r2 : ResultVar} {v0 v1 v2 : Value} (F : Fr n a l) (hr : fn.results = #[r0, r1, r2]) (h0 : RvOk P a w r0 v0) (h1 : RvOk P a w r1 v1) (h2 : RvOk P a w r2 v2) (h : R (.returned (.tuple #[v0, v1, v2])) w) : bodyPost P fn R .ret a w := by
  refine ⟨F.df, _, ?_, h⟩
  unfold results
  rw [hr]
  rcases rv_cases h0 with ⟨t0, rfl, e0⟩ | ⟨c0, t0, p0, rfl, e0, g0⟩
  all_goals rcases rv_cases h1 with ⟨t1, rfl, e1⟩ | ⟨c1, t1, p1, rfl, e1, g1⟩
  all_goals rcases rv_cases h2 with ⟨t2, rfl, e2⟩ | ⟨c2, t2, p2, rfl, e2, g2⟩
  all_goals simp_all [-Array.getD_eq_getD_getElem?, asAddr]
/-! ### cuts and loops -/
theorem wp_cut {c : Code} {Q : Exit → Act → World → Prop} (R : Act → World → Prop) (h1 : c.wp P (Exit.then R Q) a w) (h2 : ∀ a w, R a w → Q .normal a w) : c.wp P Q a w :=
  wp_mono h1 fun e a w h => by
    cases e with
    | normal => exact h2 a w h
    | _ => exact h
end

section
variable {P : Program} {ops : List Oper} {cl : List Cls} {bad : List (Nat × Nat)} {Q : Act → World → Prop} {n k d : Nat} {t : Ot} {L : Pend} {a : Act} {w : World} {l : List (Nat × Value)}
variable {ty : TypeId} {ps : String} {af : Array Edge} {g : Option (Nat × Bool)}
theorem t_two {x y : Nat} {tx ty : Ot} (h1 : trunT P ops cl bad Q (.one x tx) L a w) (h2 : trunT P ops cl bad Q (.one y ty) L a w) : trunT P ops cl bad Q (.two x y tx ty) L a w := ⟨h1, h2⟩

theorem s_callP {α : Type} {S : Nat → Prop} {w0 : World} {fo : Operand} {args : Array Operand} {tys : Array TypeId} {f : FuncId} {vs : List Value} {m r : List Res} {post : Value → α → Prop} {mm : α → List Res}
    (F : Fr n a l) (M : Sep S w0 w (m ++ r)) (ho : nth ops k = some ⟨some d, .call ⟨.value fo, args, tys⟩, ty, ps, af, g⟩) (hw : wn ops l g = some true) (hc : nth cl k = some .wr) (hlt : Nat.blt d n = true)
    (hf : ev l fo = some (.func (.func f) #[] #[])) (ha : evs l args.toList = some vs) (hB : callB P f = true) (hcall : ∀ n, Cl P f vs.toArray (w.drewN n) (RetS m (w.drewN n) post mm))
    (hp : ∀ v x w', post v x → Sep S w0 w' (mm x ++ r) → pend bad k L w')
    (h : ∀ v x w', post v x → Sep S w0 w' (mm x ++ r) → ∀ a', Fr n a' ((d, v) :: l) → trunT P ops cl bad Q t L a' w') : trunT P ops cl bad Q (.one k t) L a w :=
  s_callL F M ho hw hc hlt hf ha hB (fun n => by simpa using hcall n) hp h

theorem setCells_get : ∀ (vs : List Value) (arr : Array Value) (off i : Nat), (setCells arr off vs)[i]? = if off ≤ i ∧ i < off + vs.length ∧ i < arr.size then vs[i - off]? else arr[i]?
  | [], arr, off, i => by
    rw [if_neg (by simp; omega)]; rfl
  | v :: vs, arr, off, i => by
    simp only [setCells]
    rw [setCells_get vs, Array.size_setIfInBounds, Array.getElem?_setIfInBounds]
    by_cases h : off = i
    · subst h
      rw [if_neg (by omega)]
      by_cases hs : off < arr.size
      · simp [hs]
      · simp [hs]
    · by_cases h2 : off + 1 ≤ i ∧ i < off + 1 + vs.length ∧ i < arr.size
      · rw [if_pos h2, if_pos ⟨by omega, by simp; omega, h2.2.2⟩, show i - off = (i - (off + 1)) + 1 by omega]; rfl
      · rw [if_neg h2, if_neg h, if_neg (fun h3 => h2 ⟨by omega, by have := h3.2.1; simp at this; omega, h3.2.2⟩)]
theorem setCells_all {arr vs : Array Value} (h : vs.size = arr.size) : setCells arr 0 vs.toList = vs := by
  apply Array.ext_getElem?
  intro i
  rw [setCells_get]
  by_cases hi : i < arr.size
  · rw [if_pos ⟨Nat.zero_le _, by simp; omega, hi⟩]; simp
  · rw [if_neg (fun h' => hi h'.2.2), Array.getElem?_eq_none (by omega), Array.getElem?_eq_none (by omega)]
theorem s_stWL {S : Nat → Prop} {w0 : World} {b m : Nat} {T t' : TypeId} {x y : Operand} {r : List Res} {cs vs : Array Value} (F : Fr n a l) (M : Sep S w0 w (blk b (.cells cs T (0, 0)) :: r)) (ho : nth ops k = some ⟨none, .store t' x y, ty, ps, af, g⟩) (hw : wn ops l g = some true) (hc : nth cl k = some .wr)
    (hs : sizeB P t' = some m) (hx : ev l x = some (.pointer (some ⟨b, 0, none⟩))) (hy : ev l y = some (.agg vs)) (hm : vs.size = m) (hv : vs.toList.all oneC = true) (hcs : cs.size = m)
    (hp : ∀ w', Sep S w0 w' (blk b (.cells vs T (0, 0)) :: r) → pend bad k L w')
    (h : ∀ w', Sep S w0 w' (blk b (.cells vs T (0, 0)) :: r) → trunT P ops cl bad Q t L a w') : trunT P ops cl bad Q (.one k t) L a w := by
  have e := setCells_all (hm.trans hcs.symm)
  exact s_staL F M ho hw hc hs hx hy hm hv (by omega) (fun w' => by rw [e]; exact hp w') (fun w' => by rw [e]; exact h w')
theorem s_stW {S : Nat → Prop} {w0 : World} {b m : Nat} {T t' : TypeId} {x y : Operand} {r : List Res} {cs vs : Array Value} (F : Fr n a l) (M : Sep S w0 w (blk b (.cells cs T (0, 0)) :: r)) (ho : nth ops k = some ⟨none, .store t' x y, ty, ps, af, g⟩) (hw : wn ops l g = some true) (hc : nth cl k = some .wr)
    (hs : sizeB P t' = some m) (hx : ev l x = some (.pointer (some ⟨b, 0, none⟩))) (hy : ev l y = some (.agg vs)) (hm : vs.size = m) (hv : vs.toList.all oneC = true) (hcs : cs.size = m)
    (h : ∀ w', Sep S w0 w' (blk b (.cells vs T (0, 0)) :: r) → trunT P ops cl [] Q t L a w') : trunT P ops cl [] Q (.one k t) L a w :=
  s_stWL F M ho hw hc hs hx hy hm hv hcs (fun _ _ => pend_nil) h

/-- Values of a struct type, compared. -/
structure EqV (P : Program) (t : TypeId) {κ : Type} [DecidableEq κ] (enc : κ → List Value) : Prop where
  gd : P.eqGuardType P.depth t = false
  eq : ∀ (k k' : κ) (w : World), (Op.equalIn 10000 t (.agg (enc k).toArray) (.agg (enc k').toArray)).run P w = .ok (decide (k = k')) w

theorem s_sne {κ : Type} [DecidableEq κ] {enc : κ → List Value} {tx ty' : TypeId} {x y : Operand} {u v : κ} (E : EqV P tx enc) (F : Fr n a l) (ho : nth ops k = some ⟨some d, .binOp .neq tx x y ty', ty, ps, af, g⟩) (hw : wn ops l g = some true) (hc : nth cl k = some .ind) (hlt : Nat.blt d n = true)
    (hx : ev l x = some (.agg (enc u).toArray)) (hy : ev l y = some (.agg (enc v).toArray)) (h : ∀ a', Fr n a' ((d, .bool (!decide (u = v))) :: l) → trunT P ops cl bad Q t L a' w) : trunT P ops cl bad Q (.one k t) L a w := by
  refine s_ind F ho hw hc rfl hlt (fun w' => ?_) h
  have h1 := run_neq_struct (P := P) w' tx (enc u).toArray (enc v).toArray
  rw [E.eq u v w'] at h1
  simp [execOp, F.ev hx, F.ev hy, run_eqGuard_agg w' _ tx x y _ _ E.gd, h1]
end

section
variable {P : Program} {ops : List Oper} {cl : List Cls} {bad : List (Nat × Nat)} {Q : Act → World → Prop} {n k d : Nat} {t : Ot} {L : Pend} {a : Act} {w : World} {l : List (Nat × Value)}
variable {ty : TypeId} {ps : String} {af : Array Edge} {g : Option (Nat × Bool)}
theorem s_isA {T e : TypeId} {x y : Operand} {A : Option Addr} {sz b off m c : Nat} {i : Int} (hA : A = some ⟨b, off, none⟩) (F : Fr n a l) (ho : nth ops k = some ⟨some d, .indexAddr T x y, ty, ps, af, g⟩) (hw : wn ops l g = some true) (hc : nth cl k = some .ind) (hlt : Nat.blt d n = true)
    (hT : slcB P T = some (e, sz)) (hx : ev l x = some (.slice A m c)) (hy : ev l y = some (.int .i64 i)) (h0 : 0 ≤ i) (h1 : i < m) (h : ∀ a', Fr n a' ((d, .pointer (some ⟨b, off + i.toNat * sz, none⟩)) :: l) → trunT P ops cl bad Q t L a' w) : trunT P ops cl bad Q (.one k t) L a w := by
  subst hA
  exact s_is F ho hw hc hlt hT hx hy h0 h1 h
end

/-! ### elements -/
theorem RdSl.ptr {h : Array Obj} {A : Option Addr} {m c sz : Nat} {xs : List Value} (hs : RdSl h (.slice A m c) m sz xs) (h0 : 0 < m) : ∃ b off, A = some ⟨b, off, none⟩ := by
  obtain ⟨b, off, _, _, _, e, _⟩ := hs.at_ h0
  exact ⟨b, off, e⟩
theorem rd_el0 {α : Type} {enc : α → List Value} {w : World} {b off m c sz i f : Nat} {l : List α} {e : α} {v : Value} (hs : RdSl w.heap (.slice (some ⟨b, off, none⟩) m c) m sz (l.flatMap enc)) (henc : ∀ e, (enc e).length = sz)
    (hi : l[i]? = some e) (hf : nth (enc e) f = some v) : w.cell? ⟨b, off + i * sz + f, none⟩ = some v := by
  rw [nth_eq] at hf
  have hlt : i < l.length := (List.getElem?_eq_some_iff.1 hi).1
  have hf' : f < sz := by rw [← henc e]; exact (List.getElem?_eq_some_iff.1 hf).1
  have hm : 0 < m := by
    have h1 := hs.1
    rw [flat_len henc] at h1
    rcases Nat.eq_zero_or_pos m with h0 | h0
    · subst h0
      have : 0 < l.length * sz := Nat.mul_pos (by omega) (by omega)
      omega
    · exact h0
  obtain ⟨b', off', arr, T, fz, e1, hb, hat⟩ := hs.at_ hm
  injection e1 with e1
  injection e1 with e1 e2
  subst e1; subst e2
  exact el_cell hb hat henc hi hf
theorem rd_els0 {α : Type} {enc : α → List Value} {w : World} {b off m c sz i : Nat} {l : List α} {e : α} (hs : RdSl w.heap (.slice (some ⟨b, off, none⟩) m c) m sz (l.flatMap enc)) (henc : ∀ e, (enc e).length = sz)
    (hi : l[i]? = some e) : ∀ j v, (enc e).toArray[j]? = some v → w.cell? ((⟨b, off + i * sz, none⟩ : Addr).add j) = some v := fun j v hv => by
  rw [add_at]
  exact rd_el0 hs henc hi (by rw [nth_eq]; simpa using hv)
theorem rd_el {α : Type} {enc : α → List Value} {w : World} {A : Option Addr} {b off m c sz i f : Nat} {l : List α} {e : α} {v : Value} (hA : A = some ⟨b, off, none⟩) (hs : RdSl w.heap (.slice A m c) m sz (l.flatMap enc)) (henc : ∀ e, (enc e).length = sz)
    (hi : l[i]? = some e) (hf : nth (enc e) f = some v) : w.cell? ⟨b, off + i * sz + f, none⟩ = some v := by
  subst hA; exact rd_el0 hs henc hi hf
theorem rd_els {α : Type} {enc : α → List Value} {w : World} {A : Option Addr} {b off m c sz i : Nat} {l : List α} {e : α} (hA : A = some ⟨b, off, none⟩) (hs : RdSl w.heap (.slice A m c) m sz (l.flatMap enc)) (henc : ∀ e, (enc e).length = sz)
    (hi : l[i]? = some e) : ∀ j v, (enc e).toArray[j]? = some v → w.cell? ((⟨b, off + i * sz, none⟩ : Addr).add j) = some v := by
  subst hA; exact rd_els0 hs henc hi
theorem get_of {α : Type} {l : List α} {i : Int} (h0 : 0 ≤ i) (h1 : i < l.length) : ∃ e, l[i.toNat]? = some e := ⟨l[i.toNat]'(by omega), List.getElem?_eq_getElem _⟩
theorem take_succ {α : Type} {l : List α} {i : Int} {e : α} (h0 : 0 ≤ i) (he : l[i.toNat]? = some e) : l.take (i + 1).toNat = l.take i.toNat ++ [e] := by
  rw [show (i + 1).toNat = i.toNat + 1 by omega, List.take_add_one, he]; rfl
theorem all_take {α : Type} {l : List α} {i : Int} {e : α} {p : α → Prop} (h : ∀ m ∈ l.take i.toNat, p m) (h0 : 0 ≤ i) (he : l[i.toNat]? = some e) (hp : p e) : ∀ m ∈ l.take (i + 1).toNat, p m := by
  rw [take_succ h0 he]
  intro m hm
  rcases List.mem_append.1 hm with hm | hm
  · exact h m hm
  · simp at hm; subst hm; exact hp
theorem take_all {α : Type} {l : List α} {i : Int} (h : ¬ i < l.length) : l.take i.toNat = l := List.take_of_length_le (by omega)
theorem Ro.nil {w0 : World} {r : Res} (h : Ro (fun _ => False) w0 r) : Ro (fun b => b ∈ foots ([] : List Res)) w0 r := ⟨h.ok, fun b hb => ⟨(h.lt b hb).1, by simp [foots]⟩⟩
theorem flat_one {α : Type} {enc : α → List Value} (h : ∀ e, (enc e).all oneC = true) (l : List α) : (l.flatMap enc).all oneC = true := by
  rw [List.all_flatMap]
  exact List.all_eq_true.2 fun e _ => h e
theorem Sep.blkEq {S : Nat → Prop} {w0 w : World} {r : List Res} {b : Nat} {o o' : Obj} (M : Sep S w0 w (blk b o :: r)) (h : o = o') : Sep S w0 w (blk b o' :: r) := by
  subst h; exact M
theorem parts0 {n : Nat} {a : Act} {l : List (Nat × Value)} (_ : Fr n a l) : (#[] : Array (Nat × Operand)).map (fun (i, x) => (i, a.eval x)) = #[] := by simp
theorem Own.left {h : Array Obj} {m r : List Res} (o : Own h (m ++ r)) : Own h m :=
  ⟨fun x hx => o.ok x (List.mem_append_left _ hx), fun b hb => o.lt b (by simp only [foots, List.flatMap_append, List.mem_append] at hb ⊢; exact .inl hb), by
    have := o.nd
    simp only [foots, List.flatMap_append] at this
    exact (List.nodup_append.1 this).1⟩
theorem Cl.monoQ {P : Program} {f : FuncId} {args : Array Value} {w : World} {p q : Value → Prop} (h : Cl P f args w (RetQ w p)) (hpq : ∀ v, p v → q v) : Cl P f args w (RetQ w q) :=
  ⟨h.out.mono fun _ _ ⟨v, e, hp, hc⟩ => ⟨v, e, hpq v hp, hc⟩⟩
end Go.Proofs.Ytboibdmflblphaa.Fw
