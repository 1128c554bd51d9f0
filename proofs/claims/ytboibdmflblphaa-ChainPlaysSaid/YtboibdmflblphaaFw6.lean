/-
  Steps on maps; slices: what is read, what is owned, append.
-/
import Derived.Test.YtboibdmflblphaaFw5
namespace Go.Proofs.Ytboibdmflblphaa.Fw
open Go

section
variable {P : Program} {ops : List Oper} {cl : List Cls} {bad : List (Nat × Nat)} {Q : Act → World → Prop} {n k d : Nat} {t : Ot} {L : Pend} {a : Act} {w : World} {l : List (Nat × Value)}
variable {ty : TypeId} {ps : String} {af : Array Edge} {g : Option (Nat × Bool)}
variable {κ : Type} [DecidableEq κ] {enc : κ → Value} {kt : TypeId}

end

/-! ### slices -/
/-- What a slice that is only read holds. -/
def RdSl (h : Array Obj) (x : Value) (m sz : Nat) (xs : List Value) : Prop :=
  xs.length = m * sz ∧ ∃ A c, x = .slice A m c ∧ m ≤ c ∧ (0 < m → ∃ b off arr T fz, A = some ⟨b, off, none⟩ ∧ h[b]? = some (.cells arr T fz) ∧ ∀ j u, xs[j]? = some u → arr[off + j]? = some u)

/-- An owned slice. -/
def SlOk (h : Array Obj) (v : Value) (n : Nat) (E : TypeId) (sz : Nat) (xs : List Value) : Prop :=
  xs.length = n * sz ∧ ((v = .slice none 0 0 ∧ n = 0) ∨ ∃ b cap rest, v = .slice (some ⟨b, 0, none⟩) n cap ∧ n ≤ cap ∧ h[b]? = some (.cells (xs ++ rest).toArray E (0, 0)) ∧ (xs ++ rest).length = cap * sz)

def ownB : Value → List Nat
  | .slice (some a) _ _ => [a.block]
  | _ => []

def slR (v : Value) (n : Nat) (E : TypeId) (sz : Nat) (xs : List Value) : Res :=
  ⟨3, ownB v, fun h => SlOk h v n E sz xs, fun h h' hb ⟨h1, h2⟩ => ⟨h1, h2.imp id fun ⟨b, cap, rest, e, hc, hh, hl⟩ => by subst e; exact ⟨b, cap, rest, rfl, hc, (hb b (by simp [ownB])).trans hh, hl⟩⟩⟩

theorem SlOk.rd {h : Array Obj} {v : Value} {n : Nat} {E : TypeId} {sz : Nat} {xs : List Value} (hs : SlOk h v n E sz xs) : RdSl h v n sz xs := by
  obtain ⟨h1, ⟨rfl, rfl⟩ | ⟨b, cap, rest, rfl, hc, hh, hl⟩⟩ := hs
  · exact ⟨h1, none, 0, rfl, Nat.le_refl _, fun h => absurd h (by omega)⟩
  · refine ⟨h1, _, cap, rfl, hc, fun _ => ⟨b, 0, _, E, (0, 0), rfl, hh, fun j u hu => ?_⟩⟩
    have hlt : j < xs.length := (List.getElem?_eq_some_iff.1 hu).1
    simp [List.getElem?_append_left hlt, hu]

theorem SlOk.nil {h : Array Obj} {E : TypeId} {sz : Nat} : SlOk h (.slice none 0 0) 0 E sz [] := ⟨by simp, .inl ⟨rfl, rfl⟩⟩
theorem Sep.nilS {S : Nat → Prop} {w0 w : World} {r : List Res} (M : Sep S w0 w r) (E : TypeId) (sz : Nat) : Sep S w0 w (slR (.slice none 0 0) 0 E sz [] :: r) := by
  have : foots (slR (.slice none 0 0) 0 E sz [] :: r) = foots r := by simp [foots, slR, ownB]
  refine ⟨⟨fun x hx => ?_, this ▸ M.own.lt, this ▸ M.own.nd⟩, this ▸ M.mine, M.chg⟩
  rcases List.mem_cons.1 hx with rfl | hx
  · exact SlOk.nil
  · exact M.own.ok x hx

theorem run_loadCells {P : Program} {p : Addr} {cs : Array Value} {w' : World} (h : ∀ j v, cs[j]? = some v → w'.cell? (p.add j) = some v) : (loadCells p cs.size).run P w' = .ok cs w' := by
  have key : ∀ (r i : Nat) (acc : Array Value), i + r = cs.size → acc = cs.extract 0 i → (loadCellsFrom p i r acc).run P w' = .ok cs w' := by
    intro r
    induction r with
    | zero =>
      intro i acc hi hacc
      simp only [loadCellsFrom, Sem.run_pure]
      have : i = cs.size := by omega
      rw [hacc, this]
      simp
    | succ r ih =>
      intro i acc hi hacc
      have hlt : i < cs.size := by omega
      have hc := h i cs[i] (by simp [hlt])
      simp only [loadCellsFrom, Sem.run_bind, load]
      rw [show (Sem.load Mode.plain (p.add i) Sem.pure).run P w' = .ok cs[i] w' from by simp [Sem.run, hc]]
      simp only [Result.andThen_ok]
      refine ih (i + 1) _ (by omega) ?_
      rw [hacc]
      apply Array.ext
      · simp only [Array.size_push, Array.size_extract]; omega
      · intro j h1 h2
        simp only [Array.getElem_push, Array.getElem_extract, Array.size_extract]
        split
        · simp
        · rename_i hne
          simp at h1 hne
          have : j = i := by omega
          subst this
          simp
  exact key cs.size 0 #[] (by omega) (by simp)

theorem run_firstCells {P : Program} {w : World} {x : Value} {m sz : Nat} {xs : List Value} (h : RdSl w.heap x m sz xs) : (Builtin.firstCells sz m x).run P w = .ok xs.toArray w := by
  obtain ⟨h1, A, c, rfl, _, h2⟩ := h
  rcases Nat.eq_zero_or_pos m with h0 | h0
  · subst h0
    have : xs = [] := List.eq_nil_of_length_eq_zero (by simpa using h1)
    subst this
    cases A with
    | none => rfl
    | some ad => simp [Builtin.firstCells, loadCells, loadCellsFrom]
  · obtain ⟨b, off, arr, T, fz, rfl, hb, hc⟩ := h2 h0
    have := run_loadCells (P := P) (p := ⟨b, off, none⟩) (cs := xs.toArray) (w' := w) (fun j v hv => by rw [add_at]; exact cell_of_blk hb (hc j v (by simpa using hv)))
    simp only [List.size_toArray] at this
    rw [h1] at this
    exact this

def bytesB (P : Program) (t : TypeId) : Option Nat := (P.info? t).map (·.bytes)

theorem setCells_append (xs vs : List Value) (rest : List Value) (hl : vs.length ≤ rest.length) : setCells (xs ++ rest).toArray xs.length vs = (xs ++ (vs ++ rest.drop vs.length)).toArray := by
  induction vs generalizing xs rest with
  | nil => simp [setCells]
  | cons v vs ih =>
    cases rest with
    | nil => simp at hl
    | cons y rest =>
      simp only [setCells, List.setIfInBounds_toArray]
      have e : (xs ++ y :: rest).set xs.length v = (xs ++ [v]) ++ rest := by simp
      rw [e]
      have := ih (xs ++ [v]) rest (by simpa using hl)
      simp only [List.length_append, List.length_singleton] at this
      rw [this]
      simp

theorem run_append {P : Program} {T ty E : TypeId} {sz by_ m : Nat} {z v x : Value} {n : Nat} {xs news : List Value} {S : Nat → Prop} {w0 w : World} {r : List Res}
    (ht : slcB P T = some (E, sz)) (hz : zeroB P E = some z) (hby : bytesB P E = some by_) (M : Sep S w0 w (slR v n E sz xs :: r)) (hx : RdSl w.heap x m sz news) (h1 : news.all oneC = true) (hzs : z.cells.size = sz)
    (hb : (n + m) * by_ ≤ 140737488355328) (hby0 : 0 < by_) :
    ∃ v' w', (Builtin.append_ #[T, T] ty #[v, x]).run P w = .ok v' w' ∧ Sep S w0 w' (slR v' (n + m) E sz (xs ++ news) :: r) := by
  obtain ⟨i, hu, hi, hisz⟩ := slcB_spec ht
  have hib : i.bytes = by_ := by unfold bytesB at hby; rw [hi] at hby; simpa using hby
  have hzv : ∀ w : World, (zeroValue E).run P w = .ok z w := fun w => by
    unfold zeroB at hz
    rw [hi] at hz
    simp only [Option.bind_some] at hz
    simp [zeroValue, typeInfo, hi, hz]
  have hsv : ∀ w : World, (sizeOf E).run P w = .ok sz w := fun w => by simp [sizeOf, typeInfo, hi, hisz]
  have hti : ∀ w : World, (typeInfo E).run P w = .ok i w := fun w => by simp [typeInfo, hi]
  have huT : ∀ w : World, (underlying T).run P w = .ok (.slice E) w := fun w => run_underlying hu w
  obtain ⟨hxl, hv⟩ := M.h0
  have hx0 := hx
  obtain ⟨hnl, A, c, rfl, hmc, _⟩ := hx
  have grow : ∀ (base : Option Addr) (cap : Nat), v = .slice base n cap → cap < n + m → ∃ v' w', (Builtin.append_ #[T, T] ty #[v, .slice A m c]).run P w = .ok v' w' ∧ Sep S w0 w' (slR v' (n + m) E sz (xs ++ news) :: r) := by
    intro base cap hv hlt
    subst hv
    have hold : ∀ k, (Builtin.firstCells sz n (.slice base n cap)).run P (w.drewN k) = .ok xs.toArray (w.drewN k) := fun k => run_firstCells (h := (SlOk.rd (h := (w.drewN k).heap) (v := .slice base n cap) (E := E) (xs := xs) (by exact M.h0)))
    have hnew : ∀ k, (Builtin.firstCells sz m (.slice A m c)).run P (w.drewN k) = .ok news.toArray (w.drewN k) := fun k => run_firstCells (w := w.drewN k) hx0
    have hnc : ¬ (n + m ≤ cap) := by omega
    have hcapb : ¬ (Builtin.nextslicecap (n + m) cap * by_ > 2 ^ 48) := by
      have h1 := nextslicecap_le hlt
      have h2 := Nat.mul_le_mul_right by_ h1
      have h3 : 2 * (n + m) * by_ = 2 * ((n + m) * by_) := by rw [Nat.mul_assoc]
      omega
    let nc := (Question.appendCap (n + m) cap E).cut (w.tape w.drawn (.appendCap (n + m) cap E))
    have hch : (choose (.appendCap (n + m) cap E)).run P w = .ok nc (w.drewN 1) := by
      simp [choose, Sem.run, Question.forced, World.drewN, nc]
    have hask : ∀ q (w : World), (askRoom q).run P w = .ok () w := fun q w => by
      unfold askRoom; split <;> simp [mark, Sem.run]
    have hncge : n + m ≤ nc := by simp [nc, Question.cut]
    have hrun : (Builtin.append_ #[T, T] ty #[.slice base n cap, .slice A m c]).run P w = .ok (.slice (some ⟨w.heap.size, 0, none⟩) (n + m) nc) { (w.drewN 1) with heap := w.heap.push (.cells (xs.toArray ++ news.toArray ++ Builtin.zeroCells z.cells (nc - (n + m))) E) } := by
      unfold Builtin.append_
      simp only [List.getElem?_toArray, List.getElem?_cons_zero, List.getElem?_cons_succ, Sem.run_bind, huT, hsv, Result.andThen_ok, Sem.run_pure, Bool.false_eq_true, if_false, Builtin.lenOf]
      rw [if_neg hnc]
      simp only [Sem.run_bind, hti, Result.andThen_ok, Bool.not_false, if_true, Sem.run_ite, Sem.run_pure]
      rw [if_neg (by rintro ⟨_, h | h⟩ <;> omega), if_neg (by rw [hib]; exact hcapb)]
      simp only [hch, Result.andThen_ok, hask, hold, hnew, hzv]
      rfl
    have hM1 := (M.tl.drewN 1).alloc (.cells (xs.toArray ++ news.toArray ++ Builtin.zeroCells z.cells (nc - (n + m))) E) (fun _ _ _ h => by cases h; rfl)
    refine ⟨_, _, hrun, ?_⟩
    refine hM1.turn (q := slR (.slice (some ⟨w.heap.size, 0, none⟩) (n + m) nc) (n + m) E sz (xs ++ news)) rfl fun hh => ⟨by rw [List.length_append, hxl, hnl, Nat.add_mul], .inr ⟨w.heap.size, nc, (Builtin.zeroCells z.cells (nc - (n + m))).toList, rfl, hncge, ?_, ?_⟩⟩
    · rw [show (w.drewN 1).heap = w.heap from rfl] at hh
      refine hh.trans ?_
      congr 1
      simp
    · simp only [List.length_append, hxl, hnl, Array.length_toList, Builtin.zeroCells, Array.size_map, Array.size_range, hzs]
      rw [← Nat.add_mul, ← Nat.add_mul]
      congr 1
      omega
  rcases hv with ⟨rfl, rfl⟩ | ⟨b, cap, rest, rfl, hcap, hbk, hlen⟩
  · rcases Nat.eq_zero_or_pos m with h0 | h0
    · subst h0
      have : news = [] := List.eq_nil_of_length_eq_zero (by simpa using hnl)
      subst this
      have : xs = [] := List.eq_nil_of_length_eq_zero (by simpa using hxl)
      subst this
      refine ⟨_, w, ?_, M⟩
      have hnew := run_firstCells (P := P) (w := w) hx0
      unfold Builtin.append_
      simp only [List.getElem?_toArray, List.getElem?_cons_zero, List.getElem?_cons_succ, Sem.run_bind, huT, hsv, Result.andThen_ok, Sem.run_pure, Bool.false_eq_true, if_false, Builtin.lenOf]
      rw [if_pos (by omega)]
      simp only [Bool.not_false, if_true, Sem.run_bind, hnew, Result.andThen_ok, Nat.add_zero, Sem.run_pure]
    · exact grow none 0 rfl (by omega)
  · by_cases hfit : n + m ≤ cap
    · have hnew := run_firstCells (P := P) (w := w) hx0
      have hM1 : Sep S w0 w (blk b (.cells (xs ++ rest).toArray E (0, 0)) :: r) := M.turn (q := blk b (.cells (xs ++ rest).toArray E (0, 0))) rfl fun _ => hbk
      have hrl : rest.length = cap * sz - n * sz := by rw [List.length_append, hxl] at hlen; omega
      have hml : n * sz + m * sz ≤ cap * sz := by rw [← Nat.add_mul]; exact Nat.mul_le_mul_right _ hfit
      have hnr : news.length ≤ rest.length := by omega
      obtain ⟨w', hst, M'⟩ := run_storeCells (P := P) (off := n * sz) news 0 _ w hM1 (by rw [List.size_toArray, hlen, hnl]; omega) (fun u hu => List.all_eq_true.1 h1 u hu)
      refine ⟨.slice (some ⟨b, 0, none⟩) (n + m) cap, w', ?_, ?_⟩
      · unfold Builtin.append_
        simp only [List.getElem?_toArray, List.getElem?_cons_zero, List.getElem?_cons_succ, Sem.run_bind, huT, hsv, Result.andThen_ok, Sem.run_pure, Bool.false_eq_true, if_false, Builtin.lenOf]
        rw [if_pos hfit]
        simp only [Bool.not_false, if_true, Sem.run_bind, hnew, Result.andThen_ok, Sem.run_pure, add_at, Nat.zero_add, hst]
      · refine M'.turn (q := slR (.slice (some ⟨b, 0, none⟩) (n + m) cap) (n + m) E sz (xs ++ news)) rfl fun hh => ⟨by rw [List.length_append, hxl, hnl, Nat.add_mul], .inr ⟨b, cap, rest.drop news.length, rfl, hfit, ?_, ?_⟩⟩
        · refine hh.trans ?_
          rw [Nat.add_zero, ← hxl, setCells_append xs news rest hnr, List.append_assoc]
        · rw [List.length_append, List.length_append, List.length_drop, hxl, hnl, hrl]
          omega
    · exact grow _ cap rfl (by omega)

theorem SlOk.form {h : Array Obj} {v : Value} {n : Nat} {E : TypeId} {sz : Nat} {xs : List Value} (hs : SlOk h v n E sz xs) : ∃ A c, v = .slice A n c := by
  obtain ⟨_, ⟨rfl, rfl⟩ | ⟨b, cap, rest, rfl, _⟩⟩ := hs
  · exact ⟨_, _, rfl⟩
  · exact ⟨_, _, rfl⟩

/-- What is known of a slice's type. -/
structure SlT (P : Program) (T E : TypeId) (sz by_ : Nat) (z : Value) : Prop where
  slc : slcB P T = some (E, sz)
  zero : zeroB P E = some z
  size : z.cells.size = sz
  bytes : bytesB P E = some by_
  pos : 0 < by_

section
variable {P : Program} {ops : List Oper} {cl : List Cls} {bad : List (Nat × Nat)} {Q : Act → World → Prop} {n k d : Nat} {t : Ot} {L : Pend} {a : Act} {w : World} {l : List (Nat × Value)}
variable {ty : TypeId} {ps : String} {af : Array Edge} {g : Option (Nat × Bool)}

theorem s_apL {S : Nat → Prop} {w0 : World} {T E : TypeId} {sz by_ m0 m : Nat} {z v u : Value} {x y : Operand} {xs news : List Value} {r : List Res} (F : Fr n a l) (M : Sep S w0 w (slR v m0 E sz xs :: r)) (ho : nth ops k = some ⟨some d, .call ⟨.builtin .append, #[x, y], #[T, T]⟩, ty, ps, af, g⟩) (hw : wn ops l g = some true) (hc : nth cl k = some .wr) (hlt : Nat.blt d n = true)
    (hT : SlT P T E sz by_ z) (hx : ev l x = some v) (hy : ev l y = some u) (hu : RdSl w.heap u m sz news) (h1 : news.all oneC = true) (hb : (m0 + m) * by_ ≤ 140737488355328)
    (hp : ∀ A c w', Sep S w0 w' (slR (.slice A (m0 + m) c) (m0 + m) E sz (xs ++ news) :: r) → pend bad k L w')
    (h : ∀ A c w', Sep S w0 w' (slR (.slice A (m0 + m) c) (m0 + m) E sz (xs ++ news) :: r) → ∀ a', Fr n a' ((d, .slice A (m0 + m) c) :: l) → trunT P ops cl bad Q t L a' w') : trunT P ops cl bad Q (.one k t) L a w := by
  refine s_wrL (R := fun v' w' => ∃ A c, v' = .slice A (m0 + m) c ∧ Sep S w0 w' (slR (.slice A (m0 + m) c) (m0 + m) E sz (xs ++ news) :: r)) F ho hw hc rfl hlt (fun n => ?_) (fun _ w' ⟨A, c, _, h2⟩ => hp A c w' h2) (fun v w' ⟨A, c, h1, h2⟩ a' F' => by subst h1; exact h A c w' h2 a' F')
  obtain ⟨v', w', hr, M'⟩ := run_append (P := P) (ty := ty) hT.slc hT.zero hT.bytes (M.drewN n) (x := u) (m := m) (by exact hu) h1 hT.size hb hT.pos
  obtain ⟨A, c, rfl⟩ := SlOk.form M'.h0
  simp only [execOp, resolve, invoke, builtin, List.map_toArray, List.map_cons, List.map_nil, F.ev hx, F.ev hy, Sem.run_bind, Sem.run_pure, hr, Result.andThen_ok, Goes]
  exact ⟨A, c, rfl, M'⟩
end

/-- A whole block as a slice that is read: behind 'buildSlice'. -/
theorem rd_blk {h : Array Obj} {b m sz : Nat} {cs : Array Value} {T : TypeId} (hb : h[b]? = some (.cells cs T (0, 0))) (hl : cs.size = m * sz) : RdSl h (.slice (some ⟨b, 0, none⟩) m m) m sz cs.toList :=
  ⟨by simpa using hl, _, m, rfl, Nat.le_refl _, fun _ => ⟨b, 0, cs, T, (0, 0), rfl, hb, fun j u hu => by simpa using hu⟩⟩
/-- .. as a slice that is owned. -/
theorem sl_of_blk {S : Nat → Prop} {w0 w : World} {b m sz : Nat} {cs : Array Value} {E : TypeId} {r : List Res} (M : Sep S w0 w (blk b (.cells cs E (0, 0)) :: r)) (hl : cs.size = m * sz) : Sep S w0 w (slR (.slice (some ⟨b, 0, none⟩) m m) m E sz cs.toList :: r) :=
  M.turn (q := slR (.slice (some ⟨b, 0, none⟩) m m) m E sz cs.toList) rfl fun hb => ⟨by simpa using hl, .inr ⟨b, m, [], rfl, Nat.le_refl _, by have hb : w.heap[b]? = _ := hb; simpa using hb, by simpa using hl⟩⟩

/-- A slice that is only read, as a resource. -/
def rdR (x : Value) (m sz : Nat) (xs : List Value) : Res :=
  ⟨4, if m = 0 then [] else ownB x, fun h => RdSl h x m sz xs, fun h h' hb ⟨h1, A, c, e, hc, h2⟩ => ⟨h1, A, c, e, hc, fun h0 => by
    obtain ⟨b, off, arr, T, fz, rfl, h3, h4⟩ := h2 h0
    subst e
    exact ⟨b, off, arr, T, fz, rfl, (hb b (by rw [if_neg (by omega)]; simp [ownB])).trans h3, h4⟩⟩⟩
theorem ro_of {w0 : World} {x : Value} {m sz : Nat} {xs : List Value} (h : RdSl w0.heap x m sz xs) : Ro (fun _ => False) w0 (rdR x m sz xs) := by
  refine ⟨h, fun b hb => ⟨?_, id⟩⟩
  simp only [rdR] at hb
  split at hb
  · simp at hb
  · rename_i h0
    obtain ⟨_, A, c, rfl, _, h2⟩ := h
    obtain ⟨b', off, arr, T, fz, rfl, h3, _⟩ := h2 (by omega)
    simp [ownB] at hb
    subst hb
    exact (Array.getElem?_eq_some_iff.1 h3).1

theorem RdSl.form {h : Array Obj} {x : Value} {m sz : Nat} {xs : List Value} (hs : RdSl h x m sz xs) : ∃ A c, x = .slice A m c ∧ m ≤ c := by
  obtain ⟨_, A, c, e, hc, _⟩ := hs
  exact ⟨A, c, e, hc⟩
theorem RdSl.at_ {h : Array Obj} {A : Option Addr} {m c sz : Nat} {xs : List Value} (hs : RdSl h (.slice A m c) m sz xs) (h0 : 0 < m) : ∃ b off arr T fz, A = some ⟨b, off, none⟩ ∧ h[b]? = some (.cells arr T fz) ∧ ∀ j u, xs[j]? = some u → arr[off + j]? = some u := by
  obtain ⟨_, A', c', e, _, h2⟩ := hs
  injection e with e1 _ _
  subst e1
  exact h2 h0

theorem flat_get {α : Type} {enc : α → List Value} {sz : Nat} (henc : ∀ e, (enc e).length = sz) {f : Nat} {e : α} {v : Value} : ∀ {l : List α} {i : Nat}, l[i]? = some e → (enc e)[f]? = some v → (l.flatMap enc)[i * sz + f]? = some v
  | [], i, h, _ => by simp at h
  | x :: l, 0, h, hf => by
    simp only [List.getElem?_cons_zero, Option.some.injEq] at h
    subst h
    have hlt : f < (enc x).length := (List.getElem?_eq_some_iff.1 hf).1
    simp only [List.flatMap_cons, Nat.zero_mul, Nat.zero_add]
    rw [List.getElem?_append_left hlt]
    exact hf
  | x :: l, i + 1, h, hf => by
    simp only [List.getElem?_cons_succ] at h
    simp only [List.flatMap_cons]
    rw [List.getElem?_append_right (by rw [henc, Nat.add_mul]; omega), henc, show (i + 1) * sz + f - sz = i * sz + f by rw [Nat.add_mul]; omega]
    exact flat_get henc h hf
theorem flat_len {α : Type} {enc : α → List Value} {sz : Nat} (henc : ∀ e, (enc e).length = sz) : ∀ l : List α, (l.flatMap enc).length = l.length * sz
  | [] => by simp
  | x :: l => by simp [henc, flat_len henc l, Nat.add_mul, Nat.add_comm]
theorem el_cell {α : Type} {enc : α → List Value} {w : World} {b off sz i f : Nat} {arr : Array Value} {T : TypeId} {fz : Nat × Nat} {l : List α} {e : α} {v : Value} (hb : w.heap[b]? = some (.cells arr T fz)) (hc : ∀ j u, (l.flatMap enc)[j]? = some u → arr[off + j]? = some u) (henc : ∀ e, (enc e).length = sz)
    (hi : l[i]? = some e) (hf : (enc e)[f]? = some v) : w.cell? ⟨b, off + i * sz + f, none⟩ = some v :=
  cell_of_blk hb (by rw [Nat.add_assoc]; exact hc _ _ (flat_get henc hi hf))
/-- A cell of a block that lies ahead of w0, outside S. -/
theorem old_cell {S : Nat → Prop} {w0 w : World} {m : List Res} (M : Sep S w0 w m) {b off : Nat} {cs : Array Value} {T : TypeId} {fz : Nat × Nat} {v : Value} (hS : ¬ S b) (hb : w0.heap[b]? = some (.cells cs T fz)) (hv : cs[off]? = some v) : w.cell? ⟨b, off, none⟩ = some v := by
  have hlt : b < w0.heap.size := by
    rcases Nat.lt_or_ge b w0.heap.size with h | h
    · exact h
    · rw [Array.getElem?_eq_none h] at hb; cases hb
  exact cell_of_blk ((M.chg.keep b hlt hS).trans hb) hv
theorem Sep.left {S : Nat → Prop} {w0 w : World} {m r : List Res} (M : Sep S w0 w (m ++ r)) : Sep S w0 w m := by
  have hf : foots (m ++ r) = foots m ++ foots r := by simp [foots]
  refine ⟨⟨fun x hx => M.own.ok x (List.mem_append_left _ hx), fun b hb => M.own.lt b (by rw [hf]; exact List.mem_append_left _ hb), ?_⟩, fun b hb => M.mine b (by rw [hf]; exact List.mem_append_left _ hb), M.chg⟩
  have := M.own.nd
  rw [hf, List.nodup_append] at this
  exact this.1
theorem Own.one {h : Array Obj} {p : Res} {r : List Res} (o : Own h (p :: r)) : Own h [p] := by
  have hf : foots (p :: r) = p.foot ++ foots r := rfl
  have hf1 : foots [p] = p.foot := by simp [foots]
  refine ⟨fun x hx => by simp at hx; subst hx; exact o.ok _ (by simp), fun b hb => o.lt b (by rw [hf]; rw [hf1] at hb; exact List.mem_append_left _ hb), ?_⟩
  have := o.nd
  rw [hf, List.nodup_append] at this
  rw [hf1]
  exact this.1
end Go.Proofs.Ytboibdmflblphaa.Fw
