/-
  Great blocks as functions of the place; maps.
-/
import Derived.Test.YtboibdmflblphaaFw4
namespace Go.Proofs.Ytboibdmflblphaa.Fw
open Go

/-! ### a block whose cells are a function's values -/
def cellsF (N : Nat) (f : Nat → Value) : Array Value := ((List.range N).map f).toArray
def upd (f : Nat → Value) (i : Nat) (v : Value) : Nat → Value := fun j => if j = i then v else f j

theorem cellsF_size {N : Nat} {f : Nat → Value} : (cellsF N f).size = N := by simp [cellsF]
theorem gf {N i : Nat} {f : Nat → Value} {v : Value} (h : f i = v) (hi : i < N) : (cellsF N f)[i]? = some v := by simp [cellsF, hi, h]
theorem setF {N i : Nat} {f : Nat → Value} {v : Value} : (cellsF N f).setIfInBounds i v = cellsF N (upd f i v) := by
  apply Array.ext
  · simp [cellsF]
  · intro j h1 h2
    simp only [cellsF, List.setIfInBounds_toArray, List.getElem_toArray] at *
    rw [List.getElem_set]
    by_cases h : i = j
    · subst h; simp [upd]
    · simp [h, upd, Ne.symm h]
theorem upd_at {f : Nat → Value} {i : Nat} {v : Value} : upd f i v i = v := by simp [upd]
theorem upd_ne {f : Nat → Value} {i j : Nat} {v : Value} (h : j ≠ i) : upd f i v j = f j := by simp [upd, h]
theorem cellsF_of (cs : Array Value) : cs = cellsF cs.size (fun j => (cs[j]?).getD undef) := by
  apply Array.ext
  · simp [cellsF]
  · intro j h1 h2
    simp [cellsF, h1]
theorem setCellsF {N : Nat} : ∀ (vs : List Value) (i : Nat) (f : Nat → Value), setCells (cellsF N f) i vs = cellsF N (fun j => if i ≤ j ∧ j < i + vs.length then (vs[j - i]?).getD undef else f j)
  | [], i, f => by
    simp only [setCells, List.length_nil]
    congr 1
    funext j
    rw [if_neg (by omega)]
  | v :: vs, i, f => by
    simp only [setCells, setF, setCellsF vs (i + 1)]
    congr 1
    funext j
    simp only [List.length_cons, upd]
    by_cases h0 : j = i
    · subst h0
      rw [if_neg (by omega), if_pos rfl, if_pos (by omega)]
      simp
    · by_cases h1 : i + 1 ≤ j ∧ j < i + 1 + vs.length
      · rw [if_pos h1, if_pos (by omega), show j - i = (j - (i + 1)) + 1 by omega]
        simp
      · rw [if_neg h1, if_neg h0, if_neg (by omega)]

section
variable {P : Program} {ops : List Oper} {cl : List Cls} {bad : List (Nat × Nat)} {Q : Act → World → Prop} {n k d : Nat} {t : Ot} {L : Pend} {a : Act} {w : World} {l : List (Nat × Value)}
variable {ty : TypeId} {ps : String} {af : Array Edge} {g : Option (Nat × Bool)}

theorem s_sfL {S : Nat → Prop} {w0 : World} {b off N : Nat} {T t' : TypeId} {x y : Operand} {r : List Res} {f : Nat → Value} {v : Value} (F : Fr n a l) (M : Sep S w0 w (blk b (.cells (cellsF N f) T (0, 0)) :: r)) (ho : nth ops k = some ⟨none, .store t' x y, ty, ps, af, g⟩) (hw : wn ops l g = some true) (hc : nth cl k = some .wr)
    (hs : sizeB P t' = some 1) (hx : ev l x = some (.pointer (some ⟨b, off, none⟩))) (hy : ev l y = some v) (hv : oneC v = true) (hoff : off < N)
    (hp : ∀ w', Sep S w0 w' (blk b (.cells (cellsF N (upd f off v)) T (0, 0)) :: r) → pend bad k L w')
    (h : ∀ w', Sep S w0 w' (blk b (.cells (cellsF N (upd f off v)) T (0, 0)) :: r) → trunT P ops cl bad Q t L a w') : trunT P ops cl bad Q (.one k t) L a w :=
  s_stL F M ho hw hc hs hx hy hv (by rw [cellsF_size]; exact hoff) (by rw [setF]; exact hp) (by rw [setF]; exact h)
theorem s_sf {S : Nat → Prop} {w0 : World} {b off N : Nat} {T t' : TypeId} {x y : Operand} {r : List Res} {f : Nat → Value} {v : Value} (F : Fr n a l) (M : Sep S w0 w (blk b (.cells (cellsF N f) T (0, 0)) :: r)) (ho : nth ops k = some ⟨none, .store t' x y, ty, ps, af, g⟩) (hw : wn ops l g = some true) (hc : nth cl k = some .wr)
    (hs : sizeB P t' = some 1) (hx : ev l x = some (.pointer (some ⟨b, off, none⟩))) (hy : ev l y = some v) (hv : oneC v = true) (hoff : off < N)
    (h : ∀ w', Sep S w0 w' (blk b (.cells (cellsF N (upd f off v)) T (0, 0)) :: r) → trunT P ops cl [] Q t L a w') : trunT P ops cl [] Q (.one k t) L a w :=
  s_sfL F M ho hw hc hs hx hy hv hoff (fun _ _ => pend_nil) h
end

/-! ### maps -/
structure KE (P : Program) (kt : TypeId) {κ : Type} [DecidableEq κ] (enc : κ → Value) : Prop where
  chk : ∀ (e : Bool) (k : κ) (w : World), (Instr.checkKey e 10000 kt (enc k)).run P w = .ok () w
  eq : ∀ (k k' : κ) (w : World), (Op.equal kt (enc k) (enc k')).run P w = .ok (decide (k = k')) w
  und : ∃ d, P.underlying kt = some d ∧ ∀ k k', Instr.sameNow d (enc k) (enc k') = none ∨ Instr.sameNow d (enc k) (enc k') = some (decide (k = k'))
  bits : ∀ k, Instr.sameBits 10000 (enc k) (enc k) = true

structure Ent (κ : Type) where
  key : κ
  val : Value
  born : Nat

section
variable {κ : Type} [DecidableEq κ] {enc : κ → Value} {P : Program} {kt : TypeId}

def entOf (enc : κ → Value) (e : Ent κ) : MapEntry := { key := enc e.key, val := e.val, born := e.born }
def ents (enc : κ → Value) (l : List (Ent κ)) : Array MapEntry := (l.map (entOf enc)).toArray

def findE (k : κ) : List (Ent κ) → Nat → Option (Nat × Value)
  | [], _ => none
  | e :: l, i => if k = e.key then some (i, e.val) else findE k l (i + 1)

theorem run_findAsking (h : KE P kt enc) (k : κ) (w : World) : ∀ (l : List (Ent κ)) (i : Nat), (Instr.findAsking kt (enc k) (l.map (entOf enc)) i).run P w = .ok (findE k l i) w
  | [], i => by simp [Instr.findAsking, findE]
  | e :: l, i => by
    simp only [List.map_cons, Instr.findAsking, entOf, Sem.run_bind, h.eq, Result.andThen_ok, findE]
    by_cases hk : k = e.key
    · simp [hk]
    · simp only [hk, decide_false, Bool.false_eq_true, if_false]
      exact run_findAsking h k w l (i + 1)

theorem findNow_eq (d : TypeDesc) (hd : ∀ k k' : κ, Instr.sameNow d (enc k) (enc k') = none ∨ Instr.sameNow d (enc k) (enc k') = some (decide (k = k'))) (k : κ) : ∀ (l : List (Ent κ)) (i : Nat),
    Instr.findNow d (enc k) (l.map (entOf enc)) i = none ∨ Instr.findNow d (enc k) (l.map (entOf enc)) i = some (findE k l i)
  | [], i => .inr rfl
  | e :: l, i => by
    simp only [List.map_cons, Instr.findNow, entOf, findE]
    rcases hd k e.key with h | h
    · rw [h]; exact .inl rfl
    · rw [h]
      by_cases hk : k = e.key
      · simp [hk]
      · simp only [hk, decide_false, if_false]
        exact findNow_eq d hd k l (i + 1)

theorem run_findKey (h : KE P kt enc) (k : κ) (l : List (Ent κ)) (w : World) : (Instr.findKey kt (enc k) (l.map (entOf enc))).run P w = .ok (findE k l 0) w := by
  obtain ⟨d, hu, hd⟩ := h.und
  unfold Instr.findKey
  simp only [Sem.run_bind, run_underlying hu, Result.andThen_ok]
  rcases findNow_eq (enc := enc) d hd k l 0 with e | e
  · rw [e]; exact run_findAsking h k w l 0
  · rw [e]; rfl

/-- What a map holds at a key. -/
def getE (k : κ) : List (Ent κ) → Option Value
  | [] => none
  | e :: l => if k = e.key then some e.val else getE k l

theorem findE_get (k : κ) : ∀ (l : List (Ent κ)) (i : Nat), (findE k l i).map (·.2) = getE k l
  | [], _ => rfl
  | e :: l, i => by
    simp only [findE, getE]
    split
    · rfl
    · exact findE_get k l (i + 1)
theorem findE_at (k : κ) : ∀ (l : List (Ent κ)) (i j : Nat) (v : Value), findE k l i = some (j, v) → i ≤ j ∧ ∃ e, l[j - i]? = some e ∧ e.key = k ∧ e.val = v
  | [], _, _, _, h => by simp [findE] at h
  | e :: l, i, j, v, h => by
    simp only [findE] at h
    split at h
    · rename_i hk
      simp only [Option.some.injEq, Prod.mk.injEq] at h
      obtain ⟨rfl, rfl⟩ := h
      exact ⟨Nat.le_refl _, e, by simp, hk.symm, rfl⟩
    · obtain ⟨h1, e', h2, h3⟩ := findE_at k l (i + 1) j v h
      refine ⟨by omega, e', ?_, h3⟩
      rw [show j - i = (j - (i + 1)) + 1 by omega]
      simpa using h2

/-- A map's value of a key set. -/
def putE (k : κ) (v : Value) (clk : Nat) : List (Ent κ) → List (Ent κ)
  | [] => [⟨k, v, clk⟩]
  | e :: l => if k = e.key then ⟨k, v, e.born⟩ :: l else e :: putE k v clk l
def delE (k : κ) : List (Ent κ) → List (Ent κ)
  | [] => []
  | e :: l => if k = e.key then l else e :: delE k l
def keysOf (l : List (Ent κ)) : List κ := l.map (·.key)

theorem getE_none (k : κ) : ∀ l : List (Ent κ), getE k l = none ↔ k ∉ keysOf l
  | [] => by simp [getE, keysOf]
  | e :: l => by
    have := getE_none k l
    simp only [getE, keysOf, List.map_cons, List.mem_cons, not_or]
    split
    · rename_i h; simp [h]
    · rename_i h; simpa [keysOf, h] using this
theorem getE_put (k k' : κ) (v : Value) (clk : Nat) : ∀ l : List (Ent κ), getE k' (putE k v clk l) = if k' = k then some v else getE k' l
  | [] => by simp only [putE, getE]
  | e :: l => by
    simp only [putE]
    split
    · rename_i h
      simp only [getE]
      by_cases hk : k' = k
      · simp [hk]
      · simp [hk, ← h]
    · rename_i h
      simp only [getE, getE_put k k' v clk l]
      by_cases hk : k' = k
      · simp [hk, h]
      · simp [hk]
theorem keysOf_put (k : κ) (v : Value) (clk : Nat) : ∀ l : List (Ent κ), keysOf (putE k v clk l) = if k ∈ keysOf l then keysOf l else keysOf l ++ [k]
  | [] => by simp [putE, keysOf]
  | e :: l => by
    have ih := keysOf_put k v clk l
    by_cases h : k = e.key
    · simp [putE, keysOf, h]
    · have e1 : putE k v clk (e :: l) = e :: putE k v clk l := by simp [putE, h]
      have e2 : keysOf (e :: putE k v clk l) = e.key :: keysOf (putE k v clk l) := rfl
      have e3 : keysOf (e :: l) = e.key :: keysOf l := rfl
      rw [e1, e2, ih, e3]
      by_cases hm : k ∈ keysOf l
      · rw [if_pos hm, if_pos (List.mem_cons_of_mem _ hm)]
      · rw [if_neg hm, if_neg (by simp [h, hm])]; rfl
theorem nodup_put {k : κ} {v : Value} {clk : Nat} {l : List (Ent κ)} (h : (keysOf l).Nodup) : (keysOf (putE k v clk l)).Nodup := by
  rw [keysOf_put]
  split
  · exact h
  · rename_i hk
    rw [List.nodup_append]
    refine ⟨h, by simp, ?_⟩
    intro a ha b hb e
    simp only [List.mem_singleton] at hb
    subst hb; subst e
    exact hk ha
theorem length_put {k : κ} {v : Value} {clk : Nat} {l : List (Ent κ)} : (putE k v clk l).length ≤ l.length + 1 := by
  induction l with
  | nil => simp [putE]
  | cons e l ih => simp only [putE]; split <;> simp <;> omega
theorem length_put' {k : κ} {v : Value} {clk : Nat} {l : List (Ent κ)} : (putE k v clk l).length = if k ∈ keysOf l then l.length else l.length + 1 := by
  have : (putE k v clk l).length = (keysOf (putE k v clk l)).length := by simp [keysOf]
  rw [this, keysOf_put]
  split <;> simp [keysOf]
theorem getE_del (k k' : κ) : ∀ l : List (Ent κ), (keysOf l).Nodup → getE k' (delE k l) = if k' = k then none else getE k' l
  | [], _ => by simp [delE, getE]
  | e :: l, hn => by
    simp only [keysOf, List.map_cons, List.nodup_cons] at hn
    simp only [delE]
    split
    · rename_i h
      by_cases hk : k' = k
      · rw [if_pos hk, getE_none, hk, h]; exact hn.1
      · have : k' ≠ e.key := by rw [← h]; exact hk
        simp [getE, hk, this]
    · rename_i h
      simp only [getE, getE_del k k' l hn.2]
      by_cases hk : k' = k
      · simp [hk, h]
      · simp [hk]
theorem keysOf_del {k : κ} : ∀ l : List (Ent κ), (keysOf l).Nodup → keysOf (delE k l) = (keysOf l).filter (· ≠ k)
  | [], _ => by simp [delE, keysOf]
  | e :: l, hn => by
    simp only [keysOf, List.map_cons, List.nodup_cons] at hn
    have ih := keysOf_del (k := k) l hn.2
    simp only [delE]
    split
    · rename_i h
      subst h
      simp only [keysOf, List.map_cons]
      rw [List.filter_cons_of_neg (by simp), List.filter_eq_self.2]
      intro a ha
      have : a ≠ e.key := fun e' => hn.1 (e' ▸ ha)
      simpa using this
    · rename_i h
      simp only [keysOf, List.map_cons] at ih ⊢
      rw [List.filter_cons_of_pos (by simp [Ne.symm h]), ih]
theorem nodup_del {k : κ} {l : List (Ent κ)} (h : (keysOf l).Nodup) : (keysOf (delE k l)).Nodup := by
  rw [keysOf_del l h]; exact h.filter _

/-- A map's block: its entries, their stamps below the clock. -/
structure MapOk (l : List (Ent κ)) (clk : Nat) : Prop where
  nd : (keysOf l).Nodup
  born : (l.map (·.born)).Nodup
  lt : ∀ e ∈ l, e.born < clk

theorem putE_same (k : κ) (v : Value) (clk : Nat) : ∀ l : List (Ent κ), getE k l = some v → putE k v clk l = l
  | [], h => by simp [getE] at h
  | e :: l, h => by
    simp only [getE] at h
    simp only [putE]
    split
    · rename_i hk
      rw [if_pos hk] at h
      simp only [Option.some.injEq] at h
      subst h; subst hk
      rfl
    · rename_i hk
      rw [if_neg hk] at h
      rw [putE_same k v clk l h]
theorem born_put (k : κ) (v : Value) (clk : Nat) : ∀ l : List (Ent κ), (putE k v clk l).map (·.born) = if k ∈ keysOf l then l.map (·.born) else l.map (·.born) ++ [clk]
  | [] => by simp [putE, keysOf]
  | e :: l => by
    have ih := born_put k v clk l
    by_cases h : k = e.key
    · simp [putE, keysOf, h]
    · have e1 : putE k v clk (e :: l) = e :: putE k v clk l := by simp [putE, h]
      have e3 : keysOf (e :: l) = e.key :: keysOf l := rfl
      rw [e1, List.map_cons, ih, e3]
      by_cases hm : k ∈ keysOf l
      · rw [if_pos hm, if_pos (List.mem_cons_of_mem _ hm)]; rfl
      · rw [if_neg hm, if_neg (by simp [h, hm])]; rfl
theorem MapOk.put {l : List (Ent κ)} {clk : Nat} (h : MapOk l clk) (k : κ) (v : Value) : MapOk (putE k v clk l) (if k ∈ keysOf l then clk else clk + 1) := by
  have hb := born_put k v clk l
  have hlt : ∀ x ∈ (putE k v clk l).map (·.born), x < (if k ∈ keysOf l then clk else clk + 1) := by
    intro x hx
    rw [hb] at hx
    split at hx
    · rename_i hk
      rw [if_pos hk]
      obtain ⟨e, he, rfl⟩ := List.mem_map.1 hx
      exact h.lt e he
    · rename_i hk
      rw [if_neg hk]
      rcases List.mem_append.1 hx with hx | hx
      · obtain ⟨e, he, rfl⟩ := List.mem_map.1 hx
        have := h.lt e he
        omega
      · simp at hx; omega
  refine ⟨nodup_put h.nd, ?_, fun e he => hlt _ (List.mem_map.2 ⟨e, he, rfl⟩)⟩
  rw [hb]
  split
  · exact h.born
  · rw [List.nodup_append]
    refine ⟨h.born, by simp, ?_⟩
    intro a ha b hb' e
    simp only [List.mem_singleton] at hb'
    subst hb'; subst e
    obtain ⟨e', he', h'⟩ := List.mem_map.1 ha
    have := h.lt e' he'
    omega
theorem sub_del {k : κ} : ∀ l : List (Ent κ), (delE k l).Sublist l
  | [] => by simp [delE]
  | e :: l => by
    simp only [delE]
    split
    · exact List.sublist_cons_self _ _
    · exact (sub_del l).cons_cons _
theorem MapOk.del {l : List (Ent κ)} {clk : Nat} (h : MapOk l clk) (k : κ) : MapOk (delE k l) clk :=
  ⟨nodup_del h.nd, ((sub_del l).map _).nodup h.born, fun e he => h.lt e ((sub_del l).mem he)⟩
theorem length_del {k : κ} : ∀ l : List (Ent κ), (delE k l).length = if k ∈ keysOf l then l.length - 1 else l.length
  | [] => by simp [delE, keysOf]
  | e :: l => by
    have ih := length_del (k := k) l
    by_cases h : k = e.key
    · simp [delE, keysOf, h]
    · have e1 : delE k (e :: l) = e :: delE k l := by simp [delE, h]
      have e3 : keysOf (e :: l) = e.key :: keysOf l := rfl
      rw [e1, List.length_cons, ih, e3]
      by_cases hm : k ∈ keysOf l
      · rw [if_pos hm, if_pos (List.mem_cons_of_mem _ hm)]
        have : 0 < l.length := by
          cases l with
          | nil => simp [keysOf] at hm
          | cons _ _ => simp
        simp only [List.length_cons]
        omega
      · rw [if_neg hm, if_neg (by simp [h, hm])]; rfl

/-- A map in memory that holds D, N entries in all. -/
def MapHolds (enc : κ → Value) (b : Nat) (D : κ → Option Value) (N : Nat) (h : Array Obj) : Prop := ∃ l clk, h[b]? = some (.map (ents enc l) clk) ∧ MapOk l clk ∧ (∀ k, getE k l = D k) ∧ l.length = N
def mapR (enc : κ → Value) (b : Nat) (D : κ → Option Value) (N : Nat) : Res :=
  ⟨1, [b], MapHolds enc b D N, fun _ _ h ⟨l, clk, h1, h2⟩ => ⟨l, clk, (h b List.mem_cons_self).trans h1, h2⟩⟩
/-- .. in which k's entry bears the stamp st. -/
def mapS (enc : κ → Value) (b : Nat) (D : κ → Option Value) (N : Nat) (k : κ) (st : Nat) : Res :=
  ⟨2, [b], fun h => ∃ l clk, h[b]? = some (.map (ents enc l) clk) ∧ MapOk l clk ∧ (∀ k, getE k l = D k) ∧ l.length = N ∧ ∃ e ∈ l, e.key = k ∧ e.born = st, fun _ _ h ⟨l, clk, h1, h2⟩ => ⟨l, clk, (h b List.mem_cons_self).trans h1, h2⟩⟩

def mapB (P : Program) (t : TypeId) : Option (TypeId × TypeId) :=
  match P.underlying t with
  | some (.map k e) => some (k, e)
  | _ => none
theorem mapB_spec {t kt et : TypeId} (h : mapB P t = some (kt, et)) : P.underlying t = some (.map kt et) := by
  unfold mapB at h
  split at h
  · rename_i k e he
    simp only [Option.some.injEq, Prod.mk.injEq] at h
    obtain ⟨rfl, rfl⟩ := h
    exact he
  · cases h

theorem findE_some {k : κ} {l : List (Ent κ)} {r : Nat × Value} (h : findE k l 0 = some r) : getE k l = some r.2 ∧ ∃ e, l[r.1]? = some e ∧ e.key = k := by
  have h1 := findE_get k l 0
  rw [h] at h1
  obtain ⟨j, v⟩ := r
  obtain ⟨_, e, h2, h3, _⟩ := findE_at k l 0 j v h
  exact ⟨h1.symm, e, by simpa using h2, h3⟩
theorem findE_none {k : κ} {l : List (Ent κ)} (h : findE k l 0 = none) : getE k l = none := by
  have h1 := findE_get k l 0
  rw [h] at h1
  exact h1.symm

/-- Setting entry i, which is k's. -/
theorem modify_put {k : κ} {v : Value} {clk : Nat} : ∀ (l : List (Ent κ)) (i : Nat) (e : Ent κ), (keysOf l).Nodup → l[i]? = some e → e.key = k → l.modify i (fun x => ⟨k, v, x.born⟩) = putE k v clk l
  | [], i, e, _, h, _ => by simp at h
  | x :: l, 0, e, hn, h, hk => by
    simp only [List.getElem?_cons_zero, Option.some.injEq] at h
    subst h
    simp [putE, hk]
  | x :: l, i + 1, e, hn, h, hk => by
    simp only [keysOf, List.map_cons, List.nodup_cons] at hn
    simp only [List.getElem?_cons_succ] at h
    have : k ≠ x.key := fun e' => hn.1 (by rw [← e', ← hk]; exact List.mem_map.2 ⟨e, List.mem_of_getElem? h, rfl⟩)
    simp only [List.modify_succ_cons, putE, if_neg this]
    rw [modify_put l i e hn.2 h hk]

end
section
variable {κ : Type} {enc : κ → Value}
theorem ents_modify {l : List (Ent κ)} {i : Nat} {f : MapEntry → MapEntry} {g : Ent κ → Ent κ} (h : ∀ e ∈ l[i]?, f (entOf enc e) = entOf enc (g e)) : (ents enc l).modify i f = ents enc (l.modify i g) := by
  simp only [ents, List.modify_toArray]
  congr 1
  apply List.ext_getElem?
  intro j
  simp only [List.getElem?_map, List.getElem?_modify]
  by_cases hj : i = j
  · subst hj
    cases he : l[i]? with
    | none => simp
    | some e => simp [h e he]
  · simp [hj]

theorem ents_find {l : List (Ent κ)} {i : Nat} {e : Ent κ} (h : l[i]? = some e) : (ents enc l)[i]? = some (entOf enc e) := by simp [ents, h]

end
section
variable {κ : Type} [DecidableEq κ] {enc : κ → Value} {P : Program} {kt : TypeId}
theorem getE_mem {k : κ} {v : Value} : ∀ {l : List (Ent κ)}, getE k l = some v → ∃ e ∈ l, e.key = k ∧ e.val = v
  | [], h => by simp [getE] at h
  | e :: l, h => by
    simp only [getE] at h
    split at h
    · rename_i hk
      simp only [Option.some.injEq] at h
      exact ⟨e, List.mem_cons_self, hk.symm, h⟩
    · obtain ⟨e', h1, h2⟩ := getE_mem h
      exact ⟨e', List.mem_cons_of_mem _ h1, h2⟩

theorem putE_new {k : κ} {v : Value} {clk : Nat} : ∀ {l : List (Ent κ)}, k ∉ keysOf l → putE k v clk l = l ++ [⟨k, v, clk⟩]
  | [], _ => rfl
  | e :: l, h => by
    simp only [keysOf, List.map_cons, List.mem_cons, not_or] at h
    simp only [putE, if_neg h.1]
    rw [putE_new h.2]; rfl

/-- m[k] -/
theorem run_lookup (K : KE P kt enc) {t et : TypeId} (ht : mapB P t = some (kt, et)) {z : Value} (hz : zeroB P et = some z) {b N : Nat} {D : κ → Option Value} {w : World} (h : MapHolds enc b D N w.heap) (k : κ) (ok : Bool) :
    (Instr.lookup t (.map (some b)) (enc k) ok).run P w = .ok (if ok then .tuple #[(D k).getD z, .bool (D k).isSome] else (D k).getD z) w := by
  obtain ⟨l, clk, hb, hm, hD, _⟩ := h
  have hu := mapB_spec ht
  have hzv : (zeroValue et).run P w = .ok z w := by
    unfold zeroB at hz
    cases hi : P.info? et with
    | none => rw [hi] at hz; cases hz
    | some i => rw [hi] at hz; simp only [Option.bind_some] at hz; simp [zeroValue, typeInfo, hi, hz]
  have hg : (getObj b).run P w = .ok (.map (ents enc l) clk) w := by simp [getObj, Sem.run, hb]
  have hf := run_findKey K k l w
  unfold Instr.lookup
  simp only [Sem.run_bind, run_underlying hu, Result.andThen_ok, hg, Sem.run_pure, K.chk]
  have e : (ents enc l).toList = l.map (entOf enc) := by simp [ents]
  rw [e, hf]
  simp only [Result.andThen_ok]
  cases hfe : findE k l 0 with
  | none =>
    have := findE_none hfe
    rw [hD] at this
    simp only [Sem.run_bind, hzv, Result.andThen_ok, Sem.run_pure, this]
    cases ok <;> rfl
  | some r =>
    have := (findE_some hfe).1
    rw [hD] at this
    simp only [this]
    cases ok <;> rfl

theorem run_getObj {b : Nat} {o : Obj} {w : World} (hb : w.heap[b]? = some o) (ho : ∀ c e f, o ≠ .cells c e f) : (getObj b).run P w = .ok o w := by
  unfold getObj
  simp only [Sem.run, hb]
theorem run_setObj {b : Nat} {o o' : Obj} {w : World} (hb : w.heap[b]? = some o) (ho : ∀ c e f, o ≠ .cells c e f) : (setObj b o').run P w = .ok () { w with heap := w.heap.setIfInBounds b o' } := by
  unfold setObj
  simp only [Sem.run, hb]

theorem keyStays (K : KE P kt enc) (k : κ) (w : World) : (Instr.keyThatStays (enc k) (enc k)).run P w = .ok (enc k) w := by
  simp [Instr.keyThatStays, K.bits k]

theorem Sep.blkM {S : Nat → Prop} {w0 w : World} {b N : Nat} {D : κ → Option Value} {r : List Res} (M : Sep S w0 w (mapR enc b D N :: r)) : ∃ l clk, Sep S w0 w (blk b (.map (ents enc l) clk) :: r) ∧ MapOk l clk ∧ (∀ k, getE k l = D k) ∧ l.length = N := by
  obtain ⟨l, clk, h1, h2, h3, h4⟩ := M.h0
  exact ⟨l, clk, M.turn (q := blk b (.map (ents enc l) clk)) rfl (fun _ => h1), h2, h3, h4⟩
theorem Sep.ofM {S : Nat → Prop} {w0 w : World} {b N : Nat} {D : κ → Option Value} {r : List Res} {l : List (Ent κ)} {clk : Nat} (M : Sep S w0 w (blk b (.map (ents enc l) clk) :: r)) (h2 : MapOk l clk) (h3 : ∀ k, getE k l = D k) (h4 : l.length = N) : Sep S w0 w (mapR enc b D N :: r) :=
  M.turn (q := mapR enc b D N) rfl fun h1 => ⟨l, clk, h1, h2, h3, h4⟩

/-- m[k] = v -/
theorem run_mapUpdate (K : KE P kt enc) {t et : TypeId} (ht : mapB P t = some (kt, et)) {S : Nat → Prop} {w0 w : World} {b N : Nat} {D : κ → Option Value} {r : List Res} (M : Sep S w0 w (mapR enc b D N :: r)) (k : κ) (v : Value) :
    ∃ w', (Instr.mapUpdate t (.map (some b)) (enc k) v).run P w = .ok () w' ∧ Sep S w0 w' (mapR enc b (fun k' => if k' = k then some v else D k') (if (D k).isSome then N else N + 1) :: r) := by
  obtain ⟨l, clk, M1, hm, hD, hN⟩ := M.blkM
  have hb : w.heap[b]? = some (.map (ents enc l) clk) := M1.h0
  have hu := mapB_spec ht
  have hmp : ∀ c e f, Obj.map (ents enc l) clk ≠ .cells c e f := fun _ _ _ h => by cases h
  have hmp' : ∀ (l' : List (Ent κ)) (clk' : Nat) c e f, Obj.map (ents enc l') clk' ≠ .cells c e f := fun _ _ _ _ _ h => by cases h
  have hg := run_getObj (P := P) hb hmp
  have e : (ents enc l).toList = l.map (entOf enc) := by simp [ents]
  have hlen : (putE k v clk l).length = if (D k).isSome then N else N + 1 := by
    rw [length_put', hN, ← hD k]
    by_cases hk : k ∈ keysOf l
    · have : getE k l ≠ none := fun h => (getE_none k l).1 h hk
      rw [if_pos hk, if_pos (Option.isSome_iff_ne_none.2 this)]
    · have := (getE_none k l).2 hk
      rw [if_neg hk, this]; rfl
  have fin : ∀ clk', MapOk (putE k v clk l) clk' → Sep S w0 { w with heap := w.heap.setIfInBounds b (.map (ents enc (putE k v clk l)) clk') } (mapR enc b (fun k' => if k' = k then some v else D k') (if (D k).isSome then N else N + 1) :: r) := fun clk' h =>
    (M1.setObj hmp (hmp' _ _)).ofM h (fun k' => by rw [getE_put, hD]) hlen
  unfold Instr.mapUpdate
  simp only [Sem.run_bind, run_underlying hu, Result.andThen_ok, hg, K.chk, e, run_findKey K k l w]
  have hput := hm.put k v
  cases hfe : findE k l 0 with
  | none =>
    have hk : k ∉ keysOf l := (getE_none k l).1 (findE_none hfe)
    rw [if_neg hk] at hput
    refine ⟨_, run_setObj hb hmp, ?_⟩
    have : (ents enc l).push { key := enc k, val := v, born := clk } = ents enc (putE k v clk l) := by
      rw [putE_new hk]; simp [ents, entOf]
    rw [this]
    exact fin _ hput
  | some rr =>
    obtain ⟨i, v0⟩ := rr
    obtain ⟨hge, e0, he0, hk0⟩ := findE_some hfe
    simp only at he0
    have hk : k ∈ keysOf l := by
      rw [← hk0]; exact List.mem_map.2 ⟨e0, List.mem_of_getElem? he0, rfl⟩
    rw [if_pos hk] at hput
    have hkey : (((ents enc l)[i]?).map (·.key)).getD (enc k) = enc k := by
      rw [ents_find he0]; simp [entOf, hk0]
    simp only [hkey, Sem.run_bind, keyStays K k w, Result.andThen_ok]
    refine ⟨_, run_setObj hb hmp, ?_⟩
    have : (ents enc l).modify i (fun e => { e with key := enc k, val := v }) = ents enc (putE k v clk l) := by
      rw [ents_modify (g := fun x => ⟨k, v, x.born⟩) (fun e _ => rfl), modify_put l i e0 hm.nd he0 hk0]
    rw [this]
    exact fin _ hput

/-- The first half of m[k]++. -/
theorem run_mapEntry (K : KE P kt enc) {t et : TypeId} (ht : mapB P t = some (kt, et)) {z : Value} (hz : zeroB P et = some z) {S : Nat → Prop} {w0 w : World} {b N : Nat} {D : κ → Option Value} {r : List Res} (M : Sep S w0 w (mapR enc b D N :: r)) (k : κ) :
    ∃ w' st, (Instr.mapEntry t (.map (some b)) (enc k)).run P w = .ok (.tuple #[(D k).getD z, .int .i64 (st : Nat)]) w' ∧ Sep S w0 w' (mapS enc b (fun k' => if k' = k then some ((D k).getD z) else D k') (if (D k).isSome then N else N + 1) k st :: r) := by
  obtain ⟨l, clk, M1, hm, hD, hN⟩ := M.blkM
  have hb : w.heap[b]? = some (.map (ents enc l) clk) := M1.h0
  have hu := mapB_spec ht
  have hmp : ∀ c e f, Obj.map (ents enc l) clk ≠ .cells c e f := fun _ _ _ h => by cases h
  have hmp' : ∀ (l' : List (Ent κ)) (clk' : Nat) c e f, Obj.map (ents enc l') clk' ≠ .cells c e f := fun _ _ _ _ _ h => by cases h
  have hg := run_getObj (P := P) hb hmp
  have e : (ents enc l).toList = l.map (entOf enc) := by simp [ents]
  have hzv : (zeroValue et).run P w = .ok z w := by
    unfold zeroB at hz
    cases hi : P.info? et with
    | none => rw [hi] at hz; cases hz
    | some i => rw [hi] at hz; simp only [Option.bind_some] at hz; simp [zeroValue, typeInfo, hi, hz]
  let v := (D k).getD z
  have hlen : (putE k v clk l).length = if (D k).isSome then N else N + 1 := by
    rw [length_put', hN, ← hD k]
    by_cases hk : k ∈ keysOf l
    · have : getE k l ≠ none := fun h => (getE_none k l).1 h hk
      rw [if_pos hk, if_pos (Option.isSome_iff_ne_none.2 this)]
    · have := (getE_none k l).2 hk
      rw [if_neg hk, this]; rfl
  have fin : ∀ clk' st, MapOk (putE k v clk l) clk' → (∃ e ∈ putE k v clk l, e.key = k ∧ e.born = st) → Sep S w0 { w with heap := w.heap.setIfInBounds b (.map (ents enc (putE k v clk l)) clk') } (mapS enc b (fun k' => if k' = k then some v else D k') (if (D k).isSome then N else N + 1) k st :: r) := fun clk' st h hst =>
    (M1.setObj hmp (hmp' _ _)).turn (q := mapS enc b (fun k' => if k' = k then some v else D k') (if (D k).isSome then N else N + 1) k st) rfl fun h1 => ⟨_, _, h1, h, (fun k' => by rw [getE_put, hD]), hlen, hst⟩
  unfold Instr.mapEntry
  simp only [Sem.run_bind, run_underlying hu, Result.andThen_ok, hg, K.chk, e, run_findKey K k l w]
  have hput := hm.put k v
  cases hfe : findE k l 0 with
  | none =>
    have hge := findE_none hfe
    have hk : k ∉ keysOf l := (getE_none k l).1 hge
    have hv : (D k).getD z = z := by rw [← hD k, hge]; rfl
    rw [if_neg hk] at hput
    have : (ents enc l).push { key := enc k, val := z, born := clk } = ents enc (putE k v clk l) := by
      rw [putE_new hk]; simp [ents, entOf, v, hv]
    refine ⟨_, clk, ?_, fin (clk + 1) clk hput ⟨⟨k, v, clk⟩, by rw [putE_new hk]; simp, rfl, rfl⟩⟩
    simp only [Sem.run_bind, hzv, Result.andThen_ok]
    rw [run_setObj hb hmp]
    simp only [Result.andThen_ok, Sem.run_pure, this, hv, goInt]
  | some rr =>
    obtain ⟨i, v0⟩ := rr
    obtain ⟨hge, e0, he0, hk0⟩ := findE_some hfe
    simp only at he0 hge
    have hk : k ∈ keysOf l := by
      rw [← hk0]; exact List.mem_map.2 ⟨e0, List.mem_of_getElem? he0, rfl⟩
    have hv : (D k).getD z = v0 := by rw [← hD k, hge]; rfl
    rw [if_pos hk] at hput
    have hkey : (((ents enc l)[i]?).map (·.key)).getD (enc k) = enc k := by
      rw [ents_find he0]; simp [entOf, hk0]
    have hsame : putE k v clk l = l := putE_same k v clk l (by rw [hge]; simp [v, hv])
    have : (ents enc l).modify i (fun e => { e with key := enc k }) = ents enc (putE k v clk l) := by
      rw [hsame, ents_modify (g := id) (fun e he => by
        have : e = e0 := Option.some.inj ((Option.mem_def.1 he).symm.trans he0)
        subst this
        simp [entOf, hk0]), List.modify_id]
    refine ⟨_, e0.born, ?_, fin clk e0.born hput ⟨e0, by rw [hsame]; exact List.mem_of_getElem? he0, hk0, rfl⟩⟩
    simp only [hkey, Sem.run_bind, keyStays K k w, Result.andThen_ok]
    rw [run_setObj hb hmp]
    simp only [Result.andThen_ok, Sem.run_pure, this, hv, goInt, ents_find he0, Option.map_some, Option.getD_some, entOf]

end
section
variable {κ : Type} {enc : κ → Value}
theorem findIdx_born {l : List (Ent κ)} (hn : (l.map (·.born)).Nodup) {e : Ent κ} (he : e ∈ l) : ∃ i, (ents enc l).findIdx? (fun x => (x.born : Int) == (e.born : Int)) = some i ∧ l[i]? = some e := by
  induction l with
  | nil => cases he
  | cons x l ih =>
    simp only [List.map_cons, List.nodup_cons] at hn
    simp only [ents, List.findIdx?_toArray, List.map_cons, List.findIdx?_cons]
    by_cases hx : x.born = e.born
    · rcases List.mem_cons.1 he with rfl | he'
      · exact ⟨0, by simp [entOf], rfl⟩
      · exact absurd (List.mem_map.2 ⟨e, he', hx.symm⟩) hn.1
    · rcases List.mem_cons.1 he with rfl | he'
      · exact absurd rfl hx
      · obtain ⟨i, h1, h2⟩ := ih hn.2 he'
        refine ⟨i + 1, ?_, by simpa using h2⟩
        have hne : ((entOf enc x).born : Int) ≠ (e.born : Int) := by show ((x.born : Nat) : Int) ≠ (e.born : Nat); omega
        simp only [ents, List.findIdx?_toArray] at h1
        simp [hne, h1]

end
section
variable {κ : Type} [DecidableEq κ] {enc : κ → Value} {P : Program} {kt : TypeId}
/-- .. and the second. -/
theorem run_entryStore (t : TypeId) {S : Nat → Prop} {w0 w : World} {b N : Nat} {D : κ → Option Value} {r : List Res} {k : κ} {st : Nat} (M : Sep S w0 w (mapS enc b D N k st :: r)) (v : Value) :
    ∃ w', (Instr.entryStore t (.map (some b)) (.int .i64 st) v).run P w = .ok () w' ∧ Sep S w0 w' (mapR enc b (fun k' => if k' = k then some v else D k') N :: r) := by
  obtain ⟨l, clk, hb, hm, hD, hN, e, he, hke, hbe⟩ := M.h0
  have M1 : Sep S w0 w (blk b (.map (ents enc l) clk) :: r) := M.turn (q := blk b (.map (ents enc l) clk)) rfl (fun _ => hb)
  have hmp : ∀ c e f, Obj.map (ents enc l) clk ≠ .cells c e f := fun _ _ _ h => by cases h
  have hmp' : ∀ (l' : List (Ent κ)) (clk' : Nat) c e f, Obj.map (ents enc l') clk' ≠ .cells c e f := fun _ _ _ _ _ h => by cases h
  have hg := run_getObj (P := P) hb hmp
  obtain ⟨i, hi, hli⟩ := findIdx_born (enc := enc) hm.born he
  rw [hbe] at hi
  have hmod : (ents enc l).modify i (fun e => { e with val := v }) = ents enc (putE k v clk l) := by
    rw [ents_modify (g := fun x => ⟨k, v, x.born⟩) (fun x hx => by
      have : x = e := Option.some.inj ((Option.mem_def.1 hx).symm.trans hli)
      subst this
      simp [entOf, hke]), modify_put l i e hm.nd hli hke]
  have hmem : k ∈ keysOf l := by rw [← hke]; exact List.mem_map.2 ⟨e, he, rfl⟩
  have hput := hm.put k v
  rw [if_pos hmem] at hput
  refine ⟨_, ?_, (M1.setObj hmp (hmp' (putE k v clk l) clk)).ofM hput (fun k' => by rw [getE_put, hD]) (by rw [length_put', if_pos hmem, hN])⟩
  unfold Instr.entryStore
  simp only [Sem.run_bind, hg, Result.andThen_ok, Sem.run_pure, asInt, asIntOf, hi]
  rw [hmod]
  exact run_setObj hb hmp

/-- delete(m, k) -/
theorem run_delete (K : KE P kt enc) {t et ty : TypeId} {ks : TypeId} (ht : mapB P t = some (kt, et)) {S : Nat → Prop} {w0 w : World} {b N : Nat} {D : κ → Option Value} {r : List Res} (M : Sep S w0 w (mapR enc b D N :: r)) (k : κ) :
    ∃ w', (Builtin.delete_ #[t, ks] ty #[.map (some b), enc k]).run P w = .ok (.tuple #[]) w' ∧ Sep S w0 w' (mapR enc b (fun k' => if k' = k then none else D k') (if (D k).isSome then N - 1 else N) :: r) := by
  obtain ⟨l, clk, M1, hm, hD, hN⟩ := M.blkM
  have hb : w.heap[b]? = some (.map (ents enc l) clk) := M1.h0
  have hu := mapB_spec ht
  have hmp : ∀ c e f, Obj.map (ents enc l) clk ≠ .cells c e f := fun _ _ _ h => by cases h
  have hmp' : ∀ (l' : List (Ent κ)) (clk' : Nat) c e f, Obj.map (ents enc l') clk' ≠ .cells c e f := fun _ _ _ _ _ h => by cases h
  have hg := run_getObj (P := P) hb hmp
  have e : (ents enc l).toList = l.map (entOf enc) := by simp [ents]
  have hlen : (delE k l).length = if (D k).isSome then N - 1 else N := by
    rw [length_del, hN, ← hD k]
    by_cases hk : k ∈ keysOf l
    · have : getE k l ≠ none := fun h => (getE_none k l).1 h hk
      rw [if_pos hk, if_pos (Option.isSome_iff_ne_none.2 this)]
    · have := (getE_none k l).2 hk
      rw [if_neg hk, this]; rfl
  have fin : Sep S w0 { w with heap := w.heap.setIfInBounds b (.map (ents enc (delE k l)) clk) } (mapR enc b (fun k' => if k' = k then none else D k') (if (D k).isSome then N - 1 else N) :: r) :=
    (M1.setObj hmp (hmp' _ _)).ofM (hm.del k) (fun k' => by rw [getE_del k k' l hm.nd, hD]) hlen
  unfold Builtin.delete_
  simp only [List.getElem?_toArray, List.getElem?_cons_zero, List.getElem?_cons_succ, Sem.run_bind, run_underlying hu, Result.andThen_ok, hg, K.chk, e, run_findKey K k l w]
  cases hfe : findE k l 0 with
  | none =>
    have hk : k ∉ keysOf l := (getE_none k l).1 (findE_none hfe)
    have hs : delE k l = l := by
      have : ∀ l : List (Ent κ), k ∉ keysOf l → delE k l = l := by
        intro l
        induction l with
        | nil => intro _; rfl
        | cons x l ih =>
          intro h
          simp only [keysOf, List.map_cons, List.mem_cons, not_or] at h
          simp only [delE, if_neg h.1]
          rw [ih h.2]
      exact this l hk
    rw [hs] at fin
    refine ⟨_, ?_, fin⟩
    simp only [Sem.run_bind, run_setObj hb hmp, Result.andThen_ok, Sem.run_pure]
  | some rr =>
    obtain ⟨i, v0⟩ := rr
    have hdel : (ents enc l).eraseIdxIfInBounds i = ents enc (delE k l) := by
      have key : ∀ (l : List (Ent κ)) (i0 i : Nat) (v : Value), findE k l i0 = some (i, v) → i0 ≤ i ∧ (l.map (entOf enc)).eraseIdx (i - i0) = (delE k l).map (entOf enc) := by
        intro l
        induction l with
        | nil => intro _ _ _ h; simp [findE] at h
        | cons x l ih =>
          intro i0 i v h
          simp only [findE] at h
          split at h
          · rename_i hk
            simp only [Option.some.injEq, Prod.mk.injEq] at h
            obtain ⟨rfl, rfl⟩ := h
            simp [delE, hk]
          · rename_i hk
            obtain ⟨h1, h2⟩ := ih (i0 + 1) i v h
            refine ⟨by omega, ?_⟩
            rw [show i - i0 = (i - (i0 + 1)) + 1 by omega]
            simp [delE, hk, h2]
      obtain ⟨_, h2⟩ := key l 0 i v0 hfe
      simp only [Nat.sub_zero] at h2
      simp only [ents, List.eraseIdxIfInBounds_toArray, h2]
    refine ⟨_, ?_, fin⟩
    simp only [hdel, Sem.run_bind, run_setObj hb hmp, Result.andThen_ok, Sem.run_pure]

/-- len(m) -/
theorem run_lenM {t et ty : TypeId} (ht : mapB P t = some (kt, et)) {w : World} {b N : Nat} {D : κ → Option Value} (h : MapHolds enc b D N w.heap) : (Builtin.len_ #[t] ty #[.map (some b)]).run P w = .ok (.int .i64 N) w := by
  obtain ⟨l, clk, hb, hm, hD, hN⟩ := h
  have hmp : ∀ c e f, Obj.map (ents enc l) clk ≠ .cells c e f := fun _ _ _ h => by cases h
  simp [Builtin.len_, run_underlying (mapB_spec ht), run_getObj (P := P) hb hmp, ents, hN, goInt]
end
end Go.Proofs.Ytboibdmflblphaa.Fw
