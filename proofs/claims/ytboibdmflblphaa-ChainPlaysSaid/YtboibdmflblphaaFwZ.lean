/-
  From a walk to a law's row.
-/
import Derived.Test.YtboibdmflblphaaFw6
import Derived.ProofKit
import Derived.OpenShut
import Derived.Lib.SmallJoins
namespace Go.Proofs.Ytboibdmflblphaa.Fw
open Go Go.ChangeShapes Go.WideShapes Go.ChangeAt Go.RowKit

section
variable {H : Type} {enc : TypeId × Value → H} {P : Program}

theorem Chg.below {W W' : World} (h : Chg (fun _ => False) W W') : Below W.heap.size W W' := ⟨h.os, h.tape, h.out, h.size, fun k hk => h.keep k hk id⟩
theorem Chg.kept {W W' : World} (h : Chg (fun _ => False) W W') (may : MemPlace → Prop) : W.keptBut W' may := by
  refine ⟨h.os, h.out, fun i hi => ?_⟩
  rw [h.keep i hi id]
  cases W.heap[i]? with
  | none => trivial
  | some o => cases o <;> simp

theorem trodAll_stays (hl : laidOutB P = true) {W W' : World} {sp' : Nat → Bool} : ∀ {ts : List TypeId} {vs : List Value} {ds : List (DataW H)} {ps : List MemPlace}, (∀ t ∈ ts, P.readableRec t = true ∧ t < P.types.size) →
    DataW.TrodAll enc P W 0 (fun _ => true) true ts vs ds ps → (∀ p ∈ ps, W.sameAt W' p) → (∀ p ∈ ps, sp' p.block = true) → DataW.TrodAll enc P W' 0 sp' true ts vs ds ps
  | [], vs, ds, ps, _, h, _, _ => by
    obtain ⟨rfl, rfl, rfl⟩ := trodAll_nil h
    exact trodAll_mk0
  | t :: ts, vs, ds, ps, hr, h, hs, hsp => by
    obtain ⟨v, vs', d, ds', p, q, rfl, rfl, rfl, h1, h2⟩ := trodAll_cons h
    have := hr t List.mem_cons_self
    exact trodAll_cons_mk (WideElems.Trod_stays hl this.1 this.2 h1 (fun x hx => hs x (List.mem_append_left _ hx)) (fun x hx => hsp x (List.mem_append_left _ hx)))
      (trodAll_stays hl (fun t ht => hr t (List.mem_cons_of_mem _ ht)) h2 (fun x hx => hs x (List.mem_append_right _ hx)) (fun x hx => hsp x (List.mem_append_right _ hx)))

/-- The row's post, out of 'true in a world that has grown'. -/
theorem law_post {f : Func} {s : ChangeSpec} {tb : TypeId} {W W' : World} {args : Array Value} {ds gs : List (DataW H)} {before : List MemPlace} (hl : laidOutB P = true) (hr : ∀ t ∈ f.params.toList, P.readableRec t = true ∧ t < P.types.size)
    (hv : s.vars = []) (ht : f.resultTypes = #[tb]) (hb : P.underlying tb = some .bool) (hW : DataW.Whole enc P f.params.toList s.vars false W args.toList ds gs before)
    (hfn : s.fn H (ds ++ gs) = { results := [.lit (.bool true)], args := ds }) (hc : Chg (fun _ => False) W W') : s.post enc P f false true false false W args (.bool true) W' := by
  have hlt := hW.lt
  obtain ⟨p, q, hA, hV, hpq, hfz, hnd⟩ := hW
  rw [hv] at hV
  obtain ⟨rfl, rfl⟩ := trodVars_none hV
  refine post_of_same (pa := p) (pv := []) ⟨p, [], hA, by rw [hv]; exact hV, hpq, hfz, hnd⟩ (fun _ _ _ => ?_) (fun sp hsp => ?_) (fun _ _ => ?_) hpq (hc.kept _) hc.fz ?_
  · rw [hfn, ht]
    exact trodAll_mk1 (shut_bool hb _)
  · rw [hfn]
    subst hpq
    rw [List.append_nil] at hlt hsp
    exact trodAll_stays hl hr hA (fun x hx => hc.below.same (hlt x hx)) (fun x hx => hsp x hx)
  · rw [hfn, hv]
    rfl
  · exact ok_one ht rfl (okWide_bool_mk hb _)
end

/-! ### arguments, opened -/
section
variable {H : Type} {enc : TypeId × Value → H} {P : Program} {w : World} {base : Nat} {spare : Nat → Bool} {held : Bool}

def flatFs (g : TypeId → Option (List TypeId)) (P : Program) : List Field → Nat → Option (List TypeId)
  | [], _ => some []
  | f :: fs, off =>
    if f.offset = off then
      match g f.type with
      | some L => if P.cellsOf f.type = L.length then
          match flatFs g P fs (off + L.length) with
          | some R => some (L ++ R)
          | none => none
        else none
      | none => none
    else none
/-- The types of a value's cells, where it is a struct of structs: slices are cells. -/
def flatT (P : Program) : Nat → TypeId → Option (List TypeId)
  | 0, _ => none
  | n + 1, t => match P.underlying t with
    | some (.struct fs) => match flatFs (flatT P n) P fs.toList 0 with
      | some L => if P.cellsOf t = L.length then some L else none
      | none => none
    | some (.int _) | some .bool | some .string | some (.slice _) => some [t]
    | _ => none

/-- A cell that reads as a type says. -/
def Leaf (enc : TypeId × Value → H) (P : Program) (w : World) (base : Nat) (spare : Nat → Bool) (held : Bool) (t : TypeId) (c : Value) : Prop := ∃ fuel y, DataW.trod enc P w base spare held fuel t [c] = some y
def Lvs (enc : TypeId × Value → H) (P : Program) (w : World) (base : Nat) (spare : Nat → Bool) (held : Bool) (L : List TypeId) (cs : List Value) : Prop := cs.length = L.length ∧ ∀ (j : Nat) (tl : TypeId), L[j]? = some tl → ∃ c, cs[j]? = some c ∧ Leaf enc P w base spare held tl c

theorem leaves_fs {g : TypeId → Option (List TypeId)} {cs : List Value} (hg : ∀ t L fuel ds y, g t = some L → DataW.trod enc P w base spare held fuel t ds = some y → Lvs enc P w base spare held L ds) {n : Nat} {fs : Array Field} {xs : List (DataW H × List MemPlace)} (hx : xs.length = fs.size)
    (hf : ∀ (i : Nat) (f : Field), fs[i]? = some f → DataW.trod enc P w base spare held n f.type ((cs.drop f.offset).take (P.cellsOf f.type)) = xs[i]?) : ∀ (l : List Field) (i off : Nat) (R : List TypeId), fs.toList.drop i = l → flatFs g P l off = some R → ∀ j tl, R[j]? = some tl → ∃ c, cs[off + j]? = some c ∧ Leaf enc P w base spare held tl c
  | [], _, _, R, _, hR, j, tl, hj => by simp only [flatFs, Option.some.injEq] at hR; subst hR; simp at hj
  | f :: l, i, off, R, hl, hR, j, tl, hj => by
    simp only [flatFs] at hR
    split at hR
    · rename_i hoff
      cases hgf : g f.type with
      | none => rw [hgf] at hR; cases hR
      | some L =>
        rw [hgf] at hR
        simp only at hR
        split at hR
        · rename_i hcl
          cases hR2 : flatFs g P l (off + L.length) with
          | none => rw [hR2] at hR; cases hR
          | some R2 =>
            rw [hR2] at hR
            simp only [Option.some.injEq] at hR
            subst hR
            have hfi : fs[i]? = some f := by
              have : (fs.toList.drop i)[0]? = some f := by rw [hl]; rfl
              simpa using this
            have hi : i < fs.size := (Array.getElem?_eq_some_iff.1 hfi).1
            have ht := hf i f hfi
            rw [List.getElem?_eq_getElem (by omega)] at ht
            obtain ⟨h1, h2⟩ := hg _ _ _ _ _ hgf ht
            rcases Nat.lt_or_ge j L.length with hjl | hjl
            · rw [List.getElem?_append_left hjl] at hj
              obtain ⟨c, hc, hleaf⟩ := h2 j tl hj
              refine ⟨c, ?_, hleaf⟩
              rw [List.getElem?_take] at hc
              split at hc
              · rw [List.getElem?_drop, hoff] at hc; exact hc
              · cases hc
            · rw [List.getElem?_append_right hjl] at hj
              have := leaves_fs hg hx hf l (i + 1) (off + L.length) R2 (by rw [← List.drop_drop, hl]; rfl) hR2 (j - L.length) tl hj
              rw [show off + L.length + (j - L.length) = off + j by omega] at this
              exact this
        · cases hR
    · cases hR

theorem trod_leaves : ∀ (n : Nat) (t : TypeId) (L : List TypeId) (fuel : Nat) (cs : List Value) (x : DataW H × List MemPlace), flatT P n t = some L → DataW.trod enc P w base spare held fuel t cs = some x → Lvs enc P w base spare held L cs
  | 0, _, _, _, _, _, h, _ => by simp [flatT] at h
  | n + 1, t, L, fuel, cs, x, h, ht => by
    simp only [flatT] at h
    have one : ∀ c, cs = [c] → L = [t] → Lvs enc P w base spare held L cs := fun c h1 h2 => by
      subst h1; subst h2
      refine ⟨rfl, fun j tl hj => ?_⟩
      cases j with
      | zero => simp at hj; subst hj; exact ⟨c, rfl, fuel, x, ht⟩
      | succ j => simp at hj
    split at h <;> try (cases h; done)
    · rename_i fs hu
      cases hR : flatFs (flatT P n) P fs.toList 0 with
      | none => rw [hR] at h; cases h
      | some R =>
        rw [hR] at h
        simp only at h
        split at h
        · rename_i hcl
          simp only [Option.some.injEq] at h
          subst h
          obtain ⟨xs, m, _, _, hlen, hxs, hf⟩ := DataW.trod_struct hu ht
          refine ⟨by rw [hlen, hcl], fun j tl hj => ?_⟩
          have := leaves_fs (fun t L fuel ds y h1 h2 => trod_leaves n t L fuel ds y h1 h2) hxs hf fs.toList 0 0 R rfl hR j tl hj
          simpa using this
        · cases h
    · rename_i k hu
      obtain ⟨m, h1, _⟩ := DataW.trod_int hu ht
      simp only [Option.some.injEq] at h
      exact one _ h1 h.symm
    · rename_i hu
      obtain ⟨m, h1, _⟩ := DataW.trod_bool hu ht
      simp only [Option.some.injEq] at h
      exact one _ h1 h.symm
    · rename_i hu
      obtain ⟨m, h1, _⟩ := DataW.trod_string hu ht
      simp only [Option.some.injEq] at h
      exact one _ h1 h.symm
    · rename_i e hu
      simp only [Option.some.injEq] at h
      rcases Go.Deep.open_slice hu ht with ⟨h1, _⟩ | ⟨a, len, cap, m, n', D, Pl, h1, _⟩
      · exact one _ h1 h.symm
      · exact one _ h1 h.symm

theorem Leaf.int {t : TypeId} {c : Value} (hu : P.underlying t = some (.int .i64)) (h : Leaf enc P w base spare held t c) : ∃ n, c = .int .i64 n ∧ In64 n := by
  obtain ⟨fuel, y, h⟩ := h
  obtain ⟨n, h1, _, hw⟩ := DataW.trod_int hu h
  refine ⟨n, by simpa using h1, ?_⟩
  simpa [In64, Lit.wf, IntKind.min, IntKind.max, IntKind.signed, IntKind.bits] using hw
theorem Leaf.str {t : TypeId} {c : Value} (hu : P.underlying t = some .string) (h : Leaf enc P w base spare held t c) : ∃ s : ByteArray, c = .string s ∧ s.size ≤ maxLen := by
  obtain ⟨fuel, y, h⟩ := h
  obtain ⟨s, h1, _, hw⟩ := DataW.trod_string hu h
  exact ⟨s, by simpa using h1, hw⟩
/-- A struct argument. -/
theorem open_struct {L : List TypeId} {n : Nat} {t : TypeId} {fs : Array Field} {r : Go.Reach} {b0 : Nat} {v : Value} {d : DataW H} {p : List MemPlace} (hu : P.underlying t = some (.struct fs)) (hL : flatT P n t = some L) (hv : Value.okWide P w r b0 t v)
    (h : DataW.Trod enc P w base spare held t v d p) : ∃ cs : List Value, v = .agg cs.toArray ∧ Lvs enc P w base spare held L cs := by
  obtain ⟨cs, rfl, _⟩ := okWide_struct hu hv
  obtain ⟨fuel, hf⟩ := h
  exact ⟨cs.toList, by simp, trod_leaves n t L fuel _ _ hL hf⟩
theorem open_leaf {t : TypeId} {v : Value} {d : DataW H} {p : List MemPlace} (hc : v.cells = #[v]) (h : DataW.Trod enc P w base spare held t v d p) : Leaf enc P w base spare held t v := by
  obtain ⟨fuel, hf⟩ := h
  rw [hc] at hf
  exact ⟨fuel, _, hf⟩
/-- An argument's slice: it reads as a list. -/
theorem Leaf.slice {α : Type} {f : α → List Value} {ok : α → Prop} {t e : TypeId} {L : List TypeId} {n : Nat} {c : Value} (hu : P.underlying t = some (.slice e)) (hL : flatT P n e = some L) (hC : P.cellsOf e = L.length) (hpos : 0 < L.length)
    (hdec : ∀ cs, Lvs enc P w base spare held L cs → ∃ a, cs = f a ∧ ok a) (h : Leaf enc P w base spare held t c) :
    ∃ l : List α, RdSl w.heap c l.length L.length (l.flatMap f) ∧ (∀ a ∈ l, ok a) ∧ l.length ≤ maxLen ∧ ∀ b ∈ ownB c, 0 < l.length → b < w.heap.size := by
  obtain ⟨fuel, y, h⟩ := h
  rcases Go.Deep.open_slice hu h with ⟨h1, _⟩ | ⟨a, len, cap, m, n', D, Pl, h1, hb, hlc, hcm, hm, _, hi⟩
  · simp only [List.cons.injEq, and_true] at h1
    subst h1
    exact ⟨[], ⟨by simp, none, 0, rfl, Nat.le_refl _, fun h => absurd h (by simp)⟩, by simp, by simp, by simp [ownB]⟩
  · simp only [List.cons.injEq, and_true] at h1
    subst h1
    have hlm : len ≤ m := by rw [hm]; split <;> omega
    have hel : ∀ i, i < len → ∃ x, f x = (f x) ∧ ok x ∧ ∀ j u, (f x)[j]? = some u → w.cell? (a.add (i * L.length + j)) = some u := fun i hil => by
      obtain ⟨cs', hc, ht⟩ := hi i (by omega)
      have hlv := trod_leaves n e L n' cs' _ hL ht
      obtain ⟨x, hx, hok⟩ := hdec cs' hlv
      obtain ⟨_, hcl, hat⟩ := World.cells?_some hc
      refine ⟨x, rfl, hok, fun j u hu => ?_⟩
      have hjl : j < cs'.length := by rw [hx]; exact (List.getElem?_eq_some_iff.1 hu).1
      have := hat j (by omega)
      rw [Go.Deep.add_add, hC] at this
      rw [this, hx, hu]
    have hflen : ∀ i, i < len → ∃ x, ok x ∧ (f x).length = L.length ∧ ∀ j u, (f x)[j]? = some u → w.cell? (a.add (i * L.length + j)) = some u := fun i hil => by
      obtain ⟨cs', hc, ht⟩ := hi i (by omega)
      have hlv := trod_leaves n e L n' cs' _ hL ht
      obtain ⟨x, hx, hok⟩ := hdec cs' hlv
      obtain ⟨_, hcl, hat⟩ := World.cells?_some hc
      refine ⟨x, hok, by rw [← hx]; exact hlv.1, fun j u hu => ?_⟩
      have hjl : j < cs'.length := by rw [hx]; exact (List.getElem?_eq_some_iff.1 hu).1
      have := hat j (by omega)
      rw [Go.Deep.add_add, hC] at this
      rw [this, hx, hu]
    clear hel
    -- the list of the first k elements
    have key : ∀ k, k ≤ len → ∃ l : List α, l.length = k ∧ (∀ x ∈ l, ok x ∧ (f x).length = L.length) ∧ ∀ j u, (l.flatMap f)[j]? = some u → w.cell? (a.add j) = some u := by
      intro k
      induction k with
      | zero => intro _; exact ⟨[], rfl, by simp, by simp⟩
      | succ k ih =>
        intro hk
        obtain ⟨l, h1, h2, h3⟩ := ih (by omega)
        obtain ⟨x, hok, hlen, hc⟩ := hflen k (by omega)
        have hfl : (l.flatMap f).length = k * L.length := by
          clear h3
          subst h1
          induction l with
          | nil => simp
          | cons y l ih' =>
            simp only [List.flatMap_cons, List.length_append, List.length_cons, Nat.add_mul, Nat.one_mul]
            rw [(h2 y List.mem_cons_self).2]
            have : (l.flatMap f).length = l.length * L.length := by
              have : ∀ l : List α, (∀ x ∈ l, (f x).length = L.length) → (l.flatMap f).length = l.length * L.length := by
                intro l
                induction l with
                | nil => simp
                | cons z l ih'' => intro hz; simp only [List.flatMap_cons, List.length_append, List.length_cons, Nat.add_mul, Nat.one_mul]; rw [hz z List.mem_cons_self, ih'' (fun x hx => hz x (List.mem_cons_of_mem _ hx))]; omega
              exact this l (fun x hx => (h2 x (List.mem_cons_of_mem _ hx)).2)
            omega
        refine ⟨l ++ [x], by simp [h1], fun y hy => ?_, fun j u hj => ?_⟩
        · rcases List.mem_append.1 hy with hy | hy
          · exact h2 y hy
          · simp at hy; subst hy; exact ⟨hok, hlen⟩
        · simp only [List.flatMap_append, List.flatMap_cons, List.flatMap_nil, List.append_nil] at hj
          rcases Nat.lt_or_ge j (l.flatMap f).length with hjl | hjl
          · rw [List.getElem?_append_left hjl] at hj; exact h3 j u hj
          · rw [List.getElem?_append_right hjl, hfl] at hj
            have := hc (j - k * L.length) u hj
            rw [show k * L.length + (j - k * L.length) = j by omega] at this
            exact this
    obtain ⟨l, h1, h2, h3⟩ := key len (Nat.le_refl _)
    have hfl : (l.flatMap f).length = len * L.length := by
      have : ∀ l : List α, (∀ x ∈ l, (f x).length = L.length) → (l.flatMap f).length = l.length * L.length := by
        intro l
        induction l with
        | nil => simp
        | cons z l ih'' => intro hz; simp only [List.flatMap_cons, List.length_append, List.length_cons, Nat.add_mul, Nat.one_mul]; rw [hz z List.mem_cons_self, ih'' (fun x hx => hz x (List.mem_cons_of_mem _ hx))]; omega
      rw [this l (fun x hx => (h2 x hx).2), h1]
    subst h1
    have cell0 : 0 < l.length → ∃ b off arr T fz, a = ⟨b, off, none⟩ ∧ w.heap[b]? = some (.cells arr T fz) ∧ b < w.heap.size := fun h0 => by
      have hlt : 0 < (l.flatMap f).length := by rw [hfl]; exact Nat.mul_pos h0 hpos
      have hc := h3 0 _ (List.getElem?_eq_getElem hlt)
      have ha : a.add 0 = a := rfl
      rw [ha] at hc
      unfold World.cell? at hc
      cases hb : w.heap[a.block]? with
      | none => rw [hb] at hc; cases hc
      | some o =>
        rw [hb] at hc
        cases o <;> simp only [reduceCtorEq] at hc
        rename_i arr T fz
        split at hc
        · cases hc
        · rename_i hs
          refine ⟨a.block, a.off, arr, T, fz, ?_, hb, (Array.getElem?_eq_some_iff.1 hb).1⟩
          cases a
          simp at hs
          simp [hs]
    refine ⟨l, ⟨hfl, some a, cap, rfl, hlc, fun h0 => ?_⟩, fun x hx => (h2 x hx).1, by omega, fun b hb h0 => ?_⟩
    · obtain ⟨b, off, arr, T, fz, rfl, hbk, _⟩ := cell0 h0
      refine ⟨b, off, arr, T, fz, rfl, hbk, fun j u hj => ?_⟩
      have := h3 j u hj
      rw [add_at] at this
      unfold World.cell? at this
      simpa [hbk] using this
    · obtain ⟨b', off, arr, T, fz, rfl, hbk, hlt⟩ := cell0 h0
      simp [ownB] at hb
      omega
end
end Go.Proofs.Ytboibdmflblphaa.Fw
