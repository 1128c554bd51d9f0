/-
  WHO FOLLOWS, AS PLAIN FUNCTIONS. No program is in sight.
-/
import Derived.Test.YtmikcmcgfehgfaaQuor
namespace Go.Proofs.Ytmikcmcgfehgfaa.FlwM
open Quor

structure Ans where
  frm : Int
  height : Int
  value : ByteArray
  deriving DecidableEq

def empty : ByteArray := { data := #[] }
def cnt (L : List Ans) (h : Int) (v : ByteArray) : Nat := L.countP fun a => decide (a.height = h ∧ a.value = v)
def heard (L : List Ans) (h i : Int) : Bool := L.any fun a => decide (a.height = h ∧ a.frm = i)
def valid (a : Ans) : Bool := decide (1 ≤ a.frm ∧ a.frm ≤ 7 ∧ 0 ≤ a.height ∧ a.height < 64 ∧ a.value ≠ empty ∧ a.value.size ≤ 4096)
def okA (L : List Ans) (a : Ans) : Bool := valid a && !heard L a.height a.frm
def put (L : List Ans) (a : Ans) : List Ans := if okA L a = true then L ++ [a] else L

def toldR (t h : Int) : List Ans → List Ans → Option ByteArray
  | _, [] => none
  | pre, a :: rest => if a.height = h ∧ t < cnt (pre ++ [a]) h a.value then some a.value else toldR t h (pre ++ [a]) rest
def told (t : Int) (L : List Ans) (h : Int) : Option ByteArray := toldR t h [] L

theorem cnt_snoc (L : List Ans) (a : Ans) (h : Int) (v : ByteArray) : cnt (L ++ [a]) h v = cnt L h v + if a.height = h ∧ a.value = v then 1 else 0 := by
  simp only [cnt, List.countP_append, List.countP_singleton, decide_eq_true_eq]
theorem heard_snoc (L : List Ans) (a : Ans) (h i : Int) : heard (L ++ [a]) h i = (heard L h i || decide (a.height = h ∧ a.frm = i)) := by
  simp [heard, List.any_append]
theorem cnt_le (L : List Ans) (h : Int) (v : ByteArray) : cnt L h v ≤ L.length := List.countP_le_length
theorem heard_none {L : List Ans} {h i : Int} (hh : heard L h i = false) : ∀ a ∈ L, ¬ (a.height = h ∧ a.frm = i) := by
  intro a ha e
  have : heard L h i = true := List.any_eq_true.2 ⟨a, ha, by simpa using e⟩
  rw [hh] at this
  cases this
theorem heard_of {L : List Ans} {e : Ans} {i : Nat} {h f : Int} (he : L[i]? = some e) (h1 : e.height = h) (h2 : e.frm = f) : heard L h f = true := List.any_eq_true.2 ⟨e, List.mem_of_getElem? he, by simp [h1, h2]⟩
theorem heard_no {L : List Ans} {h f : Int} (hh : ∀ e ∈ L, ¬ (e.frm = f ∧ e.height = h)) : heard L h f = false := List.any_eq_false.2 fun e he => by
  have := hh e he
  simp only [decide_eq_true_eq]
  exact fun ⟨a, b⟩ => this ⟨b, a⟩

theorem toldR_snoc (t h : Int) (a : Ans) : ∀ (rest pre : List Ans), toldR t h pre (rest ++ [a]) = match toldR t h pre rest with
    | some v => some v
    | none => if a.height = h ∧ t < cnt (pre ++ rest ++ [a]) h a.value then some a.value else none
  | [], pre => by simp only [List.nil_append, toldR, List.append_nil]
  | b :: rest, pre => by
    simp only [List.cons_append, toldR]
    by_cases hb : b.height = h ∧ t < cnt (pre ++ [b]) h b.value
    · simp only [if_pos hb]
    · rw [if_neg hb, toldR_snoc t h a rest (pre ++ [b])]
      simp only [if_neg hb, List.append_assoc, List.singleton_append]
theorem told_snoc (t h : Int) (L : List Ans) (a : Ans) : told t (L ++ [a]) h = match told t L h with
    | some v => some v
    | none => if a.height = h ∧ t < cnt (L ++ [a]) h a.value then some a.value else none := by
  unfold told
  rw [toldR_snoc]
  rfl
theorem told_stays {t h : Int} {L : List Ans} {a : Ans} {v : ByteArray} (hv : told t L h = some v) : told t (put L a) h = some v := by
  unfold put
  split
  · rw [told_snoc, hv]
  · exact hv

/-- What is told was said more than t times. -/
theorem toldR_cnt {t h : Int} {v : ByteArray} : ∀ (rest pre : List Ans), toldR t h pre rest = some v → t < cnt (pre ++ rest) h v ∧ ∃ a ∈ rest, a.height = h ∧ a.value = v
  | [], pre, hv => by simp [toldR] at hv
  | b :: rest, pre, hv => by
    simp only [toldR] at hv
    have e : pre ++ b :: rest = pre ++ [b] ++ rest := by simp
    by_cases hb : b.height = h ∧ t < cnt (pre ++ [b]) h b.value
    · rw [if_pos hb] at hv
      obtain rfl := Option.some.inj hv
      refine ⟨?_, b, List.mem_cons_self, hb.1, rfl⟩
      have h2 : cnt (pre ++ [b]) h b.value ≤ cnt (pre ++ [b] ++ rest) h b.value := by
        unfold cnt
        rw [List.countP_append (l₁ := pre ++ [b])]
        omega
      rw [e]
      have := hb.2
      omega
    · rw [if_neg hb] at hv
      obtain ⟨h1, a, ha, h2⟩ := toldR_cnt rest _ hv
      exact ⟨by rw [e]; exact h1, a, List.mem_cons_of_mem _ ha, h2⟩
theorem told_cnt {t h : Int} {v : ByteArray} {L : List Ans} (hv : told t L h = some v) : t < cnt L h v ∧ ∃ a ∈ L, a.height = h ∧ a.value = v := by
  have := toldR_cnt L [] hv
  simpa using this

/-- What holds of all that counted. -/
structure Wf (L : List Ans) : Prop where
  rng : ∀ a ∈ L, valid a = true
  nd : (L.map fun a => (a.height.toNat * 8 + a.frm.toNat)).Nodup

theorem valid_spec {a : Ans} (h : valid a = true) : 1 ≤ a.frm ∧ a.frm ≤ 7 ∧ 0 ≤ a.height ∧ a.height < 64 ∧ a.value ≠ empty ∧ a.value.size ≤ 4096 := by simpa [valid] using h
theorem Wf.nil : Wf [] := ⟨by simp, by simp⟩
theorem Wf.snoc {L : List Ans} (W : Wf L) {a : Ans} (h : okA L a = true) : Wf (L ++ [a]) := by
  simp only [okA, Bool.and_eq_true, Bool.not_eq_true'] at h
  refine ⟨fun x hx => ?_, ?_⟩
  · rcases List.mem_append.1 hx with hx | hx
    · exact W.rng x hx
    · simp at hx; subst hx; exact h.1
  · simp only [List.map_append, List.map_cons, List.map_nil]
    rw [List.nodup_append]
    refine ⟨W.nd, by simp, ?_⟩
    intro x hx y hy e
    simp only [List.mem_singleton] at hy
    subst hy; subst e
    obtain ⟨b, hb, he⟩ := List.mem_map.1 hx
    have hr := valid_spec (W.rng b hb)
    have ha := valid_spec h.1
    refine heard_none h.2 b hb ?_
    constructor <;> omega
theorem Wf.put {L : List Ans} (W : Wf L) (a : Ans) : Wf (put L a) := by
  unfold FlwM.put
  split
  · rename_i h; exact W.snoc h
  · exact W
theorem Wf.len {L : List Ans} (W : Wf L) : L.length ≤ 512 := by
  have := nodup_lt 512 _ W.nd (fun x hx => by
    obtain ⟨a, ha, rfl⟩ := List.mem_map.1 hx
    have := valid_spec (W.rng a ha)
    omega)
  simpa using this
theorem told_out {t h : Int} {L : List Ans} (W : Wf L) (hh : h < 0 ∨ 64 ≤ h) : told t L h = none := by
  cases hv : told t L h with
  | none => rfl
  | some v =>
    exfalso
    obtain ⟨_, a, ha, h1, _⟩ := told_cnt hv
    have := valid_spec (W.rng a ha)
    omega

def froms (L : List Ans) (h : Int) (v : ByteArray) : List Nat := (L.filter fun a => decide (a.height = h ∧ a.value = v)).map fun a => a.frm.toNat
theorem froms_len (L : List Ans) (h : Int) (v : ByteArray) : (froms L h v).length = cnt L h v := by
  simp [froms, cnt, List.countP_eq_length_filter]
theorem froms_mem {L : List Ans} {h : Int} {v : ByteArray} {x : Nat} (hx : x ∈ froms L h v) : ∃ a ∈ L, a.height = h ∧ a.value = v ∧ a.frm.toNat = x := by
  obtain ⟨a, ha, e⟩ := List.mem_map.1 hx
  simp only [List.mem_filter, decide_eq_true_eq] at ha
  exact ⟨a, ha.1, ha.2.1, ha.2.2, e⟩
theorem froms_nd {L : List Ans} (hn : (L.map fun a => (a.height.toNat * 8 + a.frm.toNat)).Nodup) (h : Int) (v : ByteArray) : (froms L h v).Nodup := by
  induction L with
  | nil => simp [froms]
  | cons a L ih =>
    simp only [List.map_cons, List.nodup_cons] at hn
    have ih := ih hn.2
    by_cases ha : a.height = h ∧ a.value = v
    · have e : froms (a :: L) h v = a.frm.toNat :: froms L h v := by simp [froms, ha]
      rw [e, List.nodup_cons]
      refine ⟨fun hx => hn.1 ?_, ih⟩
      obtain ⟨b, h1, h2, h3, h4⟩ := froms_mem hx
      refine List.mem_map.2 ⟨b, h1, ?_⟩
      rw [h2, h4, ha.1]
    · have e : froms (a :: L) h v = froms L h v := by simp [froms, ha]
      rw [e]; exact ih

/-- What more than t told: one of them is beyond t. -/
theorem told_good {t h : Int} {v : ByteArray} {L : List Ans} (W : Wf L) (t0 : 0 ≤ t) (hv : told t L h = some v) : ∃ a ∈ L, a.height = h ∧ a.value = v ∧ t < a.frm := by
  have hc := (told_cnt hv).1
  refine Classical.byContradiction fun hne => ?_
  have := nodup_lt t.toNat ((froms L h v).map (fun x => x - 1)) (map_nd (froms_nd W.nd h v) fun x hx y hy e => by
    obtain ⟨a, h1, h2, h3, h4⟩ := froms_mem hx
    obtain ⟨b, g1, g2, g3, g4⟩ := froms_mem hy
    have := valid_spec (W.rng a h1)
    have := valid_spec (W.rng b g1)
    omega) (fun x hx => by
    obtain ⟨y, hy, rfl⟩ := List.mem_map.1 hx
    obtain ⟨a, h1, h2, h3, h4⟩ := froms_mem hy
    have := valid_spec (W.rng a h1)
    have : ¬ t < a.frm := fun h => hne ⟨a, h1, h2, h3, h⟩
    omega)
  rw [List.length_map, froms_len] at this
  omega

/-! ### the log, and what is asked -/
def logF (g : Int → Option ByteArray) : Nat → Nat → List ByteArray
  | 0, _ => []
  | f + 1, k => match g k with
    | none => []
    | some v => v :: logF g f (k + 1)
def log (g : Int → Option ByteArray) : List ByteArray := logF g 65 0

theorem logF_len (g : Int → Option ByteArray) : ∀ (f k : Nat), (logF g f k).length ≤ f
  | 0, k => by simp [logF]
  | f + 1, k => by
    simp only [logF]
    split
    · simp
    · have := logF_len g f (k + 1); simp; omega
theorem logF_get (g : Int → Option ByteArray) : ∀ (f k i : Nat) (v : ByteArray), (logF g f k)[i]? = some v → g ((k + i : Nat) : Int) = some v
  | 0, k, i, v, h => by simp [logF] at h
  | f + 1, k, i, v, h => by
    simp only [logF] at h
    split at h
    · simp at h
    · rename_i u hu
      cases i with
      | zero => simp at h; subst h; exact hu
      | succ i => simp at h; have := logF_get g f (k + 1) i v h; rw [show k + (i + 1) = k + 1 + i by omega]; exact this
theorem log_get {g : Int → Option ByteArray} {i : Nat} {v : ByteArray} (h : (log g)[i]? = some v) : g (i : Int) = some v := by
  have := logF_get g 65 0 i v h
  simpa using this
theorem logF_end (g : Int → Option ByteArray) : ∀ (f k : Nat), (logF g f k).length < f → g ((k + (logF g f k).length : Nat) : Int) = none
  | 0, k, h => by omega
  | f + 1, k, h => by
    simp only [logF] at h ⊢
    split at h
    · rename_i hu; simpa using hu
    · rename_i u hu
      simp only [List.length_cons] at h ⊢
      have := logF_end g f (k + 1) (by omega)
      rw [show k + ((logF g f (k + 1)).length + 1) = k + 1 + (logF g f (k + 1)).length by omega]; exact this
/-- It is a beginning of any list that holds all that is told. -/
theorem logF_pre (g : Int → Option ByteArray) (l : List ByteArray) : ∀ (f k : Nat), (∀ (i : Nat) v, g i = some v → l[i]? = some v) → logF g f k = (l.drop k).take (logF g f k).length
  | 0, k, _ => by simp [logF]
  | f + 1, k, h => by
    simp only [logF]
    split
    · simp
    · rename_i v hv
      have h1 := h k v hv
      have hlt : k < l.length := (List.getElem?_eq_some_iff.1 h1).1
      have e : l.drop k = v :: l.drop (k + 1) := by rw [List.drop_eq_getElem_cons hlt, (List.getElem?_eq_some_iff.1 h1).2]
      rw [e]
      simp only [List.length_cons, List.take_succ_cons]
      rw [← logF_pre g l f (k + 1) h]
theorem log_pre {g : Int → Option ByteArray} {l : List ByteArray} (h : ∀ (i : Nat) v, g i = some v → l[i]? = some v) : log g = l.take (log g).length := by
  have := logF_pre g l 65 0 h
  simpa [log] using this

/-- More told, a longer log. -/
theorem logF_grow {g g' : Int → Option ByteArray} (h : ∀ i v, g i = some v → g' i = some v) : ∀ (f k : Nat), (logF g f k).length ≤ (logF g' f k).length ∧ (logF g' f k).take (logF g f k).length = logF g f k
  | 0, k => by simp [logF]
  | f + 1, k => by
    simp only [logF]
    split
    · simp
    · rename_i v hv
      rw [h _ _ hv]
      have := logF_grow h f (k + 1)
      simp only [List.length_cons, List.take_succ_cons]
      exact ⟨by omega, by rw [this.2]⟩

def askF (g : Int → Option ByteArray) (most : Int) : Nat → Int → List Int → List Int
  | 0, _, out => out
  | f + 1, h, out => if (out.length : Int) < most then askF g most f (h + 1) (if (g h).isNone then out ++ [h] else out) else out
def ask (g : Int → Option ByteArray) (most : Int) : List Int := askF g most (64 - (log g).length) (log g).length []

theorem askF_stop {g : Int → Option ByteArray} {most : Int} {f : Nat} {h : Int} {out : List Int} (hm : ¬ (out.length : Int) < most) : askF g most f h out = out := by
  cases f with
  | zero => rfl
  | succ f => simp only [askF, if_neg hm]
/-- All that is asked is not told, from the log's end on, and rises. -/
structure AskOk (g : Int → Option ByteArray) (n : Int) (h : Int) (out : List Int) : Prop where
  el : ∀ x ∈ out, g x = none ∧ n ≤ x ∧ x < h
  up : ∀ (i : Nat) x y, out[i]? = some x → out[i + 1]? = some y → x < y
theorem askF_ok {g : Int → Option ByteArray} {n most : Int} : ∀ (f : Nat) (h : Int) (out : List Int), n ≤ h → AskOk g n h out → AskOk g n (h + f) (askF g most f h out)
  | 0, h, out, _, H => by simpa [askF] using H
  | f + 1, h, out, hn, H => by
    have mono : ∀ {h h' : Int} {out : List Int}, h ≤ h' → AskOk g n h out → AskOk g n h' out := fun hle H => ⟨fun x hx => by have := H.el x hx; exact ⟨this.1, this.2.1, by omega⟩, H.up⟩
    simp only [askF]
    split
    · have e : h + ((f + 1 : Nat) : Int) = h + 1 + f := by omega
      rw [e]
      refine askF_ok f (h + 1) _ (by omega) ?_
      split
      · rename_i hg
        refine ⟨fun x hx => ?_, fun i x y hx hy => ?_⟩
        · rcases List.mem_append.1 hx with hx | hx
          · have := H.el x hx; exact ⟨this.1, this.2.1, by omega⟩
          · simp at hx; subst hx; exact ⟨by simpa using hg, hn, by omega⟩
        · rcases Nat.lt_or_ge (i + 1) out.length with hi | hi
          · rw [List.getElem?_append_left (by omega)] at hx
            rw [List.getElem?_append_left hi] at hy
            exact H.up i x y hx hy
          · rw [List.getElem?_append_right hi] at hy
            have e1 : i + 1 = out.length := by
              rcases Nat.lt_or_ge (i + 1 - out.length) 1 with h1 | h1
              · omega
              · rw [List.getElem?_eq_none (by simpa using h1)] at hy; cases hy
            rw [e1] at hy
            simp at hy
            subst hy
            rw [List.getElem?_append_left (by omega)] at hx
            exact (H.el x (List.mem_of_getElem? hx)).2.2
      · exact mono (by omega) H
    · exact mono (by omega) H
theorem ask_ok (g : Int → Option ByteArray) (most : Int) : ∃ h, AskOk g (log g).length h (ask g most) := ⟨_, askF_ok _ _ _ (Int.le_refl _) ⟨by simp, by simp⟩⟩
theorem askF_len (g : Int → Option ByteArray) (most : Int) : ∀ (f : Nat) (h : Int) (out : List Int), (askF g most f h out).length ≤ out.length + f
  | 0, h, out => by simp [askF]
  | f + 1, h, out => by
    simp only [askF]
    split
    · have := askF_len g most f (h + 1) (if (g h).isNone then out ++ [h] else out)
      split at this <;> simp at this ⊢ <;> split <;> simp_all <;> omega
    · omega
end Go.Proofs.Ytmikcmcgfehgfaa.FlwM
