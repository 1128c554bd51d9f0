/-
  ONE VALUE BEHIND THE OTHER, AS PLAIN FUNCTIONS. No program is in sight.
-/
import Derived.Test.YtboibdmflblphaaCouM
namespace Go.Proofs.Ytboibdmflblphaa.ChnM
open VoteM AgrM CouM

structure Chn where
  n : Int
  t : Int
  me : Int
  begun : Bool
  part : ASt
  log : List ByteArray
  wants : List ByteArray
def tilde : ByteArray := { data := #[126] }
def mayB (v : ByteArray) : Bool := decide (v ≠ VoteM.empty) && decide (v.size ≤ 4096)
def tallsO (h : Nat) (l : List Wrd) : List To := l.map fun w => ⟨(h : Int), w⟩
def headW (l : List ByteArray) : ByteArray := (l[0]?).getD tilde
def Chn.over (c : Chn) : Bool := decide (64 ≤ c.log.length)
def Chn.fresh (c : Chn) : ASt := newA c.n c.t c.me c.log.length (headW c.wants)
def Chn.begin (c : Chn) : Chn := if c.over = true then c else { c with part := c.fresh.start }
def Chn.beginO (c : Chn) : List To := if c.over = true then [] else tallsO c.log.length c.fresh.startO
def idxB (l : List ByteArray) (v : ByteArray) : Option Nat := l.findIdx? fun x => decide (x = v)
def ridB (l : List ByteArray) (v : ByteArray) : List ByteArray := match idxB l v with
  | some i => l.eraseIdx i
  | none => l
def Chn.laid (c : Chn) (v : ByteArray) : Chn := { c with log := c.log ++ [v], wants := ridB c.wants v }
def Chn.dec (c : Chn) (v : ByteArray) : Chn := (c.laid v).begin
def Chn.decO (c : Chn) (v : ByteArray) : List To := (c.laid v).beginO
def Chn.put (c : Chn) (a : ASt) : Chn := { c with part := a }
def Chn.word (c : Chn) (w : Wrd) : Chn :=
  if c.begun = true ∧ c.over = false then
    if (c.part.take w).1.done = true then (c.put (c.part.take w).1).dec (c.part.take w).1.dec else c.put (c.part.take w).1
  else c
def Chn.wordO (c : Chn) (w : Wrd) : List To :=
  if c.begun = true ∧ c.over = false then
    if (c.part.take w).1.done = true then tallsO c.log.length (c.part.take w).2 ++ (c.put (c.part.take w).1).decO (c.part.take w).1.dec else tallsO c.log.length (c.part.take w).2
  else []
def Chn.takes (c : Chn) (x : To) : Bool := decide (x.node = (c.log.length : Int)) && decide (x.w.kind ≠ 4)
def Chn.take (c : Chn) (x : To) : Chn := if c.takes x = true then c.word x.w else c
def Chn.takeO (c : Chn) (x : To) : List To := if c.takes x = true then c.wordO x.w else []
def Chn.tmo (c : Chn) (s : Int) : Wrd := ⟨4, 0, if c.begun = true then c.part.round else 0, s, VoteM.empty⟩
def Chn.go (c : Chn) : Chn := { c with begun := true }
def Chn.start (c : Chn) : Chn := if c.begun = true then c else c.go.begin
def Chn.startO (c : Chn) : List To := if c.begun = true then [] else c.go.beginO
def Chn.wish (c : Chn) (v : ByteArray) : Chn := { c with wants := c.wants ++ [v] }
def Chn.want (c : Chn) (v : ByteArray) : Chn := if mayB v = true ∧ c.wants.length < 8 then c.wish v else c
def Chn.wantE (c : Chn) (v : ByteArray) : Int := if mayB v = true then (if c.wants.length < 8 then 0 else 7) else 1
/-- how many are caught -/
def Chn.catchN (c : Chn) : List ByteArray → Nat
  | [] => 0
  | v :: l => if mayB v = true ∧ c.over = false then (c.dec v).catchN l + 1 else 0
def Chn.decs (c : Chn) : List ByteArray → Chn
  | [] => c
  | v :: l => (c.dec v).decs l
def newC (n t me : Int) (a : ASt) : Chn := ⟨n, t, me, false, a, [], []⟩

/-- What holds always. -/
structure Chn.Wf (c : Chn) : Prop where
  q : quorum c.n c.t ≠ 0
  m0 : 1 ≤ c.me
  m1 : c.me ≤ c.n
  ll : c.log.length ≤ 64
  wl : c.wants.length ≤ 8
  w : ∀ v ∈ c.wants, mayB v = true
  p : c.begun = true → c.part.Wf

theorem may_spec {v : ByteArray} : mayB v = true ↔ v ≠ VoteM.empty ∧ v.size ≤ 4096 := by simp [mayB]
theorem tilde_may : mayB tilde = true := by decide
theorem head_may {l : List ByteArray} (h : ∀ v ∈ l, mayB v = true) : mayB (headW l) = true := by
  unfold headW
  cases e : l[0]? with
  | none => exact tilde_may
  | some v => exact h v (List.mem_of_getElem? e)
theorem Chn.Wf.ok {c : Chn} (W : c.Wf) : okA c.n c.t c.me c.log.length (headW c.wants) = true := by
  have h := may_spec.1 (head_may W.w)
  have := W.ll
  simp only [okA, Bool.and_eq_true, decide_eq_true_eq]
  exact ⟨W.q, W.m0, W.m1, by omega, by omega, h.1, h.2⟩
theorem over_spec {c : Chn} : c.over = true ↔ 64 ≤ c.log.length := by simp [Chn.over]
theorem over_no {c : Chn} : c.over = false ↔ c.log.length < 64 := by simp [Chn.over]
theorem Chn.Wf.fresh {c : Chn} (W : c.Wf) : c.fresh.start.Wf := (start_wf (newA_wf W.ok)).1
theorem Chn.Wf.begin {c : Chn} (W : c.Wf) : c.begin.Wf := by
  unfold Chn.begin
  split
  · exact W
  · exact ⟨W.q, W.m0, W.m1, W.ll, W.wl, W.w, fun _ => W.fresh⟩
theorem rid_mem {l : List ByteArray} {v x : ByteArray} (h : x ∈ ridB l v) : x ∈ l := by
  unfold ridB at h
  split at h
  · exact List.mem_of_mem_eraseIdx h
  · exact h
theorem rid_len {l : List ByteArray} {v : ByteArray} : (ridB l v).length ≤ l.length := by
  unfold ridB
  split
  · rw [List.length_eraseIdx]; split <;> omega
  · exact Nat.le_refl _
theorem Chn.Wf.laid {c : Chn} (W : c.Wf) (h : c.over = false) (v : ByteArray) : (c.laid v).Wf := by
  have := over_no.1 h
  refine ⟨W.q, W.m0, W.m1, ?_, Nat.le_trans rid_len W.wl, fun x hx => W.w x (rid_mem hx), W.p⟩
  show (c.log ++ [v]).length ≤ 64
  rw [List.length_append]
  simp only [List.length_cons, List.length_nil]
  omega
theorem Chn.Wf.dec {c : Chn} (W : c.Wf) (h : c.over = false) (v : ByteArray) : (c.dec v).Wf := (W.laid h v).begin
theorem Chn.Wf.put {c : Chn} (W : c.Wf) {a : ASt} (h : a.Wf) : (c.put a).Wf := ⟨W.q, W.m0, W.m1, W.ll, W.wl, W.w, fun _ => h⟩
theorem Chn.Wf.word {c : Chn} (W : c.Wf) (w : Wrd) : (c.word w).Wf := by
  unfold Chn.word
  split
  · rename_i h
    have h2 := (take_wf (W.p h.1) w).1
    split
    · exact Chn.Wf.dec (c := c.put _) (W.put h2) h.2 _
    · exact W.put h2
  · exact W
theorem Chn.Wf.take {c : Chn} (W : c.Wf) (x : To) : (c.take x).Wf := by
  unfold Chn.take
  split
  · exact W.word _
  · exact W
theorem begin_begun {c : Chn} : c.begin.begun = c.begun := by unfold Chn.begin; split <;> rfl
/-- None has begun with a log. -/
theorem Chn.Wf.start {c : Chn} (W : c.Wf) (h0 : c.begun = false → c.over = false) : c.start.Wf := by
  unfold Chn.start
  split
  · exact W
  · rename_i h
    have h : c.begun = false := by simpa using h
    have ho : c.go.over = false := h0 h
    unfold Chn.begin
    rw [if_neg (by rw [ho]; decide)]
    refine ⟨W.q, W.m0, W.m1, W.ll, W.wl, W.w, fun _ => ?_⟩
    exact (start_wf (newA_wf W.ok)).1
theorem Chn.Wf.want {c : Chn} (W : c.Wf) (v : ByteArray) : (c.want v).Wf := by
  unfold Chn.want
  split
  · rename_i h
    refine ⟨W.q, W.m0, W.m1, W.ll, ?_, ?_, W.p⟩
    · show (c.wants ++ [v]).length ≤ 8
      rw [List.length_append]
      simp only [List.length_cons, List.length_nil]
      omega
    · intro x hx
      rcases List.mem_append.1 hx with hx | hx
      · exact W.w x hx
      · rw [List.mem_singleton.1 hx]; exact h.1
  · exact W
theorem newC_wf {n t me : Int} {v : ByteArray} {a : ASt} (hk : okA n t me 0 v = true) : (newC n t me a).Wf := by
  simp only [okA, Bool.and_eq_true, decide_eq_true_eq] at hk
  exact ⟨hk.1, hk.2.1, hk.2.2.1, by simp [newC], by simp [newC], by simp [newC], fun h => by cases h⟩
theorem idx_at {l : List ByteArray} {v : ByteArray} {k : Nat} (h : l[k]? = some v) (hn : ∀ x ∈ l.take k, x ≠ v) : idxB l v = some k := by
  unfold idxB
  obtain ⟨hk, e⟩ := List.getElem?_eq_some_iff.1 h
  rw [List.findIdx?_eq_some_iff_getElem]
  refine ⟨hk, by simp [e], fun j hj => ?_⟩
  have hjl : j < l.length := Nat.lt_trans hj hk
  have : l[j] ∈ l.take k := by
    rw [List.mem_take_iff_getElem]
    exact ⟨j, by omega, rfl⟩
  simpa using hn _ this
theorem idx_no {l : List ByteArray} {v : ByteArray} (hn : ∀ x ∈ l, x ≠ v) : idxB l v = none := by
  unfold idxB
  rw [List.findIdx?_eq_none_iff]
  intro x hx
  simpa using hn x hx
theorem idx_lt {l : List ByteArray} {v : ByteArray} {k : Nat} (h : idxB l v = some k) : k < l.length := by
  unfold idxB at h
  obtain ⟨h1, _⟩ := List.findIdx?_eq_some_iff_getElem.1 h
  exact h1
theorem tallsO_snoc {h : Nat} {l : List Wrd} {w : Wrd} : tallsO h (l ++ [w]) = tallsO h l ++ [⟨(h : Int), w⟩] := by simp [tallsO]
theorem tallsO_len {h : Nat} {l : List Wrd} : (tallsO h l).length = l.length := by simp [tallsO]
def Chn.next (c : Chn) : Chn := if c.part.done = true then c.dec c.part.dec else c
def Chn.nextO (c : Chn) (out : List To) : List To := if c.part.done = true then out ++ c.decO c.part.dec else out
theorem word_yes {c : Chn} {w : Wrd} (hb : c.begun = true) (ho : c.over = false) : c.word w = (c.put (c.part.take w).1).next := if_pos ⟨hb, ho⟩
theorem wordO_yes {c : Chn} {w : Wrd} (hb : c.begun = true) (ho : c.over = false) : c.wordO w = (c.put (c.part.take w).1).nextO (tallsO c.log.length (c.part.take w).2) := if_pos ⟨hb, ho⟩
theorem word_no {c : Chn} {w : Wrd} (h : c.begun = false ∨ c.over = true) : c.word w = c ∧ c.wordO w = [] := by
  have : ¬ (c.begun = true ∧ c.over = false) := by rintro ⟨h1, h2⟩; rcases h with h | h <;> simp_all
  exact ⟨if_neg this, if_neg this⟩
theorem start_yes {c : Chn} (h : c.begun = true) : c.start = c ∧ c.startO = [] := ⟨if_pos h, if_pos h⟩
theorem start_no {c : Chn} (h : c.begun = false) (ho : c.over = false) : c.start = c.go.put c.go.fresh.start ∧ c.startO = tallsO c.log.length c.go.fresh.startO := by
  have hg : c.go.over = false := ho
  refine ⟨?_, ?_⟩
  · unfold Chn.start
    rw [if_neg (by rw [h]; decide)]
    exact if_neg (by rw [hg]; decide)
  · unfold Chn.startO
    rw [if_neg (by rw [h]; decide)]
    exact if_neg (by rw [hg]; decide)
theorem dec_over {c : Chn} {v : ByteArray} (h : (c.laid v).over = true) : c.dec v = c.laid v ∧ c.decO v = [] := ⟨if_pos h, if_pos h⟩
theorem dec_more {c : Chn} {v : ByteArray} (h : (c.laid v).over = false) : c.dec v = (c.laid v).put (c.laid v).fresh.start ∧ c.decO v = tallsO (c.laid v).log.length (c.laid v).fresh.startO :=
  ⟨if_neg (by rw [h]; decide), if_neg (by rw [h]; decide)⟩
theorem dec_begun {c : Chn} {v : ByteArray} : (c.dec v).begun = c.begun := begin_begun
theorem next_yes {c : Chn} {out : List To} (h : c.part.done = true) : c.next = c.dec c.part.dec ∧ c.nextO out = out ++ c.decO c.part.dec := ⟨if_pos h, if_pos h⟩
theorem next_no {c : Chn} {out : List To} (h : c.part.done = false) : c.next = c ∧ c.nextO out = out := ⟨if_neg (by rw [h]; decide), if_neg (by rw [h]; decide)⟩
theorem take_yes {c : Chn} {x : To} (h : c.takes x = true) : c.take x = c.word x.w ∧ c.takeO x = c.wordO x.w := ⟨if_pos h, if_pos h⟩
theorem take_no {c : Chn} {x : To} (h : c.takes x = false) : c.take x = c ∧ c.takeO x = [] := ⟨if_neg (by rw [h]; decide), if_neg (by rw [h]; decide)⟩
theorem tmo_yes {c : Chn} {s : Int} (h : c.begun = true) : c.tmo s = ⟨4, 0, c.part.round, s, VoteM.empty⟩ := by unfold Chn.tmo; rw [if_pos h]
theorem tmo_no {c : Chn} {s : Int} (h : c.begun = false) : c.tmo s = ⟨4, 0, 0, s, VoteM.empty⟩ := by unfold Chn.tmo; rw [if_neg (by rw [h]; decide)]
theorem catch_end {c : Chn} {v : ByteArray} {l : List ByteArray} (h : mayB v = false ∨ c.over = true) : c.catchN (v :: l) = 0 := by
  have : ¬ (mayB v = true ∧ c.over = false) := by rintro ⟨h1, h2⟩; rcases h with h | h <;> simp_all
  exact if_neg this
theorem catch_on {c : Chn} {v : ByteArray} {l : List ByteArray} (h1 : mayB v = true) (h2 : c.over = false) : c.catchN (v :: l) = (c.dec v).catchN l + 1 := if_pos ⟨h1, h2⟩
theorem decs_snoc {v : ByteArray} : ∀ {l : List ByteArray} {c : Chn}, c.decs (l ++ [v]) = (c.decs l).dec v
  | [], _ => rfl
  | _ :: l, c => decs_snoc (l := l) (c := c.dec _)
theorem drop_at {l : List ByteArray} {i : Nat} {e : ByteArray} (h : l[i]? = some e) : l.drop i = e :: l.drop (i + 1) := by
  obtain ⟨h1, h2⟩ := List.getElem?_eq_some_iff.1 h
  rw [← h2]; exact List.drop_eq_getElem_cons h1
theorem decs_next {c : Chn} {l : List ByteArray} {i : Nat} {e : ByteArray} (h : l[i]? = some e) : c.decs (l.take (i + 1)) = (c.decs (l.take i)).dec e := by
  rw [List.take_add_one, h]
  exact decs_snoc
theorem decs_begun : ∀ {l : List ByteArray} {c : Chn}, (c.decs l).begun = c.begun
  | [], _ => rfl
  | _ :: l, c => (decs_begun (l := l) (c := c.dec _)).trans dec_begun
end Go.Proofs.Ytboibdmflblphaa.ChnM
