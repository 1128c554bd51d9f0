/-
  BROADCASTS OF ALL NODES, AS PLAIN FUNCTIONS. No program is in sight.
-/
import Derived.Test.YtibomfgeemhogaaCastM
namespace Go.Proofs.Ytibomfgeemhogaa.CasM
open CastM

structure Wd where
  frm : Int
  seq : Int
  m : Msg
  deriving DecidableEq
abbrev Key := Int × Int
structure KSt where
  n : Int
  t : Int
  ks : List Key
  C : Key → CSt
  T : Nat → List ByteArray

def upd1 {α β : Type} [DecidableEq α] (f : α → β) (x : α) (y : β) : α → β := fun z => if z = x then y else f z
theorem upd1_at {α β : Type} [DecidableEq α] {f : α → β} {x : α} {y : β} : upd1 f x y x = y := if_pos rfl
theorem upd1_ne {α β : Type} [DecidableEq α] {f : α → β} {x z : α} {y : β} (h : z ≠ x) : upd1 f x y z = f z := if_neg h

def newK (n t : Int) : KSt := ⟨n, t, [], fun _ => new 0 0 0, fun _ => []⟩
def KSt.node (K : KSt) (f : Int) : Bool := decide (1 ≤ f) && decide (f ≤ K.n)
def KSt.len (K : KSt) (f : Int) : Int := (K.T f.toNat).length
def KSt.may (K : KSt) (w : Wd) : Bool := K.node w.frm && decide (K.len w.frm ≤ w.seq ∧ w.seq - K.len w.frm < 8)
def KSt.open1 (K : KSt) (k : Key) : KSt := if k ∈ K.ks then K else { K with ks := K.ks ++ [k], C := upd1 K.C k (new K.n K.t k.1) }
def KSt.set (K : KSt) (k : Key) (c : CSt) : KSt := { K with C := upd1 K.C k c }
/-- One text is told, if one is due. -/
def KSt.tell (K : KSt) (f : Int) : KSt := { K with ks := K.ks.erase (f, K.len f), T := upd1 K.T f.toNat (K.T f.toNat ++ [(K.C (f, K.len f)).body]) }
def KSt.due (K : KSt) (f : Int) : Bool := decide ((f, K.len f) ∈ K.ks) && (K.C (f, K.len f)).done
def tellF : Nat → KSt → Int → KSt
  | 0, K, _ => K
  | j + 1, K, f => if K.due f = true then tellF j (K.tell f) f else K
def KSt.tells (K : KSt) (f : Int) : KSt := tellF K.ks.length K f
def KSt.key (w : Wd) : Key := (w.frm, w.seq)
def KSt.mid (K : KSt) (w : Wd) : KSt := (K.open1 (w.frm, w.seq)).set (w.frm, w.seq) (((K.open1 (w.frm, w.seq)).C (w.frm, w.seq)).take w.m).1
def KSt.out (K : KSt) (w : Wd) : List Wd := (((K.open1 (w.frm, w.seq)).C (w.frm, w.seq)).take w.m).2.map fun m => ⟨w.frm, w.seq, m⟩
def KSt.take (K : KSt) (w : Wd) : KSt × List Wd := if K.may w = true then ((K.mid w).tells w.frm, K.out w) else (K, [])

/-- What holds always. -/
structure KSt.Wf (K : KSt) : Prop where
  q : quorum K.n K.t ≠ 0
  nd : K.ks.Nodup
  rng : ∀ k ∈ K.ks, 1 ≤ k.1 ∧ k.1 ≤ K.n ∧ K.len k.1 ≤ k.2 ∧ k.2 < K.len k.1 + 8
  cw : ∀ k ∈ K.ks, (K.C k).Wf

theorem q_spec {n t : Int} (h : quorum n t ≠ 0) : 0 ≤ t ∧ t ≤ 2 ∧ 3 * t + 1 ≤ n ∧ n ≤ 7 := by
  unfold quorum at h
  split at h
  · exact absurd rfl h
  · omega
theorem node_spec {K : KSt} {f : Int} (h : K.node f = true) : 1 ≤ f ∧ f ≤ K.n := by simpa [KSt.node] using h
theorem may_spec {K : KSt} {w : Wd} (h : K.may w = true) : 1 ≤ w.frm ∧ w.frm ≤ K.n ∧ K.len w.frm ≤ w.seq ∧ w.seq - K.len w.frm < 8 := by
  simp only [KSt.may, Bool.and_eq_true, decide_eq_true_eq] at h
  exact ⟨(node_spec h.1).1, (node_spec h.1).2, h.2.1, h.2.2⟩
theorem due_spec {K : KSt} {f : Int} (h : K.due f = true) : (f, K.len f) ∈ K.ks ∧ (K.C (f, K.len f)).done = true := by simpa [KSt.due] using h

theorem len_tell {K : KSt} {f : Int} : (K.tell f).len f = K.len f + 1 := by simp [KSt.len, KSt.tell, upd1_at]
theorem len_tell_ne {K : KSt} {f g : Int} (h : g.toNat ≠ f.toNat) : (K.tell f).len g = K.len g := by simp [KSt.len, KSt.tell, upd1_ne h]

theorem KSt.Wf.new {n t : Int} (h : quorum n t ≠ 0) : (newK n t).Wf := ⟨h, List.nodup_nil, by simp [newK], by simp [newK]⟩
theorem KSt.Wf.open1 {K : KSt} (W : K.Wf) {k : Key} (h1 : 1 ≤ k.1) (h2 : k.1 ≤ K.n) (h3 : K.len k.1 ≤ k.2) (h4 : k.2 - K.len k.1 < 8) (hn : ∀ f, 1 ≤ f → f ≤ K.n → (CastM.new K.n K.t f).Wf) : (K.open1 k).Wf := by
  unfold KSt.open1
  split
  · exact W
  · rename_i hk
    refine ⟨W.q, ?_, ?_, ?_⟩
    · exact List.nodup_append.2 ⟨W.nd, by simp, fun a ha b hb e => hk (by simp at hb; rw [← hb, ← e]; exact ha)⟩
    · intro x hx
      rcases List.mem_append.1 hx with hx | hx
      · exact W.rng x hx
      · simp only [List.mem_singleton] at hx
        subst hx
        exact ⟨h1, h2, h3, by show x.2 < K.len x.1 + 8; omega⟩
    · intro x hx
      rcases List.mem_append.1 hx with hx | hx
      · have : x ≠ k := fun e => hk (e ▸ hx)
        show (upd1 K.C k _ x).Wf
        rw [upd1_ne this]
        exact W.cw x hx
      · simp only [List.mem_singleton] at hx
        subst hx
        show (upd1 K.C x _ x).Wf
        rw [upd1_at]
        exact hn x.1 h1 h2
theorem open1_mem {K : KSt} {k : Key} : k ∈ (K.open1 k).ks := by
  unfold KSt.open1
  split
  · assumption
  · simp
theorem open1_n {K : KSt} {k : Key} : (K.open1 k).n = K.n := by unfold KSt.open1; split <;> rfl
theorem open1_t {K : KSt} {k : Key} : (K.open1 k).t = K.t := by unfold KSt.open1; split <;> rfl
theorem open1_T {K : KSt} {k : Key} : (K.open1 k).T = K.T := by unfold KSt.open1; split <;> rfl
theorem KSt.Wf.set {K : KSt} (W : K.Wf) {k : Key} {c : CSt} (h : c.Wf) : (K.set k c).Wf := by
  refine ⟨W.q, W.nd, W.rng, fun x hx => ?_⟩
  show (upd1 K.C k c x).Wf
  by_cases e : x = k
  · subst e; rw [upd1_at]; exact h
  · rw [upd1_ne e]; exact W.cw x hx
theorem KSt.Wf.tell {K : KSt} (W : K.Wf) {f : Int} (h : K.due f = true) : (K.tell f).Wf := by
  obtain ⟨h1, h2⟩ := due_spec h
  refine ⟨W.q, W.nd.erase _, fun k hk => ?_, fun k hk => W.cw k (List.mem_of_mem_erase hk)⟩
  have hk' : k ∈ K.ks := List.mem_of_mem_erase hk
  obtain ⟨a1, a2, a3, a4⟩ := W.rng k hk'
  obtain ⟨b1, b2, b3, b4⟩ := W.rng _ h1
  have hq := q_spec W.q
  have hne : k ≠ (f, K.len f) := fun e => by
    subst e
    exact (List.Nodup.not_mem_erase W.nd) hk
  refine ⟨a1, a2, ?_, ?_⟩
  · by_cases e : k.1 = f
    · have : k.2 ≠ K.len f := fun e' => hne (Prod.ext e e')
      rw [e, len_tell]; rw [e] at a3; omega
    · rw [len_tell_ne (by intro e'; apply e; have : (f, K.len f).1 = f := rfl; omega)]; exact a3
  · by_cases e : k.1 = f
    · rw [e, len_tell]; rw [e] at a4; omega
    · rw [len_tell_ne (by intro e'; apply e; have : (f, K.len f).1 = f := rfl; omega)]; exact a4
theorem tells_step {K : KSt} {f : Int} (h : K.due f = true) : K.tells f = (K.tell f).tells f := by
  have hm := (due_spec h).1
  unfold KSt.tells
  have : (K.tell f).ks.length = K.ks.length - 1 := by show (K.ks.erase _).length = _; rw [List.length_erase_of_mem hm]
  rw [this]
  have hp : 0 < K.ks.length := List.length_pos_of_mem hm
  obtain ⟨j, hj⟩ : ∃ j, K.ks.length = j + 1 := ⟨K.ks.length - 1, by omega⟩
  rw [hj]
  simp only [tellF, Nat.add_sub_cancel]
  rw [if_pos h]
theorem tells_stop {K : KSt} {f : Int} (h : K.due f = false) : K.tells f = K := by
  unfold KSt.tells
  cases K.ks.length with
  | zero => rfl
  | succ j => simp only [tellF]; rw [if_neg (by rw [h]; simp)]
end Go.Proofs.Ytibomfgeemhogaa.CasM
