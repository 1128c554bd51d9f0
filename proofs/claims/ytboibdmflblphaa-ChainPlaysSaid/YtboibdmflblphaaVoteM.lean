/-
  VOTES, AS PLAIN FUNCTIONS. No program is in sight.
-/
import Derived.Test.YtboibdmflblphaaQuor
namespace Go.Proofs.Ytboibdmflblphaa.VoteM
open Quor

structure Wrd where
  kind : Int
  frm : Int
  round : Int
  valid : Int
  value : ByteArray
  deriving DecidableEq

def empty : ByteArray := { data := #[] }
def quorum (n t : Int) : Int := if t < 0 ∨ 2 < t ∨ n < 3 * t + 1 ∨ 7 < n then 0 else (n + t) / 2 + 1

def cntV (L : List Wrd) (k r : Int) (v : ByteArray) : Nat := L.countP fun w => decide (w.kind = k ∧ w.round = r ∧ w.value = v)
def anyV (L : List Wrd) (k r : Int) : Nat := L.countP fun w => decide (w.kind = k ∧ w.round = r)
def dupV (L : List Wrd) (w : Wrd) : Bool := L.any fun o => decide (o.kind = w.kind ∧ o.frm = w.frm ∧ o.round = w.round)
def mayV (n : Int) (w : Wrd) : Bool := decide ((w.kind = 2 ∨ w.kind = 3) ∧ 1 ≤ w.frm ∧ w.frm ≤ n ∧ 0 ≤ w.round ∧ w.round < 64 ∧ w.value.size ≤ 4096)
def okV (n : Int) (L : List Wrd) (w : Wrd) : Bool := mayV n w && !dupV L w
def putV (n : Int) (L : List Wrd) (w : Wrd) : List Wrd := if okV n L w = true then L ++ [w] else L
def hasQ (n t : Int) (L : List Wrd) (k r : Int) (w : Wrd) : Bool := decide (w.kind = k ∧ w.round = r ∧ quorum n t ≤ cntV L k r w.value)
def mostV (n t : Int) (L : List Wrd) (k r : Int) : Option ByteArray := (L.find? (hasQ n t L k r)).map (·.value)
/-- Has a node a vote in a round? -/
def votedV (L : List Wrd) (r f : Int) : Bool := L.any fun w => decide (w.round = r ∧ w.frm = f)
def whoV (n : Int) (L : List Wrd) (r : Int) : Nat := (List.range n.toNat).countP fun i => votedV L r ((i : Nat) + 1 : Int)
def aheadF (n t : Int) (L : List Wrd) (round : Int) : Nat → Int
  | 0 => -1
  | k + 1 => if round < (k : Int) ∧ t < whoV n L k then k else aheadF n t L round k
def aheadV (n t : Int) (L : List Wrd) (round : Int) : Int := aheadF n t L round 64

theorem may_spec {n : Int} {w : Wrd} (h : mayV n w = true) : (w.kind = 2 ∨ w.kind = 3) ∧ 1 ≤ w.frm ∧ w.frm ≤ n ∧ 0 ≤ w.round ∧ w.round < 64 ∧ w.value.size ≤ 4096 := by simpa [mayV] using h
theorem put_yes {n : Int} {L : List Wrd} {w : Wrd} (h : okV n L w = true) : putV n L w = L ++ [w] := by unfold putV; rw [if_pos h]
theorem put_no {n : Int} {L : List Wrd} {w : Wrd} (h : okV n L w = false) : putV n L w = L := by unfold putV; rw [if_neg (by rw [h]; simp)]
theorem dup_none {L : List Wrd} {w : Wrd} (h : dupV L w = false) : ∀ o ∈ L, ¬ (o.kind = w.kind ∧ o.frm = w.frm ∧ o.round = w.round) := by
  intro o ho e
  have : dupV L w = true := List.any_eq_true.2 ⟨o, ho, by simpa using e⟩
  rw [h] at this
  cases this
theorem dup_no {L : List Wrd} {w : Wrd} (h : ∀ o ∈ L, ¬ (o.kind = w.kind ∧ o.frm = w.frm ∧ o.round = w.round)) : dupV L w = false := List.any_eq_false.2 fun o ho => by simpa using h o ho
theorem dup_of {L : List Wrd} {w o : Wrd} {i : Nat} (ho : L[i]? = some o) (h1 : o.kind = w.kind) (h2 : o.frm = w.frm) (h3 : o.round = w.round) : dupV L w = true := List.any_eq_true.2 ⟨o, List.mem_of_getElem? ho, by simp [h1, h2, h3]⟩

/-- What holds of all votes that counted. -/
structure Wf (n t : Int) (L : List Wrd) : Prop where
  t0 : 0 ≤ t
  t2 : t ≤ 2
  n0 : 3 * t + 1 ≤ n
  n7 : n ≤ 7
  rng : ∀ w ∈ L, mayV n w = true
  nd : (L.map fun w => ((w.kind.toNat * 64 + w.round.toNat) * 8 + w.frm.toNat)).Nodup

theorem Wf.nil {n t : Int} (h : quorum n t ≠ 0) : Wf n t [] := by
  unfold quorum at h
  split at h
  · exact absurd rfl h
  · rename_i hq
    exact ⟨by omega, by omega, by omega, by omega, by simp, by simp⟩
theorem Wf.snoc {n t : Int} {L : List Wrd} (W : Wf n t L) {w : Wrd} (h : okV n L w = true) : Wf n t (L ++ [w]) := by
  simp only [okV, Bool.and_eq_true, Bool.not_eq_true'] at h
  refine ⟨W.t0, W.t2, W.n0, W.n7, fun x hx => ?_, ?_⟩
  · rcases List.mem_append.1 hx with hx | hx
    · exact W.rng x hx
    · simp at hx; subst hx; exact h.1
  · simp only [List.map_append, List.map_cons, List.map_nil]
    rw [List.nodup_append]
    refine ⟨W.nd, by simp, ?_⟩
    intro x hx y hy e
    simp only [List.mem_singleton] at hy
    subst hy; subst e
    obtain ⟨b, hb, he⟩ := List.mem_map.1 hx
    have hr := may_spec (W.rng b hb)
    have ha := may_spec h.1
    have := W.n7
    refine dup_none h.2 b hb ?_
    refine ⟨?_, ?_, ?_⟩ <;> omega
theorem Wf.put {n t : Int} {L : List Wrd} (W : Wf n t L) (w : Wrd) : Wf n t (putV n L w) := by
  unfold putV
  split
  · rename_i h; exact W.snoc h
  · exact W
theorem Wf.len {n t : Int} {L : List Wrd} (W : Wf n t L) : L.length ≤ 2048 := by
  have := nodup_lt 2048 _ W.nd (fun x hx => by
    obtain ⟨a, ha, rfl⟩ := List.mem_map.1 hx
    have := may_spec (W.rng a ha)
    have := W.n7
    omega)
  simpa using this

theorem cnt_le_any (L : List Wrd) (k r : Int) (v : ByteArray) : cntV L k r v ≤ anyV L k r := by
  refine List.countP_mono_left fun w _ h => ?_
  simp only [decide_eq_true_eq] at h ⊢
  exact ⟨h.1, h.2.1⟩
theorem cnt_snoc (L : List Wrd) (w : Wrd) (k r : Int) (v : ByteArray) : cntV (L ++ [w]) k r v = cntV L k r v + if w.kind = k ∧ w.round = r ∧ w.value = v then 1 else 0 := by
  simp only [cntV, List.countP_append, List.countP_singleton, decide_eq_true_eq]
theorem any_snoc (L : List Wrd) (w : Wrd) (k r : Int) : anyV (L ++ [w]) k r = anyV L k r + if w.kind = k ∧ w.round = r then 1 else 0 := by
  simp only [anyV, List.countP_append, List.countP_singleton, decide_eq_true_eq]

/-- Whose votes of a kind and round they are. -/
def fromsA (L : List Wrd) (k r : Int) : List Nat := (L.filter fun w => decide (w.kind = k ∧ w.round = r)).map fun w => w.frm.toNat
theorem fromsA_mem {L : List Wrd} {k r : Int} {x : Nat} (h : x ∈ fromsA L k r) : ∃ w ∈ L, w.kind = k ∧ w.round = r ∧ w.frm.toNat = x := by
  obtain ⟨m, hm, e⟩ := List.mem_map.1 h
  simp only [List.mem_filter, decide_eq_true_eq] at hm
  exact ⟨m, hm.1, hm.2.1, hm.2.2, e⟩
theorem fromsA_nd {L : List Wrd} (hn : (L.map fun w => ((w.kind.toNat * 64 + w.round.toNat) * 8 + w.frm.toNat)).Nodup) (k r : Int) : (fromsA L k r).Nodup := by
  induction L with
  | nil => simp [fromsA]
  | cons m L ih =>
    simp only [List.map_cons, List.nodup_cons] at hn
    have ih := ih hn.2
    by_cases hm : m.kind = k ∧ m.round = r
    · have e : fromsA (m :: L) k r = m.frm.toNat :: fromsA L k r := by simp [fromsA, hm]
      rw [e, List.nodup_cons]
      refine ⟨fun hx => hn.1 ?_, ih⟩
      obtain ⟨m', h1, h2, h3, h4⟩ := fromsA_mem hx
      refine List.mem_map.2 ⟨m', h1, ?_⟩
      rw [h2, h3, h4, hm.1, hm.2]
    · have e : fromsA (m :: L) k r = fromsA L k r := by simp [fromsA, hm]
      rw [e]; exact ih
theorem any_le {n t : Int} {L : List Wrd} (W : Wf n t L) (k r : Int) : (anyV L k r : Int) ≤ n := by
  have h1 := nodup_lt n.toNat ((fromsA L k r).map (fun x => x - 1)) (map_nd (fromsA_nd W.nd k r) fun x hx y hy e => by
    obtain ⟨a, h1, h2, h3, h4⟩ := fromsA_mem hx
    obtain ⟨b, g1, g2, g3, g4⟩ := fromsA_mem hy
    have := may_spec (W.rng a h1)
    have := may_spec (W.rng b g1)
    omega) (fun x hx => by
    obtain ⟨y, hy, rfl⟩ := List.mem_map.1 hx
    obtain ⟨a, h1, h2, h3, h4⟩ := fromsA_mem hy
    have := may_spec (W.rng a h1)
    omega)
  have h2 : (fromsA L k r).length = anyV L k r := by simp [fromsA, anyV, List.countP_eq_length_filter]
  have := W.n0
  have := W.t0
  rw [List.length_map, h2] at h1
  omega

/-! ### the value of a quorum -/
/-! ### the greatest round in which more than t have a vote -/
structure IsAhead (n t : Int) (L : List Wrd) (round a : Int) : Prop where
  lo : a = -1 ∨ (0 ≤ a ∧ a < 64 ∧ round < a ∧ t < whoV n L a)
  hi : ∀ r, 0 ≤ r → r < 64 → round < r → t < whoV n L r → r ≤ a
theorem IsAhead.unique {n t : Int} {L : List Wrd} {round a b : Int} (A : IsAhead n t L round a) (B : IsAhead n t L round b) : a = b := by
  rcases A.lo with h | ⟨h1, h2, h3, h4⟩ <;> rcases B.lo with g | ⟨g1, g2, g3, g4⟩
  · omega
  · have := A.hi b g1 g2 g3 g4; omega
  · have := B.hi a h1 h2 h3 h4; omega
  · have := A.hi b g1 g2 g3 g4
    have := B.hi a h1 h2 h3 h4
    omega
theorem aheadF_is (n t : Int) (L : List Wrd) (round : Int) : ∀ (k : Nat), k ≤ 64 → (aheadF n t L round k = -1 ∨ (0 ≤ aheadF n t L round k ∧ aheadF n t L round k < 64 ∧ round < aheadF n t L round k ∧ t < whoV n L (aheadF n t L round k))) ∧
    ∀ r, 0 ≤ r → r < (k : Int) → round < r → t < whoV n L r → r ≤ aheadF n t L round k
  | 0, _ => ⟨.inl rfl, fun r h0 h1 => by omega⟩
  | k + 1, hk => by
    have ih := aheadF_is n t L round k (by omega)
    simp only [aheadF]
    split
    · rename_i h
      exact ⟨.inr ⟨by omega, by omega, h.1, h.2⟩, fun r h0 h1 h2 h3 => by omega⟩
    · rename_i h
      refine ⟨ih.1, fun r h0 h1 h2 h3 => ?_⟩
      by_cases e : r = (k : Int)
      · subst e; exact absurd ⟨h2, h3⟩ h
      · exact ih.2 r h0 (by omega) h2 h3
theorem ahead_is (n t : Int) (L : List Wrd) (round : Int) : IsAhead n t L round (aheadV n t L round) := ⟨(aheadF_is n t L round 64 (Nat.le_refl _)).1, (aheadF_is n t L round 64 (Nat.le_refl _)).2⟩
theorem ahead_rng (n t : Int) (L : List Wrd) (round : Int) : -1 ≤ aheadV n t L round ∧ aheadV n t L round < 64 := by
  rcases (ahead_is n t L round).lo with h | h <;> omega
theorem IsAhead.eq {n t : Int} {L : List Wrd} {round a : Int} (A : IsAhead n t L round a) : a = aheadV n t L round := A.unique (ahead_is n t L round)

theorem voted_snoc (L : List Wrd) (w : Wrd) (r f : Int) : votedV (L ++ [w]) r f = (votedV L r f || decide (w.round = r ∧ w.frm = f)) := by
  simp [votedV, List.any_append]
theorem who_other {n : Int} {L : List Wrd} {w : Wrd} {r : Int} (h : w.round ≠ r) : whoV n (L ++ [w]) r = whoV n L r := by
  unfold whoV
  congr 1
  funext i
  rw [voted_snoc]
  simp [h]
theorem who_old {n : Int} {L : List Wrd} {w : Wrd} (h : votedV L w.round w.frm = true) (r : Int) : whoV n (L ++ [w]) r = whoV n L r := by
  unfold whoV
  congr 1
  funext i
  rw [voted_snoc]
  by_cases e : w.round = r ∧ w.frm = ((i : Nat) + 1 : Int)
  · obtain ⟨rfl, e⟩ := e
    rw [← e, h]; simp
  · simp [e]
theorem who_new {n : Int} {L : List Wrd} {w : Wrd} (h : votedV L w.round w.frm = false) (h1 : 1 ≤ w.frm) (h2 : w.frm ≤ n) : whoV n (L ++ [w]) w.round = whoV n L w.round + 1 := by
  unfold whoV
  have hm : ∀ (N m : Nat), m < N → ∀ (p q : Nat → Bool), q m = true → p m = false → (∀ i, i ≠ m → q i = p i) → (List.range N).countP q = (List.range N).countP p + 1 := by
    intro N m hlt p q hq hp hne
    induction N with
    | zero => omega
    | succ N ih =>
      simp only [List.range_succ, List.countP_append, List.countP_singleton]
      by_cases e : m = N
      · subst e
        have : (List.range m).countP q = (List.range m).countP p := List.countP_congr fun i hi => by rw [hne i (by have := List.mem_range.1 hi; omega)]
        rw [this, hq, hp]; simp
      · rw [ih (by omega), hne N (fun h => e h.symm)]
        omega
  refine hm n.toNat (w.frm.toNat - 1) (by omega) _ _ ?_ ?_ fun i hi => ?_
  · rw [voted_snoc]
    have : w.frm = ((w.frm.toNat - 1 : Nat) + 1 : Int) := by omega
    simp [← this]
  · have : ((w.frm.toNat - 1 : Nat) + 1 : Int) = w.frm := by omega
    rw [this]; exact h
  · rw [voted_snoc]
    have : ¬ w.frm = ((i : Nat) + 1 : Int) := by omega
    simp [this]
theorem who_le (n : Int) (L : List Wrd) (r : Int) : whoV n L r ≤ n.toNat := by
  unfold whoV
  have := List.countP_le_length (p := fun i : Nat => votedV L r ((i : Nat) + 1 : Int)) (l := List.range n.toNat)
  simpa using this
theorem who_mono (n : Int) (L : List Wrd) (w : Wrd) (r : Int) : whoV n L r ≤ whoV n (L ++ [w]) r := by
  refine List.countP_mono_left fun i _ h => ?_
  rw [voted_snoc, h]; rfl
/-- One vote more. -/
theorem IsAhead.step {n t : Int} {L : List Wrd} {w : Wrd} {round a : Int} (A : IsAhead n t L round a) (h0 : 0 ≤ w.round) (h1 : w.round < 64) :
    IsAhead n t (L ++ [w]) round (if t < whoV n (L ++ [w]) w.round ∧ round < w.round then max a w.round else a) := by
  have hm : ∀ r, t < whoV n L r → t < whoV n (L ++ [w]) r := fun r h => by have := who_mono n L w r; omega
  constructor
  · split
    · rename_i h
      rcases Int.le_total a w.round with ha | ha
      · rw [Int.max_eq_right ha]; exact .inr ⟨h0, h1, h.2, h.1⟩
      · rw [Int.max_eq_left ha]
        rcases A.lo with e | ⟨e1, e2, e3, e4⟩
        · exact .inl e
        · exact .inr ⟨e1, e2, e3, hm _ e4⟩
    · rcases A.lo with e | ⟨e1, e2, e3, e4⟩
      · exact .inl e
      · exact .inr ⟨e1, e2, e3, hm _ e4⟩
  · intro r r0 r1 r2 r3
    by_cases e : w.round = r
    · subst e
      rw [if_pos ⟨r3, r2⟩]
      exact Int.le_max_right _ _
    · rw [who_other e] at r3
      have := A.hi r r0 r1 r2 r3
      split
      · exact Int.le_trans this (Int.le_max_left _ _)
      · exact this
theorem IsAhead.nil (n t round : Int) (t0 : 0 ≤ t) : IsAhead n t [] round (-1) := by
  refine ⟨.inl rfl, fun r _ _ _ h => ?_⟩
  exfalso
  have : whoV n [] r = 0 := by
    unfold whoV
    rw [List.countP_eq_zero]
    intro i _
    simp [votedV]
  rw [this] at h
  omega
end Go.Proofs.Ytboibdmflblphaa.VoteM
