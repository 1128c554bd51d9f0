/-
  THE BROADCAST, AS PLAIN FUNCTIONS. No program is in sight.
-/
namespace Go.Proofs.Ytibomfgeemhogaa.CastM

structure Msg where
  kind : Int
  frm : Int
  body : ByteArray
  deriving DecidableEq

def quorum (n t : Int) : Int := if t < 0 ∨ 2 < t ∨ n < 3 * t + 1 ∨ 7 < n then 0 else (n + t) / 2 + 1

/-- A node's part: the messages that counted. -/
structure CSt where
  n : Int
  t : Int
  frm : Int
  L : List Msg
  ready : Bool
  done : Bool
  body : ByteArray

def empty : ByteArray := { data := #[] }
def new (n t frm : Int) : CSt := ⟨n, t, frm, [], false, false, empty⟩

def cntL (L : List Msg) (k : Int) (s : ByteArray) : Nat := L.countP fun m => decide (m.kind = k ∧ m.body = s)
def heardL (L : List Msg) (k i : Int) : Bool := L.any fun m => decide (m.kind = k ∧ m.frm = i)

def CSt.counts (c : CSt) (m : Msg) : Bool :=
  decide (1 ≤ m.frm ∧ m.frm ≤ c.n ∧ 1 ≤ m.kind ∧ m.kind ≤ 3 ∧ m.body.size ≤ 4096) && !heardL c.L m.kind m.frm && decide (m.kind ≠ 1 ∨ m.frm = c.frm)

def rd (c : CSt) (m : Msg) : Bool := !c.ready && (decide (quorum c.n c.t ≤ cntL (c.L ++ [m]) 2 m.body) || decide (c.t < cntL (c.L ++ [m]) 3 m.body))
def dn (c : CSt) (m : Msg) : Bool := !c.done && decide (2 * c.t < cntL (c.L ++ [m]) 3 m.body)
def out1 (m : Msg) : List Msg := if m.kind = 1 then [⟨2, 0, m.body⟩] else []
def out2 (c : CSt) (m : Msg) : List Msg := if rd c m = true then [⟨3, 0, m.body⟩] else []
def stp (c : CSt) (m : Msg) : CSt := { c with L := c.L ++ [m], ready := c.ready || rd c m, done := c.done || dn c m, body := if dn c m = true then m.body else c.body }

def CSt.take (c : CSt) (m : Msg) : CSt × List Msg := if c.counts m = true then (stp c m, out1 m ++ out2 c m) else (c, [])

/-- What holds of every part. -/
structure CSt.Wf (c : CSt) : Prop where
  t0 : 0 ≤ c.t
  t2 : c.t ≤ 2
  n0 : 3 * c.t + 1 ≤ c.n
  n7 : c.n ≤ 7
  f0 : 1 ≤ c.frm
  fn : c.frm ≤ c.n
  rng : ∀ m ∈ c.L, 1 ≤ m.frm ∧ m.frm ≤ c.n ∧ 1 ≤ m.kind ∧ m.kind ≤ 3
  nd : (c.L.map fun m => (m.kind.toNat * 8 + m.frm.toNat)).Nodup

theorem nodup_lt : ∀ (N : Nat) (l : List Nat), l.Nodup → (∀ x ∈ l, x < N) → l.length ≤ N
  | 0, l, _, h => by
    cases l with
    | nil => simp
    | cons x l => exact absurd (h x List.mem_cons_self) (by omega)
  | N + 1, l, hn, h => by
    have h1 := nodup_lt N (l.filter (· ≠ N)) (hn.filter _) (fun x hx => by
      simp only [List.mem_filter, decide_eq_true_eq, ne_eq] at hx
      have := h x hx.1
      have := hx.2
      omega)
    have h2 : l.length ≤ (l.filter (· ≠ N)).length + 1 := by
      clear h h1
      induction l with
      | nil => simp
      | cons x l ih =>
        simp only [List.nodup_cons] at hn
        by_cases hx : x = N
        · subst hx
          have : l.filter (· ≠ x) = l := List.filter_eq_self.2 fun y hy => by
            have : y ≠ x := fun e => hn.1 (e ▸ hy)
            simpa using this
          rw [List.filter_cons_of_neg (by simp), this]
          simp
        · rw [List.filter_cons_of_pos (by simp [hx])]
          have := ih hn.2
          simp only [List.length_cons]
          omega
    omega

theorem CSt.Wf.len {c : CSt} (h : c.Wf) : c.L.length ≤ 32 := by
  have := nodup_lt 32 _ h.nd (fun x hx => by
    obtain ⟨m, hm, rfl⟩ := List.mem_map.1 hx
    have := h.rng m hm
    have := h.n7
    omega)
  simpa using this
theorem cnt_le (L : List Msg) (k : Int) (s : ByteArray) : cntL L k s ≤ L.length := List.countP_le_length

theorem heard_none {L : List Msg} {k i : Int} (h : heardL L k i = false) : ∀ m ∈ L, ¬ (m.kind = k ∧ m.frm = i) := by
  intro m hm e
  have : heardL L k i = true := List.any_eq_true.2 ⟨m, hm, by simpa using e⟩
  rw [h] at this
  cases this

theorem counts_spec {c : CSt} {m : Msg} (h : c.counts m = true) : 1 ≤ m.frm ∧ m.frm ≤ c.n ∧ 1 ≤ m.kind ∧ m.kind ≤ 3 ∧ m.body.size ≤ 4096 ∧ heardL c.L m.kind m.frm = false ∧ (m.kind ≠ 1 ∨ m.frm = c.frm) := by
  simp only [CSt.counts, Bool.and_eq_true, decide_eq_true_eq, Bool.not_eq_true'] at h
  obtain ⟨⟨⟨h1, h2, h3, h4, h5⟩, h6⟩, h7⟩ := h
  exact ⟨h1, h2, h3, h4, h5, h6, h7⟩

theorem CSt.Wf.stp {c : CSt} (h : c.Wf) {m : Msg} (hc : c.counts m = true) : (CastM.stp c m).Wf := by
  obtain ⟨h1, h2, h3, h4, h5, h6, h7⟩ := counts_spec hc
  refine ⟨h.t0, h.t2, h.n0, h.n7, h.f0, h.fn, fun x hx => ?_, ?_⟩
  · rcases List.mem_append.1 hx with hx | hx
    · exact h.rng x hx
    · simp at hx; subst hx; exact ⟨h1, h2, h3, h4⟩
  · simp only [CastM.stp, List.map_append, List.map_cons, List.map_nil]
    rw [List.nodup_append]
    refine ⟨h.nd, by simp, ?_⟩
    intro a ha b hb e
    simp only [List.mem_singleton] at hb
    subst hb; subst e
    obtain ⟨x, hx, he⟩ := List.mem_map.1 ha
    have hr := h.rng x hx
    have := h.n7
    have hn := heard_none h6 x hx
    apply hn
    constructor <;> omega
theorem CSt.Wf.take {c : CSt} (h : c.Wf) (m : Msg) : (c.take m).1.Wf := by
  unfold CSt.take
  split
  · rename_i hc; exact h.stp hc
  · exact h
theorem new_wf {n t frm : Int} (h : quorum n t ≠ 0) (h1 : 1 ≤ frm) (h2 : frm ≤ n) : (new n t frm).Wf := by
  unfold quorum at h
  split at h
  · exact absurd rfl h
  · rename_i hq
    exact ⟨by simp only [new]; omega, by simp only [new]; omega, by simp only [new]; omega, by simp only [new]; omega, h1, h2, by simp [new], by simp [new]⟩
theorem quorum_of {c : CSt} (h : c.Wf) : quorum c.n c.t = (c.n + c.t) / 2 + 1 := by
  have := h.t0; have := h.t2; have := h.n0; have := h.n7
  unfold quorum
  rw [if_neg (by omega)]
theorem cntL_snoc (L : List Msg) (m : Msg) (k : Int) (s : ByteArray) : cntL (L ++ [m]) k s = cntL L k s + if m.kind = k ∧ m.body = s then 1 else 0 := by
  simp only [cntL, List.countP_append, List.countP_singleton, decide_eq_true_eq]
theorem heardL_snoc (L : List Msg) (m : Msg) (k i : Int) : heardL (L ++ [m]) k i = (heardL L k i || decide (m.kind = k ∧ m.frm = i)) := by
  simp [heardL, List.any_append]
end Go.Proofs.Ytibomfgeemhogaa.CastM
