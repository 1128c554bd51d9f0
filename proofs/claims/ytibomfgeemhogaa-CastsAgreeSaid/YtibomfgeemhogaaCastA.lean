/-
  OF HONEST NODES NO TWO ARE TOLD OTHERWISE. No program is in sight.
-/
import Derived.Test.YtibomfgeemhogaaCastM
import Derived.Test.YtibomfgeemhogaaQuor
namespace Go.Proofs.Ytibomfgeemhogaa.CastM
open Quor

def sent (c : CSt) : Option ByteArray := (c.L.find? fun m => decide (m.kind = 1)).map (·.body)

theorem sent_mem {c : CSt} {b : ByteArray} (h : sent c = some b) : ∃ m ∈ c.L, m.kind = 1 ∧ m.body = b := by
  unfold sent at h
  cases hf : c.L.find? fun m => decide (m.kind = 1) with
  | none => rw [hf] at h; cases h
  | some m =>
    rw [hf] at h
    simp at h
    exact ⟨m, List.mem_of_find?_eq_some hf, by simpa using List.find?_some hf, h⟩
theorem sent_none {c : CSt} (h : ∀ m ∈ c.L, m.kind ≠ 1) : sent c = none := by
  unfold sent
  rw [List.find?_eq_none.2 (by simpa using h)]
  rfl

/-- Who said it. -/
def froms (L : List Msg) (k : Int) (b : ByteArray) : List Nat := (L.filter fun m => decide (m.kind = k ∧ m.body = b)).map fun m => m.frm.toNat
theorem froms_len (L : List Msg) (k : Int) (b : ByteArray) : (froms L k b).length = cntL L k b := by
  simp [froms, cntL, List.countP_eq_length_filter]
theorem froms_mem {L : List Msg} {k : Int} {b : ByteArray} {x : Nat} (h : x ∈ froms L k b) : ∃ m ∈ L, m.kind = k ∧ m.body = b ∧ m.frm.toNat = x := by
  obtain ⟨m, hm, e⟩ := List.mem_map.1 h
  simp only [List.mem_filter, decide_eq_true_eq] at hm
  exact ⟨m, hm.1, hm.2.1, hm.2.2, e⟩
theorem froms_nd {L : List Msg} (hn : (L.map fun m => (m.kind.toNat * 8 + m.frm.toNat)).Nodup) (k : Int) (b : ByteArray) : (froms L k b).Nodup := by
  induction L with
  | nil => simp [froms]
  | cons m L ih =>
    simp only [List.map_cons, List.nodup_cons] at hn
    have ih := ih hn.2
    by_cases hm : m.kind = k ∧ m.body = b
    · have e : froms (m :: L) k b = m.frm.toNat :: froms L k b := by simp [froms, hm]
      rw [e, List.nodup_cons]
      refine ⟨fun hx => hn.1 ?_, ih⟩
      obtain ⟨m', h1, h2, h3, h4⟩ := froms_mem hx
      refine List.mem_map.2 ⟨m', h1, ?_⟩
      rw [h2, h4, hm.1]
    · have e : froms (m :: L) k b = froms L k b := by simp [froms, hm]
      rw [e]; exact ih
theorem froms_rng {c : CSt} (W : c.Wf) {k : Int} {b : ByteArray} : ∀ x ∈ froms c.L k b, 1 ≤ x ∧ x ≤ c.n.toNat := fun x hx => by
  obtain ⟨m, h1, h2, h3, h4⟩ := froms_mem hx
  have := W.rng m h1
  omega

/-- A message to a node. -/
structure To where
  node : Nat
  msg : Msg
  deriving DecidableEq

def onto (way : List To) (h : Nat) (frm : Int) (l : List Msg) : List To := way ++ l.flatMap fun m => (List.range h).map fun k => ⟨k, { m with frm := frm }⟩
theorem mem_onto {way : List To} {h : Nat} {frm : Int} {l : List Msg} {x : To} (hx : x ∈ onto way h frm l) : x ∈ way ∨ x.node < h ∧ ∃ m ∈ l, x.msg = { m with frm := frm } := by
  rcases List.mem_append.1 hx with hx | hx
  · exact .inl hx
  · obtain ⟨m, hm, hx⟩ := List.mem_flatMap.1 hx
    obtain ⟨k, hk, rfl⟩ := List.mem_map.1 hx
    exact .inr ⟨List.mem_range.1 hk, m, hm, rfl⟩

/-- What a message of an honest node tells. -/
def MsgOk (h : Nat) (x : ByteArray) (ps : List CSt) (R : Nat → Option ByteArray) (m : Msg) : Prop :=
  1 ≤ m.frm → m.frm ≤ h → (m.kind = 1 → m.body = x) ∧ (m.kind = 2 → ∃ c, ps[m.frm.toNat - 1]? = some c ∧ sent c = some m.body) ∧ (m.kind = 3 → R (m.frm.toNat - 1) = some m.body)

def EQ (ps : List CSt) (b : ByteArray) : Prop := ∃ c ∈ ps, quorum c.n c.t ≤ cntL c.L 2 b

structure Inv (n t frm : Int) (x : ByteArray) (ps : List CSt) (way : List To) (R : Nat → Option ByteArray) : Prop where
  len : (ps.length : Int) = n - t
  wf : ∀ c ∈ ps, c.Wf ∧ c.n = n ∧ c.t = t ∧ c.frm = frm
  one : ∀ c ∈ ps, ∀ m ∈ c.L, m.kind = 1 → m.frm = frm
  node : ∀ y ∈ way, y.node < ps.length
  wmsg : ∀ y ∈ way, MsgOk ps.length x ps R y.msg
  cmsg : ∀ c ∈ ps, ∀ m ∈ c.L, MsgOk ps.length x ps R m
  eq : ∀ i b, R i = some b → EQ ps b
  rdy : ∀ i c, ps[i]? = some c → c.ready = false → R i = none
  dne : ∀ c ∈ ps, c.done = true → c.t < cntL c.L 3 c.body

section
variable {n t frm : Int} {x : ByteArray} {ps : List CSt} {way : List To} {R : Nat → Option ByteArray}

/-- More than t say it: an honest one does. -/
theorem good_of {c : CSt} (W : c.Wf) {k : Int} {b : ByteArray} (h : c.t < cntL c.L k b) : ∃ m ∈ c.L, m.kind = k ∧ m.body = b ∧ 1 ≤ m.frm ∧ m.frm ≤ c.n - c.t := by
  have := W.t0; have := W.n0
  obtain ⟨y, hy, hle⟩ := one_good (n := c.n.toNat) (t := c.t.toNat) (froms_nd W.nd k b) (froms_rng W) (by omega) (by rw [froms_len]; omega)
  obtain ⟨m, h1, h2, h3, h4⟩ := froms_mem hy
  have := W.rng m h1
  exact ⟨m, h1, h2, h3, by omega, by omega⟩

theorem Inv.eq_one (I : Inv n t frm x ps way R) {b b' : ByteArray} (h : EQ ps b) (h' : EQ ps b') : b = b' := by
  obtain ⟨c, hc, hq⟩ := h
  obtain ⟨c', hc', hq'⟩ := h'
  obtain ⟨W, e1, e2, e3⟩ := I.wf c hc
  obtain ⟨W', e1', e2', e3'⟩ := I.wf c' hc'
  have := W.t0; have := W.n0
  rw [quorum_of W] at hq
  rw [quorum_of W'] at hq'
  obtain ⟨y, h1, h2, h3⟩ := two_good (n := n.toNat) (t := t.toNat) (froms_nd W.nd 2 b) (froms_nd W'.nd 2 b') (fun y hy => by have := froms_rng W y hy; rwa [e1] at this) (fun y hy => by have := froms_rng W' y hy; rwa [e1'] at this) (by omega)
    (by rw [froms_len, froms_len]; omega)
  obtain ⟨m, g1, g2, g3, g4⟩ := froms_mem h1
  obtain ⟨m', g1', g2', g3', g4'⟩ := froms_mem h2
  have r := W.rng m g1
  have r' := W'.rng m' g1'
  have l := I.len
  obtain ⟨_, s, _⟩ := I.cmsg c hc m g1 (by omega) (by omega)
  obtain ⟨_, s', _⟩ := I.cmsg c' hc' m' g1' (by omega) (by omega)
  obtain ⟨d, k1, k2⟩ := s g2
  obtain ⟨d', k1', k2'⟩ := s' g2'
  have e : m.frm.toNat = m'.frm.toNat := g4.trans g4'.symm
  rw [e] at k1
  have := Option.some.inj (k1.symm.trans k1')
  subst this
  rw [← g3, ← g3']
  exact Option.some.inj (k2.symm.trans k2')

theorem Inv.told (I : Inv n t frm x ps way R) {c : CSt} (hc : c ∈ ps) (hd : c.done = true) : EQ ps c.body := by
  obtain ⟨W, e1, e2, e3⟩ := I.wf c hc
  obtain ⟨m, g1, g2, g3, g4, g5⟩ := good_of W (I.dne c hc hd)
  have l := I.len
  have := (I.cmsg c hc m g1 g4 (by omega)).2.2 g2
  rw [g3] at this
  exact I.eq _ _ this

/-- All that are told are told the same; if the sender is honest, its own. -/
theorem Inv.agree (I : Inv n t frm x ps way R) {c c' : CSt} (hc : c ∈ ps) (hc' : c' ∈ ps) (hd : c.done = true) (hd' : c'.done = true) : c.body = c'.body := I.eq_one (I.told hc hd) (I.told hc' hd')
theorem Inv.valid (I : Inv n t frm x ps way R) {c : CSt} (hc : c ∈ ps) (hd : c.done = true) (hf : frm ≤ ps.length) : c.body = x := by
  obtain ⟨d, hd', hq⟩ := I.told hc hd
  obtain ⟨W, e1, e2, e3⟩ := I.wf d hd'
  have := W.t0; have := W.n0; have := W.f0
  rw [quorum_of W] at hq
  have l := I.len
  obtain ⟨m, g1, g2, g3, g4, g5⟩ := good_of W (k := 2) (b := c.body) (by omega)
  obtain ⟨p, k1, k2⟩ := (I.cmsg d hd' m g1 g4 (by omega)).2.1 g2
  obtain ⟨m', q1, q2, q3⟩ := sent_mem k2
  have hp := List.mem_of_getElem? k1
  have f := I.one p hp m' q1 q2
  have := (I.cmsg p hp m' q1 (by omega) (by omega)).1 q2
  rw [← g3, ← q3, this]

theorem MsgOk.mono {h : Nat} {ps ps' : List CSt} {R R' : Nat → Option ByteArray} {m : Msg} (H : MsgOk h x ps R m) (hp : ∀ (i : Nat) c b, ps[i]? = some c → sent c = some b → ∃ c', ps'[i]? = some c' ∧ sent c' = some b) (hR : ∀ i b, R i = some b → R' i = some b) : MsgOk h x ps' R' m := fun h1 h2 => by
  obtain ⟨a, b, c⟩ := H h1 h2
  exact ⟨a, fun hk => by obtain ⟨d, k1, k2⟩ := b hk; exact hp _ _ _ k1 k2, fun hk => hR _ _ (c hk)⟩

/-- A message is taken by a node. -/
theorem Inv.take (I : Inv n t frm x ps way R) {i : Nat} {c : CSt} {m : Msg} {way' : List To} (hc : ps[i]? = some c) (hm : MsgOk ps.length x ps R m) (hw : ∀ y ∈ way', y ∈ way) :
    ∃ R', Inv n t frm x (ps.set i (c.take m).1) (onto way' ps.length (i + 1) (c.take m).2) R' := by
  have hlt : i < ps.length := (List.getElem?_eq_some_iff.1 hc).1
  have hcm := List.mem_of_getElem? hc
  obtain ⟨W, e1, e2, e3⟩ := I.wf c hcm
  by_cases hcnt : c.counts m = true
  · have ht : c.take m = (stp c m, out1 m ++ out2 c m) := by unfold CSt.take; rw [if_pos hcnt]
    rw [ht]
    obtain ⟨h1, h2, h3, h4, h5, h6, h7⟩ := counts_spec hcnt
    have W' : (stp c m).Wf := W.stp hcnt
    have hL : (stp c m).L = c.L ++ [m] := rfl
    have hone : ∀ m' ∈ c.L, m'.kind = 1 → m'.frm = frm := I.one c hcm
    have hsent : ∀ b, sent c = some b → sent (stp c m) = some b := fun b hb => by
      unfold sent at hb ⊢
      rw [hL, List.find?_append]
      cases hf : c.L.find? fun m => decide (m.kind = 1) with
      | none => rw [hf] at hb; cases hb
      | some y => rw [hf] at hb; simpa using hb
    have hsent1 : m.kind = 1 → sent (stp c m) = some m.body := fun hk => by
      have hno : ∀ m' ∈ c.L, m'.kind ≠ 1 := fun m' hm' hk' => by
        refine heard_none h6 m' hm' ⟨by rw [hk, hk'], ?_⟩
        rw [hone m' hm' hk', ← e3]
        exact (h7.resolve_left (fun h => h hk)).symm
      unfold sent
      rw [hL, List.find?_append, List.find?_eq_none.2 (by simpa using hno)]
      simp [hk]
    have hget : ∀ j, (ps.set i (stp c m))[j]? = if j = i then some (stp c m) else ps[j]? := fun j => by
      by_cases hj : j = i
      · subst hj; simp [hlt]
      · simp [hj, List.getElem?_set_ne (Ne.symm hj)]
    have hps : ∀ (j : Nat) d b, ps[j]? = some d → sent d = some b → ∃ d', (ps.set i (stp c m))[j]? = some d' ∧ sent d' = some b := fun j d b hj hb => by
      rw [hget]
      by_cases e : j = i
      · subst e
        rw [if_pos rfl]
        have := Option.some.inj (hj.symm.trans hc)
        subst this
        exact ⟨_, rfl, hsent b hb⟩
      · rw [if_neg e]; exact ⟨d, hj, hb⟩
    have hmem : ∀ d ∈ ps.set i (stp c m), d = stp c m ∨ d ∈ ps := fun d hd => by
      rcases List.mem_or_eq_of_mem_set hd with h | h
      · exact .inr h
      · exact .inl h
    have hEQ : ∀ b, EQ ps b → EQ (ps.set i (stp c m)) b := fun b ⟨d, hd, hq⟩ => by
      obtain ⟨j, hj⟩ := List.mem_iff_getElem?.1 hd
      by_cases e : j = i
      · subst e
        have := Option.some.inj (hj.symm.trans hc)
        subst this
        refine ⟨stp d m, List.mem_of_getElem? (i := j) (by rw [hget, if_pos rfl]), Int.le_trans hq ?_⟩
        have : cntL (stp d m).L 2 b = cntL d.L 2 b + if m.kind = 2 ∧ m.body = b then 1 else 0 := cntL_snoc _ _ _ _
        omega
      · exact ⟨d, List.mem_of_getElem? (i := j) (by rw [hget, if_neg e]; exact hj), hq⟩
    let R' : Nat → Option ByteArray := fun j => if j = i ∧ rd c m = true then some m.body else R j
    have hR : ∀ j b, R j = some b → R' j = some b := fun j b hb => by
      show (if j = i ∧ rd c m = true then some m.body else R j) = some b
      by_cases e : j = i ∧ rd c m = true
      · exfalso
        have hr : c.ready = false := by
          have := e.2
          simp only [rd, Bool.and_eq_true, Bool.not_eq_true'] at this
          exact this.1
        have := I.rdy i c hc hr
        rw [e.1, this] at hb
        cases hb
      · rw [if_neg e]; exact hb
    have hlen : (ps.set i (stp c m)).length = ps.length := List.length_set
    have hall : ∀ m' ∈ c.L ++ [m], MsgOk ps.length x ps R m' := fun m' hm' => by
      rcases List.mem_append.1 hm' with h | h
      · exact I.cmsg c hcm m' h
      · simp at h; subst h; exact hm
    refine ⟨R', ⟨by rw [hlen]; exact I.len, fun d hd => ?_, fun d hd => ?_, fun y hy => ?_, fun y hy => ?_, fun d hd m' hm' => ?_, fun j b hb => ?_, fun j d hj hr => ?_, fun d hd hdn => ?_⟩⟩
    · rcases hmem d hd with rfl | h
      · exact ⟨W', e1, e2, e3⟩
      · exact I.wf d h
    · rcases hmem d hd with rfl | h
      · intro m' hm' hk
        rcases List.mem_append.1 hm' with h | h
        · exact hone m' h hk
        · simp at h; subst h
          rw [← e3]; exact h7.resolve_left (fun h => h hk)
      · exact I.one d h
    · rw [hlen]
      rcases mem_onto hy with h | ⟨h, _⟩
      · exact I.node y (hw y h)
      · exact h
    · rw [hlen]
      rcases mem_onto hy with h | ⟨h, m', hm', e⟩
      · exact (I.wmsg y (hw y h)).mono hps hR
      · rw [e]
        intro _ _
        have ei : ((i : Int) + 1).toNat - 1 = i := by omega
        rcases List.mem_append.1 hm' with h | h
        · unfold out1 at h
          split at h
          · rename_i hk
            simp at h; subst h
            refine ⟨fun h => by simp at h, fun _ => ⟨stp c m, ?_, hsent1 hk⟩, fun h => by simp at h⟩
            show (ps.set i (stp c m))[((i : Int) + 1).toNat - 1]? = _
            rw [ei, hget, if_pos rfl]
          · simp at h
        · unfold out2 at h
          split at h
          · rename_i hr
            simp at h; subst h
            refine ⟨fun h => by simp at h, fun h => by simp at h, fun _ => ?_⟩
            show R' (((i : Int) + 1).toNat - 1) = _
            rw [ei]
            exact if_pos ⟨rfl, hr⟩
          · simp at h
    · rw [hlen]
      rcases hmem d hd with rfl | h
      · exact (hall m' hm').mono hps hR
      · exact (I.cmsg d h m' hm').mono hps hR
    · have hb : (if j = i ∧ rd c m = true then some m.body else R j) = some b := hb
      by_cases e : j = i ∧ rd c m = true
      · rw [if_pos e] at hb
        obtain rfl := Option.some.inj hb
        have hr := e.2
        simp only [rd, Bool.and_eq_true, Bool.or_eq_true, decide_eq_true_eq] at hr
        rcases hr.2 with hq | hq
        · exact ⟨stp c m, List.mem_of_getElem? (i := i) (by rw [hget, if_pos rfl]), hq⟩
        · obtain ⟨m', g1, g2, g3, g4, g5⟩ := good_of W' (k := 3) (b := m.body) hq
          have l := I.len
          have g5 : m'.frm ≤ c.n - c.t := g5
          have := (hall m' g1 g4 (by omega)).2.2 g2
          rw [g3] at this
          exact hEQ _ (I.eq _ _ this)
      · rw [if_neg e] at hb
        exact hEQ _ (I.eq _ _ hb)
    · show (if j = i ∧ rd c m = true then some m.body else R j) = none
      rw [hget] at hj
      by_cases e : j = i
      · rw [if_pos e] at hj
        obtain rfl := Option.some.inj hj
        have hr : (c.ready || rd c m) = false := hr
        simp only [Bool.or_eq_false_iff] at hr
        rw [if_neg (by rw [hr.2]; simp), e]
        exact I.rdy i c hc hr.1
      · rw [if_neg e] at hj
        rw [if_neg (fun h => e h.1)]
        exact I.rdy j d hj hr
    · rcases hmem d hd with rfl | h
      · show c.t < cntL (c.L ++ [m]) 3 (if dn c m = true then m.body else c.body)
        by_cases hdm : dn c m = true
        · rw [if_pos hdm]
          simp only [dn, Bool.and_eq_true, decide_eq_true_eq] at hdm
          have := W.t0
          omega
        · rw [if_neg hdm]
          have hd0 : (c.done || dn c m) = true := hdn
          have : c.done = true := by
            cases hh : c.done
            · rw [hh] at hd0; simp at hd0; exact absurd hd0 hdm
            · rfl
          have := I.dne c hcm this
          rw [cntL_snoc]
          omega
      · exact I.dne d h hdn
  · have ht : c.take m = (c, []) := by unfold CSt.take; rw [if_neg hcnt]
    rw [ht]
    have e : ps.set i c = ps := by
      apply List.ext_getElem?
      intro j
      by_cases hj : i = j
      · subst hj; simp [hlt, hc.symm]
      · rw [List.getElem?_set_ne hj]
    have e2 : onto way' ps.length (i + 1) [] = way' := by simp [onto]
    rw [e, e2]
    exact ⟨R, ⟨I.len, I.wf, I.one, fun y hy => I.node y (hw y hy), fun y hy => I.wmsg y (hw y hy), I.cmsg, I.eq, I.rdy, I.dne⟩⟩

/-- The beginning. -/
theorem Inv.begin (hq : quorum n t ≠ 0) (h1 : 1 ≤ frm) (h2 : frm ≤ n) {h : Nat} (hh : (h : Int) = n - t) (hw : way = if frm ≤ h then onto [] h frm [⟨1, 0, x⟩] else []) :
    Inv n t frm x (List.replicate h (new n t frm)) way (fun _ => none) := by
  have hm : ∀ c ∈ List.replicate h (new n t frm), c = new n t frm := fun c hc => (List.mem_replicate.1 hc).2
  have hway : ∀ y ∈ way, y.node < h ∧ y.msg = ⟨1, frm, x⟩ := fun y hy => by
    rw [hw] at hy
    split at hy
    · rcases mem_onto hy with h | ⟨h, m, hm, e⟩
      · cases h
      · simp at hm; subst hm; exact ⟨h, e⟩
    · cases hy
  refine ⟨by simpa using hh, fun c hc => ?_, fun c hc => ?_, fun y hy => ?_, fun y hy => ?_, fun c hc => ?_, fun i b hb => by simp at hb, fun _ _ _ _ => rfl, fun c hc hd => ?_⟩
  · rw [hm c hc]; exact ⟨new_wf hq h1 h2, rfl, rfl, rfl⟩
  · rw [hm c hc]; intro m hm; simp [new] at hm
  · simpa using (hway y hy).1
  · rw [(hway y hy).2]
    intro _ _
    exact ⟨fun _ => rfl, fun h => by simp at h, fun h => by simp at h⟩
  · rw [hm c hc]; intro m hm; simp [new] at hm
  · rw [hm c hc] at hd; simp [new] at hd
end
end Go.Proofs.Ytibomfgeemhogaa.CastM
