/-
  NO TWO HONEST NODES DECIDE OTHERWISE. No program is in sight.
-/
import Derived.Test.YtboibdmflblphaaAgrL
namespace Go.Proofs.Ytboibdmflblphaa.AgrM
open VoteM Quor

/-- What a node has said, and what is known of it. -/
structure Hst (Pk : Int → ByteArray → Prop) (a : ASt) (H : List Wrd) : Prop where
  own : ∀ r v, quorum a.n a.t ≤ cntV a.L 2 r v → Pk r v
  said : ∀ w ∈ H, key w ≤ a.pos ∧ w.frm = a.me ∧ checkW w = true
  srt : H.Pairwise fun x y => key x < key y
  s1 : ∀ w ∈ H, w.kind = 3 → w.value ≠ VoteM.empty → w.round ≤ a.lockR ∧ (a.lockR = w.round → a.lock = w.value)
  s2 : 0 ≤ a.lockR → Pk a.lockR a.lock
  s3 : a.step = 1 → a.lockR < a.round
  h4 : ∀ w ∈ H, w.kind = 3 → w.value ≠ VoteM.empty → Pk w.round w.value
  h5 : ∀ w ∈ H, w.kind = 2 → w.value ≠ VoteM.empty → ∀ x ∈ H, x.kind = 3 → x.value ≠ VoteM.empty → x.round < w.round → w.value = x.value ∨ ∃ r, x.round ≤ r ∧ r < w.round ∧ Pk r w.value
  d : a.done = true → a.dec ≠ VoteM.empty ∧ ∃ r, quorum a.n a.t ≤ cntV a.L 3 r a.dec

/-- A step that says no vote for a value, and leaves the lock. -/
theorem Hst.dull {Pk : Int → ByteArray → Prop} {a b : ASt} {H o : List Wrd} (T : Hst Pk a H) (S : Said a b o) (hn : b.n = a.n) (ht : b.t = a.t) (hL : b.L = a.L) (hl : b.lock = a.lock) (hr : b.lockR = a.lockR)
    (h3 : b.step = 1 → b.lockR < b.round) (ho : ∀ w ∈ o, w.kind = 1 ∨ w.value = VoteM.empty) (hd : b.done = true → b.dec ≠ VoteM.empty ∧ ∃ r, quorum b.n b.t ≤ cntV b.L 3 r b.dec) : Hst Pk b (H ++ o) := by
  have hm : ∀ w ∈ H ++ o, w.kind ≠ 1 → w.value ≠ VoteM.empty → w ∈ H := fun w hw h1 h2 => by
    rcases List.mem_append.1 hw with h | h
    · exact h
    · rcases ho w h with h | h
      · exact absurd h h1
      · exact absurd h h2
  refine ⟨by rw [hn, ht, hL]; exact T.own, fun w hw => ?_, ?_, fun w hw k1 k2 => ?_, by rw [hl, hr]; exact T.s2, h3, fun w hw k1 k2 => T.h4 w (hm w hw (by omega) k2) k1 k2, fun w hw k1 k2 x hx k3 k4 => T.h5 w (hm w hw (by omega) k2) k1 k2 x (hm x hx (by omega) k4) k3 k4, hd⟩
  · rcases List.mem_append.1 hw with h | h
    · obtain ⟨h1, h2, h3⟩ := T.said w h
      exact ⟨Int.le_trans h1 S.le, h2.trans S.me.symm, h3⟩
    · obtain ⟨_, h1, h2, h3⟩ := S.w w h
      exact ⟨h1, h2.trans S.me.symm, h3⟩
  · refine List.pairwise_append.2 ⟨T.srt, S.srt, fun x hx y hy => ?_⟩
    have := (T.said x hx).1
    have := (S.w y hy).1
    omega
  · rw [hl, hr]
    exact T.s1 w (hm w hw (by omega) k2) k1 k2
theorem Hst.begin {Pk : Int → ByteArray → Prop} {a : ASt} {H : List Wrd} (T : Hst Pk a H) (W : a.Wf) {r : Int} (h : a.round < r) (h0 : 0 ≤ r) : Hst Pk (a.begin r) (H ++ a.beginO r) := by
  have S := begin_said W h h0
  have hb : (a.begin r).n = a.n ∧ (a.begin r).t = a.t ∧ (a.begin r).L = a.L ∧ (a.begin r).done = a.done ∧ (a.begin r).dec = a.dec := by
    unfold ASt.begin; split <;> exact ⟨rfl, rfl, rfl, rfl, rfl⟩
  obtain ⟨e1, e2⟩ := begin_lock a r
  refine T.dull S hb.1 hb.2.1 hb.2.2.1 e1 e2 ?_ (fun w hw => .inl (beginO_kind hw)) (by rw [hb.1, hb.2.1, hb.2.2.1, hb.2.2.2.1, hb.2.2.2.2]; exact T.d)
  rw [e2]
  unfold ASt.begin
  split
  · exact T.s3
  · intro _
    have := W.l1
    show a.lockR < r
    omega
theorem Hst.voteE {Pk : Int → ByteArray → Prop} {a : ASt} {H : List Wrd} (T : Hst Pk a H) (W : a.Wf) (h0 : 0 ≤ a.round) {k : Int} (hk : (k = 2 ∧ a.step = 1) ∨ (k = 3 ∧ a.step = 2)) : Hst Pk (a.vote k) (H ++ a.voteO k VoteM.empty) := by
  refine T.dull (vote_said W h0 hk (by decide)) rfl rfl rfl rfl rfl (fun h => ?_) (fun w hw => .inr ?_) T.d
  · have h : (if k = 3 then 3 else 2 : Int) = 1 := h
    split at h <;> omega
  · simp only [ASt.voteO, List.mem_singleton] at hw
    rw [hw]
theorem Rul.hst {Pk : Int → ByteArray → Prop} {a b : ASt} {o H : List Wrd} (R : Rul a b o) (W : a.Wf) (h0 : 0 ≤ a.round) (hd : a.done = false) (T : Hst Pk a H) : Hst Pk b (H ++ o) := by
  have S := R.said W h0
  cases R with
  | dec q q0 q1 hp hm => exact T.dull S rfl rfl rfl rfl rfl T.s3 (by simp) fun _ => ⟨hp, q, (most_some hm).1⟩
  | ahead h => exact T.begin W h (by omega)
  | pv hn hs hp hv =>
    by_cases hf : a.free = true
    · rw [if_pos hf] at S ⊢
      obtain ⟨hc, hnr, _⟩ := now_ok W hp
      refine ⟨T.own, fun w hw => ?_, ?_, fun w hw k1 k2 => ?_, T.s2, fun h => ?_, fun w hw k1 k2 => ?_, fun w hw k1 k2 x hx k3 k4 k5 => ?_, fun h => by rw [show (a.vote 2).done = a.done from rfl, hd] at h; cases h⟩
      · rcases List.mem_append.1 hw with h | h
        · obtain ⟨h1, h2, h3⟩ := T.said w h
          exact ⟨Int.le_trans h1 S.le, h2, h3⟩
        · obtain ⟨_, h1, h2, h3⟩ := S.w w h
          exact ⟨h1, h2, h3⟩
      · refine List.pairwise_append.2 ⟨T.srt, S.srt, fun x hx y hy => ?_⟩
        have := (T.said x hx).1
        have := (S.w y hy).1
        omega
      · rcases List.mem_append.1 hw with h | h
        · exact T.s1 w h k1 k2
        · simp only [ASt.voteO, List.mem_singleton] at h
          rw [h] at k1
          exact absurd k1 (by show ¬ (2 : Int) = 3; decide)
      · exact absurd (show (2 : Int) = 1 from h) (by decide)
      · rcases List.mem_append.1 hw with h | h
        · exact T.h4 w h k1 k2
        · simp only [ASt.voteO, List.mem_singleton] at h
          rw [h] at k1
          exact absurd k1 (by show ¬ (2 : Int) = 3; decide)
      · have hx' : x ∈ H := by
          rcases List.mem_append.1 hx with h | h
          · exact h
          · simp only [ASt.voteO, List.mem_singleton] at h
            rw [h] at k3
            exact absurd k3 (by show ¬ (2 : Int) = 3; decide)
        rcases List.mem_append.1 hw with h | h
        · exact T.h5 w h k1 k2 x hx' k3 k4 k5
        · simp only [ASt.voteO, List.mem_singleton] at h
          subst h
          dsimp only at k5 ⊢
          obtain ⟨g1, g2⟩ := T.s1 x hx' k3 k4
          have hx0 := (check_spec (T.said x hx').2.2).2.2.2.1
          have hl := T.s3 hs
          simp only [ASt.free, Bool.or_eq_true, Bool.and_eq_true, decide_eq_true_eq] at hf
          rcases hf with (hf | hf) | hf
          · omega
          · by_cases e : a.lockR = x.round
            · exact .inl (hf.symm.trans (g2 e))
            · exact .inr ⟨a.lockR, g1, hl, hf ▸ T.s2 (by omega)⟩
          · rcases hv with hv | hv
            · omega
            · refine .inr ⟨a.now.valid, by omega, ?_, T.own _ _ (most_some hv).1⟩
              rcases (check_spec hc).1 with h | h
              · omega
              · have := (prop_mem hp).1
                have := (W.p _ this).2.1
                have : a.now.kind = 1 := this
                omega
    · rw [if_neg hf]
      exact T.voteE W h0 (.inl ⟨rfl, hs⟩)
  | pc hn hs hp he hm =>
    by_cases h2 : a.step = 2
    · have e : a.lock5 = { a with seen := true, val := a.now.value, valR := a.round, lock := a.now.value, lockR := a.round, step := 3 } := if_pos h2
      rw [e] at S ⊢
      rw [if_pos h2] at S ⊢
      have hpk := T.own _ _ (most_some hm).1
      refine ⟨T.own, fun w hw => ?_, ?_, fun w hw k1 k2 => ?_, fun _ => hpk, fun h => absurd (show (3 : Int) = 1 from h) (by decide), fun w hw k1 k2 => ?_, fun w hw k1 k2 x hx k3 k4 k5 => ?_, fun h => by rw [show a.done = true from h] at hd; cases hd⟩
      · rcases List.mem_append.1 hw with h | h
        · obtain ⟨h1, h2, h3⟩ := T.said w h
          exact ⟨Int.le_trans h1 S.le, h2, h3⟩
        · obtain ⟨_, h1, h2, h3⟩ := S.w w h
          exact ⟨h1, h2, h3⟩
      · refine List.pairwise_append.2 ⟨T.srt, S.srt, fun x hx y hy => ?_⟩
        have := (T.said x hx).1
        have := (S.w y hy).1
        omega
      · rcases List.mem_append.1 hw with h | h
        · have g1 := (T.s1 w h k1 k2).1
          have g2 := (T.said w h).1
          unfold key ASt.pos at g2
          have := W.l1
          refine ⟨by show w.round ≤ a.round; omega, fun e => ?_⟩
          have e : a.round = w.round := e
          omega
        · simp only [ASt.voteO, List.mem_singleton] at h
          subst h
          exact ⟨Int.le_refl _, fun _ => rfl⟩
      · rcases List.mem_append.1 hw with h | h
        · exact T.h4 w h k1 k2
        · simp only [ASt.voteO, List.mem_singleton] at h
          subst h
          exact hpk
      · have hw' : w ∈ H := by
          rcases List.mem_append.1 hw with h | h
          · exact h
          · simp only [ASt.voteO, List.mem_singleton] at h
            rw [h] at k1
            exact absurd k1 (by show ¬ (3 : Int) = 2; decide)
        rcases List.mem_append.1 hx with h | h
        · exact T.h5 w hw' k1 k2 x h k3 k4 k5
        · simp only [ASt.voteO, List.mem_singleton] at h
          subst h
          have g2 := (T.said w hw').1
          unfold key ASt.pos at g2
          have k5 : a.round < w.round := k5
          omega
    · have e : a.lock5 = { a with seen := true, val := a.now.value, valR := a.round } := if_neg h2
      rw [e] at S ⊢
      rw [if_neg h2] at S ⊢
      exact T.dull S rfl rfl rfl rfl rfl T.s3 (by simp) T.d
  | nil hn hs hm => exact T.voteE W h0 (.inr ⟨rfl, hs⟩)
theorem run_hst {Pk : Int → ByteArray → Prop} {a : ASt} (W : a.Wf) (h0 : 0 ≤ a.round) : ∀ H, Hst Pk a H → Hst Pk a.run.1 (H ++ a.run.2) :=
  run_q (Q := fun a b o => ∀ H, Hst Pk a H → Hst Pk b (H ++ o)) W h0 (fun a _ _ H T => by rw [List.append_nil]; exact T) fun a b c o o' W h0 hd R W' h H T => by
    rw [← List.append_assoc]
    exact h _ (R.hst W h0 hd T)
theorem timeout_hst {Pk : Int → ByteArray → Prop} {a : ASt} {H : List Wrd} (W : a.Wf) (h0 : 0 ≤ a.round) (T : Hst Pk a H) (s : Int) : Hst Pk (a.timeout s).1 (H ++ (a.timeout s).2) := by
  unfold ASt.timeout
  split
  · exact T.begin W (by omega) (by omega)
  · split
    · simpa using T
    · split
      · exact T.voteE W h0 (.inl ⟨rfl, by omega⟩)
      · split
        · exact T.voteE W h0 (.inr ⟨rfl, by omega⟩)
        · simpa using T
/-- What of a part the rules leave. -/
structure Same (a b : ASt) : Prop where
  n : b.n = a.n
  t : b.t = a.t
  me : b.me = a.me
  h : b.h = a.h
  L : b.L = a.L
  Ps : b.Ps = a.Ps
  own : b.own = a.own
theorem Same.refl (a : ASt) : Same a a := ⟨rfl, rfl, rfl, rfl, rfl, rfl, rfl⟩
theorem Same.trans {a b c : ASt} (h : Same a b) (h' : Same b c) : Same a c := ⟨h'.n.trans h.n, h'.t.trans h.t, h'.me.trans h.me, h'.h.trans h.h, h'.L.trans h.L, h'.Ps.trans h.Ps, h'.own.trans h.own⟩
theorem begin_same (a : ASt) (r : Int) : Same a (a.begin r) := by unfold ASt.begin; split <;> exact ⟨rfl, rfl, rfl, rfl, rfl, rfl, rfl⟩
theorem Rul.same {a b : ASt} {o : List Wrd} (R : Rul a b o) : Same a b := by
  cases R with
  | dec => exact ⟨rfl, rfl, rfl, rfl, rfl, rfl, rfl⟩
  | ahead => exact begin_same a _
  | pv => exact ⟨rfl, rfl, rfl, rfl, rfl, rfl, rfl⟩
  | pc => unfold ASt.lock5; split <;> exact ⟨rfl, rfl, rfl, rfl, rfl, rfl, rfl⟩
  | nil => exact ⟨rfl, rfl, rfl, rfl, rfl, rfl, rfl⟩
theorem run_same {a : ASt} (W : a.Wf) (h0 : 0 ≤ a.round) : Same a a.run.1 :=
  run_q (Q := fun a b _ => Same a b) W h0 (fun a _ _ => .refl a) fun a b c o o' W h0 _ R W' h => R.same.trans h
theorem timeout_same (a : ASt) (s : Int) : Same a (a.timeout s).1 := by
  unfold ASt.timeout
  split
  · exact begin_same a _
  · split
    · exact .refl a
    · split
      · exact ⟨rfl, rfl, rfl, rfl, rfl, rfl, rfl⟩
      · split
        · exact ⟨rfl, rfl, rfl, rfl, rfl, rfl, rfl⟩
        · exact .refl a
/-- What taking a word does to the votes. -/
structure Took (a b : ASt) (w : Wrd) : Prop where
  n : b.n = a.n
  t : b.t = a.t
  me : b.me = a.me
  h : b.h = a.h
  own : b.own = a.own
  L : b.L = a.L ∨ (w.kind ≠ 4 ∧ w.kind ≠ 1 ∧ b.L = a.L ++ [w])
  Ps : b.Ps = a.Ps ∨ (w.kind = 1 ∧ b.Ps = a.Ps ++ [w])
theorem Same.took {a b : ASt} (h : Same a b) (w : Wrd) : Took a b w := ⟨h.n, h.t, h.me, h.h, h.own, .inl h.L, .inl h.Ps⟩
theorem count_took (a : ASt) (w : Wrd) : Took a (a.count w).1 w := by
  unfold ASt.count
  split
  · exact (timeout_same a w.valid).took w
  · split
    · exact ⟨rfl, rfl, rfl, rfl, rfl, .inl rfl, .inr ⟨by assumption, rfl⟩⟩
    · exact ⟨rfl, rfl, rfl, rfl, rfl, .inr ⟨by assumption, by assumption, rfl⟩, .inl rfl⟩
theorem take_took {a : ASt} (W : a.Wf) (w : Wrd) : Took a (a.take w).1 w := by
  unfold ASt.take
  split
  · exact (Same.refl a).took w
  · split
    · rename_i h1 h2
      obtain ⟨W1, h3⟩ := count_wf W (by omega) h2
      have C := count_took a w
      have S := run_same W1 (by omega)
      exact ⟨S.n.trans C.n, S.t.trans C.t, S.me.trans C.me, S.h.trans C.h, S.own.trans C.own, by rw [S.L]; exact C.L, by rw [S.Ps]; exact C.Ps⟩
    · exact (Same.refl a).took w
theorem cnt_grow (L : List Wrd) (w : Wrd) (k r : Int) (v : ByteArray) : cntV L k r v ≤ cntV (L ++ [w]) k r v := by rw [cnt_snoc]; omega
theorem Took.cnt {a b : ASt} {w : Wrd} (T : Took a b w) (k r : Int) (v : ByteArray) : cntV a.L k r v ≤ cntV b.L k r v := by
  rcases T.L with h | ⟨_, _, h⟩ <;> rw [h]
  · exact Nat.le_refl _
  · exact cnt_grow _ _ _ _ _
theorem Hst.mono {Pk Pk' : Int → ByteArray → Prop} {a : ASt} {H : List Wrd} (T : Hst Pk a H) (h : ∀ r v, Pk r v → Pk' r v) : Hst Pk' a H :=
  ⟨fun r v hq => h _ _ (T.own r v hq), T.said, T.srt, T.s1, fun h0 => h _ _ (T.s2 h0), T.s3, fun w hw k1 k2 => h _ _ (T.h4 w hw k1 k2), fun w hw k1 k2 x hx k3 k4 k5 => (T.h5 w hw k1 k2 x hx k3 k4 k5).imp id fun ⟨r, q1, q2, q3⟩ => ⟨r, q1, q2, h _ _ q3⟩, T.d⟩
theorem take_hst {Pk : Int → ByteArray → Prop} {a : ASt} {H : List Wrd} {w : Wrd} (W : a.Wf) (T : Hst Pk a H) (ho : ∀ r v, quorum a.n a.t ≤ cntV (a.take w).1.L 2 r v → Pk r v) : Hst Pk (a.take w).1 (H ++ (a.take w).2) := by
  have e0 : a.take w = if a.round < 0 ∨ a.done = true then (a, []) else if a.cnt w = true then (((a.count w).1.run).1, (a.count w).2 ++ ((a.count w).1.run).2) else (a, []) := rfl
  rw [e0] at ho ⊢
  split at ho
  · rename_i h; rw [if_pos h]; simpa using T
  · rename_i h
    rw [if_neg h]
    split at ho
    · rename_i hc
      rw [if_pos hc]
      obtain ⟨W1, h3⟩ := count_wf W (by omega) hc
      have S := run_same W1 (by omega)
      rw [S.L] at ho
      show Hst Pk (a.count w).1.run.1 (H ++ ((a.count w).2 ++ (a.count w).1.run.2))
      rw [← List.append_assoc]
      refine run_hst W1 (by omega) _ ?_
      unfold ASt.count at ho ⊢
      split
      · exact timeout_hst W (by omega) T w.valid
      · rename_i hk
        rw [if_neg hk] at ho
        split
        · rw [List.append_nil]
          exact ⟨T.own, T.said, T.srt, T.s1, T.s2, T.s3, T.h4, T.h5, T.d⟩
        · rename_i hk1
          rw [if_neg hk1] at ho
          rw [List.append_nil]
          refine ⟨ho, T.said, T.srt, T.s1, T.s2, T.s3, T.h4, T.h5, fun h => ?_⟩
          obtain ⟨d1, r, d2⟩ := T.d h
          exact ⟨d1, r, by have := cnt_grow a.L w 3 r a.dec; show quorum a.n a.t ≤ (cntV (a.L ++ [w]) 3 r a.dec : Nat); omega⟩
    · rename_i hc; rw [if_neg hc]; simpa using T

/-! ### all nodes -/
/-- Whose word it is, said it (if it is honest). -/
def Known (h : Nat) (H : Nat → List Wrd) (w : Wrd) : Prop := 1 ≤ w.frm → w.frm ≤ h → w ∈ H (w.frm.toNat - 1)
def Polka (As : List ASt) (k r : Int) (v : ByteArray) : Prop := ∃ a ∈ As, quorum a.n a.t ≤ cntV a.L k r v
structure Nd (n t : Int) (i : Nat) (a : ASt) : Prop where
  n : a.n = n
  t : a.t = t
  me : a.me = i + 1
  W : a.Wf
structure Sys (n t : Int) (As : List ASt) (H : Nat → List Wrd) : Prop where
  hn : (As.length : Int) = n - t
  nd : ∀ (i : Nat) a, As[i]? = some a → Nd n t i a
  kn : ∀ a ∈ As, ∀ w ∈ a.L, Known As.length H w
  hs : ∀ (i : Nat) a, As[i]? = some a → Hst (Polka As 2) a (H i)
def addH (H : Nat → List Wrd) (i : Nat) (o : List Wrd) : Nat → List Wrd := fun j => if j = i then H j ++ o else H j
theorem Known.add {h : Nat} {H : Nat → List Wrd} {w : Wrd} (K : Known h H w) (i : Nat) (o : List Wrd) : Known h (addH H i o) w := fun h1 h2 => by
  have := K h1 h2
  unfold addH
  split
  · exact List.mem_append_left _ this
  · exact this
theorem mem_set {As : List ASt} {i : Nat} {b : ASt} {x : ASt} (h : x ∈ As.set i b) : x = b ∨ x ∈ As := (List.mem_or_eq_of_mem_set h).symm
theorem set_get {As : List ASt} {i j : Nat} {a b x : ASt} (ha : As[i]? = some a) (h : (As.set i b)[j]? = some x) : (j = i ∧ x = b) ∨ (j ≠ i ∧ As[j]? = some x) := by
  have hi : i < As.length := (List.getElem?_eq_some_iff.1 ha).1
  rw [List.getElem?_set] at h
  by_cases e : i = j
  · subst e
    rw [if_pos rfl, if_pos hi] at h
    exact .inl ⟨rfl, (Option.some.inj h).symm⟩
  · rw [if_neg e] at h
    exact .inr ⟨fun e' => e e'.symm, h⟩
/-- A node is put in another's place that has all its votes. -/
theorem Polka.set {As : List ASt} {i : Nat} {a b : ASt} (ha : As[i]? = some a) (hn : b.n = a.n) (ht : b.t = a.t) {k r : Int} {v : ByteArray} (hL : ∀ k r v, cntV a.L k r v ≤ cntV b.L k r v) (h : Polka As k r v) : Polka (As.set i b) k r v := by
  have hi : i < As.length := (List.getElem?_eq_some_iff.1 ha).1
  obtain ⟨x, hx, hq⟩ := h
  obtain ⟨j, hj⟩ := List.mem_iff_getElem?.1 hx
  by_cases e : i = j
  · subst e
    obtain rfl := Option.some.inj (ha.symm.trans hj)
    refine ⟨b, List.mem_of_getElem? (i := i) (by rw [List.getElem?_set, if_pos rfl, if_pos hi]), ?_⟩
    rw [hn, ht]
    have := hL k r v
    omega
  · exact ⟨x, List.mem_of_getElem? (i := j) (by rw [List.getElem?_set, if_neg e]; exact hj), hq⟩
theorem Sys.take {n t : Int} {As : List ASt} {H : Nat → List Wrd} (Y : Sys n t As H) {i : Nat} {a : ASt} {w : Wrd} (ha : As[i]? = some a) (hw : w.kind = 4 ∨ Known As.length H w) : Sys n t (As.set i (a.take w).1) (addH H i (a.take w).2) := by
  have N := Y.nd i a ha
  have hi : i < As.length := (List.getElem?_eq_some_iff.1 ha).1
  have T := take_took N.W w
  have hP : ∀ r v, Polka As 2 r v → Polka (As.set i (a.take w).1) 2 r v := fun r v h => h.set ha T.n T.t T.cnt
  refine ⟨by simpa using Y.hn, fun j x hx => ?_, fun x hx y hy => ?_, fun j x hx => ?_⟩
  · rcases set_get ha hx with ⟨rfl, rfl⟩ | ⟨_, h⟩
    · exact ⟨T.n.trans N.n, T.t.trans N.t, T.me.trans N.me, (take_wf N.W w).1⟩
    · exact Y.nd j x h
  · rw [List.length_set]
    refine Known.add ?_ i _
    rcases mem_set hx with rfl | h
    · rcases T.L with e | ⟨e1, e2, e⟩ <;> rw [e] at hy
      · exact Y.kn a (List.mem_of_getElem? ha) y hy
      · rcases List.mem_append.1 hy with h | h
        · exact Y.kn a (List.mem_of_getElem? ha) y h
        · simp only [List.mem_singleton] at h
          subst h
          exact hw.resolve_left e1
    · exact Y.kn x h y hy
  · rcases set_get ha hx with ⟨rfl, rfl⟩ | ⟨hne, h⟩
    · have e : addH H j (a.take w).2 j = H j ++ (a.take w).2 := if_pos rfl
      rw [e]
      refine take_hst N.W ((Y.hs j a ha).mono hP) fun r v hq => ⟨_, List.mem_of_getElem? (i := j) (by rw [List.getElem?_set, if_pos rfl, if_pos hi]), ?_⟩
      rw [T.n, T.t]
      exact hq
    · have e : addH H i (a.take w).2 j = H j := if_neg hne
      rw [e]
      exact (Y.hs j x h).mono hP
theorem Sys.out {n t : Int} {As : List ASt} {H : Nat → List Wrd} (Y : Sys n t As H) {i : Nat} {a b : ASt} {o : List Wrd} (ha : As[i]? = some a) (hs : Said a b o) : ∀ x ∈ o, Known As.length (addH H i o) x := fun x hx h1 h2 => by
  have N := Y.nd i a ha
  have := (hs.w x hx).2.2.1
  have e : x.frm.toNat - 1 = i := by rw [this, N.me]; omega
  rw [e]
  unfold addH
  rw [if_pos rfl]
  exact List.mem_append_right _ hx

/-! ### quorums of all nodes -/
def fromsV (L : List Wrd) (k r : Int) (v : ByteArray) : List Nat := (L.filter fun w => decide (w.kind = k ∧ w.round = r ∧ w.value = v)).map fun w => w.frm.toNat
theorem fromsV_len (L : List Wrd) (k r : Int) (v : ByteArray) : (fromsV L k r v).length = cntV L k r v := by simp [fromsV, cntV, List.countP_eq_length_filter]
theorem fromsV_mem {L : List Wrd} {k r : Int} {v : ByteArray} {x : Nat} (h : x ∈ fromsV L k r v) : ∃ w ∈ L, w.kind = k ∧ w.round = r ∧ w.value = v ∧ w.frm.toNat = x := by
  obtain ⟨m, hm, e⟩ := List.mem_map.1 h
  simp only [List.mem_filter, decide_eq_true_eq] at hm
  exact ⟨m, hm.1, hm.2.1, hm.2.2.1, hm.2.2.2, e⟩
theorem fromsV_nd {L : List Wrd} (hn : (L.map fun w => ((w.kind.toNat * 64 + w.round.toNat) * 8 + w.frm.toNat)).Nodup) (k r : Int) (v : ByteArray) : (fromsV L k r v).Nodup := by
  induction L with
  | nil => simp [fromsV]
  | cons m L ih =>
    simp only [List.map_cons, List.nodup_cons] at hn
    have ih := ih hn.2
    by_cases hm : m.kind = k ∧ m.round = r ∧ m.value = v
    · have e : fromsV (m :: L) k r v = m.frm.toNat :: fromsV L k r v := by simp [fromsV, hm]
      rw [e, List.nodup_cons]
      refine ⟨fun hx => hn.1 ?_, ih⟩
      obtain ⟨m', h1, h2, h3, _, h4⟩ := fromsV_mem hx
      refine List.mem_map.2 ⟨m', h1, ?_⟩
      rw [h2, h3, h4, hm.1, hm.2.1]
    · have e : fromsV (m :: L) k r v = fromsV L k r v := by simp [fromsV, hm]
      rw [e]; exact ih
theorem key_inj {l : List Wrd} (h : l.Pairwise fun x y => key x < key y) {x y : Wrd} (hx : x ∈ l) (hy : y ∈ l) (e : key x = key y) : x = y := by
  induction l with
  | nil => cases hx
  | cons z l ih =>
    obtain ⟨h1, h2⟩ := List.pairwise_cons.1 h
    rcases List.mem_cons.1 hx with rfl | hx <;> rcases List.mem_cons.1 hy with rfl | hy
    · rfl
    · have := h1 _ hy; omega
    · have := h1 _ (by assumption); omega
    · exact ih h2 (by assumption) (by assumption)
section
variable {n t : Int} {As : List ASt} {H : Nat → List Wrd}
/-- Two quorums have an honest node in common. -/
theorem Sys.two (Y : Sys n t As H) {k r k' r' : Int} {v v' : ByteArray} (h : Polka As k r v) (h' : Polka As k' r' v') :
    ∃ (i : Nat) (a : ASt) (w w' : Wrd), As[i]? = some a ∧ w ∈ H i ∧ w' ∈ H i ∧ w.kind = k ∧ w.round = r ∧ w.value = v ∧ w'.kind = k' ∧ w'.round = r' ∧ w'.value = v' := by
  obtain ⟨a, ha, hq⟩ := h
  obtain ⟨b, hb, hq'⟩ := h'
  obtain ⟨i, hi⟩ := List.mem_iff_getElem?.1 ha
  obtain ⟨j, hj⟩ := List.mem_iff_getElem?.1 hb
  have N := Y.nd i a hi
  have N' := Y.nd j b hj
  have V := N.W.v
  have V' := N'.W.v
  have := V.t0; have := V.n0
  rw [quorum_of V] at hq
  rw [quorum_of V'] at hq'
  have e1 := N.n; have e2 := N.t; have e1' := N'.n; have e2' := N'.t
  obtain ⟨y, h1, h2, h3⟩ := two_good (n := n.toNat) (t := t.toNat) (fromsV_nd V.nd k r v) (fromsV_nd V'.nd k' r' v')
    (fun y hy => by obtain ⟨w, q1, q2, q3, q4, q5⟩ := fromsV_mem hy; have := may_spec (V.rng w q1); omega)
    (fun y hy => by obtain ⟨w, q1, q2, q3, q4, q5⟩ := fromsV_mem hy; have := may_spec (V'.rng w q1); omega) (by omega)
    (by rw [fromsV_len, fromsV_len]; omega)
  obtain ⟨w, q1, q2, q3, q4, q5⟩ := fromsV_mem h1
  obtain ⟨w', p1, p2, p3, p4, p5⟩ := fromsV_mem h2
  have r1 := may_spec (V.rng w q1)
  have r2 := may_spec (V'.rng w' p1)
  have l := Y.hn
  have g1 := Y.kn a ha w q1 r1.2.1 (by omega)
  have g2 := Y.kn b hb w' p1 r2.2.1 (by omega)
  have ef : w'.frm.toNat = w.frm.toNat := p5.trans q5.symm
  rw [ef] at g2
  have hlt : w.frm.toNat - 1 < As.length := by omega
  exact ⟨w.frm.toNat - 1, As[w.frm.toNat - 1], w, w', List.getElem?_eq_getElem hlt, g1, g2, q2, q3, q4, p2, p3, p4⟩
/-- A value that a quorum precommits has had a quorum's prevotes. -/
theorem Sys.pre (Y : Sys n t As H) {r : Int} {v : ByteArray} (hv : v ≠ VoteM.empty) (h : Polka As 3 r v) : Polka As 2 r v := by
  obtain ⟨i, a, w, _, hi, hw, _, k1, k2, k3, _⟩ := Y.two h h
  have := (Y.hs i a hi).h4 w hw k1 (by rw [k3]; exact hv)
  rwa [k2, k3] at this
theorem Sys.lock (Y : Sys n t As H) {r : Int} {v : ByteArray} (hv : v ≠ VoteM.empty) (hc : Polka As 3 r v) : ∀ (m : Nat) (r' : Int) (v' : ByteArray), r ≤ r' → (r' - r).toNat < m → Polka As 2 r' v' → v' ≠ VoteM.empty → v' = v
  | 0, _, _, _, h, _, _ => by omega
  | m + 1, r', v', hr, hm, hp, hv' => by
    by_cases e : r' = r
    · subst e
      obtain ⟨i, a, w, w', hi, h1, h2, k1, k2, k3, k4, k5, k6⟩ := Y.two (Y.pre hv hc) hp
      have : w = w' := key_inj (Y.hs i a hi).srt h1 h2 (by unfold key; omega)
      rw [← k3, ← k6, this]
    · obtain ⟨i, a, w, w', hi, h1, h2, k1, k2, k3, k4, k5, k6⟩ := Y.two hc hp
      rcases (Y.hs i a hi).h5 w' h2 k4 (by rw [k6]; exact hv') w h1 k1 (by rw [k3]; exact hv) (by omega) with h | ⟨q, q1, q2, q3⟩
      · rw [← k6, h, k3]
      · rw [k6] at q3
        exact Y.lock hv hc m q v' (by omega) (by omega) q3 hv'
/-- No two nodes decide otherwise. -/
theorem Sys.agree (Y : Sys n t As H) {a b : ASt} (ha : a ∈ As) (hb : b ∈ As) (hd : a.done = true) (hd' : b.done = true) : a.dec = b.dec := by
  obtain ⟨i, hi⟩ := List.mem_iff_getElem?.1 ha
  obtain ⟨j, hj⟩ := List.mem_iff_getElem?.1 hb
  obtain ⟨v1, r, hq⟩ := (Y.hs i a hi).d hd
  obtain ⟨v2, r', hq'⟩ := (Y.hs j b hj).d hd'
  have P : Polka As 3 r a.dec := ⟨a, ha, hq⟩
  have P' : Polka As 3 r' b.dec := ⟨b, hb, hq'⟩
  rcases Int.le_total r r' with h | h
  · exact (Y.lock v1 P _ r' b.dec h (Nat.lt_succ_self _) (Y.pre v2 P') v2).symm
  · exact Y.lock v2 P' _ r a.dec h (Nat.lt_succ_self _) (Y.pre v1 P) v1
theorem Sys.some (Y : Sys n t As H) {a : ASt} (ha : a ∈ As) (hd : a.done = true) : a.dec ≠ VoteM.empty := by
  obtain ⟨i, hi⟩ := List.mem_iff_getElem?.1 ha
  exact ((Y.hs i a hi).d hd).1
end
/-- One that has not begun. -/
theorem hst_new {Pk : Int → ByteArray → Prop} {n t me h : Int} {v : ByteArray} (hk : okA n t me h v = true) : Hst Pk (newA n t me h v) [] := by
  have hq : 0 < quorum n t := by
    have W := (newA_wf hk).v
    have W : VoteM.Wf n t [] := W
    have := W.t0; have := W.n0
    have e := quorum_of W
    omega
  refine ⟨fun r v hc => ?_, by simp, .nil, by simp, fun h => ?_, fun h => ?_, by simp, by simp, fun h => ?_⟩
  · have hc : quorum n t ≤ 0 := hc
    omega
  · have h : (0 : Int) ≤ -1 := h
    omega
  · have h : (0 : Int) = 1 := h
    omega
  · exact absurd (show false = true from h) (by decide)
theorem start_hst {Pk : Int → ByteArray → Prop} {a : ASt} {H : List Wrd} (W : a.Wf) (T : Hst Pk a H) : Hst Pk a.start (H ++ a.startO) := by
  unfold ASt.start ASt.startO
  split
  · simpa using T
  · exact T.begin W (by omega) (by omega)
theorem start_same (a : ASt) : Same a a.start := by
  unfold ASt.start
  split
  · exact .refl a
  · exact begin_same a 0
end Go.Proofs.Ytboibdmflblphaa.AgrM
