/-
  AN AGREEMENT, AS PLAIN FUNCTIONS. No program is in sight.
-/
import Derived.Test.YtboibdmflblphaaVoteM
namespace Go.Proofs.Ytboibdmflblphaa.AgrM
open VoteM

/-- A node's part. -/
structure ASt where
  n : Int
  t : Int
  me : Int
  h : Int
  own : ByteArray
  round : Int
  step : Int
  lock : ByteArray
  lockR : Int
  val : ByteArray
  valR : Int
  Ps : List Wrd
  L : List Wrd
  seen : Bool
  done : Bool
  dec : ByteArray

def leader (n h r : Int) : Int := if n < 1 ∨ 7 < n ∨ h < 0 ∨ 64 < h ∨ r < 0 ∨ 64 < r then 0 else (h + r) % n + 1
def zeroW : Wrd := ⟨0, 0, 0, 0, VoteM.empty⟩
/-- The proposal of a round; with the value "": none. -/
def propL (Ps : List Wrd) (r : Int) : Wrd := (Ps.find? fun w => decide (w.round = r)).getD zeroW
def okA (n t me h : Int) (v : ByteArray) : Bool := decide (quorum n t ≠ 0) && decide (1 ≤ me ∧ me ≤ n ∧ 0 ≤ h ∧ h ≤ 64 ∧ v ≠ VoteM.empty ∧ v.size ≤ 4096)
def newA (n t me h : Int) (v : ByteArray) : ASt := ⟨n, t, me, h, v, -1, 0, VoteM.empty, -1, VoteM.empty, -1, [], [], false, false, VoteM.empty⟩

def checkW (w : Wrd) : Bool := ((decide (w.kind = 1) && decide (-1 ≤ w.valid ∧ w.valid < w.round ∧ w.value ≠ VoteM.empty)) || (decide (w.kind = 2 ∨ w.kind = 3) && decide (w.valid = 0))) &&
  decide (1 ≤ w.frm ∧ w.frm ≤ 7 ∧ 0 ≤ w.round ∧ w.round < 64 ∧ w.value.size ≤ 4096)

/-- Is a value that of a quorum? -/
def ASt.is (a : ASt) (k r : Int) (v : ByteArray) : Bool := (mostV a.n a.t a.L k r).isSome && decide ((mostV a.n a.t a.L k r).getD VoteM.empty = v)
def ASt.begin (a : ASt) (r : Int) : ASt := if 64 ≤ r then a else { a with round := r, step := 1, seen := false }
def ASt.beginO (a : ASt) (r : Int) : List Wrd := if 64 ≤ r ∨ leader a.n a.h r ≠ a.me then [] else [⟨1, a.me, r, a.valR, if a.valR < 0 then a.own else a.val⟩]
def ASt.vote (a : ASt) (k : Int) : ASt := { a with step := if k = 3 then 3 else 2 }
def ASt.voteO (a : ASt) (k : Int) (v : ByteArray) : List Wrd := [⟨k, a.me, a.round, 0, v⟩]
def ASt.decOk (a : ASt) (r : Int) : Bool := decide ((propL a.Ps r).value ≠ VoteM.empty) && a.is 3 r (propL a.Ps r).value
def decF (a : ASt) : Nat → Nat → Option ByteArray
  | 0, _ => none
  | k + 1, r => if a.decOk r = true then some (propL a.Ps r).value else decF a k (r + 1)
/-- Rule 1. -/
def ASt.decide1 (a : ASt) : Option ByteArray := decF a 64 0
def ASt.now (a : ASt) : Wrd := propL a.Ps a.round
def ASt.pv (a : ASt) : Bool := decide (a.step = 1 ∧ a.now.value ≠ VoteM.empty) && (decide (a.now.valid < 0) || a.is 2 a.now.valid a.now.value)
def ASt.free (a : ASt) : Bool := decide (a.lockR < 0) || decide (a.lock = a.now.value) || (decide (0 ≤ a.now.valid) && decide (a.lockR ≤ a.now.valid))
def ASt.pc (a : ASt) : Bool := decide (a.step ≠ 1 ∧ a.now.value ≠ VoteM.empty) && !a.seen && a.is 2 a.round a.now.value
def ASt.nil (a : ASt) : Bool := decide (a.step = 2) && a.is 2 a.round VoteM.empty
/-- Rule 5 makes a value the valid one, and locks it. -/
def ASt.lock5 (a : ASt) : ASt :=
  if a.step = 2 then { a with seen := true, val := a.now.value, valR := a.round, lock := a.now.value, lockR := a.round, step := 3 } else { a with seen := true, val := a.now.value, valR := a.round }
def ASt.rule (a : ASt) : Option (ASt × List Wrd) :=
  match a.decide1 with
  | some v => some ({ a with done := true, dec := v }, [])
  | none =>
    if a.round < aheadV a.n a.t a.L a.round then some (a.begin (aheadV a.n a.t a.L a.round), a.beginO (aheadV a.n a.t a.L a.round))
    else if a.pv = true then some (a.vote 2, a.voteO 2 (if a.free = true then a.now.value else VoteM.empty))
    else if a.pc = true then some (a.lock5, if a.step = 2 then a.voteO 3 a.now.value else [])
    else if a.nil = true then some (a.vote 3, a.voteO 3 VoteM.empty)
    else none
def runF : Nat → ASt → ASt × List Wrd
  | 0, a => (a, [])
  | k + 1, a => if a.done = true then (a, []) else match a.rule with
    | none => (a, [])
    | some (b, o) => ((runF k b).1, o ++ (runF k b).2)
/-- How many rules may yet apply. -/
def ASt.left (a : ASt) : Nat := (64 - a.round).toNat * 8 + (3 - a.step).toNat * 2 + (if a.seen = true then 0 else 1) + (if a.done = true then 0 else 1)
def ASt.run (a : ASt) : ASt × List Wrd := runF (a.left + 1) a

def ASt.timeout (a : ASt) (s : Int) : ASt × List Wrd :=
  if s = 3 then (a.begin (a.round + 1), a.beginO (a.round + 1))
  else if s ≠ a.step then (a, [])
  else if s = 1 then (a.vote 2, a.voteO 2 VoteM.empty)
  else if s = 2 then (a.vote 3, a.voteO 3 VoteM.empty) else (a, [])
/-- Does a word count? -/
def ASt.cnt (a : ASt) (w : Wrd) : Bool :=
  if w.kind = 4 then decide (w.round = a.round ∧ 1 ≤ w.valid ∧ w.valid ≤ 3)
  else checkW w && (if w.kind = 1 then decide ((propL a.Ps w.round).value = VoteM.empty ∧ w.frm = leader a.n a.h w.round) else okV a.n a.L w)
def ASt.count (a : ASt) (w : Wrd) : ASt × List Wrd :=
  if w.kind = 4 then a.timeout w.valid else if w.kind = 1 then ({ a with Ps := a.Ps ++ [w] }, []) else ({ a with L := a.L ++ [w] }, [])
def ASt.take (a : ASt) (w : Wrd) : ASt × List Wrd :=
  if a.round < 0 ∨ a.done = true then (a, [])
  else if a.cnt w = true then (((a.count w).1.run).1, (a.count w).2 ++ ((a.count w).1.run).2) else (a, [])
def ASt.start (a : ASt) : ASt := if 0 ≤ a.round then a else a.begin 0
def ASt.startO (a : ASt) : List Wrd := if 0 ≤ a.round then [] else a.beginO 0

/-- What holds always. -/
structure ASt.Wf (a : ASt) : Prop where
  q : quorum a.n a.t ≠ 0
  v : VoteM.Wf a.n a.t a.L
  m0 : 1 ≤ a.me
  m1 : a.me ≤ a.n
  h0 : 0 ≤ a.h
  h1 : a.h ≤ 64
  o0 : a.own ≠ VoteM.empty
  o1 : a.own.size ≤ 4096
  r0 : -1 ≤ a.round
  r1 : a.round < 64
  s : (a.round = -1 ∧ a.step = 0) ∨ (0 ≤ a.round ∧ 1 ≤ a.step ∧ a.step ≤ 3)
  l0 : -1 ≤ a.lockR
  l1 : a.lockR ≤ a.round
  v0 : -1 ≤ a.valR
  v1 : a.valR ≤ a.round
  v2 : 0 ≤ a.valR → a.val ≠ VoteM.empty ∧ a.val.size ≤ 4096
  p : ∀ w ∈ a.Ps, checkW w = true ∧ w.kind = 1 ∧ w.frm = leader a.n a.h w.round
  pn : (a.Ps.map (·.round)).Nodup

theorem check_spec {w : Wrd} (h : checkW w = true) : ((w.kind = 1 ∧ -1 ≤ w.valid ∧ w.valid < w.round ∧ w.value ≠ VoteM.empty) ∨ ((w.kind = 2 ∨ w.kind = 3) ∧ w.valid = 0)) ∧ 1 ≤ w.frm ∧ w.frm ≤ 7 ∧ 0 ≤ w.round ∧ w.round < 64 ∧ w.value.size ≤ 4096 := by
  simpa [checkW, and_assoc] using h
theorem prop_mem {Ps : List Wrd} {r : Int} (h : (propL Ps r).value ≠ VoteM.empty) : propL Ps r ∈ Ps ∧ (propL Ps r).round = r := by
  unfold propL at h ⊢
  cases hf : Ps.find? fun w => decide (w.round = r) with
  | none => rw [hf] at h; exact absurd rfl h
  | some w => exact ⟨List.mem_of_find?_eq_some hf, by simpa using List.find?_some hf⟩
theorem decF_spec {a : ASt} {v : ByteArray} : ∀ {k r : Nat}, decF a k r = some v → ∃ q : Nat, r ≤ q ∧ q < r + k ∧ a.decOk q = true ∧ v = (propL a.Ps q).value
  | 0, r, h => by simp [decF] at h
  | k + 1, r, h => by
    simp only [decF] at h
    split at h
    · rename_i hd
      exact ⟨r, Nat.le_refl _, by omega, hd, by simpa using h.symm⟩
    · obtain ⟨q, h1, h2, h3, h4⟩ := decF_spec h
      exact ⟨q, by omega, by omega, h3, h4⟩
theorem dec_spec {a : ASt} {v : ByteArray} (h : a.decide1 = some v) : ∃ q : Int, 0 ≤ q ∧ q < 64 ∧ (propL a.Ps q).value ≠ VoteM.empty ∧ a.is 3 q (propL a.Ps q).value = true ∧ v = (propL a.Ps q).value := by
  obtain ⟨q, h1, h2, h3, h4⟩ := decF_spec h
  simp only [ASt.decOk, Bool.and_eq_true, decide_eq_true_eq] at h3
  exact ⟨q, by omega, by omega, h3.1, h3.2, h4⟩
theorem is_spec {a : ASt} {k r : Int} {v : ByteArray} (h : a.is k r v = true) : mostV a.n a.t a.L k r = some v := by
  simp only [ASt.is, Bool.and_eq_true, decide_eq_true_eq] at h
  obtain ⟨h1, h2⟩ := h
  cases hm : mostV a.n a.t a.L k r with
  | none => rw [hm] at h1; cases h1
  | some u => rw [hm] at h2; rw [← h2]; rfl
/-- The rules, one by one. -/
inductive Rul (a : ASt) : ASt → List Wrd → Prop
  | dec (q : Int) (h0 : 0 ≤ q) (h1 : q < 64) (hp : (propL a.Ps q).value ≠ VoteM.empty) (hm : mostV a.n a.t a.L 3 q = some (propL a.Ps q).value) : Rul a { a with done := true, dec := (propL a.Ps q).value } []
  | ahead (h : a.round < aheadV a.n a.t a.L a.round) : Rul a (a.begin (aheadV a.n a.t a.L a.round)) (a.beginO (aheadV a.n a.t a.L a.round))
  | pv (hn : ¬ a.round < aheadV a.n a.t a.L a.round) (hs : a.step = 1) (hp : a.now.value ≠ VoteM.empty) (hv : a.now.valid < 0 ∨ mostV a.n a.t a.L 2 a.now.valid = some a.now.value) : Rul a (a.vote 2) (a.voteO 2 (if a.free = true then a.now.value else VoteM.empty))
  | pc (hn : ¬ a.round < aheadV a.n a.t a.L a.round) (hs : a.step ≠ 1) (hp : a.now.value ≠ VoteM.empty) (he : a.seen = false) (hm : mostV a.n a.t a.L 2 a.round = some a.now.value) : Rul a a.lock5 (if a.step = 2 then a.voteO 3 a.now.value else [])
  | nil (hn : ¬ a.round < aheadV a.n a.t a.L a.round) (hs : a.step = 2) (hm : mostV a.n a.t a.L 2 a.round = some VoteM.empty) : Rul a (a.vote 3) (a.voteO 3 VoteM.empty)
theorem rule_spec {a b : ASt} {o : List Wrd} (h : a.rule = some (b, o)) : Rul a b o := by
  unfold ASt.rule at h
  split at h
  · rename_i v hv
    obtain ⟨q, h0, h1, h2, h3, rfl⟩ := dec_spec hv
    simp only [Option.some.injEq, Prod.mk.injEq] at h
    obtain ⟨rfl, rfl⟩ := h
    exact .dec q h0 h1 h2 (is_spec h3)
  · split at h
    · rename_i hr
      simp only [Option.some.injEq, Prod.mk.injEq] at h
      obtain ⟨rfl, rfl⟩ := h
      exact .ahead hr
    · rename_i hn
      split at h
      · rename_i hp
        simp only [Option.some.injEq, Prod.mk.injEq] at h
        obtain ⟨rfl, rfl⟩ := h
        simp only [ASt.pv, Bool.and_eq_true, Bool.or_eq_true, decide_eq_true_eq] at hp
        exact .pv hn hp.1.1 hp.1.2 (hp.2.imp id is_spec)
      · split at h
        · rename_i hp
          simp only [Option.some.injEq, Prod.mk.injEq] at h
          obtain ⟨rfl, rfl⟩ := h
          simp only [ASt.pc, Bool.and_eq_true, decide_eq_true_eq, Bool.not_eq_true'] at hp
          exact .pc hn hp.1.1.1 hp.1.1.2 hp.1.2 (is_spec hp.2)
        · split at h
          · rename_i hp
            simp only [Option.some.injEq, Prod.mk.injEq] at h
            obtain ⟨rfl, rfl⟩ := h
            simp only [ASt.nil, Bool.and_eq_true, decide_eq_true_eq] at hp
            exact .nil hn hp.1 (is_spec hp.2)
          · cases h
theorem ASt.Wf.begin {a : ASt} (W : a.Wf) {r : Int} (h : a.round < r) (h0 : 0 ≤ r) : (a.begin r).Wf := by
  unfold ASt.begin
  split
  · exact W
  · exact { W with r0 := by show -1 ≤ r; omega, r1 := by show r < 64; omega, s := .inr ⟨h0, by show (1 : Int) ≤ 1; decide, by show (1 : Int) ≤ 3; decide⟩, l1 := by have := W.l1; show a.lockR ≤ r; omega, v1 := by have := W.v1; show a.valR ≤ r; omega }
theorem ASt.Wf.vote {a : ASt} (W : a.Wf) (h0 : 0 ≤ a.round) (k : Int) : (a.vote k).Wf :=
  { W with s := .inr ⟨h0, by show 1 ≤ (if k = 3 then 3 else 2 : Int); split <;> decide, by show (if k = 3 then 3 else 2 : Int) ≤ 3; split <;> decide⟩ }
theorem now_ok {a : ASt} (W : a.Wf) (h : a.now.value ≠ VoteM.empty) : checkW a.now = true ∧ a.now.round = a.round ∧ a.now ∈ a.Ps := by
  obtain ⟨h1, h2⟩ := prop_mem h
  exact ⟨(W.p _ h1).1, h2, h1⟩
theorem Rul.wf {a b : ASt} {o : List Wrd} (R : Rul a b o) (W : a.Wf) (h0 : 0 ≤ a.round) : b.Wf ∧ a.round ≤ b.round := by
  cases R with
  | dec q => exact ⟨{ W with }, Int.le_refl _⟩
  | ahead h =>
    refine ⟨W.begin h (by omega), ?_⟩
    unfold ASt.begin
    split
    · exact Int.le_refl _
    · show a.round ≤ aheadV a.n a.t a.L a.round
      omega
  | pv => exact ⟨W.vote h0 2, Int.le_refl _⟩
  | pc hn hs hp he hm =>
    have hc := (check_spec (now_ok W hp).1).2
    unfold ASt.lock5
    split
    · exact ⟨{ W with s := .inr ⟨h0, by show (1 : Int) ≤ 3; decide, by show (3 : Int) ≤ 3; decide⟩, l0 := by show -1 ≤ a.round; omega, l1 := Int.le_refl _, v0 := by show -1 ≤ a.round; omega, v1 := Int.le_refl _, v2 := fun _ => ⟨hp, hc.2.2.2.2⟩ }, Int.le_refl _⟩
    · exact ⟨{ W with v0 := by show -1 ≤ a.round; omega, v1 := Int.le_refl _, v2 := fun _ => ⟨hp, hc.2.2.2.2⟩ }, Int.le_refl _⟩
  | nil => exact ⟨W.vote h0 3, Int.le_refl _⟩
theorem Rul.left {a b : ASt} {o : List Wrd} (R : Rul a b o) (W : a.Wf) (h0 : 0 ≤ a.round) (hd : a.done = false) : b.left < a.left := by
  have hs := W.s
  have hr1 := W.r1
  cases R with
  | dec q => simp [ASt.left, hd]
  | ahead h =>
    have ha := (ahead_rng a.n a.t a.L a.round).2
    have e : a.begin (aheadV a.n a.t a.L a.round) = { a with round := aheadV a.n a.t a.L a.round, step := 1, seen := false } := if_neg (by omega)
    rw [e]
    simp only [ASt.left, hd, Bool.false_eq_true, if_false]
    split <;> omega
  | pv hn hs =>
    have e : (a.vote 2).step = 2 := rfl
    have e2 : (a.vote 2).round = a.round ∧ (a.vote 2).seen = a.seen ∧ (a.vote 2).done = a.done := ⟨rfl, rfl, rfl⟩
    unfold ASt.left
    rw [e, e2.1, e2.2.1, e2.2.2]; omega
  | pc hn hs hp he hm =>
    unfold ASt.lock5
    split
    · simp only [ASt.left, he, if_true, Bool.false_eq_true, if_false]; omega
    · simp only [ASt.left, he, if_true, Bool.false_eq_true, if_false]; omega
  | nil hn hs =>
    have e : (a.vote 3).step = 3 := rfl
    have e2 : (a.vote 3).round = a.round ∧ (a.vote 3).seen = a.seen ∧ (a.vote 3).done = a.done := ⟨rfl, rfl, rfl⟩
    unfold ASt.left
    rw [e, e2.1, e2.2.1, e2.2.2]; omega
theorem runF_more : ∀ {k k' : Nat} {a : ASt}, a.Wf → 0 ≤ a.round → a.left < k → a.left < k' → runF k a = runF k' a
  | 0, _, _, _, _, h, _ => by omega
  | _ + 1, 0, _, _, _, _, h => by omega
  | k + 1, k' + 1, a, W, h0, h, h' => by
    simp only [runF]
    split
    · rfl
    · rename_i hd
      split
      · rfl
      · rename_i b o hb
        have R := rule_spec hb
        have hl := R.left W h0 (by simpa using hd)
        obtain ⟨W', h1⟩ := R.wf W h0
        rw [runF_more (k := k) (k' := k') W' (by omega) (by omega) (by omega)]
theorem run_done {a : ASt} (h : a.done = true) : a.run = (a, []) := by
  unfold ASt.run
  simp only [runF]
  rw [if_pos h]
theorem run_stop {a : ASt} (h : a.rule = none) : a.run = (a, []) := by
  unfold ASt.run
  simp only [runF]
  split
  · rfl
  · rw [h]
theorem run_step {a b : ASt} {o : List Wrd} (W : a.Wf) (h0 : 0 ≤ a.round) (hd : a.done = false) (h : a.rule = some (b, o)) : a.run = (b.run.1, o ++ b.run.2) := by
  have R := rule_spec h
  have hl := R.left W h0 hd
  obtain ⟨W', h1⟩ := R.wf W h0
  have e : a.run = ((runF a.left b).1, o ++ (runF a.left b).2) := by
    unfold ASt.run
    simp only [runF]
    rw [if_neg (by rw [hd]; simp), h]
  rw [e, runF_more (k := a.left) (k' := b.left + 1) W' (by omega) hl (by omega)]
  rfl
/-- A chain of rules. -/
theorem run_ind {Q : ASt → ASt → List Wrd → Prop} (h1 : ∀ a, a.Wf → 0 ≤ a.round → Q a a []) (h2 : ∀ a b c o o', a.Wf → 0 ≤ a.round → a.done = false → Rul a b o → b.Wf → Q b c o' → Q a c (o ++ o')) :
    ∀ (k : Nat) (a : ASt), a.left < k → a.Wf → 0 ≤ a.round → Q a a.run.1 a.run.2
  | 0, _, h, _, _ => by omega
  | k + 1, a, h, W, h0 => by
    by_cases hd : a.done = true
    · rw [run_done hd]; exact h1 a W h0
    · have hd' : a.done = false := by simpa using hd
      cases hr : a.rule with
      | none => rw [run_stop hr]; exact h1 a W h0
      | some x =>
        obtain ⟨b, o⟩ := x
        have R := rule_spec hr
        obtain ⟨W', h3⟩ := R.wf W h0
        have hl := R.left W h0 hd'
        rw [run_step W h0 hd' hr]
        exact h2 a b _ o _ W h0 hd' R W' (run_ind h1 h2 k b (by omega) W' (by omega))
theorem run_q {Q : ASt → ASt → List Wrd → Prop} {a : ASt} (W : a.Wf) (h0 : 0 ≤ a.round) (h1 : ∀ a, a.Wf → 0 ≤ a.round → Q a a []) (h2 : ∀ a b c o o', a.Wf → 0 ≤ a.round → a.done = false → Rul a b o → b.Wf → Q b c o' → Q a c (o ++ o')) : Q a a.run.1 a.run.2 :=
  run_ind h1 h2 (a.left + 1) a (Nat.lt_succ_self _) W h0
theorem run_wf {a : ASt} (W : a.Wf) (h0 : 0 ≤ a.round) : a.run.1.Wf ∧ a.round ≤ a.run.1.round :=
  run_q (Q := fun a b _ => b.Wf ∧ a.round ≤ b.round) W h0 (fun a W _ => ⟨W, Int.le_refl _⟩) fun a b c o o' W h0 _ R W' h => ⟨h.1, Int.le_trans (R.wf W h0).2 h.2⟩

theorem newA_wf {n t me h : Int} {v : ByteArray} (hk : okA n t me h v = true) : (newA n t me h v).Wf := by
  simp only [okA, Bool.and_eq_true, decide_eq_true_eq] at hk
  obtain ⟨hq, h1, h2, h3, h4, h5, h6⟩ := hk
  have d1 : (-1 : Int) ≤ -1 := by decide
  have d2 : (-1 : Int) < 64 := by decide
  exact ⟨hq, .nil hq, h1, h2, h3, h4, h5, h6, d1, d2, .inl ⟨rfl, rfl⟩, d1, d1, d1, d1, fun h => by simp [newA] at h, fun w hw => by simp [newA] at hw, by simp [newA]⟩
theorem timeout_wf {a : ASt} (W : a.Wf) (h0 : 0 ≤ a.round) (s : Int) : (a.timeout s).1.Wf ∧ a.round ≤ (a.timeout s).1.round := by
  unfold ASt.timeout
  split
  · refine ⟨W.begin (by omega) (by omega), ?_⟩
    unfold ASt.begin
    split
    · exact Int.le_refl _
    · show a.round ≤ a.round + 1; omega
  · split
    · exact ⟨W, Int.le_refl _⟩
    · split
      · exact ⟨W.vote h0 2, Int.le_refl _⟩
      · split
        · exact ⟨W.vote h0 3, Int.le_refl _⟩
        · exact ⟨W, Int.le_refl _⟩
theorem prop_none {Ps : List Wrd} {r : Int} (hp : ∀ w ∈ Ps, w.value ≠ VoteM.empty) (h : (propL Ps r).value = VoteM.empty) : ∀ w ∈ Ps, w.round ≠ r := by
  intro w hw e
  unfold propL at h
  cases hf : Ps.find? fun w => decide (w.round = r) with
  | none => exact absurd e (by simpa using List.find?_eq_none.1 hf w hw)
  | some x => rw [hf] at h; exact hp x (List.mem_of_find?_eq_some hf) h
theorem prop_ne {a : ASt} (W : a.Wf) : ∀ w ∈ a.Ps, w.value ≠ VoteM.empty := fun w hw => by
  obtain ⟨h1, h2, _⟩ := W.p w hw
  rcases (check_spec h1).1 with h | h
  · exact h.2.2.2
  · omega
theorem prop_snoc {Ps : List Wrd} {w : Wrd} (hp : ∀ w ∈ Ps, w.value ≠ VoteM.empty) (h : (propL Ps w.round).value = VoteM.empty) (r : Int) : propL (Ps ++ [w]) r = if r = w.round then w else propL Ps r := by
  have hn := prop_none hp h
  unfold propL
  rw [List.find?_append]
  by_cases e : r = w.round
  · subst e
    have : Ps.find? (fun x => decide (x.round = w.round)) = none := List.find?_eq_none.2 (by simpa using hn)
    rw [this, if_pos rfl]
    simp
  · rw [if_neg e]
    cases hf : Ps.find? fun x => decide (x.round = r) with
    | none => simp [Ne.symm e]
    | some x => simp
theorem count_wf {a : ASt} {w : Wrd} (W : a.Wf) (h0 : 0 ≤ a.round) (h : a.cnt w = true) : (a.count w).1.Wf ∧ a.round ≤ (a.count w).1.round := by
  unfold ASt.cnt at h
  unfold ASt.count
  split at h
  · rename_i hk
    rw [if_pos hk]
    exact timeout_wf W h0 w.valid
  · rename_i hk
    rw [if_neg hk]
    simp only [Bool.and_eq_true] at h
    obtain ⟨hc, h⟩ := h
    split at h
    · rename_i hk1
      rw [if_pos hk1]
      simp only [decide_eq_true_eq] at h
      refine ⟨{ W with p := fun x hx => ?_, pn := ?_ }, Int.le_refl _⟩
      · rcases List.mem_append.1 hx with hx | hx
        · exact W.p x hx
        · simp only [List.mem_singleton] at hx
          subst hx
          exact ⟨hc, hk1, h.2⟩
      · have hn := prop_none (prop_ne W) h.1
        show ((a.Ps ++ [w]).map (·.round)).Nodup
        rw [List.map_append, List.nodup_append]
        refine ⟨W.pn, by simp, fun x hx y hy e => ?_⟩
        obtain ⟨z, hz, rfl⟩ := List.mem_map.1 hx
        simp only [List.map_cons, List.map_nil, List.mem_singleton] at hy
        exact hn z hz (e.trans hy)
    · rename_i hk1
      rw [if_neg hk1]
      exact ⟨{ W with v := W.v.snoc h }, Int.le_refl _⟩
theorem start_wf {a : ASt} (W : a.Wf) : a.start.Wf ∧ 0 ≤ a.start.round := by
  unfold ASt.start
  split
  · exact ⟨W, by assumption⟩
  · refine ⟨W.begin (by omega) (by omega), ?_⟩
    unfold ASt.begin
    rw [if_neg (by decide)]
    exact Int.le_refl _
theorem take_wf {a : ASt} (W : a.Wf) (w : Wrd) : (a.take w).1.Wf ∧ a.round ≤ (a.take w).1.round := by
  unfold ASt.take
  split
  · exact ⟨W, Int.le_refl _⟩
  · split
    · rename_i h1 h2
      obtain ⟨W1, h3⟩ := count_wf W (by omega) h2
      obtain ⟨W2, h4⟩ := run_wf W1 (by omega)
      exact ⟨W2, Int.le_trans h3 h4⟩
    · exact ⟨W, Int.le_refl _⟩
end Go.Proofs.Ytboibdmflblphaa.AgrM
