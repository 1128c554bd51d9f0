/-
  A CALM RUN: WHAT THE FIRST LEADER PROPOSED IS DECIDED. No program is in sight.
-/
import Derived.Test.YtboibdmflblphaaCouM
namespace Go.Proofs.Ytboibdmflblphaa.CouM
open VoteM AgrM

def prW (pr : Int) (v : ByteArray) : Wrd := ⟨1, pr, 0, -1, v⟩
def vtW (k j : Int) (v : ByteArray) : Wrd := ⟨k, j, 0, 0, v⟩
/-- A node in a calm run. -/
structure Pc (pr : Int) (v : ByteArray) (a : ASt) : Prop where
  W : a.Wf
  r : a.round = 0
  Ps : a.Ps = [] ∨ a.Ps = [prW pr v]
  L : ∀ w ∈ a.L, w = vtW w.kind w.frm v
  s1 : a.Ps = [] → a.step = 1
  lk : a.step = 1 → a.lockR = -1
  sn : a.seen = decide (a.step = 3)
  dn : a.done = true → a.dec = v
  dq : a.done = true → quorum a.n a.t ≤ cntV a.L 3 0 v
/-- Nothing more applies. -/
def Qt (a : ASt) : Prop := a.done = true ∨ a.rule = none

section
variable {pr : Int} {v : ByteArray} {a b : ASt}
theorem prop_pr {r : Int} (P : Pc pr v a) (h : (propL a.Ps r).value ≠ VoteM.empty) : a.Ps = [prW pr v] ∧ r = 0 ∧ propL a.Ps r = prW pr v := by
  rcases P.Ps with e | e
  · rw [e] at h
    exact absurd rfl h
  · obtain ⟨h1, h2⟩ := prop_mem h
    rw [e] at h1 h2
    have h3 := List.mem_singleton.1 h1
    rw [h3] at h2
    exact ⟨e, h2.symm, by rw [e]; exact h3⟩
theorem ahead_none (P : Pc pr v a) : ¬ 0 < aheadV a.n a.t a.L 0 := by
  have key : ∀ k : Nat, aheadF a.n a.t a.L 0 k = -1 := by
    intro k
    induction k with
    | zero => rfl
    | succ k ih =>
      simp only [aheadF]
      rw [if_neg, ih]
      rintro ⟨h1, h2⟩
      have h0 : whoV a.n a.L k = 0 := by
        unfold whoV
        rw [List.countP_eq_zero]
        intro i _ hv
        unfold votedV at hv
        obtain ⟨w, hw, he⟩ := List.any_eq_true.1 hv
        simp only [decide_eq_true_eq] at he
        have := P.L w hw
        rw [this] at he
        have h3 : (0 : Int) = k := he.1
        omega
      have := P.W.v.t0
      omega
  unfold aheadV
  rw [key]
  decide
/-- What a rule does. -/
structure Rc (v : ByteArray) (a b : ASt) (o : List Wrd) : Prop where
  Ps : b.Ps = a.Ps
  L : b.L = a.L
  me : b.me = a.me
  le : a.step ≤ b.step
  o1 : ∀ k, a.step < k → k ≤ b.step → vtW k a.me v ∈ o
  o2 : ∀ w ∈ o, ∃ k, a.step < k ∧ k ≤ b.step ∧ w = vtW k a.me v
  o3 : (o.length : Int) = b.step - a.step
theorem Rc.refl (a : ASt) : Rc v a a [] := ⟨rfl, rfl, rfl, Int.le_refl _, fun k h1 h2 => (by omega), fun w hw => (by cases hw), by simp⟩
theorem Rc.trans {c : ASt} {o o' : List Wrd} (h : Rc v a b o) (h' : Rc v b c o') : Rc v a c (o ++ o') := by
  have h1 := h.le
  have h2 := h'.le
  refine ⟨h'.Ps.trans h.Ps, h'.L.trans h.L, h'.me.trans h.me, Int.le_trans h1 h2, fun k k1 k2 => ?_, fun w hw => ?_, ?_⟩
  · rcases Int.lt_or_le b.step k with hk | hk
    · have := h'.o1 k hk k2
      rw [h.me] at this
      exact List.mem_append_right _ this
    · exact List.mem_append_left _ (h.o1 k k1 hk)
  · rcases List.mem_append.1 hw with hw | hw
    · obtain ⟨k, k1, k2, e⟩ := h.o2 w hw
      exact ⟨k, k1, by omega, e⟩
    · obtain ⟨k, k1, k2, e⟩ := h'.o2 w hw
      rw [h.me] at e
      exact ⟨k, by omega, k2, e⟩
  · rw [List.length_append]
    have := h.o3
    have := h'.o3
    omega
theorem rc_one {k : Int} {o : List Wrd} (hk : b.step = a.step + 1) (hP : b.Ps = a.Ps) (hL : b.L = a.L) (hm : b.me = a.me) (ho : o = [vtW b.step a.me v]) : Rc v a b o := by
  refine ⟨hP, hL, hm, by omega, fun k k1 k2 => ?_, fun w hw => ?_, by rw [ho]; simp; omega⟩
  · obtain rfl : k = b.step := by omega
    rw [ho]; exact List.mem_singleton.2 rfl
  · rw [ho] at hw
    exact ⟨b.step, by omega, Int.le_refl _, List.mem_singleton.1 hw⟩
theorem rul_c {o : List Wrd} (hv : v ≠ VoteM.empty) (P : Pc pr v a) (R : Rul a b o) (hd : a.done = false) : Pc pr v b ∧ Rc v a b o := by
  have hW := (R.wf P.W (by rw [P.r]; decide)).1
  have S := P.W.s
  have hr := P.r
  cases R with
  | dec q h0 h1 hp hm =>
    obtain ⟨e1, e2, e3⟩ := prop_pr P hp
    refine ⟨⟨hW, P.r, P.Ps, P.L, P.s1, P.lk, P.sn, fun _ => ?_, fun _ => ?_⟩, ⟨rfl, rfl, rfl, Int.le_refl _, fun k k1 k2 => ?_, fun w hw => (by cases hw), by simp⟩⟩
    · show (propL a.Ps q).value = v
      rw [e3]; rfl
    · have := (most_some hm).1
      rw [e3, e2] at this
      exact this
    · have k2 : k ≤ a.step := k2
      omega
  | ahead h =>
    rw [P.r] at h
    exact absurd h (ahead_none P)
  | pv hn hs hp hv' =>
    obtain ⟨e1, e2, e3⟩ := prop_pr P hp
    have hf : a.free = true := by
      have := P.lk hs
      unfold ASt.free
      rw [decide_eq_true (by omega : a.lockR < 0)]
      rfl
    have hnow : a.now.value = v := by
      unfold ASt.now
      rw [e3]; rfl
    have hst : (a.vote 2).step = 2 := rfl
    refine ⟨⟨hW, P.r, P.Ps, P.L, fun h => ?_, fun h => ?_, ?_, fun h => ?_, fun h => ?_⟩, rc_one (k := 2) (by rw [hst, hs]; rfl) rfl rfl rfl ?_⟩
    · have h : a.Ps = [] := h
      rw [e1] at h; cases h
    · rw [hst] at h; omega
    · show a.seen = decide ((a.vote 2).step = 3)
      rw [P.sn, hs, hst]; rfl
    · have h : a.done = true := h
      rw [hd] at h; cases h
    · have h : a.done = true := h
      rw [hd] at h; cases h
    · rw [if_pos hf, hnow]
      unfold ASt.voteO vtW
      rw [hr]; rfl
  | pc hn hs hp he hm =>
    obtain ⟨e1, e2, e3⟩ := prop_pr P hp
    have h3 : a.step ≠ 3 := fun h => by
      have := P.sn
      rw [he, h] at this
      cases this
    have h2 : a.step = 2 := by omega
    have hl : a.lock5 = { a with seen := true, val := a.now.value, valR := a.round, lock := a.now.value, lockR := a.round, step := 3 } := if_pos h2
    have hnow : a.now.value = v := by
      unfold ASt.now
      rw [e3]; rfl
    rw [hl] at hW ⊢
    rw [if_pos h2]
    refine ⟨⟨hW, P.r, P.Ps, P.L, fun h => ?_, fun h => ?_, rfl, fun h => ?_, fun h => ?_⟩, rc_one (k := 3) (by show (3 : Int) = a.step + 1; omega) rfl rfl rfl ?_⟩
    · have h : a.Ps = [] := h
      rw [e1] at h; cases h
    · exact absurd (show (3 : Int) = 1 from h) (by decide)
    · have h : a.done = true := h
      rw [hd] at h; cases h
    · have h : a.done = true := h
      rw [hd] at h; cases h
    · rw [hnow]
      unfold ASt.voteO vtW
      rw [hr]
  | nil hn hs hm =>
    obtain ⟨_, w, hw, _, _, h3⟩ := most_some hm
    have := P.L w hw
    rw [this] at h3
    exact absurd h3 hv
theorem run_c (hv : v ≠ VoteM.empty) : ∀ (k : Nat) (a : ASt), a.left < k → Pc pr v a → Pc pr v a.run.1 ∧ Rc v a a.run.1 a.run.2 ∧ Qt a.run.1
  | 0, _, h, _ => by omega
  | k + 1, a, h, P => by
    cases hd : a.done
    · cases hr : a.rule with
      | none => rw [run_stop hr]; exact ⟨P, .refl a, .inr hr⟩
      | some x =>
        obtain ⟨b, o⟩ := x
        have R := rule_spec hr
        have h0 : 0 ≤ a.round := by rw [P.r]; decide
        have hl := R.left P.W h0 hd
        obtain ⟨P', C⟩ := rul_c hv P R hd
        obtain ⟨P2, C2, Q⟩ := run_c hv k b (by omega) P'
        rw [run_step P.W h0 hd hr]
        exact ⟨P2, C.trans C2, Q⟩
    · rw [run_done hd]
      exact ⟨P, .refl a, .inl hd⟩
/-- Words of a calm run. -/
def GoodW (m : Nat) (pr : Int) (v : ByteArray) (w : Wrd) : Prop := w = prW pr v ∨ ∃ k j : Int, (k = 2 ∨ k = 3) ∧ 1 ≤ j ∧ j ≤ (m : Int) ∧ w = vtW k j v
/-- What a word does. -/
structure Tc (v : ByteArray) (w : Wrd) (a b : ASt) (o : List Wrd) : Prop where
  me : b.me = a.me
  le : a.step ≤ b.step
  o1 : ∀ k, a.step < k → k ≤ b.step → vtW k a.me v ∈ o
  o2 : ∀ w ∈ o, ∃ k, a.step < k ∧ k ≤ b.step ∧ w = vtW k a.me v
  o3 : (o.length : Int) = b.step - a.step
  P : a.Ps ≠ [] → b.Ps ≠ []
  L : ∀ x ∈ a.L, x ∈ b.L
  wp : w.kind = 1 → b.Ps ≠ []
  wl : w.kind ≠ 1 → w ∈ b.L
  L2 : ∀ x ∈ b.L, x ∈ a.L ∨ (x = w ∧ w.kind ≠ 1)
theorem check_pr (hv : v ≠ VoteM.empty) (hs : v.size ≤ 4096) (h1 : 1 ≤ pr) (h7 : pr ≤ 7) : checkW (prW pr v) = true := by
  unfold checkW prW
  simp [hv, hs, h1, h7]
theorem check_vt {k j : Int} (hs : v.size ≤ 4096) (hk : k = 2 ∨ k = 3) (h1 : 1 ≤ j) (h7 : j ≤ 7) : checkW (vtW k j v) = true := by
  unfold checkW vtW
  rcases hk with rfl | rfl <;> simp [hs, h1, h7]
theorem take_cnt {w : Wrd} (P : Pc pr v a) (hd : a.done = false) (hc : a.cnt w = true) : a.take w = ((a.count w).1.run.1, (a.count w).2 ++ (a.count w).1.run.2) := by
  unfold ASt.take
  rw [if_neg (by rintro (h | h); rw [P.r] at h; exact absurd h (by decide); rw [hd] at h; cases h), if_pos hc]
theorem take_out {w : Wrd} (hc : a.cnt w = false) : a.take w = (a, []) := by
  unfold ASt.take
  split
  · rfl
  · rw [if_neg (by rw [hc]; decide)]
theorem take_c {m : Nat} {w : Wrd} (hv : v ≠ VoteM.empty) (hs : v.size ≤ 4096) (P : Pc pr v a) (Q : Qt a) (hd : a.done = false) (hp : pr = leader a.n a.h 0) (h1 : 1 ≤ pr) (h7 : pr ≤ 7) (hm : (m : Int) ≤ a.n) (n7 : a.n ≤ 7) (hw : GoodW m pr v w) :
    Pc pr v (a.take w).1 ∧ Qt (a.take w).1 ∧ Tc v w a (a.take w).1 (a.take w).2 := by
  have h0 : 0 ≤ a.round := by rw [P.r]; decide
  rcases hw with rfl | ⟨k, j, hk, j1, j2, rfl⟩
  · have hck := check_pr hv hs h1 h7
    have hcnt : a.cnt (prW pr v) = decide ((propL a.Ps 0).value = VoteM.empty ∧ pr = leader a.n a.h 0) := by
      unfold ASt.cnt
      rw [if_neg (show ¬ (prW pr v).kind = 4 from (by decide : ¬ (1 : Int) = 4)), hck, if_pos (show (prW pr v).kind = 1 from rfl)]
      rfl
    rcases P.Ps with e | e
    · have hc : a.cnt (prW pr v) = true := by
        rw [hcnt, e]
        exact decide_eq_true ⟨rfl, hp⟩
      have hct : a.count (prW pr v) = ({ a with Ps := a.Ps ++ [prW pr v] }, []) := by
        unfold ASt.count
        rw [if_neg (show ¬ (prW pr v).kind = 4 from (by decide : ¬ (1 : Int) = 4)), if_pos (show (prW pr v).kind = 1 from rfl)]
      have hW := (count_wf P.W h0 hc).1
      rw [hct] at hW
      have P' : Pc pr v { a with Ps := a.Ps ++ [prW pr v] } := ⟨hW, P.r, .inr (by rw [e]; rfl), P.L, fun h => (by rw [e] at h; cases h), P.lk, P.sn, P.dn, fun h => (by rw [show a.done = true from h] at hd; cases hd)⟩
      obtain ⟨P2, C, Q2⟩ := run_c hv _ _ (Nat.lt_succ_self _) P'
      rw [take_cnt P hd hc, hct]
      have hne : (a.Ps ++ [prW pr v]) ≠ [] := by rw [e]; simp
      refine ⟨P2, Q2, ⟨C.me, C.le, C.o1, C.o2, C.o3, fun _ => by rw [C.Ps]; exact hne, fun x hx => by rw [C.L]; exact hx, fun _ => by rw [C.Ps]; exact hne, fun h => absurd rfl h, fun x hx => .inl (by rw [C.L] at hx; exact hx)⟩⟩
    · have hc : a.cnt (prW pr v) = false := by
        rw [hcnt, e]
        refine decide_eq_false fun h => hv ?_
        exact h.1
      rw [take_out hc]
      have hne : a.Ps ≠ [] := by rw [e]; simp
      exact ⟨P, Q, ⟨rfl, Int.le_refl _, fun k k1 (k2 : k ≤ a.step) => (by omega), fun w hw => (by cases hw), by simp, fun _ => hne, fun x hx => hx, fun _ => hne, fun h => absurd rfl h, fun x hx => .inl hx⟩⟩
  · have hck := check_vt (v := v) hs hk j1 (by omega : j ≤ 7)
    have hk4 : ¬ (vtW k j v).kind = 4 := by show ¬ k = 4; omega
    have hk1 : ¬ (vtW k j v).kind = 1 := by show ¬ k = 1; omega
    have hcnt : a.cnt (vtW k j v) = okV a.n a.L (vtW k j v) := by
      unfold ASt.cnt
      rw [if_neg hk4, hck, if_neg hk1]
      rfl
    cases hc : a.cnt (vtW k j v)
    · rw [take_out hc]
      rw [hcnt] at hc
      have hmay : mayV a.n (vtW k j v) = true := by
        unfold mayV vtW
        exact decide_eq_true ⟨hk, j1, (by omega : j ≤ a.n), Int.le_refl _, (by decide : (0 : Int) < 64), hs⟩
      unfold okV at hc
      rw [hmay] at hc
      have hdup : dupV a.L (vtW k j v) = true := by
        cases h : dupV a.L (vtW k j v)
        · rw [h] at hc; cases hc
        · rfl
      obtain ⟨o, ho, he⟩ := List.any_eq_true.1 hdup
      simp only [decide_eq_true_eq] at he
      have hmem : vtW k j v ∈ a.L := by
        have := P.L o ho
        rw [he.1, he.2.1] at this
        have e2 : o = vtW k j v := this
        rw [← e2]; exact ho
      exact ⟨P, Q, ⟨rfl, Int.le_refl _, fun k k1 (k2 : k ≤ a.step) => (by omega), fun w hw => (by cases hw), by simp, id, fun x hx => hx, fun h => absurd h hk1, fun _ => hmem, fun x hx => .inl hx⟩⟩
    · have hct : a.count (vtW k j v) = ({ a with L := a.L ++ [vtW k j v] }, []) := by
        unfold ASt.count
        rw [if_neg hk4, if_neg hk1]
      have hW := (count_wf P.W h0 hc).1
      rw [hct] at hW
      have P' : Pc pr v { a with L := a.L ++ [vtW k j v] } := ⟨hW, P.r, P.Ps, fun w hw => by
        rcases List.mem_append.1 hw with hw | hw
        · exact P.L w hw
        · rw [List.mem_singleton.1 hw]; rfl, P.s1, P.lk, P.sn, P.dn, fun h => (by rw [show a.done = true from h] at hd; cases hd)⟩
      obtain ⟨P2, C, Q2⟩ := run_c hv _ _ (Nat.lt_succ_self _) P'
      rw [take_cnt P hd hc, hct]
      exact ⟨P2, Q2, ⟨C.me, C.le, C.o1, C.o2, C.o3, fun h => by rw [C.Ps]; exact h, fun x hx => by rw [C.L]; exact List.mem_append_left _ hx, fun h => absurd h hk1, fun _ => by rw [C.L]; exact List.mem_append_right _ (List.mem_singleton.2 rfl), fun x hx => by
        rw [C.L] at hx
        rcases List.mem_append.1 hx with hx | hx
        · exact .inl hx
        · exact .inr ⟨List.mem_singleton.1 hx, hk1⟩⟩⟩

/-! ### the end -/
theorem len_ge : ∀ (m : Nat) (l : List Nat), (∀ j, 1 ≤ j → j ≤ m → j ∈ l) → m ≤ l.length
  | 0, _, _ => Nat.zero_le _
  | m + 1, l, h => by
    have hm := h (m + 1) (by omega) (Nat.le_refl _)
    have := len_ge m (l.erase (m + 1)) fun j j1 j2 => (List.mem_erase_of_ne (by omega)).2 (h j j1 (by omega))
    rw [List.length_erase_of_mem hm] at this
    have := List.length_pos_of_mem hm
    omega
theorem cnt_ge {m : Nat} {k : Int} {L : List Wrd} (h : ∀ j : Int, 1 ≤ j → j ≤ (m : Int) → vtW k j v ∈ L) : m ≤ cntV L k 0 v := by
  rw [← fromsV_len]
  refine len_ge m _ fun j j1 j2 => ?_
  unfold fromsV
  refine List.mem_map.2 ⟨vtW k j v, List.mem_filter.2 ⟨h j (by omega) (by omega), by simp [vtW]⟩, ?_⟩
  show (j : Int).toNat = j
  omega
theorem rule_no (h : a.rule = none) : a.decide1 = none ∧ a.pv = false ∧ a.pc = false := by
  unfold ASt.rule at h
  split at h
  · cases h
  · rename_i h0
    split at h
    · cases h
    · split at h
      · cases h
      · rename_i hpv
        split at h
        · cases h
        · rename_i hpc
          exact ⟨h0, by simpa using hpv, by simpa using hpc⟩
theorem decF_no : ∀ {k r : Nat}, decF a k r = none → ∀ q, r ≤ q → q < r + k → a.decOk q = false
  | 0, r, _, q, h1, h2 => by omega
  | k + 1, r, h, q, h1, h2 => by
    simp only [decF] at h
    split at h
    · cases h
    · rename_i hd
      by_cases e : q = r
      · rw [e]; simpa using hd
      · exact decF_no h q (by omega) (by omega)
theorem sub_len : ∀ (l1 l2 : List Nat), l1.Nodup → (∀ x ∈ l1, x ∈ l2) → l1.length ≤ l2.length
  | [], _, _, _ => Nat.zero_le _
  | x :: l1, l2, hn, h => by
    have hx := h x List.mem_cons_self
    obtain ⟨n1, n2⟩ := List.nodup_cons.1 hn
    have := sub_len l1 (l2.erase x) n2 fun y hy => (List.mem_erase_of_ne (by intro e; subst e; exact n1 hy)).2 (h y (List.mem_cons_of_mem _ hy))
    rw [List.length_erase_of_mem hx] at this
    have := List.length_pos_of_mem hx
    rw [List.length_cons]
    omega
theorem cnt_sub {n t : Int} {k : Int} {L L' : List Wrd} (W : VoteM.Wf n t L) (h : ∀ w ∈ L, w.kind = k → w.round = 0 → w.value = v → w ∈ L') : cntV L k 0 v ≤ cntV L' k 0 v := by
  rw [← fromsV_len, ← fromsV_len]
  refine sub_len _ _ (fromsV_nd W.nd k 0 v) fun x hx => ?_
  obtain ⟨w, hw, e1, e2, e3, e4⟩ := fromsV_mem hx
  unfold fromsV
  exact List.mem_map.2 ⟨w, List.mem_filter.2 ⟨h w hw e1 e2 e3, by simp [e1, e2, e3]⟩, e4⟩
section
variable (hv : v ≠ VoteM.empty) (P : Pc pr v a) (Q : a.rule = none) (hPs : a.Ps ≠ [])
include hv P Q hPs
theorem quiet1 : a.step ≠ 1 := fun h1 => by
  obtain ⟨g1, g2, g3⟩ := rule_no Q
  have e := P.Ps.resolve_left hPs
  have hnow : a.now = prW pr v := by unfold ASt.now; rw [P.r, e]; rfl
  unfold ASt.pv at g2
  rw [hnow, decide_eq_true (⟨h1, hv⟩ : a.step = 1 ∧ (prW pr v).value ≠ VoteM.empty)] at g2
  rw [decide_eq_true (show (prW pr v).valid < 0 from (by decide : (-1 : Int) < 0))] at g2
  cases g2
theorem quiet2 (hq : quorum a.n a.t ≤ cntV a.L 2 0 v) : a.step ≠ 2 := fun h1 => by
  obtain ⟨g1, g2, g3⟩ := rule_no Q
  have e := P.Ps.resolve_left hPs
  have hnow : a.now = prW pr v := by unfold ASt.now; rw [P.r, e]; rfl
  have hmost : mostV a.n a.t a.L 2 0 = some v := most_of P.W.v hq
  have hsn : a.seen = false := by rw [P.sn]; exact decide_eq_false (by omega)
  unfold ASt.pc ASt.is at g3
  rw [hnow, P.r, decide_eq_true (⟨by omega, hv⟩ : a.step ≠ 1 ∧ (prW pr v).value ≠ VoteM.empty), hsn, hmost] at g3
  have : decide (v = v) = false := g3
  simp at this
theorem quiet3 (hq : quorum a.n a.t ≤ cntV a.L 3 0 v) : False := by
  obtain ⟨g1, g2, g3⟩ := rule_no Q
  have e := P.Ps.resolve_left hPs
  have hpr : propL a.Ps 0 = prW pr v := by rw [e]; rfl
  have hmost : mostV a.n a.t a.L 3 0 = some v := most_of P.W.v hq
  have hno := decF_no g1 0 (Nat.le_refl _) (by omega)
  unfold ASt.decOk ASt.is at hno
  rw [show ((0 : Nat) : Int) = 0 from rfl, hpr, hmost, decide_eq_true (show (prW pr v).value ≠ VoteM.empty from hv)] at hno
  have : decide (v = v) = false := hno
  simp at this
end
end
end Go.Proofs.Ytboibdmflblphaa.CouM
