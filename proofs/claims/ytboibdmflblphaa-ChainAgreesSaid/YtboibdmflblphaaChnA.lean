/-
  THE LOGS OF HONEST NODES AGREE. No program is in sight.
-/
import Derived.Test.YtboibdmflblphaaChnM
namespace Go.Proofs.Ytboibdmflblphaa.ChnM
open VoteM AgrM CouM

structure Tw where
  k : Nat
  x : To
/-- What may be under way when more is said. -/
def OntoP (way : List Tw) (h : Nat) (l : List To) (out : List Tw) : Prop := (∀ y ∈ out, y ∈ way ∨ (y.k < h ∧ y.x ∈ l)) ∧ (out.length ≤ way.length ∨ out.length ≤ 2000)

def updV (V : Nat → List ASt) (h : Nat) (As : List ASt) : Nat → List ASt := fun j => if j = h then As else V j
def updH (H : Nat → Nat → List Wrd) (h : Nat) (F : Nat → List Wrd) : Nat → Nat → List Wrd := fun j => if j = h then F else H j
theorem updV_at {V : Nat → List ASt} {h : Nat} {As : List ASt} : updV V h As h = As := if_pos rfl
theorem updV_ne {V : Nat → List ASt} {h j : Nat} {As : List ASt} (e : j ≠ h) : updV V h As j = V j := if_neg e
theorem updH_at {H : Nat → Nat → List Wrd} {h : Nat} {F : Nat → List Wrd} : updH H h F h = F := if_pos rfl
theorem updH_ne {H : Nat → Nat → List Wrd} {h j : Nat} {F : Nat → List Wrd} (e : j ≠ h) : updH H h F j = H j := if_neg e
theorem set_at {α : Type} {l : List α} {i : Nat} {a b : α} (h : l[i]? = some a) : (l.set i b)[i]? = some b := by
  obtain ⟨hi, _⟩ := List.getElem?_eq_some_iff.1 h
  rw [List.getElem?_set, if_pos rfl, if_pos hi]
theorem set_ne {α : Type} {l : List α} {i j : Nat} {b : α} (h : j ≠ i) : (l.set i b)[j]? = l[j]? := by
  rw [List.getElem?_set, if_neg (fun e => h e.symm)]

structure Cn (n t : Int) (i : Nat) (c : Chn) : Prop where
  W : c.Wf
  n : c.n = n
  t : c.t = t
  me : c.me = i + 1
  b : c.begun = true
structure CSys (n t : Int) (cs : List Chn) (way : List To) (V : Nat → List ASt) (H : Nat → Nat → List Wrd) : Prop where
  hn : (cs.length : Int) = n - t
  cw : ∀ (i : Nat) c, cs[i]? = some c → Cn n t i c
  sy : ∀ h, h < 64 → Sys n t (V h) (H h)
  old : ∀ (i : Nat) c h, cs[i]? = some c → h < c.log.length → ∃ a, (V h)[i]? = some a ∧ a.done = true ∧ c.log[h]? = some a.dec
  now : ∀ (i : Nat) c, cs[i]? = some c → c.log.length < 64 → (V c.log.length)[i]? = some c.part
  new : ∀ (i : Nat) c h, cs[i]? = some c → c.log.length < h → h < 64 → (V h)[i]? = some (newA n t (i + 1) h tilde) ∧ H h i = []
  kn : ∀ y ∈ way, ∀ h : Nat, h < 64 → y.node = (h : Int) → Known cs.length (H h) y.w

theorem CSys.len {n t : Int} {cs : List Chn} {way : List To} {V : Nat → List ASt} {H : Nat → Nat → List Wrd} (Y : CSys n t cs way V H) {h : Nat} (hh : h < 64) : (V h).length = cs.length := by
  have h1 := (Y.sy h hh).hn
  have h2 := Y.hn
  omega

/-- A node that had not begun begins. -/
theorem Sys.begin {n t : Int} {As : List ASt} {H : Nat → List Wrd} (Y : Sys n t As H) {i : Nat} {h : Int} {s0 v : ByteArray} (ha : As[i]? = some (newA n t (i + 1) h s0)) (hH : H i = []) (hk : okA n t (i + 1) h v = true) :
    Sys n t (As.set i (newA n t (i + 1) h v).start) (addH H i (newA n t (i + 1) h v).startO) := by
  have hi : i < As.length := (List.getElem?_eq_some_iff.1 ha).1
  have S := start_same (newA n t (i + 1) h v)
  have hP : ∀ r u, Polka As 2 r u → Polka (As.set i (newA n t (i + 1) h v).start) 2 r u := fun r u h' => h'.set ha S.n S.t (fun k r u => by rw [S.L]; exact Nat.le_refl _)
  have W := newA_wf hk
  refine ⟨by simpa using Y.hn, fun j x hx => ?_, fun x hx y hy => ?_, fun j x hx => ?_⟩
  · rcases set_get ha hx with ⟨rfl, rfl⟩ | ⟨_, h'⟩
    · exact ⟨S.n, S.t, S.me, (start_wf W).1⟩
    · exact Y.nd j x h'
  · rw [List.length_set]
    refine Known.add ?_ i _
    rcases mem_set hx with rfl | h'
    · rw [S.L] at hy
      cases hy
    · exact Y.kn x h' y hy
  · rcases set_get ha hx with ⟨rfl, rfl⟩ | ⟨hne, h'⟩
    · have e : addH H j (newA n t (j + 1) h v).startO j = [] ++ (newA n t (j + 1) h v).startO := by
        have : addH H j (newA n t (j + 1) h v).startO j = H j ++ (newA n t (j + 1) h v).startO := if_pos rfl
        rw [this, hH]
      rw [e]
      exact start_hst W (hst_new hk)
    · have e : addH H i (newA n t (i + 1) h v).startO j = H j := if_neg hne
      rw [e]
      exact (Y.hs j x h').mono hP

/-- A node takes a word. -/
theorem CSys.put {n t : Int} {cs : List Chn} {way : List To} {V : Nat → List ASt} {H : Nat → Nat → List Wrd} (Y : CSys n t cs way V H) {i : Nat} {c : Chn} (hc : cs[i]? = some c) (ho : c.log.length < 64) {w : Wrd} (hw : w.kind = 4 ∨ Known cs.length (H c.log.length) w) {way' : List To} (hway : ∀ y ∈ way', y ∈ way ∨ y ∈ tallsO c.log.length (c.part.take w).2) :
    CSys n t (cs.set i (c.put (c.part.take w).1)) way' (updV V c.log.length ((V c.log.length).set i (c.part.take w).1)) (updH H c.log.length (addH (H c.log.length) i (c.part.take w).2)) := by
  have C := Y.cw i c hc
  have hp := Y.now i c hc ho
  have hl := Y.len ho
  have hw' : w.kind = 4 ∨ Known (V c.log.length).length (H c.log.length) w := by rw [hl]; exact hw
  have Y1 := (Y.sy _ ho).take hp hw'
  have hWp := C.W.p C.b
  refine ⟨by rw [List.length_set]; exact Y.hn, fun j x hx => ?_, fun h hh => ?_, fun j x h hx hh => ?_, fun j x hx hh => ?_, fun j x h hx hh h64 => ?_, fun y hy h hh he => ?_⟩
  · by_cases e : j = i
    · subst e
      obtain rfl := Option.some.inj ((set_at hc).symm.trans hx)
      exact ⟨C.W.put (take_wf hWp w).1, C.n, C.t, C.me, C.b⟩
    · rw [set_ne e] at hx
      exact Y.cw j x hx
  · by_cases e : h = c.log.length
    · subst e; rw [updV_at, updH_at]; exact Y1
    · rw [updV_ne e, updH_ne e]; exact Y.sy h hh
  · by_cases e : j = i
    · subst e
      obtain rfl := Option.some.inj ((set_at hc).symm.trans hx)
      have hh : h < c.log.length := hh
      rw [updV_ne (by omega)]
      exact Y.old j c h hc hh
    · rw [set_ne e] at hx
      obtain ⟨a, h1, h2⟩ := Y.old j x h hx hh
      refine ⟨a, ?_, h2⟩
      by_cases e2 : h = c.log.length
      · subst e2; rw [updV_at, set_ne e]; exact h1
      · rw [updV_ne e2]; exact h1
  · by_cases e : j = i
    · subst e
      obtain rfl := Option.some.inj ((set_at hc).symm.trans hx)
      show (updV V c.log.length _ c.log.length)[j]? = _
      rw [updV_at]
      exact set_at hp
    · rw [set_ne e] at hx
      have h1 := Y.now j x hx hh
      by_cases e2 : x.log.length = c.log.length
      · rw [e2, updV_at, set_ne e, ← e2]; exact h1
      · rw [updV_ne e2]; exact h1
  · by_cases e : j = i
    · subst e
      obtain rfl := Option.some.inj ((set_at hc).symm.trans hx)
      have hh : c.log.length < h := hh
      rw [updV_ne (by omega), updH_ne (by omega)]
      exact Y.new j c h hc hh h64
    · rw [set_ne e] at hx
      obtain ⟨h1, h2⟩ := Y.new j x h hx hh h64
      by_cases e2 : h = c.log.length
      · subst e2
        rw [updV_at, updH_at, set_ne e]
        exact ⟨h1, by rw [show addH (H c.log.length) i (c.part.take w).2 j = H c.log.length j from if_neg e]; exact h2⟩
      · rw [updV_ne e2, updH_ne e2]; exact ⟨h1, h2⟩
  · rw [List.length_set]
    by_cases e : h = c.log.length
    · subst e
      rw [updH_at]
      rcases hway y hy with h1 | h1
      · exact (Y.kn y h1 _ hh he).add i _
      · obtain ⟨q, hq, hqe⟩ := List.mem_map.1 h1
        have := (Y.sy _ ho).out hp (take_said hWp w) q hq
        rw [hl] at this
        rw [← hqe]
        exact this
    · rw [updH_ne e]
      rcases hway y hy with h1 | h1
      · exact Y.kn y h1 h hh he
      · obtain ⟨q, hq, hqe⟩ := List.mem_map.1 h1
        rw [← hqe] at he
        have he : (c.log.length : Int) = h := he
        exact absurd (by omega) e
/-- A node lays what it decided behind its log, and goes on. -/
theorem CSys.dec {n t : Int} {cs : List Chn} {way : List To} {V : Nat → List ASt} {H : Nat → Nat → List Wrd} (Y : CSys n t cs way V H) {i : Nat} {c : Chn} (hc : cs[i]? = some c) (ho : c.log.length < 64) (hd : c.part.done = true) {way' : List To} (hway : ∀ y ∈ way', y ∈ way ∨ y ∈ c.decO c.part.dec) :
    ∃ V' H', CSys n t (cs.set i (c.dec c.part.dec)) way' V' H' := by
  have C := Y.cw i c hc
  have hp := Y.now i c hc ho
  have hol : c.over = false := over_no.2 ho
  have hlog : (c.dec c.part.dec).log = c.log ++ [c.part.dec] := begin_log
  have hll : (c.dec c.part.dec).log.length = c.log.length + 1 := by rw [hlog]; simp
  have hbeg : (c.dec c.part.dec).begun = true := dec_begun.trans C.b
  have hsame : (c.dec c.part.dec).n = n ∧ (c.dec c.part.dec).t = t ∧ (c.dec c.part.dec).me = i + 1 := by
    cases hov : (c.laid c.part.dec).over
    · rw [(dec_more hov).1]; exact ⟨C.n, C.t, C.me⟩
    · rw [(dec_over hov).1]; exact ⟨C.n, C.t, C.me⟩
  have hCn : Cn n t i (c.dec c.part.dec) := ⟨C.W.dec hol _, hsame.1, hsame.2.1, hsame.2.2, hbeg⟩
  cases hov : (c.laid c.part.dec).over
  · have hov2 : c.log.length + 1 < 64 := by
      have := over_no.1 hov
      have e : (c.laid c.part.dec).log.length = c.log.length + 1 := by show (c.log ++ [c.part.dec]).length = _; simp
      omega
    obtain ⟨h1, h2⟩ := Y.new i c (c.log.length + 1) hc (by omega) hov2
    have hk := (C.W.laid hol c.part.dec).ok
    have hfr : (c.laid c.part.dec).fresh = newA n t (i + 1) ((c.log.length + 1 : Nat) : Int) (headW (c.laid c.part.dec).wants) := by
      unfold Chn.fresh
      rw [show (c.laid c.part.dec).n = n from C.n, show (c.laid c.part.dec).t = t from C.t, show (c.laid c.part.dec).me = i + 1 from C.me]
      congr 1
      show ((c.log ++ [c.part.dec]).length : Int) = _
      simp
    have hk2 : okA n t (i + 1) ((c.log.length + 1 : Nat) : Int) (headW (c.laid c.part.dec).wants) = true := by
      rw [show (c.laid c.part.dec).n = n from C.n, show (c.laid c.part.dec).t = t from C.t, show (c.laid c.part.dec).me = i + 1 from C.me] at hk
      have e : (((c.laid c.part.dec).log.length : Nat) : Int) = ((c.log.length + 1 : Nat) : Int) := by
        show ((c.log ++ [c.part.dec]).length : Int) = _
        simp
      rw [e] at hk
      exact hk
    have Y1 := Sys.begin (Y.sy _ hov2) h1 h2 hk2
    have hpart : (c.dec c.part.dec).part = (newA n t (i + 1) ((c.log.length + 1 : Nat) : Int) (headW (c.laid c.part.dec).wants)).start := by
      rw [(dec_more hov).1, ← hfr]; rfl
    have hO : c.decO c.part.dec = tallsO (c.log.length + 1) (newA n t (i + 1) ((c.log.length + 1 : Nat) : Int) (headW (c.laid c.part.dec).wants)).startO := by
      rw [(dec_more hov).2, ← hfr]
      congr 1
      show (c.log ++ [c.part.dec]).length = _
      simp
    have hl := Y.len hov2
    generalize hnA : newA n t (i + 1) ((c.log.length + 1 : Nat) : Int) (headW (c.laid c.part.dec).wants) = nA at *
    have hWn : nA.Wf := by rw [← hnA]; exact newA_wf hk2
    have hsaid := start_said hWn
    refine ⟨updV V (c.log.length + 1) ((V (c.log.length + 1)).set i nA.start), updH H (c.log.length + 1) (addH (H (c.log.length + 1)) i nA.startO), ?_⟩
    refine ⟨by rw [List.length_set]; exact Y.hn, fun j x hx => ?_, fun h hh => ?_, fun j x h hx hh => ?_, fun j x hx hh => ?_, fun j x h hx hh h64 => ?_, fun y hy h hh he => ?_⟩
    · by_cases e : j = i
      · subst e
        obtain rfl := Option.some.inj ((set_at hc).symm.trans hx)
        exact hCn
      · rw [set_ne e] at hx
        exact Y.cw j x hx
    · by_cases e : h = c.log.length + 1
      · subst e; rw [updV_at, updH_at]; exact Y1
      · rw [updV_ne e, updH_ne e]; exact Y.sy h hh
    · by_cases e : j = i
      · subst e
        obtain rfl := Option.some.inj ((set_at hc).symm.trans hx)
        rw [hll] at hh
        rw [updV_ne (by omega), hlog]
        by_cases e2 : h = c.log.length
        · subst e2
          exact ⟨c.part, hp, hd, by simp⟩
        · obtain ⟨a, g1, g2, g3⟩ := Y.old j c h hc (by omega)
          exact ⟨a, g1, g2, by rw [List.getElem?_append_left (by omega)]; exact g3⟩
      · rw [set_ne e] at hx
        obtain ⟨a, g1, g2⟩ := Y.old j x h hx hh
        refine ⟨a, ?_, g2⟩
        by_cases e2 : h = c.log.length + 1
        · subst e2; rw [updV_at, set_ne e]; exact g1
        · rw [updV_ne e2]; exact g1
    · by_cases e : j = i
      · subst e
        obtain rfl := Option.some.inj ((set_at hc).symm.trans hx)
        rw [hll, updV_at, hpart]
        exact set_at h1
      · rw [set_ne e] at hx
        have g1 := Y.now j x hx hh
        by_cases e2 : x.log.length = c.log.length + 1
        · rw [e2, updV_at, set_ne e, ← e2]; exact g1
        · rw [updV_ne e2]; exact g1
    · by_cases e : j = i
      · subst e
        obtain rfl := Option.some.inj ((set_at hc).symm.trans hx)
        rw [hll] at hh
        rw [updV_ne (by omega), updH_ne (by omega)]
        exact Y.new j c h hc (by omega) h64
      · rw [set_ne e] at hx
        obtain ⟨g1, g2⟩ := Y.new j x h hx hh h64
        by_cases e2 : h = c.log.length + 1
        · subst e2
          rw [updV_at, updH_at, set_ne e]
          exact ⟨g1, by rw [show addH (H (c.log.length + 1)) i nA.startO j = H (c.log.length + 1) j from if_neg e]; exact g2⟩
        · rw [updV_ne e2, updH_ne e2]; exact ⟨g1, g2⟩
    · rw [List.length_set]
      by_cases e : h = c.log.length + 1
      · subst e
        rw [updH_at]
        rcases hway y hy with g1 | g1
        · exact (Y.kn y g1 _ hh he).add i _
        · rw [hO] at g1
          obtain ⟨q, hq, hqe⟩ := List.mem_map.1 g1
          rw [← hqe]
          intro k1 k2
          have k3 := (hsaid.w q hq).2.2.1
          have k4 : nA.me = (i : Int) + 1 := by rw [← hnA]; rfl
          have e3 : q.frm.toNat - 1 = i := by rw [k3, k4]; omega
          show q ∈ addH _ i _ (q.frm.toNat - 1)
          rw [e3]
          unfold addH
          rw [if_pos rfl]
          exact List.mem_append_right _ hq
      · rw [updH_ne e]
        rcases hway y hy with g1 | g1
        · exact Y.kn y g1 h hh he
        · rw [hO] at g1
          obtain ⟨q, hq, hqe⟩ := List.mem_map.1 g1
          rw [← hqe] at he
          have he : ((c.log.length + 1 : Nat) : Int) = h := he
          exact absurd (by omega) e
  · have hov2 : 64 ≤ c.log.length + 1 := by
      have := over_spec.1 hov
      have e : (c.laid c.part.dec).log.length = c.log.length + 1 := by show (c.log ++ [c.part.dec]).length = _; simp
      omega
    refine ⟨V, H, ?_⟩
    refine ⟨by rw [List.length_set]; exact Y.hn, fun j x hx => ?_, Y.sy, fun j x h hx hh => ?_, fun j x hx hh => ?_, fun j x h hx hh h64 => ?_, fun y hy h hh he => ?_⟩
    · by_cases e : j = i
      · subst e
        obtain rfl := Option.some.inj ((set_at hc).symm.trans hx)
        exact hCn
      · rw [set_ne e] at hx
        exact Y.cw j x hx
    · by_cases e : j = i
      · subst e
        obtain rfl := Option.some.inj ((set_at hc).symm.trans hx)
        rw [hll] at hh
        rw [hlog]
        by_cases e2 : h = c.log.length
        · subst e2
          exact ⟨c.part, hp, hd, by simp⟩
        · obtain ⟨a, g1, g2, g3⟩ := Y.old j c h hc (by omega)
          exact ⟨a, g1, g2, by rw [List.getElem?_append_left (by omega)]; exact g3⟩
      · rw [set_ne e] at hx
        exact Y.old j x h hx hh
    · by_cases e : j = i
      · subst e
        obtain rfl := Option.some.inj ((set_at hc).symm.trans hx)
        rw [hll] at hh
        omega
      · rw [set_ne e] at hx
        exact Y.now j x hx hh
    · by_cases e : j = i
      · subst e
        obtain rfl := Option.some.inj ((set_at hc).symm.trans hx)
        rw [hll] at hh
        omega
      · rw [set_ne e] at hx
        exact Y.new j x h hx hh h64
    · rw [List.length_set]
      rcases hway y hy with g1 | g1
      · exact Y.kn y g1 h hh he
      · rw [(dec_over hov).2] at g1
        cases g1
theorem CSys.mono {n t : Int} {cs : List Chn} {way way' : List To} {V : Nat → List ASt} {H : Nat → Nat → List Wrd} (Y : CSys n t cs way V H) (h : ∀ y ∈ way', y ∈ way) : CSys n t cs way' V H :=
  ⟨Y.hn, Y.cw, Y.sy, Y.old, Y.now, Y.new, fun y hy => Y.kn y (h y hy)⟩
theorem set_id {α : Type} {l : List α} {i : Nat} {a : α} (h : l[i]? = some a) : l.set i a = l := by
  obtain ⟨h1, h2⟩ := List.getElem?_eq_some_iff.1 h
  rw [← h2]; exact List.set_getElem_self h1
theorem CSys.word {n t : Int} {cs : List Chn} {way : List To} {V : Nat → List ASt} {H : Nat → Nat → List Wrd} (Y : CSys n t cs way V H) {i : Nat} {c : Chn} (hc : cs[i]? = some c) {w : Wrd} (hw : w.kind = 4 ∨ (c.log.length < 64 → Known cs.length (H c.log.length) w)) {way' : List To} (hway : ∀ y ∈ way', y ∈ way ∨ y ∈ c.wordO w) :
    ∃ V' H', CSys n t (cs.set i (c.word w)) way' V' H' := by
  have C := Y.cw i c hc
  cases ho : c.over
  · have hol := over_no.1 ho
    have hw' : w.kind = 4 ∨ Known cs.length (H c.log.length) w := hw.imp id fun h => h hol
    rw [word_yes C.b ho]
    rw [wordO_yes C.b ho] at hway
    cases hd : (c.put (c.part.take w).1).part.done
    · rw [(next_no (out := tallsO c.log.length (c.part.take w).2) hd).1]
      rw [(next_no hd).2] at hway
      exact ⟨_, _, Y.put hc hol hw' hway⟩
    · rw [(next_yes (out := tallsO c.log.length (c.part.take w).2) hd).1]
      rw [(next_yes hd).2] at hway
      have Y1 := Y.put hc hol hw' (way' := way ++ tallsO c.log.length (c.part.take w).2) (fun y hy => List.mem_append.1 hy)
      obtain ⟨V2, H2, Y2⟩ := Y1.dec (i := i) (c := c.put (c.part.take w).1) (set_at hc) hol hd (way' := way') (fun y hy => by
        rcases hway y hy with h | h
        · exact .inl (List.mem_append_left _ h)
        · rcases List.mem_append.1 h with h | h
          · exact .inl (List.mem_append_right _ h)
          · exact .inr h)
      rw [List.set_set] at Y2
      exact ⟨V2, H2, Y2⟩
  · rw [(word_no (w := w) (.inr ho)).1, set_id hc]
    rw [(word_no (.inr ho)).2] at hway
    exact ⟨V, H, Y.mono fun y hy => (hway y hy).resolve_right (by simp)⟩
/-- A word that arrives. -/
theorem CSys.take {n t : Int} {cs : List Chn} {way : List To} {V : Nat → List ASt} {H : Nat → Nat → List Wrd} (Y : CSys n t cs way V H) {i : Nat} {c : Chn} (hc : cs[i]? = some c) {x : To} (hx : x ∈ way ∨ (cs.length : Int) < x.w.frm) {way' : List To} (hway : ∀ y ∈ way', y ∈ way ∨ y ∈ c.takeO x) :
    ∃ V' H', CSys n t (cs.set i (c.take x)) way' V' H' := by
  cases hk : c.takes x
  · rw [(take_no hk).1, set_id hc]
    rw [(take_no hk).2] at hway
    exact ⟨V, H, Y.mono fun y hy => (hway y hy).resolve_right (by simp)⟩
  · rw [(take_yes hk).1]
    rw [(take_yes hk).2] at hway
    have hk := hk
    simp only [Chn.takes, Bool.and_eq_true, decide_eq_true_eq] at hk
    refine Y.word hc (.inr fun hl => ?_) hway
    rcases hx with hx | hx
    · exact Y.kn x hx _ hl hk.1
    · intro _ h2
      omega
theorem CSys.tmo {n t : Int} {cs : List Chn} {way : List To} {V : Nat → List ASt} {H : Nat → Nat → List Wrd} (Y : CSys n t cs way V H) {i : Nat} {c : Chn} (hc : cs[i]? = some c) {s : Int} {way' : List To} (hway : ∀ y ∈ way', y ∈ way ∨ y ∈ c.wordO (c.tmo s)) :
    ∃ V' H', CSys n t (cs.set i (c.word (c.tmo s))) way' V' H' := Y.word hc (.inl rfl) hway
/-- One log is the beginning of the other. -/
theorem CSys.agree {n t : Int} {cs : List Chn} {way : List To} {V : Nat → List ASt} {H : Nat → Nat → List Wrd} (Y : CSys n t cs way V H) {i k : Nat} {a b : Chn} (ha : cs[i]? = some a) (hb : cs[k]? = some b) {m : Nat} (h1 : m ≤ a.log.length) (h2 : m ≤ b.log.length) : a.log.take m = b.log.take m := by
  refine List.ext_getElem? fun h => ?_
  by_cases hm : h < m
  · rw [List.getElem?_take_of_lt hm, List.getElem?_take_of_lt hm]
    have h64 : h < 64 := by have := (Y.cw i a ha).W.ll; omega
    obtain ⟨x, x1, x2, x3⟩ := Y.old i a h ha (by omega)
    obtain ⟨y, y1, y2, y3⟩ := Y.old k b h hb (by omega)
    rw [x3, y3, (Y.sy h h64).agree (List.mem_of_getElem? x1) (List.mem_of_getElem? y1) x2 y2]
  · rw [List.getElem?_eq_none (by rw [List.length_take]; omega), List.getElem?_eq_none (by rw [List.length_take]; omega)]
/-- One that has just begun. -/
structure Fr0 (n t : Int) (j : Nat) (c : Chn) : Prop where
  cn : Cn n t j c
  l : c.log = []
  k : okA n t (j + 1) 0 c.part.own = true
  p : c.part = (newA n t (j + 1) 0 c.part.own).start
def V0 (n t : Int) (cs : List Chn) (h : Nat) : List ASt := if h = 0 then cs.map (·.part) else (List.range cs.length).map fun i => newA n t ((i : Nat) + 1) h tilde
def H0 (n t : Int) (cs : List Chn) (h : Nat) : Nat → List Wrd := fun j => if h = 0 then match cs[j]? with
  | some c => (newA n t (j + 1) 0 c.part.own).startO
  | none => [] else []
theorem CSys.start {n t : Int} {cs : List Chn} (hq : quorum n t ≠ 0) (ht : 0 ≤ t) (hn : (cs.length : Int) = n - t) (hc : ∀ (j : Nat) c, cs[j]? = some c → Fr0 n t j c) {way : List To} (hw : ∀ y ∈ way, ∃ (j : Nat) (c : Chn), cs[j]? = some c ∧ y ∈ tallsO 0 (newA n t (j + 1) 0 c.part.own).startO) : ∃ V H, CSys n t cs way V H := by
  have hA : ∀ i h : Nat, i < cs.length → h < 64 → okA n t ((i : Nat) + 1) h tilde = true := fun i h hi hh => by
    have := may_spec.1 tilde_may
    simp only [okA, Bool.and_eq_true, decide_eq_true_eq]
    exact ⟨hq, by omega, by omega, by omega, by omega, this.1, this.2⟩
  have hV0 : ∀ (i : Nat) c, cs[i]? = some c → (V0 n t cs 0)[i]? = some c.part := fun i c h => by
    show (cs.map (·.part))[i]? = _
    rw [List.getElem?_map, h]; rfl
  have hV : ∀ (i h : Nat), i < cs.length → h ≠ 0 → (V0 n t cs h)[i]? = some (newA n t ((i : Nat) + 1) h tilde) := fun i h hi hh => by
    unfold V0
    rw [if_neg hh, List.getElem?_map, List.getElem?_range hi]; rfl
  have hVi : ∀ (i h : Nat) a, h ≠ 0 → (V0 n t cs h)[i]? = some a → i < cs.length ∧ a = newA n t ((i : Nat) + 1) h tilde := fun i h a hh ha => by
    have hlt := (List.getElem?_eq_some_iff.1 ha).1
    unfold V0 at hlt
    rw [if_neg hh] at hlt
    have hlt : i < cs.length := by simpa using hlt
    exact ⟨hlt, Option.some.inj (ha.symm.trans (hV i h hlt hh))⟩
  have hV0i : ∀ (i : Nat) a, (V0 n t cs 0)[i]? = some a → ∃ c, cs[i]? = some c ∧ a = c.part := fun i a ha => by
    have ha : (cs.map (·.part))[i]? = some a := ha
    rw [List.getElem?_map] at ha
    cases hci : cs[i]? with
    | none => rw [hci] at ha; cases ha
    | some c => rw [hci] at ha; exact ⟨c, rfl, (Option.some.inj ha).symm⟩
  have hH0 : ∀ (i : Nat) c, cs[i]? = some c → H0 n t cs 0 i = (newA n t (i + 1) 0 c.part.own).startO := fun i c h => by
    unfold H0
    rw [if_pos rfl, h]
  have hHn : ∀ h j : Nat, h ≠ 0 → H0 n t cs h j = [] := fun h j hh => if_neg hh
  have hpart : ∀ (i : Nat) c, cs[i]? = some c → ∀ Pk, Hst Pk c.part (H0 n t cs 0 i) := fun i c h Pk => by
    have F := hc i c h
    rw [hH0 i c h]
    have := start_hst (newA_wf F.k) (hst_new (Pk := Pk) F.k)
    rw [List.nil_append] at this
    rw [← F.p] at this
    exact this
  refine ⟨V0 n t cs, H0 n t cs, hn, fun i c h => (hc i c h).cn, fun h hh => ?_, fun i c h hi hl => ?_, fun i c hi hl => ?_, fun i c h hi hl h64 => ?_, fun y hy h hh he => ?_⟩
  · by_cases h0 : h = 0
    · subst h0
      refine ⟨by show ((cs.map (·.part)).length : Int) = _; rw [List.length_map]; exact hn, fun i a ha => ?_, fun a ha w hw => ?_, fun i a ha => ?_⟩
      · obtain ⟨c, h1, rfl⟩ := hV0i i a ha
        have F := hc i c h1
        have S := start_same (newA n t (i + 1) 0 c.part.own)
        rw [← F.p] at S
        exact ⟨S.n, S.t, S.me, F.cn.W.p F.cn.b⟩
      · obtain ⟨i, hi⟩ := List.mem_iff_getElem?.1 ha
        obtain ⟨c, h1, rfl⟩ := hV0i i a hi
        have F := hc i c h1
        have S := start_same (newA n t (i + 1) 0 c.part.own)
        rw [← F.p] at S
        rw [S.L] at hw
        cases hw
      · obtain ⟨c, h1, rfl⟩ := hV0i i a ha
        exact hpart i c h1 _
    · refine ⟨by unfold V0; rw [if_neg h0]; simpa using hn, fun i a ha => ?_, fun a ha w hw => ?_, fun i a ha => ?_⟩
      · obtain ⟨hi, rfl⟩ := hVi i h a h0 ha
        exact ⟨rfl, rfl, rfl, newA_wf (hA i h hi hh)⟩
      · obtain ⟨i, hi⟩ := List.mem_iff_getElem?.1 ha
        obtain ⟨_, rfl⟩ := hVi i h a h0 hi
        cases hw
      · obtain ⟨hi, rfl⟩ := hVi i h a h0 ha
        rw [hHn h i h0]
        exact hst_new (hA i h hi hh)
  · rw [(hc i c hi).l] at hl
    exact absurd hl (by simp)
  · rw [(hc i c hi).l]
    exact hV0 i c hi
  · rw [(hc i c hi).l] at hl
    have hl : 0 < h := hl
    have hi2 := (List.getElem?_eq_some_iff.1 hi).1
    exact ⟨hV i h hi2 (by omega), hHn h i (by omega)⟩
  · obtain ⟨j, c, h1, h2⟩ := hw y hy
    obtain ⟨q, hq2, hqe⟩ := List.mem_map.1 h2
    have F := hc j c h1
    rw [← hqe] at he
    have he : ((0 : Nat) : Int) = h := he
    obtain rfl : h = 0 := by omega
    rw [← hqe]
    intro k1 k2
    have k3 := ((start_said (newA_wf F.k)).w q hq2).2.2.1
    have k4 : (newA n t ((j : Nat) + 1) 0 c.part.own).me = (j : Int) + 1 := rfl
    have e3 : q.frm.toNat - 1 = j := by rw [k3, k4]; omega
    show q ∈ H0 n t cs 0 (q.frm.toNat - 1)
    rw [e3, hH0 j c h1]
    exact hq2
end Go.Proofs.Ytboibdmflblphaa.ChnM
