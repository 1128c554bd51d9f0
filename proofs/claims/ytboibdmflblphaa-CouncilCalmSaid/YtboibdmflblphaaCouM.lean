/-
  A WORLD OF NODES, AS PLAIN FUNCTIONS. No program is in sight.
-/
import Derived.Test.YtboibdmflblphaaAgrS
namespace Go.Proofs.Ytboibdmflblphaa.CouM
open VoteM AgrM

structure To where
  node : Int
  w : Wrd
structure Cou where
  As : List ASt
  opn : Int → Bool
  way : List To
def updB (f : Int → Bool) (x : Int) (y : Bool) : Int → Bool := fun z => if z = x then y else f z
def pushT (way : List To) (x : To) : List To := if way.length < 4096 then way ++ [x] else way
def sayF (way : List To) (w : Wrd) : Nat → List To
  | 0 => way
  | i + 1 => pushT (sayF way w i) ⟨(i : Int) + 1, w⟩
def say (h : Nat) : List To → List Wrd → List To
  | way, [] => way
  | way, w :: l => say h (sayF way w h) l
def hon (C : Cou) (nd : Int) : Bool := decide (1 ≤ nd) && decide (nd ≤ (C.As.length : Int))
def Cou.act (C : Cou) (nd : Int) (a : ASt) (w : Wrd) : Cou :=
  ⟨C.As.set (nd.toNat - 1) (a.take w).1, if (a.take w).1.done = true then updB C.opn nd false else C.opn, say C.As.length C.way (a.take w).2⟩
def Cou.take (C : Cou) (nd : Int) (w : Wrd) : Cou :=
  if C.opn nd = true then match C.As[nd.toNat - 1]? with
    | some a => C.act nd a w
    | none => C
  else C
def outAt (n : Nat) (i : Int) : Nat := ((i.tmod n + n).tmod n).toNat
def Cou.cut (C : Cou) (i : Nat) : Cou := { C with way := C.way.eraseIdx i }
/-- What is taken out of what is under way. -/
def Cou.out (C : Cou) (i : Int) : Option (Cou × To) := match C.way[outAt C.way.length i]? with
  | some x => some (C.cut (outAt C.way.length i), x)
  | none => none
def Cou.deliver (C : Cou) (i : Int) : Cou × Bool := match C.out i with
  | some (D, x) => (D.take x.node x.w, true)
  | none => (C, false)
def Cou.lose (C : Cou) (i : Int) : Cou × Bool := match C.out i with
  | some (D, _) => (D, true)
  | none => (C, false)
def Cou.forgeOk (C : Cou) (nd : Int) (w : Wrd) : Bool := hon C nd && (!hon C w.frm && (decide (w.kind ≠ 4) && decide (C.way.length < 4096)))
def Cou.forge (C : Cou) (nd : Int) (w : Wrd) : Cou × Bool := if C.forgeOk nd w = true then ({ C with way := C.way ++ [⟨nd, w⟩] }, true) else (C, false)
def Cou.timeout (C : Cou) (nd step : Int) : Cou × Bool :=
  if hon C nd = true then match C.As[nd.toNat - 1]? with
    | some a => (C.take nd ⟨4, 0, a.round, step, VoteM.empty⟩, true)
    | none => (C, false)
  else (C, false)
structure Deed where
  kind : Int
  node : Int
  at_ : Int
  w : Wrd
def Cou.doit (C : Cou) (d : Deed) : Cou × Bool :=
  if d.kind = 1 then C.deliver d.at_ else if d.kind = 2 then C.lose d.at_ else if d.kind = 3 then C.forge d.node d.w else if d.kind = 4 then C.timeout d.node d.at_ else (C, false)

/-- What holds always. -/
structure Cou.Wf (n t : Int) (C : Cou) : Prop where
  hn : (C.As.length : Int) = n - t
  l7 : C.As.length ≤ 7
  nd : ∀ (i : Nat) a, C.As[i]? = some a → Nd n t i a
  op : ∀ nd, C.opn nd = true → 1 ≤ nd ∧ nd ≤ (C.As.length : Int)
  od : ∀ nd a, 1 ≤ nd → C.As[nd.toNat - 1]? = some a → C.opn nd = !a.done
  wy : ∀ x ∈ C.way, 1 ≤ x.node ∧ x.node ≤ (C.As.length : Int)
  wl : C.way.length ≤ 4096

theorem mem_push {way : List To} {x y : To} (h : y ∈ pushT way x) : y ∈ way ∨ y = x := by
  unfold pushT at h
  split at h
  · rcases List.mem_append.1 h with h | h
    · exact .inl h
    · exact .inr (List.mem_singleton.1 h)
  · exact .inl h
theorem push_len {way : List To} {x : To} (h : way.length ≤ 4096) : (pushT way x).length ≤ 4096 := by
  unfold pushT
  split
  · rw [List.length_append]; simp; omega
  · exact h
theorem mem_sayF {way : List To} {w : Wrd} {y : To} : ∀ {i : Nat}, y ∈ sayF way w i → y ∈ way ∨ (y.w = w ∧ 1 ≤ y.node ∧ y.node ≤ (i : Int))
  | 0, h => .inl h
  | i + 1, h => by
    rcases mem_push h with h | h
    · rcases mem_sayF h with h | ⟨h1, h2, h3⟩
      · exact .inl h
      · exact .inr ⟨h1, h2, by omega⟩
    · subst h
      exact .inr ⟨rfl, by show (1 : Int) ≤ (i : Int) + 1; omega, by show (i : Int) + 1 ≤ ((i + 1 : Nat) : Int); omega⟩
theorem sayF_len {way : List To} {w : Wrd} (h : way.length ≤ 4096) : ∀ {i : Nat}, (sayF way w i).length ≤ 4096
  | 0 => h
  | _ + 1 => push_len (sayF_len h)
theorem mem_say {h : Nat} {y : To} : ∀ {l : List Wrd} {way : List To}, y ∈ say h way l → y ∈ way ∨ (y.w ∈ l ∧ 1 ≤ y.node ∧ y.node ≤ (h : Int))
  | [], _, hy => .inl hy
  | w :: l, way, hy => by
    rcases mem_say (l := l) (way := sayF way w h) hy with hy | ⟨h1, h2⟩
    · rcases mem_sayF hy with hy | ⟨h1, h2⟩
      · exact .inl hy
      · exact .inr ⟨h1 ▸ List.mem_cons_self, h2⟩
    · exact .inr ⟨List.mem_cons_of_mem _ h1, h2⟩
theorem say_len {h : Nat} : ∀ {l : List Wrd} {way : List To}, way.length ≤ 4096 → (say h way l).length ≤ 4096
  | [], _, hw => hw
  | _ :: l, _, hw => say_len (l := l) (sayF_len hw)
theorem say_snoc {h : Nat} {w : Wrd} : ∀ {l : List Wrd} {way : List To}, say h way (l ++ [w]) = sayF (say h way l) w h
  | [], _ => rfl
  | _ :: l, _ => say_snoc (l := l)

theorem outAt_lt {n : Nat} (h : 0 < n) (i : Int) : outAt n i < n := by
  unfold outAt
  have h1 : -(n : Int) < i.tmod n := Int.lt_tmod_of_pos i (by omega)
  have h2 := Int.tmod_eq_emod_of_nonneg (show 0 ≤ i.tmod n + n by omega) (b := (n : Int))
  rw [h2]
  have h3 := Int.emod_lt_of_pos (i.tmod n + n) (show (0 : Int) < n by omega)
  have h4 := Int.emod_nonneg (i.tmod n + n) (show (n : Int) ≠ 0 by omega)
  omega
theorem out_none {C : Cou} {i : Int} (h : C.way = []) : C.out i = none := by
  unfold Cou.out
  rw [h]
  rfl
theorem out_some {C : Cou} {i : Int} (h : 0 < C.way.length) : ∃ x, C.way[outAt C.way.length i]? = some x ∧ C.out i = some (C.cut (outAt C.way.length i), x) := by
  have hl := outAt_lt h i
  refine ⟨C.way[outAt C.way.length i], List.getElem?_eq_getElem hl, ?_⟩
  unfold Cou.out
  rw [List.getElem?_eq_getElem hl]
theorem Cou.Wf.cut {n t : Int} {C : Cou} (W : C.Wf n t) (i : Nat) : (C.cut i).Wf n t :=
  ⟨W.hn, W.l7, W.nd, W.op, W.od, fun x hx => W.wy x (List.mem_of_mem_eraseIdx hx), Nat.le_trans (List.length_eraseIdx_le _ _) W.wl⟩
theorem Cou.Wf.act {n t : Int} {C : Cou} (W : C.Wf n t) {nd : Int} {a : ASt} (h1 : 1 ≤ nd) (ha : C.As[nd.toNat - 1]? = some a) (hd : a.done = false) (w : Wrd) : (C.act nd a w).Wf n t := by
  have N := W.nd _ a ha
  have T := take_took N.W w
  have hlt : nd.toNat - 1 < C.As.length := (List.getElem?_eq_some_iff.1 ha).1
  have hopn := W.od nd a h1 ha
  have hl : (C.act nd a w).As.length = C.As.length := List.length_set
  refine ⟨by rw [hl]; exact W.hn, by rw [hl]; exact W.l7, fun i x hx => ?_, fun k hk => ?_, fun k x hk hx => ?_, fun x hx => ?_, say_len W.wl⟩
  · rcases set_get ha hx with ⟨rfl, rfl⟩ | ⟨_, h⟩
    · exact ⟨T.n.trans N.n, T.t.trans N.t, T.me.trans N.me, (take_wf N.W w).1⟩
    · exact W.nd i x h
  · rw [hl]
    have hk : (if (a.take w).1.done = true then updB C.opn nd false else C.opn) k = true := hk
    split at hk
    · unfold updB at hk
      split at hk
      · cases hk
      · exact W.op k hk
    · exact W.op k hk
  · show (if (a.take w).1.done = true then updB C.opn nd false else C.opn) k = !x.done
    rcases set_get ha hx with ⟨h, rfl⟩ | ⟨hne, h⟩
    · have hkn : k = nd := by omega
      subst hkn
      cases hdn : (a.take w).1.done
      · rw [if_neg (by simp), hopn, hd]
      · rw [if_pos rfl]; unfold updB; rw [if_pos rfl]; rfl
    · have hkn : k ≠ nd := fun e => hne (by rw [e])
      have := W.od k x hk h
      split
      · unfold updB; rw [if_neg hkn]; exact this
      · exact this
  · rw [hl]
    rcases mem_say hx with h | ⟨_, h⟩
    · exact W.wy x h
    · exact h
theorem node_at {C : Cou} {nd : Int} (h1 : 1 ≤ nd) (h2 : nd ≤ (C.As.length : Int)) : ∃ a, C.As[nd.toNat - 1]? = some a := ⟨C.As[nd.toNat - 1]'(by omega), List.getElem?_eq_getElem _⟩
theorem take_closed {C : Cou} {nd : Int} {w : Wrd} (h : C.opn nd = false) : C.take nd w = C := by unfold Cou.take; rw [if_neg (by rw [h]; simp)]
theorem take_open {C : Cou} {nd : Int} {a : ASt} {w : Wrd} (h : C.opn nd = true) (ha : C.As[nd.toNat - 1]? = some a) : C.take nd w = C.act nd a w := by unfold Cou.take; rw [if_pos h, ha]
theorem Cou.Wf.take {n t : Int} {C : Cou} (W : C.Wf n t) (nd : Int) (w : Wrd) : (C.take nd w).Wf n t := by
  cases ho : C.opn nd
  · rw [take_closed ho]; exact W
  · obtain ⟨h1, h2⟩ := W.op nd ho
    obtain ⟨a, ha⟩ := node_at h1 h2
    rw [take_open ho ha]
    have := W.od nd a h1 ha
    rw [ho] at this
    have hd : a.done = false := by
      cases hd : a.done
      · rfl
      · rw [hd] at this; cases this
    exact W.act h1 ha hd w
theorem hon_spec {C : Cou} {nd : Int} : hon C nd = true ↔ 1 ≤ nd ∧ nd ≤ (C.As.length : Int) := by simp [hon]
theorem forge_spec {C : Cou} {nd : Int} {w : Wrd} (h : C.forgeOk nd w = true) : hon C nd = true ∧ hon C w.frm = false ∧ w.kind ≠ 4 ∧ C.way.length < 4096 := by
  simp only [Cou.forgeOk, Bool.and_eq_true, decide_eq_true_eq, Bool.not_eq_true'] at h
  exact ⟨h.1, h.2.1, h.2.2.1, h.2.2.2⟩
theorem Cou.Wf.deliver {n t : Int} {C : Cou} (W : C.Wf n t) (i : Int) : (C.deliver i).1.Wf n t := by
  unfold Cou.deliver
  rcases Nat.eq_zero_or_pos C.way.length with h | h
  · rw [out_none (List.eq_nil_of_length_eq_zero h)]; exact W
  · obtain ⟨x, _, e⟩ := out_some (i := i) h
    rw [e]
    exact (W.cut _).take _ _
theorem Cou.Wf.lose {n t : Int} {C : Cou} (W : C.Wf n t) (i : Int) : (C.lose i).1.Wf n t := by
  unfold Cou.lose
  rcases Nat.eq_zero_or_pos C.way.length with h | h
  · rw [out_none (List.eq_nil_of_length_eq_zero h)]; exact W
  · obtain ⟨x, _, e⟩ := out_some (i := i) h
    rw [e]
    exact W.cut _
theorem Cou.Wf.forge {n t : Int} {C : Cou} (W : C.Wf n t) (nd : Int) (w : Wrd) : (C.forge nd w).1.Wf n t := by
  unfold Cou.forge
  split
  · rename_i h
    obtain ⟨h1, h2, h3, h4⟩ := forge_spec h
    refine ⟨W.hn, W.l7, W.nd, W.op, W.od, fun x hx => ?_, by show (C.way ++ [_]).length ≤ 4096; rw [List.length_append]; simp; omega⟩
    rcases List.mem_append.1 hx with hx | hx
    · exact W.wy x hx
    · simp only [List.mem_singleton] at hx
      subst hx
      exact hon_spec.1 h1
  · exact W
theorem Cou.Wf.timeout {n t : Int} {C : Cou} (W : C.Wf n t) (nd s : Int) : (C.timeout nd s).1.Wf n t := by
  unfold Cou.timeout
  split
  · split
    · exact W.take _ _
    · exact W
  · exact W
theorem Cou.Wf.doit {n t : Int} {C : Cou} (W : C.Wf n t) (d : Deed) : (C.doit d).1.Wf n t := by
  unfold Cou.doit
  split
  · exact W.deliver _
  · split
    · exact W.lose _
    · split
      · exact W.forge _ _
      · split
        · exact W.timeout _ _
        · exact W

/-! ### no two decide otherwise -/
def Safe (n t : Int) (C : Cou) : Prop := ∃ H, Sys n t C.As H ∧ ∀ x ∈ C.way, Known C.As.length H x.w
theorem Safe.cut {n t : Int} {C : Cou} (Y : Safe n t C) (i : Nat) : Safe n t (C.cut i) := by
  obtain ⟨H, Y, K⟩ := Y
  exact ⟨H, Y, fun x hx => K x (List.mem_of_mem_eraseIdx hx)⟩
theorem Safe.take {n t : Int} {C : Cou} (Y : Safe n t C) {nd : Int} {w : Wrd} (W : C.Wf n t) (hw : w.kind = 4 ∨ ∀ H, Sys n t C.As H → (∀ x ∈ C.way, Known C.As.length H x.w) → Known C.As.length H w) : Safe n t (C.take nd w) := by
  cases ho : C.opn nd
  · rw [take_closed ho]; exact Y
  · obtain ⟨h1, h2⟩ := W.op nd ho
    obtain ⟨a, ha⟩ := node_at h1 h2
    rw [take_open ho ha]
    obtain ⟨H, Y, K⟩ := Y
    have N := W.nd _ a ha
    refine ⟨_, Y.take ha (hw.imp id fun f => f H Y K), fun x hx => ?_⟩
    have hl : (C.act nd a w).As.length = C.As.length := List.length_set
    rw [hl]
    rcases mem_say hx with h | ⟨h, _⟩
    · exact (K x h).add _ _
    · exact Y.out ha (take_said N.W w) x.w h
theorem Safe.take' {n t : Int} {C : Cou} {w : Wrd} (Y : ∃ H, Sys n t C.As H ∧ (∀ x ∈ C.way, Known C.As.length H x.w) ∧ Known C.As.length H w) {nd : Int} (W : C.Wf n t) : Safe n t (C.take nd w) := by
  cases ho : C.opn nd
  · rw [take_closed ho]
    obtain ⟨H, Y, K, _⟩ := Y
    exact ⟨H, Y, K⟩
  · obtain ⟨h1, h2⟩ := W.op nd ho
    obtain ⟨a, ha⟩ := node_at h1 h2
    rw [take_open ho ha]
    obtain ⟨H, Y, K, Kw⟩ := Y
    have N := W.nd _ a ha
    refine ⟨_, Y.take ha (.inr Kw), fun x hx => ?_⟩
    have hl : (C.act nd a w).As.length = C.As.length := List.length_set
    rw [hl]
    rcases mem_say hx with h | ⟨h, _⟩
    · exact (K x h).add _ _
    · exact Y.out ha (take_said N.W w) x.w h
theorem Safe.doit {n t : Int} {C : Cou} (Y : Safe n t C) (W : C.Wf n t) (d : Deed) : Safe n t (C.doit d).1 := by
  unfold Cou.doit
  split
  · unfold Cou.deliver
    rcases Nat.eq_zero_or_pos C.way.length with h | h
    · rw [out_none (List.eq_nil_of_length_eq_zero h)]; exact Y
    · obtain ⟨x, hx, e⟩ := out_some (i := d.at_) h
      rw [e]
      obtain ⟨H, Y, K⟩ := Y
      exact Safe.take' (C := C.cut _) ⟨H, Y, fun y hy => K y (List.mem_of_mem_eraseIdx hy), K x (List.mem_of_getElem? hx)⟩ (W.cut _)
  · split
    · unfold Cou.lose
      rcases Nat.eq_zero_or_pos C.way.length with h | h
      · rw [out_none (List.eq_nil_of_length_eq_zero h)]; exact Y
      · obtain ⟨x, hx, e⟩ := out_some (i := d.at_) h
        rw [e]
        exact Y.cut _
    · split
      · unfold Cou.forge
        split
        · rename_i hf
          obtain ⟨h1, h2, h3, h4⟩ := forge_spec hf
          obtain ⟨H, Y, K⟩ := Y
          refine ⟨H, Y, fun x hx => ?_⟩
          rcases List.mem_append.1 hx with hx | hx
          · exact K x hx
          · simp only [List.mem_singleton] at hx
            subst hx
            intro g1 g2
            have := hon_spec (C := C).2 ⟨g1, g2⟩
            rw [h2] at this
            cases this
        · exact Y
      · split
        · unfold Cou.timeout
          split
          · split
            · exact Y.take W (.inl rfl)
            · exact Y
          · exact Y
        · exact Y

/-! ### what is decided is some node's value -/
structure Vld (vs : List ByteArray) (a : ASt) : Prop where
  own : a.own ∈ vs
  p : ∀ w ∈ a.Ps, w.value ∈ vs
  v : 0 ≤ a.valR → a.val ∈ vs
  d : a.done = true → a.dec ∈ vs
def OkO (vs : List ByteArray) (o : List Wrd) : Prop := ∀ w ∈ o, w.kind = 1 → w.value ∈ vs
theorem Vld.begin {vs : List ByteArray} {a : ASt} (V : Vld vs a) (r : Int) : Vld vs (a.begin r) ∧ OkO vs (a.beginO r) := by
  refine ⟨?_, fun w hw _ => ?_⟩
  · unfold ASt.begin
    split
    · exact V
    · exact ⟨V.own, V.p, V.v, V.d⟩
  · unfold ASt.beginO at hw
    split at hw
    · cases hw
    · simp only [List.mem_singleton] at hw
      subst hw
      dsimp only
      split
      · exact V.own
      · exact V.v (by omega)
theorem okO_vote {vs : List ByteArray} (a : ASt) {k : Int} (hk : k ≠ 1) (v : ByteArray) : OkO vs (a.voteO k v) := fun w hw h => by
  simp only [ASt.voteO, List.mem_singleton] at hw
  subst hw
  exact absurd h hk
theorem Rul_vld {vs : List ByteArray} {a b : ASt} {o : List Wrd} (R : Rul a b o) (V : Vld vs a) : Vld vs b ∧ OkO vs o := by
  cases R with
  | dec q h0 h1 hp hm => exact ⟨⟨V.own, V.p, V.v, fun _ => V.p _ (prop_mem hp).1⟩, fun _ h => by cases h⟩
  | ahead h => exact V.begin _
  | pv => exact ⟨⟨V.own, V.p, V.v, V.d⟩, okO_vote a (by decide) _⟩
  | pc hn hs hp he hm =>
    have hv := V.p _ (prop_mem hp).1
    refine ⟨?_, ?_⟩
    · unfold ASt.lock5
      split
      · exact ⟨V.own, V.p, fun _ => hv, V.d⟩
      · exact ⟨V.own, V.p, fun _ => hv, V.d⟩
    · split
      · exact okO_vote a (by decide) _
      · exact fun _ h => by cases h
  | nil => exact ⟨⟨V.own, V.p, V.v, V.d⟩, okO_vote a (by decide) _⟩
theorem OkO.app {vs : List ByteArray} {o o' : List Wrd} (h : OkO vs o) (h' : OkO vs o') : OkO vs (o ++ o') := fun w hw => by
  rcases List.mem_append.1 hw with hw | hw
  · exact h w hw
  · exact h' w hw
theorem run_vld {vs : List ByteArray} {a : ASt} (W : a.Wf) (h0 : 0 ≤ a.round) (V : Vld vs a) : Vld vs a.run.1 ∧ OkO vs a.run.2 := by
  have := run_q (Q := fun a b o => Vld vs a → Vld vs b ∧ OkO vs o) W h0 (fun a _ _ V => ⟨V, fun _ h => by cases h⟩) fun a b c o o' W h0 hd R W' h V => by
    obtain ⟨V1, O1⟩ := Rul_vld R V
    obtain ⟨V2, O2⟩ := h V1
    exact ⟨V2, O1.app O2⟩
  exact this V
theorem timeout_vld {vs : List ByteArray} {a : ASt} (V : Vld vs a) (s : Int) : Vld vs (a.timeout s).1 ∧ OkO vs (a.timeout s).2 := by
  unfold ASt.timeout
  split
  · exact V.begin _
  · split
    · exact ⟨V, fun _ h => by cases h⟩
    · split
      · exact ⟨⟨V.own, V.p, V.v, V.d⟩, okO_vote a (by decide) _⟩
      · split
        · exact ⟨⟨V.own, V.p, V.v, V.d⟩, okO_vote a (by decide) _⟩
        · exact ⟨V, fun _ h => by cases h⟩
theorem take_vld {vs : List ByteArray} {a : ASt} (W : a.Wf) (V : Vld vs a) {w : Wrd} (hw : w.kind = 1 → w.value ∈ vs) : Vld vs (a.take w).1 ∧ OkO vs (a.take w).2 := by
  unfold ASt.take
  split
  · exact ⟨V, fun _ h => by cases h⟩
  · split
    · rename_i h1 h2
      obtain ⟨W1, h3⟩ := count_wf W (by omega) h2
      have : Vld vs (a.count w).1 ∧ OkO vs (a.count w).2 := by
        unfold ASt.count
        split
        · exact timeout_vld V _
        · split
          · rename_i hk
            refine ⟨⟨V.own, fun x hx => ?_, V.v, V.d⟩, fun _ h => by cases h⟩
            rcases List.mem_append.1 hx with hx | hx
            · exact V.p x hx
            · simp only [List.mem_singleton] at hx
              subst hx
              exact hw hk
          · exact ⟨⟨V.own, V.p, V.v, V.d⟩, fun _ h => by cases h⟩
      obtain ⟨V2, O2⟩ := run_vld W1 (by omega) this.1
      exact ⟨V2, this.2.app O2⟩
    · exact ⟨V, fun _ h => by cases h⟩
structure CVld (vs : List ByteArray) (C : Cou) : Prop where
  a : ∀ a ∈ C.As, Vld vs a
  w : ∀ x ∈ C.way, x.w.kind = 1 → x.w.value ∈ vs
theorem CVld.take {vs : List ByteArray} {n t : Int} {C : Cou} (V : CVld vs C) (W : C.Wf n t) {nd : Int} {w : Wrd} (hw : w.kind = 1 → w.value ∈ vs) : CVld vs (C.take nd w) := by
  cases ho : C.opn nd
  · rw [take_closed ho]; exact V
  · obtain ⟨h1, h2⟩ := W.op nd ho
    obtain ⟨a, ha⟩ := node_at h1 h2
    rw [take_open ho ha]
    obtain ⟨V1, O1⟩ := take_vld (W.nd _ a ha).W (V.a a (List.mem_of_getElem? ha)) hw
    refine ⟨fun x hx => ?_, fun x hx => ?_⟩
    · rcases mem_set hx with rfl | h
      · exact V1
      · exact V.a x h
    · rcases mem_say hx with h | ⟨h, _⟩
      · exact V.w x h
      · exact O1 x.w h
theorem CVld.doit {vs : List ByteArray} {n t : Int} {C : Cou} (V : CVld vs C) (W : C.Wf n t) {d : Deed} (hd : d.kind ≠ 3) : CVld vs (C.doit d).1 := by
  unfold Cou.doit
  split
  · unfold Cou.deliver
    rcases Nat.eq_zero_or_pos C.way.length with h | h
    · rw [out_none (List.eq_nil_of_length_eq_zero h)]; exact V
    · obtain ⟨x, hx, e⟩ := out_some (i := d.at_) h
      rw [e]
      exact CVld.take (C := C.cut _) ⟨V.a, fun y hy => V.w y (List.mem_of_mem_eraseIdx hy)⟩ (W.cut _) (V.w x (List.mem_of_getElem? hx))
  · split
    · unfold Cou.lose
      rcases Nat.eq_zero_or_pos C.way.length with h | h
      · rw [out_none (List.eq_nil_of_length_eq_zero h)]; exact V
      · obtain ⟨x, hx, e⟩ := out_some (i := d.at_) h
        rw [e]
        exact ⟨V.a, fun y hy => V.w y (List.mem_of_mem_eraseIdx hy)⟩
    · split
      · unfold Cou.timeout
        split
        · split
          · exact V.take W (fun h => absurd h (by show ¬ (4 : Int) = 1; decide))
          · exact V
        · exact V
      · exact V

/-! ### the beginning -/
def fA (n t h : Int) (vs : List ByteArray) (i : Nat) : ASt := newA n t ((i : Int) + 1) h ((vs[i]?).getD VoteM.empty)
def okC (n t h : Int) (vs : List ByteArray) : Bool := decide (1 ≤ n ∧ 0 ≤ t ∧ (vs.length : Int) = n - t) && (List.range vs.length).all fun i => okA n t ((i : Int) + 1) h ((vs[i]?).getD VoteM.empty)
def wayN (n t h : Int) (vs : List ByteArray) : Nat → List To
  | 0 => []
  | k + 1 => say vs.length (wayN n t h vs k) (fA n t h vs k).startO
def midA (n t h : Int) (vs : List ByteArray) (k : Nat) : List ASt := (List.range vs.length).map fun i => if i < k then (fA n t h vs i).start else fA n t h vs i
def opnN (k : Nat) (nd : Int) : Bool := decide (1 ≤ nd) && decide (nd ≤ (k : Int))
def newC (n t h : Int) (vs : List ByteArray) : Cou := ⟨midA n t h vs vs.length, opnN vs.length, wayN n t h vs vs.length⟩
theorem midA_len {n t h : Int} {vs : List ByteArray} {k : Nat} : (midA n t h vs k).length = vs.length := by simp [midA]
theorem midA_get {n t h : Int} {vs : List ByteArray} {k i : Nat} {a : ASt} (ha : (midA n t h vs k)[i]? = some a) : i < vs.length ∧ a = if i < k then (fA n t h vs i).start else fA n t h vs i := by
  have hi : i < vs.length := by have := (List.getElem?_eq_some_iff.1 ha).1; rwa [midA_len] at this
  refine ⟨hi, ?_⟩
  simp only [midA, List.getElem?_map, List.getElem?_range hi, Option.map_some, Option.some.injEq] at ha
  exact ha.symm
theorem midA_at {n t h : Int} {vs : List ByteArray} {k i : Nat} (hi : i < vs.length) : (midA n t h vs k)[i]? = some (if i < k then (fA n t h vs i).start else fA n t h vs i) := by
  simp only [midA, List.getElem?_map, List.getElem?_range hi, Option.map_some]
theorem midA_set {n t h : Int} {vs : List ByteArray} {k : Nat} (hk : k < vs.length) : (midA n t h vs k).set k (fA n t h vs k).start = midA n t h vs (k + 1) := by
  refine List.ext_getElem? fun j => ?_
  rw [List.getElem?_set]
  by_cases e : k = j
  · subst e
    rw [if_pos rfl, if_pos (by rw [midA_len]; exact hk), midA_at hk, if_pos (by omega)]
  · rw [if_neg e]
    rcases Nat.lt_or_ge j vs.length with hj | hj
    · rw [midA_at hj, midA_at hj]
      by_cases h1 : j < k
      · rw [if_pos h1, if_pos (by omega)]
      · rw [if_neg h1, if_neg (by omega)]
    · rw [List.getElem?_eq_none (by rw [midA_len]; exact hj), List.getElem?_eq_none (by rw [midA_len]; exact hj)]
theorem okC_spec {n t h : Int} {vs : List ByteArray} (hk : okC n t h vs = true) : 1 ≤ n ∧ 0 ≤ t ∧ (vs.length : Int) = n - t ∧ ∀ i, i < vs.length → okA n t ((i : Int) + 1) h ((vs[i]?).getD VoteM.empty) = true := by
  simp only [okC, Bool.and_eq_true, decide_eq_true_eq, List.all_eq_true, List.mem_range] at hk
  exact ⟨hk.1.1, hk.1.2.1, hk.1.2.2, hk.2⟩
theorem wayN_mem {n t h : Int} {vs : List ByteArray} {x : To} : ∀ {k : Nat}, x ∈ wayN n t h vs k → ∃ i, i < k ∧ x.w ∈ (fA n t h vs i).startO ∧ 1 ≤ x.node ∧ x.node ≤ (vs.length : Int)
  | 0, hx => by cases hx
  | k + 1, hx => by
    rcases mem_say hx with hx | ⟨h1, h2⟩
    · obtain ⟨i, h1, h2⟩ := wayN_mem hx
      exact ⟨i, by omega, h2⟩
    · exact ⟨k, by omega, h1, h2⟩
theorem wayN_len {n t h : Int} {vs : List ByteArray} : ∀ {k : Nat}, (wayN n t h vs k).length ≤ 4096
  | 0 => by simp [wayN]
  | _ + 1 => say_len wayN_len
theorem okA_q {n t me h : Int} {v : ByteArray} (hk : okA n t me h v = true) : quorum n t ≠ 0 := by
  simp only [okA, Bool.and_eq_true, decide_eq_true_eq] at hk
  exact hk.1
theorem okC_len {n t h : Int} {vs : List ByteArray} (hk : okC n t h vs = true) : vs.length ≤ 7 := by
  obtain ⟨k1, k2, k3, k4⟩ := okC_spec hk
  rcases Nat.eq_zero_or_pos vs.length with hp | hp
  · omega
  · have hq := okA_q (k4 0 hp)
    unfold quorum at hq
    split at hq
    · exact absurd rfl hq
    · omega
theorem newC_wf {n t h : Int} {vs : List ByteArray} (hk : okC n t h vs = true) : (newC n t h vs).Wf n t := by
  obtain ⟨k1, k2, k3, k4⟩ := okC_spec hk
  refine ⟨by show ((midA n t h vs vs.length).length : Int) = n - t; rw [midA_len]; exact k3, by show (midA n t h vs vs.length).length ≤ 7; rw [midA_len]; exact okC_len hk, fun i a ha => ?_, fun nd hnd => ?_, fun nd a h1 ha => ?_, fun x hx => ?_, wayN_len⟩
  · obtain ⟨hi, e⟩ := midA_get ha
    rw [if_pos hi] at e
    subst e
    have W := newA_wf (k4 i hi)
    have S := start_same (fA n t h vs i)
    exact ⟨S.n, S.t, S.me, (start_wf W).1⟩
  · show 1 ≤ nd ∧ nd ≤ ((midA n t h vs vs.length).length : Int)
    rw [midA_len]
    simpa [newC, opnN] using hnd
  · obtain ⟨hi, e⟩ := midA_get ha
    rw [if_pos hi] at e
    subst e
    have : (fA n t h vs (nd.toNat - 1)).start.done = false := by
      unfold ASt.start
      split
      · rfl
      · unfold ASt.begin
        split <;> rfl
    rw [this]
    show (decide (1 ≤ nd) && decide (nd ≤ (vs.length : Int))) = true
    simp; omega
  · obtain ⟨i, _, _, h2⟩ := wayN_mem hx
    show 1 ≤ x.node ∧ x.node ≤ ((midA n t h vs vs.length).length : Int)
    rw [midA_len]
    exact h2
theorem newC_safe {n t h : Int} {vs : List ByteArray} (hk : okC n t h vs = true) : Safe n t (newC n t h vs) := by
  have W := newC_wf hk
  obtain ⟨k1, k2, k3, k4⟩ := okC_spec hk
  have hS : ∀ i, i < vs.length → ∀ Pk, Hst Pk (fA n t h vs i).start (fA n t h vs i).startO := fun i hi Pk => by
    have := start_hst (newA_wf (k4 i hi)) (hst_new (Pk := Pk) (k4 i hi))
    rw [List.nil_append] at this
    exact this
  refine ⟨fun i => (fA n t h vs i).startO, ⟨W.hn, W.nd, fun a ha w hw => ?_, fun i a ha => ?_⟩, fun x hx => ?_⟩
  · obtain ⟨i, hi⟩ := List.mem_iff_getElem?.1 ha
    obtain ⟨hi', e⟩ := midA_get hi
    rw [if_pos hi'] at e
    subst e
    rw [(start_same (fA n t h vs i)).L] at hw
    cases hw
  · obtain ⟨hi', e⟩ := midA_get ha
    rw [if_pos hi'] at e
    subst e
    exact hS i hi' _
  · obtain ⟨i, hi, hw, _⟩ := wayN_mem hx
    intro g1 g2
    have := ((hS i hi (fun _ _ => True)).said x.w hw).2.1
    rw [(start_same (fA n t h vs i)).me] at this
    have this : x.w.frm = (i : Int) + 1 := this
    have e : x.w.frm.toNat - 1 = i := by omega
    rw [e]
    exact hw
theorem newC_vld {n t h : Int} {vs : List ByteArray} : CVld vs (newC n t h vs) := by
  have hV : ∀ i, i < vs.length → Vld vs (fA n t h vs i) := fun i hi => by
    refine ⟨?_, fun w hw => (by cases hw), fun h0 => absurd h0 (by show ¬ (0 : Int) ≤ -1; decide), fun hd => absurd (show false = true from hd) (by decide)⟩
    show (vs[i]?).getD VoteM.empty ∈ vs
    rw [List.getElem?_eq_getElem hi]
    exact List.getElem_mem hi
  refine ⟨fun a ha => ?_, fun x hx => ?_⟩
  · obtain ⟨i, hi⟩ := List.mem_iff_getElem?.1 ha
    obtain ⟨hi', e⟩ := midA_get hi
    rw [if_pos hi'] at e
    subst e
    unfold ASt.start
    split
    · exact hV i hi'
    · exact ((hV i hi').begin 0).1
  · obtain ⟨i, hi, hw, _⟩ := wayN_mem hx
    unfold ASt.startO at hw
    split at hw
    · cases hw
    · exact ((hV i hi).begin 0).2 x.w hw
end Go.Proofs.Ytboibdmflblphaa.CouM
