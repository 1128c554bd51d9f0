/-
  OF HONEST NODES NO TWO ARE TOLD OTHERWISE, OF ANY NODE's BROADCASTS. No program is in sight.
-/
import Derived.Test.YtibomfgeemhogaaCasM
import Derived.Test.YtibomfgeemhogaaCastA
namespace Go.Proofs.Ytibomfgeemhogaa.CasM
open CastM

/-- A node's parts, the told and the unopened ones too. -/
structure VK (K : KSt) (V : Key → CSt) : Prop where
  W : K.Wf
  c : ∀ k ∈ K.ks, K.C k = V k
  t : ∀ f s, 1 ≤ f → f ≤ K.n → 0 ≤ s → s < K.len f → (V (f, s)).done = true ∧ (K.T f.toNat)[s.toNat]? = some (V (f, s)).body
  o : ∀ k, k ∉ K.ks → 1 ≤ k.1 → k.1 ≤ K.n → K.len k.1 ≤ k.2 → V k = CastM.new K.n K.t k.1

theorem len_nn (K : KSt) (f : Int) : 0 ≤ K.len f := Int.natCast_nonneg _

theorem VK.tell {K : KSt} {V : Key → CSt} (H : VK K V) {f : Int} (hd : K.due f = true) : VK (K.tell f) V := by
  obtain ⟨hm, hdn⟩ := due_spec hd
  have hr := H.W.rng _ hm
  have hn : (f, K.len f).1 = f := rfl
  refine ⟨H.W.tell hd, fun k hk => H.c k (List.mem_of_mem_erase hk), fun g s g1 g2 s0 s1 => ?_, fun k hk k1 k2 k3 => ?_⟩
  · by_cases e : g = f
    · subst e
      rw [len_tell] at s1
      show _ ∧ (upd1 K.T g.toNat (K.T g.toNat ++ [(K.C (g, K.len g)).body]) g.toNat)[s.toNat]? = _
      rw [upd1_at]
      by_cases h : s < K.len g
      · obtain ⟨h1, h2⟩ := H.t g s g1 g2 s0 h
        refine ⟨h1, ?_⟩
        rw [List.getElem?_append_left (by unfold KSt.len at h; omega)]
        exact h2
      · have : s = K.len g := by omega
        subst this
        rw [← H.c _ hm]
        refine ⟨hdn, ?_⟩
        have : (K.len g).toNat = (K.T g.toNat).length := by unfold KSt.len; omega
        rw [this]
        simp
    · have hne : g.toNat ≠ f.toNat := by omega
      rw [len_tell_ne hne] at s1
      show _ ∧ (upd1 K.T f.toNat _ g.toNat)[s.toNat]? = _
      rw [upd1_ne hne]
      exact H.t g s g1 g2 s0 s1
  · by_cases e : k.1 = f
    · rw [e, len_tell] at k3
      have hk' : k ∉ K.ks := fun h => hk (by
        have : k ≠ (f, K.len f) := fun e' => by subst e'; simp at k3; omega
        exact (List.mem_erase_of_ne this).2 h)
      exact H.o k hk' k1 k2 (by rw [e]; omega)
    · rw [len_tell_ne (by omega)] at k3
      have hk' : k ∉ K.ks := fun h => hk ((List.mem_erase_of_ne (fun e' => e (by rw [e']))).2 h)
      exact H.o k hk' k1 k2 k3

theorem VK.tells {K : KSt} {V : Key → CSt} (H : VK K V) (f : Int) : VK (K.tells f) V := by
  unfold KSt.tells
  generalize K.ks.length = j
  induction j generalizing K with
  | zero => exact H
  | succ j ih =>
    simp only [tellF]
    split
    · rename_i hd; exact ih (H.tell hd)
    · exact H

theorem VK.opn {K : KSt} {V : Key → CSt} (H : VK K V) {w : Wd} (hm : K.may w = true) : (K.open1 (w.frm, w.seq)).C (w.frm, w.seq) = V (w.frm, w.seq) := by
  obtain ⟨h1, h2, h3, h4⟩ := may_spec hm
  by_cases hk : (w.frm, w.seq) ∈ K.ks
  · rw [show K.open1 (w.frm, w.seq) = K from if_pos hk]
    exact H.c _ hk
  · rw [show K.open1 (w.frm, w.seq) = { K with ks := K.ks ++ [(w.frm, w.seq)], C := upd1 K.C (w.frm, w.seq) (CastM.new K.n K.t w.frm) } from if_neg hk]
    show upd1 K.C _ _ _ = _
    rw [upd1_at]
    exact (H.o _ hk h1 h2 h3).symm
theorem VK.mid {K : KSt} {V : Key → CSt} (H : VK K V) {w : Wd} (hm : K.may w = true) (hW : (K.mid w).Wf) : VK (K.mid w) (upd1 V (w.frm, w.seq) ((V (w.frm, w.seq)).take w.m).1) := by
  obtain ⟨h1, h2, h3, h4⟩ := may_spec hm
  have hc := H.opn hm
  have hT : (K.mid w).T = K.T := open1_T
  have hn : (K.mid w).n = K.n := open1_n
  have ht : (K.mid w).t = K.t := open1_t
  have hl : ∀ f, (K.mid w).len f = K.len f := fun f => by unfold KSt.len; rw [hT]
  refine ⟨hW, fun k hk => ?_, fun f s f1 f2 s0 s1 => ?_, fun k hk k1 k2 k3 => ?_⟩
  · show upd1 (K.open1 (w.frm, w.seq)).C _ _ k = upd1 V _ _ k
    by_cases e : k = (w.frm, w.seq)
    · subst e; rw [upd1_at, upd1_at, hc]
    · rw [upd1_ne e, upd1_ne e]
      have hk' : k ∈ (K.open1 (w.frm, w.seq)).ks := hk
      by_cases hkk : (w.frm, w.seq) ∈ K.ks
      · rw [show K.open1 (w.frm, w.seq) = K from if_pos hkk] at hk' ⊢
        exact H.c k hk'
      · rw [show K.open1 (w.frm, w.seq) = { K with ks := K.ks ++ [(w.frm, w.seq)], C := upd1 K.C (w.frm, w.seq) (CastM.new K.n K.t w.frm) } from if_neg hkk] at hk' ⊢
        show upd1 K.C _ _ k = _
        rw [upd1_ne e]
        rcases List.mem_append.1 hk' with hk' | hk'
        · exact H.c k hk'
        · exact absurd (List.mem_singleton.1 hk') e
  · rw [hl] at s1
    rw [hn] at f2
    have e : (f, s) ≠ (w.frm, w.seq) := fun e => by
      have e1 := congrArg Prod.fst e
      have e2 := congrArg Prod.snd e
      dsimp only at e1 e2
      rw [e1, e2] at s1
      omega
    rw [upd1_ne e, hT]
    exact H.t f s f1 f2 s0 s1
  · rw [hn] at k2 ⊢
    rw [ht]
    rw [hl] at k3
    have hko : k ∉ K.ks ∧ k ≠ (w.frm, w.seq) := by
      refine ⟨fun h => hk ?_, fun e => hk (e ▸ open1_mem)⟩
      show k ∈ (K.open1 _).ks
      unfold KSt.open1
      split
      · exact h
      · exact List.mem_append_left _ h
    rw [upd1_ne hko.2]
    exact H.o k hko.1 k1 k2 k3
/-- What a word does to a node. -/
theorem VK.take {K : KSt} {V : Key → CSt} (H : VK K V) {w : Wd} (hm : K.may w = true) (hW : (K.mid w).Wf) :
    VK (K.take w).1 (upd1 V (w.frm, w.seq) ((V (w.frm, w.seq)).take w.m).1) ∧ (K.take w).2 = ((V (w.frm, w.seq)).take w.m).2.map fun m => ⟨w.frm, w.seq, m⟩ := by
  have e : K.take w = ((K.mid w).tells w.frm, K.out w) := by unfold KSt.take; rw [if_pos hm]
  rw [e]
  refine ⟨(H.mid hm hW).tells w.frm, ?_⟩
  show (((K.open1 (w.frm, w.seq)).C (w.frm, w.seq)).take w.m).2.map _ = _
  rw [H.opn hm]
theorem take_not {K : KSt} {w : Wd} (hm : K.may w = false) : K.take w = (K, []) := by unfold KSt.take; rw [if_neg (by rw [hm]; simp)]
theorem VK.new {n t : Int} (hq : quorum n t ≠ 0) : VK (newK n t) fun k => CastM.new n t k.1 :=
  ⟨.new hq, fun k hk => by simp [newK] at hk, fun f s _ _ s0 s1 => by simp [newK, KSt.len] at s1; omega, fun k _ _ _ _ => rfl⟩

structure ToW where
  node : Nat
  w : Wd
  deriving DecidableEq
def ontoW (way : List ToW) (h : Nat) (frm : Int) (l : List Wd) : List ToW := way ++ l.flatMap fun d => (List.range h).map fun k => ⟨k, { d with m := { d.m with frm := frm } }⟩
def proj (k : Key) (way : List ToW) : List To := (way.filter fun y => decide ((y.w.frm, y.w.seq) = k)).map fun y => ⟨y.node, y.w.m⟩
theorem mem_proj {k : Key} {way : List ToW} {x : To} (h : x ∈ proj k way) : ∃ y ∈ way, (y.w.frm, y.w.seq) = k ∧ x = ⟨y.node, y.w.m⟩ := by
  obtain ⟨y, hy, rfl⟩ := List.mem_map.1 h
  simp only [List.mem_filter, decide_eq_true_eq] at hy
  exact ⟨y, hy.1, hy.2, rfl⟩
theorem proj_mem {k : Key} {way : List ToW} {y : ToW} (h : y ∈ way) (hk : (y.w.frm, y.w.seq) = k) : (⟨y.node, y.w.m⟩ : To) ∈ proj k way :=
  List.mem_map.2 ⟨y, List.mem_filter.2 ⟨h, by simpa using hk⟩, rfl⟩
theorem Inv_mono {n t f : Int} {x : ByteArray} {ps : List CSt} {way way' : List To} {R : Nat → Option ByteArray} (I : Inv n t f x ps way R) (h : ∀ y ∈ way', y ∈ way) : Inv n t f x ps way' R :=
  ⟨I.len, I.wf, I.one, fun y hy => I.node y (h y hy), fun y hy => I.wmsg y (h y hy), I.cmsg, I.eq, I.rdy, I.dne⟩

theorem proj_onto {k k0 : Key} {way : List ToW} {h : Nat} {frm : Int} {l : List Wd} (hl : ∀ d ∈ l, (d.frm, d.seq) = k0) {y : To} (hy : y ∈ proj k (ontoW way h frm l)) :
    (k = k0 ∧ y ∈ onto (proj k way) h frm (l.map (·.m))) ∨ (k ≠ k0 ∧ y ∈ proj k way) := by
  obtain ⟨z, hz, hk, rfl⟩ := mem_proj hy
  rcases List.mem_append.1 hz with hz | hz
  · by_cases e : k = k0
    · exact .inl ⟨e, List.mem_append.2 (.inl (proj_mem hz hk))⟩
    · exact .inr ⟨e, proj_mem hz hk⟩
  · obtain ⟨d, hd, hz⟩ := List.mem_flatMap.1 hz
    obtain ⟨j, hj, rfl⟩ := List.mem_map.1 hz
    have e : k = k0 := by rw [← hk]; exact hl d hd
    refine .inl ⟨e, List.mem_append.2 (.inr (List.mem_flatMap.2 ⟨d.m, List.mem_map.2 ⟨d, hd, rfl⟩, List.mem_map.2 ⟨j, hj, rfl⟩⟩))⟩

/-- All nodes, all keys. -/
structure Sys (n t : Int) (xs : List ByteArray) (Ks : List KSt) (way : List ToW) (Vs : List (Key → CSt)) : Prop where
  len : Vs.length = Ks.length
  hn : (Ks.length : Int) = n - t
  vk : ∀ (i : Nat) (K : KSt) (V : Key → CSt), Ks[i]? = some K → Vs[i]? = some V → VK K V ∧ K.n = n ∧ K.t = t
  inv : ∀ f s (x : ByteArray), 1 ≤ f → f ≤ n → (f = 1 → 0 ≤ s → ∀ y, xs[s.toNat]? = some y → x = y) → ∃ R, Inv n t f x (Vs.map fun V => V (f, s)) (proj (f, s) way) R

theorem Sys.mono {n t : Int} {xs : List ByteArray} {Ks : List KSt} {way way' : List ToW} {Vs : List (Key → CSt)} (H : Sys n t xs Ks way Vs) (h : ∀ y ∈ way', y ∈ way) : Sys n t xs Ks way' Vs :=
  ⟨H.len, H.hn, H.vk, fun f s x f1 f2 hx => by
    obtain ⟨R, I⟩ := H.inv f s x f1 f2 hx
    exact ⟨R, Inv_mono I fun y hy => by obtain ⟨z, hz, hk, rfl⟩ := mem_proj hy; exact proj_mem (h z hz) hk⟩⟩

/-- A word comes to a node. -/
theorem Sys.take {n t : Int} {xs : List ByteArray} {Ks : List KSt} {way way' : List ToW} {Vs : List (Key → CSt)} (H : Sys n t xs Ks way Vs) {i : Nat} {K : KSt} {w : Wd} (hK : Ks[i]? = some K) (hW : K.may w = true → (K.mid w).Wf)
    (hw : ∀ y ∈ way', y ∈ way) (hm : (∃ y ∈ way, y.w = w) ∨ (Ks.length : Int) < w.m.frm) (hn' : (K.take w).1.n = K.n) (ht' : (K.take w).1.t = K.t) :
    ∃ Vs', Sys n t xs (Ks.set i (K.take w).1) (ontoW way' Ks.length (i + 1) (K.take w).2) Vs' := by
  have hi : i < Ks.length := (List.getElem?_eq_some_iff.1 hK).1
  obtain ⟨V, hV⟩ : ∃ V, Vs[i]? = some V := ⟨Vs[i]'(by rw [H.len]; exact hi), List.getElem?_eq_getElem (by rw [H.len]; exact hi)⟩
  obtain ⟨hvk, en, et⟩ := H.vk i K V hK hV
  cases hmay : K.may w with
  | false =>
    rw [take_not hmay]
    refine ⟨Vs, ?_⟩
    have e1 : Ks.set i K = Ks := by
      obtain ⟨h1, h2⟩ := List.getElem?_eq_some_iff.1 hK
      rw [← h2]; exact List.set_getElem_self h1
    show Sys n t xs (Ks.set i K) (ontoW way' Ks.length (i + 1) []) Vs
    rw [e1]
    exact H.mono fun y hy => hw y (by simpa [ontoW] using hy)
  | true =>
    obtain ⟨hv2, hout⟩ := hvk.take hmay (hW hmay)
    obtain ⟨h1, h2, h3, h4⟩ := may_spec hmay
    refine ⟨Vs.set i (upd1 V (w.frm, w.seq) ((V (w.frm, w.seq)).take w.m).1), by simp [H.len], by simpa using H.hn, fun j K' V' hj hj' => ?_, fun f s x f1 f2 hx => ?_⟩
    · rw [List.getElem?_set] at hj hj'
      by_cases e : i = j
      · subst e
        rw [if_pos rfl, if_pos hi] at hj
        rw [if_pos rfl, if_pos (by rw [H.len]; exact hi)] at hj'
        simp only [Option.some.injEq] at hj hj'
        subst hj; subst hj'
        exact ⟨hv2, hn'.trans en, ht'.trans et⟩
      · rw [if_neg e] at hj hj'
        exact H.vk j K' V' hj hj'
    · obtain ⟨R, I⟩ := H.inv f s x f1 f2 hx
      have hlen : (Vs.map fun V => V (f, s)).length = Ks.length := by rw [List.length_map, H.len]
      have hl : ∀ d ∈ (K.take w).2, (d.frm, d.seq) = (w.frm, w.seq) := by
        rw [hout]
        intro d hd
        obtain ⟨m, _, rfl⟩ := List.mem_map.1 hd
        rfl
      by_cases e : (f, s) = (w.frm, w.seq)
      · have hc : (Vs.map fun V => V (f, s))[i]? = some (V (f, s)) := by rw [List.getElem?_map, hV]; rfl
        have hmo : MsgOk (Vs.map fun V => V (f, s)).length x (Vs.map fun V => V (f, s)) R w.m := by
          rcases hm with ⟨y, hy, rfl⟩ | hm
          · exact I.wmsg ⟨y.node, y.w.m⟩ (proj_mem hy e.symm)
          · intro _ h; rw [hlen] at h; omega
        obtain ⟨R', I'⟩ := I.take (way' := proj (f, s) way') hc hmo fun y hy => by obtain ⟨z, hz, hk, rfl⟩ := mem_proj hy; exact proj_mem (hw z hz) hk
        refine ⟨R', ?_⟩
        have em : (Vs.set i (upd1 V (w.frm, w.seq) ((V (w.frm, w.seq)).take w.m).1)).map (fun V => V (f, s)) = (Vs.map fun V => V (f, s)).set i ((V (f, s)).take w.m).1 := by
          rw [List.map_set, ← e, upd1_at]
        rw [em]
        refine Inv_mono I' fun y hy => ?_
        rcases proj_onto hl hy with ⟨_, h⟩ | ⟨h, _⟩
        · rw [hlen]
          rw [hout, List.map_map] at h
          have : ((fun d : Wd => d.m) ∘ fun m => (⟨w.frm, w.seq, m⟩ : Wd)) = id := rfl
          rw [this, List.map_id, ← e] at h
          exact h
        · exact absurd e h
      · refine ⟨R, ?_⟩
        have em : (Vs.set i (upd1 V (w.frm, w.seq) ((V (w.frm, w.seq)).take w.m).1)).map (fun V => V (f, s)) = Vs.map fun V => V (f, s) := by
          rw [List.map_set, upd1_ne e]
          obtain ⟨q1, q2⟩ := List.getElem?_eq_some_iff.1 hV
          refine List.ext_getElem? fun j => ?_
          rw [List.getElem?_set, List.getElem?_map]
          by_cases ej : i = j
          · subst ej
            rw [if_pos rfl, hV]
            simp [q1]
          · rw [if_neg ej]
        rw [em]
        refine Inv_mono I fun y hy => ?_
        rcases proj_onto hl hy with ⟨h, _⟩ | ⟨_, h⟩
        · exact absurd h e
        · obtain ⟨z, hz, hk, rfl⟩ := mem_proj h
          exact proj_mem (hw z hz) hk
/-- The words that the sender says. -/
def wayS (h : Nat) : List ByteArray → Nat → List ToW
  | _, 0 => []
  | xs, i + 1 => ontoW (wayS h xs i) h 1 [⟨1, (i : Int), ⟨1, 0, (xs[i]?).getD CastM.empty⟩⟩]
theorem mem_wayS {h : Nat} {xs : List ByteArray} : ∀ {i : Nat} {y : ToW}, y ∈ wayS h xs i → y.node < h ∧ ∃ j, j < i ∧ y.w = ⟨1, (j : Int), ⟨1, 1, (xs[j]?).getD CastM.empty⟩⟩
  | 0, y, hy => by simp [wayS] at hy
  | i + 1, y, hy => by
    simp only [wayS] at hy
    rcases List.mem_append.1 hy with hy | hy
    · obtain ⟨h1, j, h2, h3⟩ := mem_wayS hy
      exact ⟨h1, j, by omega, h3⟩
    · simp only [List.flatMap_cons, List.flatMap_nil, List.append_nil, List.mem_map, List.mem_range] at hy
      obtain ⟨k, hk, rfl⟩ := hy
      exact ⟨hk, i, by omega, rfl⟩
theorem Sys.begin {n t : Int} (hq : quorum n t ≠ 0) {h : Nat} (hh : (h : Int) = n - t) (xs : List ByteArray) :
    ∃ Vs, Sys n t xs (List.replicate h (newK n t)) (wayS h xs xs.length) Vs := by
  obtain ⟨q0, q1, q2, q3⟩ := q_spec hq
  refine ⟨List.replicate h fun k => CastM.new n t k.1, by simp, by simpa using hh, fun i K V hK hV => ?_, fun f s x f1 f2 hx => ?_⟩
  · obtain rfl := (List.mem_replicate.1 (List.mem_of_getElem? hK)).2
    obtain rfl := (List.mem_replicate.1 (List.mem_of_getElem? hV)).2
    exact ⟨.new hq, rfl, rfl⟩
  · rw [List.map_replicate]
    refine ⟨_, Inv_mono (.begin hq f1 f2 hh rfl) fun y hy => ?_⟩
    obtain ⟨z, hz, hk, rfl⟩ := mem_proj hy
    obtain ⟨h1, j, h2, h3⟩ := mem_wayS hz
    rw [h3] at hk ⊢
    dsimp only at hk ⊢
    have e1 : f = 1 := (congrArg Prod.fst hk).symm
    have e2 : s = (j : Int) := (congrArg Prod.snd hk).symm
    have hj : xs[j]? = some xs[j] := List.getElem?_eq_getElem h2
    have := hx e1 (by omega) xs[j] (by rw [e2]; simp)
    rw [hj, Option.getD_some, ← this, if_pos (by omega), e1]
    simp only [onto, List.nil_append, List.flatMap_cons, List.flatMap_nil, List.append_nil, List.mem_map, List.mem_range]
    exact ⟨z.node, h1, rfl⟩
section
variable {n t : Int} {xs : List ByteArray} {Ks : List KSt} {way : List ToW} {Vs : List (Key → CSt)}
theorem Sys.told (H : Sys n t xs Ks way Vs) {i : Nat} {K : KSt} {f : Int} {p : Nat} (hK : Ks[i]? = some K) (f1 : 1 ≤ f) (f2 : f ≤ n) (hp : p < (K.T f.toNat).length) :
    ∃ V, Vs[i]? = some V ∧ (V (f, (p : Int))).done = true ∧ (K.T f.toNat)[p]? = some (V (f, (p : Int))).body := by
  have hi : i < Ks.length := (List.getElem?_eq_some_iff.1 hK).1
  obtain ⟨V, hV⟩ : ∃ V, Vs[i]? = some V := ⟨Vs[i]'(by rw [H.len]; exact hi), List.getElem?_eq_getElem (by rw [H.len]; exact hi)⟩
  obtain ⟨hvk, en, et⟩ := H.vk i K V hK hV
  obtain ⟨h1, h2⟩ := hvk.t f p f1 (by omega) (by omega) (by unfold KSt.len; omega)
  exact ⟨V, hV, h1, by simpa using h2⟩
theorem Sys.agree (H : Sys n t xs Ks way Vs) {i j : Nat} {K K' : KSt} {f : Int} {m : Nat} (hK : Ks[i]? = some K) (hK' : Ks[j]? = some K') (f1 : 1 ≤ f) (f2 : f ≤ n) (hm : m ≤ (K.T f.toNat).length) (hm' : m ≤ (K'.T f.toNat).length) :
    (K.T f.toNat).take m = (K'.T f.toNat).take m := by
  refine List.ext_getElem? fun p => ?_
  rw [List.getElem?_take, List.getElem?_take]
  split
  · obtain ⟨V, hV, hd, hb⟩ := H.told hK f1 f2 (p := p) (by omega)
    obtain ⟨V', hV', hd', hb'⟩ := H.told hK' f1 f2 (p := p) (by omega)
    rw [hb, hb']
    by_cases hx : f = 1 ∧ p < xs.length
    · obtain ⟨R, I⟩ := H.inv f p (xs[p]'hx.2) f1 f2 (fun _ _ y hy => by
        have hy : xs[p]? = some y := by simpa using hy
        have := List.getElem?_eq_getElem hx.2
        exact Option.some.inj (this.symm.trans hy))
      rw [I.agree (List.mem_map.2 ⟨V, List.mem_of_getElem? hV, rfl⟩) (List.mem_map.2 ⟨V', List.mem_of_getElem? hV', rfl⟩) hd hd']
    · obtain ⟨R, I⟩ := H.inv f p CastM.empty f1 f2 (fun e1 _ y hy => by
        have hy : xs[p]? = some y := by simpa using hy
        exact absurd ⟨e1, (List.getElem?_eq_some_iff.1 hy).1⟩ hx)
      rw [I.agree (List.mem_map.2 ⟨V, List.mem_of_getElem? hV, rfl⟩) (List.mem_map.2 ⟨V', List.mem_of_getElem? hV', rfl⟩) hd hd']
  · rfl
theorem Sys.valid (H : Sys n t xs Ks way Vs) {i : Nat} {K : KSt} (hn : 1 ≤ n) (hK : Ks[i]? = some K) : (K.T 1).length ≤ xs.length ∧ K.T 1 = xs.take (K.T 1).length := by
  have hi : i < Ks.length := (List.getElem?_eq_some_iff.1 hK).1
  have hl : (K.T 1).length ≤ xs.length := by
    rcases Nat.lt_or_ge xs.length (K.T 1).length with h | h
    · exfalso
      obtain ⟨V, hV, hd, hb⟩ := H.told (f := 1) hK (by omega) hn h
      have hx : ∀ x : ByteArray, (V (1, (xs.length : Int))).body = x := fun x => by
        obtain ⟨R, I⟩ := H.inv 1 xs.length x (by omega) hn (fun _ _ y hy => by simp at hy)
        exact I.valid (List.mem_map.2 ⟨V, List.mem_of_getElem? hV, rfl⟩) hd (by rw [List.length_map, H.len]; omega)
      have h1 := (hx CastM.empty).symm.trans (hx ⟨#[0]⟩)
      have := congrArg ByteArray.size h1
      simp [CastM.empty, ByteArray.size] at this
    · exact h
  refine ⟨hl, List.ext_getElem? fun p => ?_⟩
  rw [List.getElem?_take]
  split
  · rename_i hp
    obtain ⟨V, hV, hd, hb⟩ := H.told (f := 1) hK (by omega) hn hp
    have hp' : p < xs.length := by omega
    obtain ⟨R, I⟩ := H.inv 1 p (xs[p]'hp') (by omega) hn (fun _ _ y hy => by
        have hy : xs[p]? = some y := by simpa using hy
        have := List.getElem?_eq_getElem hp'
        exact Option.some.inj (this.symm.trans hy))
    have e := I.valid (List.mem_map.2 ⟨V, List.mem_of_getElem? hV, rfl⟩) hd (by rw [List.length_map, H.len]; omega)
    have hb : (K.T 1)[p]? = some (V (1, (p : Int))).body := hb
    rw [hb, List.getElem?_eq_getElem hp', e]
  · rename_i hp
    exact List.getElem?_eq_none (by omega)
end
end Go.Proofs.Ytibomfgeemhogaa.CasM
