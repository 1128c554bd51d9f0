/-
  A CALM RUN: THE WORLD. No program is in sight.
-/
import Derived.Test.YtboibdmflblphaaCalM
namespace Go.Proofs.Ytboibdmflblphaa.CouM
open VoteM AgrM

theorem sayF_eq {way : List To} {w : Wrd} : ∀ {i : Nat}, way.length + i ≤ 4096 → (sayF way w i).length = way.length + i ∧ (∀ y ∈ way, y ∈ sayF way w i) ∧ ∀ j : Nat, j < i → (⟨(j : Int) + 1, w⟩ : To) ∈ sayF way w i
  | 0, _ => ⟨rfl, fun _ h => h, fun j h => by omega⟩
  | i + 1, h => by
    obtain ⟨h1, h2, h3⟩ := sayF_eq (way := way) (w := w) (i := i) (by omega)
    have e : sayF way w (i + 1) = sayF way w i ++ [⟨(i : Int) + 1, w⟩] := if_pos (by omega)
    rw [e]
    refine ⟨by rw [List.length_append, h1]; simp; omega, fun y hy => List.mem_append_left _ (h2 y hy), fun j hj => ?_⟩
    by_cases ej : j = i
    · subst ej; exact List.mem_append_right _ (List.mem_singleton.2 rfl)
    · exact List.mem_append_left _ (h3 j (by omega))
theorem say_eq {m : Nat} : ∀ {l : List Wrd} {way : List To}, way.length + m * l.length ≤ 4096 → (say m way l).length = way.length + m * l.length ∧ (∀ y ∈ way, y ∈ say m way l) ∧ ∀ w ∈ l, ∀ j : Nat, j < m → (⟨(j : Int) + 1, w⟩ : To) ∈ say m way l
  | [], _, _ => ⟨rfl, fun _ h => h, fun w hw => by cases hw⟩
  | w :: l, way, h => by
    rw [List.length_cons, Nat.mul_succ] at h
    obtain ⟨g1, g2, g3⟩ := sayF_eq (way := way) (w := w) (i := m) (by omega)
    obtain ⟨h1, h2, h3⟩ := say_eq (m := m) (l := l) (way := sayF way w m) (by omega)
    refine ⟨?_, fun y hy => h2 y (g2 y hy), fun u hu j hj => ?_⟩
    · show (say m (sayF way w m) l).length = _
      rw [h1, g1, List.length_cons, Nat.mul_succ]; omega
    · rcases List.mem_cons.1 hu with rfl | hu
      · exact h2 _ (g3 j hj)
      · exact h3 u hu j hj
def lft (a : ASt) : Nat := (3 - a.step).toNat
def sumS (As : List ASt) : Nat := (As.map lft).sum
theorem sum_set : ∀ {l : List ASt} {i : Nat} {a b : ASt}, l[i]? = some a → sumS (l.set i b) + lft a = sumS l + lft b
  | [], _, _, _, h => by simp at h
  | x :: l, 0, a, b, h => by
    simp only [List.getElem?_cons_zero, Option.some.injEq] at h
    subst h
    simp only [sumS, List.set_cons_zero, List.map_cons, List.sum_cons]
    omega
  | x :: l, i + 1, a, b, h => by
    have := sum_set (l := l) (i := i) (a := a) (b := b) (by simpa using h)
    simp only [sumS, List.set_cons_succ, List.map_cons, List.sum_cons] at this ⊢
    omega
/-- Its sender has said it. -/
def Sd (As : List ASt) (w : Wrd) : Prop := ∃ (j : Nat) (b : ASt), As[j]? = some b ∧ w.frm = (j : Int) + 1 ∧ w.kind ≤ b.step
theorem Sd.set {As : List ASt} {i : Nat} {a b : ASt} {w : Wrd} (h : Sd As w) (ha : As[i]? = some a) (hs : a.step ≤ b.step) : Sd (As.set i b) w := by
  obtain ⟨j, c, h1, h2, h3⟩ := h
  by_cases e : i = j
  · subst e
    obtain rfl := Option.some.inj (ha.symm.trans h1)
    have hi := (List.getElem?_eq_some_iff.1 ha).1
    exact ⟨i, b, by rw [List.getElem?_set, if_pos rfl, if_pos hi], h2, by omega⟩
  · exact ⟨j, c, by rw [List.getElem?_set, if_neg e]; exact h1, h2, h3⟩
structure J (n t h : Int) (m : Nat) (pr : Int) (v : ByteArray) (C : Cou) : Prop where
  W : C.Wf n t
  len : C.As.length = m
  nd : ∀ (i : Nat) a, C.As[i]? = some a → Pc pr v a ∧ Qt a ∧ a.h = h
  wy : ∀ x ∈ C.way, GoodW m pr v x.w
  pp : ∀ (i : Nat) a, C.As[i]? = some a → a.done = true ∨ a.Ps ≠ [] ∨ (⟨(i : Int) + 1, prW pr v⟩ : To) ∈ C.way
  cv : ∀ (j : Nat) b (k : Int), C.As[j]? = some b → (k = 2 ∨ k = 3) → k ≤ b.step → ∀ (i : Nat) a, C.As[i]? = some a → a.done = true ∨ vtW k ((j : Int) + 1) v ∈ a.L ∨ (⟨(i : Int) + 1, vtW k ((j : Int) + 1) v⟩ : To) ∈ C.way
  sl : ∀ (i : Nat) a, C.As[i]? = some a → ∀ w ∈ a.L, Sd C.As w
  sw : ∀ y ∈ C.way, y.w.kind ≠ 1 → Sd C.As y.w
def Cou.mu (C : Cou) : Nat := C.way.length + C.As.length * sumS C.As
theorem mem_cutT {l : List To} {i : Nat} {x y : To} (hx : l[i]? = some x) (hy : y ∈ l) : y = x ∨ y ∈ l.eraseIdx i := by
  obtain ⟨j, hj⟩ := List.mem_iff_getElem?.1 hy
  by_cases e : j = i
  · subst e
    exact .inl (Option.some.inj (hj.symm.trans hx))
  · refine .inr (List.mem_eraseIdx_iff_getElem?.2 ⟨j, e, hj⟩)
theorem J.deliver {n t h : Int} {m : Nat} {pr : Int} {v : ByteArray} {C : Cou} (Y : J n t h m pr v C) (hv : v ≠ VoteM.empty) (hs : v.size ≤ 4096) (hp : pr = leader n h 0) (h1 : 1 ≤ pr) (h7 : pr ≤ 7) (n7 : n ≤ 7) (ht : 0 ≤ t) (hmu : C.mu ≤ 4096) (i : Int) (hw : 0 < C.way.length) :
    J n t h m pr v (C.deliver i).1 ∧ (C.deliver i).1.mu + 1 ≤ C.mu ∧ (C.deliver i).2 = true := by
  obtain ⟨x, hx, ho⟩ := out_some (i := i) hw
  have hd : C.deliver i = ((C.cut (outAt C.way.length i)).take x.node x.w, true) := by
    unfold Cou.deliver
    rw [ho]
  rw [hd]
  generalize hq : outAt C.way.length i = q at *
  have hxm : x ∈ C.way := List.mem_of_getElem? hx
  obtain ⟨x1, x2⟩ := Y.W.wy x hxm
  obtain ⟨a, ha⟩ := node_at x1 x2
  have hcl : (C.way.eraseIdx q).length + 1 = C.way.length := by
    have := (List.getElem?_eq_some_iff.1 hx).1
    rw [List.length_eraseIdx_of_lt this]
    omega
  have hod := Y.W.od x.node a x1 ha
  have hmn : (m : Int) = n - t := by rw [← Y.len]; exact Y.W.hn
  obtain ⟨P, Q, hah⟩ := Y.nd _ a ha
  have N := Y.W.nd _ a ha
  have hidx : ((x.node.toNat - 1 : Nat) : Int) + 1 = x.node := by omega
  cases hop : (C.cut q).opn x.node
  · rw [take_closed hop]
    have hop : C.opn x.node = false := hop
    have hdn : a.done = true := by
      rw [hop] at hod
      cases h : a.done
      · rw [h] at hod; cases hod
      · rfl
    have same : ∀ (j : Nat) b, C.As[j]? = some b → ((j : Int) + 1 = x.node) → b.done = true := fun j b hb e => by
      have : j = x.node.toNat - 1 := by omega
      rw [this] at hb
      obtain rfl := Option.some.inj (hb.symm.trans ha)
      exact hdn
    refine ⟨⟨Y.W.cut q, Y.len, Y.nd, fun y hy => Y.wy y (List.mem_of_mem_eraseIdx hy), fun j b hb => ?_, fun j b k hb hk hkb j2 b2 hb2 => ?_, Y.sl, fun y hy => Y.sw y (List.mem_of_mem_eraseIdx hy)⟩, ?_, rfl⟩
    · rcases Y.pp j b hb with g | g | g
      · exact .inl g
      · exact .inr (.inl g)
      · rcases mem_cutT hx g with e | g
        · exact .inl (same j b hb (by rw [← e]))
        · exact .inr (.inr g)
    · rcases Y.cv j b k hb hk hkb j2 b2 hb2 with g | g | g
      · exact .inl g
      · exact .inr (.inl g)
      · rcases mem_cutT hx g with e | g
        · exact .inl (same j2 b2 hb2 (by rw [← e]))
        · exact .inr (.inr g)
    · show (C.way.eraseIdx q).length + C.As.length * sumS C.As + 1 ≤ C.way.length + C.As.length * sumS C.As
      omega
  · have ha' : (C.cut q).As[x.node.toNat - 1]? = some a := ha
    rw [take_open hop ha']
    have hop : C.opn x.node = true := hop
    have hdn : a.done = false := by
      rw [hop] at hod
      cases h : a.done
      · rfl
      · rw [h] at hod; cases hod
    obtain ⟨P2, Q2, T⟩ := take_c hv hs P Q hdn (by rw [N.n, hah]; exact hp) h1 h7 (by rw [N.n]; omega : (m : Int) ≤ a.n) (by rw [N.n]; exact n7) (Y.wy x hxm)
    have T1 := take_took N.W x.w
    have hlt : x.node.toNat - 1 < C.As.length := (List.getElem?_eq_some_iff.1 ha).1
    have hsum := sum_set (b := (a.take x.w).1) ha
    have S1 := P.W.s
    have S2 := P2.W.s
    have r1 := P.r
    have r2 := P2.r
    have hlf : (a.take x.w).2.length + lft (a.take x.w).1 = lft a := by
      have e3 := T.o3
      have e4 := T.le
      unfold lft
      omega
    have hS : sumS (C.As.set (x.node.toNat - 1) (a.take x.w).1) + (a.take x.w).2.length = sumS C.As := by omega
    have hmul : C.As.length * sumS (C.As.set (x.node.toNat - 1) (a.take x.w).1) + C.As.length * (a.take x.w).2.length = C.As.length * sumS C.As := by rw [← Nat.mul_add, hS]
    unfold Cou.mu at hmu
    have hcap : (C.way.eraseIdx q).length + C.As.length * (a.take x.w).2.length ≤ 4096 := by omega
    obtain ⟨y1, y2, y3⟩ := say_eq (m := C.As.length) (l := (a.take x.w).2) (way := C.way.eraseIdx q) hcap
    have hway : ((C.cut q).act x.node a x.w).way = say C.As.length (C.way.eraseIdx q) (a.take x.w).2 := rfl
    have hAs : ((C.cut q).act x.node a x.w).As = C.As.set (x.node.toNat - 1) (a.take x.w).1 := rfl
    have hme : a.me = x.node := by rw [N.me]; omega
    have get : ∀ (j : Nat) b, (C.As.set (x.node.toNat - 1) (a.take x.w).1)[j]? = some b → (j = x.node.toNat - 1 ∧ b = (a.take x.w).1) ∨ (j ≠ x.node.toNat - 1 ∧ C.As[j]? = some b) := fun j b hb => set_get ha hb
    refine ⟨⟨(Y.W.cut q).act x1 ha' hdn x.w, by rw [hAs, List.length_set]; exact Y.len, fun j b hb => ?_, fun y hy => ?_, fun j b hb => ?_, fun j b k hb hk hkb j2 b2 hb2 => ?_, fun j b hb w hw => ?_, fun y hy hk => ?_⟩, ?_, rfl⟩
    · rw [hAs] at hb
      rcases get j b hb with ⟨_, rfl⟩ | ⟨_, hb⟩
      · exact ⟨P2, Q2, T1.h.trans hah⟩
      · exact Y.nd j b hb
    · rw [hway] at hy
      rcases mem_say hy with hy | ⟨hy, _⟩
      · exact Y.wy y (List.mem_of_mem_eraseIdx hy)
      · obtain ⟨k, k1, k2, e⟩ := T.o2 _ hy
        exact .inr ⟨k, a.me, by omega, by omega, by rw [← Y.len]; omega, e⟩
    · rw [hAs] at hb
      rw [hway]
      rcases get j b hb with ⟨e, rfl⟩ | ⟨e, hb⟩
      · rcases Y.pp _ a ha with g | g | g
        · rw [hdn] at g; cases g
        · exact .inr (.inl (T.P g))
        · rcases mem_cutT hx g with e2 | g
          · exact .inr (.inl (T.wp (by rw [← e2]; rfl)))
          · refine .inr (.inr (y2 _ ?_))
            rw [e]; exact g
      · rcases Y.pp j b hb with g | g | g
        · exact .inl g
        · exact .inr (.inl g)
        · rcases mem_cutT hx g with e2 | g
          · exact absurd (show (j : Int) + 1 = x.node by rw [← e2]) (by omega)
          · exact .inr (.inr (y2 _ g))
    · rw [hAs] at hb hb2
      rw [hway]
      have old : ∀ (jj : Nat) bb, C.As[jj]? = some bb → k ≤ bb.step → b2.done = true ∨ vtW k ((jj : Int) + 1) v ∈ b2.L ∨ (⟨(j2 : Int) + 1, vtW k ((jj : Int) + 1) v⟩ : To) ∈ say C.As.length (C.way.eraseIdx q) (a.take x.w).2 := fun jj bb hbb hkk => by
        rcases get j2 b2 hb2 with ⟨e, rfl⟩ | ⟨e, hb2⟩
        · rcases Y.cv jj bb k hbb hk hkk _ a ha with g | g | g
          · rw [hdn] at g; cases g
          · exact .inr (.inl (T.L _ g))
          · rcases mem_cutT hx g with e2 | g
            · refine .inr (.inl ?_)
              have e3 : x.w = vtW k ((jj : Int) + 1) v := by rw [← e2]
              rw [← e3]
              exact T.wl (by rw [e3]; show ¬ k = 1; omega)
            · refine .inr (.inr (y2 _ ?_))
              rw [e]; exact g
        · rcases Y.cv jj bb k hbb hk hkk j2 b2 hb2 with g | g | g
          · exact .inl g
          · exact .inr (.inl g)
          · rcases mem_cutT hx g with e2 | g
            · exact absurd (show (j2 : Int) + 1 = x.node by rw [← e2]) (by omega)
            · exact .inr (.inr (y2 _ g))
      rcases get j b hb with ⟨e, rfl⟩ | ⟨_, hb⟩
      · rcases Int.lt_or_le a.step k with hk2 | hk2
        · have hin := T.o1 k hk2 hkb
          have hj2 : j2 < C.As.length := by
            have := (List.getElem?_eq_some_iff.1 hb2).1
            rwa [List.length_set] at this
          refine .inr (.inr ?_)
          have := y3 _ hin j2 hj2
          rw [show (j : Int) + 1 = a.me by omega]
          exact this
        · have := old _ a ha hk2
          rw [e]; exact this
      · exact old j b hb hkb
    · rw [hAs] at hb ⊢
      refine Sd.set ?_ ha T.le
      rcases get j b hb with ⟨e, rfl⟩ | ⟨e, hb⟩
      · rcases T.L2 w hw with g | ⟨g, gk⟩
        · exact Y.sl _ a ha w g
        · rw [g]; exact Y.sw x hxm gk
      · exact Y.sl j b hb w hw
    · rw [hway] at hy
      rw [hAs]
      rcases mem_say hy with hy | ⟨hy, _⟩
      · exact Sd.set (Y.sw y (List.mem_of_mem_eraseIdx hy) hk) ha T.le
      · obtain ⟨k, k1, k2, e⟩ := T.o2 _ hy
        refine ⟨x.node.toNat - 1, (a.take x.w).1, by rw [List.getElem?_set, if_pos rfl, if_pos hlt], ?_, ?_⟩
        · rw [e]; show a.me = _; omega
        · rw [e]; exact k2
    · show (say C.As.length (C.way.eraseIdx q) (a.take x.w).2).length + (C.As.set (x.node.toNat - 1) (a.take x.w).1).length * sumS (C.As.set (x.node.toNat - 1) (a.take x.w).1) + 1 ≤ C.way.length + C.As.length * sumS C.As
      rw [y1, List.length_set]
      omega
/-- When nothing is under way, all have decided. -/
theorem J.fin {n t h : Int} {m : Nat} {pr : Int} {v : ByteArray} {C : Cou} (Y : J n t h m pr v C) (hv : v ≠ VoteM.empty) (hq : quorum n t ≤ (m : Int)) (hw : C.way.length = 0) : ∀ (i : Nat) a, C.As[i]? = some a → a.done = true ∧ a.dec = v := by
  have hnil := List.eq_nil_of_length_eq_zero hw
  have hPs : ∀ (i : Nat) a, C.As[i]? = some a → a.done = true ∨ a.Ps ≠ [] := fun i a ha => by
    rcases Y.pp i a ha with g | g | g
    · exact .inl g
    · exact .inr g
    · rw [hnil] at g; cases g
  have hN : ∀ (i : Nat) a, C.As[i]? = some a → a.n = n ∧ a.t = t := fun i a ha => ⟨(Y.W.nd i a ha).n, (Y.W.nd i a ha).t⟩
  -- who is not done has each word that is said
  have hcv : ∀ (i : Nat) a, C.As[i]? = some a → a.done = false → ∀ (j : Nat) b (k : Int), C.As[j]? = some b → (k = 2 ∨ k = 3) → k ≤ b.step → vtW k ((j : Int) + 1) v ∈ a.L := fun i a ha hd j b k hb hk hkb => by
    rcases Y.cv j b k hb hk hkb i a ha with g | g | g
    · rw [hd] at g; cases g
    · exact g
    · rw [hnil] at g; cases g
  have hopen : ∀ (i : Nat) a, C.As[i]? = some a → a.done = false → a.Ps ≠ [] ∧ a.rule = none := fun i a ha hd => by
    refine ⟨(hPs i a ha).resolve_left (by rw [hd]; decide), (Y.nd i a ha).2.1.resolve_left (by rw [hd]; decide)⟩
  have hdone : ∀ (i : Nat) a, C.As[i]? = some a → a.done = true := fun i a ha => by
    cases hd : a.done
    · exfalso
      obtain ⟨h1, h2⟩ := hopen i a ha hd
      obtain ⟨en, et⟩ := hN i a ha
      have P := (Y.nd i a ha).1
      by_cases hex : ∃ (j : Nat) (b : ASt), C.As[j]? = some b ∧ b.done = true
      · obtain ⟨j, b, hb, hbd⟩ := hex
        have Pb := (Y.nd j b hb).1
        obtain ⟨en', et'⟩ := hN j b hb
        refine quiet3 hv P h2 h1 (Int.le_trans ?_ (Int.ofNat_le.2 (cnt_sub (v := v) (k := 3) Pb.W.v (L' := a.L) fun w hw e1 e2 e3 => ?_)))
        · have := Pb.dq hbd
          rw [en', et'] at this
          rw [en, et]
          exact this
        · obtain ⟨j2, c, hc, hf, hk⟩ := Y.sl j b hb w hw
          rw [Pb.L w hw, hf, e1]
          exact hcv i a ha hd j2 c 3 hc (.inr rfl) (by omega)
      · have hall : ∀ (j : Nat) b, C.As[j]? = some b → b.done = false := fun j b hb => by
          cases h : b.done
          · rfl
          · exact absurd ⟨j, b, hb, h⟩ hex
        have node : ∀ j : Int, 1 ≤ j → j ≤ (m : Int) → ∃ b, C.As[j.toNat - 1]? = some b := fun j j1 j2 => ⟨C.As[j.toNat - 1]'(by rw [Y.len]; omega), List.getElem?_eq_getElem _⟩
        have st2 : ∀ (j : Nat) b, C.As[j]? = some b → 2 ≤ b.step := fun j b hb => by
          obtain ⟨g1, g2⟩ := hopen j b hb (hall j b hb)
          have Pb := (Y.nd j b hb).1
          have q1 := quiet1 hv Pb g2 g1
          have S := Pb.W.s
          have := Pb.r
          omega
        have all2 : ∀ (i2 : Nat) c, C.As[i2]? = some c → (m : Int) ≤ (cntV c.L 2 0 v : Nat) := fun i2 c hc => by
          refine Int.ofNat_le.2 (cnt_ge fun j j1 j2 => ?_)
          obtain ⟨b, hb⟩ := node j j1 j2
          have := hcv i2 c hc (hall i2 c hc) _ b 2 hb (.inl rfl) (st2 _ b hb)
          rwa [show ((j.toNat - 1 : Nat) : Int) + 1 = j by omega] at this
        have st3 : ∀ (j : Nat) b, C.As[j]? = some b → 3 ≤ b.step := fun j b hb => by
          obtain ⟨g1, g2⟩ := hopen j b hb (hall j b hb)
          have Pb := (Y.nd j b hb).1
          obtain ⟨en', et'⟩ := hN j b hb
          have q2 := quiet2 hv Pb g2 g1 (by rw [en', et']; exact Int.le_trans hq (all2 j b hb))
          have := st2 j b hb
          omega
        refine quiet3 hv P h2 h1 ?_
        rw [en, et]
        refine Int.le_trans hq (Int.ofNat_le.2 (cnt_ge fun j j1 j2 => ?_))
        obtain ⟨b, hb⟩ := node j j1 j2
        have := hcv i a ha hd _ b 3 hb (.inr rfl) (st3 _ b hb)
        rwa [show ((j.toNat - 1 : Nat) : Int) + 1 = j by omega] at this
    · rfl
  exact fun i a ha => ⟨hdone i a ha, (Y.nd i a ha).1.dn (hdone i a ha)⟩
end Go.Proofs.Ytboibdmflblphaa.CouM
