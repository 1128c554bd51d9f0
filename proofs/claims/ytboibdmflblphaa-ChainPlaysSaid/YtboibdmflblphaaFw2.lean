/-
  Frames as lists of slots, memory as a list of resources; one lemma an operation.
-/
import Derived.Test.YtboibdmflblphaaFw1
import Derived.KernelRfl
namespace Go.Proofs.Ytboibdmflblphaa.Fw
open Go

/-! ### frames -/
def lk : List (Nat × Value) → Nat → Option Value
  | [], _ => none
  | (j, v) :: l, i => match Nat.beq j i with
    | true => some v
    | false => lk l i

structure Fr (n : Nat) (a : Act) (l : List (Nat × Value)) : Prop where
  sz : a.tmps.size = n
  df : a.defers = []
  at_ : ∀ i v, lk l i = some v → a.tmps[i]? = some v

theorem Fr.put {n : Nat} {a : Act} {l : List (Nat × Value)} (F : Fr n a l) {d : Nat} (hd : Nat.blt d n = true) (v : Value) : Fr n (a.put (some d) v) ((d, v) :: l) := by
  have hd' : d < n := by simpa [Nat.blt_eq] using hd
  refine ⟨by simp [Act.put, F.sz], F.df, fun i u h => ?_⟩
  simp only [lk] at h
  simp only [Act.put]
  split at h
  · rename_i e
    have e : d = i := Nat.eq_of_beq_eq_true e
    subst e
    cases h
    simp [F.sz, hd']
  · rename_i e
    have e : d ≠ i := by intro h; subst h; simp at e
    rw [Array.getElem?_setIfInBounds_ne e]
    exact F.at_ i u h

/-- Fewer slots are told. -/
theorem Fr.less {n : Nat} {a : Act} {l l' : List (Nat × Value)} (F : Fr n a l) (h : ∀ i v, lk l' i = some v → lk l i = some v) : Fr n a l' := ⟨F.sz, F.df, fun i v hv => F.at_ i v (h i v hv)⟩

def sub : List (Nat × Value) → List Nat → Option (List (Nat × Value))
  | _, [] => some []
  | l, i :: r => match lk l i, sub l r with
    | some v, some s => some ((i, v) :: s)
    | _, _ => none

theorem sub_spec {l : List (Nat × Value)} : ∀ {r : List Nat} {s : List (Nat × Value)}, sub l r = some s → ∀ i v, lk s i = some v → lk l i = some v
  | [], s, h, i, v, hv => by simp only [sub, Option.some.injEq] at h; subst h; simp [lk] at hv
  | j :: r, s, h, i, v, hv => by
    simp only [sub] at h
    split at h
    · rename_i u s' h1 h2
      simp only [Option.some.injEq] at h
      subst h
      simp only [lk] at hv
      split at hv
      · rename_i e
        have e := Nat.eq_of_beq_eq_true e
        subst e
        rw [h1, ← hv]
      · exact sub_spec h2 i v hv
    · cases h

/-- Keep the slots of a list. -/
theorem Fr.keep {n : Nat} {a : Act} {l s : List (Nat × Value)} (F : Fr n a l) (r : List Nat) (h : sub l r = some s) : Fr n a s := F.less (sub_spec h)

def ev (l : List (Nat × Value)) : Operand → Option Value
  | .tmp i => lk l i
  | .const v => some v
  | .func f => some (.func (.func f) #[] #[])
  | .global g => some (.pointer (some ⟨g, 0, none⟩))

theorem Fr.ev {n : Nat} {a : Act} {l : List (Nat × Value)} (F : Fr n a l) {x : Operand} {v : Value} (h : ev l x = some v) : a.eval x = v := by
  cases x with
  | tmp i => simp only [Fw.ev] at h; simp [Act.eval, F.at_ i v h]
  | const u => simp only [Fw.ev, Option.some.injEq] at h; exact h
  | func f => simp only [Fw.ev, Option.some.injEq] at h; exact h
  | global g => simp only [Fw.ev, Option.some.injEq] at h; exact h

def evs (l : List (Nat × Value)) : List Operand → Option (List Value)
  | [] => some []
  | x :: r => match ev l x, evs l r with
    | some v, some s => some (v :: s)
    | _, _ => none

theorem Fr.evs {n : Nat} {a : Act} {l : List (Nat × Value)} (F : Fr n a l) : ∀ {xs : List Operand} {vs : List Value}, evs l xs = some vs → xs.map a.eval = vs
  | [], vs, h => by simp only [Fw.evs, Option.some.injEq] at h; simp [h]
  | x :: r, vs, h => by
    simp only [Fw.evs] at h
    split at h
    · rename_i v s h1 h2
      simp only [Option.some.injEq] at h
      subst h
      simp [F.ev h1, F.evs h2]
    · cases h

/-- What a guard says. -/
def gd (ops : List Oper) (l : List (Nat × Value)) (j : Nat) : Option Bool :=
  match nth ops j with
  | some o => match o.dst with
    | some d => match lk l d with
      | some (.bool b) => some b
      | _ => none
    | none => none
  | none => none

theorem Fr.yielded {n : Nat} {a : Act} {l : List (Nat × Value)} (F : Fr n a l) {ops : List Oper} {j : Nat} {b : Bool} (h : gd ops l j = some b) : yielded ops.toArray a.tmps j = some b := by
  unfold gd at h
  unfold Go.yielded
  rw [nth_eq] at h
  simp only [List.getElem?_toArray]
  cases ho : ops[j]? with
  | none => rw [ho] at h; cases h
  | some o =>
    simp only [ho] at h
    cases hd : o.dst with
    | none => rw [hd] at h; cases h
    | some d =>
      simp only [hd] at h
      cases hl : lk l d with
      | none => rw [hl] at h; cases h
      | some v =>
        simp only [hl] at h
        cases v <;> simp only [Option.some.injEq, reduceCtorEq] at h
        subst h
        simp [hd, F.at_ d _ hl]

/-- Does the guard's operation lie without a value? -/
def gu (ops : List Oper) (l : List (Nat × Value)) (j : Nat) : Bool :=
  match nth ops j with
  | some o => match o.dst with
    | some d => match lk l d with
      | some (.tuple _) => true
      | _ => false
    | none => false
  | none => false

theorem Fr.unyielded {n : Nat} {a : Act} {l : List (Nat × Value)} (F : Fr n a l) {ops : List Oper} {j : Nat} (h : gu ops l j = true) : Go.yielded ops.toArray a.tmps j = none := by
  unfold gu at h
  unfold Go.yielded
  rw [nth_eq] at h
  simp only [List.getElem?_toArray]
  cases ho : ops[j]? with
  | none => rw [ho] at h; cases h
  | some o =>
    simp only [ho] at h
    cases hd : o.dst with
    | none => rw [hd] at h; cases h
    | some d =>
      simp only [hd] at h
      cases hl : lk l d with
      | none => rw [hl] at h; cases h
      | some v =>
        simp only [hl] at h
        cases v <;> try (cases h; done)
        simp [hd, F.at_ d _ hl]

/-- Is it wanted? -/
def wn (ops : List Oper) (l : List (Nat × Value)) : Option (Nat × Bool) → Option Bool
  | none => some true
  | some (j, want) => match gd ops l j with
    | some true => some want
    | some false => some (!want)
    | none => match gu ops l j with
      | true => some false
      | false => none

theorem Fr.wanted {n : Nat} {a : Act} {l : List (Nat × Value)} (F : Fr n a l) {ops : List Oper} {o : Oper} {b : Bool} (h : wn ops l o.guard = some b) : Region.wanted o (Go.yielded ops.toArray a.tmps) = b := by
  unfold Region.wanted
  cases hg : o.guard with
  | none => rw [hg] at h; simp only [wn, Option.some.injEq] at h; exact h
  | some g =>
    obtain ⟨j, want⟩ := g
    simp only [hg, wn] at h
    cases hb : gd ops l j with
    | none =>
      rw [hb] at h
      simp only at h
      cases hu : gu ops l j with
      | true =>
        rw [hu] at h
        simp only [Option.some.injEq] at h
        subst h
        simp [F.unyielded hu]
      | false => rw [hu] at h; cases h
    | some c =>
      simp only [F.yielded hb]
      cases c <;> simp only [hb, Option.some.injEq] at h <;> subst h <;> cases want <;> rfl

/-! ### memory -/
structure Res where
  tag : Nat
  foot : List Nat
  ok : Array Obj → Prop
  loc : ∀ h h', (∀ b ∈ foot, h'[b]? = h[b]?) → ok h → ok h'

def blk (b : Nat) (o : Obj) : Res := ⟨0, [b], fun h => h[b]? = some o, fun _ _ h e => (h b List.mem_cons_self).trans e⟩

/-- w lies behind w0: what is not in S is as it was. -/
structure Chg (S : Nat → Prop) (w0 w : World) : Prop where
  size : w0.heap.size ≤ w.heap.size
  keep : ∀ b, b < w0.heap.size → ¬ S b → w.heap[b]? = w0.heap[b]?
  fz : ∀ a, w.frozen? a = w0.frozen? a
  os : w.os = w0.os
  tape : w.tape = w0.tape
  out : w.output = w0.output

theorem Chg.refl (S : Nat → Prop) (w : World) : Chg S w w := ⟨Nat.le_refl _, fun _ _ _ => rfl, fun _ => rfl, rfl, rfl, rfl⟩
theorem Chg.trans {S S' : Nat → Prop} {w0 w w' : World} (h : Chg S w0 w) (h' : Chg S' w w') (hs : ∀ b, S' b → S b ∨ w0.heap.size ≤ b) : Chg S w0 w' :=
  ⟨Nat.le_trans h.size h'.size, fun b hb hn => (h'.keep b (Nat.lt_of_lt_of_le hb h.size) fun hs' => (hs b hs').elim hn (fun h => absurd h (by omega))).trans (h.keep b hb hn), fun a => (h'.fz a).trans (h.fz a),
    h'.os.trans h.os, h'.tape.trans h.tape, h'.out.trans h.out⟩
theorem Chg.drewN {S : Nat → Prop} {w0 w : World} (h : Chg S w0 w) (n : Nat) : Chg S w0 (w.drewN n) := ⟨h.size, h.keep, h.fz, h.os, h.tape, h.out⟩
def foots (m : List Res) : List Nat := m.flatMap (·.foot)

structure Own (h : Array Obj) (m : List Res) : Prop where
  ok : ∀ r ∈ m, r.ok h
  lt : ∀ b ∈ foots m, b < h.size
  nd : (foots m).Nodup

structure Sep (S : Nat → Prop) (w0 w : World) (m : List Res) : Prop where
  own : Own w.heap m
  mine : ∀ b ∈ foots m, S b ∨ w0.heap.size ≤ b
  chg : Chg S w0 w

theorem Own.perm {w : Array Obj} {m m' : List Res} (h : Own w m) (hp : m.Perm m') : Own w m' := by
  have hf : (foots m).Perm (foots m') := hp.flatMap_right _
  exact ⟨fun r hr => h.ok r (hp.mem_iff.2 hr), fun b hb => h.lt b (hf.mem_iff.2 hb), hf.nodup_iff.1 h.nd⟩
theorem Sep.perm {S : Nat → Prop} {w0 w : World} {m m' : List Res} (h : Sep S w0 w m) (hp : m.Perm m') : Sep S w0 w m' :=
  ⟨h.own.perm hp, fun b hb => h.mine b ((hp.flatMap_right _).mem_iff.2 hb), h.chg⟩

section
variable {S : Nat → Prop} {w0 w : World} {x0 x1 x2 x3 x4 x5 x6 p : Res} {r : List Res}
theorem Sep.f1 (M : Sep S w0 w (x0 :: p :: r)) : Sep S w0 w (p :: x0 :: r) := M.perm (.swap _ _ _)
theorem Sep.f2 (M : Sep S w0 w (x0 :: x1 :: p :: r)) : Sep S w0 w (p :: x0 :: x1 :: r) := M.perm ((List.Perm.cons _ (.swap _ _ _)).trans (.swap _ _ _))
theorem Sep.f3 (M : Sep S w0 w (x0 :: x1 :: x2 :: p :: r)) : Sep S w0 w (p :: x0 :: x1 :: x2 :: r) := (M.perm (List.perm_middle (l₁ := [x0, x1, x2])))
theorem Sep.f4 (M : Sep S w0 w (x0 :: x1 :: x2 :: x3 :: p :: r)) : Sep S w0 w (p :: x0 :: x1 :: x2 :: x3 :: r) := (M.perm (List.perm_middle (l₁ := [x0, x1, x2, x3])))
theorem Sep.f5 (M : Sep S w0 w (x0 :: x1 :: x2 :: x3 :: x4 :: p :: r)) : Sep S w0 w (p :: x0 :: x1 :: x2 :: x3 :: x4 :: r) := (M.perm (List.perm_middle (l₁ := [x0, x1, x2, x3, x4])))
theorem Sep.f6 (M : Sep S w0 w (x0 :: x1 :: x2 :: x3 :: x4 :: x5 :: p :: r)) : Sep S w0 w (p :: x0 :: x1 :: x2 :: x3 :: x4 :: x5 :: r) := (M.perm (List.perm_middle (l₁ := [x0, x1, x2, x3, x4, x5])))
theorem Sep.f7 (M : Sep S w0 w (x0 :: x1 :: x2 :: x3 :: x4 :: x5 :: x6 :: p :: r)) : Sep S w0 w (p :: x0 :: x1 :: x2 :: x3 :: x4 :: x5 :: x6 :: r) := (M.perm (List.perm_middle (l₁ := [x0, x1, x2, x3, x4, x5, x6])))
theorem Sep.h0 (M : Sep S w0 w (p :: r)) : p.ok w.heap := M.own.ok p (by simp)
theorem Sep.h1 (M : Sep S w0 w (x0 :: p :: r)) : p.ok w.heap := M.own.ok p (by simp)
theorem Sep.h2 (M : Sep S w0 w (x0 :: x1 :: p :: r)) : p.ok w.heap := M.own.ok p (by simp)
theorem Sep.h3 (M : Sep S w0 w (x0 :: x1 :: x2 :: p :: r)) : p.ok w.heap := M.own.ok p (by simp)
theorem Sep.h4 (M : Sep S w0 w (x0 :: x1 :: x2 :: x3 :: p :: r)) : p.ok w.heap := M.own.ok p (by simp)
theorem Sep.h5 (M : Sep S w0 w (x0 :: x1 :: x2 :: x3 :: x4 :: p :: r)) : p.ok w.heap := M.own.ok p (by simp)
theorem Sep.h6 (M : Sep S w0 w (x0 :: x1 :: x2 :: x3 :: x4 :: x5 :: p :: r)) : p.ok w.heap := M.own.ok p (by simp)
theorem Sep.h7 (M : Sep S w0 w (x0 :: x1 :: x2 :: x3 :: x4 :: x5 :: x6 :: p :: r)) : p.ok w.heap := M.own.ok p (by simp)
theorem Sep.tl (M : Sep S w0 w (p :: r)) : Sep S w0 w r := by
  have hf : foots (p :: r) = p.foot ++ foots r := rfl
  refine ⟨⟨fun q hq => M.own.ok q (List.mem_cons_of_mem _ hq), fun b hb => M.own.lt b (by rw [hf]; exact List.mem_append_right _ hb), ?_⟩, fun b hb => M.mine b (by rw [hf]; exact List.mem_append_right _ hb), M.chg⟩
  have := M.own.nd
  rw [hf, List.nodup_append] at this
  exact this.2.1
theorem Sep.drewN {m : List Res} (M : Sep S w0 w m) (n : Nat) : Sep S w0 (w.drewN n) m := ⟨⟨M.own.ok, M.own.lt, M.own.nd⟩, M.mine, M.chg.drewN n⟩
theorem Sep.nil (S : Nat → Prop) (w : World) : Sep S w w [] := ⟨⟨by simp, by simp [foots], by simp [foots]⟩, by simp [foots], .refl _ _⟩
theorem Sep.start {m : List Res} (h : Own w.heap m) : Sep (fun b => b ∈ foots m) w w m := ⟨h, fun _ hb => .inl hb, .refl _ _⟩
end

/-- A resource that is only read: it lies ahead of w0, outside S. -/
structure Ro (S : Nat → Prop) (w0 : World) (r : Res) : Prop where
  ok : r.ok w0.heap
  lt : ∀ b ∈ r.foot, b < w0.heap.size ∧ ¬ S b

theorem Chg.ro {S : Nat → Prop} {w0 w : World} (h : Chg S w0 w) {r : Res} (hr : Ro S w0 r) : r.ok w.heap := r.loc _ _ (fun b hb => h.keep b (hr.lt b hb).1 (hr.lt b hb).2) hr.ok

/-- THE FRAME RULE: what a call did to 'm', beside 'r'. -/
theorem Sep.frame {S : Nat → Prop} {w0 w w' : World} {m m' r : List Res} (M : Sep S w0 w (m ++ r)) (h : Sep (fun b => b ∈ foots m) w w' m') : Sep S w0 w' (m' ++ r) := by
  have hf : ∀ a b : List Res, foots (a ++ b) = foots a ++ foots b := fun a b => by simp [foots]
  have nd := M.own.nd
  rw [hf, List.nodup_append] at nd
  have hr : ∀ b ∈ foots r, b < w.heap.size ∧ b ∉ foots m := fun b hb => ⟨M.own.lt b (by rw [hf]; exact List.mem_append_right _ hb), fun hm => nd.2.2 b hm b hb rfl⟩
  have hm' : ∀ b ∈ foots m', b ∈ foots m ∨ w.heap.size ≤ b := h.mine
  refine ⟨⟨fun q hq => ?_, fun b hb => ?_, ?_⟩, fun b hb => ?_, M.chg.trans h.chg fun b hb => M.mine b (by rw [hf]; exact List.mem_append_left _ hb)⟩
  · rcases List.mem_append.1 hq with hq | hq
    · exact h.own.ok q hq
    · refine q.loc _ _ (fun b hb => ?_) (M.own.ok q (List.mem_append_right _ hq))
      have hb' : b ∈ foots r := List.mem_flatMap.2 ⟨q, hq, hb⟩
      exact h.chg.keep b (hr b hb').1 (hr b hb').2
  · rw [hf] at hb
    rcases List.mem_append.1 hb with hb | hb
    · exact h.own.lt b hb
    · exact Nat.lt_of_lt_of_le (hr b hb).1 h.chg.size
  · rw [hf, List.nodup_append]
    refine ⟨h.own.nd, nd.2.1, fun a ha b hb e => ?_⟩
    subst e
    rcases hm' a ha with h1 | h1
    · exact (hr a hb).2 h1
    · exact absurd (hr a hb).1 (by omega)
  · rw [hf] at hb
    rcases List.mem_append.1 hb with hb | hb
    · rcases hm' b hb with h1 | h1
      · exact M.mine b (by rw [hf]; exact List.mem_append_left _ h1)
      · exact .inr (Nat.le_trans M.chg.size h1)
    · exact M.mine b (by rw [hf]; exact List.mem_append_right _ hb)

/-- A resource turns into another one in the same world. -/
theorem Sep.turn {S : Nat → Prop} {w0 w : World} {p q : Res} {r : List Res} (M : Sep S w0 w (p :: r)) (hf : q.foot = p.foot) (h : p.ok w.heap → q.ok w.heap) : Sep S w0 w (q :: r) := by
  have hff : foots (q :: r) = foots (p :: r) := by simp [foots, hf]
  refine ⟨⟨fun x hx => ?_, fun b hb => M.own.lt b (hff ▸ hb), hff ▸ M.own.nd⟩, fun b hb => M.mine b (hff ▸ hb), M.chg⟩
  rcases List.mem_cons.1 hx with rfl | hx
  · exact h (M.own.ok p List.mem_cons_self)
  · exact M.own.ok x (List.mem_cons_of_mem _ hx)

/-- Two resources put together, or one taken apart. -/
theorem Sep.regroup {S : Nat → Prop} {w0 w : World} {m m' r : List Res} (M : Sep S w0 w (m ++ r)) (hf : (foots m').Perm (foots m)) (h : (∀ x ∈ m, x.ok w.heap) → ∀ x ∈ m', x.ok w.heap) : Sep S w0 w (m' ++ r) := by
  have hff : (foots (m' ++ r)).Perm (foots (m ++ r)) := by
    simp only [foots, List.flatMap_append]
    exact hf.append_right _
  refine ⟨⟨fun x hx => ?_, fun b hb => M.own.lt b (hff.mem_iff.1 hb), hff.nodup_iff.2 M.own.nd⟩, fun b hb => M.mine b (hff.mem_iff.1 hb), M.chg⟩
  rcases List.mem_append.1 hx with hx | hx
  · exact h (fun y hy => M.own.ok y (List.mem_append_left _ hy)) x hx
  · exact M.own.ok x (List.mem_append_right _ hx)

/-- What is fresh, laid beside. -/
theorem Chg.alloc (S : Nat → Prop) (w : World) (o : Obj) (ho : ∀ c e f, o = .cells c e f → f = (0, 0)) : Chg S w { w with heap := w.heap.push o } := by
  refine ⟨by simp, fun b hb _ => by simp [Array.getElem?_push, Nat.ne_of_lt hb], fun a => ?_, rfl, rfl, rfl⟩
  unfold World.frozen?
  simp only [Array.getElem?_push]
  by_cases h : a.block = w.heap.size
  · rw [if_pos h]
    have : w.heap[a.block]? = none := Array.getElem?_eq_none (by omega)
    rw [this]
    cases o <;> first
      | rfl
      | (rename_i c e f; obtain rfl := ho c e f rfl; simp)
  · rw [if_neg h]

theorem Sep.alloc {S : Nat → Prop} {w0 w : World} {r : List Res} (M : Sep S w0 w r) (o : Obj) (ho : ∀ c e f, o = .cells c e f → f = (0, 0)) : Sep S w0 { w with heap := w.heap.push o } (blk w.heap.size o :: r) := by
  have hc := Chg.alloc (fun b => b ∈ foots ([] : List Res)) w o ho
  have h1 : Sep (fun b => b ∈ foots ([] : List Res)) w { w with heap := w.heap.push o } [blk w.heap.size o] :=
    ⟨⟨by simp [blk], by simp [foots, blk], by simp [foots, blk]⟩, by simp [foots, blk], hc⟩
  simpa using Sep.frame (m := []) M h1

theorem Sep.setCell {S : Nat → Prop} {w0 w : World} {b : Nat} {cs : Array Value} {T : TypeId} {r : List Res} (M : Sep S w0 w (blk b (.cells cs T (0, 0)) :: r)) (off : Nat) (v : Value) :
    Sep S w0 (w.setCell ⟨b, off, none⟩ v) (blk b (.cells (cs.setIfInBounds off v) T (0, 0)) :: r) := by
  have hb : w.heap[b]? = some (.cells cs T (0, 0)) := M.h0
  have hlt : b < w.heap.size := M.own.lt b (by simp [foots, blk])
  have h1 : Sep (fun x => x ∈ foots [blk b (.cells cs T (0, 0))]) w (w.setCell ⟨b, off, none⟩ v) [blk b (.cells (cs.setIfInBounds off v) T (0, 0))] := by
    refine ⟨⟨?_, by simp [foots, blk, World.setCell, hlt], by simp [foots, blk]⟩, fun x hx => .inl (by simpa [foots, blk] using hx), ⟨by simp [World.setCell], fun x hx hn => ?_, fun a => ?_, rfl, rfl, rfl⟩⟩
    · intro x hx
      simp only [List.mem_cons, List.not_mem_nil, or_false] at hx
      subst hx
      simp [blk, World.setCell, Array.getElem?_modify, hb]
    · have hne : b ≠ x := fun e => hn (by simp [foots, blk, e])
      simp [World.setCell, Array.getElem?_modify, hne]
    · unfold World.frozen? World.setCell
      simp only [Array.getElem?_modify]
      by_cases h : b = a.block
      · subst h; simp [hb]
      · simp [h]
  exact Sep.frame (m := [blk b (.cells cs T (0, 0))]) M h1

theorem cell_of_blk {w : World} {b : Nat} {cs : Array Value} {T : TypeId} {fz : Nat × Nat} {off : Nat} {v : Value} (hb : w.heap[b]? = some (.cells cs T fz)) (hv : cs[off]? = some v) : w.cell? ⟨b, off, none⟩ = some v := by
  simp [World.cell?, hb, hv]
end Go.Proofs.Ytboibdmflblphaa.Fw
