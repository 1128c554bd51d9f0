/-
  NO TWO HONEST NODES DECIDE OTHERWISE. No program is in sight.
-/
import Derived.Test.YtboibdmflblphaaAgrM
namespace Go.Proofs.Ytboibdmflblphaa.AgrM
open VoteM Quor

/-- What of a part the rules leave. -/
structure Same (a b : ASt) : Prop where
  n : b.n = a.n
  t : b.t = a.t
  me : b.me = a.me
  h : b.h = a.h
  L : b.L = a.L
  Ps : b.Ps = a.Ps
  own : b.own = a.own
theorem Same.refl (a : ASt) : Same a a := ⟨rfl, rfl, rfl, rfl, rfl, rfl, rfl⟩
theorem Same.trans {a b c : ASt} (h : Same a b) (h' : Same b c) : Same a c := ⟨h'.n.trans h.n, h'.t.trans h.t, h'.me.trans h.me, h'.h.trans h.h, h'.L.trans h.L, h'.Ps.trans h.Ps, h'.own.trans h.own⟩
theorem begin_same (a : ASt) (r : Int) : Same a (a.begin r) := by unfold ASt.begin; split <;> exact ⟨rfl, rfl, rfl, rfl, rfl, rfl, rfl⟩
theorem Rul.same {a b : ASt} {o : List Wrd} (R : Rul a b o) : Same a b := by
  cases R with
  | dec => exact ⟨rfl, rfl, rfl, rfl, rfl, rfl, rfl⟩
  | ahead => exact begin_same a _
  | pv => exact ⟨rfl, rfl, rfl, rfl, rfl, rfl, rfl⟩
  | pc => unfold ASt.lock5; split <;> exact ⟨rfl, rfl, rfl, rfl, rfl, rfl, rfl⟩
  | nil => exact ⟨rfl, rfl, rfl, rfl, rfl, rfl, rfl⟩
theorem run_same {a : ASt} (W : a.Wf) (h0 : 0 ≤ a.round) : Same a a.run.1 :=
  run_q (Q := fun a b _ => Same a b) W h0 (fun a _ _ => .refl a) fun a b c o o' W h0 _ R W' h => R.same.trans h
theorem timeout_same (a : ASt) (s : Int) : Same a (a.timeout s).1 := by
  unfold ASt.timeout
  split
  · exact begin_same a _
  · split
    · exact .refl a
    · split
      · exact ⟨rfl, rfl, rfl, rfl, rfl, rfl, rfl⟩
      · split
        · exact ⟨rfl, rfl, rfl, rfl, rfl, rfl, rfl⟩
        · exact .refl a
/-- What taking a word does to the votes. -/
structure Took (a b : ASt) (w : Wrd) : Prop where
  n : b.n = a.n
  t : b.t = a.t
  me : b.me = a.me
  h : b.h = a.h
  own : b.own = a.own
  L : b.L = a.L ∨ (w.kind ≠ 4 ∧ w.kind ≠ 1 ∧ b.L = a.L ++ [w])
  Ps : b.Ps = a.Ps ∨ (w.kind = 1 ∧ b.Ps = a.Ps ++ [w])
theorem Same.took {a b : ASt} (h : Same a b) (w : Wrd) : Took a b w := ⟨h.n, h.t, h.me, h.h, h.own, .inl h.L, .inl h.Ps⟩
theorem count_took (a : ASt) (w : Wrd) : Took a (a.count w).1 w := by
  unfold ASt.count
  split
  · exact (timeout_same a w.valid).took w
  · split
    · exact ⟨rfl, rfl, rfl, rfl, rfl, .inl rfl, .inr ⟨by assumption, rfl⟩⟩
    · exact ⟨rfl, rfl, rfl, rfl, rfl, .inr ⟨by assumption, by assumption, rfl⟩, .inl rfl⟩
theorem take_took {a : ASt} (W : a.Wf) (w : Wrd) : Took a (a.take w).1 w := by
  unfold ASt.take
  split
  · exact (Same.refl a).took w
  · split
    · rename_i h1 h2
      obtain ⟨W1, h3⟩ := count_wf W (by omega) h2
      have C := count_took a w
      have S := run_same W1 (by omega)
      exact ⟨S.n.trans C.n, S.t.trans C.t, S.me.trans C.me, S.h.trans C.h, S.own.trans C.own, by rw [S.L]; exact C.L, by rw [S.Ps]; exact C.Ps⟩
    · exact (Same.refl a).took w
/-! ### all nodes -/
/-! ### quorums of all nodes -/
section
variable {n t : Int} {As : List ASt} {H : Nat → List Wrd}
end
theorem start_same (a : ASt) : Same a a.start := by
  unfold ASt.start
  split
  · exact .refl a
  · exact begin_same a 0
end Go.Proofs.Ytboibdmflblphaa.AgrM
