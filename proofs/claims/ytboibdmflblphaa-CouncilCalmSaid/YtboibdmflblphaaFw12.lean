/-
  A store into a part of an element of an owned slice.
-/
import Derived.Test.YtboibdmflblphaaFw9
namespace Go.Proofs.Ytboibdmflblphaa.Fw
open Go
theorem setCells_mid (X m Y vs : List Value) (h : m.length = vs.length) : setCells (X ++ m ++ Y).toArray X.length vs = (X ++ vs ++ Y).toArray := by
  induction vs generalizing X m with
  | nil =>
    have : m = [] := List.length_eq_zero_iff.1 h
    subst this; rfl
  | cons v vs ih =>
    cases m with
    | nil => simp at h
    | cons y m =>
      simp only [setCells]
      have e : (X ++ y :: m ++ Y).toArray.setIfInBounds X.length v = ((X ++ [v]) ++ m ++ Y).toArray := by
        simp [List.setIfInBounds_toArray, List.set_append]
      rw [e, show X.length + 1 = (X ++ [v]).length by simp, ih (X ++ [v]) m (by simpa using h)]
      simp
section
variable {P : Program} {ops : List Oper} {cl : List Cls} {bad : List (Nat × Nat)} {Q : Act → World → Prop} {n k : Nat} {t : Ot} {L : Pend} {a : Act} {w : World} {l : List (Nat × Value)}
variable {ty : TypeId} {ps : String} {af : Array Edge} {g : Option (Nat × Bool)}
theorem s_stS {α : Type} {enc : α → List Value} {S : Nat → Prop} {w0 : World} {A : Option Addr} {c i f m sz : Nat} {E t' : TypeId} {x y : Operand} {r : List Res} {vs : Array Value} {lst : List α} {e : α} (e' : α) (F : Fr n a l)
    (M : Sep S w0 w (slR (.slice A lst.length c) lst.length E sz (lst.flatMap enc) :: r)) (ho : nth ops k = some ⟨none, .store t' x y, ty, ps, af, g⟩) (hw : wn ops l g = some true) (hc : nth cl k = some .wr)
    (hs : sizeB P t' = some m) (hx : ev l x = some (.pointer (some ⟨bk A, of A + i * sz + f, none⟩))) (hy : ev l y = some (.agg vs)) (hm : vs.size = m) (hv : vs.toList.all oneC = true)
    (henc : ∀ e, (enc e).length = sz) (hi : lst[i]? = some e) (hf : f + m ≤ sz) (he : enc e' = (enc e).take f ++ vs.toList ++ (enc e).drop (f + m))
    (h : ∀ w', Sep S w0 w' (slR (.slice A lst.length c) lst.length E sz ((lst.set i e').flatMap enc) :: r) → trunT P ops cl [] Q t L a w') : trunT P ops cl [] Q (.one k t) L a w := by
  obtain ⟨hl, hd⟩ := M.h0
  have hpos := at_pos hi
  rcases hd with ⟨_, h0⟩ | ⟨b, cap, rest, hA, hcap, hb, hlen⟩
  · omega
  · simp only [Value.slice.injEq] at hA
    obtain ⟨rfl, _, rfl⟩ := hA
    have hil : i < lst.length := (List.getElem?_eq_some_iff.1 hi).1
    have e1 : lst = lst.take i ++ e :: lst.drop (i + 1) := by
      have := List.getElem?_eq_some_iff.1 hi
      obtain ⟨h1, h2⟩ := this
      rw [← h2]; simp
    have e2 : lst.set i e' = lst.take i ++ e' :: lst.drop (i + 1) := List.set_eq_take_append_cons_drop.trans (if_pos hil)
    have eL : (lst.flatMap enc ++ rest) = ((lst.take i).flatMap enc ++ (enc e).take f) ++ ((enc e).drop f).take m ++ ((enc e).drop (f + m) ++ (lst.drop (i + 1)).flatMap enc ++ rest) := by
      have : enc e = (enc e).take f ++ (((enc e).drop f).take m ++ (enc e).drop (f + m)) := by
        rw [← List.drop_drop, List.take_append_drop, List.take_append_drop]
      conv => lhs; rw [e1]
      rw [List.flatMap_append, List.flatMap_cons]
      conv => lhs; rw [this]
      simp [List.append_assoc]
    have eR : ((lst.set i e').flatMap enc ++ rest) = ((lst.take i).flatMap enc ++ (enc e).take f) ++ vs.toList ++ ((enc e).drop (f + m) ++ (lst.drop (i + 1)).flatMap enc ++ rest) := by
      rw [e2, List.flatMap_append, List.flatMap_cons, he]
      simp [List.append_assoc]
    have hX : ((lst.take i).flatMap enc ++ (enc e).take f).length = i * sz + f := by
      rw [List.length_append, flat_len henc, List.length_take, List.length_take, henc, Nat.min_eq_left (by omega), Nat.min_eq_left (by omega)]
    have hmid : (((enc e).drop f).take m).length = vs.toList.length := by
      rw [List.length_take, List.length_drop, henc, Nat.min_eq_left (by omega)]; simpa using hm.symm
    have eS : setCells (lst.flatMap enc ++ rest).toArray (i * sz + f) vs.toList = ((lst.set i e').flatMap enc ++ rest).toArray := by
      rw [eL, eR, ← hX]
      exact setCells_mid _ _ _ _ hmid
    have M1 := M.turn (q := blk b (.cells (lst.flatMap enc ++ rest).toArray E (0, 0))) rfl fun _ => hb
    have hsz : (lst.set i e').length = lst.length := List.length_set
    have hx' : ev l x = some (.pointer (some ⟨b, i * sz + f, none⟩)) := by
      rw [hx]; simp [bk, of]
    refine s_sta F M1 ho hw hc hs hx' hy hm hv ?_ fun w' M' => h w' ?_
    · rw [List.size_toArray, eL, List.length_append, List.length_append, hX, hmid]
      have : vs.toList.length = m := by simpa using hm
      omega
    · rw [eS] at M'
      refine M'.turn (q := slR (.slice (some ⟨b, 0, none⟩) lst.length c) lst.length E sz ((lst.set i e').flatMap enc)) rfl fun hk => ⟨?_, .inr ⟨b, c, rest, rfl, hcap, hk, ?_⟩⟩
      · rw [flat_len henc, hsz]
      · rw [List.length_append, flat_len henc, hsz, ← flat_len henc lst, ← List.length_append]; exact hlen
end
end Go.Proofs.Ytboibdmflblphaa.Fw
