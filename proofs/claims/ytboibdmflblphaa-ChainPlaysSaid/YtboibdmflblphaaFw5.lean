/-
  Great blocks as functions of the place; maps.
-/
import Derived.Test.YtboibdmflblphaaFw4
namespace Go.Proofs.Ytboibdmflblphaa.Fw
open Go

/-! ### a block whose cells are a function's values -/
def cellsF (N : Nat) (f : Nat → Value) : Array Value := ((List.range N).map f).toArray
def upd (f : Nat → Value) (i : Nat) (v : Value) : Nat → Value := fun j => if j = i then v else f j

theorem cellsF_size {N : Nat} {f : Nat → Value} : (cellsF N f).size = N := by simp [cellsF]
theorem gf {N i : Nat} {f : Nat → Value} {v : Value} (h : f i = v) (hi : i < N) : (cellsF N f)[i]? = some v := by simp [cellsF, hi, h]
theorem setF {N i : Nat} {f : Nat → Value} {v : Value} : (cellsF N f).setIfInBounds i v = cellsF N (upd f i v) := by
  apply Array.ext
  · simp [cellsF]
  · intro j h1 h2
    simp only [cellsF, List.setIfInBounds_toArray, List.getElem_toArray] at *
    rw [List.getElem_set]
    by_cases h : i = j
    · subst h; simp [upd]
    · simp [h, upd, Ne.symm h]
theorem setCellsF {N : Nat} : ∀ (vs : List Value) (i : Nat) (f : Nat → Value), setCells (cellsF N f) i vs = cellsF N (fun j => if i ≤ j ∧ j < i + vs.length then (vs[j - i]?).getD undef else f j)
  | [], i, f => by
    simp only [setCells, List.length_nil]
    congr 1
    funext j
    rw [if_neg (by omega)]
  | v :: vs, i, f => by
    simp only [setCells, setF, setCellsF vs (i + 1)]
    congr 1
    funext j
    simp only [List.length_cons, upd]
    by_cases h0 : j = i
    · subst h0
      rw [if_neg (by omega), if_pos rfl, if_pos (by omega)]
      simp
    · by_cases h1 : i + 1 ≤ j ∧ j < i + 1 + vs.length
      · rw [if_pos h1, if_pos (by omega), show j - i = (j - (i + 1)) + 1 by omega]
        simp
      · rw [if_neg h1, if_neg h0, if_neg (by omega)]

section
variable {P : Program} {ops : List Oper} {cl : List Cls} {bad : List (Nat × Nat)} {Q : Act → World → Prop} {n k d : Nat} {t : Ot} {L : Pend} {a : Act} {w : World} {l : List (Nat × Value)}
variable {ty : TypeId} {ps : String} {af : Array Edge} {g : Option (Nat × Bool)}

theorem s_sfL {S : Nat → Prop} {w0 : World} {b off N : Nat} {T t' : TypeId} {x y : Operand} {r : List Res} {f : Nat → Value} {v : Value} (F : Fr n a l) (M : Sep S w0 w (blk b (.cells (cellsF N f) T (0, 0)) :: r)) (ho : nth ops k = some ⟨none, .store t' x y, ty, ps, af, g⟩) (hw : wn ops l g = some true) (hc : nth cl k = some .wr)
    (hs : sizeB P t' = some 1) (hx : ev l x = some (.pointer (some ⟨b, off, none⟩))) (hy : ev l y = some v) (hv : oneC v = true) (hoff : off < N)
    (hp : ∀ w', Sep S w0 w' (blk b (.cells (cellsF N (upd f off v)) T (0, 0)) :: r) → pend bad k L w')
    (h : ∀ w', Sep S w0 w' (blk b (.cells (cellsF N (upd f off v)) T (0, 0)) :: r) → trunT P ops cl bad Q t L a w') : trunT P ops cl bad Q (.one k t) L a w :=
  s_stL F M ho hw hc hs hx hy hv (by rw [cellsF_size]; exact hoff) (by rw [setF]; exact hp) (by rw [setF]; exact h)
theorem s_sf {S : Nat → Prop} {w0 : World} {b off N : Nat} {T t' : TypeId} {x y : Operand} {r : List Res} {f : Nat → Value} {v : Value} (F : Fr n a l) (M : Sep S w0 w (blk b (.cells (cellsF N f) T (0, 0)) :: r)) (ho : nth ops k = some ⟨none, .store t' x y, ty, ps, af, g⟩) (hw : wn ops l g = some true) (hc : nth cl k = some .wr)
    (hs : sizeB P t' = some 1) (hx : ev l x = some (.pointer (some ⟨b, off, none⟩))) (hy : ev l y = some v) (hv : oneC v = true) (hoff : off < N)
    (h : ∀ w', Sep S w0 w' (blk b (.cells (cellsF N (upd f off v)) T (0, 0)) :: r) → trunT P ops cl [] Q t L a w') : trunT P ops cl [] Q (.one k t) L a w :=
  s_sfL F M ho hw hc hs hx hy hv hoff (fun _ _ => pend_nil) h
end

/-! ### maps -/
section
variable {κ : Type} [DecidableEq κ] {enc : κ → Value} {P : Program} {kt : TypeId}

end
section
variable {κ : Type} {enc : κ → Value}
end
section
variable {κ : Type} [DecidableEq κ] {enc : κ → Value} {P : Program} {kt : TypeId}
end
section
variable {κ : Type} {enc : κ → Value}
end
section
variable {κ : Type} [DecidableEq κ] {enc : κ → Value} {P : Program} {kt : TypeId}
end
end Go.Proofs.Ytboibdmflblphaa.Fw
