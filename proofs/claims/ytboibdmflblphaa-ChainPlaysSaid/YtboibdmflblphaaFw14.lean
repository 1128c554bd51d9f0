/-
  A slice cut out of its middle, in place: slices with a bound, append within the room, clear.
-/
import Derived.Test.YtboibdmflblphaaFw12
import Derived.Test.YtboibdmflblphaaFw13
namespace Go.Proofs.Ytboibdmflblphaa.Fw
open Go
section
variable {P : Program} {ops : List Oper} {cl : List Cls} {bad : List (Nat × Nat)} {Q : Act → World → Prop} {n k d : Nat} {t : Ot} {L : Pend} {a : Act} {w : World} {l : List (Nat × Value)}
variable {ty : TypeId} {ps : String} {af : Array Edge} {g : Option (Nat × Bool)}

theorem s_slc3 {T e : TypeId} {x lo hi mx : Operand} {A : Option Addr} {sz m c : Nat} {i j q : Int} (F : Fr n a l) (ho : nth ops k = some ⟨some d, .slice T x (some lo) (some hi) (some mx), ty, ps, af, g⟩) (hw : wn ops l g = some true) (hc : nth cl k = some .ind) (hlt : Nat.blt d n = true)
    (hT : slcB P T = some (e, sz)) (hx : ev l x = some (.slice A m c)) (hlo : ev l lo = some (.int .i64 i)) (hhi : ev l hi = some (.int .i64 j)) (hmx : ev l mx = some (.int .i64 q)) (h0 : 0 ≤ i) (h1 : i ≤ j) (h2 : j ≤ q) (h3 : q ≤ c)
    (h : ∀ a' v, Fr n a' ((d, v) :: l) → trunT P ops cl bad Q t L a' w) : trunT P ops cl bad Q (.one k t) L a w := by
  obtain ⟨inf, g3, g4, g5⟩ := slcB_spec hT
  have e1 := fun w' => run_sb (P := P) (code := .slice3Acap) (F.ev hmx) (by omega) h3 w'
  have e2 := fun w' => run_sb (P := P) (code := .slice3B) (m := q.toNat) (F.ev hhi) (by omega) (by omega) w'
  have e3 := fun w' => run_sb (P := P) (code := .slice3C) (m := j.toNat) (F.ev hlo) (by omega) (by omega) w'
  refine s_ind (v := .slice (if q.toNat = i.toNat then A else A.map (·.add (i.toNat * sz))) (j.toNat - i.toNat) (q.toNat - i.toNat)) F ho hw hc rfl hlt (fun w' => ?_) (fun a' F' => h a' _ F')
  simp [execOp, F.ev hx, Instr.sliceAt, Instr.slice, Instr.sliceBounds, run_underlying g3, e1, e2, e3, sizeOf, typeInfo, g4, g5]
theorem s_slcC {T e : TypeId} {x : Operand} {lo hi : Option Operand} {A : Option Addr} {sz m c : Nat} {i j : Int} (F : Fr n a l) (ho : nth ops k = some ⟨some d, .slice T x lo hi none, ty, ps, af, g⟩) (hw : wn ops l g = some true) (hc : nth cl k = some .ind) (hlt : Nat.blt d n = true)
    (hT : slcB P T = some (e, sz)) (hx : ev l x = some (.slice A m c)) (hlo : evO l 0 lo = some i) (hhi : evO l m hi = some j) (hmc : m ≤ c) (h0 : 0 ≤ i) (h1 : i ≤ j) (h2 : j ≤ c)
    (h : ∀ a', Fr n a' ((d, .slice (cutA A c i.toNat sz) (j.toNat - i.toNat) (c - i.toNat)) :: l) → trunT P ops cl bad Q t L a' w) : trunT P ops cl bad Q (.one k t) L a w := by
  refine s_ind F ho hw hc rfl hlt (fun w' => ?_) h
  obtain ⟨inf, h3, h4, h5⟩ := slcB_spec hT
  have hlo' : (match (lo.map a.eval) with | some v => Instr.sliceBound v j.toNat BoundsCode.sliceB | none => pure 0 : Sem Nat).run P w' = .ok i.toNat w' := by
    cases lo with
    | none => simp only [evO, Option.some.injEq] at hlo; subst hlo; rfl
    | some y =>
      simp only [evO] at hlo
      split at hlo <;> simp only [Option.some.injEq, reduceCtorEq] at hlo
      rename_i i' hy
      subst hlo
      exact run_sb (F.ev hy) h0 (by omega) w'
  have hhi' : (match (hi.map a.eval) with | some v => Instr.sliceBound v c BoundsCode.sliceAcap | none => pure m : Sem Nat).run P w' = .ok j.toNat w' := by
    cases hi with
    | none => simp only [evO, Option.some.injEq] at hhi; subst hhi; rfl
    | some y =>
      simp only [evO] at hhi
      split at hhi <;> simp only [Option.some.injEq, reduceCtorEq] at hhi
      rename_i i' hy
      subst hhi
      exact run_sb (F.ev hy) (by omega) (by omega) w'
  cases lo <;> cases hi <;> simp only [Option.map_none, Option.map_some] at hlo' hhi' <;>
    simp [execOp, F.ev hx, Instr.sliceAt, Instr.slice, Instr.sliceBounds, run_underlying h3, hlo', hhi', sizeOf, typeInfo, h4, h5, cutA] <;> (try simp only [Sem.run_pure, Result.ok.injEq, and_true] at hlo') <;> (try simp only [Sem.run_pure, Result.ok.injEq, and_true] at hhi') <;> (try rw [← hlo']) <;> (try rw [← hhi']) <;> (try simp) <;> (try (rw [← hhi'] at hlo'; simp [hlo']))
/-- An append that has room: in place. -/
theorem s_apI {S : Nat → Prop} {w0 : World} {T E : TypeId} {sz b m0 m c : Nat} {u : Value} {x y : Operand} {cs : Array Value} {news : List Value} {B : TypeId} {r : List Res} (F : Fr n a l) (M : Sep S w0 w (blk b (.cells cs B (0, 0)) :: r)) (ho : nth ops k = some ⟨some d, .call ⟨.builtin .append, #[x, y], #[T, T]⟩, ty, ps, af, g⟩) (hw : wn ops l g = some true) (hc : nth cl k = some .wr) (hlt : Nat.blt d n = true)
    (hT : slcB P T = some (E, sz)) (hx : ev l x = some (.slice (some ⟨b, 0, none⟩) m0 c)) (hy : ev l y = some u) (hu : RdSl w.heap u m sz news) (h1 : news.all oneC = true) (hfit : m0 + m ≤ c) (hsz : m0 * sz + news.length ≤ cs.size)
    (h : ∀ w', Sep S w0 w' (blk b (.cells (setCells cs (m0 * sz) news) B (0, 0)) :: r) → ∀ a', Fr n a' ((d, .slice (some ⟨b, 0, none⟩) (m0 + m) c) :: l) → trunT P ops cl [] Q t L a' w') : trunT P ops cl [] Q (.one k t) L a w := by
  refine s_wr (R := fun v' w' => v' = .slice (some ⟨b, 0, none⟩) (m0 + m) c ∧ Sep S w0 w' (blk b (.cells (setCells cs (m0 * sz) news) B (0, 0)) :: r)) F ho hw hc rfl hlt (fun n => ?_) (fun v' w' ⟨h1, h2⟩ => h1 ▸ h w' h2)
  obtain ⟨i, hu2, hi, hisz⟩ := slcB_spec hT
  have hsv : ∀ w : World, (sizeOf E).run P w = .ok sz w := fun w => by simp [sizeOf, typeInfo, hi, hisz]
  have huT : ∀ w : World, (underlying T).run P w = .ok (.slice E) w := fun w => run_underlying hu2 w
  have hx0 : RdSl (w.drewN n).heap u m sz news := hu
  obtain ⟨hnl, A, c', rfl, hmc, _⟩ := hu
  have hnew := run_firstCells (P := P) (w := w.drewN n) hx0
  obtain ⟨w', hst, M'⟩ := run_storeCells (P := P) (off := m0 * sz) news 0 _ (w.drewN n) (M.drewN n) (by omega) (fun u hu => List.all_eq_true.1 h1 u hu)
  have hrun : (Builtin.append_ #[T, T] ty #[.slice (some ⟨b, 0, none⟩) m0 c, .slice A m c']).run P (w.drewN n) = .ok (.slice (some ⟨b, 0, none⟩) (m0 + m) c) w' := by
    unfold Builtin.append_
    simp only [List.getElem?_toArray, List.getElem?_cons_zero, List.getElem?_cons_succ, Sem.run_bind, huT, hsv, Result.andThen_ok, Sem.run_pure, Bool.false_eq_true, if_false, Builtin.lenOf]
    rw [if_pos hfit]
    simp only [Bool.not_false, if_true, Sem.run_bind, hnew, Result.andThen_ok, Sem.run_pure, add_at, Nat.zero_add, hst]
  simp only [execOp, resolve, invoke, builtin, List.map_toArray, List.map_cons, List.map_nil, F.ev hx, F.ev hy, Sem.run_bind, Sem.run_pure, hrun, Result.andThen_ok, Goes]
  exact ⟨by first | rfl | trivial, by simpa using M'⟩
theorem s_clr {S : Nat → Prop} {w0 : World} {T E : TypeId} {sz b off m c : Nat} {x : Operand} {z : Value} {cs : Array Value} {B : TypeId} {r : List Res} (F : Fr n a l) (M : Sep S w0 w (blk b (.cells cs B (0, 0)) :: r)) (ho : nth ops k = some ⟨none, .call ⟨.builtin .clear, #[x], #[T]⟩, ty, ps, af, g⟩) (hw : wn ops l g = some true) (hc : nth cl k = some .wr)
    (hT : slcB P T = some (E, sz)) (hz : zeroB P E = some z) (hzs : z.cells.size = sz) (hz1 : z.cells.toList.all oneC = true) (hx : ev l x = some (.slice (some ⟨b, off, none⟩) m c)) (hm : 0 < m) (hsz : off + m * sz ≤ cs.size)
    (h : ∀ w', Sep S w0 w' (blk b (.cells (setCells cs off (Builtin.zeroCells z.cells m).toList) B (0, 0)) :: r) → trunT P ops cl [] Q t L a w') : trunT P ops cl [] Q (.one k t) L a w := by
  refine s_wr0 (R := fun _ w' => Sep S w0 w' (blk b (.cells (setCells cs off (Builtin.zeroCells z.cells m).toList) B (0, 0)) :: r)) F ho hw hc rfl (fun n => ?_) (fun _ w' h2 => h w' h2)
  obtain ⟨i, hu2, hi, hisz⟩ := slcB_spec hT
  have hzv : ∀ w : World, (zeroValue E).run P w = .ok z w := fun w => by
    unfold zeroB at hz
    rw [hi] at hz
    simp only [Option.bind_some] at hz
    simp [zeroValue, typeInfo, hi, hz]
  have hl : (Builtin.zeroCells z.cells m).toList.length = m * sz := by simp [Builtin.zeroCells, hzs]
  have hone : ∀ u ∈ (Builtin.zeroCells z.cells m).toList, oneC u = true := fun u hu => by
    simp only [Builtin.zeroCells, Array.toList_map, List.mem_map] at hu
    obtain ⟨q, hq, rfl⟩ := hu
    have hq2 : q < m * z.cells.size := by simpa using hq
    have hp : 0 < z.cells.size := by
      rcases Nat.eq_zero_or_pos z.cells.size with h | h
      · rw [h] at hq2; omega
      · exact h
    have hlt := Nat.mod_lt q hp
    have : z.cells[q % z.cells.size]! ∈ z.cells.toList := by
      rw [getElem!_pos z.cells _ hlt]
      simp
    exact List.all_eq_true.1 hz1 _ this
  obtain ⟨w', hst, M'⟩ := run_storeCells (P := P) (off := off) (Builtin.zeroCells z.cells m).toList 0 _ (w.drewN n) (M.drewN n) (by omega) hone
  have hrun : (Builtin.clear_ #[T] ty #[.slice (some ⟨b, off, none⟩) m c]).run P (w.drewN n) = .ok (.tuple #[]) w' := by
    obtain ⟨m', rfl⟩ : ∃ m', m = m' + 1 := ⟨m - 1, by omega⟩
    unfold Builtin.clear_
    simp only [List.getElem?_toArray, List.getElem?_cons_zero, Sem.run_bind, run_underlying hu2, hzv, Result.andThen_ok, Sem.run_pure]
    simp [hst]
  simp only [execOp, resolve, invoke, builtin, List.map_toArray, List.map_cons, List.map_nil, F.ev hx, Sem.run_bind, Sem.run_pure, hrun, Result.andThen_ok, Goes]
  simpa using M'
end
theorem Ro.still {w0 w : World} {r : Res} (h : Ro (fun _ => False) w0 r) (c : Chg (fun _ => False) w0 w) : Ro (fun _ => False) w r := ⟨c.ro h, fun b hb => ⟨Nat.lt_of_lt_of_le (h.lt b hb).1 c.size, id⟩⟩
theorem cutA0 (b c sz : Nat) : cutA (some ⟨b, 0, none⟩) c 0 sz = some ⟨b, 0, none⟩ := by
  unfold cutA
  split
  · rfl
  · simp [add_at]
theorem cutA1 {b c k sz : Nat} (h : c ≠ k) : cutA (some ⟨b, 0, none⟩) c k sz = some ⟨b, k * sz, none⟩ := by
  unfold cutA
  rw [if_neg h]
  simp [add_at]
/-- The cells behind a cut. -/
theorem cut_cells {α : Type} {enc : α → List Value} {sz : Nat} (henc : ∀ e, (enc e).length = sz) {xs : List α} {rest zs : List Value} {i : Nat} (hi : i < xs.length) (hz : zs.length = sz) :
    ∃ rest', setCells (setCells (xs.flatMap enc ++ rest).toArray (i * sz) ((xs.drop (i + 1)).flatMap enc)) ((xs.length - 1) * sz) zs = ((xs.eraseIdx i).flatMap enc ++ rest').toArray ∧ ((xs.eraseIdx i).flatMap enc ++ rest').length = (xs.flatMap enc ++ rest).length := by
  have hfl := flat_len (sz := sz) henc
  have e1 : xs.flatMap enc = (xs.take i).flatMap enc ++ (xs.drop i).flatMap enc := by rw [← List.flatMap_append, List.take_append_drop]
  have hl1 : ((xs.take i).flatMap enc).length = i * sz := by rw [hfl, List.length_take, Nat.min_eq_left (by omega)]
  have hl2 : ((xs.drop i).flatMap enc).length = (xs.length - i) * sz := by rw [hfl, List.length_drop]
  have hl3 : ((xs.drop (i + 1)).flatMap enc).length = (xs.length - 1 - i) * sz := by rw [hfl, List.length_drop]; congr 1; omega
  have hsp : (xs.length - i) * sz = (xs.length - 1 - i) * sz + sz := by rw [show xs.length - i = (xs.length - 1 - i) + 1 by omega, Nat.add_mul, Nat.one_mul]
  have hlast : (xs.length - 1) * sz = i * sz + (xs.length - 1 - i) * sz := by rw [← Nat.add_mul]; congr 1; omega
  let D := (xs.drop i).flatMap enc
  have hD : D = D.take ((xs.length - 1 - i) * sz) ++ D.drop ((xs.length - 1 - i) * sz) := (List.take_append_drop _ _).symm
  have hDl : D.length = (xs.length - 1 - i) * sz + sz := by rw [← hsp]; exact hl2
  have s1 : setCells (xs.flatMap enc ++ rest).toArray (i * sz) ((xs.drop (i + 1)).flatMap enc) = (((xs.take i).flatMap enc ++ (xs.drop (i + 1)).flatMap enc) ++ (D.drop ((xs.length - 1 - i) * sz) ++ rest)).toArray := by
    have := setCells_mid ((xs.take i).flatMap enc) (D.take ((xs.length - 1 - i) * sz)) (D.drop ((xs.length - 1 - i) * sz) ++ rest) ((xs.drop (i + 1)).flatMap enc) (by rw [List.length_take, hl3, hDl]; omega)
    rw [hl1] at this
    rw [← this, e1]
    congr 1
    show (((xs.take i).flatMap enc ++ D) ++ rest).toArray = _
    rw [List.append_assoc, List.append_assoc, ← List.append_assoc (D.take _), ← hD]
  have e2 : (xs.eraseIdx i).flatMap enc = (xs.take i).flatMap enc ++ (xs.drop (i + 1)).flatMap enc := by rw [← List.flatMap_append, List.eraseIdx_eq_take_drop_succ]
  have hl4 : ((xs.eraseIdx i).flatMap enc).length = (xs.length - 1) * sz := by rw [e2, List.length_append, hl1, hl3]; omega
  have s2 := setCells_mid ((xs.eraseIdx i).flatMap enc) (D.drop ((xs.length - 1 - i) * sz)) rest zs (by rw [List.length_drop, hDl, hz]; omega)
  refine ⟨zs ++ rest, ?_, ?_⟩
  · rw [s1, ← e2, ← hl4, ← List.append_assoc, s2, List.append_assoc]
  · rw [List.length_append, List.length_append, List.length_append, hl4, hz, hfl]
    have : xs.length * sz = (xs.length - 1) * sz + sz := by rw [show xs.length = (xs.length - 1) + 1 by omega, Nat.add_mul, Nat.one_mul]; simp
    omega
end Go.Proofs.Ytboibdmflblphaa.Fw
