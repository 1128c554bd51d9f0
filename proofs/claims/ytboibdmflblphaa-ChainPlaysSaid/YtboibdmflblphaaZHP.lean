/- ZHP of the seat. -/
import Derived.Test.YtboibdmflblphaaRows
import Derived.Test.YtboibdmflblphaaG5
import Derived.Test.YtboibdmflblphaaZE
namespace Go.Proofs.Ytboibdmflblphaa
open Go Fw

open VoteM AgrM CouM ChnM Go.ChangeShapes Go.WideShapes Go.ChangeAt Go.RowKit
theorem own : ownKnob Try.prog.godebug = none := by kernel_rfl
theorem laidOut : laidOutB Try.prog = true := z1
section
variable {H : Type} {enc : TypeId × Value → H} {w : World} {base : Nat} {spare : Nat → Bool} {held : Bool}
theorem fl106 : flatT Try.prog 7 106 = some [3, 3, 3, 3, 3, 3, 3, 9, 69] := by kernel_rfl
theorem c106_ : Try.prog.cellsOf 106 = 9 := by kernel_rfl
theorem fl9 : flatT Try.prog 5 9 = some [9] := by kernel_rfl
theorem c9_ : Try.prog.cellsOf 9 = 1 := by kernel_rfl
theorem dec9 (cs : List Value) (h : Lvs enc Try.prog w base spare held [9] cs) : ∃ s : ByteArray, cs = encS s ∧ True := by
  obtain ⟨h1, h2⟩ := h
  obtain ⟨c0, e0, l0⟩ := h2 0 9 rfl
  obtain ⟨n0, rfl, k0⟩ := l0.str Try.underlying9
  match cs, h1 with
  | [x0], _ =>
    simp at e0
    subst e0
    exact ⟨n0, rfl, trivial⟩
theorem fl86 : flatT Try.prog 5 86 = some [3, 3, 3] := by kernel_rfl
theorem dec86 (cs : List Value) (h : Lvs enc Try.prog w base spare held [3, 3, 3] cs) : ∃ a b c, cs = [.int .i64 a, .int .i64 b, .int .i64 c] := by
  obtain ⟨h1, h2⟩ := h
  obtain ⟨c0, e0, l0⟩ := h2 0 3 rfl
  obtain ⟨c1, e1, l1⟩ := h2 1 3 rfl
  obtain ⟨c2, e2, l2⟩ := h2 2 3 rfl
  obtain ⟨n0, rfl, k0⟩ := l0.int Try.underlying3
  obtain ⟨n1, rfl, k1⟩ := l1.int Try.underlying3
  obtain ⟨n2, rfl, k2⟩ := l2.int Try.underlying3
  match cs, h1 with
  | [x0, x1, x2], _ =>
    simp at e0 e1 e2
    subst e0; subst e1; subst e2
    exact ⟨n0, n1, n2, rfl⟩
theorem dec106 (cs : List Value) (h : Lvs enc Try.prog w base spare held [3, 3, 3, 3, 3, 3, 3, 9, 69] cs) : ∃ d : Dd, cs = encD d ∧ RdSl w.heap d.vv d.vs.length 1 (d.vs.flatMap encS) := by
  obtain ⟨h1, h2⟩ := h
  obtain ⟨c0, e0, l0⟩ := h2 0 3 rfl
  obtain ⟨c1, e1, l1⟩ := h2 1 3 rfl
  obtain ⟨c2, e2, l2⟩ := h2 2 3 rfl
  obtain ⟨c3, e3, l3⟩ := h2 3 3 rfl
  obtain ⟨c4, e4, l4⟩ := h2 4 3 rfl
  obtain ⟨c5, e5, l5⟩ := h2 5 3 rfl
  obtain ⟨c6, e6, l6⟩ := h2 6 3 rfl
  obtain ⟨c7, e7, l7⟩ := h2 7 9 rfl
  obtain ⟨c8, e8, l8⟩ := h2 8 69 rfl
  obtain ⟨n0, rfl, k0⟩ := l0.int Try.underlying3
  obtain ⟨n1, rfl, k1⟩ := l1.int Try.underlying3
  obtain ⟨n2, rfl, k2⟩ := l2.int Try.underlying3
  obtain ⟨n3, rfl, k3⟩ := l3.int Try.underlying3
  obtain ⟨n4, rfl, k4⟩ := l4.int Try.underlying3
  obtain ⟨n5, rfl, k5⟩ := l5.int Try.underlying3
  obtain ⟨n6, rfl, k6⟩ := l6.int Try.underlying3
  obtain ⟨n7, rfl, k7⟩ := l7.str Try.underlying9
  obtain ⟨vs, hv, _⟩ := l8.slice Try.underlying69 fl9 c9_ (by decide) dec9
  match cs, h1 with
  | [x0, x1, x2, x3, x4, x5, x6, x7, x8], _ =>
    simp at e0 e1 e2 e3 e4 e5 e6 e7 e8
    subst e0; subst e1; subst e2; subst e3; subst e4; subst e5; subst e6; subst e7; subst e8
    exact ⟨⟨n0, n1, ⟨n2, ⟨n3, n4, n5, n6, n7⟩⟩, _, vs⟩, rfl, hv⟩
end

theorem read17 : ∀ t ∈ Try.f17.params.toList, Try.prog.readableRec t = true ∧ t < Try.prog.types.size := by
  have h : (Try.f17.params.toList.all fun t => Try.prog.readableRec t && decide (t < Try.prog.types.size)) = true := by kernel_rfl
  intro t ht
  have := List.all_eq_true.1 h t ht
  simpa using this
set_option maxRecDepth 100000 in
set_option maxHeartbeats 1000000 in
theorem chainPlays_lifted (os : Os) (started : os.Started) (H : Type) (enc : TypeId × Value → H) :
    ReturnsInHanded {} Try.checked os 17 .any (Rows.chainPlaysSpec.pre6 enc Try.prog Try.f17 Rows.chainPlaysRow.domain false) (Rows.chainPlaysSpec.post enc Try.prog Try.f17 false true false false) := by
  refine returnsInHanded_of_change (C := Try.checked) own started (by kernel_rfl) Try.func17
    (ChangeSpec.witness6 (enc := enc) (C := Try.checked) false ⟨#[], #[.agg #[.int .i64 0, .int .i64 0, .int .i64 0], .slice none 0 0], []⟩ 8 (by kernel_rfl) (by kernel_rfl) (by kernel_rfl) (by kernel_rfl)) ?_
  intro W base args ds gs before hval0 hW hcnd _
  have hval : ∀ (j : Nat) t v, Try.f17.params[j]? = some t → args[j]? = some v → Value.okWide Try.prog W .any base t v := hval0
  have hW' := hW
  obtain ⟨p, q, hA0, hV, rfl, hfz, hnd⟩ := hW
  have hA : DataW.TrodAll enc Try.prog W 0 (fun _ => true) true Try.f17.params.toList args.toList ds p := hA0
  rw [Try.params17] at hA hval
  obtain ⟨v0, vs0, d0, ds0, p0, q0, hargs0, rfl, rfl, h0, r0⟩ := trodAll_cons hA
  obtain ⟨v1, vs1, d1, ds1, p1, q1, hargs1, rfl, rfl, h1, r1⟩ := trodAll_cons r0
  obtain ⟨rfl, rfl, rfl⟩ := trodAll_nil r1
  obtain rfl : args = #[v0, v1] := by cases args; simp_all
  clear hargs0 hargs1
  obtain ⟨rfl, rfl⟩ := trodVars_none hV
  clear hA0 hval0 hA hcnd hfz hnd hV
  obtain ⟨cs, rfl, hl0⟩ := open_struct Try.underlying86 fl86 (hval 0 86 v0 rfl rfl) h0
  obtain ⟨n, t, me, rfl⟩ := dec86 cs hl0
  obtain ⟨A1, m1, cc1, rfl⟩ := okWide_slice Try.underlying97 (hval 1 97 v1 rfl rfl)
  obtain ⟨l, hr1, hd1, _, _⟩ := (open_leaf rfl h1).slice Try.underlying97 fl106 c106_ (by decide) dec106
  refine (law17 n t me l _ W hr1 hd1).out.mono ?_
  rintro e W' ⟨v, rfl, rfl, hc⟩
  exact ⟨_, rfl, law_post laidOut read17 rfl (by rfl) Try.underlying4 hW' rfl hc⟩
theorem chainPlays_closed : joinedFacts Try.prog 17 Try.f17 Rows.chainPlaysSpec Rows.chainPlaysRow = true := by
  unfold joinedFacts
  repeat' (with_reducible refine and2 ?_ ?_)
  all_goals first | with_reducible exact enter | with_reducible exact z1 | with_reducible exact z2 | with_reducible exact z3 | (rw [lifts]; as_aux_lemma => kernel_rfl) | (rw [maker]; as_aux_lemma => kernel_rfl) | (rw [z4]; as_aux_lemma => kernel_rfl) | as_aux_lemma => kernel_rfl
theorem chainPlays_holds : Rows.ChainPlaysSaid :=
  OpenClaim.holds_of_wide 17 Try.f17 rfl rfl rfl rfl rfl rfl rfl ⟨rfl, rfl, rfl, rfl, rfl⟩ rfl rfl rfl rfl rfl (by kernel_rfl) Try.func17 chainPlays_closed
    (of_decide_eq_true (by kernel_rfl)) (by unfold Func.isWrapper; first | (rw [if_pos (by decide +kernel)]; kernel_rfl) | (rw [if_neg (by decide +kernel)]; exact ⟨rfl, rfl⟩))
    (fun os started H enc _ => chainPlays_lifted os started H enc)

end Go.Proofs.Ytboibdmflblphaa
