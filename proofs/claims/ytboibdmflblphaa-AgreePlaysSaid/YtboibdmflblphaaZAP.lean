/- ZAP of the seat. -/
import Derived.Test.YtboibdmflblphaaRows
import Derived.Test.YtboibdmflblphaaR5
import Derived.Test.YtboibdmflblphaaFwZ
import Derived.Test.YtboibdmflblphaaZE
namespace Go.Proofs.Ytboibdmflblphaa
open Go Fw

open VoteM AgrM Go.ChangeShapes Go.WideShapes Go.ChangeAt Go.RowKit
theorem own : ownKnob Try.prog.godebug = none := by kernel_rfl
theorem laidOut : laidOutB Try.prog = true := z1
section
variable {H : Type} {enc : TypeId × Value → H} {w : World} {base : Nat} {spare : Nat → Bool} {held : Bool}
theorem fl32 : flatT Try.prog 5 32 = some [3, 3, 3, 3, 9] := by kernel_rfl
theorem c32_ : Try.prog.cellsOf 32 = 5 := by kernel_rfl
theorem fl48 : flatT Try.prog 5 48 = some [3, 3, 3, 3, 9] := by kernel_rfl
theorem dec32 (cs : List Value) (h : Lvs enc Try.prog w base spare held [3, 3, 3, 3, 9] cs) : ∃ b : Wrd, cs = encW b ∧ True := by
  obtain ⟨h1, h2⟩ := h
  obtain ⟨c0, e0, l0⟩ := h2 0 3 rfl
  obtain ⟨c1, e1, l1⟩ := h2 1 3 rfl
  obtain ⟨c2, e2, l2⟩ := h2 2 3 rfl
  obtain ⟨c3, e3, l3⟩ := h2 3 3 rfl
  obtain ⟨c4, e4, l4⟩ := h2 4 9 rfl
  obtain ⟨n0, rfl, k0⟩ := l0.int Try.underlying3
  obtain ⟨n1, rfl, k1⟩ := l1.int Try.underlying3
  obtain ⟨n2, rfl, k2⟩ := l2.int Try.underlying3
  obtain ⟨n3, rfl, k3⟩ := l3.int Try.underlying3
  obtain ⟨s4, rfl, k4⟩ := l4.str Try.underlying9
  match cs, h1 with
  | [a, b, c, d, e], _ =>
    simp at e0 e1 e2 e3 e4
    subst e0; subst e1; subst e2; subst e3; subst e4
    exact ⟨⟨n0, n1, n2, n3, s4⟩, rfl, trivial⟩
end

theorem read8 : ∀ t ∈ Try.f8.params.toList, Try.prog.readableRec t = true ∧ t < Try.prog.types.size := by
  have h : (Try.f8.params.toList.all fun t => Try.prog.readableRec t && decide (t < Try.prog.types.size)) = true := by kernel_rfl
  intro t ht
  have := List.all_eq_true.1 h t ht
  simpa using this
set_option maxRecDepth 100000 in
set_option maxHeartbeats 1000000 in
theorem agreePlays_lifted (os : Os) (started : os.Started) (H : Type) (enc : TypeId × Value → H) :
    ReturnsInHanded {} Try.checked os 8 .any (Rows.agreePlaysSpec.pre6 enc Try.prog Try.f8 Rows.agreePlaysRow.domain false) (Rows.agreePlaysSpec.post enc Try.prog Try.f8 false true false false) := by
  refine returnsInHanded_of_change (C := Try.checked) own started (by kernel_rfl) Try.func8
    (ChangeSpec.witness6 (enc := enc) (C := Try.checked) false ⟨#[], #[.agg #[.int .i64 0, .int .i64 0, .int .i64 0, .int .i64 0, .string { data := #[] }], .slice none 0 0], []⟩ 8 (by kernel_rfl) (by kernel_rfl) (by kernel_rfl) (by kernel_rfl)) ?_
  intro W base args ds gs before hval0 hW hcnd _
  have hval : ∀ (j : Nat) t v, Try.f8.params[j]? = some t → args[j]? = some v → Value.okWide Try.prog W .any base t v := hval0
  have hW' := hW
  obtain ⟨p, q, hA0, hV, rfl, hfz, hnd⟩ := hW
  have hA : DataW.TrodAll enc Try.prog W 0 (fun _ => true) true Try.f8.params.toList args.toList ds p := hA0
  rw [Try.params8] at hA hval
  obtain ⟨v0, vs0, d0, ds0, p0, q0, hargs0, rfl, rfl, h0, r0⟩ := trodAll_cons hA
  obtain ⟨v1, vs1, d1, ds1, p1, q1, hargs1, rfl, rfl, h1, r1⟩ := trodAll_cons r0
  obtain ⟨rfl, rfl, rfl⟩ := trodAll_nil r1
  obtain rfl : args = #[v0, v1] := by cases args; simp_all
  clear hargs0 hargs1
  obtain ⟨rfl, rfl⟩ := trodVars_none hV
  clear hA0 hval0 hA hcnd hfz hnd hV
  obtain ⟨cs, rfl, hl0⟩ := open_struct Try.underlying48 fl48 (hval 0 48 v0 rfl rfl) h0
  obtain ⟨p, rfl, _⟩ := dec32 cs hl0
  obtain ⟨A1, m1, cc1, rfl⟩ := okWide_slice Try.underlying22 (hval 1 22 v1 rfl rfl)
  obtain ⟨l, hr1, _, hlen1, _⟩ := (open_leaf rfl h1).slice Try.underlying22 fl32 c32_ (by decide) dec32
  refine (law8 p.kind p.frm p.round p.valid p.value l _ W hr1).out.mono ?_
  rintro e W' ⟨v, rfl, rfl, hc⟩
  exact ⟨_, rfl, law_post laidOut read8 rfl (by rfl) Try.underlying4 hW' rfl hc⟩
theorem agreePlays_closed : joinedFacts Try.prog 8 Try.f8 Rows.agreePlaysSpec Rows.agreePlaysRow = true := by
  unfold joinedFacts
  repeat' (with_reducible refine and2 ?_ ?_)
  all_goals first | with_reducible exact enter | with_reducible exact z1 | with_reducible exact z2 | with_reducible exact z3 | (rw [lifts]; as_aux_lemma => kernel_rfl) | (rw [maker]; as_aux_lemma => kernel_rfl) | (rw [z4]; as_aux_lemma => kernel_rfl) | as_aux_lemma => kernel_rfl
theorem agreePlays_holds : Rows.AgreePlaysSaid :=
  OpenClaim.holds_of_wide 8 Try.f8 rfl rfl rfl rfl rfl rfl rfl ⟨rfl, rfl, rfl, rfl, rfl⟩ rfl rfl rfl rfl rfl (by kernel_rfl) Try.func8 agreePlays_closed
    (of_decide_eq_true (by kernel_rfl)) (by unfold Func.isWrapper; first | (rw [if_pos (by decide +kernel)]; kernel_rfl) | (rw [if_neg (by decide +kernel)]; exact ⟨rfl, rfl⟩))
    (fun os started H enc _ => agreePlays_lifted os started H enc)

end Go.Proofs.Ytboibdmflblphaa
