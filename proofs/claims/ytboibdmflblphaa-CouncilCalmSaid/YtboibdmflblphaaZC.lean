/- ZC of the seat. -/
import Derived.Test.YtboibdmflblphaaRows
import Derived.Test.YtboibdmflblphaaB8
import Derived.Test.YtboibdmflblphaaFwZ
import Derived.Test.YtboibdmflblphaaZE
namespace Go.Proofs.Ytboibdmflblphaa
open Go Fw

open VoteM AgrM CouM Go.ChangeShapes Go.WideShapes Go.ChangeAt Go.RowKit
theorem own : ownKnob Try.prog.godebug = none := by kernel_rfl
theorem laidOut : laidOutB Try.prog = true := z1
section
variable {H : Type} {enc : TypeId × Value → H} {w : World} {base : Nat} {spare : Nat → Bool} {held : Bool}
theorem fl71 : flatT Try.prog 5 71 = some [3, 3, 3, 69] := by kernel_rfl
theorem fl9 : flatT Try.prog 5 9 = some [9] := by kernel_rfl
theorem c9_ : Try.prog.cellsOf 9 = 1 := by kernel_rfl
theorem dec9 (cs : List Value) (h : Lvs enc Try.prog w base spare held [9] cs) : ∃ s : ByteArray, cs = encS s ∧ True := by
  obtain ⟨h1, h2⟩ := h
  obtain ⟨c0, e0, l0⟩ := h2 0 9 rfl
  obtain ⟨n0, rfl, k0⟩ := l0.str Try.underlying9
  match cs, h1 with
  | [x0], _ =>
    simp at e0
    subst e0
    exact ⟨n0, rfl, trivial⟩
theorem dec71 (cs : List Value) (h : Lvs enc Try.prog w base spare held [3, 3, 3, 69] cs) : ∃ (n t h : Int) (vv : Value) (vs : List ByteArray), cs = [.int .i64 n, .int .i64 t, .int .i64 h, vv] ∧ In64 n ∧ In64 t ∧ RdSl w.heap vv vs.length 1 (vs.flatMap encS) := by
  obtain ⟨h1, h2⟩ := h
  obtain ⟨c0, e0, l0⟩ := h2 0 3 rfl
  obtain ⟨c1, e1, l1⟩ := h2 1 3 rfl
  obtain ⟨c2, e2, l2⟩ := h2 2 3 rfl
  obtain ⟨c3, e3, l3⟩ := h2 3 69 rfl
  obtain ⟨n0, rfl, k0⟩ := l0.int Try.underlying3
  obtain ⟨n1, rfl, k1⟩ := l1.int Try.underlying3
  obtain ⟨n2, rfl, k2⟩ := l2.int Try.underlying3
  obtain ⟨vs, hr, _⟩ := l3.slice Try.underlying69 fl9 c9_ (by decide) dec9
  match cs, h1 with
  | [a, b, c, d], _ =>
    simp at e0 e1 e2 e3
    subst e0; subst e1; subst e2; subst e3
    exact ⟨n0, n1, n2, _, vs, rfl, k0, k1, hr⟩
end

theorem read12 : ∀ t ∈ Try.f12.params.toList, Try.prog.readableRec t = true ∧ t < Try.prog.types.size := by
  have h : (Try.f12.params.toList.all fun t => Try.prog.readableRec t && decide (t < Try.prog.types.size)) = true := by kernel_rfl
  intro t ht
  have := List.all_eq_true.1 h t ht
  simpa using this
set_option maxRecDepth 100000 in
set_option maxHeartbeats 1000000 in
theorem councilCalm_lifted (os : Os) (started : os.Started) (H : Type) (enc : TypeId × Value → H) :
    ReturnsInHanded {} Try.checked os 12 .any (Rows.councilCalmSpec.pre6 enc Try.prog Try.f12 Rows.councilCalmRow.domain false) (Rows.councilCalmSpec.post enc Try.prog Try.f12 false true false false) := by
  refine returnsInHanded_of_change (C := Try.checked) own started (by kernel_rfl) Try.func12
    (ChangeSpec.witness6 (enc := enc) (C := Try.checked) false ⟨#[], #[.agg #[.int .i64 0, .int .i64 0, .int .i64 0, .slice none 0 0]], []⟩ 8 (by kernel_rfl) (by kernel_rfl) (by kernel_rfl) (by kernel_rfl)) ?_
  intro W base args ds gs before hval0 hW hcnd _
  have hval : ∀ (j : Nat) t v, Try.f12.params[j]? = some t → args[j]? = some v → Value.okWide Try.prog W .any base t v := hval0
  have hW' := hW
  obtain ⟨p, q, hA0, hV, rfl, hfz, hnd⟩ := hW
  have hA : DataW.TrodAll enc Try.prog W 0 (fun _ => true) true Try.f12.params.toList args.toList ds p := hA0
  rw [Try.params12] at hA hval
  obtain ⟨v0, vs0, d0, ds0, p0, q0, hargs0, rfl, rfl, h0, r0⟩ := trodAll_cons hA
  obtain ⟨rfl, rfl, rfl⟩ := trodAll_nil r0
  obtain rfl : args = #[v0] := by cases args; simp_all
  clear hargs0
  obtain ⟨rfl, rfl⟩ := trodVars_none hV
  clear hA0 hval0 hA hcnd hfz hnd hV
  obtain ⟨cs, rfl, hl0⟩ := open_struct Try.underlying71 fl71 (hval 0 71 v0 rfl rfl) h0
  obtain ⟨n, t, h, vv, vs, rfl, hn, ht, hr2⟩ := dec71 cs hl0
  refine (law12 n t h hn ht vs vv W hr2).out.mono ?_
  rintro e W' ⟨v, rfl, rfl, hc⟩
  exact ⟨_, rfl, law_post laidOut read12 rfl (by rfl) Try.underlying4 hW' rfl hc⟩
theorem councilCalm_closed : joinedFacts Try.prog 12 Try.f12 Rows.councilCalmSpec Rows.councilCalmRow = true := by
  unfold joinedFacts
  repeat' (with_reducible refine and2 ?_ ?_)
  all_goals first | with_reducible exact enter | with_reducible exact z1 | with_reducible exact z2 | with_reducible exact z3 | (rw [lifts]; as_aux_lemma => kernel_rfl) | (rw [maker]; as_aux_lemma => kernel_rfl) | (rw [z4]; as_aux_lemma => kernel_rfl) | as_aux_lemma => kernel_rfl
theorem councilCalm_holds : Rows.CouncilCalmSaid :=
  OpenClaim.holds_of_wide 12 Try.f12 rfl rfl rfl rfl rfl rfl rfl ⟨rfl, rfl, rfl, rfl, rfl⟩ rfl rfl rfl rfl rfl (by kernel_rfl) Try.func12 councilCalm_closed
    (of_decide_eq_true (by kernel_rfl)) (by unfold Func.isWrapper; first | (rw [if_pos (by decide +kernel)]; kernel_rfl) | (rw [if_neg (by decide +kernel)]; exact ⟨rfl, rfl⟩))
    (fun os started H enc _ => councilCalm_lifted os started H enc)

end Go.Proofs.Ytboibdmflblphaa
