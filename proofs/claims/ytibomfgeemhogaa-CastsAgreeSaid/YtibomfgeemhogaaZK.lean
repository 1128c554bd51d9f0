/- ZK of the seat. -/
import Derived.Test.YtibomfgeemhogaaRows
import Derived.Test.YtibomfgeemhogaaK10
import Derived.Test.YtibomfgeemhogaaFwZ
namespace Go.Proofs.Ytibomfgeemhogaa
open Go Fw

open CastM CasM Go.ChangeShapes Go.WideShapes Go.ChangeAt Go.RowKit
theorem own : ownKnob Try.prog.godebug = none := by kernel_rfl
theorem laidOut : laidOutB Try.prog = true := by kernel_rfl
section
variable {H : Type} {enc : TypeId × Value → H} {w : World} {base : Nat} {spare : Nat → Bool} {held : Bool}
theorem fl70 : flatT Try.prog 5 70 = some [3, 3, 3, 3, 9] := by kernel_rfl
theorem c70 : Try.prog.cellsOf 70 = 5 := by kernel_rfl
theorem dec70 (cs : List Value) (h : Lvs enc Try.prog w base spare held [3, 3, 3, 3, 9] cs) : ∃ b : Wd, cs = encD b ∧ In64 b.seq := by
  obtain ⟨h1, h2⟩ := h
  obtain ⟨c0, e0, l0⟩ := h2 0 3 rfl
  obtain ⟨c1, e1, l1⟩ := h2 1 3 rfl
  obtain ⟨c2, e2, l2⟩ := h2 2 3 rfl
  obtain ⟨c3, e3, l3⟩ := h2 3 3 rfl
  obtain ⟨c4, e4, l4⟩ := h2 4 9 rfl
  obtain ⟨n0, rfl, k0⟩ := l0.int Try.underlying3
  obtain ⟨n1, rfl, k1⟩ := l1.int Try.underlying3
  obtain ⟨n2, rfl, k2⟩ := l2.int Try.underlying3
  obtain ⟨n3, rfl, k3⟩ := l3.int Try.underlying3
  obtain ⟨s4, rfl, k4⟩ := l4.str Try.underlying9
  match cs, h1 with
  | [a, b, c, d, e], _ =>
    simp at e0 e1 e2 e3 e4
    subst e0; subst e1; subst e2; subst e3; subst e4
    exact ⟨⟨n0, n1, ⟨n2, n3, s4⟩⟩, rfl, k1⟩
end

theorem read11 : ∀ t ∈ Try.f11.params.toList, Try.prog.readableRec t = true ∧ t < Try.prog.types.size := by
  have h : (Try.f11.params.toList.all fun t => Try.prog.readableRec t && decide (t < Try.prog.types.size)) = true := by kernel_rfl
  intro t ht
  have := List.all_eq_true.1 h t ht
  simpa using this
set_option maxRecDepth 100000 in
set_option maxHeartbeats 1000000 in
theorem castsNone_lifted (os : Os) (started : os.Started) (H : Type) (enc : TypeId × Value → H) :
    ReturnsInHanded {} Try.checked os 11 .any (Rows.castsNoneSpec.pre6 enc Try.prog Try.f11 Rows.castsNoneRow.domain false) (Rows.castsNoneSpec.post enc Try.prog Try.f11 false true false false) := by
  refine returnsInHanded_of_change (C := Try.checked) own started (by kernel_rfl) Try.func11
    (ChangeSpec.witness6 (enc := enc) (C := Try.checked) false ⟨#[], #[.agg #[.int .i64 0, .int .i64 0, .int .i64 0, .int .i64 0, .string { data := #[] }]], []⟩ 8 (by kernel_rfl) (by kernel_rfl) (by kernel_rfl) (by kernel_rfl)) ?_
  intro W base args ds gs before hval0 hW hcnd _
  have hval : ∀ (j : Nat) t v, Try.f11.params[j]? = some t → args[j]? = some v → Value.okWide Try.prog W .any base t v := hval0
  have hW' := hW
  obtain ⟨p, q, hA0, hV, rfl, hfz, hnd⟩ := hW
  have hA : DataW.TrodAll enc Try.prog W 0 (fun _ => true) true Try.f11.params.toList args.toList ds p := hA0
  rw [Try.params11] at hA hval
  obtain ⟨v0, vs0, d0, ds0, p0, q0, hargs0, rfl, rfl, h0, r0⟩ := trodAll_cons hA
  obtain ⟨rfl, rfl, rfl⟩ := trodAll_nil r0
  obtain rfl : args = #[v0] := by cases args; simp_all
  clear hargs0
  obtain ⟨rfl, rfl⟩ := trodVars_none hV
  clear hA0 hval0 hA hcnd hfz hnd hV
  obtain ⟨cs, rfl, hl⟩ := open_struct Try.underlying70 fl70 (hval 0 70 v0 rfl rfl) h0
  obtain ⟨m, rfl, hm⟩ := dec70 cs hl
  refine (law11 m W).out.mono ?_
  rintro e W' ⟨v, rfl, rfl, hc⟩
  exact ⟨_, rfl, law_post laidOut read11 rfl (by rfl) Try.underlying4 hW' rfl hc⟩
theorem castsNone_holds : Rows.CastsNoneSaid :=
  OpenClaim.holds_of_wide 11 Try.f11 rfl rfl rfl rfl rfl rfl rfl ⟨rfl, rfl, rfl, rfl, rfl⟩ rfl rfl rfl rfl rfl (by kernel_rfl) Try.func11 (by kernel_rfl)
    (of_decide_eq_true (by kernel_rfl)) (by unfold Func.isWrapper; first | (rw [if_pos (by decide +kernel)]; kernel_rfl) | (rw [if_neg (by decide +kernel)]; exact ⟨rfl, rfl⟩))
    (fun os started H enc _ => castsNone_lifted os started H enc)

end Go.Proofs.Ytibomfgeemhogaa
