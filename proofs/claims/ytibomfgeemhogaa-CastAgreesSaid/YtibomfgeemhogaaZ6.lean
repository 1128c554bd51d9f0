/- Z6 of the seat. -/
import Derived.Test.YtibomfgeemhogaaRows
import Derived.Test.YtibomfgeemhogaaC10
import Derived.Test.YtibomfgeemhogaaFwZ
namespace Go.Proofs.Ytibomfgeemhogaa
open Go Fw

open CastM Go.ChangeShapes Go.WideShapes Go.ChangeAt Go.RowKit
theorem own : ownKnob Try.prog.godebug = none := by kernel_rfl
theorem laidOut : laidOutB Try.prog = true := by kernel_rfl


section
variable {H : Type} {enc : TypeId × Value → H} {w : World} {base : Nat} {spare : Nat → Bool} {held : Bool}
theorem fl26 : flatT Try.prog 5 26 = some [3, 3, 3] := by kernel_rfl
theorem fl47 : flatT Try.prog 5 47 = some [3, 3, 3, 9] := by kernel_rfl
theorem c47 : Try.prog.cellsOf 47 = 4 := by kernel_rfl
theorem dec26 (cs : List Value) (h : Lvs enc Try.prog w base spare held [3, 3, 3] cs) : ∃ a b c, cs = [.int .i64 a, .int .i64 b, .int .i64 c] := by
  obtain ⟨h1, h2⟩ := h
  obtain ⟨c0, e0, l0⟩ := h2 0 3 rfl
  obtain ⟨c1, e1, l1⟩ := h2 1 3 rfl
  obtain ⟨c2, e2, l2⟩ := h2 2 3 rfl
  obtain ⟨n0, rfl, k0⟩ := l0.int Try.underlying3
  obtain ⟨n1, rfl, k1⟩ := l1.int Try.underlying3
  obtain ⟨n2, rfl, k2⟩ := l2.int Try.underlying3
  match cs, h1 with
  | [a, b, c], _ =>
    simp at e0 e1 e2
    subst e0; subst e1; subst e2
    exact ⟨n0, n1, n2, rfl⟩
theorem dec47 (cs : List Value) (h : Lvs enc Try.prog w base spare held [3, 3, 3, 9] cs) : ∃ b : Br, cs = encB b ∧ True := by
  obtain ⟨h1, h2⟩ := h
  obtain ⟨c0, e0, l0⟩ := h2 0 3 rfl
  obtain ⟨c1, e1, l1⟩ := h2 1 3 rfl
  obtain ⟨c2, e2, l2⟩ := h2 2 3 rfl
  obtain ⟨c3, e3, l3⟩ := h2 3 9 rfl
  obtain ⟨n0, rfl, k0⟩ := l0.int Try.underlying3
  obtain ⟨n1, rfl, k1⟩ := l1.int Try.underlying3
  obtain ⟨n2, rfl, k2⟩ := l2.int Try.underlying3
  obtain ⟨s3, rfl, k3⟩ := l3.str Try.underlying9
  match cs, h1 with
  | [a, b, c, d], _ =>
    simp at e0 e1 e2 e3
    subst e0; subst e1; subst e2; subst e3
    exact ⟨⟨n0, n1, n2, s3⟩, rfl, trivial⟩
end
theorem law6 (n t frm : Int) (l : List Br) (v : Value) (w0 : World) (hr : RdSl w0.heap v l.length 4 (l.flatMap encB)) : Cl Try.prog 6 #[.agg #[.int .i64 n, .int .i64 t, .int .i64 frm], v] w0 (RetQ w0 fun v => v = .bool true) := by
  by_cases h : 200 < l.length ∨ quorum n t = 0 ∨ frm < 1 ∨ n < frm
  · exact law6a n t frm l v w0 hr h
  · exact law6b n t frm l v w0 hr (by omega) (fun e => h (.inr (.inl e))) (by omega) (by omega)

theorem read6 : ∀ t ∈ Try.f6.params.toList, Try.prog.readableRec t = true ∧ t < Try.prog.types.size := by
  have h : (Try.f6.params.toList.all fun t => Try.prog.readableRec t && decide (t < Try.prog.types.size)) = true := by kernel_rfl
  intro t ht
  have := List.all_eq_true.1 h t ht
  simpa using this
set_option maxRecDepth 100000 in
set_option maxHeartbeats 1000000 in
theorem castAgrees_lifted (os : Os) (started : os.Started) (H : Type) (enc : TypeId × Value → H) :
    ReturnsInHanded {} Try.checked os 6 .any (Rows.castAgreesSpec.pre6 enc Try.prog Try.f6 Rows.castAgreesRow.domain false) (Rows.castAgreesSpec.post enc Try.prog Try.f6 false true false false) := by
  refine returnsInHanded_of_change (C := Try.checked) own started (by kernel_rfl) Try.func6
    (ChangeSpec.witness6 (enc := enc) (C := Try.checked) false ⟨#[], #[.agg #[.int .i64 0, .int .i64 0, .int .i64 0], .slice none 0 0], []⟩ 8 (by kernel_rfl) (by kernel_rfl) (by kernel_rfl) (by kernel_rfl)) ?_
  intro W base args ds gs before hval0 hW hcnd _
  have hval : ∀ (j : Nat) t v, Try.f6.params[j]? = some t → args[j]? = some v → Value.okWide Try.prog W .any base t v := hval0
  have hW' := hW
  obtain ⟨p, q, hA0, hV, rfl, hfz, hnd⟩ := hW
  have hA : DataW.TrodAll enc Try.prog W 0 (fun _ => true) true Try.f6.params.toList args.toList ds p := hA0
  rw [Try.params6] at hA hval
  obtain ⟨v0, vs0, d0, ds0, p0, q0, hargs0, rfl, rfl, h0, r0⟩ := trodAll_cons hA
  obtain ⟨v1, vs1, d1, ds1, p1, q1, hargs1, rfl, rfl, h1, r1⟩ := trodAll_cons r0
  obtain ⟨rfl, rfl, rfl⟩ := trodAll_nil r1
  obtain rfl : args = #[v0, v1] := by cases args; simp_all
  clear hargs0 hargs1
  obtain ⟨rfl, rfl⟩ := trodVars_none hV
  clear hA0 hval0 hA hcnd hfz hnd hV
  obtain ⟨cs, rfl, hl0⟩ := open_struct Try.underlying26 fl26 (hval 0 26 v0 rfl rfl) h0
  obtain ⟨n, t, frm, rfl⟩ := dec26 cs hl0
  obtain ⟨A, m, cc, rfl⟩ := okWide_slice Try.underlying45 (hval 1 45 v1 rfl rfl)
  obtain ⟨l, hr, _, hlen, _⟩ := (open_leaf rfl h1).slice Try.underlying45 fl47 c47 (by decide) dec47
  refine (law6 n t frm l _ W hr).out.mono ?_
  rintro e W' ⟨v, rfl, rfl, hc⟩
  exact ⟨_, rfl, law_post laidOut read6 rfl (by rfl) Try.underlying4 hW' rfl hc⟩
theorem castAgrees_holds : Rows.CastAgreesSaid :=
  OpenClaim.holds_of_wide 6 Try.f6 rfl rfl rfl rfl rfl rfl rfl ⟨rfl, rfl, rfl, rfl, rfl⟩ rfl rfl rfl rfl rfl (by kernel_rfl) Try.func6 (by kernel_rfl)
    (of_decide_eq_true (by kernel_rfl)) (by unfold Func.isWrapper; first | (rw [if_pos (by decide +kernel)]; kernel_rfl) | (rw [if_neg (by decide +kernel)]; exact ⟨rfl, rfl⟩))
    (fun os started H enc _ => castAgrees_lifted os started H enc)

end Go.Proofs.Ytibomfgeemhogaa
