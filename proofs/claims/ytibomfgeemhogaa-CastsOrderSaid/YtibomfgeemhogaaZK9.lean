/- ZK9 of the seat. -/
import Derived.Test.YtibomfgeemhogaaRows
import Derived.Test.YtibomfgeemhogaaK12
import Derived.Test.YtibomfgeemhogaaZK
namespace Go.Proofs.Ytibomfgeemhogaa
open Go Fw

open CastM CasM Go.ChangeShapes Go.WideShapes Go.ChangeAt Go.RowKit
theorem law9 (n t : Int) (l : List Wd) (v : Value) (w0 : World) (hr : RdSl w0.heap v l.length 5 (l.flatMap encD)) (hin : ∀ w ∈ l, In64 w.seq) : Cl Try.prog 9 #[.int .i64 n, .int .i64 t, v] w0 (RetQ w0 fun v => v = .bool true) := by
  by_cases h : fewD l
  · by_cases hq : quorum n t = 0
    · exact law9b n t l v w0 hr hin h hq
    · exact law9c n t l v w0 hr hin h hq
  · exact law9a n t l v w0 hr hin h

theorem read9 : ∀ t ∈ Try.f9.params.toList, Try.prog.readableRec t = true ∧ t < Try.prog.types.size := by
  have h : (Try.f9.params.toList.all fun t => Try.prog.readableRec t && decide (t < Try.prog.types.size)) = true := by kernel_rfl
  intro t ht
  have := List.all_eq_true.1 h t ht
  simpa using this
set_option maxRecDepth 100000 in
set_option maxHeartbeats 1000000 in
theorem castsOrder_lifted (os : Os) (started : os.Started) (H : Type) (enc : TypeId × Value → H) :
    ReturnsInHanded {} Try.checked os 9 .any (Rows.castsOrderSpec.pre6 enc Try.prog Try.f9 Rows.castsOrderRow.domain false) (Rows.castsOrderSpec.post enc Try.prog Try.f9 false true false false) := by
  refine returnsInHanded_of_change (C := Try.checked) own started (by kernel_rfl) Try.func9
    (ChangeSpec.witness6 (enc := enc) (C := Try.checked) false ⟨#[], #[.int .i64 0, .int .i64 0, .slice none 0 0], []⟩ 8 (by kernel_rfl) (by kernel_rfl) (by kernel_rfl) (by kernel_rfl)) ?_
  intro W base args ds gs before hval0 hW hcnd _
  have hval : ∀ (j : Nat) t v, Try.f9.params[j]? = some t → args[j]? = some v → Value.okWide Try.prog W .any base t v := hval0
  have hW' := hW
  obtain ⟨p, q, hA0, hV, rfl, hfz, hnd⟩ := hW
  have hA : DataW.TrodAll enc Try.prog W 0 (fun _ => true) true Try.f9.params.toList args.toList ds p := hA0
  rw [Try.params9] at hA hval
  obtain ⟨v0, vs0, d0, ds0, p0, q0, hargs0, rfl, rfl, h0, r0⟩ := trodAll_cons hA
  obtain ⟨v1, vs1, d1, ds1, p1, q1, hargs1, rfl, rfl, h1, r1⟩ := trodAll_cons r0
  obtain ⟨v2, vs2, d2, ds2, p2, q2, hargs2, rfl, rfl, h2, r2⟩ := trodAll_cons r1
  obtain ⟨rfl, rfl, rfl⟩ := trodAll_nil r2
  obtain rfl : args = #[v0, v1, v2] := by cases args; simp_all
  clear hargs0 hargs1 hargs2
  obtain ⟨rfl, rfl⟩ := trodVars_none hV
  clear hA0 hval0 hA hcnd hfz hnd hV
  obtain ⟨a0, rfl, rfl, rfl, w0⟩ := open_int Try.underlying3 (hval 0 3 v0 rfl rfl) h0
  obtain ⟨a1, rfl, rfl, rfl, w1⟩ := open_int Try.underlying3 (hval 1 3 v1 rfl rfl) h1
  obtain ⟨A2, m2, cc2, rfl⟩ := okWide_slice Try.underlying56 (hval 2 56 v2 rfl rfl)
  obtain ⟨l, hr2, hin2, hlen2, _⟩ := (open_leaf rfl h2).slice Try.underlying56 fl70 c70 (by decide) dec70
  refine (law9 a0 a1 l _ W hr2 hin2).out.mono ?_
  rintro e W' ⟨v, rfl, rfl, hc⟩
  exact ⟨_, rfl, law_post laidOut read9 rfl (by rfl) Try.underlying4 hW' rfl hc⟩
theorem castsOrder_holds : Rows.CastsOrderSaid :=
  OpenClaim.holds_of_wide 9 Try.f9 rfl rfl rfl rfl rfl rfl rfl ⟨rfl, rfl, rfl, rfl, rfl⟩ rfl rfl rfl rfl rfl (by kernel_rfl) Try.func9 (by kernel_rfl)
    (of_decide_eq_true (by kernel_rfl)) (by unfold Func.isWrapper; first | (rw [if_pos (by decide +kernel)]; kernel_rfl) | (rw [if_neg (by decide +kernel)]; exact ⟨rfl, rfl⟩))
    (fun os started H enc _ => castsOrder_lifted os started H enc)

end Go.Proofs.Ytibomfgeemhogaa
