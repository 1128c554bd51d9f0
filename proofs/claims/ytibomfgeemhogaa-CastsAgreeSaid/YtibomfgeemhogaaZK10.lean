/- ZK10 of the seat. -/
import Derived.Test.YtibomfgeemhogaaRows
import Derived.Test.YtibomfgeemhogaaK14
import Derived.Test.YtibomfgeemhogaaZK
namespace Go.Proofs.Ytibomfgeemhogaa
open Go Fw

open CastM CasM Go.ChangeShapes Go.WideShapes Go.ChangeAt Go.RowKit
section
variable {H : Type} {enc : TypeId × Value → H} {w : World} {base : Nat} {spare : Nat → Bool} {held : Bool}
theorem fl79 : flatT Try.prog 5 79 = some [3, 3] := by kernel_rfl
theorem fl85 : flatT Try.prog 6 85 = some [3, 3, 3, 3, 3, 9] := by kernel_rfl
theorem c85 : Try.prog.cellsOf 85 = 6 := by kernel_rfl
theorem fl9 : flatT Try.prog 5 9 = some [9] := by kernel_rfl
theorem c9_ : Try.prog.cellsOf 9 = 1 := by kernel_rfl
theorem dec79 (cs : List Value) (h : Lvs enc Try.prog w base spare held [3, 3] cs) : ∃ a b, cs = [.int .i64 a, .int .i64 b] := by
  obtain ⟨h1, h2⟩ := h
  obtain ⟨c0, e0, l0⟩ := h2 0 3 rfl
  obtain ⟨c1, e1, l1⟩ := h2 1 3 rfl
  obtain ⟨n0, rfl, k0⟩ := l0.int Try.underlying3
  obtain ⟨n1, rfl, k1⟩ := l1.int Try.underlying3
  match cs, h1 with
  | [a, b], _ =>
    simp at e0 e1
    subst e0; subst e1
    exact ⟨n0, n1, rfl⟩
theorem dec9 (cs : List Value) (h : Lvs enc Try.prog w base spare held [9] cs) : ∃ s : ByteArray, cs = encS s ∧ True := by
  obtain ⟨h1, h2⟩ := h
  obtain ⟨c0, e0, l0⟩ := h2 0 9 rfl
  obtain ⟨s0, rfl, k0⟩ := l0.str Try.underlying9
  match cs, h1 with
  | [a], _ =>
    simp at e0
    subst e0
    exact ⟨s0, rfl, trivial⟩
theorem dec85 (cs : List Value) (h : Lvs enc Try.prog w base spare held [3, 3, 3, 3, 3, 9] cs) : ∃ b : BrW, cs = encBW b ∧ In64 b.w.seq := by
  obtain ⟨h1, h2⟩ := h
  obtain ⟨c0, e0, l0⟩ := h2 0 3 rfl
  obtain ⟨c1, e1, l1⟩ := h2 1 3 rfl
  obtain ⟨c2, e2, l2⟩ := h2 2 3 rfl
  obtain ⟨c3, e3, l3⟩ := h2 3 3 rfl
  obtain ⟨c4, e4, l4⟩ := h2 4 3 rfl
  obtain ⟨c5, e5, l5⟩ := h2 5 9 rfl
  obtain ⟨n0, rfl, k0⟩ := l0.int Try.underlying3
  obtain ⟨n1, rfl, k1⟩ := l1.int Try.underlying3
  obtain ⟨n2, rfl, k2⟩ := l2.int Try.underlying3
  obtain ⟨n3, rfl, k3⟩ := l3.int Try.underlying3
  obtain ⟨n4, rfl, k4⟩ := l4.int Try.underlying3
  obtain ⟨s5, rfl, k5⟩ := l5.str Try.underlying9
  match cs, h1 with
  | [a, b, c, d, e, g], _ =>
    simp at e0 e1 e2 e3 e4 e5
    subst e0; subst e1; subst e2; subst e3; subst e4; subst e5
    exact ⟨⟨n0, n1, n2, n3, n4, s5⟩, rfl, k2⟩
end
theorem law10 (n t : Int) (xs : List ByteArray) (l : List BrW) (v1 v : Value) (w0 : World) (hr1 : RdSl w0.heap v1 xs.length 1 (xs.flatMap encS)) (hr : RdSl w0.heap v l.length 6 (l.flatMap encBW)) (hin : ∀ b ∈ l, In64 b.w.seq) : Cl Try.prog 10 #[.agg #[.int .i64 n, .int .i64 t], v1, v] w0 (RetQ w0 fun v => v = .bool true) := by
  by_cases h : 4 < xs.length ∨ quorum n t = 0 ∨ 300 < l.length
  · exact law10a n t xs l v1 v w0 hr1 hr hin h
  · exact law10b n t xs l v1 v w0 hr1 hr hin (by omega) (by omega) (fun e => h (.inr (.inl e)))

theorem read10 : ∀ t ∈ Try.f10.params.toList, Try.prog.readableRec t = true ∧ t < Try.prog.types.size := by
  have h : (Try.f10.params.toList.all fun t => Try.prog.readableRec t && decide (t < Try.prog.types.size)) = true := by kernel_rfl
  intro t ht
  have := List.all_eq_true.1 h t ht
  simpa using this
set_option maxRecDepth 100000 in
set_option maxHeartbeats 1000000 in
theorem castsAgree_lifted (os : Os) (started : os.Started) (H : Type) (enc : TypeId × Value → H) :
    ReturnsInHanded {} Try.checked os 10 .any (Rows.castsAgreeSpec.pre6 enc Try.prog Try.f10 Rows.castsAgreeRow.domain false) (Rows.castsAgreeSpec.post enc Try.prog Try.f10 false true false false) := by
  refine returnsInHanded_of_change (C := Try.checked) own started (by kernel_rfl) Try.func10
    (ChangeSpec.witness6 (enc := enc) (C := Try.checked) false ⟨#[], #[.agg #[.int .i64 0, .int .i64 0], .slice none 0 0, .slice none 0 0], []⟩ 8 (by kernel_rfl) (by kernel_rfl) (by kernel_rfl) (by kernel_rfl)) ?_
  intro W base args ds gs before hval0 hW hcnd _
  have hval : ∀ (j : Nat) t v, Try.f10.params[j]? = some t → args[j]? = some v → Value.okWide Try.prog W .any base t v := hval0
  have hW' := hW
  obtain ⟨p, q, hA0, hV, rfl, hfz, hnd⟩ := hW
  have hA : DataW.TrodAll enc Try.prog W 0 (fun _ => true) true Try.f10.params.toList args.toList ds p := hA0
  rw [Try.params10] at hA hval
  obtain ⟨v0, vs0, d0, ds0, p0, q0, hargs0, rfl, rfl, h0, r0⟩ := trodAll_cons hA
  obtain ⟨v1, vs1, d1, ds1, p1, q1, hargs1, rfl, rfl, h1, r1⟩ := trodAll_cons r0
  obtain ⟨v2, vs2, d2, ds2, p2, q2, hargs2, rfl, rfl, h2, r2⟩ := trodAll_cons r1
  obtain ⟨rfl, rfl, rfl⟩ := trodAll_nil r2
  obtain rfl : args = #[v0, v1, v2] := by cases args; simp_all
  clear hargs0 hargs1 hargs2
  obtain ⟨rfl, rfl⟩ := trodVars_none hV
  clear hA0 hval0 hA hcnd hfz hnd hV
  obtain ⟨cs, rfl, hl0⟩ := open_struct Try.underlying79 fl79 (hval 0 79 v0 rfl rfl) h0
  obtain ⟨n, t, rfl⟩ := dec79 cs hl0
  obtain ⟨A1, m1, cc1, rfl⟩ := okWide_slice Try.underlying61 (hval 1 61 v1 rfl rfl)
  obtain ⟨xs, hr1, _, hlen1, _⟩ := (open_leaf rfl h1).slice Try.underlying61 fl9 c9_ (by decide) dec9
  obtain ⟨A2, m2, cc2, rfl⟩ := okWide_slice Try.underlying80 (hval 2 80 v2 rfl rfl)
  obtain ⟨l, hr2, hin2, hlen2, _⟩ := (open_leaf rfl h2).slice Try.underlying80 fl85 c85 (by decide) dec85
  refine (law10 n t xs l _ _ W hr1 hr2 hin2).out.mono ?_
  rintro e W' ⟨v, rfl, rfl, hc⟩
  exact ⟨_, rfl, law_post laidOut read10 rfl (by rfl) Try.underlying4 hW' rfl hc⟩
theorem castsAgree_holds : Rows.CastsAgreeSaid :=
  OpenClaim.holds_of_wide 10 Try.f10 rfl rfl rfl rfl rfl rfl rfl ⟨rfl, rfl, rfl, rfl, rfl⟩ rfl rfl rfl rfl rfl (by kernel_rfl) Try.func10 (by kernel_rfl)
    (of_decide_eq_true (by kernel_rfl)) (by unfold Func.isWrapper; first | (rw [if_pos (by decide +kernel)]; kernel_rfl) | (rw [if_neg (by decide +kernel)]; exact ⟨rfl, rfl⟩))
    (fun os started H enc _ => castsAgree_lifted os started H enc)

end Go.Proofs.Ytibomfgeemhogaa
