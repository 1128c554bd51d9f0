/- ZB of the seat. -/
import Derived.Test.YtboibdmflblphaaRows
import Derived.Test.YtboibdmflblphaaB7
import Derived.Test.YtboibdmflblphaaFwZ
import Derived.Test.YtboibdmflblphaaZE
namespace Go.Proofs.Ytboibdmflblphaa
open Go Fw

open VoteM AgrM CouM Go.ChangeShapes Go.WideShapes Go.ChangeAt Go.RowKit
theorem own : ownKnob Try.prog.godebug = none := by kernel_rfl
theorem laidOut : laidOutB Try.prog = true := z1
section
variable {H : Type} {enc : TypeId × Value → H} {w : World} {base : Nat} {spare : Nat → Bool} {held : Bool}
theorem fl71 : flatT Try.prog 5 71 = some [3, 3, 3, 69] := by kernel_rfl
theorem fl82 : flatT Try.prog 6 82 = some [3, 3, 3, 3, 3, 3, 3, 9] := by kernel_rfl
theorem c82_ : Try.prog.cellsOf 82 = 8 := by kernel_rfl
theorem fl9 : flatT Try.prog 5 9 = some [9] := by kernel_rfl
theorem c9_ : Try.prog.cellsOf 9 = 1 := by kernel_rfl
theorem dec9 (cs : List Value) (h : Lvs enc Try.prog w base spare held [9] cs) : ∃ s : ByteArray, cs = encS s ∧ True := by
  obtain ⟨h1, h2⟩ := h
  obtain ⟨c0, e0, l0⟩ := h2 0 9 rfl
  obtain ⟨n0, rfl, k0⟩ := l0.str Try.underlying9
  match cs, h1 with
  | [x0], _ =>
    simp at e0
    subst e0
    exact ⟨n0, rfl, trivial⟩
theorem dec82 (cs : List Value) (h : Lvs enc Try.prog w base spare held [3, 3, 3, 3, 3, 3, 3, 9] cs) : ∃ d : Deed, cs = encDd d ∧ True := by
  obtain ⟨h1, h2⟩ := h
  obtain ⟨c0, e0, l0⟩ := h2 0 3 rfl
  obtain ⟨c1, e1, l1⟩ := h2 1 3 rfl
  obtain ⟨c2, e2, l2⟩ := h2 2 3 rfl
  obtain ⟨c3, e3, l3⟩ := h2 3 3 rfl
  obtain ⟨c4, e4, l4⟩ := h2 4 3 rfl
  obtain ⟨c5, e5, l5⟩ := h2 5 3 rfl
  obtain ⟨c6, e6, l6⟩ := h2 6 3 rfl
  obtain ⟨c7, e7, l7⟩ := h2 7 9 rfl
  obtain ⟨n0, rfl, k0⟩ := l0.int Try.underlying3
  obtain ⟨n1, rfl, k1⟩ := l1.int Try.underlying3
  obtain ⟨n2, rfl, k2⟩ := l2.int Try.underlying3
  obtain ⟨n3, rfl, k3⟩ := l3.int Try.underlying3
  obtain ⟨n4, rfl, k4⟩ := l4.int Try.underlying3
  obtain ⟨n5, rfl, k5⟩ := l5.int Try.underlying3
  obtain ⟨n6, rfl, k6⟩ := l6.int Try.underlying3
  obtain ⟨n7, rfl, k7⟩ := l7.str Try.underlying9
  match cs, h1 with
  | [x0, x1, x2, x3, x4, x5, x6, x7], _ =>
    simp at e0 e1 e2 e3 e4 e5 e6 e7
    subst e0; subst e1; subst e2; subst e3; subst e4; subst e5; subst e6; subst e7
    exact ⟨⟨n0, n1, n2, ⟨n3, n4, n5, n6, n7⟩⟩, rfl, trivial⟩
theorem dec71 (cs : List Value) (h : Lvs enc Try.prog w base spare held [3, 3, 3, 69] cs) : ∃ (n t h : Int) (vv : Value) (vs : List ByteArray), cs = [.int .i64 n, .int .i64 t, .int .i64 h, vv] ∧ In64 n ∧ In64 t ∧ RdSl w.heap vv vs.length 1 (vs.flatMap encS) := by
  obtain ⟨h1, h2⟩ := h
  obtain ⟨c0, e0, l0⟩ := h2 0 3 rfl
  obtain ⟨c1, e1, l1⟩ := h2 1 3 rfl
  obtain ⟨c2, e2, l2⟩ := h2 2 3 rfl
  obtain ⟨c3, e3, l3⟩ := h2 3 69 rfl
  obtain ⟨n0, rfl, k0⟩ := l0.int Try.underlying3
  obtain ⟨n1, rfl, k1⟩ := l1.int Try.underlying3
  obtain ⟨n2, rfl, k2⟩ := l2.int Try.underlying3
  obtain ⟨vs, hr, _⟩ := l3.slice Try.underlying69 fl9 c9_ (by decide) dec9
  match cs, h1 with
  | [a, b, c, d], _ =>
    simp at e0 e1 e2 e3
    subst e0; subst e1; subst e2; subst e3
    exact ⟨n0, n1, n2, _, vs, rfl, k0, k1, hr⟩
end

theorem law13 (n t h : Int) (hn : In64 n) (ht : In64 t) (vs : List ByteArray) (vv : Value) (l : List Deed) (v : Value) (w0 : World) (hr2 : RdSl w0.heap vv vs.length 1 (vs.flatMap encS)) (hr : RdSl w0.heap v l.length 8 (l.flatMap encDd)) : Cl Try.prog 13 #[.agg #[.int .i64 n, .int .i64 t, .int .i64 h, vv], v] w0 (RetQ w0 fun v => v = .bool true) := by
  by_cases hf : fewC vs l
  · cases hk : okC n t h vs
    · exact law13b n t h hn ht vs vv l v w0 hr2 hr hf hk
    · exact law13c n t h hn ht vs vv l v w0 hr2 hr hf hk
  · exact law13a n t h hn ht vs vv l v w0 hr2 hr hf
theorem law14 (n t h : Int) (hn : In64 n) (ht : In64 t) (vs : List ByteArray) (vv : Value) (l : List Deed) (v : Value) (w0 : World) (hr2 : RdSl w0.heap vv vs.length 1 (vs.flatMap encS)) (hr : RdSl w0.heap v l.length 8 (l.flatMap encDd)) : Cl Try.prog 14 #[.agg #[.int .i64 n, .int .i64 t, .int .i64 h, vv], v] w0 (RetQ w0 fun v => v = .bool true) := by
  by_cases hf : fewC vs l
  · cases hk : okC n t h vs
    · exact law14b n t h hn ht vs vv l v w0 hr2 hr hf hk
    · exact law14c n t h hn ht vs vv l v w0 hr2 hr hf hk
  · exact law14a n t h hn ht vs vv l v w0 hr2 hr hf
theorem read13 : ∀ t ∈ Try.f13.params.toList, Try.prog.readableRec t = true ∧ t < Try.prog.types.size := by
  have h : (Try.f13.params.toList.all fun t => Try.prog.readableRec t && decide (t < Try.prog.types.size)) = true := by kernel_rfl
  intro t ht
  have := List.all_eq_true.1 h t ht
  simpa using this
set_option maxRecDepth 100000 in
set_option maxHeartbeats 1000000 in
theorem councilAgrees_lifted (os : Os) (started : os.Started) (H : Type) (enc : TypeId × Value → H) :
    ReturnsInHanded {} Try.checked os 13 .any (Rows.councilAgreesSpec.pre6 enc Try.prog Try.f13 Rows.councilAgreesRow.domain false) (Rows.councilAgreesSpec.post enc Try.prog Try.f13 false true false false) := by
  refine returnsInHanded_of_change (C := Try.checked) own started (by kernel_rfl) Try.func13
    (ChangeSpec.witness6 (enc := enc) (C := Try.checked) false ⟨#[], #[.agg #[.int .i64 0, .int .i64 0, .int .i64 0, .slice none 0 0], .slice none 0 0], []⟩ 8 (by kernel_rfl) (by kernel_rfl) (by kernel_rfl) (by kernel_rfl)) ?_
  intro W base args ds gs before hval0 hW hcnd _
  have hval : ∀ (j : Nat) t v, Try.f13.params[j]? = some t → args[j]? = some v → Value.okWide Try.prog W .any base t v := hval0
  have hW' := hW
  obtain ⟨p, q, hA0, hV, rfl, hfz, hnd⟩ := hW
  have hA : DataW.TrodAll enc Try.prog W 0 (fun _ => true) true Try.f13.params.toList args.toList ds p := hA0
  rw [Try.params13] at hA hval
  obtain ⟨v0, vs0, d0, ds0, p0, q0, hargs0, rfl, rfl, h0, r0⟩ := trodAll_cons hA
  obtain ⟨v1, vs1, d1, ds1, p1, q1, hargs1, rfl, rfl, h1, r1⟩ := trodAll_cons r0
  obtain ⟨rfl, rfl, rfl⟩ := trodAll_nil r1
  obtain rfl : args = #[v0, v1] := by cases args; simp_all
  clear hargs0 hargs1
  obtain ⟨rfl, rfl⟩ := trodVars_none hV
  clear hA0 hval0 hA hcnd hfz hnd hV
  obtain ⟨cs, rfl, hl0⟩ := open_struct Try.underlying71 fl71 (hval 0 71 v0 rfl rfl) h0
  obtain ⟨n, t, h, vv, vs, rfl, hn, ht, hr2⟩ := dec71 cs hl0
  obtain ⟨A1, m1, cc1, rfl⟩ := okWide_slice Try.underlying79 (hval 1 79 v1 rfl rfl)
  obtain ⟨l, hr, _, hlen1, _⟩ := (open_leaf rfl h1).slice Try.underlying79 fl82 c82_ (by decide) dec82
  refine (law13 n t h hn ht vs vv l _ W hr2 hr).out.mono ?_
  rintro e W' ⟨v, rfl, rfl, hc⟩
  exact ⟨_, rfl, law_post laidOut read13 rfl (by rfl) Try.underlying4 hW' rfl hc⟩
theorem councilAgrees_closed : joinedFacts Try.prog 13 Try.f13 Rows.councilAgreesSpec Rows.councilAgreesRow = true := by
  unfold joinedFacts
  repeat' (with_reducible refine and2 ?_ ?_)
  all_goals first | with_reducible exact enter | with_reducible exact z1 | with_reducible exact z2 | with_reducible exact z3 | (rw [lifts]; as_aux_lemma => kernel_rfl) | (rw [maker]; as_aux_lemma => kernel_rfl) | (rw [z4]; as_aux_lemma => kernel_rfl) | as_aux_lemma => kernel_rfl
theorem councilAgrees_holds : Rows.CouncilAgreesSaid :=
  OpenClaim.holds_of_wide 13 Try.f13 rfl rfl rfl rfl rfl rfl rfl ⟨rfl, rfl, rfl, rfl, rfl⟩ rfl rfl rfl rfl rfl (by kernel_rfl) Try.func13 councilAgrees_closed
    (of_decide_eq_true (by kernel_rfl)) (by unfold Func.isWrapper; first | (rw [if_pos (by decide +kernel)]; kernel_rfl) | (rw [if_neg (by decide +kernel)]; exact ⟨rfl, rfl⟩))
    (fun os started H enc _ => councilAgrees_lifted os started H enc)

theorem read14 : ∀ t ∈ Try.f14.params.toList, Try.prog.readableRec t = true ∧ t < Try.prog.types.size := by
  have h : (Try.f14.params.toList.all fun t => Try.prog.readableRec t && decide (t < Try.prog.types.size)) = true := by kernel_rfl
  intro t ht
  have := List.all_eq_true.1 h t ht
  simpa using this
set_option maxRecDepth 100000 in
set_option maxHeartbeats 1000000 in
theorem councilValid_lifted (os : Os) (started : os.Started) (H : Type) (enc : TypeId × Value → H) :
    ReturnsInHanded {} Try.checked os 14 .any (Rows.councilValidSpec.pre6 enc Try.prog Try.f14 Rows.councilValidRow.domain false) (Rows.councilValidSpec.post enc Try.prog Try.f14 false true false false) := by
  refine returnsInHanded_of_change (C := Try.checked) own started (by kernel_rfl) Try.func14
    (ChangeSpec.witness6 (enc := enc) (C := Try.checked) false ⟨#[], #[.agg #[.int .i64 0, .int .i64 0, .int .i64 0, .slice none 0 0], .slice none 0 0], []⟩ 8 (by kernel_rfl) (by kernel_rfl) (by kernel_rfl) (by kernel_rfl)) ?_
  intro W base args ds gs before hval0 hW hcnd _
  have hval : ∀ (j : Nat) t v, Try.f14.params[j]? = some t → args[j]? = some v → Value.okWide Try.prog W .any base t v := hval0
  have hW' := hW
  obtain ⟨p, q, hA0, hV, rfl, hfz, hnd⟩ := hW
  have hA : DataW.TrodAll enc Try.prog W 0 (fun _ => true) true Try.f14.params.toList args.toList ds p := hA0
  rw [Try.params14] at hA hval
  obtain ⟨v0, vs0, d0, ds0, p0, q0, hargs0, rfl, rfl, h0, r0⟩ := trodAll_cons hA
  obtain ⟨v1, vs1, d1, ds1, p1, q1, hargs1, rfl, rfl, h1, r1⟩ := trodAll_cons r0
  obtain ⟨rfl, rfl, rfl⟩ := trodAll_nil r1
  obtain rfl : args = #[v0, v1] := by cases args; simp_all
  clear hargs0 hargs1
  obtain ⟨rfl, rfl⟩ := trodVars_none hV
  clear hA0 hval0 hA hcnd hfz hnd hV
  obtain ⟨cs, rfl, hl0⟩ := open_struct Try.underlying71 fl71 (hval 0 71 v0 rfl rfl) h0
  obtain ⟨n, t, h, vv, vs, rfl, hn, ht, hr2⟩ := dec71 cs hl0
  obtain ⟨A1, m1, cc1, rfl⟩ := okWide_slice Try.underlying79 (hval 1 79 v1 rfl rfl)
  obtain ⟨l, hr, _, hlen1, _⟩ := (open_leaf rfl h1).slice Try.underlying79 fl82 c82_ (by decide) dec82
  refine (law14 n t h hn ht vs vv l _ W hr2 hr).out.mono ?_
  rintro e W' ⟨v, rfl, rfl, hc⟩
  exact ⟨_, rfl, law_post laidOut read14 rfl (by rfl) Try.underlying4 hW' rfl hc⟩
theorem councilValid_closed : joinedFacts Try.prog 14 Try.f14 Rows.councilValidSpec Rows.councilValidRow = true := by
  unfold joinedFacts
  repeat' (with_reducible refine and2 ?_ ?_)
  all_goals first | with_reducible exact enter | with_reducible exact z1 | with_reducible exact z2 | with_reducible exact z3 | (rw [lifts]; as_aux_lemma => kernel_rfl) | (rw [maker]; as_aux_lemma => kernel_rfl) | (rw [z4]; as_aux_lemma => kernel_rfl) | as_aux_lemma => kernel_rfl
theorem councilValid_holds : Rows.CouncilValidSaid :=
  OpenClaim.holds_of_wide 14 Try.f14 rfl rfl rfl rfl rfl rfl rfl ⟨rfl, rfl, rfl, rfl, rfl⟩ rfl rfl rfl rfl rfl (by kernel_rfl) Try.func14 councilValid_closed
    (of_decide_eq_true (by kernel_rfl)) (by unfold Func.isWrapper; first | (rw [if_pos (by decide +kernel)]; kernel_rfl) | (rw [if_neg (by decide +kernel)]; exact ⟨rfl, rfl⟩))
    (fun os started H enc _ => councilValid_lifted os started H enc)

theorem read15 : ∀ t ∈ Try.f15.params.toList, Try.prog.readableRec t = true ∧ t < Try.prog.types.size := by
  have h : (Try.f15.params.toList.all fun t => Try.prog.readableRec t && decide (t < Try.prog.types.size)) = true := by kernel_rfl
  intro t ht
  have := List.all_eq_true.1 h t ht
  simpa using this
set_option maxRecDepth 100000 in
set_option maxHeartbeats 1000000 in
theorem councilNone_lifted (os : Os) (started : os.Started) (H : Type) (enc : TypeId × Value → H) :
    ReturnsInHanded {} Try.checked os 15 .any (Rows.councilNoneSpec.pre6 enc Try.prog Try.f15 Rows.councilNoneRow.domain false) (Rows.councilNoneSpec.post enc Try.prog Try.f15 false true false false) := by
  refine returnsInHanded_of_change (C := Try.checked) own started (by kernel_rfl) Try.func15
    (ChangeSpec.witness6 (enc := enc) (C := Try.checked) false ⟨#[], #[.agg #[.int .i64 0, .int .i64 0, .int .i64 0, .int .i64 0, .int .i64 0, .int .i64 0, .int .i64 0, .string { data := #[] }]], []⟩ 8 (by kernel_rfl) (by kernel_rfl) (by kernel_rfl) (by kernel_rfl)) ?_
  intro W base args ds gs before hval0 hW hcnd _
  have hval : ∀ (j : Nat) t v, Try.f15.params[j]? = some t → args[j]? = some v → Value.okWide Try.prog W .any base t v := hval0
  have hW' := hW
  obtain ⟨p, q, hA0, hV, rfl, hfz, hnd⟩ := hW
  have hA : DataW.TrodAll enc Try.prog W 0 (fun _ => true) true Try.f15.params.toList args.toList ds p := hA0
  rw [Try.params15] at hA hval
  obtain ⟨v0, vs0, d0, ds0, p0, q0, hargs0, rfl, rfl, h0, r0⟩ := trodAll_cons hA
  obtain ⟨rfl, rfl, rfl⟩ := trodAll_nil r0
  obtain rfl : args = #[v0] := by cases args; simp_all
  clear hargs0
  obtain ⟨rfl, rfl⟩ := trodVars_none hV
  clear hA0 hval0 hA hcnd hfz hnd hV
  obtain ⟨cs, rfl, hl⟩ := open_struct Try.underlying82 fl82 (hval 0 82 v0 rfl rfl) h0
  obtain ⟨d, rfl, _⟩ := dec82 cs hl
  refine (law15 d W).out.mono ?_
  rintro e W' ⟨v, rfl, rfl, hc⟩
  exact ⟨_, rfl, law_post laidOut read15 rfl (by rfl) Try.underlying4 hW' rfl hc⟩
theorem councilNone_closed : joinedFacts Try.prog 15 Try.f15 Rows.councilNoneSpec Rows.councilNoneRow = true := by
  unfold joinedFacts
  repeat' (with_reducible refine and2 ?_ ?_)
  all_goals first | with_reducible exact enter | with_reducible exact z1 | with_reducible exact z2 | with_reducible exact z3 | (rw [lifts]; as_aux_lemma => kernel_rfl) | (rw [maker]; as_aux_lemma => kernel_rfl) | (rw [z4]; as_aux_lemma => kernel_rfl) | as_aux_lemma => kernel_rfl
theorem councilNone_holds : Rows.CouncilNoneSaid :=
  OpenClaim.holds_of_wide 15 Try.f15 rfl rfl rfl rfl rfl rfl rfl ⟨rfl, rfl, rfl, rfl, rfl⟩ rfl rfl rfl rfl rfl (by kernel_rfl) Try.func15 councilNone_closed
    (of_decide_eq_true (by kernel_rfl)) (by unfold Func.isWrapper; first | (rw [if_pos (by decide +kernel)]; kernel_rfl) | (rw [if_neg (by decide +kernel)]; exact ⟨rfl, rfl⟩))
    (fun os started H enc _ => councilNone_lifted os started H enc)

end Go.Proofs.Ytboibdmflblphaa
