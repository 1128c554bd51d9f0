/- ZV of the seat. -/
import Derived.Test.YtboibdmflblphaaRows
import Derived.Test.YtboibdmflblphaaV5
import Derived.Test.YtboibdmflblphaaFwZ
import Derived.Test.YtboibdmflblphaaZE
namespace Go.Proofs.Ytboibdmflblphaa
open Go Fw

open VoteM Go.ChangeShapes Go.WideShapes Go.ChangeAt Go.RowKit
theorem own : ownKnob Try.prog.godebug = none := by kernel_rfl
theorem laidOut : laidOutB Try.prog = true := by kernel_rfl
section
variable {H : Type} {enc : TypeId × Value → H} {w : World} {base : Nat} {spare : Nat → Bool} {held : Bool}
theorem fl32 : flatT Try.prog 5 32 = some [3, 3, 3, 3, 9] := by kernel_rfl
theorem c32_ : Try.prog.cellsOf 32 = 5 := by kernel_rfl
theorem dec32 (cs : List Value) (h : Lvs enc Try.prog w base spare held [3, 3, 3, 3, 9] cs) : ∃ b : Wrd, cs = encW b ∧ True := by
  obtain ⟨h1, h2⟩ := h
  obtain ⟨c0, e0, l0⟩ := h2 0 3 rfl
  obtain ⟨c1, e1, l1⟩ := h2 1 3 rfl
  obtain ⟨c2, e2, l2⟩ := h2 2 3 rfl
  obtain ⟨c3, e3, l3⟩ := h2 3 3 rfl
  obtain ⟨c4, e4, l4⟩ := h2 4 9 rfl
  obtain ⟨n0, rfl, k0⟩ := l0.int Try.underlying3
  obtain ⟨n1, rfl, k1⟩ := l1.int Try.underlying3
  obtain ⟨n2, rfl, k2⟩ := l2.int Try.underlying3
  obtain ⟨n3, rfl, k3⟩ := l3.int Try.underlying3
  obtain ⟨s4, rfl, k4⟩ := l4.str Try.underlying9
  match cs, h1 with
  | [a, b, c, d, e], _ =>
    simp at e0 e1 e2 e3 e4
    subst e0; subst e1; subst e2; subst e3; subst e4
    exact ⟨⟨n0, n1, n2, n3, s4⟩, rfl, trivial⟩
end

theorem law3 (n t : Int) (l : List Wrd) (v : Value) (w0 : World) (hr : RdSl w0.heap v l.length 5 (l.flatMap encW)) : Cl Try.prog 3 #[.int .i64 n, .int .i64 t, v] w0 (RetQ w0 fun v => v = .bool true) := by
  by_cases h : few l
  · by_cases hq : quorum n t = 0
    · exact law3b n t l v w0 hr h hq
    · exact law3c n t l v w0 hr h hq
  · exact law3a n t l v w0 hr h
theorem law4 (n t : Int) (l : List Wrd) (v : Value) (w0 : World) (hr : RdSl w0.heap v l.length 5 (l.flatMap encW)) : Cl Try.prog 4 #[.int .i64 n, .int .i64 t, v] w0 (RetQ w0 fun v => v = .bool true) := by
  by_cases h : few l
  · by_cases hq : quorum n t = 0
    · exact law4b n t l v w0 hr h hq
    · exact law4c n t l v w0 hr h hq
  · exact law4a n t l v w0 hr h
theorem law5 (n t : Int) (l : List Wrd) (v : Value) (w0 : World) (hr : RdSl w0.heap v l.length 5 (l.flatMap encW)) : Cl Try.prog 5 #[.int .i64 n, .int .i64 t, v] w0 (RetQ w0 fun v => v = .bool true) := by
  by_cases h : few l
  · by_cases hq : quorum n t = 0
    · exact law5b n t l v w0 hr h hq
    · exact law5c n t l v w0 hr h hq
  · exact law5a n t l v w0 hr h
theorem read3 : ∀ t ∈ Try.f3.params.toList, Try.prog.readableRec t = true ∧ t < Try.prog.types.size := by
  have h : (Try.f3.params.toList.all fun t => Try.prog.readableRec t && decide (t < Try.prog.types.size)) = true := by kernel_rfl
  intro t ht
  have := List.all_eq_true.1 h t ht
  simpa using this
set_option maxRecDepth 100000 in
set_option maxHeartbeats 1000000 in
theorem votesPlays_lifted (os : Os) (started : os.Started) (H : Type) (enc : TypeId × Value → H) :
    ReturnsInHanded {} Try.checked os 3 .any (Rows.votesPlaysSpec.pre6 enc Try.prog Try.f3 Rows.votesPlaysRow.domain false) (Rows.votesPlaysSpec.post enc Try.prog Try.f3 false true false false) := by
  refine returnsInHanded_of_change (C := Try.checked) own started (by kernel_rfl) Try.func3
    (ChangeSpec.witness6 (enc := enc) (C := Try.checked) false ⟨#[], #[.int .i64 0, .int .i64 0, .slice none 0 0], []⟩ 8 (by kernel_rfl) (by kernel_rfl) (by kernel_rfl) (by kernel_rfl)) ?_
  intro W base args ds gs before hval0 hW hcnd _
  have hval : ∀ (j : Nat) t v, Try.f3.params[j]? = some t → args[j]? = some v → Value.okWide Try.prog W .any base t v := hval0
  have hW' := hW
  obtain ⟨p, q, hA0, hV, rfl, hfz, hnd⟩ := hW
  have hA : DataW.TrodAll enc Try.prog W 0 (fun _ => true) true Try.f3.params.toList args.toList ds p := hA0
  rw [Try.params3] at hA hval
  obtain ⟨v0, vs0, d0, ds0, p0, q0, hargs0, rfl, rfl, h0, r0⟩ := trodAll_cons hA
  obtain ⟨v1, vs1, d1, ds1, p1, q1, hargs1, rfl, rfl, h1, r1⟩ := trodAll_cons r0
  obtain ⟨v2, vs2, d2, ds2, p2, q2, hargs2, rfl, rfl, h2, r2⟩ := trodAll_cons r1
  obtain ⟨rfl, rfl, rfl⟩ := trodAll_nil r2
  obtain rfl : args = #[v0, v1, v2] := by cases args; simp_all
  clear hargs0 hargs1 hargs2
  obtain ⟨rfl, rfl⟩ := trodVars_none hV
  clear hA0 hval0 hA hcnd hfz hnd hV
  obtain ⟨a0, rfl, rfl, rfl, w0⟩ := open_int Try.underlying3 (hval 0 3 v0 rfl rfl) h0
  obtain ⟨a1, rfl, rfl, rfl, w1⟩ := open_int Try.underlying3 (hval 1 3 v1 rfl rfl) h1
  obtain ⟨A2, m2, cc2, rfl⟩ := okWide_slice Try.underlying22 (hval 2 22 v2 rfl rfl)
  obtain ⟨l, hr2, _, hlen2, _⟩ := (open_leaf rfl h2).slice Try.underlying22 fl32 c32_ (by decide) dec32
  refine (law3 a0 a1 l _ W hr2).out.mono ?_
  rintro e W' ⟨v, rfl, rfl, hc⟩
  exact ⟨_, rfl, law_post laidOut read3 rfl (by rfl) Try.underlying4 hW' rfl hc⟩
theorem votesPlays_closed : joinedFacts Try.prog 3 Try.f3 Rows.votesPlaysSpec Rows.votesPlaysRow = true := by
  unfold joinedFacts
  repeat' (with_reducible refine and2 ?_ ?_)
  all_goals first | with_reducible exact enter | with_reducible exact z1 | with_reducible exact z2 | with_reducible exact z3 | (rw [lifts]; as_aux_lemma => kernel_rfl) | (rw [maker]; as_aux_lemma => kernel_rfl) | (rw [z4]; as_aux_lemma => kernel_rfl) | as_aux_lemma => kernel_rfl
theorem votesPlays_holds : Rows.VotesPlaysSaid :=
  OpenClaim.holds_of_wide 3 Try.f3 rfl rfl rfl rfl rfl rfl rfl ⟨rfl, rfl, rfl, rfl, rfl⟩ rfl rfl rfl rfl rfl (by kernel_rfl) Try.func3 votesPlays_closed
    (of_decide_eq_true (by kernel_rfl)) (by unfold Func.isWrapper; first | (rw [if_pos (by decide +kernel)]; kernel_rfl) | (rw [if_neg (by decide +kernel)]; exact ⟨rfl, rfl⟩))
    (fun os started H enc _ => votesPlays_lifted os started H enc)

theorem read4 : ∀ t ∈ Try.f4.params.toList, Try.prog.readableRec t = true ∧ t < Try.prog.types.size := by
  have h : (Try.f4.params.toList.all fun t => Try.prog.readableRec t && decide (t < Try.prog.types.size)) = true := by kernel_rfl
  intro t ht
  have := List.all_eq_true.1 h t ht
  simpa using this
set_option maxRecDepth 100000 in
set_option maxHeartbeats 1000000 in
theorem votesOnce_lifted (os : Os) (started : os.Started) (H : Type) (enc : TypeId × Value → H) :
    ReturnsInHanded {} Try.checked os 4 .any (Rows.votesOnceSpec.pre6 enc Try.prog Try.f4 Rows.votesOnceRow.domain false) (Rows.votesOnceSpec.post enc Try.prog Try.f4 false true false false) := by
  refine returnsInHanded_of_change (C := Try.checked) own started (by kernel_rfl) Try.func4
    (ChangeSpec.witness6 (enc := enc) (C := Try.checked) false ⟨#[], #[.int .i64 0, .int .i64 0, .slice none 0 0], []⟩ 8 (by kernel_rfl) (by kernel_rfl) (by kernel_rfl) (by kernel_rfl)) ?_
  intro W base args ds gs before hval0 hW hcnd _
  have hval : ∀ (j : Nat) t v, Try.f4.params[j]? = some t → args[j]? = some v → Value.okWide Try.prog W .any base t v := hval0
  have hW' := hW
  obtain ⟨p, q, hA0, hV, rfl, hfz, hnd⟩ := hW
  have hA : DataW.TrodAll enc Try.prog W 0 (fun _ => true) true Try.f4.params.toList args.toList ds p := hA0
  rw [Try.params4] at hA hval
  obtain ⟨v0, vs0, d0, ds0, p0, q0, hargs0, rfl, rfl, h0, r0⟩ := trodAll_cons hA
  obtain ⟨v1, vs1, d1, ds1, p1, q1, hargs1, rfl, rfl, h1, r1⟩ := trodAll_cons r0
  obtain ⟨v2, vs2, d2, ds2, p2, q2, hargs2, rfl, rfl, h2, r2⟩ := trodAll_cons r1
  obtain ⟨rfl, rfl, rfl⟩ := trodAll_nil r2
  obtain rfl : args = #[v0, v1, v2] := by cases args; simp_all
  clear hargs0 hargs1 hargs2
  obtain ⟨rfl, rfl⟩ := trodVars_none hV
  clear hA0 hval0 hA hcnd hfz hnd hV
  obtain ⟨a0, rfl, rfl, rfl, w0⟩ := open_int Try.underlying3 (hval 0 3 v0 rfl rfl) h0
  obtain ⟨a1, rfl, rfl, rfl, w1⟩ := open_int Try.underlying3 (hval 1 3 v1 rfl rfl) h1
  obtain ⟨A2, m2, cc2, rfl⟩ := okWide_slice Try.underlying22 (hval 2 22 v2 rfl rfl)
  obtain ⟨l, hr2, _, hlen2, _⟩ := (open_leaf rfl h2).slice Try.underlying22 fl32 c32_ (by decide) dec32
  refine (law4 a0 a1 l _ W hr2).out.mono ?_
  rintro e W' ⟨v, rfl, rfl, hc⟩
  exact ⟨_, rfl, law_post laidOut read4 rfl (by rfl) Try.underlying4 hW' rfl hc⟩
theorem votesOnce_closed : joinedFacts Try.prog 4 Try.f4 Rows.votesOnceSpec Rows.votesOnceRow = true := by
  unfold joinedFacts
  repeat' (with_reducible refine and2 ?_ ?_)
  all_goals first | with_reducible exact enter | with_reducible exact z1 | with_reducible exact z2 | with_reducible exact z3 | (rw [lifts]; as_aux_lemma => kernel_rfl) | (rw [maker]; as_aux_lemma => kernel_rfl) | (rw [z4]; as_aux_lemma => kernel_rfl) | as_aux_lemma => kernel_rfl
theorem votesOnce_holds : Rows.VotesOnceSaid :=
  OpenClaim.holds_of_wide 4 Try.f4 rfl rfl rfl rfl rfl rfl rfl ⟨rfl, rfl, rfl, rfl, rfl⟩ rfl rfl rfl rfl rfl (by kernel_rfl) Try.func4 votesOnce_closed
    (of_decide_eq_true (by kernel_rfl)) (by unfold Func.isWrapper; first | (rw [if_pos (by decide +kernel)]; kernel_rfl) | (rw [if_neg (by decide +kernel)]; exact ⟨rfl, rfl⟩))
    (fun os started H enc _ => votesOnce_lifted os started H enc)

theorem read5 : ∀ t ∈ Try.f5.params.toList, Try.prog.readableRec t = true ∧ t < Try.prog.types.size := by
  have h : (Try.f5.params.toList.all fun t => Try.prog.readableRec t && decide (t < Try.prog.types.size)) = true := by kernel_rfl
  intro t ht
  have := List.all_eq_true.1 h t ht
  simpa using this
set_option maxRecDepth 100000 in
set_option maxHeartbeats 1000000 in
theorem votesMost_lifted (os : Os) (started : os.Started) (H : Type) (enc : TypeId × Value → H) :
    ReturnsInHanded {} Try.checked os 5 .any (Rows.votesMostSpec.pre6 enc Try.prog Try.f5 Rows.votesMostRow.domain false) (Rows.votesMostSpec.post enc Try.prog Try.f5 false true false false) := by
  refine returnsInHanded_of_change (C := Try.checked) own started (by kernel_rfl) Try.func5
    (ChangeSpec.witness6 (enc := enc) (C := Try.checked) false ⟨#[], #[.int .i64 0, .int .i64 0, .slice none 0 0], []⟩ 8 (by kernel_rfl) (by kernel_rfl) (by kernel_rfl) (by kernel_rfl)) ?_
  intro W base args ds gs before hval0 hW hcnd _
  have hval : ∀ (j : Nat) t v, Try.f5.params[j]? = some t → args[j]? = some v → Value.okWide Try.prog W .any base t v := hval0
  have hW' := hW
  obtain ⟨p, q, hA0, hV, rfl, hfz, hnd⟩ := hW
  have hA : DataW.TrodAll enc Try.prog W 0 (fun _ => true) true Try.f5.params.toList args.toList ds p := hA0
  rw [Try.params5] at hA hval
  obtain ⟨v0, vs0, d0, ds0, p0, q0, hargs0, rfl, rfl, h0, r0⟩ := trodAll_cons hA
  obtain ⟨v1, vs1, d1, ds1, p1, q1, hargs1, rfl, rfl, h1, r1⟩ := trodAll_cons r0
  obtain ⟨v2, vs2, d2, ds2, p2, q2, hargs2, rfl, rfl, h2, r2⟩ := trodAll_cons r1
  obtain ⟨rfl, rfl, rfl⟩ := trodAll_nil r2
  obtain rfl : args = #[v0, v1, v2] := by cases args; simp_all
  clear hargs0 hargs1 hargs2
  obtain ⟨rfl, rfl⟩ := trodVars_none hV
  clear hA0 hval0 hA hcnd hfz hnd hV
  obtain ⟨a0, rfl, rfl, rfl, w0⟩ := open_int Try.underlying3 (hval 0 3 v0 rfl rfl) h0
  obtain ⟨a1, rfl, rfl, rfl, w1⟩ := open_int Try.underlying3 (hval 1 3 v1 rfl rfl) h1
  obtain ⟨A2, m2, cc2, rfl⟩ := okWide_slice Try.underlying22 (hval 2 22 v2 rfl rfl)
  obtain ⟨l, hr2, _, hlen2, _⟩ := (open_leaf rfl h2).slice Try.underlying22 fl32 c32_ (by decide) dec32
  refine (law5 a0 a1 l _ W hr2).out.mono ?_
  rintro e W' ⟨v, rfl, rfl, hc⟩
  exact ⟨_, rfl, law_post laidOut read5 rfl (by rfl) Try.underlying4 hW' rfl hc⟩
theorem votesMost_closed : joinedFacts Try.prog 5 Try.f5 Rows.votesMostSpec Rows.votesMostRow = true := by
  unfold joinedFacts
  repeat' (with_reducible refine and2 ?_ ?_)
  all_goals first | with_reducible exact enter | with_reducible exact z1 | with_reducible exact z2 | with_reducible exact z3 | (rw [lifts]; as_aux_lemma => kernel_rfl) | (rw [maker]; as_aux_lemma => kernel_rfl) | (rw [z4]; as_aux_lemma => kernel_rfl) | as_aux_lemma => kernel_rfl
theorem votesMost_holds : Rows.VotesMostSaid :=
  OpenClaim.holds_of_wide 5 Try.f5 rfl rfl rfl rfl rfl rfl rfl ⟨rfl, rfl, rfl, rfl, rfl⟩ rfl rfl rfl rfl rfl (by kernel_rfl) Try.func5 votesMost_closed
    (of_decide_eq_true (by kernel_rfl)) (by unfold Func.isWrapper; first | (rw [if_pos (by decide +kernel)]; kernel_rfl) | (rw [if_neg (by decide +kernel)]; exact ⟨rfl, rfl⟩))
    (fun os started H enc _ => votesMost_lifted os started H enc)

theorem read6 : ∀ t ∈ Try.f6.params.toList, Try.prog.readableRec t = true ∧ t < Try.prog.types.size := by
  have h : (Try.f6.params.toList.all fun t => Try.prog.readableRec t && decide (t < Try.prog.types.size)) = true := by kernel_rfl
  intro t ht
  have := List.all_eq_true.1 h t ht
  simpa using this
set_option maxRecDepth 100000 in
set_option maxHeartbeats 1000000 in
theorem votesNone_lifted (os : Os) (started : os.Started) (H : Type) (enc : TypeId × Value → H) :
    ReturnsInHanded {} Try.checked os 6 .any (Rows.votesNoneSpec.pre6 enc Try.prog Try.f6 Rows.votesNoneRow.domain false) (Rows.votesNoneSpec.post enc Try.prog Try.f6 false true false false) := by
  refine returnsInHanded_of_change (C := Try.checked) own started (by kernel_rfl) Try.func6
    (ChangeSpec.witness6 (enc := enc) (C := Try.checked) false ⟨#[], #[.agg #[.int .i64 0, .int .i64 0, .int .i64 0, .int .i64 0, .string { data := #[] }]], []⟩ 8 (by kernel_rfl) (by kernel_rfl) (by kernel_rfl) (by kernel_rfl)) ?_
  intro W base args ds gs before hval0 hW hcnd _
  have hval : ∀ (j : Nat) t v, Try.f6.params[j]? = some t → args[j]? = some v → Value.okWide Try.prog W .any base t v := hval0
  have hW' := hW
  obtain ⟨p, q, hA0, hV, rfl, hfz, hnd⟩ := hW
  have hA : DataW.TrodAll enc Try.prog W 0 (fun _ => true) true Try.f6.params.toList args.toList ds p := hA0
  rw [Try.params6] at hA hval
  obtain ⟨v0, vs0, d0, ds0, p0, q0, hargs0, rfl, rfl, h0, r0⟩ := trodAll_cons hA
  obtain ⟨rfl, rfl, rfl⟩ := trodAll_nil r0
  obtain rfl : args = #[v0] := by cases args; simp_all
  clear hargs0
  obtain ⟨rfl, rfl⟩ := trodVars_none hV
  clear hA0 hval0 hA hcnd hfz hnd hV
  obtain ⟨cs, rfl, hl⟩ := open_struct Try.underlying32 fl32 (hval 0 32 v0 rfl rfl) h0
  obtain ⟨m, rfl, hm⟩ := dec32 cs hl
  refine (law6 m W).out.mono ?_
  rintro e W' ⟨v, rfl, rfl, hc⟩
  exact ⟨_, rfl, law_post laidOut read6 rfl (by rfl) Try.underlying4 hW' rfl hc⟩
theorem votesNone_closed : joinedFacts Try.prog 6 Try.f6 Rows.votesNoneSpec Rows.votesNoneRow = true := by
  unfold joinedFacts
  repeat' (with_reducible refine and2 ?_ ?_)
  all_goals first | with_reducible exact enter | with_reducible exact z1 | with_reducible exact z2 | with_reducible exact z3 | (rw [lifts]; as_aux_lemma => kernel_rfl) | (rw [maker]; as_aux_lemma => kernel_rfl) | (rw [z4]; as_aux_lemma => kernel_rfl) | as_aux_lemma => kernel_rfl
theorem votesNone_holds : Rows.VotesNoneSaid :=
  OpenClaim.holds_of_wide 6 Try.f6 rfl rfl rfl rfl rfl rfl rfl ⟨rfl, rfl, rfl, rfl, rfl⟩ rfl rfl rfl rfl rfl (by kernel_rfl) Try.func6 votesNone_closed
    (of_decide_eq_true (by kernel_rfl)) (by unfold Func.isWrapper; first | (rw [if_pos (by decide +kernel)]; kernel_rfl) | (rw [if_neg (by decide +kernel)]; exact ⟨rfl, rfl⟩))
    (fun os started H enc _ => votesNone_lifted os started H enc)

end Go.Proofs.Ytboibdmflblphaa
