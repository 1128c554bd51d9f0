/- ZT of the seat. -/
import Derived.Test.YteajeenmojbjhaaGreatDoorCards
import Derived.SevenTiedAt
import Derived.ProofKit
import Derived.Test.YteajeenmojbjhaaGreatDoorTie
import Derived.Test.YteajeenmojbjhaaGreatDoorP29
import Derived.Test.YteajeenmojbjhaaGreatDoorP7
import Derived.Test.YteajeenmojbjhaaGreatDoorP24
import Derived.Test.YteajeenmojbjhaaGreatDoorP28
namespace Go.Proofs.YteajeenmojbjhaaGreatDoor
open Go Fw
open Go.ChangeShapes Go.WideShapes Go.ChangeAt Go.RowKit
theorem c6 {w : World} (hG : Ev.GW w) : Cl Tryz.prog 6 #[] w (RetQ w fun r => r = .bool true) := by
 obtain ⟨_,vs,u,h1,h2,h3⟩ := Ev.awake_true w hG
 have h1 : Ev.denL (fun _ => none) [] = some vs := h1
 have h2 : Ev.den (fun _ => none) (.bool true) = some u := h2
 simp only [Ev.denL,Option.some.injEq] at h1
 subst h1
 simp only [Ev.den,Option.some.injEq] at h2
 subst h2
 refine ⟨(h3 w (Ev.Old.refl w)).mono ?_⟩
 rintro e w' ⟨rfl,ho⟩
 exact ⟨_,rfl,rfl,Ev.Old.chg ho⟩
theorem own : ownKnob Tryz.prog.godebug = none := by kernel_rfl
theorem laidOut : laidOutB Tryz.prog = true := z1
section
variable {H : Type} {enc : TypeId × Value → H} {w : World} {base : Nat} {spare : Nat → Bool} {held : Bool}
theorem fl25 : flatT Tryz.prog 3 25 = some [23,23,23,23] := by kernel_rfl
theorem c25_ : Tryz.prog.cellsOf 25 = 4 := by kernel_rfl
theorem fl3 : flatT Tryz.prog 3 3 = some [3] := by kernel_rfl
theorem c3_ : Tryz.prog.cellsOf 3 = 1 := by kernel_rfl
theorem u23 : Tryz.prog.underlying 23 = some (.int .u64) := by kernel_rfl
theorem Leaf.u64 {c : Value} (h : Leaf enc Tryz.prog w base spare held 23 c) : ∃ n : Nat,c = u6 n ∧ n < 18446744073709551616 := by
 obtain ⟨fuel,y,h⟩ := h
 obtain ⟨n,h1,_,hw⟩ := DataW.trod_int u23 h
 have hw : 0 ≤ n ∧ n ≤ 18446744073709551615 := by simpa [Lit.wf,IntKind.min,IntKind.max,IntKind.signed,IntKind.bits] using hw
 refine ⟨n.toNat,?_,by omega⟩
 rw [show (u6 n.toNat : Value) = .int .u64 ((n.toNat : Nat) : Int) from rfl,Int.toNat_of_nonneg hw.1]
 simpa using h1
theorem dec25 (cs : List Value) (h : Lvs enc Tryz.prog w base spare held [23,23,23,23] cs) : ∃ x : Nat,cs = encX x ∧ x < 115792089237316195423570985008687907853269984665640564039457584007913129639936 := by
 obtain ⟨hl,h⟩ := h
 obtain ⟨c0,k0,l0⟩ := h 0 23 rfl
 obtain ⟨c1,k1,l1⟩ := h 1 23 rfl
 obtain ⟨c2,k2,l2⟩ := h 2 23 rfl
 obtain ⟨c3,k3,l3⟩ := h 3 23 rfl
 obtain ⟨n0,rfl,b0⟩ := Leaf.u64 l0
 obtain ⟨n1,rfl,b1⟩ := Leaf.u64 l1
 obtain ⟨n2,rfl,b2⟩ := Leaf.u64 l2
 obtain ⟨n3,rfl,b3⟩ := Leaf.u64 l3
 match cs,hl with
 | [d0,d1,d2,d3],_ =>
  obtain rfl : d0 = _ := by simpa using k0
  obtain rfl : d1 = _ := by simpa using k1
  obtain rfl : d2 = _ := by simpa using k2
  obtain rfl : d3 = _ := by simpa using k3
  refine ⟨n0 + 18446744073709551616 * n1 + 340282366920938463463374607431768211456 * n2 + 6277101735386680763835789423207666416102355444464034512896 * n3,?_,by omega⟩
  have e0 : (n0 + 18446744073709551616 * n1 + 340282366920938463463374607431768211456 * n2 + 6277101735386680763835789423207666416102355444464034512896 * n3) % 18446744073709551616 = n0 := by omega
  have e1 : (n0 + 18446744073709551616 * n1 + 340282366920938463463374607431768211456 * n2 + 6277101735386680763835789423207666416102355444464034512896 * n3) / 18446744073709551616 % 18446744073709551616 = n1 := by omega
  have e2 : (n0 + 18446744073709551616 * n1 + 340282366920938463463374607431768211456 * n2 + 6277101735386680763835789423207666416102355444464034512896 * n3) / 340282366920938463463374607431768211456 % 18446744073709551616 = n2 := by omega
  have e3 : (n0 + 18446744073709551616 * n1 + 340282366920938463463374607431768211456 * n2 + 6277101735386680763835789423207666416102355444464034512896 * n3) / 6277101735386680763835789423207666416102355444464034512896 % 18446744073709551616 = n3 := by omega
  show _ = [u6 _,u6 _,u6 _,u6 _]
  rw [e0,e1,e2,e3]
theorem dec3 (cs : List Value) (h : Lvs enc Tryz.prog w base spare held [3] cs) : ∃ x : Int,cs = encI x ∧ In64 x := by
 obtain ⟨hl,h⟩ := h
 obtain ⟨c0,k0,l0⟩ := h 0 3 rfl
 obtain ⟨n,rfl,hn⟩ := l0.int (by kernel_rfl)
 match cs,hl with
 | [d0],_ =>
  obtain rfl : d0 = _ := by simpa using k0
  exact ⟨n,rfl,hn⟩
end
theorem okWide_array {P : Program} {w : World} {r : Go.Reach} {base t n e : Nat} {v : Value} (ht : P.underlying t = some (.array n e)) (h : Value.okWide P w r base t v) : ∃ cs,v = .agg cs ∧ cs.size = P.cellsOf t := by
 simp only [Value.okWide,ht] at h
 obtain ⟨cs,h1,h2,_⟩ := h
 exact ⟨cs,h1,h2⟩
theorem read3 : ∀ t ∈ Tryz.f3.params.toList,Tryz.prog.readableRec t = true ∧ t < Tryz.prog.types.size := by
 have h : (Tryz.f3.params.toList.all fun t => Tryz.prog.readableRec t && decide (t < Tryz.prog.types.size)) = true := by kernel_rfl
 intro t ht
 have := List.all_eq_true.1 h t ht
 simpa using this
set_option maxRecDepth 100000 in
set_option maxHeartbeats 1000000 in
theorem topHides_lifted (os : Os) (started : os.Started) (H : Type) (enc : TypeId × Value → H) :
  ReturnsInHanded {} Tryz.checked os 3 .any (fun w args => (Rows.topHidesSpec.pre enc Tryz.prog Tryz.f3 [] false w args ∧ laidMetH Tryz.prog Ev.laidT w) ∧ sizedMet enc Tryz.prog Tryz.f3 (OpenSpec.ofChange Rows.topHidesSpec) false w args)
   (Rows.topHidesSpec.post enc Tryz.prog Tryz.f3 false true false false) := by
 refine returnsInHanded_of_change_and (C := Tryz.checked) (X := fun w _ => laidMetH Tryz.prog Ev.laidT w) (fun _ _ _ hh h => h.of_heap hh) own started (by kernel_rfl) Tryz.func3
  (ChangeSpec.witness_shaped (enc := enc) (C := Tryz.checked) (os := os) (X := fun w _ => laidMetH Tryz.prog Ev.laidT w) false (World.doorLaid Tryz.prog 400 os) #[.slice none 0 0,.agg #[.int .u64 0,.int .u64 0,.int .u64 0,.int .u64 0],.slice none 0 0] 8 rfl (World.shaped_of_RefB (by kernel_rfl) (by kernel_rfl)) (by kernel_rfl) (by kernel_rfl) (by kernel_rfl) (Ev.door_met os _)) ?_
 intro W base args ds gs before hval0 hW _ _ hL _
 have hval : ∀ (j : Nat) t v,Tryz.f3.params[j]? = some t → args[j]? = some v → Value.okWide Tryz.prog W .any base t v := hval0
 have hW' := hW
 obtain ⟨p,q,hA0,hV,rfl,hfz,hnd⟩ := hW
 have hA : DataW.TrodAll enc Tryz.prog W 0 (fun _ => true) true Tryz.f3.params.toList args.toList ds p := hA0
 rw [Tryz.params3] at hA hval
 obtain ⟨v0,vs0,d0,ds0,p0,q0,hargs0,rfl,rfl,h0,r0⟩ := trodAll_cons hA
 obtain ⟨v1,vs1,d1,ds1,p1,q1,hargs1,rfl,rfl,h1,r1⟩ := trodAll_cons r0
 obtain ⟨v2,vs2,d2,ds2,p2,q2,hargs2,rfl,rfl,h2,r2⟩ := trodAll_cons r1
 obtain ⟨rfl,rfl,rfl⟩ := trodAll_nil r2
 obtain rfl : args = #[v0,v1,v2] := by cases args; simp_all
 clear hargs0 hargs1 hargs2
 obtain ⟨rfl,rfl⟩ := trodVars_none hV
 clear hA0 hval0 hA hfz hnd hV
 obtain ⟨A0,m0,cc0,rfl⟩ := okWide_slice Tryz.underlying22 (hval 0 22 v0 rfl rfl)
 obtain ⟨l,hr0,hx,hl,_⟩ := (open_leaf rfl h0).slice Tryz.underlying22 fl25 c25_ (by decide) dec25
 obtain ⟨A2,m2,cc2,rfl⟩ := okWide_slice Tryz.underlying26 (hval 2 26 v2 rfl rfl)
 obtain ⟨pl,hr2,_,hl2,_⟩ := (open_leaf rfl h2).slice Tryz.underlying26 fl3 c3_ (by decide) dec3
 obtain ⟨cs,rfl,hcs⟩ := okWide_array Tryz.underlying25 (hval 1 25 v1 rfl rfl)
 obtain ⟨fuel,hf⟩ := h1
 obtain ⟨o,ho,hoM⟩ := dec25 _ (trod_leaves 3 25 _ fuel _ _ fl25 hf)
 have eo : Value.agg cs = nV o := by
  have h : cs.toList = encX o := ho
  show Value.agg cs = Value.agg (encX o).toArray
  rw [← h]
 rw [eo] at hW' ⊢
 have hm : maxLen ≤ 9223372036854775807 := by decide
 refine (c3 Ev.GW (fun _ _ h hc => h.chg hc) (fun _ h => c6 h) l hx (Nat.le_trans hl hm) o hoM pl (Nat.le_trans hl2 hm) _ _ W hr0 hr2 (Ev.of_laid hL)).out.mono ?_
 rintro e W' ⟨v,rfl,rfl,hc⟩
 exact ⟨_,rfl,law_post laidOut read3 rfl (by rfl) Tryz.underlying4 hW' rfl hc⟩
set_option maxHeartbeats 4000000 in
theorem topHides_closed : joinedFacts Tryz.prog 3 Tryz.f3 Rows.topHidesSpec Rows.topHidesRow = true := by
 unfold joinedFacts
 repeat' (with_reducible refine and2 ?_ ?_)
 all_goals first | with_reducible exact enter | with_reducible exact z1 | with_reducible exact z2 | with_reducible exact z3 | (rw [lifts]; as_aux_lemma => kernel_rfl) | (rw [maker]; as_aux_lemma => kernel_rfl) | (rw [z4]; as_aux_lemma => kernel_rfl) | as_aux_lemma => kernel_rfl
theorem topHides_holds : Rows.TopHidesSaid :=
 OpenClaim.holds_of_wide 3 Tryz.f3 rfl rfl rfl rfl rfl rfl rfl ⟨rfl,rfl,rfl,rfl,rfl⟩ rfl rfl rfl rfl rfl (by kernel_rfl) Tryz.func3 topHides_closed
  (of_decide_eq_true (by kernel_rfl)) (by unfold Func.isWrapper; first | (rw [if_pos (by decide +kernel)]; kernel_rfl) | (rw [if_neg (by decide +kernel)]; exact ⟨rfl,rfl⟩))
  (fun os started H enc _ => topHides_lifted os started H enc)
theorem stand3 : ∀ t ∈ [22,25,26],Tryz.prog.wantsStandIn t = false := by
 intro t ht
 have h : ([22,25,26].all fun t => !Tryz.prog.wantsStandIn t) = true := by kernel_rfl
 simpa using List.all_eq_true.1 h t ht
theorem topHidesCard_holds : Rows.TopHidesCardSaid :=
 Claim7.holds_tied_plain_at .later [] [.data,.data] true (true,"9e3f06539f47b2a746d603d7f344e5cdb12837e9b5a7fdd23ba93643227f9349") true
  topHides_holds (fun _ h => by cases h) (by kernel_rfl) (fun _ h => by cases h) topHides_row_tie rfl ⟨rfl,rfl⟩ (by kernel_rfl) rfl
  (fun f fn hf hfn => by
   obtain rfl : f = 3 := Option.some.inj ((show Tryz.prog.funcNamed "sandglass/sandglasstop.TopHides" = some 3 by kernel_rfl).symm.trans hf) |>.symm
   obtain rfl : fn = Tryz.f3 := (Option.some.inj (Tryz.func3.symm.trans hfn)).symm
   exact ⟨by kernel_rfl,fun j t ht => by
    rw [Tryz.params3] at ht
    exact stand3 t (List.mem_of_getElem? (i := j) (by simpa using ht))⟩)
  (by kernel_rfl)
end Go.Proofs.YteajeenmojbjhaaGreatDoor
