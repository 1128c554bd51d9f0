/- D2 of the seat. -/
import Derived.Test.YtmikcmcgfehgfaaD1
namespace Go.Proofs.Ytmikcmcgfehgfaa
open Go Fw
theorem cb_38_D2 : callB Try.prog 38 = true := by kernel_rfl
theorem fa_77_2_D2 : FA Try.prog 77 2 513 := fun _ _ _ => by kernel_rfl
theorem ar_75_D2 : arrB Try.prog 75 = some (64, 3) := by kernel_rfl
theorem fa_74_1_D2 : FA Try.prog 74 1 1 := fun _ _ _ => by kernel_rfl
theorem sc_9_D2 : scalB Try.prog 9 = true := by kernel_rfl
theorem fa_74_2_D2 : FA Try.prog 74 2 2 := fun _ _ _ => by kernel_rfl
theorem sc_4_D2 : scalB Try.prog 4 = true := by kernel_rfl
theorem st_9_D2 : strB Try.prog 9 = true := by kernel_rfl
theorem fa_77_1_D2 : FA Try.prog 77 1 1 := fun _ _ _ => by kernel_rfl
theorem ar_71_D2 : arrB Try.prog 71 = some (64, 8) := by kernel_rfl
theorem ar_70_D2 : arrB Try.prog 70 = some (8, 1) := by kernel_rfl
theorem sz_4_D2 : sizeB Try.prog 4 = some 1 := by kernel_rfl
theorem fa_77_0_D2 : FA Try.prog 77 0 0 := fun _ _ _ => by kernel_rfl
theorem sc_3_D2 : scalB Try.prog 3 = true := by kernel_rfl
theorem cb_39_D2 : callB Try.prog 39 = true := by kernel_rfl
open FlwM

theorem Fw.Cl.foots {α : Type} {P : Program} {f : FuncId} {args : Array Value} {w : World} {m m' : List Res} {p : Value → α → Prop} {mm : α → List Res} (h : Cl P f args w (RetS m w p mm)) (e : foots m = foots m') : Cl P f args w (RetS m' w p mm) := by
  unfold RetS at h ⊢
  rw [← e]
  exact h
theorem c39 (b : Nat) (mp : Nat → Option Nat) (L : List Ans) (t : Int) (a : Ans) (f : Nat → Value) (first : ByteArray) (td : Bool) (hr : 0 ≤ a.height ∧ a.height < 64) (hl : L.length ≤ 512) (h0 : f (513 + a.height.toNat * 3) = .map (mp a.height.toNat)) (h1 : f (513 + a.height.toNat * 3 + 1) = .string first) (h2 : f (513 + a.height.toNat * 3 + 2) = .bool td) (w0 : World) (ho : Own w0.heap [blk b (.cells (cellsF 705 f) 77 (0, 0)), tlyR mp L a.height.toNat]) :
    Cl Try.prog 39 #[.pointer (some ⟨b, 513 + a.height.toNat * 3, none⟩), .string a.value, .int .i64 (t + 1)] w0 (RetS [blk b (.cells (cellsF 705 f) 77 (0, 0)), tlyR mp L a.height.toNat] w0 (fun v (_ : Nat) => v = .tuple #[])
      fun mb => [blk b (.cells (cellsF 705 (talF f (513 + a.height.toNat * 3) mb a.value first td (decide (t + 1 ≤ (cnt (L ++ [a]) a.height a.value : Nat))))) 77 (0, 0)), mapX encS mb (cntD (L ++ [a]) a.height)]) := by
  have hN : ((a.height.toNat : Nat) : Int) = a.height := Int.toNat_of_nonneg hr.1
  have e : (fun k => if k = a.value then some (Value.int .i64 ((cnt L a.height a.value : Nat) + 1)) else cntD L a.height k) = cntD (L ++ [a]) a.height := funext (cntD_snoc L a)
  have e2 : ((cnt L a.height a.value : Nat) : Int) + 1 = (cnt (L ++ [a]) a.height a.value : Nat) := by rw [cnt_snoc]; simp
  cases hmp : mp a.height.toNat with
  | none =>
    have ht : tlyR mp L a.height.toNat = pureR (∀ k, cnt L a.height k = 0) := by unfold tlyR; rw [hmp, hN]
    have hz : ∀ k, cnt L a.height k = 0 := by
      have := ho.ok (tlyR mp L a.height.toNat) (by simp)
      rw [ht] at this
      exact this
    have h := c39a b (513 + a.height.toNat * 3) f a.value first td (t + 1) (by rw [h0, hmp]) h1 h2 (by omega) w0 ho.one
    have e3 : (fun k => if k = a.value then some (Value.int .i64 (0 + 1)) else none) = cntD (L ++ [a]) a.height := by
      rw [← e]
      funext k
      simp [cntD, hz]
    have e4 : (0 + 1 : Int) = (cnt (L ++ [a]) a.height a.value : Nat) := by rw [← e2, hz]; rfl
    rw [e3] at h
    rw [← e4]
    exact h.foots (by simp [Fw.foots, ht, pureR])
  | some mb =>
    have ht : tlyR mp L a.height.toNat = mapX encS mb (cntD L a.height) := by unfold tlyR; rw [hmp, hN]
    rw [ht] at ho
    obtain ⟨N, hM⟩ := ho.ok (mapX encS mb (cntD L a.height)) (by simp)
    have ho' : Own w0.heap [blk b (.cells (cellsF 705 f) 77 (0, 0)), mapR encS mb (cntD L a.height) N] := ⟨fun x hx => by
      simp only [List.mem_cons, List.not_mem_nil, or_false] at hx
      rcases hx with rfl | rfl
      · exact ho.ok _ (by simp)
      · exact hM, ho.lt, ho.nd⟩
    have h := c39b b (513 + a.height.toNat * 3) f a.value first td (t + 1) mb N (cnt L a.height a.value) (cntD L a.height) (by rw [h0, hmp]) h1 h2 (by omega) (cntD_get _ _ _) (by have := cnt_le L a.height a.value; omega) w0 ho'
    rw [e, e2] at h
    exact h.foots (by rw [ht]; rfl)

theorem putShut {S : Nat → Prop} {w0 w : World} {r : List Res} {b mb : Nat} {mp : Nat → Option Nat} {L : List Ans} {t : Int} {a : Ans} {f : Nat → Value} (hok : okA L a = true) (C : FlwF f t L mp) (W : Wf L ∧ 0 ≤ t ∧ t ≤ 2)
    (M : Sep S w0 w (blk b (.cells (cellsF 705 (talF (upd f (1 + a.height.toNat * 8 + a.frm.toNat * 1) (.bool true)) (513 + a.height.toNat * 3) mb a.value ((told t L a.height).getD empty) (told t L a.height).isSome (decide (t + 1 ≤ (cnt (L ++ [a]) a.height a.value : Nat))))) 77 (0, 0)) :: mapX encS mb (cntD (L ++ [a]) a.height) :: bigR (tlyR mp L) ((List.range 64).eraseIdx a.height.toNat) :: r)) :
    Sep S w0 w (flwR b (fun x => if x = a.height.toNat then some mb else mp x) t (put L a) :: r) := by
  have hva : valid a = true := by
    have := hok
    simp only [okA, Bool.and_eq_true] at this
    exact this.1
  obtain ⟨v1, v2, v3, v4, v5, v6⟩ := valid_spec hva
  have hN : ((a.height.toNat : Nat) : Int) = a.height := Int.toNat_of_nonneg v3
  have hput : put L a = L ++ [a] := by unfold put; rw [if_pos hok]
  rw [hput]
  refine Fw.Sep.flwShut (f := talF (upd f (1 + a.height.toNat * 8 + a.frm.toNat * 1) (.bool true)) (513 + a.height.toNat * 3) mb a.value ((told t L a.height).getD empty) (told t L a.height).isSome (decide (t + 1 ≤ (cnt (L ++ [a]) a.height a.value : Nat)))) (Sep.f1 ?_) ?_ ⟨W.1.snoc hok, W.2⟩
  · have M1 : Sep S w0 w (bigR (tlyR mp L) ((List.range 64).eraseIdx a.height.toNat) :: blk b _ :: mapX encS mb (cntD (L ++ [a]) a.height) :: r) := M.f2
    have M2 := M1.bigCongr (g := tlyR (fun x => if x = a.height.toNat then some mb else mp x) (L ++ [a])) (fun x hx => by
      have hne := eraseIdx_range (n := 64) (by omega) x hx
      have hne' : a.height ≠ (x : Int) := by omega
      unfold tlyR
      simp only [if_neg hne]
      cases mp x with
      | none =>
        simp only
        congr 1
        simp [cnt_snoc, hne']
      | some m2 =>
        simp only
        congr 1
        funext k
        exact (cntD_other L a x hne' k).symm)
    have ht : tlyR (fun x => if x = a.height.toNat then some mb else mp x) (L ++ [a]) a.height.toNat = mapX encS mb (cntD (L ++ [a]) a.height) := by unfold tlyR; simp only [if_pos, hN]
    have M3 := M2.f2
    rw [← ht] at M3
    have M4 := Sep.bigIn (xs := List.range 64) (i := a.height.toNat) (y := a.height.toNat) M3 (by rw [List.length_range]; omega)
    have e : (List.range 64).set a.height.toNat a.height.toNat = List.range 64 := by
      apply List.ext_getElem?
      intro j
      by_cases hj : a.height.toNat = j
      · subst hj; rw [List.getElem?_set_self (l := List.range 64) (by rw [List.length_range]; omega), List.getElem?_range (by omega)]
      · rw [List.getElem?_set_ne hj]
    rw [e] at M4
    exact M4
  · have htd : ∀ h : Int, 0 ≤ h → h < 64 → told t (L ++ [a]) h = if h = a.height ∧ (told t L a.height).isSome = false ∧ t + 1 ≤ (cnt (L ++ [a]) a.height a.value : Nat) then some a.value else told t L h := fun h _ _ => by
      rw [told_snoc]
      by_cases hh : h = a.height
      · subst hh
        cases told t L a.height with
        | some v => simp
        | none =>
          simp only [true_and, Option.isSome_none]
          by_cases hc : t < (cnt (L ++ [a]) a.height a.value : Nat)
          · rw [if_pos hc, if_pos (by omega)]
          · rw [if_neg hc, if_neg (by omega)]
      · have hh' : ¬ a.height = h := fun e => hh e.symm
        simp only [hh, hh', false_and, if_false]
        cases told t L h <;> rfl
    refine ⟨?_, fun h i h1 h2 h3 h4 => ?_, fun h h1 h2 => ?_, fun h h1 h2 => ?_, fun h h1 h2 => ?_⟩
    · unfold talF
      rw [if_neg (by omega), if_neg (by omega), if_neg (by omega), upd_ne (by omega)]
      exact C.tt
    · unfold talF
      rw [if_neg (by omega), if_neg (by omega), if_neg (by omega), heard_snoc]
      by_cases he : a.height = h ∧ a.frm = i
      · obtain ⟨rfl, rfl⟩ := he
        rw [upd_at]; simp
      · rw [upd_ne (by omega), C.heard h i h1 h2 h3 h4]; simp [he]
    · unfold talF
      by_cases he : h = a.height
      · subst he
        rw [if_pos rfl, if_pos rfl]
      · rw [if_neg (by omega), if_neg (by omega), if_neg (by omega), upd_ne (by omega), if_neg (by omega)]
        exact C.map h h1 h2
    · rw [htd h h1 h2]
      unfold talF
      by_cases he : h = a.height
      · subst he
        rw [if_neg (by omega), if_pos rfl]
        cases told t L a.height <;> simp
        split <;> simp
      · rw [if_neg (by omega), if_neg (by omega), if_neg (by omega), upd_ne (by omega), if_neg (fun h => he h.1)]
        exact C.first h h1 h2
    · rw [htd h h1 h2]
      unfold talF
      by_cases he : h = a.height
      · subst he
        rw [if_neg (by omega), if_neg (by omega), if_pos rfl]
        cases told t L a.height <;> simp
        split <;> simp_all
      · rw [if_neg (by omega), if_neg (by omega), if_neg (by omega), upd_ne (by omega), if_neg (fun h => he h.1)]
        exact C.td h h1 h2

set_option maxRecDepth 100000 in
set_option maxHeartbeats 400000 in
theorem c18 (b : Nat) (mp : Nat → Option Nat) (t : Int) (L : List Ans) (h : Int) (w0 : World) (hc : (flwR b mp t L).ok w0.heap) : Cl Try.prog 18 #[.pointer (some ⟨b, 0, none⟩), .int .i64 h] w0 (RetQ w0 fun v => v = .tuple #[.string ((told t L h).getD empty), .bool (told t L h).isSome]) := by
  have M : Sep (fun _ => False) w0 w0 _ := Sep.nil _ w0
  obtain ⟨W, f, hb, C⟩ := flw_cell hc
  refine enter (vs := [_, _]) Try.func18 rfl rfl rfl ?_
  intro a F
  refine wp_seq ?_
  refine wp_region_l [.ind, .ind] ([0, 1]) rfl ?_
  refine s_I F rfl rfl rfl rfl rfl rfl ?_; clear F a; intro a F
  refine s_I F rfl rfl rfl rfl rfl rfl ?_; clear F a; intro a F
  refine t_endM M ?_; (clear M; try clear w); intro w M
  refine wp_seq ?_
  refine wp_seq ?_
  refine wp_region_l [.ind, .ind, .wr, .ind] ([0, 1, 2, 3]) rfl ?_
  refine s_I F rfl rfl rfl rfl rfl rfl ?_; clear F a; intro a F
  refine s_I F rfl rfl rfl rfl rfl rfl ?_; clear F a; intro a F
  refine s_cq F M rfl rfl rfl rfl rfl (rfl : _ = some [_, _]) cb_38_D2 (fun nd_ => c38 _ _ _) ?_; (clear F a M; try clear w); rintro v w rfl M a F
  refine s_I F rfl rfl rfl rfl rfl rfl ?_; clear F a; intro a F
  refine t_endM M ?_; (clear M; try clear w); intro w M
  refine c_if F rfl ?_ ?_
  ·
    clear F; intro hc0 F
    try rw [hc0] at F
    replace hc0 := nd1 hc0
    refine wp_seq ?_
    replace F := F.keep [0, 1, 4, 5] rfl
    refine wp_region_l [.ind, .ind] ([0, 1]) rfl ?_
    refine s_I F rfl rfl rfl rfl rfl rfl ?_; clear F a; intro a F
    refine s_I F rfl rfl rfl rfl rfl rfl ?_; clear F a; intro a F
    refine t_endM M ?_; (clear M; try clear w); intro w M
    refine wp_ret ?_
    refine ret2 F rfl rfl rfl ?_
    -- end 0
    refine ⟨_, rfl, ?_, M.chg⟩
    rw [told_out W.1 (by omega)]
    rfl
  ·
    clear F; intro hc1 F
    try rw [hc1] at F
    replace hc1 := nd0 hc1
    refine wp_skip ?_
    refine wp_seq ?_
    replace F := F.keep [0, 1, 4, 5] rfl
    refine wp_region_l [.ind, .ind, .ind, .ind, .ind, .ind] ([0, 1, 2, 3, 4, 5]) rfl ?_
    refine s_I F rfl rfl rfl rfl rfl rfl ?_; clear F a; intro a F
    refine s_I F rfl rfl rfl rfl rfl rfl ?_; clear F a; intro a F
    refine s_I F rfl rfl rfl rfl rfl rfl ?_; clear F a; intro a F
    refine s_fa0 F rfl rfl rfl rfl fa_77_2_D2 rfl ?_; clear F a; intro a F
    refine s_ia F rfl rfl rfl rfl ar_75_D2 rfl rfl (by omega) (by omega) ?_; clear F a; intro a F
    refine s_I F rfl rfl rfl rfl rfl rfl ?_; clear F a; intro a F
    refine t_endM M ?_; (clear M; try clear w); intro w M
    refine wp_seq ?_
    replace F := F.keep [0, 1, 4, 5, 6] rfl
    refine wp_region_t [.ind, .ind, .ind, .rd, .ind, .ind, .ind, .rd, .ind, .ind] [] (otOf [0, 1, 2, 3, 4, 5, 6, 7, 8, 9]) mixed (by kernel_rfl) ?_
    refine s_I F rfl rfl rfl rfl rfl rfl ?_; clear F a; intro a F
    refine s_I F rfl rfl rfl rfl rfl rfl ?_; clear F a; intro a F
    refine s_fa F rfl rfl rfl rfl fa_74_1_D2 rfl ?_; clear F a; intro a F
    refine s_ld F rfl rfl rfl rfl sc_9_D2 rfl (by exact old_cell M id hb (gf (C.first _ (by omega) (by omega)) (by omega))) ?_; clear F a; intro a F
    refine s_I F rfl rfl rfl rfl rfl rfl ?_; clear F a; intro a F
    refine s_I F rfl rfl rfl rfl rfl rfl ?_; clear F a; intro a F
    refine s_fa F rfl rfl rfl rfl fa_74_2_D2 rfl ?_; clear F a; intro a F
    refine s_ld F rfl rfl rfl rfl sc_4_D2 rfl (by exact old_cell M id hb (gf (C.td _ (by omega) (by omega)) (by omega))) ?_; clear F a; intro a F
    refine s_I F rfl rfl rfl rfl rfl rfl ?_; clear F a; intro a F
    refine s_I F rfl rfl rfl rfl rfl rfl ?_; clear F a; intro a F
    refine t_endM M ?_; (clear M; try clear w); intro w M
    refine wp_ret ?_
    refine ret2 F rfl rfl rfl ?_
    -- end 1
    exact ⟨_, rfl, rfl, M.chg⟩
set_option maxRecDepth 100000 in
set_option maxHeartbeats 400000 in
theorem c18n (h : Int) (w0 : World) : Cl Try.prog 18 #[.pointer none, .int .i64 h] w0 (RetQ w0 fun v => v = .tuple #[.string empty, .bool false]) := by
  have M : Sep (fun _ => False) w0 w0 _ := Sep.nil _ w0
  refine enter (vs := [_, _]) Try.func18 rfl rfl rfl ?_
  intro a F
  refine wp_seq ?_
  refine wp_region_l [.ind, .ind] ([0, 1]) rfl ?_
  refine s_I F rfl rfl rfl rfl rfl rfl ?_; clear F a; intro a F
  refine s_I F rfl rfl rfl rfl rfl rfl ?_; clear F a; intro a F
  refine t_endM M ?_; (clear M; try clear w); intro w M
  refine wp_seq ?_
  refine wp_seq ?_
  refine wp_region_l [.ind, .ind, .wr, .ind] ([0, 1, 2, 3]) rfl ?_
  refine s_I F rfl rfl rfl rfl rfl rfl ?_; clear F a; intro a F
  refine s_I F rfl rfl rfl rfl rfl rfl ?_; clear F a; intro a F
  refine s_cq F M rfl rfl rfl rfl rfl (rfl : _ = some [_, _]) cb_38_D2 (fun nd_ => c38n _ _) ?_; (clear F a M; try clear w); rintro v w rfl M a F
  refine s_I F rfl rfl rfl rfl rfl rfl ?_; clear F a; intro a F
  replace F : Fr _ _ ((10, Value.bool true) :: _) := F
  refine t_endM M ?_; (clear M; try clear w); intro w M
  refine c_t F rfl ?_
  refine wp_seq ?_
  replace F := F.keep [0, 1, 4, 5] rfl
  refine wp_region_l [.ind, .ind] ([0, 1]) rfl ?_
  refine s_I F rfl rfl rfl rfl rfl rfl ?_; clear F a; intro a F
  refine s_I F rfl rfl rfl rfl rfl rfl ?_; clear F a; intro a F
  refine t_endM M ?_; (clear M; try clear w); intro w M
  refine wp_ret ?_
  refine ret2 F rfl rfl rfl ?_
  -- end 0
  exact ⟨_, rfl, rfl, M.chg⟩
set_option maxRecDepth 100000 in
set_option maxHeartbeats 400000 in
theorem c17n (q : Ans) (w0 : World) : Cl Try.prog 17 #[.pointer none, .int .i64 q.frm, .int .i64 q.height, .string q.value] w0 (RetQ w0 fun v => v = .bool false) := by
  have M : Sep (fun _ => False) w0 w0 _ := Sep.nil _ w0
  refine enter (vs := [_, _, _, _]) Try.func17 rfl rfl rfl ?_
  intro a F
  refine wp_seq ?_
  refine wp_region_l [.ind] ([0]) rfl ?_
  refine s_I F rfl rfl rfl rfl rfl rfl ?_; clear F a; intro a F
  refine t_endM M ?_; (clear M; try clear w); intro w M
  refine wp_seq ?_
  refine wp_seq ?_
  refine wp_region_l [.ind, .ind, .wr, .ind, .ind, .ind, .ind, .ind, .ind, .ind, .ind, .ind, .ind, .ind, .ind, .ind, .ind, .ind, .ind, .ind, .ind, .ind, .ind, .ind, .ind, .ind, .ind, .ind, .ind, .rd, .ind] ([0, 1, 2, 3, 4, 5, 6, 7, 8, 9, 10, 11, 12, 13, 14, 15, 16, 17, 18, 19, 20, 21, 22, 23, 24, 25, 26, 27, 28, 29, 30]) rfl ?_
  refine s_I F rfl rfl rfl rfl rfl rfl ?_; clear F a; intro a F
  refine s_I F rfl rfl rfl rfl rfl rfl ?_; clear F a; intro a F
  refine s_cq F M rfl rfl rfl rfl rfl (rfl : _ = some [_, _]) cb_38_D2 (fun nd_ => c38n _ _) ?_; (clear F a M; try clear w); rintro v w rfl M a F
  refine s_I F rfl rfl rfl rfl rfl rfl ?_; clear F a; intro a F
  refine s_I F rfl rfl rfl rfl rfl rfl ?_; clear F a; intro a F
  replace F : Fr _ _ ((13, Value.bool true) :: _) := F
  refine s_no F rfl rfl rfl rfl ?_; clear F a; intro a F
  refine s_no F rfl rfl rfl rfl ?_; clear F a; intro a F
  refine s_I F rfl rfl rfl rfl rfl rfl ?_; clear F a; intro a F
  refine s_I F rfl rfl rfl rfl rfl rfl ?_; clear F a; intro a F
  refine s_no F rfl rfl rfl rfl ?_; clear F a; intro a F
  refine s_no F rfl rfl rfl rfl ?_; clear F a; intro a F
  refine s_I F rfl rfl rfl rfl rfl rfl ?_; clear F a; intro a F
  refine s_I F rfl rfl rfl rfl rfl rfl ?_; clear F a; intro a F
  refine s_no F rfl rfl rfl rfl ?_; clear F a; intro a F
  refine s_no F rfl rfl rfl rfl ?_; clear F a; intro a F
  refine s_I F rfl rfl rfl rfl rfl rfl ?_; clear F a; intro a F
  refine s_I F rfl rfl rfl rfl rfl rfl ?_; clear F a; intro a F
  refine s_no F rfl rfl rfl rfl ?_; clear F a; intro a F
  refine s_no F rfl rfl rfl rfl ?_; clear F a; intro a F
  refine s_no F rfl rfl rfl rfl ?_; clear F a; intro a F
  refine s_I F rfl rfl rfl rfl rfl rfl ?_; clear F a; intro a F
  refine s_I F rfl rfl rfl rfl rfl rfl ?_; clear F a; intro a F
  refine s_no F rfl rfl rfl rfl ?_; clear F a; intro a F
  refine s_no F rfl rfl rfl rfl ?_; clear F a; intro a F
  refine s_no F rfl rfl rfl rfl ?_; clear F a; intro a F
  refine s_no F rfl rfl rfl rfl ?_; clear F a; intro a F
  refine s_no F rfl rfl rfl rfl ?_; clear F a; intro a F
  refine s_no F rfl rfl rfl rfl ?_; clear F a; intro a F
  refine s_no F rfl rfl rfl rfl ?_; clear F a; intro a F
  refine s_no F rfl rfl rfl rfl ?_; clear F a; intro a F
  refine s_I F rfl rfl rfl rfl rfl rfl ?_; clear F a; intro a F
  refine t_endM M ?_; (clear M; try clear w); intro w M
  refine c_t F rfl ?_
  refine wp_seq ?_
  replace F := F.keep [0, 1, 2, 3, 8] rfl
  refine wp_region_l [.ind] ([0]) rfl ?_
  refine s_I F rfl rfl rfl rfl rfl rfl ?_; clear F a; intro a F
  refine t_endM M ?_; (clear M; try clear w); intro w M
  refine wp_ret ?_
  refine ret1 F rfl rfl ?_
  -- end 0
  exact ⟨_, rfl, rfl, M.chg⟩
set_option maxRecDepth 100000 in
set_option maxHeartbeats 2000000 in
theorem c17 (b : Nat) (mp : Nat → Option Nat) (t : Int) (L : List Ans) (q : Ans) (w0 : World) (ho : Own w0.heap [flwR b mp t L]) : Cl Try.prog 17 #[.pointer (some ⟨b, 0, none⟩), .int .i64 q.frm, .int .i64 q.height, .string q.value] w0 (RetS [flwR b mp t L] w0 (fun v (_ : Nat → Option Nat) => v = .bool (okA L q)) fun mp' => [flwR b mp' t (put L q)]) := by
  have M : Sep (fun b_ => b_ ∈ foots [flwR b mp t L]) w0 w0 _ := Sep.start ho
  obtain ⟨f, C, W, M⟩ := M.flwOpen
  have hln := W.1.len
  refine enter (vs := [_, _, _, _]) Try.func17 rfl rfl rfl ?_
  intro a F
  refine wp_seq ?_
  refine wp_region_l [.ind] ([0]) rfl ?_
  refine s_I F rfl rfl rfl rfl rfl rfl ?_; clear F a; intro a F
  refine t_endM M ?_; (clear M; try clear w); intro w M
  refine wp_seq ?_
  refine wp_seq ?_
  refine wp_region_l [.ind, .ind, .wr, .ind, .ind, .ind, .ind, .ind, .ind, .ind, .ind, .ind, .ind, .ind, .ind, .ind, .ind, .ind, .ind, .ind, .ind, .ind, .ind, .ind, .ind, .ind, .ind, .ind, .ind, .rd, .ind] ([0, 1, 2, 3, 4, 5, 6, 7, 8, 9, 10, 11, 12, 13, 14, 15, 16, 17, 18, 19, 20, 21, 22, 23, 24, 25, 26, 27, 28, 29, 30]) rfl ?_
  refine s_I F rfl rfl rfl rfl rfl rfl ?_; clear F a; intro a F
  refine s_I F rfl rfl rfl rfl rfl rfl ?_; clear F a; intro a F
  refine s_cq F M rfl rfl rfl rfl rfl (rfl : _ = some [_, _]) cb_38_D2 (fun nd_ => c38 _ _ _) ?_; (clear F a M; try clear w); rintro v w rfl M a F
  refine s_I F rfl rfl rfl rfl rfl rfl ?_; clear F a; intro a F
  refine s_I F rfl rfl rfl rfl rfl rfl ?_; clear F a; intro a F
  refine bsplit F 13 rfl ?_ ?_
  ·
    clear F; intro hc0 F
    try rw [hc0] at F
    replace hc0 := nd1 hc0
    refine s_no F rfl rfl rfl rfl ?_; clear F a; intro a F
    refine s_no F rfl rfl rfl rfl ?_; clear F a; intro a F
    refine s_I F rfl rfl rfl rfl rfl rfl ?_; clear F a; intro a F
    refine s_I F rfl rfl rfl rfl rfl rfl ?_; clear F a; intro a F
    refine s_no F rfl rfl rfl rfl ?_; clear F a; intro a F
    refine s_no F rfl rfl rfl rfl ?_; clear F a; intro a F
    refine s_I F rfl rfl rfl rfl rfl rfl ?_; clear F a; intro a F
    refine s_I F rfl rfl rfl rfl rfl rfl ?_; clear F a; intro a F
    refine s_no F rfl rfl rfl rfl ?_; clear F a; intro a F
    refine s_no F rfl rfl rfl rfl ?_; clear F a; intro a F
    refine s_I F rfl rfl rfl rfl rfl rfl ?_; clear F a; intro a F
    refine s_I F rfl rfl rfl rfl rfl rfl ?_; clear F a; intro a F
    refine s_no F rfl rfl rfl rfl ?_; clear F a; intro a F
    refine s_no F rfl rfl rfl rfl ?_; clear F a; intro a F
    refine s_no F rfl rfl rfl rfl ?_; clear F a; intro a F
    refine s_I F rfl rfl rfl rfl rfl rfl ?_; clear F a; intro a F
    refine s_I F rfl rfl rfl rfl rfl rfl ?_; clear F a; intro a F
    refine s_no F rfl rfl rfl rfl ?_; clear F a; intro a F
    refine s_no F rfl rfl rfl rfl ?_; clear F a; intro a F
    refine s_no F rfl rfl rfl rfl ?_; clear F a; intro a F
    refine s_no F rfl rfl rfl rfl ?_; clear F a; intro a F
    refine s_no F rfl rfl rfl rfl ?_; clear F a; intro a F
    refine s_no F rfl rfl rfl rfl ?_; clear F a; intro a F
    refine s_no F rfl rfl rfl rfl ?_; clear F a; intro a F
    refine s_no F rfl rfl rfl rfl ?_; clear F a; intro a F
    refine s_I F rfl rfl rfl rfl rfl rfl ?_; clear F a; intro a F
    refine t_endM M ?_; (clear M; try clear w); intro w M
    refine c_t F rfl ?_
    refine wp_seq ?_
    replace F := F.keep [0, 1, 2, 3, 8] rfl
    refine wp_region_l [.ind] ([0]) rfl ?_
    refine s_I F rfl rfl rfl rfl rfl rfl ?_; clear F a; intro a F
    refine t_endM M ?_; (clear M; try clear w); intro w M
    refine wp_ret ?_
    refine ret1 F rfl rfl ?_
    -- end 0
    have hno : okA L q = false := by clear M F ho; grind [okA, valid, empty]
    refine ⟨_, mp, rfl, by rw [hno], ?_⟩
    have hp : put L q = L := by unfold put; rw [if_neg (by rw [hno]; simp)]
    rw [hp]
    exact Sep.left (r := []) (M.flwShut C W)
  ·
    clear F; intro hc1 F
    try rw [hc1] at F
    replace hc1 := nd0 hc1
    refine s_I F rfl rfl rfl rfl rfl rfl ?_; clear F a; intro a F
    refine s_bin F rfl rfl rfl rfl rfl rfl rfl ?_; clear F a; intro a F
    refine s_I F rfl rfl rfl rfl rfl rfl ?_; clear F a; intro a F
    refine s_I F rfl rfl rfl rfl rfl rfl ?_; clear F a; intro a F
    refine bsplit F 17 rfl ?_ ?_
    ·
      clear F; intro hc2 F
      try rw [hc2] at F
      replace hc2 := of_decide_eq_true hc2
      refine s_no F rfl rfl rfl rfl ?_; clear F a; intro a F
      refine s_no F rfl rfl rfl rfl ?_; clear F a; intro a F
      refine s_I F rfl rfl rfl rfl rfl rfl ?_; clear F a; intro a F
      refine s_I F rfl rfl rfl rfl rfl rfl ?_; clear F a; intro a F
      refine s_no F rfl rfl rfl rfl ?_; clear F a; intro a F
      refine s_no F rfl rfl rfl rfl ?_; clear F a; intro a F
      refine s_I F rfl rfl rfl rfl rfl rfl ?_; clear F a; intro a F
      refine s_I F rfl rfl rfl rfl rfl rfl ?_; clear F a; intro a F
      refine s_no F rfl rfl rfl rfl ?_; clear F a; intro a F
      refine s_no F rfl rfl rfl rfl ?_; clear F a; intro a F
      refine s_no F rfl rfl rfl rfl ?_; clear F a; intro a F
      refine s_I F rfl rfl rfl rfl rfl rfl ?_; clear F a; intro a F
      refine s_I F rfl rfl rfl rfl rfl rfl ?_; clear F a; intro a F
      refine s_no F rfl rfl rfl rfl ?_; clear F a; intro a F
      refine s_no F rfl rfl rfl rfl ?_; clear F a; intro a F
      refine s_no F rfl rfl rfl rfl ?_; clear F a; intro a F
      refine s_no F rfl rfl rfl rfl ?_; clear F a; intro a F
      refine s_no F rfl rfl rfl rfl ?_; clear F a; intro a F
      refine s_no F rfl rfl rfl rfl ?_; clear F a; intro a F
      refine s_no F rfl rfl rfl rfl ?_; clear F a; intro a F
      refine s_no F rfl rfl rfl rfl ?_; clear F a; intro a F
      refine s_I F rfl rfl rfl rfl rfl rfl ?_; clear F a; intro a F
      refine t_endM M ?_; (clear M; try clear w); intro w M
      refine c_t F rfl ?_
      refine wp_seq ?_
      replace F := F.keep [0, 1, 2, 3, 8] rfl
      refine wp_region_l [.ind] ([0]) rfl ?_
      refine s_I F rfl rfl rfl rfl rfl rfl ?_; clear F a; intro a F
      refine t_endM M ?_; (clear M; try clear w); intro w M
      refine wp_ret ?_
      refine ret1 F rfl rfl ?_
      -- end 1
      have hno : okA L q = false := by clear M F ho; grind [okA, valid, empty]
      refine ⟨_, mp, rfl, by rw [hno], ?_⟩
      have hp : put L q = L := by unfold put; rw [if_neg (by rw [hno]; simp)]
      rw [hp]
      exact Sep.left (r := []) (M.flwShut C W)
    ·
      clear F; intro hc3 F
      try rw [hc3] at F
      replace hc3 := of_decide_eq_false hc3
      refine s_I F rfl rfl rfl rfl rfl rfl ?_; clear F a; intro a F
      refine s_bin F rfl rfl rfl rfl rfl rfl rfl ?_; clear F a; intro a F
      refine s_I F rfl rfl rfl rfl rfl rfl ?_; clear F a; intro a F
      refine s_I F rfl rfl rfl rfl rfl rfl ?_; clear F a; intro a F
      refine bsplit F 21 rfl ?_ ?_
      ·
        clear F; intro hc4 F
        try rw [hc4] at F
        replace hc4 := of_decide_eq_true hc4
        refine s_no F rfl rfl rfl rfl ?_; clear F a; intro a F
        refine s_no F rfl rfl rfl rfl ?_; clear F a; intro a F
        refine s_I F rfl rfl rfl rfl rfl rfl ?_; clear F a; intro a F
        refine s_I F rfl rfl rfl rfl rfl rfl ?_; clear F a; intro a F
        refine s_no F rfl rfl rfl rfl ?_; clear F a; intro a F
        refine s_no F rfl rfl rfl rfl ?_; clear F a; intro a F
        refine s_no F rfl rfl rfl rfl ?_; clear F a; intro a F
        refine s_I F rfl rfl rfl rfl rfl rfl ?_; clear F a; intro a F
        refine s_I F rfl rfl rfl rfl rfl rfl ?_; clear F a; intro a F
        refine s_no F rfl rfl rfl rfl ?_; clear F a; intro a F
        refine s_no F rfl rfl rfl rfl ?_; clear F a; intro a F
        refine s_no F rfl rfl rfl rfl ?_; clear F a; intro a F
        refine s_no F rfl rfl rfl rfl ?_; clear F a; intro a F
        refine s_no F rfl rfl rfl rfl ?_; clear F a; intro a F
        refine s_no F rfl rfl rfl rfl ?_; clear F a; intro a F
        refine s_no F rfl rfl rfl rfl ?_; clear F a; intro a F
        refine s_no F rfl rfl rfl rfl ?_; clear F a; intro a F
        refine s_I F rfl rfl rfl rfl rfl rfl ?_; clear F a; intro a F
        refine t_endM M ?_; (clear M; try clear w); intro w M
        refine c_t F rfl ?_
        refine wp_seq ?_
        replace F := F.keep [0, 1, 2, 3, 8] rfl
        refine wp_region_l [.ind] ([0]) rfl ?_
        refine s_I F rfl rfl rfl rfl rfl rfl ?_; clear F a; intro a F
        refine t_endM M ?_; (clear M; try clear w); intro w M
        refine wp_ret ?_
        refine ret1 F rfl rfl ?_
        -- end 2
        have hno : okA L q = false := by clear M F ho; grind [okA, valid, empty]
        refine ⟨_, mp, rfl, by rw [hno], ?_⟩
        have hp : put L q = L := by unfold put; rw [if_neg (by rw [hno]; simp)]
        rw [hp]
        exact Sep.left (r := []) (M.flwShut C W)
      ·
        clear F; intro hc5 F
        try rw [hc5] at F
        replace hc5 := of_decide_eq_false hc5
        refine s_I F rfl rfl rfl rfl rfl rfl ?_; clear F a; intro a F
        refine s_bin F rfl rfl rfl rfl rfl rfl rfl ?_; clear F a; intro a F
        refine s_I F rfl rfl rfl rfl rfl rfl ?_; clear F a; intro a F
        refine s_I F rfl rfl rfl rfl rfl rfl ?_; clear F a; intro a F
        refine bsplit F 25 rfl ?_ ?_
        ·
          clear F; intro hc6 F
          try rw [hc6] at F
          replace hc6 := of_decide_eq_true hc6
          refine s_no F rfl rfl rfl rfl ?_; clear F a; intro a F
          refine s_no F rfl rfl rfl rfl ?_; clear F a; intro a F
          refine s_no F rfl rfl rfl rfl ?_; clear F a; intro a F
          refine s_I F rfl rfl rfl rfl rfl rfl ?_; clear F a; intro a F
          refine s_I F rfl rfl rfl rfl rfl rfl ?_; clear F a; intro a F
          refine s_no F rfl rfl rfl rfl ?_; clear F a; intro a F
          refine s_no F rfl rfl rfl rfl ?_; clear F a; intro a F
          refine s_no F rfl rfl rfl rfl ?_; clear F a; intro a F
          refine s_no F rfl rfl rfl rfl ?_; clear F a; intro a F
          refine s_no F rfl rfl rfl rfl ?_; clear F a; intro a F
          refine s_no F rfl rfl rfl rfl ?_; clear F a; intro a F
          refine s_no F rfl rfl rfl rfl ?_; clear F a; intro a F
          refine s_no F rfl rfl rfl rfl ?_; clear F a; intro a F
          refine s_I F rfl rfl rfl rfl rfl rfl ?_; clear F a; intro a F
          refine t_endM M ?_; (clear M; try clear w); intro w M
          refine c_t F rfl ?_
          refine wp_seq ?_
          replace F := F.keep [0, 1, 2, 3, 8] rfl
          refine wp_region_l [.ind] ([0]) rfl ?_
          refine s_I F rfl rfl rfl rfl rfl rfl ?_; clear F a; intro a F
          refine t_endM M ?_; (clear M; try clear w); intro w M
          refine wp_ret ?_
          refine ret1 F rfl rfl ?_
          -- end 3
          have hno : okA L q = false := by clear M F ho; grind [okA, valid, empty]
          refine ⟨_, mp, rfl, by rw [hno], ?_⟩
          have hp : put L q = L := by unfold put; rw [if_neg (by rw [hno]; simp)]
          rw [hp]
          exact Sep.left (r := []) (M.flwShut C W)
        ·
          clear F; intro hc7 F
          try rw [hc7] at F
          replace hc7 := of_decide_eq_false hc7
          refine s_I F rfl rfl rfl rfl rfl rfl ?_; clear F a; intro a F
          refine s_lenS F rfl rfl rfl rfl st_9_D2 rfl ?_; clear F a; intro a F
          refine s_bin F rfl rfl rfl rfl rfl rfl rfl ?_; clear F a; intro a F
          refine s_I F rfl rfl rfl rfl rfl rfl ?_; clear F a; intro a F
          refine s_I F rfl rfl rfl rfl rfl rfl ?_; clear F a; intro a F
          refine bsplit F 30 rfl ?_ ?_
          ·
            clear F; intro hc8 F
            try rw [hc8] at F
            replace hc8 := of_decide_eq_true hc8
            refine s_no F rfl rfl rfl rfl ?_; clear F a; intro a F
            refine s_no F rfl rfl rfl rfl ?_; clear F a; intro a F
            refine s_no F rfl rfl rfl rfl ?_; clear F a; intro a F
            refine s_no F rfl rfl rfl rfl ?_; clear F a; intro a F
            refine s_no F rfl rfl rfl rfl ?_; clear F a; intro a F
            refine s_no F rfl rfl rfl rfl ?_; clear F a; intro a F
            refine s_no F rfl rfl rfl rfl ?_; clear F a; intro a F
            refine s_no F rfl rfl rfl rfl ?_; clear F a; intro a F
            refine s_I F rfl rfl rfl rfl rfl rfl ?_; clear F a; intro a F
            refine t_endM M ?_; (clear M; try clear w); intro w M
            refine c_t F rfl ?_
            refine wp_seq ?_
            replace F := F.keep [0, 1, 2, 3, 8] rfl
            refine wp_region_l [.ind] ([0]) rfl ?_
            refine s_I F rfl rfl rfl rfl rfl rfl ?_; clear F a; intro a F
            refine t_endM M ?_; (clear M; try clear w); intro w M
            refine wp_ret ?_
            refine ret1 F rfl rfl ?_
            -- end 4
            have hno : okA L q = false := by clear M F ho; grind [okA, valid, empty]
            refine ⟨_, mp, rfl, by rw [hno], ?_⟩
            have hp : put L q = L := by unfold put; rw [if_neg (by rw [hno]; simp)]
            rw [hp]
            exact Sep.left (r := []) (M.flwShut C W)
          ·
            clear F; intro hc9 F
            try rw [hc9] at F
            replace hc9 := of_decide_eq_false hc9
            refine s_I F rfl rfl rfl rfl rfl rfl ?_; clear F a; intro a F
            refine s_I F rfl rfl rfl rfl rfl rfl ?_; clear F a; intro a F
            refine s_I F rfl rfl rfl rfl rfl rfl ?_; clear F a; intro a F
            refine s_I F rfl rfl rfl rfl rfl rfl ?_; clear F a; intro a F
            refine s_fa0 F rfl rfl rfl rfl fa_77_1_D2 rfl ?_; clear F a; intro a F
            refine s_ia F rfl rfl rfl rfl ar_71_D2 rfl rfl (by omega) (by omega) ?_; clear F a; intro a F
            refine s_ia F rfl rfl rfl rfl ar_70_D2 rfl rfl (by omega) (by omega) ?_; clear F a; intro a F
            refine s_ld F rfl rfl rfl rfl sc_4_D2 rfl (by exact cell_of_blk M.h0 (gf (C.heard _ _ (by omega) (by omega) (by omega) (by omega)) (by omega))) ?_; clear F a; intro a F
            refine s_I F rfl rfl rfl rfl rfl rfl ?_; clear F a; intro a F
            refine t_endM M ?_; (clear M; try clear w); intro w M
            refine c_if F rfl ?_ ?_
            ·
              clear F; intro hc10 F
              try rw [hc10] at F
              skip
              refine wp_seq ?_
              replace F := F.keep [0, 1, 2, 3, 8] rfl
              refine wp_region_l [.ind] ([0]) rfl ?_
              refine s_I F rfl rfl rfl rfl rfl rfl ?_; clear F a; intro a F
              refine t_endM M ?_; (clear M; try clear w); intro w M
              refine wp_ret ?_
              refine ret1 F rfl rfl ?_
              -- end 5
              have hno : okA L q = false := by clear M F ho; grind [okA, valid, empty]
              refine ⟨_, mp, rfl, by rw [hno], ?_⟩
              have hp : put L q = L := by unfold put; rw [if_neg (by rw [hno]; simp)]
              rw [hp]
              exact Sep.left (r := []) (M.flwShut C W)
            ·
              clear F; intro hc11 F
              try rw [hc11] at F
              skip
              refine wp_skip ?_
              refine wp_seq ?_
              have hok : okA L q = true := by clear M F ho; grind [okA, valid, empty]
              replace F := F.keep [0, 1, 2, 3, 8] rfl
              refine wp_region_l [.ind, .ind, .ind, .ind, .ind, .ind, .ind, .wr] ([0, 1, 2, 3, 4, 5, 6, 7]) rfl ?_
              refine s_I F rfl rfl rfl rfl rfl rfl ?_; clear F a; intro a F
              refine s_I F rfl rfl rfl rfl rfl rfl ?_; clear F a; intro a F
              refine s_I F rfl rfl rfl rfl rfl rfl ?_; clear F a; intro a F
              refine s_I F rfl rfl rfl rfl rfl rfl ?_; clear F a; intro a F
              refine s_fa0 F rfl rfl rfl rfl fa_77_1_D2 rfl ?_; clear F a; intro a F
              refine s_ia F rfl rfl rfl rfl ar_71_D2 rfl rfl (by omega) (by omega) ?_; clear F a; intro a F
              refine s_ia F rfl rfl rfl rfl ar_70_D2 rfl rfl (by omega) (by omega) ?_; clear F a; intro a F
              refine s_sf F M rfl rfl rfl sz_4_D2 rfl rfl rfl (by omega) ?_; (clear M; try clear w); intro w M
              refine t_endM M ?_; (clear M; try clear w); intro w M
              refine wp_seq ?_
              replace F := F.keep [0, 1, 2, 3, 8] rfl
              refine wp_region_t [.ind, .ind, .ind, .ind, .ind, .ind, .ind, .ind, .ind, .rd, .ind, .wr] [] (otOf [0, 1, 2, 3, 4, 5, 6, 7, 8, 9, 10, 11]) mixed (by kernel_rfl) ?_
              refine s_I F rfl rfl rfl rfl rfl rfl ?_; clear F a; intro a F
              refine s_I F rfl rfl rfl rfl rfl rfl ?_; clear F a; intro a F
              refine s_I F rfl rfl rfl rfl rfl rfl ?_; clear F a; intro a F
              refine s_fa0 F rfl rfl rfl rfl fa_77_2_D2 rfl ?_; clear F a; intro a F
              refine s_ia F rfl rfl rfl rfl ar_75_D2 rfl rfl (by omega) (by omega) ?_; clear F a; intro a F
              refine s_I F rfl rfl rfl rfl rfl rfl ?_; clear F a; intro a F
              refine s_I F rfl rfl rfl rfl rfl rfl ?_; clear F a; intro a F
              refine s_I F rfl rfl rfl rfl rfl rfl ?_; clear F a; intro a F
              refine s_fa0 F rfl rfl rfl rfl fa_77_0_D2 rfl ?_; clear F a; intro a F
              refine s_ld F rfl rfl rfl rfl sc_3_D2 rfl (by exact cell_of_blk M.h0 (gf ((upd_ne (by omega)).trans C.tt) (by omega))) ?_; clear F a; intro a F
              refine s_add F rfl rfl rfl rfl rfl rfl (by unfold In64; omega) ?_; clear F a; intro a F
              have M1 : Sep _ _ _ (bigR _ _ :: _) := M.f1; replace M := M1; clear M1
              replace M := M.bigOut (i := q.height.toNat) (x := q.height.toNat) (by rw [List.getElem?_range (by omega)])
              have M1 : Sep _ _ _ (tlyR _ _ _ :: _) := M; replace M := M1; clear M1
              have M1 : Sep _ _ _ (blk b _ :: _) := M.f2; replace M := M1; clear M1
              refine s_call (m := [_, _]) F M rfl rfl rfl rfl rfl (rfl : _ = some [_, _, _]) cb_39_D2 (fun nd_ => c39 b mp L t q (upd f (1 + q.height.toNat * 8 + q.frm.toNat * 1) (.bool true)) _ _ (by omega) hln ((upd_ne (by omega)).trans (C.map _ (by omega) (by omega))) ((upd_ne (by omega)).trans (C.first _ (by omega) (by omega))) ((upd_ne (by omega)).trans (C.td _ (by omega) (by omega))) _ ((M.drewN nd_).own.left (m := [_, _]))) ?_; (clear F a M; try clear w); rintro v x w rfl M a F; (try simp only [List.cons_append, List.nil_append] at M)
              rename Nat => mb
              refine t_endM M ?_; (clear M; try clear w); intro w M
              refine wp_seq ?_
              replace F := F.keep [0, 1, 2, 3, 8] rfl
              refine wp_region_l [.ind] ([0]) rfl ?_
              refine s_I F rfl rfl rfl rfl rfl rfl ?_; clear F a; intro a F
              refine t_endM M ?_; (clear M; try clear w); intro w M
              refine wp_ret ?_
              refine ret1 F rfl rfl ?_
              -- end 6
              refine ⟨_, fun x => if x = q.height.toNat then some mb else mp x, rfl, by rw [hok], ?_⟩
              exact Sep.left (r := _) (putShut hok C W M)
end Go.Proofs.Ytmikcmcgfehgfaa
