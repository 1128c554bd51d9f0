/- R4 of the seat. -/
import Derived.Test.YtboibdmflblphaaR3
namespace Go.Proofs.Ytboibdmflblphaa
open Go Fw
theorem zr_53_R4 : zeroB Try.prog 53 = some (.agg #[.int .i64 0, .int .i64 0, .string { data := #[] }, .int .i64 0, .int .i64 0, .string { data := #[] }, .int .i64 0, .string { data := #[] }, .int .i64 0, .slice none 0 0, .int .i64 0, .int .i64 0, .slice none 0 0, .bool false, .bool false, .string { data := #[] }]) := by kernel_rfl
theorem fa_53_3_R4 : FA Try.prog 53 3 3 := fun _ _ _ => by kernel_rfl
theorem sc_3_R4 : scalB Try.prog 3 = true := by kernel_rfl
theorem ag_53_R4 : aggB Try.prog 53 = some 16 := by kernel_rfl
theorem sz_53_R4 : sizeB Try.prog 53 = some 16 := by kernel_rfl
theorem cb_84_R4 : callB Try.prog 84 = true := by kernel_rfl
theorem cb_23_R4 : callB Try.prog 23 = true := by kernel_rfl
theorem zr_28_R4 : zeroB Try.prog 28 = some (.agg #[.int .i64 0, .int .i64 0, .slice none 0 0]) := by kernel_rfl
theorem sz_28_R4 : sizeB Try.prog 28 = some 3 := by kernel_rfl
theorem bl_53__R4 : ∀ w : World, (Instr.build 53 #[]).run Try.prog w = .ok (.agg #[.int .i64 0, .int .i64 0, .string { data := #[] }, .int .i64 0, .int .i64 0, .string { data := #[] }, .int .i64 0, .string { data := #[] }, .int .i64 0, .slice none 0 0, .int .i64 0, .int .i64 0, .slice none 0 0, .bool false, .bool false, .string { data := #[] }]) w := by intros; kernel_rfl
theorem st_9_R4 : strB Try.prog 9 = true := by kernel_rfl
theorem ag_28_R4 : aggB Try.prog 28 = some 3 := by kernel_rfl
theorem bl_53_0_1_2_3_6_8_10_R4 : ∀ (x0 : Int) (x1 : Int) (x2 : ByteArray) (x3 : Int) (x6 : Int) (x8 : Int) (x10_0 : Int) (x10_1 : Int) (x10_2 : Option Addr) (n10_2 c10_2 : Nat), ∀ w : World, (Instr.build 53 #[(0, .int .i64 x0), (1, .int .i64 x1), (2, .string x2), (3, .int .i64 x3), (6, .int .i64 x6), (8, .int .i64 x8), (10, .agg #[.int .i64 x10_0, .int .i64 x10_1, .slice x10_2 n10_2 c10_2])]).run Try.prog w = .ok (.agg #[.int .i64 x0, .int .i64 x1, .string x2, .int .i64 x3, .int .i64 0, .string { data := #[] }, .int .i64 x6, .string { data := #[] }, .int .i64 x8, .slice none 0 0, .int .i64 x10_0, .int .i64 x10_1, .slice x10_2 n10_2 c10_2, .bool false, .bool false, .string { data := #[] }]) w := by intros; kernel_rfl
open VoteM AgrM

def zS : ASt := ⟨0, 0, 0, 0, VoteM.empty, 0, 0, VoteM.empty, 0, VoteM.empty, 0, [], [], false, false, VoteM.empty⟩
abbrev nilV : Value := .slice none 0 0
theorem okA_sp {n t me h : Int} {v : ByteArray} (hk : okA n t me h v = true) : quorum n t ≠ 0 ∧ 1 ≤ me ∧ me ≤ n ∧ 0 ≤ h ∧ h ≤ 64 ∧ v ≠ VoteM.empty ∧ v.size ≤ 4096 := by
 simpa [okA, and_assoc] using hk
theorem c45r (st : ASt) (W : st.Wf) (q : Wrd) (pv lv : Value) (w0 : World) (ho : Own w0.heap [wsR pv st.Ps, wsR lv st.L]) : Cl Try.prog 45 #[aV st pv lv, wrdV q] w0 (RetS [wsR pv st.Ps, wsR lv st.L] w0 (fun o (x : Value × Value × Value) => o = .tuple #[aV (st.take q).1 x.1 x.2.1, x.2.2]) fun x => [wsR x.1 (st.take q).1.Ps, wsR x.2.1 (st.take q).1.L, wsR x.2.2 (st.take q).2]) := by
 by_cases hn : (st.round < 0 ∨ st.done = true) ∨ st.cnt q = false
 · rw [take_not hn]
   refine ⟨(c45n st W q hn pv lv w0 (SlOk.rd (ho.ok (wsR pv st.Ps) (by simp))) (SlOk.rd (ho.ok (wsR lv st.L) (by simp)))).out.mono ?_⟩
   rintro _ w' ⟨v, e, hp, hc⟩
   refine ⟨v, (pv, lv, nilV), e, hp, ?_⟩
   have M := ((Sep.start ho).quiet hc).nilT encW 32 5
   exact M.f2.f2
 · have h0 : 0 ≤ st.round := by
     rcases Int.lt_or_le st.round 0 with h | h
     · exact absurd (.inl (.inl h)) hn
     · exact h
   have hd : st.done = false := by
     cases h : st.done
     · rfl
     · exact absurd (.inl (.inr h)) hn
   have hc : st.cnt q = true := by
     cases h : st.cnt q
     · exact absurd (.inr h) hn
     · rfl
   exact c45y st W q h0 hd hc pv lv w0 ho

set_option maxRecDepth 100000 in
set_option maxHeartbeats 400000 in
theorem c42 (st : ASt) {PA LA : Option Addr} {pn pc ln lc : Nat} (w0 : World) : Cl Try.prog 42 #[aV st (.slice PA pn pc) (.slice LA ln lc)] w0 (RetS [] w0 (fun o (x : Value) => o = .tuple #[aV st.start (.slice PA pn pc) (.slice LA ln lc), x]) fun x => [wsR x st.startO]) := by
 have M : Sep (fun b => b ∈ foots ([] : List Res)) w0 w0 _ := Sep.nil _ w0
 refine enter (vs := [_]) Try.func42 rfl rfl rfl ?_
 intro a F
 refine wp_seq ?_
 refine wp_region_l [.wr, .wr, .ind] ([0, 1, 2]) rfl ?_
 refine s_bxA F M rfl rfl rfl rfl rfl ?_; (clear F a M; try clear w); intro b1 w M a F
 refine s_alc F M rfl rfl rfl rfl zr_53_R4 rfl ?_; (clear F a M; try clear w); intro b2 w M a F
 refine s_I F rfl rfl rfl rfl rfl rfl ?_; clear F a; intro a F
 refine t_endM M ?_; (clear M; try clear w); intro w M
 refine wp_seq ?_
 refine wp_seq ?_
 refine wp_region_l [.ind, .rd, .ind] ([0, 1, 2]) rfl ?_
 refine s_fa0 F rfl rfl rfl rfl fa_53_3_R4 rfl ?_; clear F a; intro a F
 refine s_ld F rfl rfl rfl rfl sc_3_R4 rfl (by exact cell_of_blk M.h1 (lit rfl)) ?_; clear F a; intro a F
 refine s_bin F rfl rfl rfl rfl rfl rfl rfl ?_; clear F a; intro a F
 refine t_endM M ?_; (clear M; try clear w); intro w M
 refine c_if F rfl ?_ ?_
 clear F; intro hc0 F
 try rw [hc0] at F
 replace hc0 := of_decide_eq_true hc0
 refine wp_seq ?_
 replace F := F.keep [0, 1, 2, 3] rfl
 refine wp_region_l [.rd, .wr, .ind] ([0, 1, 2]) rfl ?_
 refine s_lda F rfl rfl rfl rfl ag_53_R4 rfl rfl (cells_whole M.h1) ?_; clear F a; intro a F
 refine s_stW F M rfl rfl rfl sz_53_R4 rfl rfl rfl rfl rfl ?_; (clear M; try clear w); intro w M
 refine s_I F rfl rfl rfl rfl rfl rfl ?_; clear F a; intro a F
 refine t_endM M ?_; (clear M; try clear w); intro w M
 refine wp_ret ?_
 refine rt2 F rfl (by exact rv_a F rfl ag_53_R4 rfl (cells_whole M.h0)) (rv_t F rfl) ?_
 replace M := M.nilT encW 32 5
 rw [(start_dead (by assumption)).1, (start_dead (by assumption)).2]
 refine ⟨_, nilV, rfl, rfl, ?_⟩
 exact Sep.left (m := [_]) M
 clear F; intro hc1 F
 try rw [hc1] at F
 replace hc1 := of_decide_eq_false hc1
 refine wp_skip ?_
 refine wp_seq ?_
 replace F := F.keep [0, 1, 2, 3] rfl
 refine wp_region_l [.rd, .wr, .ind, .ind, .wr, .ind] ([0, 1, 2, 3, 4, 5]) rfl ?_
 refine s_lda F rfl rfl rfl rfl ag_53_R4 rfl rfl (cells_whole M.h1) ?_; clear F a; intro a F
 refine s_call (m := []) F M rfl rfl rfl rfl rfl (rfl : _ = some [_, _]) cb_84_R4 (fun nd_ => c84 st 0 _) ?_; (clear F a M; try clear w); rintro v x w rfl M a F; (try simp only [List.cons_append, List.nil_append] at M)
 refine s_rn 2 F rfl rfl ?_; clear F a; intro a F
 refine s_stW F M.f1 rfl rfl rfl sz_53_R4 rfl rfl rfl rfl rfl ?_; (clear M; try clear w); intro w M
 refine s_I F rfl rfl rfl rfl rfl rfl ?_; clear F a; intro a F
 refine t_endM M ?_; (clear M; try clear w); intro w M
 refine wp_ret ?_
 refine rt2 F rfl (by exact rv_a F rfl ag_53_R4 rfl (cells_whole M.h0)) (rv_t F rfl) ?_
 rw [(start_live (by omega)).1, (start_live (by omega)).2]
 refine ⟨_, x, rfl, rfl, ?_⟩
 have M1 : Sep _ _ _ (slR _ _ 32 _ _ :: _) := M.f1; replace M := M1; clear M1
 exact Sep.left (m := [_]) M
set_option maxRecDepth 100000 in
set_option maxHeartbeats 400000 in
theorem c40 (n t me h : Int) (v : ByteArray) (hk : okA n t me h v = true) (w0 : World) : Cl Try.prog 40 #[.int .i64 n, .int .i64 t, .int .i64 me, .int .i64 h, .string v] w0 (RetQ w0 fun o => o = .tuple #[aV (newA n t me h v) nilV nilV, .bool true]) := by
 have M : Sep (fun _ => False) w0 w0 _ := Sep.nil _ w0
 refine enter (vs := [_, _, _, _, _]) Try.func40 rfl rfl rfl ?_
 intro a F
 refine wp_seq ?_
 refine wp_region_l [.wr, .ind] ([0, 1]) rfl ?_
 refine s_alc F M rfl rfl rfl rfl zr_53_R4 rfl ?_; (clear F a M; try clear w); intro b10 w M a F
 refine s_I F rfl rfl rfl rfl rfl rfl ?_; clear F a; intro a F
 refine t_endM M ?_; (clear M; try clear w); intro w M
 refine wp_seq ?_
 refine wp_region_l [.ind, .ind, .wr, .ind, .ind, .ind, .wr, .wr, .ind] ([0, 1, 2, 3, 4, 5, 6, 7, 8]) rfl ?_
 refine s_rn 2 F rfl rfl ?_; clear F a; intro a F
 refine s_cq F M rfl rfl rfl rfl rfl (rfl : _ = some [_, _]) cb_23_R4 (fun nd_ => c23 n t (okA_sp hk).1 _) ?_; (clear F a M; try clear w); rintro v w rfl M a F
 refine s_rn 3 F rfl rfl ?_; clear F a; intro a F
 refine s_alc F M rfl rfl rfl rfl zr_28_R4 rfl ?_; (clear F a M; try clear w); intro b12 w M a F
 refine s_stW F M rfl rfl rfl sz_28_R4 rfl rfl rfl rfl rfl ?_; (clear M; try clear w); intro w M
 refine s_I F rfl rfl rfl rfl rfl rfl ?_; clear F a; intro a F
 replace F : Fr _ _ ((13, Value.bool true) :: _) := F
 refine t_endM M ?_; (clear M; try clear w); intro w M
 refine wp_seq ?_
 refine wp_seq ?_
 replace F := F.keep [0, 1, 2, 3, 4, 10, 11, 12, 13] rfl
 refine wp_region_l [.ind, .ind, .ind, .ind, .ind, .ind, .ind, .ind, .ind, .ind, .ind, .ind, .ind, .ind, .ind, .ind, .ind, .ind, .ind, .ind, .ind, .ind, .ind, .ind, .ind, .ind, .ind, .ind] ([0, 1, 2, 3, 4, 5, 6, 7, 8, 9, 10, 11, 12, 13, 14, 15, 16, 17, 18, 19, 20, 21, 22, 23, 24, 25, 26, 27]) rfl ?_
 refine s_rn 7 F rfl rfl ?_; clear F a; intro a F
 refine bsplit F 26 rfl ?_ ?_
 clear F; intro hc0 F
 try rw [hc0] at F
 replace hc0 := of_decide_eq_true hc0
 refine s_rn 21 F rfl rfl ?_; clear F a; intro a F
 refine t_endM M ?_; (clear M; try clear w); intro w M
 refine c_t F rfl ?_
 refine wp_seq ?_
 replace F := F.keep [0, 1, 2, 3, 4, 10, 11, 12, 13] rfl
 refine wp_region_l [.ind, .wr, .ind] ([0, 1, 2]) rfl ?_
 refine s_bld F rfl rfl rfl rfl (parts0 F ) (bl_53__R4) ?_; clear F a; intro a F
 refine s_stW F M.f1 rfl rfl rfl sz_53_R4 rfl rfl rfl rfl rfl ?_; (clear M; try clear w); intro w M
 refine s_I F rfl rfl rfl rfl rfl rfl ?_; clear F a; intro a F
 refine t_endM M ?_; (clear M; try clear w); intro w M
 refine wp_ret ?_
 refine rt2 F rfl (by exact rv_a F rfl ag_53_R4 rfl (cells_whole M.h0)) (rv_t F rfl) ?_
 exfalso
 obtain ⟨k1, k2, k3, k4, k5, k6, k7⟩ := okA_sp hk
 omega
 clear F; intro hc1 F
 try rw [hc1] at F
 replace hc1 := of_decide_eq_false hc1
 refine s_rn 5 F rfl rfl ?_; clear F a; intro a F
 refine bsplit F 31 rfl ?_ ?_
 clear F; intro hc2 F
 try rw [hc2] at F
 replace hc2 := of_decide_eq_true hc2
 refine s_rn 16 F rfl rfl ?_; clear F a; intro a F
 refine t_endM M ?_; (clear M; try clear w); intro w M
 refine c_t F rfl ?_
 refine wp_seq ?_
 replace F := F.keep [0, 1, 2, 3, 4, 10, 11, 12, 13] rfl
 refine wp_region_l [.ind, .wr, .ind] ([0, 1, 2]) rfl ?_
 refine s_bld F rfl rfl rfl rfl (parts0 F ) (bl_53__R4) ?_; clear F a; intro a F
 refine s_stW F M.f1 rfl rfl rfl sz_53_R4 rfl rfl rfl rfl rfl ?_; (clear M; try clear w); intro w M
 refine s_I F rfl rfl rfl rfl rfl rfl ?_; clear F a; intro a F
 refine t_endM M ?_; (clear M; try clear w); intro w M
 refine wp_ret ?_
 refine rt2 F rfl (by exact rv_a F rfl ag_53_R4 rfl (cells_whole M.h0)) (rv_t F rfl) ?_
 exfalso
 obtain ⟨k1, k2, k3, k4, k5, k6, k7⟩ := okA_sp hk
 omega
 clear F; intro hc3 F
 try rw [hc3] at F
 replace hc3 := of_decide_eq_false hc3
 refine s_rn 4 F rfl rfl ?_; clear F a; intro a F
 refine bsplit F 35 rfl ?_ ?_
 clear F; intro hc4 F
 try rw [hc4] at F
 replace hc4 := of_decide_eq_true hc4
 refine s_rn 12 F rfl rfl ?_; clear F a; intro a F
 refine t_endM M ?_; (clear M; try clear w); intro w M
 refine c_t F rfl ?_
 refine wp_seq ?_
 replace F := F.keep [0, 1, 2, 3, 4, 10, 11, 12, 13] rfl
 refine wp_region_l [.ind, .wr, .ind] ([0, 1, 2]) rfl ?_
 refine s_bld F rfl rfl rfl rfl (parts0 F ) (bl_53__R4) ?_; clear F a; intro a F
 refine s_stW F M.f1 rfl rfl rfl sz_53_R4 rfl rfl rfl rfl rfl ?_; (clear M; try clear w); intro w M
 refine s_I F rfl rfl rfl rfl rfl rfl ?_; clear F a; intro a F
 refine t_endM M ?_; (clear M; try clear w); intro w M
 refine wp_ret ?_
 refine rt2 F rfl (by exact rv_a F rfl ag_53_R4 rfl (cells_whole M.h0)) (rv_t F rfl) ?_
 exfalso
 obtain ⟨k1, k2, k3, k4, k5, k6, k7⟩ := okA_sp hk
 omega
 clear F; intro hc5 F
 try rw [hc5] at F
 replace hc5 := of_decide_eq_false hc5
 refine s_rn 4 F rfl rfl ?_; clear F a; intro a F
 refine bsplit F 39 rfl ?_ ?_
 clear F; intro hc6 F
 try rw [hc6] at F
 replace hc6 := of_decide_eq_true hc6
 refine s_rn 8 F rfl rfl ?_; clear F a; intro a F
 refine t_endM M ?_; (clear M; try clear w); intro w M
 refine c_t F rfl ?_
 refine wp_seq ?_
 replace F := F.keep [0, 1, 2, 3, 4, 10, 11, 12, 13] rfl
 refine wp_region_l [.ind, .wr, .ind] ([0, 1, 2]) rfl ?_
 refine s_bld F rfl rfl rfl rfl (parts0 F ) (bl_53__R4) ?_; clear F a; intro a F
 refine s_stW F M.f1 rfl rfl rfl sz_53_R4 rfl rfl rfl rfl rfl ?_; (clear M; try clear w); intro w M
 refine s_I F rfl rfl rfl rfl rfl rfl ?_; clear F a; intro a F
 refine t_endM M ?_; (clear M; try clear w); intro w M
 refine wp_ret ?_
 refine rt2 F rfl (by exact rv_a F rfl ag_53_R4 rfl (cells_whole M.h0)) (rv_t F rfl) ?_
 exfalso
 obtain ⟨k1, k2, k3, k4, k5, k6, k7⟩ := okA_sp hk
 omega
 clear F; intro hc7 F
 try rw [hc7] at F
 replace hc7 := of_decide_eq_false hc7
 refine s_rn 4 F rfl rfl ?_; clear F a; intro a F
 refine bsplit F 43 rfl ?_ ?_
 clear F; intro hc8 F
 try rw [hc8] at F
 replace hc8 := of_decide_eq_true hc8
 refine s_rn 4 F rfl rfl ?_; clear F a; intro a F
 refine t_endM M ?_; (clear M; try clear w); intro w M
 refine c_t F rfl ?_
 refine wp_seq ?_
 replace F := F.keep [0, 1, 2, 3, 4, 10, 11, 12, 13] rfl
 refine wp_region_l [.ind, .wr, .ind] ([0, 1, 2]) rfl ?_
 refine s_bld F rfl rfl rfl rfl (parts0 F ) (bl_53__R4) ?_; clear F a; intro a F
 refine s_stW F M.f1 rfl rfl rfl sz_53_R4 rfl rfl rfl rfl rfl ?_; (clear M; try clear w); intro w M
 refine s_I F rfl rfl rfl rfl rfl rfl ?_; clear F a; intro a F
 refine t_endM M ?_; (clear M; try clear w); intro w M
 refine wp_ret ?_
 refine rt2 F rfl (by exact rv_a F rfl ag_53_R4 rfl (cells_whole M.h0)) (rv_t F rfl) ?_
 exfalso
 obtain ⟨k1, k2, k3, k4, k5, k6, k7⟩ := okA_sp hk
 exact k6 (by assumption)
 clear F; intro hc9 F
 try rw [hc9] at F
 replace hc9 := of_decide_eq_false hc9
 refine s_I F rfl rfl rfl rfl rfl rfl ?_; clear F a; intro a F
 refine s_lenS F rfl rfl rfl rfl st_9_R4 rfl ?_; clear F a; intro a F
 refine s_rn 2 F rfl rfl ?_; clear F a; intro a F
 refine t_endM M ?_; (clear M; try clear w); intro w M
 refine c_if F rfl ?_ ?_
 clear F; intro hc10 F
 try rw [hc10] at F
 replace hc10 := of_decide_eq_true hc10
 refine wp_seq ?_
 replace F := F.keep [0, 1, 2, 3, 4, 10, 11, 12, 13] rfl
 refine wp_region_l [.ind, .wr, .ind] ([0, 1, 2]) rfl ?_
 refine s_bld F rfl rfl rfl rfl (parts0 F ) (bl_53__R4) ?_; clear F a; intro a F
 refine s_stW F M.f1 rfl rfl rfl sz_53_R4 rfl rfl rfl rfl rfl ?_; (clear M; try clear w); intro w M
 refine s_I F rfl rfl rfl rfl rfl rfl ?_; clear F a; intro a F
 refine t_endM M ?_; (clear M; try clear w); intro w M
 refine wp_ret ?_
 refine rt2 F rfl (by exact rv_a F rfl ag_53_R4 rfl (cells_whole M.h0)) (rv_t F rfl) ?_
 exfalso
 obtain ⟨k1, k2, k3, k4, k5, k6, k7⟩ := okA_sp hk
 omega
 clear F; intro hc11 F
 try rw [hc11] at F
 replace hc11 := of_decide_eq_false hc11
 refine wp_skip ?_
 refine wp_seq ?_
 replace F := F.keep [0, 1, 2, 3, 4, 10, 11, 12, 13] rfl
 refine wp_region_l [.ind, .ind, .ind, .rd, .ind, .wr, .ind] ([0, 1, 2, 3, 4, 5, 6]) rfl ?_
 refine s_rn 3 F rfl rfl ?_; clear F a; intro a F
 refine s_lda F rfl rfl rfl rfl ag_28_R4 rfl rfl (cells_whole M.h0) ?_; clear F a; intro a F
 refine s_bld F rfl rfl rfl rfl (parts7 F rfl rfl rfl rfl rfl rfl rfl) (bl_53_0_1_2_3_6_8_10_R4 _ _ _ _ _ _ _ _ _ _ _) ?_; clear F a; intro a F
 refine s_stW F M.f1 rfl rfl rfl sz_53_R4 rfl rfl rfl rfl rfl ?_; (clear M; try clear w); intro w M
 refine s_I F rfl rfl rfl rfl rfl rfl ?_; clear F a; intro a F
 refine t_endM M ?_; (clear M; try clear w); intro w M
 refine wp_ret ?_
 refine rt2 F rfl (by exact rv_a F rfl ag_53_R4 rfl (cells_whole M.h0)) (rv_t F rfl) ?_
 exact ⟨_, rfl, rfl, M.chg⟩
end Go.Proofs.Ytboibdmflblphaa
