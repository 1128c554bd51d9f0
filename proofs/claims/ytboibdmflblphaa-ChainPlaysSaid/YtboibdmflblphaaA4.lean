/- A4 of the seat. -/
import Derived.Test.YtboibdmflblphaaA3
namespace Go.Proofs.Ytboibdmflblphaa
open Go Fw
theorem fa_144_5_A4 : FA Try.prog 144 5 5 := fun _ _ _ => by kernel_rfl
theorem sc_3_A4 : scalB Try.prog 3 = true := by kernel_rfl
theorem fa_32_4_A4 : FA Try.prog 32 4 4 := fun _ _ _ => by kernel_rfl
theorem sc_9_A4 : scalB Try.prog 9 = true := by kernel_rfl
theorem fa_144_10_A4 : FA Try.prog 144 10 331 := fun _ _ _ => by kernel_rfl
theorem sc_4_A4 : scalB Try.prog 4 = true := by kernel_rfl
theorem fa_144_4_A4 : FA Try.prog 144 4 4 := fun _ _ _ => by kernel_rfl
theorem cb_113_A4 : callB Try.prog 113 = true := by kernel_rfl
theorem sz_4_A4 : sizeB Try.prog 4 = some 1 := by kernel_rfl
theorem bl_138_0_1_A4 : ∀ (x0 : ByteArray) (x1 : Int), ∀ w : World, (Instr.build 138 #[(0, .string x0), (1, .int .i64 x1)]).run Try.prog w = .ok (.agg #[.string x0, .int .i64 x1]) w := by intros; kernel_rfl
theorem fa_144_7_A4 : FA Try.prog 144 7 8 := fun _ _ _ => by kernel_rfl
theorem sz_138_A4 : sizeB Try.prog 138 = some 2 := by kernel_rfl
theorem ag_138_A4 : aggB Try.prog 138 = some 2 := by kernel_rfl
theorem fa_144_6_A4 : FA Try.prog 144 6 6 := fun _ _ _ => by kernel_rfl
theorem cb_114_A4 : callB Try.prog 114 = true := by kernel_rfl
theorem cb_86_A4 : callB Try.prog 86 = true := by kernel_rfl
theorem cb_110_A4 : callB Try.prog 110 = true := by kernel_rfl
theorem fa_144_9_A4 : FA Try.prog 144 9 330 := fun _ _ _ => by kernel_rfl
theorem sc_25_A4 : scalB Try.prog 25 = true := by kernel_rfl
theorem cb_32_A4 : callB Try.prog 32 = true := by kernel_rfl
theorem fa_144_8_A4 : FA Try.prog 144 8 10 := fun _ _ _ => by kernel_rfl
theorem ar_139_A4 : arrB Try.prog 139 = some (64, 5) := by kernel_rfl
theorem ag_32_A4 : aggB Try.prog 32 = some 5 := by kernel_rfl
theorem zr_32_A4 : zeroB Try.prog 32 = some (.agg #[.int .i64 0, .int .i64 0, .int .i64 0, .int .i64 0, .string { data := #[] }]) := by kernel_rfl
theorem sz_32_A4 : sizeB Try.prog 32 = some 5 := by kernel_rfl
theorem cb_111_A4 : callB Try.prog 111 = true := by kernel_rfl
theorem cb_112_A4 : callB Try.prog 112 = true := by kernel_rfl
open VoteM AgrM
set_option maxRecDepth 100000 in
set_option maxHeartbeats 2000000 in
theorem c112 (b vb ob : Nat) (vv ov : Value) (st : ASt) (o : List Wrd) (hl : o.length ≤ 1000000) (w0 : World) (ho : Own w0.heap [blk b (aO (st) vb (sayV ob)), votR vb vv st.n st.t st.L, blk ob (.cells #[ov] 22 (0, 0)), wsR ov (o)]) : Cl Try.prog 112 #[.pointer (some ⟨b, 0, none⟩), wrdV st.now] w0 (RetS [blk b (aO (st) vb (sayV ob)), votR vb vv st.n st.t st.L, blk ob (.cells #[ov] 22 (0, 0)), wsR ov (o)] w0 (fun v (_ : Value) => v = .bool st.pc) fun x => [blk b (aO (if st.pc = true then st.lock5 else st) vb (sayV ob)), votR vb vv st.n st.t st.L, blk ob (.cells #[x] 22 (0, 0)), wsR x (o ++ if st.pc = true then (if st.step = 2 then st.voteO 3 st.now.value else []) else [])]) := by
 have M : Sep (fun b_ => b_ ∈ foots [blk b (aO (st) vb (sayV ob)), votR vb vv st.n st.t st.L, blk ob (.cells #[ov] 22 (0, 0)), wsR ov (o)]) w0 w0 _ := Sep.start ho
 refine enter (vs := [_, _]) Try.func112 rfl rfl rfl ?_
 intro a F
 refine wp_seq ?_
 refine wp_region_l [.wr, .ind] ([0, 1]) rfl ?_
 refine s_bxA F M rfl rfl rfl rfl rfl ?_; (clear F a M; try clear w); intro b3 w M a F
 refine s_I F rfl rfl rfl rfl rfl rfl ?_; clear F a; intro a F
 refine t_endM M ?_; (clear M; try clear w); intro w M
 refine wp_seq ?_
 refine wp_seq ?_
 refine wp_region_t [.ind, .ind, .ind, .rd, .ind, .ind, .ind, .rd, .ind, .ind, .ind, .ind, .ind, .ind, .rd, .ind, .ind, .ind, .ind, .ind, .ind, .rd, .ind, .rd, .wr, .ind, .ind] [] (otOf [0, 1, 2, 3, 4, 5, 6, 7, 8, 9, 10, 11, 12, 13, 14, 15, 16, 17, 18, 19, 20, 21, 22, 23, 24, 25, 26]) mixed (by kernel_rfl) ?_
 refine s_rn 2 F rfl rfl ?_; clear F a; intro a F
 refine s_fa0 F rfl rfl rfl rfl fa_144_5_A4 rfl ?_; clear F a; intro a F
 refine s_ld F rfl rfl rfl rfl sc_3_A4 rfl (by exact cell_of_blk M.h1 (gf rfl (by decide))) ?_; clear F a; intro a F
 refine s_rn 2 F rfl rfl ?_; clear F a; intro a F
 refine bsplit F 10 rfl ?_ ?_
 clear F; intro hc0 F
 try rw [hc0] at F
 replace hc0 := of_decide_eq_true hc0
 refine s_rn 21 F rfl rfl ?_; clear F a; intro a F
 refine t_endM M ?_; (clear M; try clear w); intro w M
 refine c_t F rfl ?_
 refine wp_seq ?_
 replace F := F.keep [0, 1, 3, 4] rfl
 refine wp_region_l [.ind] ([0]) rfl ?_
 refine s_I F rfl rfl rfl rfl rfl rfl ?_; clear F a; intro a F
 refine t_endM M ?_; (clear M; try clear w); intro w M
 refine wp_ret ?_
 refine ret1 F rfl rfl ?_
 have hp : st.pc = false := (by clear M F; unfold ASt.pc VoteM.empty; grind)
 rw [hp]
 refine ⟨_, ov, rfl, rfl, ?_⟩
 rw [if_neg (by decide), if_neg (by decide), List.append_nil]
 refine M.pick ?_; repeat (first | exact PkG.nil | refine PkG.cons 1 rfl rfl ?_ | refine PkG.cons 2 rfl rfl ?_ | refine PkG.cons 3 rfl rfl ?_ | refine PkG.cons 4 rfl rfl ?_)
 clear F; intro hc1 F
 try rw [hc1] at F
 replace hc1 := of_decide_eq_false hc1
 refine s_fa0 F rfl rfl rfl rfl fa_32_4_A4 rfl ?_; clear F a; intro a F
 refine s_ld F rfl rfl rfl rfl sc_9_A4 rfl (by exact cell_of_blk M.h0 (lit rfl)) ?_; clear F a; intro a F
 refine s_rn 3 F rfl rfl ?_; clear F a; intro a F
 refine bsplit F 15 rfl ?_ ?_
 clear F; intro hc2 F
 try rw [hc2] at F
 replace hc2 := of_decide_eq_true hc2
 refine s_rn 16 F rfl rfl ?_; clear F a; intro a F
 refine t_endM M ?_; (clear M; try clear w); intro w M
 refine c_t F rfl ?_
 refine wp_seq ?_
 replace F := F.keep [0, 1, 3, 4] rfl
 refine wp_region_l [.ind] ([0]) rfl ?_
 refine s_I F rfl rfl rfl rfl rfl rfl ?_; clear F a; intro a F
 refine t_endM M ?_; (clear M; try clear w); intro w M
 refine wp_ret ?_
 refine ret1 F rfl rfl ?_
 have hp : st.pc = false := (by clear M F; unfold ASt.pc VoteM.empty; grind)
 rw [hp]
 refine ⟨_, ov, rfl, rfl, ?_⟩
 rw [if_neg (by decide), if_neg (by decide), List.append_nil]
 refine M.pick ?_; repeat (first | exact PkG.nil | refine PkG.cons 1 rfl rfl ?_ | refine PkG.cons 2 rfl rfl ?_ | refine PkG.cons 3 rfl rfl ?_ | refine PkG.cons 4 rfl rfl ?_)
 clear F; intro hc3 F
 try rw [hc3] at F
 replace hc3 := of_decide_eq_false hc3
 refine s_rn 2 F rfl rfl ?_; clear F a; intro a F
 refine s_fa0 F rfl rfl rfl rfl fa_144_10_A4 rfl ?_; clear F a; intro a F
 refine s_ld F rfl rfl rfl rfl sc_4_A4 rfl (by exact cell_of_blk M.h1 (gf (aF_331 _ _ _) (by decide))) ?_; clear F a; intro a F
 refine s_rn 2 F rfl rfl ?_; clear F a; intro a F
 refine bsplit F 21 rfl ?_ ?_
 clear F; intro hc4 F
 try rw [hc4] at F
 skip
 refine s_rn 10 F rfl rfl ?_; clear F a; intro a F
 refine t_endM M ?_; (clear M; try clear w); intro w M
 refine c_t F rfl ?_
 refine wp_seq ?_
 replace F := F.keep [0, 1, 3, 4] rfl
 refine wp_region_l [.ind] ([0]) rfl ?_
 refine s_I F rfl rfl rfl rfl rfl rfl ?_; clear F a; intro a F
 refine t_endM M ?_; (clear M; try clear w); intro w M
 refine wp_ret ?_
 refine ret1 F rfl rfl ?_
 have hp : st.pc = false := (by clear M F; unfold ASt.pc VoteM.empty; grind)
 rw [hp]
 refine ⟨_, ov, rfl, rfl, ?_⟩
 rw [if_neg (by decide), if_neg (by decide), List.append_nil]
 refine M.pick ?_; repeat (first | exact PkG.nil | refine PkG.cons 1 rfl rfl ?_ | refine PkG.cons 2 rfl rfl ?_ | refine PkG.cons 3 rfl rfl ?_ | refine PkG.cons 4 rfl rfl ?_)
 clear F; intro hc5 F
 try rw [hc5] at F
 skip
 refine s_rn 3 F rfl rfl ?_; clear F a; intro a F
 refine s_fa0 F rfl rfl rfl rfl fa_144_4_A4 rfl ?_; clear F a; intro a F
 refine s_ld F rfl rfl rfl rfl sc_3_A4 rfl (by exact cell_of_blk M.h1 (gf rfl (by decide))) ?_; clear F a; intro a F
 refine s_fa0 F rfl rfl rfl rfl fa_32_4_A4 rfl ?_; clear F a; intro a F
 refine s_ld F rfl rfl rfl rfl sc_9_A4 rfl (by exact cell_of_blk M.h0 (lit rfl)) ?_; clear F a; intro a F
 refine s_cq F M rfl rfl rfl rfl rfl (rfl : _ = some [_, _, _, _]) cb_113_A4 (fun nd_ => c113 b vb vv _ st 2 st.round st.now.value _ (by exact M.h1) (by exact roF (M.drewN nd_).f2)) ?_; (clear F a M; try clear w); rintro v w rfl M a F
 refine s_rn 2 F rfl rfl ?_; clear F a; intro a F
 refine t_endM M ?_; (clear M; try clear w); intro w M
 refine c_if F rfl ?_ ?_
 clear F; intro hc6 F
 try rw [hc6] at F
 replace hc6 := nt hc6
 refine wp_seq ?_
 replace F := F.keep [0, 1, 3, 4] rfl
 refine wp_region_l [.ind] ([0]) rfl ?_
 refine s_I F rfl rfl rfl rfl rfl rfl ?_; clear F a; intro a F
 refine t_endM M ?_; (clear M; try clear w); intro w M
 refine wp_ret ?_
 refine ret1 F rfl rfl ?_
 have hp : st.pc = false := (by clear M F; unfold ASt.pc VoteM.empty; grind)
 rw [hp]
 refine ⟨_, ov, rfl, rfl, ?_⟩
 rw [if_neg (by decide), if_neg (by decide), List.append_nil]
 refine M.pick ?_; repeat (first | exact PkG.nil | refine PkG.cons 1 rfl rfl ?_ | refine PkG.cons 2 rfl rfl ?_ | refine PkG.cons 3 rfl rfl ?_ | refine PkG.cons 4 rfl rfl ?_)
 clear F; intro hc7 F
 try rw [hc7] at F
 replace hc7 := nf hc7
 refine wp_skip ?_
 refine wp_seq ?_
 have hp : st.pc = true := (by clear M F; unfold ASt.pc VoteM.empty; grind)
 replace F := F.keep [0, 1, 3, 4] rfl
 refine wp_region_l [.ind, .ind, .ind, .wr] ([0, 1, 2, 3]) rfl ?_
 refine s_rn 2 F rfl rfl ?_; clear F a; intro a F
 refine s_fa0 F rfl rfl rfl rfl fa_144_10_A4 rfl ?_; clear F a; intro a F
 refine s_sf F M.f1 rfl rfl rfl sz_4_A4 rfl rfl rfl (by exact Nat.le_of_ble_eq_true rfl) ?_; (clear M; try clear w); intro w M
 refine t_endM M ?_; (clear M; try clear w); intro w M
 refine wp_seq ?_
 replace F := F.keep [0, 1, 3, 4] rfl
 refine wp_region_t [.ind, .ind, .rd, .ind, .ind, .ind, .rd, .ind, .ind, .ind, .wr] [] (otOf [0, 1, 2, 3, 4, 5, 6, 7, 8, 9, 10]) mixed (by kernel_rfl) ?_
 refine s_I F rfl rfl rfl rfl rfl rfl ?_; clear F a; intro a F
 refine s_fa0 F rfl rfl rfl rfl fa_32_4_A4 rfl ?_; clear F a; intro a F
 refine s_ld F rfl rfl rfl rfl sc_9_A4 rfl (by exact cell_of_blk M.h1 (lit rfl)) ?_; clear F a; intro a F
 refine s_rn 2 F rfl rfl ?_; clear F a; intro a F
 refine s_fa0 F rfl rfl rfl rfl fa_144_4_A4 rfl ?_; clear F a; intro a F
 refine s_ld F rfl rfl rfl rfl sc_3_A4 rfl (by exact cell_of_blk M.h0 (gf rfl (by decide))) ?_; clear F a; intro a F
 refine s_bld F rfl rfl rfl rfl (parts2 F rfl rfl) (bl_138_0_1_A4 _ _) ?_; clear F a; intro a F
 refine s_I F rfl rfl rfl rfl rfl rfl ?_; clear F a; intro a F
 refine s_fa0 F rfl rfl rfl rfl fa_144_7_A4 rfl ?_; clear F a; intro a F
 refine s_sta F M rfl rfl rfl sz_138_A4 rfl rfl rfl rfl (by exact Nat.le_of_ble_eq_true rfl) ?_; (clear M; try clear w); intro w M
 refine t_endM M ?_; (clear M; try clear w); intro w M
 refine wp_seq ?_
 refine wp_seq ?_
 rw [aF_mark] at M
 replace F := F.keep [0, 1, 3, 4] rfl
 refine wp_region_l [.ind, .ind, .ind, .rd, .ind] ([0, 1, 2, 3, 4]) rfl ?_
 refine s_rn 2 F rfl rfl ?_; clear F a; intro a F
 refine s_fa0 F rfl rfl rfl rfl fa_144_5_A4 rfl ?_; clear F a; intro a F
 refine s_ld F rfl rfl rfl rfl sc_3_A4 rfl (by exact cell_of_blk M.h0 (gf rfl (by decide))) ?_; clear F a; intro a F
 refine s_bin F rfl rfl rfl rfl rfl rfl rfl ?_; clear F a; intro a F
 refine t_endM M ?_; (clear M; try clear w); intro w M
 refine c_if F rfl ?_ ?_
 clear F; intro hc8 F
 try rw [hc8] at F
 replace hc8 := of_decide_eq_true hc8
 have h2 : st.step = 2 := hc8
 rw [lock5_yes h2, if_pos h2]
 refine wp_seq ?_
 replace F := F.keep [0, 1, 3, 4] rfl
 refine wp_region_l [.ind, .ind, .ind, .ind, .rd, .ind, .ind, .wr] ([0, 1, 2, 3, 4, 5, 6, 7]) rfl ?_
 refine s_rn 3 F rfl rfl ?_; clear F a; intro a F
 refine s_fa0 F rfl rfl rfl rfl fa_144_7_A4 rfl ?_; clear F a; intro a F
 refine s_lda F rfl rfl rfl rfl ag_138_A4 rfl (cs := #[.string st.now.value, .int .i64 st.round]) rfl (by exact cells_F (N := 335) (m := 2) (f := aF st.mark vb (sayV ob)) M.h0 rfl (by decide)) ?_; clear F a; intro a F
 refine s_I F rfl rfl rfl rfl rfl rfl ?_; clear F a; intro a F
 refine s_fa0 F rfl rfl rfl rfl fa_144_6_A4 rfl ?_; clear F a; intro a F
 refine s_sta F M rfl rfl rfl sz_138_A4 rfl rfl rfl rfl (by exact Nat.le_of_ble_eq_true rfl) ?_; (clear M; try clear w); intro w M
 refine t_endM M ?_; (clear M; try clear w); intro w M
 rw [aF_mark2] at M
 replace F := F.keep [0, 1, 3, 4] rfl
 refine wp_region_l [.ind, .ind, .rd, .wr] ([0, 1, 2, 3]) rfl ?_
 refine s_I F rfl rfl rfl rfl rfl rfl ?_; clear F a; intro a F
 refine s_fa0 F rfl rfl rfl rfl fa_32_4_A4 rfl ?_; clear F a; intro a F
 refine s_ld F rfl rfl rfl rfl sc_9_A4 rfl (by exact cell_of_blk M.h1 (lit rfl)) ?_; clear F a; intro a F
 have M1 : Sep _ _ _ (slR _ _ _ _ _ :: _) := M.f4; replace M := M1; clear M1
 have M1 : Sep _ _ _ (blk ob _ :: _) := M.f4; replace M := M1; clear M1
 have M1 : Sep _ _ _ (blk b _ :: _) := M.f2; replace M := M1; clear M1
 refine s_call (m := [_, _, _]) F M rfl rfl rfl rfl rfl (rfl : _ = some [_, _, _]) cb_114_A4 (fun nd_ => c114 b vb ob _ (st.mark2) _ (by omega) 3 st.now.value _ (Own.left (m := [_, _, _]) (M.drewN nd_).own)) ?_; (clear F a M; try clear w); rintro v x w rfl M a F; (try simp only [List.cons_append, List.nil_append] at M)
 refine t_endM M ?_; (clear M; try clear w); intro w M
 refine wp_seq ?_
 replace F := F.keep [0, 1, 3, 4] rfl
 refine wp_region_l [.ind] ([0]) rfl ?_
 refine s_I F rfl rfl rfl rfl rfl rfl ?_; clear F a; intro a F
 refine t_endM M ?_; (clear M; try clear w); intro w M
 refine wp_ret ?_
 refine ret1 F rfl rfl ?_
 rw [hp]
 first
   | (refine ⟨_, x, rfl, rfl, ?_⟩; (try dsimp only); rw [if_pos rfl, if_pos rfl]; (refine M.pick ?_; repeat (first | exact PkG.nil | refine PkG.cons 0 rfl rfl ?_ | refine PkG.cons 1 rfl rfl ?_ | refine PkG.cons 2 rfl rfl ?_ | refine PkG.cons 4 rfl rfl ?_)))
   | (refine ⟨_, ov, rfl, rfl, ?_⟩; (try dsimp only); rw [if_pos rfl, if_pos rfl, List.append_nil]; refine M.pick ?_; repeat (first | exact PkG.nil | refine PkG.cons 0 rfl rfl ?_ | refine PkG.cons 1 rfl rfl ?_ | refine PkG.cons 2 rfl rfl ?_ | refine PkG.cons 3 rfl rfl ?_ | refine PkG.cons 4 rfl rfl ?_ | refine PkG.cons 5 rfl rfl ?_ | refine PkG.cons 6 rfl rfl ?_ | refine PkG.cons 7 rfl rfl ?_ | refine PkG.cons 8 rfl rfl ?_ | refine PkG.cons 9 rfl rfl ?_ | refine PkG.cons 10 rfl rfl ?_ | refine PkG.cons 11 rfl rfl ?_ | refine PkG.cons 12 rfl rfl ?_ | refine PkG.cons 13 rfl rfl ?_))
 clear F; intro hc9 F
 try rw [hc9] at F
 replace hc9 := of_decide_eq_false hc9
 have h2 : ¬ st.step = 2 := hc9
 rw [lock5_no h2, if_neg h2]
 refine wp_skip ?_
 refine wp_seq ?_
 replace F := F.keep [0, 1, 3, 4] rfl
 refine wp_region_l [.ind] ([0]) rfl ?_
 refine s_I F rfl rfl rfl rfl rfl rfl ?_; clear F a; intro a F
 refine t_endM M ?_; (clear M; try clear w); intro w M
 refine wp_ret ?_
 refine ret1 F rfl rfl ?_
 rw [hp]
 first
   | (refine ⟨_, x, rfl, rfl, ?_⟩; (try dsimp only); rw [if_pos rfl, if_pos rfl]; (refine M.pick ?_; repeat (first | exact PkG.nil | refine PkG.cons 0 rfl rfl ?_ | refine PkG.cons 1 rfl rfl ?_ | refine PkG.cons 2 rfl rfl ?_ | refine PkG.cons 3 rfl rfl ?_ | refine PkG.cons 4 rfl rfl ?_ | refine PkG.cons 5 rfl rfl ?_ | refine PkG.cons 6 rfl rfl ?_ | refine PkG.cons 7 rfl rfl ?_ | refine PkG.cons 8 rfl rfl ?_ | refine PkG.cons 9 rfl rfl ?_ | refine PkG.cons 10 rfl rfl ?_ | refine PkG.cons 11 rfl rfl ?_ | refine PkG.cons 12 rfl rfl ?_ | refine PkG.cons 13 rfl rfl ?_)))
   | (refine ⟨_, ov, rfl, rfl, ?_⟩; (try dsimp only); rw [if_pos rfl, if_pos rfl, List.append_nil]; refine M.pick ?_; repeat (first | exact PkG.nil | refine PkG.cons 0 rfl rfl ?_ | refine PkG.cons 2 rfl rfl ?_ | refine PkG.cons 3 rfl rfl ?_ | refine PkG.cons 4 rfl rfl ?_))
set_option maxRecDepth 100000 in
set_option maxHeartbeats 2000000 in
theorem c108 (b vb ob : Nat) (ov : Value) (st : ASt) (o : List Wrd) (hl : o.length ≤ 1000000) (hr : -1 ≤ st.round ∧ st.round < 64) (s : Int) (w0 : World) (ho : Own w0.heap [blk b (aO (st) vb (sayV ob)), blk ob (.cells #[ov] 22 (0, 0)), wsR ov (o)]) : Cl Try.prog 108 #[.pointer (some ⟨b, 0, none⟩), .int .i64 s] w0 (RetS [blk b (aO (st) vb (sayV ob)), blk ob (.cells #[ov] 22 (0, 0)), wsR ov (o)] w0 (fun v (_ : Value) => v = .tuple #[]) fun x => [blk b (aO ((st.timeout s).1) vb (sayV ob)), blk ob (.cells #[x] 22 (0, 0)), wsR x (o ++ (st.timeout s).2)]) := by
 have M : Sep (fun b_ => b_ ∈ foots [blk b (aO (st) vb (sayV ob)), blk ob (.cells #[ov] 22 (0, 0)), wsR ov (o)]) w0 w0 _ := Sep.start ho
 refine enter (vs := [_, _]) Try.func108 rfl rfl rfl ?_
 intro a F
 refine wp_block ?_
 refine wp_seq ?_
 refine wp_region_l [.ind, .ind, .ind] ([0, 1, 2]) rfl ?_
 refine s_rn 3 F rfl rfl ?_; clear F a; intro a F
 refine t_endM M ?_; (clear M; try clear w); intro w M
 refine c_if F rfl ?_ ?_
 clear F; intro hc0 F
 try rw [hc0] at F
 replace hc0 := of_decide_eq_true hc0
 obtain ⟨hr1, hr2⟩ := hr
 replace F := F.keep [0, 1] rfl
 refine wp_region_l [.ind, .ind, .ind, .ind, .rd, .ind, .wr] ([0, 1, 2, 3, 4, 5, 6]) rfl ?_
 refine s_rn 3 F rfl rfl ?_; clear F a; intro a F
 refine s_fa0 F rfl rfl rfl rfl fa_144_4_A4 rfl ?_; clear F a; intro a F
 refine s_ld F rfl rfl rfl rfl sc_3_A4 rfl (by exact cell_of_blk M.h0 (gf rfl (by decide))) ?_; clear F a; intro a F
 refine s_add F rfl rfl rfl rfl rfl rfl (by unfold In64; omega) ?_; clear F a; intro a F
 have M1 : Sep _ _ _ (slR _ _ _ _ _ :: _) := M.f2; replace M := M1; clear M1
 have M1 : Sep _ _ _ (blk ob _ :: _) := M.f2; replace M := M1; clear M1
 have M1 : Sep _ _ _ (blk b _ :: _) := M.f2; replace M := M1; clear M1
 refine s_call (m := [_, _, _]) F M rfl rfl rfl rfl rfl (rfl : _ = some [_, _]) cb_86_A4 (fun nd_ => c86 b vb ob _ (st) _ (by omega) (st.round + 1) _ (Own.left (m := [_, _, _]) (M.drewN nd_).own)) ?_; (clear F a M; try clear w); rintro v x w rfl M a F; (try simp only [List.cons_append, List.nil_append] at M)
 refine t_endM M ?_; (clear M; try clear w); intro w M
 refine (ret0 F rfl ?_).2
 unfold ASt.timeout
 first
   | rw [if_pos (by assumption)]
   | rw [if_neg (by assumption), if_pos (by assumption)]
   | rw [if_neg (by assumption), if_neg (fun h => h (by assumption)), if_pos (by assumption)]
   | rw [if_neg (by assumption), if_neg (fun h => h (by assumption)), if_neg (by assumption), if_pos (by assumption)]
   | rw [if_neg (by assumption), if_neg (fun h => h (by assumption)), if_neg (by assumption), if_neg (by assumption)]
 · first
     | (refine ⟨_, x, rfl, rfl, ?_⟩; dsimp only; (refine M.pick ?_; repeat (first | exact PkG.nil | refine PkG.cons 0 rfl rfl ?_ | refine PkG.cons 1 rfl rfl ?_ | refine PkG.cons 2 rfl rfl ?_)); done)
     | (refine ⟨_, ov, rfl, rfl, ?_⟩; dsimp only; rw [List.append_nil]; (refine M.pick ?_; repeat (first | exact PkG.nil | refine PkG.cons 0 rfl rfl ?_ | refine PkG.cons 1 rfl rfl ?_ | refine PkG.cons 2 rfl rfl ?_ | refine PkG.cons 3 rfl rfl ?_ | refine PkG.cons 4 rfl rfl ?_ | refine PkG.cons 5 rfl rfl ?_ | refine PkG.cons 6 rfl rfl ?_ | refine PkG.cons 7 rfl rfl ?_ | refine PkG.cons 8 rfl rfl ?_ | refine PkG.cons 9 rfl rfl ?_ | refine PkG.cons 10 rfl rfl ?_ | refine PkG.cons 11 rfl rfl ?_ | refine PkG.cons 12 rfl rfl ?_ | refine PkG.cons 13 rfl rfl ?_)); done)
 clear F; intro hc1 F
 try rw [hc1] at F
 replace hc1 := of_decide_eq_false hc1
 refine wp_seq ?_
 replace F := F.keep [0, 1] rfl
 refine wp_region_l [.ind, .ind, .ind, .ind, .rd, .ind, .ind] ([0, 1, 2, 3, 4, 5, 6]) rfl ?_
 refine s_rn 3 F rfl rfl ?_; clear F a; intro a F
 refine s_fa0 F rfl rfl rfl rfl fa_144_5_A4 rfl ?_; clear F a; intro a F
 refine s_ld F rfl rfl rfl rfl sc_3_A4 rfl (by exact cell_of_blk M.h0 (gf rfl (by decide))) ?_; clear F a; intro a F
 refine s_rn 2 F rfl rfl ?_; clear F a; intro a F
 refine t_endM M ?_; (clear M; try clear w); intro w M
 refine c_if F rfl ?_ ?_
 clear F; intro hc2 F
 try rw [hc2] at F
 replace hc2 := nd1 hc2
 refine wp_skip ?_
 refine (ret0 F rfl ?_).2
 unfold ASt.timeout
 first
   | rw [if_pos (by assumption)]
   | rw [if_neg (by assumption), if_pos (by assumption)]
   | rw [if_neg (by assumption), if_neg (fun h => h (by assumption)), if_pos (by assumption)]
   | rw [if_neg (by assumption), if_neg (fun h => h (by assumption)), if_neg (by assumption), if_pos (by assumption)]
   | rw [if_neg (by assumption), if_neg (fun h => h (by assumption)), if_neg (by assumption), if_neg (by assumption)]
 · first
     | (refine ⟨_, x, rfl, rfl, ?_⟩; dsimp only; (refine M.pick ?_; repeat (first | exact PkG.nil | refine PkG.cons 0 rfl rfl ?_ | refine PkG.cons 1 rfl rfl ?_ | refine PkG.cons 2 rfl rfl ?_ | refine PkG.cons 3 rfl rfl ?_ | refine PkG.cons 4 rfl rfl ?_ | refine PkG.cons 5 rfl rfl ?_ | refine PkG.cons 6 rfl rfl ?_ | refine PkG.cons 7 rfl rfl ?_ | refine PkG.cons 8 rfl rfl ?_ | refine PkG.cons 9 rfl rfl ?_ | refine PkG.cons 10 rfl rfl ?_ | refine PkG.cons 11 rfl rfl ?_ | refine PkG.cons 12 rfl rfl ?_ | refine PkG.cons 13 rfl rfl ?_)); done)
     | (refine ⟨_, ov, rfl, rfl, ?_⟩; dsimp only; rw [List.append_nil]; (refine M.pick ?_; repeat (first | exact PkG.nil | refine PkG.cons 0 rfl rfl ?_ | refine PkG.cons 1 rfl rfl ?_ | refine PkG.cons 2 rfl rfl ?_)); done)
 clear F; intro hc3 F
 try rw [hc3] at F
 replace hc3 := nd0 hc3
 refine wp_seq ?_
 replace F := F.keep [0, 1] rfl
 refine wp_region_l [.ind, .ind, .ind] ([0, 1, 2]) rfl ?_
 refine s_rn 3 F rfl rfl ?_; clear F a; intro a F
 refine t_endM M ?_; (clear M; try clear w); intro w M
 refine c_if F rfl ?_ ?_
 clear F; intro hc4 F
 try rw [hc4] at F
 replace hc4 := of_decide_eq_true hc4
 replace F := F.keep [0, 1] rfl
 refine wp_region_l [.ind, .wr] ([0, 1]) rfl ?_
 refine s_I F rfl rfl rfl rfl rfl rfl ?_; clear F a; intro a F
 have M1 : Sep _ _ _ (slR _ _ _ _ _ :: _) := M.f2; replace M := M1; clear M1
 have M1 : Sep _ _ _ (blk ob _ :: _) := M.f2; replace M := M1; clear M1
 have M1 : Sep _ _ _ (blk b _ :: _) := M.f2; replace M := M1; clear M1
 refine s_call (m := [_, _, _]) F M rfl rfl rfl rfl rfl (rfl : _ = some [_, _, _]) cb_114_A4 (fun nd_ => c114 b vb ob _ (st) _ (by omega) 2 VoteM.empty _ (Own.left (m := [_, _, _]) (M.drewN nd_).own)) ?_; (clear F a M; try clear w); rintro v x w rfl M a F; (try simp only [List.cons_append, List.nil_append] at M)
 refine t_endM M ?_; (clear M; try clear w); intro w M
 refine (ret0 F rfl ?_).2
 unfold ASt.timeout
 first
   | rw [if_pos (by assumption)]
   | rw [if_neg (by assumption), if_pos (by assumption)]
   | rw [if_neg (by assumption), if_neg (fun h => h (by assumption)), if_pos (by assumption)]
   | rw [if_neg (by assumption), if_neg (fun h => h (by assumption)), if_neg (by assumption), if_pos (by assumption)]
   | rw [if_neg (by assumption), if_neg (fun h => h (by assumption)), if_neg (by assumption), if_neg (by assumption)]
 · first
     | (refine ⟨_, x, rfl, rfl, ?_⟩; dsimp only; (refine M.pick ?_; repeat (first | exact PkG.nil | refine PkG.cons 0 rfl rfl ?_ | refine PkG.cons 1 rfl rfl ?_ | refine PkG.cons 2 rfl rfl ?_)); done)
     | (refine ⟨_, ov, rfl, rfl, ?_⟩; dsimp only; rw [List.append_nil]; (refine M.pick ?_; repeat (first | exact PkG.nil | refine PkG.cons 0 rfl rfl ?_ | refine PkG.cons 1 rfl rfl ?_ | refine PkG.cons 2 rfl rfl ?_ | refine PkG.cons 3 rfl rfl ?_ | refine PkG.cons 4 rfl rfl ?_ | refine PkG.cons 5 rfl rfl ?_ | refine PkG.cons 6 rfl rfl ?_ | refine PkG.cons 7 rfl rfl ?_ | refine PkG.cons 8 rfl rfl ?_ | refine PkG.cons 9 rfl rfl ?_ | refine PkG.cons 10 rfl rfl ?_ | refine PkG.cons 11 rfl rfl ?_ | refine PkG.cons 12 rfl rfl ?_ | refine PkG.cons 13 rfl rfl ?_)); done)
 clear F; intro hc5 F
 try rw [hc5] at F
 replace hc5 := of_decide_eq_false hc5
 refine wp_seq ?_
 replace F := F.keep [0, 1] rfl
 refine wp_region_l [.ind, .ind, .ind] ([0, 1, 2]) rfl ?_
 refine s_rn 3 F rfl rfl ?_; clear F a; intro a F
 refine t_endM M ?_; (clear M; try clear w); intro w M
 refine c_if F rfl ?_ ?_
 clear F; intro hc6 F
 try rw [hc6] at F
 replace hc6 := of_decide_eq_true hc6
 replace F := F.keep [0, 1] rfl
 refine wp_region_l [.ind, .wr] ([0, 1]) rfl ?_
 refine s_I F rfl rfl rfl rfl rfl rfl ?_; clear F a; intro a F
 have M1 : Sep _ _ _ (slR _ _ _ _ _ :: _) := M.f2; replace M := M1; clear M1
 have M1 : Sep _ _ _ (blk ob _ :: _) := M.f2; replace M := M1; clear M1
 have M1 : Sep _ _ _ (blk b _ :: _) := M.f2; replace M := M1; clear M1
 refine s_call (m := [_, _, _]) F M rfl rfl rfl rfl rfl (rfl : _ = some [_, _, _]) cb_114_A4 (fun nd_ => c114 b vb ob _ (st) _ (by omega) 3 VoteM.empty _ (Own.left (m := [_, _, _]) (M.drewN nd_).own)) ?_; (clear F a M; try clear w); rintro v x w rfl M a F; (try simp only [List.cons_append, List.nil_append] at M)
 refine t_endM M ?_; (clear M; try clear w); intro w M
 refine (ret0 F rfl ?_).2
 unfold ASt.timeout
 first
   | rw [if_pos (by assumption)]
   | rw [if_neg (by assumption), if_pos (by assumption)]
   | rw [if_neg (by assumption), if_neg (fun h => h (by assumption)), if_pos (by assumption)]
   | rw [if_neg (by assumption), if_neg (fun h => h (by assumption)), if_neg (by assumption), if_pos (by assumption)]
   | rw [if_neg (by assumption), if_neg (fun h => h (by assumption)), if_neg (by assumption), if_neg (by assumption)]
 · first
     | (refine ⟨_, x, rfl, rfl, ?_⟩; dsimp only; (refine M.pick ?_; repeat (first | exact PkG.nil | refine PkG.cons 0 rfl rfl ?_ | refine PkG.cons 1 rfl rfl ?_ | refine PkG.cons 2 rfl rfl ?_)); done)
     | (refine ⟨_, ov, rfl, rfl, ?_⟩; dsimp only; rw [List.append_nil]; (refine M.pick ?_; repeat (first | exact PkG.nil | refine PkG.cons 0 rfl rfl ?_ | refine PkG.cons 1 rfl rfl ?_ | refine PkG.cons 2 rfl rfl ?_ | refine PkG.cons 3 rfl rfl ?_ | refine PkG.cons 4 rfl rfl ?_ | refine PkG.cons 5 rfl rfl ?_ | refine PkG.cons 6 rfl rfl ?_ | refine PkG.cons 7 rfl rfl ?_ | refine PkG.cons 8 rfl rfl ?_ | refine PkG.cons 9 rfl rfl ?_ | refine PkG.cons 10 rfl rfl ?_ | refine PkG.cons 11 rfl rfl ?_ | refine PkG.cons 12 rfl rfl ?_ | refine PkG.cons 13 rfl rfl ?_)); done)
 clear F; intro hc7 F
 try rw [hc7] at F
 replace hc7 := of_decide_eq_false hc7
 refine wp_skip ?_
 refine (ret0 F rfl ?_).2
 unfold ASt.timeout
 first
   | rw [if_pos (by assumption)]
   | rw [if_neg (by assumption), if_pos (by assumption)]
   | rw [if_neg (by assumption), if_neg (fun h => h (by assumption)), if_pos (by assumption)]
   | rw [if_neg (by assumption), if_neg (fun h => h (by assumption)), if_neg (by assumption), if_pos (by assumption)]
   | rw [if_neg (by assumption), if_neg (fun h => h (by assumption)), if_neg (by assumption), if_neg (by assumption)]
 · first
     | (refine ⟨_, x, rfl, rfl, ?_⟩; dsimp only; (refine M.pick ?_; repeat (first | exact PkG.nil | refine PkG.cons 0 rfl rfl ?_ | refine PkG.cons 1 rfl rfl ?_ | refine PkG.cons 2 rfl rfl ?_ | refine PkG.cons 3 rfl rfl ?_ | refine PkG.cons 4 rfl rfl ?_ | refine PkG.cons 5 rfl rfl ?_ | refine PkG.cons 6 rfl rfl ?_ | refine PkG.cons 7 rfl rfl ?_ | refine PkG.cons 8 rfl rfl ?_ | refine PkG.cons 9 rfl rfl ?_ | refine PkG.cons 10 rfl rfl ?_ | refine PkG.cons 11 rfl rfl ?_ | refine PkG.cons 12 rfl rfl ?_ | refine PkG.cons 13 rfl rfl ?_)); done)
     | (refine ⟨_, ov, rfl, rfl, ?_⟩; dsimp only; rw [List.append_nil]; (refine M.pick ?_; repeat (first | exact PkG.nil | refine PkG.cons 0 rfl rfl ?_ | refine PkG.cons 1 rfl rfl ?_ | refine PkG.cons 2 rfl rfl ?_)); done)
set_option maxRecDepth 100000 in
set_option maxHeartbeats 4000000 in
theorem c83 (b vb ob : Nat) (vv ov : Value) (st : ASt) (o : List Wrd) (hl : o.length ≤ 1000000) (W : st.Wf) (h0 : 0 ≤ st.round) (w0 : World) (ho : Own w0.heap [blk b (aO (st) vb (sayV ob)), votR vb vv st.n st.t st.L, blk ob (.cells #[ov] 22 (0, 0)), wsR ov (o)]) : Cl Try.prog 83 #[.pointer (some ⟨b, 0, none⟩)] w0 (RetS [blk b (aO (st) vb (sayV ob)), votR vb vv st.n st.t st.L, blk ob (.cells #[ov] 22 (0, 0)), wsR ov (o)] w0 (fun v (_ : Value) => v = .bool st.rule.isSome) fun x => [blk b (aO (rul1 st) vb (sayV ob)), votR vb vv st.n st.t st.L, blk ob (.cells #[x] 22 (0, 0)), wsR x (o ++ rul2 st)]) := by
 have hr1 := W.r1
 have M : Sep (fun b_ => b_ ∈ foots [blk b (aO (st) vb (sayV ob)), votR vb vv st.n st.t st.L, blk ob (.cells #[ov] 22 (0, 0)), wsR ov (o)]) w0 w0 _ := Sep.start ho
 refine enter (vs := [_]) Try.func83 rfl rfl rfl ?_
 intro a F
 refine wp_seq ?_
 refine wp_region_l [.ind] ([0]) rfl ?_
 refine s_I F rfl rfl rfl rfl rfl rfl ?_; clear F a; intro a F
 refine t_endM M ?_; (clear M; try clear w); intro w M
 refine wp_seq ?_
 refine wp_seq ?_
 refine wp_region_l [.ind, .wr] ([0, 1]) rfl ?_
 refine s_I F rfl rfl rfl rfl rfl rfl ?_; clear F a; intro a F
 have M1 : Sep _ _ _ (votR _ _ _ _ _ :: _) := M.f1; replace M := M1; clear M1
 have M1 : Sep _ _ _ (blk b _ :: _) := M.f1; replace M := M1; clear M1
 refine s_call (m := [_, _]) F M rfl rfl rfl rfl rfl (rfl : _ = some [_]) cb_110_A4 (fun nd_ => c110 b vb vv (sayV ob) st _ (Own.left (m := [_, _]) (M.drewN nd_).own)) ?_; (clear F a M; try clear w); rintro v u w rfl M a F; (try simp only [List.cons_append, List.nil_append] at M)
 refine t_endM M ?_; (clear M; try clear w); intro w M
 refine c_if F rfl ?_ ?_
 clear F; intro hc0 F
 try rw [hc0] at F
 skip
 obtain ⟨v1, hd⟩ := isSome_some hc0
 rw [dec1_some hd] at M
 refine wp_seq ?_
 replace F := F.keep [0, 2] rfl
 refine wp_region_l [.ind] ([0]) rfl ?_
 refine s_I F rfl rfl rfl rfl rfl rfl ?_; clear F a; intro a F
 refine t_endM M ?_; (clear M; try clear w); intro w M
 refine wp_ret ?_
 refine ret1 F rfl rfl ?_
 have hr := rule_dec hd
 unfold rul1 rul2
 rw [hr]
 · first
     | (refine ⟨_, x, rfl, rfl, ?_⟩; (try simp only [Option.getD_some, Option.getD_none, List.append_nil]); (refine M.pick ?_; repeat (first | exact PkG.nil | refine PkG.cons 0 rfl rfl ?_ | refine PkG.cons 1 rfl rfl ?_ | refine PkG.cons 2 rfl rfl ?_ | refine PkG.cons 3 rfl rfl ?_ | refine PkG.cons 4 rfl rfl ?_ | refine PkG.cons 5 rfl rfl ?_ | refine PkG.cons 6 rfl rfl ?_ | refine PkG.cons 7 rfl rfl ?_ | refine PkG.cons 8 rfl rfl ?_ | refine PkG.cons 9 rfl rfl ?_ | refine PkG.cons 10 rfl rfl ?_ | refine PkG.cons 11 rfl rfl ?_ | refine PkG.cons 12 rfl rfl ?_ | refine PkG.cons 13 rfl rfl ?_)); done)
     | (refine ⟨_, ov, rfl, rfl, ?_⟩; (try simp only [Option.getD_some, Option.getD_none, List.append_nil]); (refine M.pick ?_; repeat (first | exact PkG.nil | refine PkG.cons 0 rfl rfl ?_ | refine PkG.cons 1 rfl rfl ?_ | refine PkG.cons 2 rfl rfl ?_ | refine PkG.cons 3 rfl rfl ?_)); done)
 clear F; intro hc1 F
 try rw [hc1] at F
 skip
 have hd := isSome_none hc1
 rw [dec1_none hd] at M
 refine wp_skip ?_
 refine wp_seq ?_
 refine wp_seq ?_
 replace F := F.keep [0, 2] rfl
 refine wp_region_t [.ind, .ind, .ind, .rd, .ind, .ind, .ind, .rd, .wr, .ind] [] (otOf [0, 1, 2, 3, 4, 5, 6, 7, 8, 9]) mixed (by kernel_rfl) ?_
 refine s_rn 2 F rfl rfl ?_; clear F a; intro a F
 refine s_fa0 F rfl rfl rfl rfl fa_144_9_A4 rfl ?_; clear F a; intro a F
 refine s_ld F rfl rfl rfl rfl sc_25_A4 rfl (by exact cell_of_blk M.h0 (gf rfl (by decide))) ?_; clear F a; intro a F
 refine s_rn 2 F rfl rfl ?_; clear F a; intro a F
 refine s_fa0 F rfl rfl rfl rfl fa_144_4_A4 rfl ?_; clear F a; intro a F
 refine s_ld F rfl rfl rfl rfl sc_3_A4 rfl (by exact cell_of_blk M.h0 (gf rfl (by decide))) ?_; clear F a; intro a F
 refine s_cq F M rfl rfl rfl rfl rfl (rfl : _ = some [_, _]) cb_32_A4 (fun nd_ => c32v st.round _ (by exact M.h1)) ?_; (clear F a M; try clear w); rintro v w rfl M a F
 refine s_I F rfl rfl rfl rfl rfl rfl ?_; clear F a; intro a F
 refine t_endM M ?_; (clear M; try clear w); intro w M
 refine wp_seq ?_
 replace F := F.keep [0, 2, 3] rfl
 refine wp_region_l [.ind, .ind, .ind, .ind, .rd, .ind] ([0, 1, 2, 3, 4, 5]) rfl ?_
 refine s_rn 3 F rfl rfl ?_; clear F a; intro a F
 refine s_fa0 F rfl rfl rfl rfl fa_144_4_A4 rfl ?_; clear F a; intro a F
 refine s_ld F rfl rfl rfl rfl sc_3_A4 rfl (by exact cell_of_blk M.h0 (gf rfl (by decide))) ?_; clear F a; intro a F
 refine s_bin F rfl rfl rfl rfl rfl rfl rfl ?_; clear F a; intro a F
 refine t_endM M ?_; (clear M; try clear w); intro w M
 refine c_if F rfl ?_ ?_
 clear F; intro hc2 F
 try rw [hc2] at F
 replace hc2 := of_decide_eq_true hc2
 refine wp_seq ?_
 replace F := F.keep [0, 2, 3] rfl
 refine wp_region_l [.ind, .ind, .wr] ([0, 1, 2]) rfl ?_
 refine s_rn 2 F rfl rfl ?_; clear F a; intro a F
 have M1 : Sep _ _ _ (slR _ _ _ _ _ :: _) := M.f3; replace M := M1; clear M1
 have M1 : Sep _ _ _ (blk ob _ :: _) := M.f3; replace M := M1; clear M1
 have M1 : Sep _ _ _ (blk b _ :: _) := M.f2; replace M := M1; clear M1
 refine s_call (m := [_, _, _]) F M rfl rfl rfl rfl rfl (rfl : _ = some [_, _]) cb_86_A4 (fun nd_ => c86 b vb ob _ (st) _ (by omega) (aheadV st.n st.t st.L st.round) _ (Own.left (m := [_, _, _]) (M.drewN nd_).own)) ?_; (clear F a M; try clear w); rintro v x w rfl M a F; (try simp only [List.cons_append, List.nil_append] at M)
 refine t_endM M ?_; (clear M; try clear w); intro w M
 refine wp_seq ?_
 replace F := F.keep [0, 2, 3] rfl
 refine wp_region_l [.ind] ([0]) rfl ?_
 refine s_I F rfl rfl rfl rfl rfl rfl ?_; clear F a; intro a F
 refine t_endM M ?_; (clear M; try clear w); intro w M
 refine wp_ret ?_
 refine ret1 F rfl rfl ?_
 have hr := rule_ahead hd (by assumption)
 unfold rul1 rul2
 rw [hr]
 · first
     | (refine ⟨_, x, rfl, rfl, ?_⟩; (try simp only [Option.getD_some, Option.getD_none, List.append_nil]); (refine M.pick ?_; repeat (first | exact PkG.nil | refine PkG.cons 0 rfl rfl ?_ | refine PkG.cons 1 rfl rfl ?_ | refine PkG.cons 2 rfl rfl ?_ | refine PkG.cons 3 rfl rfl ?_)); done)
     | (refine ⟨_, ov, rfl, rfl, ?_⟩; (try simp only [Option.getD_some, Option.getD_none, List.append_nil]); (refine M.pick ?_; repeat (first | exact PkG.nil | refine PkG.cons 0 rfl rfl ?_ | refine PkG.cons 1 rfl rfl ?_ | refine PkG.cons 2 rfl rfl ?_ | refine PkG.cons 3 rfl rfl ?_ | refine PkG.cons 4 rfl rfl ?_ | refine PkG.cons 5 rfl rfl ?_ | refine PkG.cons 6 rfl rfl ?_ | refine PkG.cons 7 rfl rfl ?_ | refine PkG.cons 8 rfl rfl ?_ | refine PkG.cons 9 rfl rfl ?_ | refine PkG.cons 10 rfl rfl ?_ | refine PkG.cons 11 rfl rfl ?_ | refine PkG.cons 12 rfl rfl ?_ | refine PkG.cons 13 rfl rfl ?_)); done)
 clear F; intro hc3 F
 try rw [hc3] at F
 replace hc3 := of_decide_eq_false hc3
 refine wp_skip ?_
 refine wp_seq ?_
 replace F := F.keep [0, 2, 3] rfl
 refine wp_region_t [.ind, .ind, .ind, .ind, .rd, .ind, .ind, .ind, .rd, .wr, .wr] [(4, 9), (8, 9)] (otOf [0, 1, 2, 3, 4, 5, 6, 7, 8, 9, 10]) mixed (by kernel_rfl) ?_
 refine s_rn 3 F rfl rfl ?_; clear F a; intro a F
 refine s_fa0 F rfl rfl rfl rfl fa_144_4_A4 rfl ?_; clear F a; intro a F
 refine s_ldL F rfl rfl rfl rfl sc_3_A4 rfl (by exact cell_of_blk M.h0 (gf rfl (by decide))) ?_; clear F a; intro a F
 refine s_I F rfl rfl rfl rfl rfl rfl ?_; clear F a; intro a F
 refine s_fa0 F rfl rfl rfl rfl fa_144_8_A4 rfl ?_; clear F a; intro a F
 refine s_ia F rfl rfl rfl rfl ar_139_A4 rfl rfl (by omega) (by omega) ?_; clear F a; intro a F
 refine s_ldaL F rfl rfl rfl rfl ag_32_A4 rfl (cs := (encW (propL st.Ps st.round)).toArray) rfl (by exact cells_F  M.h0 (aF_word h0 hr1) (by omega)) ?_; clear F a; intro a F
 refine s_alcL F M rfl rfl rfl rfl zr_32_A4 rfl (fun b w M => (by (refine pend_take (by exact cells_F M.h1 (aF_word h0 hr1) (by omega)) ?_); (refine pend_take (by exact cell_of_blk M.h1 (gf rfl (by decide))) ?_); exact pend_none)) ?_; (clear F a M; try clear w); intro b4 w M a F
 refine s_stWL F M rfl rfl rfl sz_32_A4 rfl rfl rfl rfl rfl (fun w M => (by (refine pend_skip rfl ?_); (refine pend_skip rfl ?_); exact pend_none)) ?_; (clear M; try clear w); intro w M
 refine t_endM M ?_; (clear M; try clear w); intro w M
 refine wp_seq ?_
 refine wp_seq ?_
 replace F := F.keep [0, 2, 3, 4] rfl
 refine wp_region_l [.ind, .rd, .wr, .ind, .ind, .rd, .wr, .ind] ([0, 1, 2, 3, 4, 5, 6, 7]) rfl ?_
 refine s_I F rfl rfl rfl rfl rfl rfl ?_; clear F a; intro a F
 refine s_lda F rfl rfl rfl rfl ag_32_A4 rfl rfl (cells_whole M.h0) ?_; clear F a; intro a F
 have M1 : Sep _ _ _ (slR _ _ _ _ _ :: _) := M.f4; replace M := M1; clear M1
 have M1 : Sep _ _ _ (blk ob _ :: _) := M.f4; replace M := M1; clear M1
 have M1 : Sep _ _ _ (votR _ _ _ _ _ :: _) := M.f4; replace M := M1; clear M1
 have M1 : Sep _ _ _ (blk b _ :: _) := M.f4; replace M := M1; clear M1
 refine s_call (m := [_, _, _, _]) F M rfl rfl rfl rfl rfl (rfl : _ = some [_, _]) cb_111_A4 (fun nd_ => c111 b vb ob vv _ st _ (by omega) _ (Own.left (m := [_, _, _, _]) (M.drewN nd_).own)) ?_; (clear F a M; try clear w); rintro v x w rfl M a F; (try simp only [List.cons_append, List.nil_append] at M)
 refine s_I F rfl rfl rfl rfl rfl rfl ?_; clear F a; intro a F
 refine bsplit F 37 rfl ?_ ?_
 clear F; intro hc4 F
 try rw [hc4] at F
 skip
 simp only [hc4, if_true, Bool.false_eq_true, if_false, List.append_nil] at M
 refine s_rn 4 F rfl rfl ?_; clear F a; intro a F
 refine t_endM M ?_; (clear M; try clear w); intro w M
 refine c_t F rfl ?_
 refine wp_seq ?_
 replace F := F.keep [0, 2, 3, 4] rfl
 refine wp_region_l [.ind] ([0]) rfl ?_
 refine s_I F rfl rfl rfl rfl rfl rfl ?_; clear F a; intro a F
 refine t_endM M ?_; (clear M; try clear w); intro w M
 refine wp_ret ?_
 refine ret1 F rfl rfl ?_
 · first
     | (have hr := rule_pv hd (by assumption) (by assumption); unfold rul1 rul2; rw [hr]; refine ⟨_, x, rfl, rfl, ?_⟩; dsimp only [Option.getD_some]; (refine M.pick ?_; repeat (first | exact PkG.nil | refine PkG.cons 0 rfl rfl ?_ | refine PkG.cons 1 rfl rfl ?_ | refine PkG.cons 2 rfl rfl ?_ | refine PkG.cons 3 rfl rfl ?_)); done)
     | (have hr := rule_pc hd (by assumption) (by assumption) (by assumption); unfold rul1 rul2; rw [hr]; refine ⟨_, x, rfl, rfl, ?_⟩; dsimp only [Option.getD_some]; (refine M.pick ?_; repeat (first | exact PkG.nil | refine PkG.cons 0 rfl rfl ?_ | refine PkG.cons 1 rfl rfl ?_ | refine PkG.cons 2 rfl rfl ?_ | refine PkG.cons 3 rfl rfl ?_ | refine PkG.cons 4 rfl rfl ?_ | refine PkG.cons 5 rfl rfl ?_ | refine PkG.cons 6 rfl rfl ?_ | refine PkG.cons 7 rfl rfl ?_ | refine PkG.cons 8 rfl rfl ?_ | refine PkG.cons 9 rfl rfl ?_ | refine PkG.cons 10 rfl rfl ?_ | refine PkG.cons 11 rfl rfl ?_ | refine PkG.cons 12 rfl rfl ?_ | refine PkG.cons 13 rfl rfl ?_)); done)
 clear F; intro hc5 F
 try rw [hc5] at F
 skip
 simp only [hc5, if_true, Bool.false_eq_true, if_false, List.append_nil] at M
 refine s_I F rfl rfl rfl rfl rfl rfl ?_; clear F a; intro a F
 refine s_lda F rfl rfl rfl rfl ag_32_A4 rfl rfl (cells_whole M.h4) ?_; clear F a; intro a F
 have M1 : Sep _ _ _ (slR _ _ _ _ _ :: _) := M.f3; replace M := M1; clear M1
 have M1 : Sep _ _ _ (blk ob _ :: _) := M.f3; replace M := M1; clear M1
 have M1 : Sep _ _ _ (votR _ _ _ _ _ :: _) := M.f3; replace M := M1; clear M1
 have M1 : Sep _ _ _ (blk b _ :: _) := M.f3; replace M := M1; clear M1
 refine s_call (m := [_, _, _, _]) F M rfl rfl rfl rfl rfl (rfl : _ = some [_, _]) cb_112_A4 (fun nd_ => c112 b vb ob vv _ st _ (by omega) _ (Own.left (m := [_, _, _, _]) (M.drewN nd_).own)) ?_; (clear F a M; try clear w); rintro v x w rfl M a F; (try simp only [List.cons_append, List.nil_append] at M)
 refine s_I F rfl rfl rfl rfl rfl rfl ?_; clear F a; intro a F
 refine t_endM M ?_; (clear M; try clear w); intro w M
 refine c_if F rfl ?_ ?_
 clear F; intro hc6 F
 try rw [hc6] at F
 skip
 try simp only [hc6, if_true, Bool.false_eq_true, if_false, List.append_nil] at M
 refine wp_seq ?_
 replace F := F.keep [0, 2, 3, 4] rfl
 refine wp_region_l [.ind] ([0]) rfl ?_
 refine s_I F rfl rfl rfl rfl rfl rfl ?_; clear F a; intro a F
 refine t_endM M ?_; (clear M; try clear w); intro w M
 refine wp_ret ?_
 refine ret1 F rfl rfl ?_
 · first
     | (have hr := rule_pv hd (by assumption) (by assumption); unfold rul1 rul2; rw [hr]; refine ⟨_, x, rfl, rfl, ?_⟩; dsimp only [Option.getD_some]; (refine M.pick ?_; repeat (first | exact PkG.nil | refine PkG.cons 0 rfl rfl ?_ | refine PkG.cons 1 rfl rfl ?_ | refine PkG.cons 2 rfl rfl ?_ | refine PkG.cons 3 rfl rfl ?_ | refine PkG.cons 4 rfl rfl ?_ | refine PkG.cons 5 rfl rfl ?_ | refine PkG.cons 6 rfl rfl ?_ | refine PkG.cons 7 rfl rfl ?_ | refine PkG.cons 8 rfl rfl ?_ | refine PkG.cons 9 rfl rfl ?_ | refine PkG.cons 10 rfl rfl ?_ | refine PkG.cons 11 rfl rfl ?_ | refine PkG.cons 12 rfl rfl ?_ | refine PkG.cons 13 rfl rfl ?_)); done)
     | (have hr := rule_pc hd (by assumption) (by assumption) (by assumption); unfold rul1 rul2; rw [hr]; refine ⟨_, x, rfl, rfl, ?_⟩; dsimp only [Option.getD_some]; (refine M.pick ?_; repeat (first | exact PkG.nil | refine PkG.cons 0 rfl rfl ?_ | refine PkG.cons 1 rfl rfl ?_ | refine PkG.cons 2 rfl rfl ?_ | refine PkG.cons 3 rfl rfl ?_)); done)
 clear F; intro hc7 F
 try rw [hc7] at F
 skip
 try simp only [hc7, if_true, Bool.false_eq_true, if_false, List.append_nil] at M
 refine wp_skip ?_
 refine wp_seq ?_
 refine wp_seq ?_
 replace F := F.keep [0, 2, 3, 4] rfl
 refine wp_region_l [.ind, .ind, .ind, .rd, .ind, .ind, .ind, .ind, .ind, .ind, .rd, .wr, .ind] ([0, 1, 2, 3, 4, 5, 6, 7, 8, 9, 10, 11, 12]) rfl ?_
 refine s_rn 2 F rfl rfl ?_; clear F a; intro a F
 refine s_fa0 F rfl rfl rfl rfl fa_144_5_A4 rfl ?_; clear F a; intro a F
 refine s_ld F rfl rfl rfl rfl sc_3_A4 rfl (by exact cell_of_blk M.h0 (gf rfl (by decide))) ?_; clear F a; intro a F
 refine s_rn 2 F rfl rfl ?_; clear F a; intro a F
 refine bsplit F 47 rfl ?_ ?_
 clear F; intro hc8 F
 try rw [hc8] at F
 replace hc8 := of_decide_eq_true hc8
 refine s_rn 3 F rfl rfl ?_; clear F a; intro a F
 refine s_fa0 F rfl rfl rfl rfl fa_144_4_A4 rfl ?_; clear F a; intro a F
 refine s_ld F rfl rfl rfl rfl sc_3_A4 rfl (by exact cell_of_blk M.h0 (gf rfl (by decide))) ?_; clear F a; intro a F
 refine s_cq F M rfl rfl rfl rfl rfl (rfl : _ = some [_, _, _, _]) cb_113_A4 (fun nd_ => c113 b vb vv _ st 2 st.round VoteM.empty _ (by exact M.h0) (by exact roF (M.drewN nd_).f1)) ?_; (clear F a M; try clear w); rintro v w rfl M a F
 refine s_I F rfl rfl rfl rfl rfl rfl ?_; clear F a; intro a F
 refine t_endM M ?_; (clear M; try clear w); intro w M
 refine c_if F rfl ?_ ?_
 clear F; intro hc9 F
 try rw [hc9] at F
 skip
 refine wp_seq ?_
 replace F := F.keep [0, 2, 3, 4] rfl
 refine wp_region_l [.ind, .wr] ([0, 1]) rfl ?_
 refine s_I F rfl rfl rfl rfl rfl rfl ?_; clear F a; intro a F
 have M1 : Sep _ _ _ (slR _ _ _ _ _ :: _) := M.f3; replace M := M1; clear M1
 have M1 : Sep _ _ _ (blk ob _ :: _) := M.f3; replace M := M1; clear M1
 have M1 : Sep _ _ _ (blk b _ :: _) := M.f2; replace M := M1; clear M1
 refine s_call (m := [_, _, _]) F M rfl rfl rfl rfl rfl (rfl : _ = some [_, _, _]) cb_114_A4 (fun nd_ => c114 b vb ob _ (st) _ (by omega) 3 VoteM.empty _ (Own.left (m := [_, _, _]) (M.drewN nd_).own)) ?_; (clear F a M; try clear w); rintro v x w rfl M a F; (try simp only [List.cons_append, List.nil_append] at M)
 refine t_endM M ?_; (clear M; try clear w); intro w M
 refine wp_seq ?_
 replace F := F.keep [0, 2, 3, 4] rfl
 refine wp_region_l [.ind] ([0]) rfl ?_
 refine s_I F rfl rfl rfl rfl rfl rfl ?_; clear F a; intro a F
 refine t_endM M ?_; (clear M; try clear w); intro w M
 refine wp_ret ?_
 refine ret1 F rfl rfl ?_
 have hnil : st.nil = true := (by clear M F; unfold ASt.nil; grind)
 have hr := rule_nil hd (by assumption) (by assumption) (by assumption) hnil
 unfold rul1 rul2
 rw [hr]
 · first
     | (refine ⟨_, x, rfl, rfl, ?_⟩; (try simp only [Option.getD_some, Option.getD_none, List.append_nil]); (refine M.pick ?_; repeat (first | exact PkG.nil | refine PkG.cons 0 rfl rfl ?_ | refine PkG.cons 1 rfl rfl ?_ | refine PkG.cons 2 rfl rfl ?_ | refine PkG.cons 3 rfl rfl ?_)); done)
     | (refine ⟨_, ov, rfl, rfl, ?_⟩; (try simp only [Option.getD_some, Option.getD_none, List.append_nil]); (refine M.pick ?_; repeat (first | exact PkG.nil | refine PkG.cons 0 rfl rfl ?_ | refine PkG.cons 1 rfl rfl ?_ | refine PkG.cons 2 rfl rfl ?_ | refine PkG.cons 3 rfl rfl ?_ | refine PkG.cons 4 rfl rfl ?_ | refine PkG.cons 5 rfl rfl ?_ | refine PkG.cons 6 rfl rfl ?_ | refine PkG.cons 7 rfl rfl ?_ | refine PkG.cons 8 rfl rfl ?_ | refine PkG.cons 9 rfl rfl ?_ | refine PkG.cons 10 rfl rfl ?_ | refine PkG.cons 11 rfl rfl ?_ | refine PkG.cons 12 rfl rfl ?_ | refine PkG.cons 13 rfl rfl ?_)); done)
 clear F; intro hc10 F
 try rw [hc10] at F
 skip
 refine wp_skip ?_
 refine wp_seq ?_
 replace F := F.keep [0, 2, 3, 4] rfl
 refine wp_region_l [.ind] ([0]) rfl ?_
 refine s_I F rfl rfl rfl rfl rfl rfl ?_; clear F a; intro a F
 refine t_endM M ?_; (clear M; try clear w); intro w M
 refine wp_ret ?_
 refine ret1 F rfl rfl ?_
 have hnil : st.nil = false := (by clear M F; unfold ASt.nil; grind)
 have hr := rule_none hd (by assumption) (by assumption) (by assumption) hnil
 unfold rul1 rul2
 rw [hr]
 · first
     | (refine ⟨_, x, rfl, rfl, ?_⟩; (try simp only [Option.getD_some, Option.getD_none, List.append_nil]); (refine M.pick ?_; repeat (first | exact PkG.nil | refine PkG.cons 0 rfl rfl ?_ | refine PkG.cons 1 rfl rfl ?_ | refine PkG.cons 2 rfl rfl ?_ | refine PkG.cons 3 rfl rfl ?_)); done)
     | (refine ⟨_, ov, rfl, rfl, ?_⟩; (try simp only [Option.getD_some, Option.getD_none, List.append_nil]); (refine M.pick ?_; repeat (first | exact PkG.nil | refine PkG.cons 0 rfl rfl ?_ | refine PkG.cons 1 rfl rfl ?_ | refine PkG.cons 2 rfl rfl ?_ | refine PkG.cons 3 rfl rfl ?_ | refine PkG.cons 4 rfl rfl ?_ | refine PkG.cons 5 rfl rfl ?_ | refine PkG.cons 6 rfl rfl ?_ | refine PkG.cons 7 rfl rfl ?_ | refine PkG.cons 8 rfl rfl ?_ | refine PkG.cons 9 rfl rfl ?_ | refine PkG.cons 10 rfl rfl ?_ | refine PkG.cons 11 rfl rfl ?_ | refine PkG.cons 12 rfl rfl ?_ | refine PkG.cons 13 rfl rfl ?_)); done)
 clear F; intro hc11 F
 try rw [hc11] at F
 replace hc11 := of_decide_eq_false hc11
 refine s_rn 7 F rfl rfl ?_; clear F a; intro a F
 refine t_endM M ?_; (clear M; try clear w); intro w M
 refine c_f F rfl ?_
 refine wp_skip ?_
 refine wp_seq ?_
 replace F := F.keep [0, 2, 3, 4] rfl
 refine wp_region_l [.ind] ([0]) rfl ?_
 refine s_I F rfl rfl rfl rfl rfl rfl ?_; clear F a; intro a F
 refine t_endM M ?_; (clear M; try clear w); intro w M
 refine wp_ret ?_
 refine ret1 F rfl rfl ?_
 have hnil : st.nil = false := (by clear M F; unfold ASt.nil; grind)
 have hr := rule_none hd (by assumption) (by assumption) (by assumption) hnil
 unfold rul1 rul2
 rw [hr]
 · first
     | (refine ⟨_, x, rfl, rfl, ?_⟩; (try simp only [Option.getD_some, Option.getD_none, List.append_nil]); (refine M.pick ?_; repeat (first | exact PkG.nil | refine PkG.cons 0 rfl rfl ?_ | refine PkG.cons 1 rfl rfl ?_ | refine PkG.cons 2 rfl rfl ?_ | refine PkG.cons 3 rfl rfl ?_)); done)
     | (refine ⟨_, ov, rfl, rfl, ?_⟩; (try simp only [Option.getD_some, Option.getD_none, List.append_nil]); (refine M.pick ?_; repeat (first | exact PkG.nil | refine PkG.cons 0 rfl rfl ?_ | refine PkG.cons 1 rfl rfl ?_ | refine PkG.cons 2 rfl rfl ?_ | refine PkG.cons 3 rfl rfl ?_ | refine PkG.cons 4 rfl rfl ?_ | refine PkG.cons 5 rfl rfl ?_ | refine PkG.cons 6 rfl rfl ?_ | refine PkG.cons 7 rfl rfl ?_ | refine PkG.cons 8 rfl rfl ?_ | refine PkG.cons 9 rfl rfl ?_ | refine PkG.cons 10 rfl rfl ?_ | refine PkG.cons 11 rfl rfl ?_ | refine PkG.cons 12 rfl rfl ?_ | refine PkG.cons 13 rfl rfl ?_)); done)
end Go.Proofs.Ytboibdmflblphaa
