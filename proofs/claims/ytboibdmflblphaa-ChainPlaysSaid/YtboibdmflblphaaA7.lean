/- A7 of the seat. -/
import Derived.Test.YtboibdmflblphaaA6
namespace Go.Proofs.Ytboibdmflblphaa
open Go Fw
theorem zr_22_A7 : zeroB Try.prog 22 = some (.slice none 0 0) := by kernel_rfl
theorem bl_142_0_A7 : ∀ (f0 : Fn) (a0 b0 : Array Value), ∀ w : World, (Instr.build 142 #[(0, .func f0 a0 b0)]).run Try.prog w = .ok (.agg #[.func f0 a0 b0]) w := by intros; kernel_rfl
theorem fa_144_13_A7 : FA Try.prog 144 13 334 := fun _ _ _ => by kernel_rfl
theorem sz_142_A7 : sizeB Try.prog 142 = some 1 := by kernel_rfl
theorem cb_81_A7 : callB Try.prog 81 = true := by kernel_rfl
theorem bl_142__A7 : ∀ w : World, (Instr.build 142 #[]).run Try.prog w = .ok (.agg #[.nilFunc]) w := by intros; kernel_rfl
theorem sc_22_A7 : scalB Try.prog 22 = true := by kernel_rfl
theorem cb_85_A7 : callB Try.prog 85 = true := by kernel_rfl
theorem sc_50_A7 : scalB Try.prog 50 = true := by kernel_rfl
theorem pt_50_A7 : ptrB Try.prog 50 = true := by kernel_rfl
theorem fa_144_4_A7 : FA Try.prog 144 4 4 := fun _ _ _ => by kernel_rfl
theorem sc_3_A7 : scalB Try.prog 3 = true := by kernel_rfl
theorem fa_144_11_A7 : FA Try.prog 144 11 332 := fun _ _ _ => by kernel_rfl
theorem sc_4_A7 : scalB Try.prog 4 = true := by kernel_rfl
theorem cb_80_A7 : callB Try.prog 80 = true := by kernel_rfl
theorem fa_144_5_A7 : FA Try.prog 144 5 5 := fun _ _ _ => by kernel_rfl
theorem sc_9_A7 : scalB Try.prog 9 = true := by kernel_rfl
theorem fa_144_12_A7 : FA Try.prog 144 12 333 := fun _ _ _ => by kernel_rfl
open VoteM AgrM

set_option maxRecDepth 100000 in
set_option maxHeartbeats 400000 in
theorem c80t (b vb b2 b3 : Nat) (vv : Value) (st : ASt) (q : Wrd) (W : st.Wf) (h0 : 0 ≤ st.round) (hd : st.done = false) (w0 : World) (ho : Own w0.heap [blk b (aO (st) vb .nilFunc), votR vb vv st.n st.t (st).L, blk b2 (.cells #[.pointer (some ⟨b, 0, none⟩)] 50 (0, 0)), blk b3 (.cells (encW q).toArray 32 (0, 0))]) : Cl Try.prog 80 #[.pointer (some ⟨b, 0, none⟩), .func (.func 81) #[] #[.pointer (some ⟨b2, 0, none⟩), .pointer (some ⟨b3, 0, none⟩)]] w0 (RetS [blk b (aO (st) vb .nilFunc), votR vb vv st.n st.t (st).L, blk b2 (.cells #[.pointer (some ⟨b, 0, none⟩)] 50 (0, 0)), blk b3 (.cells (encW q).toArray 32 (0, 0))] w0 (fun v (x : Value × Value) => v = x.2) fun x => [blk b (aO (st.take q).1 vb .nilFunc), votR vb x.1 st.n st.t (st.take q).1.L, wsR x.2 (st.take q).2, blk b2 (.cells #[.pointer (some ⟨b, 0, none⟩)] 50 (0, 0)), blk b3 (.cells (encW q).toArray 32 (0, 0))]) := by
 have M : Sep (fun b_ => b_ ∈ foots [blk b (aO (st) vb .nilFunc), votR vb vv st.n st.t (st).L, blk b2 (.cells #[.pointer (some ⟨b, 0, none⟩)] 50 (0, 0)), blk b3 (.cells (encW q).toArray 32 (0, 0))]) w0 w0 _ := Sep.start ho
 refine enter (vs := [_, _]) Try.func80 rfl rfl rfl ?_
 intro a F
 refine wp_seq ?_
 refine wp_region_l [.ind] ([0]) rfl ?_
 refine s_I F rfl rfl rfl rfl rfl rfl ?_; clear F a; intro a F
 refine t_endM M ?_; (clear M; try clear w); intro w M
 refine wp_seq ?_
 refine wp_region_l [.wr] ([0]) rfl ?_
 refine s_alc F M rfl rfl rfl rfl zr_22_A7 rfl ?_; (clear F a M; try clear w); intro b5 w M a F
 refine t_endM M ?_; (clear M; try clear w); intro w M
 refine wp_seq ?_
 refine wp_region_l [.ind, .ind, .ind, .ind, .ind, .wr] ([0, 1, 2, 3, 4, 5]) rfl ?_
 refine s_I F rfl rfl rfl rfl rfl rfl ?_; clear F a; intro a F
 refine s_mkf F rfl rfl rfl rfl rfl rfl ?_; clear F a; intro a F
 refine s_bld F rfl rfl rfl rfl (parts1 F rfl) (bl_142_0_A7 _ _ _) ?_; clear F a; intro a F
 refine s_I F rfl rfl rfl rfl rfl rfl ?_; clear F a; intro a F
 refine s_fa0 F rfl rfl rfl rfl fa_144_13_A7 rfl ?_; clear F a; intro a F
 refine s_sta F M.f1 rfl rfl rfl sz_142_A7 rfl rfl rfl rfl (by exact Nat.le_of_ble_eq_true rfl) ?_; (clear M; try clear w); intro w M
 refine t_endM M ?_; (clear M; try clear w); intro w M
 refine wp_seq ?_
 rw [aF_mouthS] at M
 replace M := M.nilT encW 32 5
 replace F := F.keep [0, 1, 4, 5] rfl
 refine wp_region_l [.ind, .wr] ([0, 1]) rfl ?_
 refine s_I F rfl rfl rfl rfl rfl rfl ?_; clear F a; intro a F
 have M1 : Sep _ _ _ (blk b3 _ :: _) := M.f5; replace M := M1; clear M1
 have M1 : Sep _ _ _ (blk b2 _ :: _) := M.f5; replace M := M1; clear M1
 have M1 : Sep _ _ _ (slR _ _ _ _ _ :: _) := M.f2; replace M := M1; clear M1
 have M1 : Sep _ _ _ (blk b5 _ :: _) := M.f4; replace M := M1; clear M1
 have M1 : Sep _ _ _ (votR _ _ _ _ _ :: _) := M.f5; replace M := M1; clear M1
 have M1 : Sep _ _ _ (blk b _ :: _) := M.f5; replace M := M1; clear M1
 refine s_clo (m := [_, _, _, _, _, _]) F M rfl rfl rfl rfl rfl (rfl : _ = some []) (by rfl) cb_81_A7 (fun nd_ => c81 b vb b5 b2 b3 vv _ st [] (by simp) q W h0 hd _ (Own.left (m := [_, _, _, _, _, _]) (M.drewN nd_).own)) (fun _ _ _ _ _ => pend_nil) ?_; (clear F a M; try clear w); rintro v x w rfl M a F; (try simp only [List.cons_append, List.nil_append] at M)
 obtain ⟨v1, o1⟩ := x
 try dsimp only [List.nil_append] at M
 refine t_endM M ?_; (clear M; try clear w); intro w M
 refine wp_seq ?_
 replace F := F.keep [0, 1, 4, 5] rfl
 refine wp_region_l [.ind, .ind, .ind, .ind, .wr] ([0, 1, 2, 3, 4]) rfl ?_
 refine s_I F rfl rfl rfl rfl rfl rfl ?_; clear F a; intro a F
 refine s_bld F rfl rfl rfl rfl (parts0 F ) (bl_142__A7) ?_; clear F a; intro a F
 refine s_I F rfl rfl rfl rfl rfl rfl ?_; clear F a; intro a F
 refine s_fa0 F rfl rfl rfl rfl fa_144_13_A7 rfl ?_; clear F a; intro a F
 refine s_sta F M rfl rfl rfl sz_142_A7 rfl rfl rfl rfl (by exact Nat.le_of_ble_eq_true rfl) ?_; (clear M; try clear w); intro w M
 refine t_endM M ?_; (clear M; try clear w); intro w M
 refine wp_seq ?_
 rw [aF_mouthS] at M
 replace F := F.keep [0, 1, 4, 5] rfl
 refine wp_region_l [.rd, .ind] ([0, 1]) rfl ?_
 refine s_ld F rfl rfl rfl rfl sc_22_A7 rfl (by exact cell_of_blk M.h2 (lit rfl)) ?_; clear F a; intro a F
 refine s_I F rfl rfl rfl rfl rfl rfl ?_; clear F a; intro a F
 refine t_endM M ?_; (clear M; try clear w); intro w M
 refine wp_ret ?_
 refine ret1 F rfl rfl ?_
 refine ⟨_, (v1, o1), rfl, rfl, ?_⟩
 refine M.pick ?_; repeat (first | exact PkG.nil | refine PkG.cons 0 rfl rfl ?_ | refine PkG.cons 1 rfl rfl ?_ | refine PkG.cons 3 rfl rfl ?_ | refine PkG.cons 4 rfl rfl ?_ | refine PkG.cons 5 rfl rfl ?_)
set_option maxRecDepth 100000 in
set_option maxHeartbeats 400000 in
theorem c80s (b vb b2 : Nat) (st : ASt) (w0 : World) (ho : Own w0.heap [blk b (aO st vb .nilFunc), blk b2 (.cells #[.pointer (some ⟨b, 0, none⟩)] 50 (0, 0))]) : Cl Try.prog 80 #[.pointer (some ⟨b, 0, none⟩), .func (.func 85) #[] #[.pointer (some ⟨b2, 0, none⟩)]] w0 (RetS [blk b (aO st vb .nilFunc), blk b2 (.cells #[.pointer (some ⟨b, 0, none⟩)] 50 (0, 0))] w0 (fun v (x : Value) => v = x) fun x => [blk b (aO (st.begin 0) vb .nilFunc), wsR x (st.beginO 0), blk b2 (.cells #[.pointer (some ⟨b, 0, none⟩)] 50 (0, 0))]) := by
 have M : Sep (fun b_ => b_ ∈ foots [blk b (aO st vb .nilFunc), blk b2 (.cells #[.pointer (some ⟨b, 0, none⟩)] 50 (0, 0))]) w0 w0 _ := Sep.start ho
 refine enter (vs := [_, _]) Try.func80 rfl rfl rfl ?_
 intro a F
 refine wp_seq ?_
 refine wp_region_l [.ind] ([0]) rfl ?_
 refine s_I F rfl rfl rfl rfl rfl rfl ?_; clear F a; intro a F
 refine t_endM M ?_; (clear M; try clear w); intro w M
 refine wp_seq ?_
 refine wp_region_l [.wr] ([0]) rfl ?_
 refine s_alc F M rfl rfl rfl rfl zr_22_A7 rfl ?_; (clear F a M; try clear w); intro b5 w M a F
 refine t_endM M ?_; (clear M; try clear w); intro w M
 refine wp_seq ?_
 refine wp_region_l [.ind, .ind, .ind, .ind, .ind, .wr] ([0, 1, 2, 3, 4, 5]) rfl ?_
 refine s_I F rfl rfl rfl rfl rfl rfl ?_; clear F a; intro a F
 refine s_mkf F rfl rfl rfl rfl rfl rfl ?_; clear F a; intro a F
 refine s_bld F rfl rfl rfl rfl (parts1 F rfl) (bl_142_0_A7 _ _ _) ?_; clear F a; intro a F
 refine s_I F rfl rfl rfl rfl rfl rfl ?_; clear F a; intro a F
 refine s_fa0 F rfl rfl rfl rfl fa_144_13_A7 rfl ?_; clear F a; intro a F
 refine s_sta F M.f1 rfl rfl rfl sz_142_A7 rfl rfl rfl rfl (by exact Nat.le_of_ble_eq_true rfl) ?_; (clear M; try clear w); intro w M
 refine t_endM M ?_; (clear M; try clear w); intro w M
 refine wp_seq ?_
 rw [aF_mouthS] at M
 replace M := M.nilT encW 32 5
 replace F := F.keep [0, 1, 4, 5] rfl
 refine wp_region_l [.ind, .wr] ([0, 1]) rfl ?_
 refine s_I F rfl rfl rfl rfl rfl rfl ?_; clear F a; intro a F
 have M1 : Sep _ _ _ (blk b2 _ :: _) := M.f3; replace M := M1; clear M1
 have M1 : Sep _ _ _ (slR _ _ _ _ _ :: _) := M.f1; replace M := M1; clear M1
 have M1 : Sep _ _ _ (blk b5 _ :: _) := M.f3; replace M := M1; clear M1
 have M1 : Sep _ _ _ (blk b _ :: _) := M.f3; replace M := M1; clear M1
 refine s_clo (m := [_, _, _, _]) F M rfl rfl rfl rfl rfl (rfl : _ = some []) (by rfl) cb_85_A7 (fun nd_ => c85 b vb b5 b2 _ st [] (by simp) _ (Own.left (m := [_, _, _, _]) (M.drewN nd_).own)) (fun _ _ _ _ _ => pend_nil) ?_; (clear F a M; try clear w); rintro v x w rfl M a F; (try simp only [List.cons_append, List.nil_append] at M)
 try dsimp only [List.nil_append] at M
 refine t_endM M ?_; (clear M; try clear w); intro w M
 refine wp_seq ?_
 replace F := F.keep [0, 1, 4, 5] rfl
 refine wp_region_l [.ind, .ind, .ind, .ind, .wr] ([0, 1, 2, 3, 4]) rfl ?_
 refine s_I F rfl rfl rfl rfl rfl rfl ?_; clear F a; intro a F
 refine s_bld F rfl rfl rfl rfl (parts0 F ) (bl_142__A7) ?_; clear F a; intro a F
 refine s_I F rfl rfl rfl rfl rfl rfl ?_; clear F a; intro a F
 refine s_fa0 F rfl rfl rfl rfl fa_144_13_A7 rfl ?_; clear F a; intro a F
 refine s_sta F M rfl rfl rfl sz_142_A7 rfl rfl rfl rfl (by exact Nat.le_of_ble_eq_true rfl) ?_; (clear M; try clear w); intro w M
 refine t_endM M ?_; (clear M; try clear w); intro w M
 refine wp_seq ?_
 rw [aF_mouthS] at M
 replace F := F.keep [0, 1, 4, 5] rfl
 refine wp_region_l [.rd, .ind] ([0, 1]) rfl ?_
 refine s_ld F rfl rfl rfl rfl sc_22_A7 rfl (by exact cell_of_blk M.h1 (lit rfl)) ?_; clear F a; intro a F
 refine s_I F rfl rfl rfl rfl rfl rfl ?_; clear F a; intro a F
 refine t_endM M ?_; (clear M; try clear w); intro w M
 refine wp_ret ?_
 refine ret1 F rfl rfl ?_
 refine ⟨_, x, rfl, rfl, ?_⟩
 refine M.pick ?_; repeat (first | exact PkG.nil | refine PkG.cons 0 rfl rfl ?_ | refine PkG.cons 2 rfl rfl ?_ | refine PkG.cons 3 rfl rfl ?_)
set_option maxRecDepth 100000 in
set_option maxHeartbeats 400000 in
theorem c41 (b vb : Nat) (vv : Value) (st : ASt) (q : Wrd) (W : st.Wf) (w0 : World) (ho : Own w0.heap [blk b (aO (st) vb .nilFunc), votR vb vv st.n st.t (st).L]) : Cl Try.prog 41 #[.pointer (some ⟨b, 0, none⟩), wrdV q] w0 (RetS [blk b (aO (st) vb .nilFunc), votR vb vv st.n st.t (st).L] w0 (fun v (x : Value × Value) => v = x.2) fun x => [blk b (aO (st.take q).1 vb .nilFunc), votR vb x.1 st.n st.t (st.take q).1.L, wsR x.2 (st.take q).2]) := by
 have M : Sep (fun b_ => b_ ∈ foots [blk b (aO (st) vb .nilFunc), votR vb vv st.n st.t (st).L]) w0 w0 _ := Sep.start ho
 refine enter (vs := [_, _]) Try.func41 rfl rfl rfl ?_
 intro a F
 refine wp_seq ?_
 refine wp_region_l [.wr, .wr, .ind] ([0, 1, 2]) rfl ?_
 refine s_bxS F M rfl rfl rfl rfl rfl rfl ?_; (clear F a M; try clear w); intro b2 w M a F
 refine s_bxA F M rfl rfl rfl rfl rfl ?_; (clear F a M; try clear w); intro b3 w M a F
 refine s_I F rfl rfl rfl rfl rfl rfl ?_; clear F a; intro a F
 refine t_endM M ?_; (clear M; try clear w); intro w M
 refine wp_seq ?_
 refine wp_seq ?_
 refine wp_region_l [.rd, .ind, .ind, .rd, .ind, .ind, .rd, .ind, .ind, .ind, .rd, .ind, .ind, .rd, .ind] ([0, 1, 2, 3, 4, 5, 6, 7, 8, 9, 10, 11, 12, 13, 14]) rfl ?_
 refine s_ld F rfl rfl rfl rfl sc_50_A7 rfl (by exact cell_of_blk M.h1 (lit rfl)) ?_; clear F a; intro a F
 refine s_pn F rfl rfl rfl rfl pt_50_A7 rfl ?_; clear F a; intro a F
 refine s_I F rfl rfl rfl rfl rfl rfl ?_; clear F a; intro a F
 refine s_ld F rfl rfl rfl rfl sc_50_A7 rfl (by exact cell_of_blk M.h1 (lit rfl)) ?_; clear F a; intro a F
 refine s_I F rfl rfl rfl rfl rfl rfl ?_; clear F a; intro a F
 refine s_fa0 F rfl rfl rfl rfl fa_144_4_A7 rfl ?_; clear F a; intro a F
 refine s_ld F rfl rfl rfl rfl sc_3_A7 rfl (by exact cell_of_blk M.h2 (gf rfl (by decide))) ?_; clear F a; intro a F
 refine s_rn 3 F rfl rfl ?_; clear F a; intro a F
 refine bsplit F 14 rfl ?_ ?_
 clear F; intro hc0 F
 try rw [hc0] at F
 replace hc0 := of_decide_eq_true hc0
 refine s_rn 5 F rfl rfl ?_; clear F a; intro a F
 refine t_endM M ?_; (clear M; try clear w); intro w M
 refine c_t F rfl ?_
 refine wp_seq ?_
 replace F := F.keep [0, 1, 2, 3, 4] rfl
 refine wp_region_l [.ind] ([0]) rfl ?_
 refine s_I F rfl rfl rfl rfl rfl rfl ?_; clear F a; intro a F
 refine t_endM M ?_; (clear M; try clear w); intro w M
 refine wp_ret ?_
 refine ret1 F rfl rfl ?_
 rw [take_dead (by exact .inl (by assumption))]
 replace M := M.nilT encW 32 5
 refine ⟨_, (vv, .slice none 0 0), rfl, rfl, ?_⟩
 dsimp only
 refine M.pick ?_; repeat (first | exact PkG.nil | refine PkG.cons 0 rfl rfl ?_ | refine PkG.cons 3 rfl rfl ?_ | refine PkG.cons 4 rfl rfl ?_)
 clear F; intro hc1 F
 try rw [hc1] at F
 replace hc1 := of_decide_eq_false hc1
 refine s_ld F rfl rfl rfl rfl sc_50_A7 rfl (by exact cell_of_blk M.h1 (lit rfl)) ?_; clear F a; intro a F
 refine s_I F rfl rfl rfl rfl rfl rfl ?_; clear F a; intro a F
 refine s_fa0 F rfl rfl rfl rfl fa_144_11_A7 rfl ?_; clear F a; intro a F
 refine s_ld F rfl rfl rfl rfl sc_4_A7 rfl (by exact cell_of_blk M.h2 (gf (aF_332 _ _ _) (by decide))) ?_; clear F a; intro a F
 refine s_I F rfl rfl rfl rfl rfl rfl ?_; clear F a; intro a F
 refine t_endM M ?_; (clear M; try clear w); intro w M
 refine c_if F rfl ?_ ?_
 clear F; intro hc2 F
 try rw [hc2] at F
 skip
 refine wp_seq ?_
 replace F := F.keep [0, 1, 2, 3, 4] rfl
 refine wp_region_l [.ind] ([0]) rfl ?_
 refine s_I F rfl rfl rfl rfl rfl rfl ?_; clear F a; intro a F
 refine t_endM M ?_; (clear M; try clear w); intro w M
 refine wp_ret ?_
 refine ret1 F rfl rfl ?_
 rw [take_dead (by exact .inr (by assumption))]
 replace M := M.nilT encW 32 5
 refine ⟨_, (vv, .slice none 0 0), rfl, rfl, ?_⟩
 dsimp only
 refine M.pick ?_; repeat (first | exact PkG.nil | refine PkG.cons 0 rfl rfl ?_ | refine PkG.cons 3 rfl rfl ?_ | refine PkG.cons 4 rfl rfl ?_)
 clear F; intro hc3 F
 try rw [hc3] at F
 skip
 refine wp_skip ?_
 refine wp_seq ?_
 replace F := F.keep [0, 1, 2, 3, 4] rfl
 refine wp_region_l [.rd, .ind, .wr, .ind] ([0, 1, 2, 3]) rfl ?_
 refine s_ld F rfl rfl rfl rfl sc_50_A7 rfl (by exact cell_of_blk M.h1 (lit rfl)) ?_; clear F a; intro a F
 refine s_mkf F rfl rfl rfl rfl rfl rfl ?_; clear F a; intro a F
 have M1 : Sep _ _ _ (blk b3 _ :: _) := M; replace M := M1; clear M1
 have M1 : Sep _ _ _ (blk b2 _ :: _) := M.f1; replace M := M1; clear M1
 have M1 : Sep _ _ _ (votR _ _ _ _ _ :: _) := M.f3; replace M := M1; clear M1
 have M1 : Sep _ _ _ (blk b _ :: _) := M.f3; replace M := M1; clear M1
 refine s_call (m := [_, _, _, _]) F M rfl rfl rfl rfl rfl (rfl : _ = some [_, _]) cb_80_A7 (fun nd_ => c80t b vb b2 b3 vv st q W (by omega) (by assumption) _ (Own.left (m := [_, _, _, _]) (M.drewN nd_).own)) ?_; (clear F a M; try clear w); rintro v x w rfl M a F; (try simp only [List.cons_append, List.nil_append] at M)
 refine s_I F rfl rfl rfl rfl rfl rfl ?_; clear F a; intro a F
 refine t_endM M ?_; (clear M; try clear w); intro w M
 refine wp_ret ?_
 refine ret1 F rfl rfl ?_
 refine ⟨_, x, rfl, rfl, ?_⟩
 refine M.pick ?_; repeat (first | exact PkG.nil | refine PkG.cons 0 rfl rfl ?_ | refine PkG.cons 1 rfl rfl ?_ | refine PkG.cons 2 rfl rfl ?_)
set_option maxRecDepth 100000 in
set_option maxHeartbeats 400000 in
theorem c44 (b vb : Nat) (st : ASt) (w0 : World) (ho : Own w0.heap [blk b (aO st vb .nilFunc)]) : Cl Try.prog 44 #[.pointer (some ⟨b, 0, none⟩)] w0 (RetS [blk b (aO st vb .nilFunc)] w0 (fun v (x : Value) => v = x) fun x => [blk b (aO st.start vb .nilFunc), wsR x st.startO]) := by
 have M : Sep (fun b_ => b_ ∈ foots [blk b (aO st vb .nilFunc)]) w0 w0 _ := Sep.start ho
 refine enter (vs := [_]) Try.func44 rfl rfl rfl ?_
 intro a F
 refine wp_seq ?_
 refine wp_region_l [.wr, .ind] ([0, 1]) rfl ?_
 refine s_bxS F M rfl rfl rfl rfl rfl rfl ?_; (clear F a M; try clear w); intro b1 w M a F
 refine s_I F rfl rfl rfl rfl rfl rfl ?_; clear F a; intro a F
 refine t_endM M ?_; (clear M; try clear w); intro w M
 refine wp_seq ?_
 refine wp_seq ?_
 refine wp_region_l [.rd, .ind, .ind, .rd, .ind, .ind, .rd, .ind, .ind] ([0, 1, 2, 3, 4, 5, 6, 7, 8]) rfl ?_
 refine s_ld F rfl rfl rfl rfl sc_50_A7 rfl (by exact cell_of_blk M.h0 (lit rfl)) ?_; clear F a; intro a F
 refine s_pn F rfl rfl rfl rfl pt_50_A7 rfl ?_; clear F a; intro a F
 refine s_I F rfl rfl rfl rfl rfl rfl ?_; clear F a; intro a F
 refine s_ld F rfl rfl rfl rfl sc_50_A7 rfl (by exact cell_of_blk M.h0 (lit rfl)) ?_; clear F a; intro a F
 refine s_I F rfl rfl rfl rfl rfl rfl ?_; clear F a; intro a F
 refine s_fa0 F rfl rfl rfl rfl fa_144_4_A7 rfl ?_; clear F a; intro a F
 refine s_ld F rfl rfl rfl rfl sc_3_A7 rfl (by exact cell_of_blk M.h1 (gf rfl (by decide))) ?_; clear F a; intro a F
 refine s_rn 2 F rfl rfl ?_; clear F a; intro a F
 refine t_endM M ?_; (clear M; try clear w); intro w M
 refine c_if F rfl ?_ ?_
 clear F; intro hc0 F
 try rw [hc0] at F
 replace hc0 := of_decide_eq_true hc0
 refine wp_seq ?_
 replace F := F.keep [0, 1, 2] rfl
 refine wp_region_l [.ind] ([0]) rfl ?_
 refine s_I F rfl rfl rfl rfl rfl rfl ?_; clear F a; intro a F
 refine t_endM M ?_; (clear M; try clear w); intro w M
 refine wp_ret ?_
 refine ret1 F rfl rfl ?_
 rw [(start_dead (by assumption)).1, (start_dead (by assumption)).2]
 replace M := M.nilT encW 32 5
 refine ⟨_, .slice none 0 0, rfl, rfl, ?_⟩
 refine M.pick ?_; repeat (first | exact PkG.nil | refine PkG.cons 0 rfl rfl ?_ | refine PkG.cons 2 rfl rfl ?_)
 clear F; intro hc1 F
 try rw [hc1] at F
 replace hc1 := of_decide_eq_false hc1
 refine wp_skip ?_
 refine wp_seq ?_
 replace F := F.keep [0, 1, 2] rfl
 refine wp_region_l [.rd, .ind, .wr, .ind] ([0, 1, 2, 3]) rfl ?_
 refine s_ld F rfl rfl rfl rfl sc_50_A7 rfl (by exact cell_of_blk M.h0 (lit rfl)) ?_; clear F a; intro a F
 refine s_mkf F rfl rfl rfl rfl rfl rfl ?_; clear F a; intro a F
 have M1 : Sep _ _ _ (blk b1 _ :: _) := M; replace M := M1; clear M1
 have M1 : Sep _ _ _ (blk b _ :: _) := M.f1; replace M := M1; clear M1
 refine s_call (m := [_, _]) F M rfl rfl rfl rfl rfl (rfl : _ = some [_, _]) cb_80_A7 (fun nd_ => c80s b vb b1 st _ (Own.left (m := [_, _]) (M.drewN nd_).own)) ?_; (clear F a M; try clear w); rintro v x w rfl M a F; (try simp only [List.cons_append, List.nil_append] at M)
 refine s_I F rfl rfl rfl rfl rfl rfl ?_; clear F a; intro a F
 refine t_endM M ?_; (clear M; try clear w); intro w M
 refine wp_ret ?_
 refine ret1 F rfl rfl ?_
 rw [(start_live (by omega)).1, (start_live (by omega)).2]
 refine ⟨_, v, rfl, rfl, ?_⟩
 refine M.pick ?_; repeat (first | exact PkG.nil | refine PkG.cons 0 rfl rfl ?_ | refine PkG.cons 1 rfl rfl ?_)
set_option maxRecDepth 100000 in
set_option maxHeartbeats 400000 in
theorem c46 (b vb : Nat) (mu : Value) (st : ASt) (w0 : World) (hb : w0.heap[b]? = some (aO st vb mu)) : Cl Try.prog 46 #[.pointer (some ⟨b, 0, none⟩)] w0 (RetQ w0 fun v => v = .tuple #[.int .i64 st.round, .int .i64 st.step]) := by
 have M : Sep (fun _ => False) w0 w0 _ := Sep.nil _ w0
 refine enter (vs := [_]) Try.func46 rfl rfl rfl ?_
 intro a F
 refine wp_seq ?_
 refine wp_region_l [.ind, .ind] ([0, 1]) rfl ?_
 refine s_rn 2 F rfl rfl ?_; clear F a; intro a F
 refine t_endM M ?_; (clear M; try clear w); intro w M
 refine wp_seq ?_
 refine wp_seq ?_
 refine wp_region_l [.ind, .ind] ([0, 1]) rfl ?_
 refine s_I F rfl rfl rfl rfl rfl rfl ?_; clear F a; intro a F
 refine s_pn F rfl rfl rfl rfl pt_50_A7 rfl ?_; clear F a; intro a F
 refine t_endM M ?_; (clear M; try clear w); intro w M
 refine c_f F rfl ?_
 refine wp_skip ?_
 refine wp_seq ?_
 replace F := F.keep [0, 2, 3] rfl
 refine wp_region_t [.ind, .ind, .ind, .rd, .ind, .ind, .ind, .rd, .ind, .ind] [] (otOf [0, 1, 2, 3, 4, 5, 6, 7, 8, 9]) mixed (by kernel_rfl) ?_
 refine s_rn 2 F rfl rfl ?_; clear F a; intro a F
 refine s_fa0 F rfl rfl rfl rfl fa_144_4_A7 rfl ?_; clear F a; intro a F
 refine s_ld F rfl rfl rfl rfl sc_3_A7 rfl (by exact old_cell M id hb (gf rfl (by decide))) ?_; clear F a; intro a F
 refine s_rn 2 F rfl rfl ?_; clear F a; intro a F
 refine s_fa0 F rfl rfl rfl rfl fa_144_5_A7 rfl ?_; clear F a; intro a F
 refine s_ld F rfl rfl rfl rfl sc_3_A7 rfl (by exact old_cell M id hb (gf rfl (by decide))) ?_; clear F a; intro a F
 refine s_rn 2 F rfl rfl ?_; clear F a; intro a F
 refine t_endM M ?_; (clear M; try clear w); intro w M
 refine wp_ret ?_
 refine ret2 F rfl rfl rfl ?_
 exact ⟨_, rfl, rfl, M.chg⟩
set_option maxRecDepth 100000 in
set_option maxHeartbeats 400000 in
theorem c46n (w0 : World) : Cl Try.prog 46 #[.pointer none] w0 (RetQ w0 fun v => v = .tuple #[.int .i64 0, .int .i64 0]) := by
 have M : Sep (fun _ => False) w0 w0 _ := Sep.nil _ w0
 refine enter (vs := [_]) Try.func46 rfl rfl rfl ?_
 intro a F
 refine wp_seq ?_
 refine wp_region_l [.ind, .ind] ([0, 1]) rfl ?_
 refine s_rn 2 F rfl rfl ?_; clear F a; intro a F
 refine t_endM M ?_; (clear M; try clear w); intro w M
 refine wp_seq ?_
 refine wp_seq ?_
 refine wp_region_l [.ind, .ind] ([0, 1]) rfl ?_
 refine s_I F rfl rfl rfl rfl rfl rfl ?_; clear F a; intro a F
 refine s_pn F rfl rfl rfl rfl pt_50_A7 rfl ?_; clear F a; intro a F
 refine t_endM M ?_; (clear M; try clear w); intro w M
 refine c_t F rfl ?_
 refine wp_seq ?_
 replace F := F.keep [0, 2, 3] rfl
 refine wp_region_l [.ind, .ind] ([0, 1]) rfl ?_
 refine s_rn 2 F rfl rfl ?_; clear F a; intro a F
 refine t_endM M ?_; (clear M; try clear w); intro w M
 refine wp_ret ?_
 refine ret2 F rfl rfl rfl ?_
 exact ⟨_, rfl, rfl, M.chg⟩
set_option maxRecDepth 100000 in
set_option maxHeartbeats 400000 in
theorem c48 (b vb : Nat) (mu : Value) (st : ASt) (w0 : World) (hb : w0.heap[b]? = some (aO st vb mu)) : Cl Try.prog 48 #[.pointer (some ⟨b, 0, none⟩)] w0 (RetQ w0 fun v => v = .tuple #[.string st.dec, .bool st.done]) := by
 have M : Sep (fun _ => False) w0 w0 _ := Sep.nil _ w0
 refine enter (vs := [_]) Try.func48 rfl rfl rfl ?_
 intro a F
 refine wp_seq ?_
 refine wp_region_l [.ind, .ind] ([0, 1]) rfl ?_
 refine s_rn 2 F rfl rfl ?_; clear F a; intro a F
 refine t_endM M ?_; (clear M; try clear w); intro w M
 refine wp_seq ?_
 refine wp_seq ?_
 refine wp_region_l [.ind, .ind] ([0, 1]) rfl ?_
 refine s_I F rfl rfl rfl rfl rfl rfl ?_; clear F a; intro a F
 refine s_pn F rfl rfl rfl rfl pt_50_A7 rfl ?_; clear F a; intro a F
 refine t_endM M ?_; (clear M; try clear w); intro w M
 refine c_f F rfl ?_
 refine wp_skip ?_
 refine wp_seq ?_
 replace F := F.keep [0, 2, 3] rfl
 refine wp_region_t [.ind, .ind, .ind, .rd, .ind, .ind, .ind, .rd, .ind, .ind] [] (otOf [0, 1, 2, 3, 4, 5, 6, 7, 8, 9]) mixed (by kernel_rfl) ?_
 refine s_rn 2 F rfl rfl ?_; clear F a; intro a F
 refine s_fa0 F rfl rfl rfl rfl fa_144_12_A7 rfl ?_; clear F a; intro a F
 refine s_ld F rfl rfl rfl rfl sc_9_A7 rfl (by exact old_cell M id hb (gf rfl (by decide))) ?_; clear F a; intro a F
 refine s_rn 2 F rfl rfl ?_; clear F a; intro a F
 refine s_fa0 F rfl rfl rfl rfl fa_144_11_A7 rfl ?_; clear F a; intro a F
 refine s_ld F rfl rfl rfl rfl sc_4_A7 rfl (by exact old_cell M id hb (gf (aF_332 _ _ _) (by decide))) ?_; clear F a; intro a F
 refine s_rn 2 F rfl rfl ?_; clear F a; intro a F
 refine t_endM M ?_; (clear M; try clear w); intro w M
 refine wp_ret ?_
 refine ret2 F rfl rfl rfl ?_
 exact ⟨_, rfl, rfl, M.chg⟩
end Go.Proofs.Ytboibdmflblphaa
