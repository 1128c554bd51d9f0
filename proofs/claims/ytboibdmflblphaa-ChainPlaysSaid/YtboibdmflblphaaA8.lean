/- A8 of the seat. -/
import Derived.Test.YtboibdmflblphaaA7
namespace Go.Proofs.Ytboibdmflblphaa
open Go Fw
theorem cb_22_A8 : callB Try.prog 22 = true := by kernel_rfl
theorem pt_25_A8 : ptrB Try.prog 25 = true := by kernel_rfl
theorem st_9_A8 : strB Try.prog 9 = true := by kernel_rfl
theorem bl_138_1_A8 : ∀ (x1 : Int), ∀ w : World, (Instr.build 138 #[(1, .int .i64 x1)]).run Try.prog w = .ok (.agg #[.string { data := #[] }, .int .i64 x1]) w := by intros; kernel_rfl
theorem zr_138_A8 : zeroB Try.prog 138 = some (.agg #[.string { data := #[] }, .int .i64 0]) := by kernel_rfl
theorem sz_138_A8 : sizeB Try.prog 138 = some 2 := by kernel_rfl
theorem ag_138_A8 : aggB Try.prog 138 = some 2 := by kernel_rfl
theorem bl_144_0_1_2_3_4_6_7_9_A8 : ∀ (x0 : Int) (x1 : Int) (x2 : Int) (x3 : ByteArray) (x4 : Int) (x6_0 : ByteArray) (x6_1 : Int) (x7_0 : ByteArray) (x7_1 : Int) (x9 : Option Addr), ∀ w : World, (Instr.build 144 #[(0, .int .i64 x0), (1, .int .i64 x1), (2, .int .i64 x2), (3, .string x3), (4, .int .i64 x4), (6, .agg #[.string x6_0, .int .i64 x6_1]), (7, .agg #[.string x7_0, .int .i64 x7_1]), (9, .pointer x9)]).run Try.prog w = .ok (.agg #[.int .i64 x0, .int .i64 x1, .int .i64 x2, .string x3, .int .i64 x4, .int .i64 0, .string x6_0, .int .i64 x6_1, .string x7_0, .int .i64 x7_1, .int .i64 0, .int .i64 0, .int .i64 0, .int .i64 0, .string { data := #[] }, .int .i64 0, .int .i64 0, .int .i64 0, .int .i64 0, .string { data := #[] }, .int .i64 0, .int .i64 0, .int .i64 0, .int .i64 0, .string { data := #[] }, .int .i64 0, .int .i64 0, .int .i64 0, .int .i64 0, .string { data := #[] }, .int .i64 0, .int .i64 0, .int .i64 0, .int .i64 0, .string { data := #[] }, .int .i64 0, .int .i64 0, .int .i64 0, .int .i64 0, .string { data := #[] }, .int .i64 0, .int .i64 0, .int .i64 0, .int .i64 0, .string { data := #[] }, .int .i64 0, .int .i64 0, .int .i64 0, .int .i64 0, .string { data := #[] }, .int .i64 0, .int .i64 0, .int .i64 0, .int .i64 0, .string { data := #[] }, .int .i64 0, .int .i64 0, .int .i64 0, .int .i64 0, .string { data := #[] }, .int .i64 0, .int .i64 0, .int .i64 0, .int .i64 0, .string { data := #[] }, .int .i64 0, .int .i64 0, .int .i64 0, .int .i64 0, .string { data := #[] }, .int .i64 0, .int .i64 0, .int .i64 0, .int .i64 0, .string { data := #[] }, .int .i64 0, .int .i64 0, .int .i64 0, .int .i64 0, .string { data := #[] }, .int .i64 0, .int .i64 0, .int .i64 0, .int .i64 0, .string { data := #[] }, .int .i64 0, .int .i64 0, .int .i64 0, .int .i64 0, .string { data := #[] }, .int .i64 0, .int .i64 0, .int .i64 0, .int .i64 0, .string { data := #[] }, .int .i64 0, .int .i64 0, .int .i64 0, .int .i64 0, .string { data := #[] }, .int .i64 0, .int .i64 0, .int .i64 0, .int .i64 0, .string { data := #[] }, .int .i64 0, .int .i64 0, .int .i64 0, .int .i64 0, .string { data := #[] }, .int .i64 0, .int .i64 0, .int .i64 0, .int .i64 0, .string { data := #[] }, .int .i64 0, .int .i64 0, .int .i64 0, .int .i64 0, .string { data := #[] }, .int .i64 0, .int .i64 0, .int .i64 0, .int .i64 0, .string { data := #[] }, .int .i64 0, .int .i64 0, .int .i64 0, .int .i64 0, .string { data := #[] }, .int .i64 0, .int .i64 0, .int .i64 0, .int .i64 0, .string { data := #[] }, .int .i64 0, .int .i64 0, .int .i64 0, .int .i64 0, .string { data := #[] }, .int .i64 0, .int .i64 0, .int .i64 0, .int .i64 0, .string { data := #[] }, .int .i64 0, .int .i64 0, .int .i64 0, .int .i64 0, .string { data := #[] }, .int .i64 0, .int .i64 0, .int .i64 0, .int .i64 0, .string { data := #[] }, .int .i64 0, .int .i64 0, .int .i64 0, .int .i64 0, .string { data := #[] }, .int .i64 0, .int .i64 0, .int .i64 0, .int .i64 0, .string { data := #[] }, .int .i64 0, .int .i64 0, .int .i64 0, .int .i64 0, .string { data := #[] }, .int .i64 0, .int .i64 0, .int .i64 0, .int .i64 0, .string { data := #[] }, .int .i64 0, .int .i64 0, .int .i64 0, .int .i64 0, .string { data := #[] }, .int .i64 0, .int .i64 0, .int .i64 0, .int .i64 0, .string { data := #[] }, .int .i64 0, .int .i64 0, .int .i64 0, .int .i64 0, .string { data := #[] }, .int .i64 0, .int .i64 0, .int .i64 0, .int .i64 0, .string { data := #[] }, .int .i64 0, .int .i64 0, .int .i64 0, .int .i64 0, .string { data := #[] }, .int .i64 0, .int .i64 0, .int .i64 0, .int .i64 0, .string { data := #[] }, .int .i64 0, .int .i64 0, .int .i64 0, .int .i64 0, .string { data := #[] }, .int .i64 0, .int .i64 0, .int .i64 0, .int .i64 0, .string { data := #[] }, .int .i64 0, .int .i64 0, .int .i64 0, .int .i64 0, .string { data := #[] }, .int .i64 0, .int .i64 0, .int .i64 0, .int .i64 0, .string { data := #[] }, .int .i64 0, .int .i64 0, .int .i64 0, .int .i64 0, .string { data := #[] }, .int .i64 0, .int .i64 0, .int .i64 0, .int .i64 0, .string { data := #[] }, .int .i64 0, .int .i64 0, .int .i64 0, .int .i64 0, .string { data := #[] }, .int .i64 0, .int .i64 0, .int .i64 0, .int .i64 0, .string { data := #[] }, .int .i64 0, .int .i64 0, .int .i64 0, .int .i64 0, .string { data := #[] }, .int .i64 0, .int .i64 0, .int .i64 0, .int .i64 0, .string { data := #[] }, .int .i64 0, .int .i64 0, .int .i64 0, .int .i64 0, .string { data := #[] }, .int .i64 0, .int .i64 0, .int .i64 0, .int .i64 0, .string { data := #[] }, .int .i64 0, .int .i64 0, .int .i64 0, .int .i64 0, .string { data := #[] }, .int .i64 0, .int .i64 0, .int .i64 0, .int .i64 0, .string { data := #[] }, .int .i64 0, .int .i64 0, .int .i64 0, .int .i64 0, .string { data := #[] }, .int .i64 0, .int .i64 0, .int .i64 0, .int .i64 0, .string { data := #[] }, .int .i64 0, .int .i64 0, .int .i64 0, .int .i64 0, .string { data := #[] }, .int .i64 0, .int .i64 0, .int .i64 0, .int .i64 0, .string { data := #[] }, .int .i64 0, .int .i64 0, .int .i64 0, .int .i64 0, .string { data := #[] }, .int .i64 0, .int .i64 0, .int .i64 0, .int .i64 0, .string { data := #[] }, .int .i64 0, .int .i64 0, .int .i64 0, .int .i64 0, .string { data := #[] }, .int .i64 0, .int .i64 0, .int .i64 0, .int .i64 0, .string { data := #[] }, .int .i64 0, .int .i64 0, .int .i64 0, .int .i64 0, .string { data := #[] }, .int .i64 0, .int .i64 0, .int .i64 0, .int .i64 0, .string { data := #[] }, .int .i64 0, .int .i64 0, .int .i64 0, .int .i64 0, .string { data := #[] }, .pointer x9, .bool false, .bool false, .string { data := #[] }, .nilFunc]) w := by intros; kernel_rfl
open VoteM AgrM

theorem okA_spec {n t me h : Int} {s : ByteArray} (hk : okA n t me h s = true) : quorum n t ≠ 0 ∧ 1 ≤ me ∧ me ≤ n ∧ 0 ≤ h ∧ h ≤ 64 ∧ s ≠ VoteM.empty ∧ s.size ≤ 4096 := by
 simpa [okA, and_assoc] using hk
theorem okA_not {n t me h : Int} {s : ByteArray} (hk : okA n t me h s = false) (h1 : quorum n t ≠ 0) (h2 : 1 ≤ me) (h3 : me ≤ n) (h4 : 0 ≤ h) (h5 : h ≤ 64) (h6 : ¬ s = VoteM.empty) (h7 : s.size ≤ 4096) : False := by
 have : okA n t me h s = true := by simp [okA, h1, h2, h3, h4, h5, h6, h7]
 rw [this] at hk
 cases hk

set_option maxRecDepth 100000 in
set_option maxHeartbeats 400000 in
theorem c39a (n t me h : Int) (s : ByteArray) (hq : quorum n t = 0) (w0 : World) : Cl Try.prog 39 #[.int .i64 n, .int .i64 t, .int .i64 me, .int .i64 h, .string s] w0 (RetQ w0 fun v => v = .pointer none) := by
 have M : Sep (fun _ => False) w0 w0 _ := Sep.nil _ w0
 refine enter (vs := [_, _, _, _, _]) Try.func39 rfl rfl rfl ?_
 intro a F
 refine wp_seq ?_
 refine wp_region_l [.ind] ([0]) rfl ?_
 refine s_I F rfl rfl rfl rfl rfl rfl ?_; clear F a; intro a F
 refine t_endM M ?_; (clear M; try clear w); intro w M
 refine wp_seq ?_
 refine wp_region_l [.ind, .ind, .wr, .ind] ([0, 1, 2, 3]) rfl ?_
 refine s_rn 2 F rfl rfl ?_; clear F a; intro a F
 refine s_cq F M rfl rfl rfl rfl rfl (rfl : _ = some [_, _]) cb_22_A8 (fun nd_ => c22n n t hq _) ?_; (clear F a M; try clear w); rintro v w rfl M a F
 refine s_I F rfl rfl rfl rfl rfl rfl ?_; clear F a; intro a F
 refine t_endM M ?_; (clear M; try clear w); intro w M
 refine wp_seq ?_
 refine wp_seq ?_
 replace F := F.keep [0, 1, 2, 3, 4, 10, 11] rfl
 refine wp_region_l [.ind, .ind, .ind, .ind, .ind, .ind, .ind, .ind, .ind, .ind, .ind, .ind, .ind, .ind, .ind, .ind, .ind, .ind, .ind, .ind, .ind, .ind, .ind, .ind, .ind, .ind, .ind, .ind] ([0, 1, 2, 3, 4, 5, 6, 7, 8, 9, 10, 11, 12, 13, 14, 15, 16, 17, 18, 19, 20, 21, 22, 23, 24, 25, 26, 27]) rfl ?_
 refine s_I F rfl rfl rfl rfl rfl rfl ?_; clear F a; intro a F
 refine s_pn F rfl rfl rfl rfl pt_25_A8 rfl ?_; clear F a; intro a F
 refine s_rn 26 F rfl rfl ?_; clear F a; intro a F
 refine t_endM M ?_; (clear M; try clear w); intro w M
 refine c_t F rfl ?_
 refine wp_seq ?_
 replace F := F.keep [0, 1, 2, 3, 4, 10, 11] rfl
 refine wp_region_l [.ind] ([0]) rfl ?_
 refine s_I F rfl rfl rfl rfl rfl rfl ?_; clear F a; intro a F
 refine t_endM M ?_; (clear M; try clear w); intro w M
 refine wp_ret ?_
 refine ret1 F rfl rfl ?_
 exact ⟨_, rfl, rfl, M.chg⟩
set_option maxRecDepth 100000 in
set_option maxHeartbeats 400000 in
theorem c39b (n t me h : Int) (s : ByteArray) (hq : quorum n t ≠ 0) (hk : okA n t me h s = false) (w0 : World) : Cl Try.prog 39 #[.int .i64 n, .int .i64 t, .int .i64 me, .int .i64 h, .string s] w0 (RetQ w0 fun v => v = .pointer none) := by
 have M : Sep (fun _ => False) w0 w0 _ := Sep.nil _ w0
 refine enter (vs := [_, _, _, _, _]) Try.func39 rfl rfl rfl ?_
 intro a F
 refine wp_seq ?_
 refine wp_region_l [.ind] ([0]) rfl ?_
 refine s_I F rfl rfl rfl rfl rfl rfl ?_; clear F a; intro a F
 refine t_endM M ?_; (clear M; try clear w); intro w M
 refine wp_seq ?_
 refine wp_region_l [.ind, .ind, .wr, .ind] ([0, 1, 2, 3]) rfl ?_
 refine s_rn 2 F rfl rfl ?_; clear F a; intro a F
 refine s_call (m := []) F M rfl rfl rfl rfl rfl (rfl : _ = some [_, _]) cb_22_A8 (fun nd_ => c22v hq _) ?_; (clear F a M; try clear w); rintro v vb w rfl M a F; (try simp only [List.cons_append, List.nil_append] at M)
 refine s_I F rfl rfl rfl rfl rfl rfl ?_; clear F a; intro a F
 refine t_endM M ?_; (clear M; try clear w); intro w M
 refine wp_seq ?_
 refine wp_seq ?_
 replace F := F.keep [0, 1, 2, 3, 4, 10, 11] rfl
 refine wp_region_l [.ind, .ind, .ind, .ind, .ind, .ind, .ind, .ind, .ind, .ind, .ind, .ind, .ind, .ind, .ind, .ind, .ind, .ind, .ind, .ind, .ind, .ind, .ind, .ind, .ind, .ind, .ind, .ind] ([0, 1, 2, 3, 4, 5, 6, 7, 8, 9, 10, 11, 12, 13, 14, 15, 16, 17, 18, 19, 20, 21, 22, 23, 24, 25, 26, 27]) rfl ?_
 refine s_I F rfl rfl rfl rfl rfl rfl ?_; clear F a; intro a F
 refine s_pn F rfl rfl rfl rfl pt_25_A8 rfl ?_; clear F a; intro a F
 refine s_rn 5 F rfl rfl ?_; clear F a; intro a F
 refine bsplit F 22 rfl ?_ ?_
 clear F; intro hc0 F
 try rw [hc0] at F
 replace hc0 := of_decide_eq_true hc0
 refine s_rn 21 F rfl rfl ?_; clear F a; intro a F
 refine t_endM M ?_; (clear M; try clear w); intro w M
 refine c_t F rfl ?_
 refine wp_seq ?_
 replace F := F.keep [0, 1, 2, 3, 4, 10, 11] rfl
 refine wp_region_l [.ind] ([0]) rfl ?_
 refine s_I F rfl rfl rfl rfl rfl rfl ?_; clear F a; intro a F
 refine t_endM M ?_; (clear M; try clear w); intro w M
 refine wp_ret ?_
 refine ret1 F rfl rfl ?_
 exact ⟨_, rfl, rfl, M.chg⟩
 clear F; intro hc1 F
 try rw [hc1] at F
 replace hc1 := of_decide_eq_false hc1
 refine s_rn 5 F rfl rfl ?_; clear F a; intro a F
 refine bsplit F 27 rfl ?_ ?_
 clear F; intro hc2 F
 try rw [hc2] at F
 replace hc2 := of_decide_eq_true hc2
 refine s_rn 16 F rfl rfl ?_; clear F a; intro a F
 refine t_endM M ?_; (clear M; try clear w); intro w M
 refine c_t F rfl ?_
 refine wp_seq ?_
 replace F := F.keep [0, 1, 2, 3, 4, 10, 11] rfl
 refine wp_region_l [.ind] ([0]) rfl ?_
 refine s_I F rfl rfl rfl rfl rfl rfl ?_; clear F a; intro a F
 refine t_endM M ?_; (clear M; try clear w); intro w M
 refine wp_ret ?_
 refine ret1 F rfl rfl ?_
 exact ⟨_, rfl, rfl, M.chg⟩
 clear F; intro hc3 F
 try rw [hc3] at F
 replace hc3 := of_decide_eq_false hc3
 refine s_rn 4 F rfl rfl ?_; clear F a; intro a F
 refine bsplit F 31 rfl ?_ ?_
 clear F; intro hc4 F
 try rw [hc4] at F
 replace hc4 := of_decide_eq_true hc4
 refine s_rn 12 F rfl rfl ?_; clear F a; intro a F
 refine t_endM M ?_; (clear M; try clear w); intro w M
 refine c_t F rfl ?_
 refine wp_seq ?_
 replace F := F.keep [0, 1, 2, 3, 4, 10, 11] rfl
 refine wp_region_l [.ind] ([0]) rfl ?_
 refine s_I F rfl rfl rfl rfl rfl rfl ?_; clear F a; intro a F
 refine t_endM M ?_; (clear M; try clear w); intro w M
 refine wp_ret ?_
 refine ret1 F rfl rfl ?_
 exact ⟨_, rfl, rfl, M.chg⟩
 clear F; intro hc5 F
 try rw [hc5] at F
 replace hc5 := of_decide_eq_false hc5
 refine s_rn 4 F rfl rfl ?_; clear F a; intro a F
 refine bsplit F 35 rfl ?_ ?_
 clear F; intro hc6 F
 try rw [hc6] at F
 replace hc6 := of_decide_eq_true hc6
 refine s_rn 8 F rfl rfl ?_; clear F a; intro a F
 refine t_endM M ?_; (clear M; try clear w); intro w M
 refine c_t F rfl ?_
 refine wp_seq ?_
 replace F := F.keep [0, 1, 2, 3, 4, 10, 11] rfl
 refine wp_region_l [.ind] ([0]) rfl ?_
 refine s_I F rfl rfl rfl rfl rfl rfl ?_; clear F a; intro a F
 refine t_endM M ?_; (clear M; try clear w); intro w M
 refine wp_ret ?_
 refine ret1 F rfl rfl ?_
 exact ⟨_, rfl, rfl, M.chg⟩
 clear F; intro hc7 F
 try rw [hc7] at F
 replace hc7 := of_decide_eq_false hc7
 refine s_rn 4 F rfl rfl ?_; clear F a; intro a F
 refine bsplit F 39 rfl ?_ ?_
 clear F; intro hc8 F
 try rw [hc8] at F
 replace hc8 := of_decide_eq_true hc8
 refine s_rn 4 F rfl rfl ?_; clear F a; intro a F
 refine t_endM M ?_; (clear M; try clear w); intro w M
 refine c_t F rfl ?_
 refine wp_seq ?_
 replace F := F.keep [0, 1, 2, 3, 4, 10, 11] rfl
 refine wp_region_l [.ind] ([0]) rfl ?_
 refine s_I F rfl rfl rfl rfl rfl rfl ?_; clear F a; intro a F
 refine t_endM M ?_; (clear M; try clear w); intro w M
 refine wp_ret ?_
 refine ret1 F rfl rfl ?_
 exact ⟨_, rfl, rfl, M.chg⟩
 clear F; intro hc9 F
 try rw [hc9] at F
 replace hc9 := of_decide_eq_false hc9
 refine s_I F rfl rfl rfl rfl rfl rfl ?_; clear F a; intro a F
 refine s_lenS F rfl rfl rfl rfl st_9_A8 rfl ?_; clear F a; intro a F
 refine s_rn 2 F rfl rfl ?_; clear F a; intro a F
 refine t_endM M ?_; (clear M; try clear w); intro w M
 refine c_if F rfl ?_ ?_
 clear F; intro hc10 F
 try rw [hc10] at F
 replace hc10 := of_decide_eq_true hc10
 refine wp_seq ?_
 replace F := F.keep [0, 1, 2, 3, 4, 10, 11] rfl
 refine wp_region_l [.ind] ([0]) rfl ?_
 refine s_I F rfl rfl rfl rfl rfl rfl ?_; clear F a; intro a F
 refine t_endM M ?_; (clear M; try clear w); intro w M
 refine wp_ret ?_
 refine ret1 F rfl rfl ?_
 exact ⟨_, rfl, rfl, M.chg⟩
 clear F; intro hc11 F
 try rw [hc11] at F
 replace hc11 := of_decide_eq_false hc11
 exact (okA_not hk hq (by omega) (by omega) (by omega) (by omega) (by assumption) (by omega)).elim

theorem c39n (n t me h : Int) (s : ByteArray) (hk : okA n t me h s = false) (w0 : World) : Cl Try.prog 39 #[.int .i64 n, .int .i64 t, .int .i64 me, .int .i64 h, .string s] w0 (RetQ w0 fun v => v = .pointer none) := by
 by_cases hq : quorum n t = 0
 · exact c39a n t me h s hq w0
 · exact c39b n t me h s hq hk w0

set_option maxRecDepth 100000 in
set_option maxHeartbeats 400000 in
theorem c39 (n t me h : Int) (s : ByteArray) (hk : okA n t me h s = true) (w0 : World) : Cl Try.prog 39 #[.int .i64 n, .int .i64 t, .int .i64 me, .int .i64 h, .string s] w0 (RetS [] w0 (fun v (x : Nat × Nat) => v = .pointer (some ⟨x.1, 0, none⟩)) fun x => [blk x.1 (aO (newA n t me h s) x.2 .nilFunc), votR x.2 (.slice none 0 0) n t []]) := by
 obtain ⟨hq, hk2, hk3, hk4, hk5, hk6, hk7⟩ := okA_spec hk
 have M : Sep (fun b => b ∈ foots ([] : List Res)) w0 w0 _ := Sep.nil _ w0
 refine enter (vs := [_, _, _, _, _]) Try.func39 rfl rfl rfl ?_
 intro a F
 refine wp_seq ?_
 refine wp_region_l [.ind] ([0]) rfl ?_
 refine s_I F rfl rfl rfl rfl rfl rfl ?_; clear F a; intro a F
 refine t_endM M ?_; (clear M; try clear w); intro w M
 refine wp_seq ?_
 refine wp_region_l [.ind, .ind, .wr, .ind] ([0, 1, 2, 3]) rfl ?_
 refine s_rn 2 F rfl rfl ?_; clear F a; intro a F
 refine s_call (m := []) F M rfl rfl rfl rfl rfl (rfl : _ = some [_, _]) cb_22_A8 (fun nd_ => c22v hq _) ?_; (clear F a M; try clear w); rintro v vb w rfl M a F; (try simp only [List.cons_append, List.nil_append] at M)
 refine s_I F rfl rfl rfl rfl rfl rfl ?_; clear F a; intro a F
 refine t_endM M ?_; (clear M; try clear w); intro w M
 refine wp_seq ?_
 refine wp_seq ?_
 replace F := F.keep [0, 1, 2, 3, 4, 10, 11] rfl
 refine wp_region_l [.ind, .ind, .ind, .ind, .ind, .ind, .ind, .ind, .ind, .ind, .ind, .ind, .ind, .ind, .ind, .ind, .ind, .ind, .ind, .ind, .ind, .ind, .ind, .ind, .ind, .ind, .ind, .ind] ([0, 1, 2, 3, 4, 5, 6, 7, 8, 9, 10, 11, 12, 13, 14, 15, 16, 17, 18, 19, 20, 21, 22, 23, 24, 25, 26, 27]) rfl ?_
 refine s_I F rfl rfl rfl rfl rfl rfl ?_; clear F a; intro a F
 refine s_pn F rfl rfl rfl rfl pt_25_A8 rfl ?_; clear F a; intro a F
 refine s_rn 5 F rfl rfl ?_; clear F a; intro a F
 refine bsplit F 22 rfl ?_ ?_
 clear F; intro hc0 F
 try rw [hc0] at F
 replace hc0 := of_decide_eq_true hc0
 refine s_rn 21 F rfl rfl ?_; clear F a; intro a F
 refine t_endM M ?_; (clear M; try clear w); intro w M
 refine c_t F rfl ?_
 refine wp_seq ?_
 replace F := F.keep [0, 1, 2, 3, 4, 10, 11] rfl
 refine wp_region_l [.ind] ([0]) rfl ?_
 refine s_I F rfl rfl rfl rfl rfl rfl ?_; clear F a; intro a F
 refine t_endM M ?_; (clear M; try clear w); intro w M
 refine wp_ret ?_
 refine ret1 F rfl rfl ?_
 exfalso
 first
   | omega
   | exact hk6 (by assumption)
 clear F; intro hc1 F
 try rw [hc1] at F
 replace hc1 := of_decide_eq_false hc1
 refine s_rn 5 F rfl rfl ?_; clear F a; intro a F
 refine bsplit F 27 rfl ?_ ?_
 clear F; intro hc2 F
 try rw [hc2] at F
 replace hc2 := of_decide_eq_true hc2
 refine s_rn 16 F rfl rfl ?_; clear F a; intro a F
 refine t_endM M ?_; (clear M; try clear w); intro w M
 refine c_t F rfl ?_
 refine wp_seq ?_
 replace F := F.keep [0, 1, 2, 3, 4, 10, 11] rfl
 refine wp_region_l [.ind] ([0]) rfl ?_
 refine s_I F rfl rfl rfl rfl rfl rfl ?_; clear F a; intro a F
 refine t_endM M ?_; (clear M; try clear w); intro w M
 refine wp_ret ?_
 refine ret1 F rfl rfl ?_
 exfalso
 first
   | omega
   | exact hk6 (by assumption)
 clear F; intro hc3 F
 try rw [hc3] at F
 replace hc3 := of_decide_eq_false hc3
 refine s_rn 4 F rfl rfl ?_; clear F a; intro a F
 refine bsplit F 31 rfl ?_ ?_
 clear F; intro hc4 F
 try rw [hc4] at F
 replace hc4 := of_decide_eq_true hc4
 refine s_rn 12 F rfl rfl ?_; clear F a; intro a F
 refine t_endM M ?_; (clear M; try clear w); intro w M
 refine c_t F rfl ?_
 refine wp_seq ?_
 replace F := F.keep [0, 1, 2, 3, 4, 10, 11] rfl
 refine wp_region_l [.ind] ([0]) rfl ?_
 refine s_I F rfl rfl rfl rfl rfl rfl ?_; clear F a; intro a F
 refine t_endM M ?_; (clear M; try clear w); intro w M
 refine wp_ret ?_
 refine ret1 F rfl rfl ?_
 exfalso
 first
   | omega
   | exact hk6 (by assumption)
 clear F; intro hc5 F
 try rw [hc5] at F
 replace hc5 := of_decide_eq_false hc5
 refine s_rn 4 F rfl rfl ?_; clear F a; intro a F
 refine bsplit F 35 rfl ?_ ?_
 clear F; intro hc6 F
 try rw [hc6] at F
 replace hc6 := of_decide_eq_true hc6
 refine s_rn 8 F rfl rfl ?_; clear F a; intro a F
 refine t_endM M ?_; (clear M; try clear w); intro w M
 refine c_t F rfl ?_
 refine wp_seq ?_
 replace F := F.keep [0, 1, 2, 3, 4, 10, 11] rfl
 refine wp_region_l [.ind] ([0]) rfl ?_
 refine s_I F rfl rfl rfl rfl rfl rfl ?_; clear F a; intro a F
 refine t_endM M ?_; (clear M; try clear w); intro w M
 refine wp_ret ?_
 refine ret1 F rfl rfl ?_
 exfalso
 first
   | omega
   | exact hk6 (by assumption)
 clear F; intro hc7 F
 try rw [hc7] at F
 replace hc7 := of_decide_eq_false hc7
 refine s_rn 4 F rfl rfl ?_; clear F a; intro a F
 refine bsplit F 39 rfl ?_ ?_
 clear F; intro hc8 F
 try rw [hc8] at F
 replace hc8 := of_decide_eq_true hc8
 refine s_rn 4 F rfl rfl ?_; clear F a; intro a F
 refine t_endM M ?_; (clear M; try clear w); intro w M
 refine c_t F rfl ?_
 refine wp_seq ?_
 replace F := F.keep [0, 1, 2, 3, 4, 10, 11] rfl
 refine wp_region_l [.ind] ([0]) rfl ?_
 refine s_I F rfl rfl rfl rfl rfl rfl ?_; clear F a; intro a F
 refine t_endM M ?_; (clear M; try clear w); intro w M
 refine wp_ret ?_
 refine ret1 F rfl rfl ?_
 exfalso
 first
   | omega
   | exact hk6 (by assumption)
 clear F; intro hc9 F
 try rw [hc9] at F
 replace hc9 := of_decide_eq_false hc9
 refine s_I F rfl rfl rfl rfl rfl rfl ?_; clear F a; intro a F
 refine s_lenS F rfl rfl rfl rfl st_9_A8 rfl ?_; clear F a; intro a F
 refine s_rn 2 F rfl rfl ?_; clear F a; intro a F
 refine t_endM M ?_; (clear M; try clear w); intro w M
 refine c_if F rfl ?_ ?_
 clear F; intro hc10 F
 try rw [hc10] at F
 replace hc10 := of_decide_eq_true hc10
 refine wp_seq ?_
 replace F := F.keep [0, 1, 2, 3, 4, 10, 11] rfl
 refine wp_region_l [.ind] ([0]) rfl ?_
 refine s_I F rfl rfl rfl rfl rfl rfl ?_; clear F a; intro a F
 refine t_endM M ?_; (clear M; try clear w); intro w M
 refine wp_ret ?_
 refine ret1 F rfl rfl ?_
 exfalso
 first
   | omega
   | exact hk6 (by assumption)
 clear F; intro hc11 F
 try rw [hc11] at F
 replace hc11 := of_decide_eq_false hc11
 refine wp_skip ?_
 refine wp_seq ?_
 replace F := F.keep [0, 1, 2, 3, 4, 10, 11] rfl
 refine wp_region_l [.ind, .wr, .wr] ([0, 1, 2]) rfl ?_
 refine s_bld F rfl rfl rfl rfl (parts1 F rfl) (bl_138_1_A8 _) ?_; clear F a; intro a F
 refine s_alc F M rfl rfl rfl rfl zr_138_A8 rfl ?_; (clear F a M; try clear w); intro b12 w M a F
 refine s_stW F M rfl rfl rfl sz_138_A8 rfl rfl rfl rfl rfl ?_; (clear M; try clear w); intro w M
 refine t_endM M ?_; (clear M; try clear w); intro w M
 refine wp_seq ?_
 replace F := F.keep [0, 1, 2, 3, 4, 10, 11, 12] rfl
 refine wp_region_l [.ind, .ind, .ind, .ind, .rd, .rd, .ind, .ind, .wr, .ind] ([0, 1, 2, 3, 4, 5, 6, 7, 8, 9]) rfl ?_
 refine s_rn 4 F rfl rfl ?_; clear F a; intro a F
 refine s_lda F rfl rfl rfl rfl ag_138_A8 rfl rfl (cells_whole M.h0) ?_; clear F a; intro a F
 refine s_lda F rfl rfl rfl rfl ag_138_A8 rfl rfl (cells_whole M.h0) ?_; clear F a; intro a F
 refine s_I F rfl rfl rfl rfl rfl rfl ?_; clear F a; intro a F
 refine s_bld F rfl rfl rfl rfl (parts8 F rfl rfl rfl rfl rfl rfl rfl rfl) (bl_144_0_1_2_3_4_6_7_9_A8 _ _ _ _ _ _ _ _ _ _) ?_; clear F a; intro a F
 refine s_bxA F M rfl rfl rfl rfl rfl ?_; (clear F a M; try clear w); intro b53 w M a F
 refine s_I F rfl rfl rfl rfl rfl rfl ?_; clear F a; intro a F
 refine t_endM M ?_; (clear M; try clear w); intro w M
 refine wp_ret ?_
 refine ret1 F rfl rfl ?_
 have M1 : Sep _ _ _ (blk b53 _ :: _) := M; replace M := M1; clear M1
 replace M := M.blkEq (o' := aO (newA n t me h s) vb .nilFunc) (by kernel_rfl)
 refine ⟨_, (b53, vb), rfl, rfl, ?_⟩
 dsimp only
 refine M.pick ?_; repeat (first | exact PkG.nil | refine PkG.cons 0 rfl rfl ?_ | refine PkG.cons 2 rfl rfl ?_)
end Go.Proofs.Ytboibdmflblphaa
