/- A5 of the seat. -/
import Derived.Test.YtboibdmflblphaaA4
namespace Go.Proofs.Ytboibdmflblphaa
open Go Fw
theorem sz_32_A5 : sizeB Try.prog 32 = some 5 := by kernel_rfl
theorem fa_32_0_A5 : FA Try.prog 32 0 0 := fun _ _ _ => by kernel_rfl
theorem sc_3_A5 : scalB Try.prog 3 = true := by kernel_rfl
theorem fa_32_2_A5 : FA Try.prog 32 2 2 := fun _ _ _ => by kernel_rfl
theorem fa_144_4_A5 : FA Try.prog 144 4 4 := fun _ _ _ => by kernel_rfl
theorem fa_32_3_A5 : FA Try.prog 32 3 3 := fun _ _ _ => by kernel_rfl
theorem cb_108_A5 : callB Try.prog 108 = true := by kernel_rfl
theorem ag_32_A5 : aggB Try.prog 32 = some 5 := by kernel_rfl
theorem cb_109_A5 : callB Try.prog 109 = true := by kernel_rfl
theorem fa_144_9_A5 : FA Try.prog 144 9 330 := fun _ _ _ => by kernel_rfl
theorem sc_25_A5 : scalB Try.prog 25 = true := by kernel_rfl
theorem cb_25_A5 : callB Try.prog 25 = true := by kernel_rfl
theorem fa_144_8_A5 : FA Try.prog 144 8 10 := fun _ _ _ => by kernel_rfl
theorem ar_139_A5 : arrB Try.prog 139 = some (64, 5) := by kernel_rfl
theorem fa_32_4_A5 : FA Try.prog 32 4 4 := fun _ _ _ => by kernel_rfl
theorem sc_9_A5 : scalB Try.prog 9 = true := by kernel_rfl
theorem fa_32_1_A5 : FA Try.prog 32 1 1 := fun _ _ _ => by kernel_rfl
theorem fa_144_0_A5 : FA Try.prog 144 0 0 := fun _ _ _ => by kernel_rfl
theorem fa_144_2_A5 : FA Try.prog 144 2 2 := fun _ _ _ => by kernel_rfl
theorem cb_35_A5 : callB Try.prog 35 = true := by kernel_rfl
open VoteM AgrM

theorem aF_L (a : ASt) (L : List Wrd) (vb : Nat) (mu : Value) : aF { a with L := L } vb mu = aF a vb mu := by
 have h1 : ∀ j, hF { a with L := L } j = hF a j := fun _ => rfl
 have h2 : ∀ j, tF { a with L := L } vb mu j = tF a vb mu j := fun _ => rfl
 funext j
 unfold aF
 rw [h1, h2]
theorem aO_L (a : ASt) (L : List Wrd) (vb : Nat) (mu : Value) : aO { a with L := L } vb mu = aO a vb mu := by unfold aO; rw [aF_L]
theorem aF_propS {a : ASt} (vb : Nat) (mu : Value) {w : Wrd} (h0 : 0 ≤ w.round) (h1 : w.round < 64) (hne : ∀ w ∈ a.Ps, w.value ≠ VoteM.empty) (he : (propL a.Ps w.round).value = VoteM.empty) :
   setCells (cellsF 335 (aF a vb mu)) (10 + w.round.toNat * 5) (#[.int .i64 w.kind, .int .i64 w.frm, .int .i64 w.round, .int .i64 w.valid, .string w.value] : Array Value).toList = cellsF 335 (aF { a with Ps := a.Ps ++ [w] } vb mu) := aF_prop vb mu h0 h1 hne he
def cntP (a : ASt) (w : Wrd) : ASt × List Wrd := if a.cnt w = true then a.count w else (a, [])
theorem cnt_no {a : ASt} {w : Wrd} (h : a.cnt w = false) : cntP a w = (a, []) := by unfold cntP; rw [if_neg (by rw [h]; simp)]
theorem cnt_yes {a : ASt} {w : Wrd} (h : a.cnt w = true) : cntP a w = a.count w := by unfold cntP; rw [if_pos h]
theorem cnt4 {a : ASt} {w : Wrd} (h : w.kind = 4) : a.cnt w = decide (w.round = a.round ∧ 1 ≤ w.valid ∧ w.valid ≤ 3) := by unfold ASt.cnt; rw [if_pos h]
theorem cnt_bad {a : ASt} {w : Wrd} (h : ¬ w.kind = 4) (hc : checkW w = false) : a.cnt w = false := by unfold ASt.cnt; rw [if_neg h, hc, Bool.false_and]
theorem cnt1 {a : ASt} {w : Wrd} (h : w.kind = 1) (hc : checkW w = true) : a.cnt w = decide ((propL a.Ps w.round).value = VoteM.empty ∧ w.frm = leader a.n a.h w.round) := by unfold ASt.cnt; rw [if_neg (by omega), hc, Bool.true_and, if_pos h]
theorem cntV {a : ASt} {w : Wrd} (h : ¬ w.kind = 4) (h1 : ¬ w.kind = 1) (hc : checkW w = true) : a.cnt w = okV a.n a.L w := by unfold ASt.cnt; rw [if_neg h, hc, Bool.true_and, if_neg h1]
theorem count4 {a : ASt} {w : Wrd} (h : w.kind = 4) : a.count w = a.timeout w.valid := if_pos h
theorem count1 {a : ASt} {w : Wrd} (h : w.kind = 1) : a.count w = ({ a with Ps := a.Ps ++ [w] }, []) := by unfold ASt.count; rw [if_neg (by omega), if_pos h]
theorem countV {a : ASt} {w : Wrd} (h : ¬ w.kind = 4) (h1 : ¬ w.kind = 1) : a.count w = ({ a with L := a.L ++ [w] }, []) := by unfold ASt.count; rw [if_neg h, if_neg h1]
theorem ck0 {w : Wrd} (h : ¬ (if checkW w = true then (0 : Int) else 1) = 0) : checkW w = false := by
 cases hc : checkW w
 · rfl
 · rw [hc] at h; exact absurd rfl h
theorem ck1 {w : Wrd} (h : (if checkW w = true then (0 : Int) else 1) = 0) : checkW w = true := by
 cases hc : checkW w
 · rw [hc] at h; exact absurd h (by decide)
 · rfl
set_option maxRecDepth 100000 in
set_option maxHeartbeats 4000000 in
theorem c82 (b vb ob : Nat) (vv ov : Value) (st : ASt) (o : List Wrd) (hl : o.length ≤ 1000000) (q : Wrd) (W : st.Wf) (h0 : 0 ≤ st.round) (w0 : World) (ho : Own w0.heap [blk b (aO (st) vb (sayV ob)), votR vb vv st.n st.t (st).L, blk ob (.cells #[ov] 22 (0, 0)), wsR ov (o)]) : Cl Try.prog 82 #[.pointer (some ⟨b, 0, none⟩), wrdV q] w0 (RetS [blk b (aO (st) vb (sayV ob)), votR vb vv st.n st.t (st).L, blk ob (.cells #[ov] 22 (0, 0)), wsR ov (o)] w0 (fun v (_ : Value × Value) => v = .bool (st.cnt q)) fun x => [blk b (aO ((cntP st q).1) vb (sayV ob)), votR vb x.1 st.n st.t ((cntP st q).1).L, blk ob (.cells #[x.2] 22 (0, 0)), wsR x.2 (o ++ (cntP st q).2)]) := by
 have hr1 := W.r1
 have M : Sep (fun b_ => b_ ∈ foots [blk b (aO (st) vb (sayV ob)), votR vb vv st.n st.t (st).L, blk ob (.cells #[ov] 22 (0, 0)), wsR ov (o)]) w0 w0 _ := Sep.start ho
 refine enter (vs := [_, _]) Try.func82 rfl rfl rfl ?_
 intro a F
 refine wp_seq ?_
 refine wp_region_l [.wr, .ind] ([0, 1]) rfl ?_
 refine s_bxA F M rfl rfl rfl rfl rfl ?_; (clear F a M; try clear w); intro b3 w M a F
 refine s_I F rfl rfl rfl rfl rfl rfl ?_; clear F a; intro a F
 refine t_endM M ?_; (clear M; try clear w); intro w M
 refine wp_seq ?_
 refine wp_seq ?_
 refine wp_region_l [.ind, .rd, .ind] ([0, 1, 2]) rfl ?_
 refine s_fa0 F rfl rfl rfl rfl fa_32_0_A5 rfl ?_; clear F a; intro a F
 refine s_ld F rfl rfl rfl rfl sc_3_A5 rfl (by exact cell_of_blk M.h0 (lit rfl)) ?_; clear F a; intro a F
 refine s_bin F rfl rfl rfl rfl rfl rfl rfl ?_; clear F a; intro a F
 refine t_endM M ?_; (clear M; try clear w); intro w M
 refine c_if F rfl ?_ ?_
 clear F; intro hc0 F
 try rw [hc0] at F
 replace hc0 := of_decide_eq_true hc0
 refine wp_seq ?_
 refine cutX (X := (Bool)) (m0 := []) F [0, 1, 3, 4] rfl M (fun (u : Bool) => (u = st.cnt q)) (fun (u : Bool) => [(5, .bool u)]) (fun (u : Bool) => []) ?_ ?_
 replace F := F.keep [0, 1, 3, 4] rfl
 refine wp_region_t [.ind, .rd, .ind, .ind, .ind, .rd, .ind, .ind, .ind, .rd, .ind, .ind, .ind, .ind, .rd, .ind, .ind, .ind] [] (otOf [0, 1, 2, 3, 4, 5, 6, 7, 8, 9, 10, 11, 12, 13, 14, 15, 16, 17]) mixed (by kernel_rfl) ?_
 refine s_fa0 F rfl rfl rfl rfl fa_32_2_A5 rfl ?_; clear F a; intro a F
 refine s_ld F rfl rfl rfl rfl sc_3_A5 rfl (by exact cell_of_blk M.h0 (lit rfl)) ?_; clear F a; intro a F
 refine s_rn 2 F rfl rfl ?_; clear F a; intro a F
 refine s_fa0 F rfl rfl rfl rfl fa_144_4_A5 rfl ?_; clear F a; intro a F
 refine s_ld F rfl rfl rfl rfl sc_3_A5 rfl (by exact cell_of_blk M.h1 (gf rfl (by decide))) ?_; clear F a; intro a F
 refine s_rn 2 F rfl rfl ?_; clear F a; intro a F
 refine bsplit F 16 rfl ?_ ?_
 clear F; intro hc1 F
 try rw [hc1] at F
 replace hc1 := of_decide_eq_true hc1
 refine s_fa0 F rfl rfl rfl rfl fa_32_3_A5 rfl ?_; clear F a; intro a F
 refine s_ld F rfl rfl rfl rfl sc_3_A5 rfl (by exact cell_of_blk M.h0 (lit rfl)) ?_; clear F a; intro a F
 refine s_rn 3 F rfl rfl ?_; clear F a; intro a F
 refine bsplit F 21 rfl ?_ ?_
 clear F; intro hc2 F
 try rw [hc2] at F
 replace hc2 := of_decide_eq_true hc2
 refine s_fa0 F rfl rfl rfl rfl fa_32_3_A5 rfl ?_; clear F a; intro a F
 refine s_ld F rfl rfl rfl rfl sc_3_A5 rfl (by exact cell_of_blk M.h0 (lit rfl)) ?_; clear F a; intro a F
 refine s_rn 3 F rfl rfl ?_; clear F a; intro a F
 refine t_endM M ?_; (clear M; try clear w); intro w M
 refine joined (_) (by rw [cnt4 (by assumption)]; clear M F; grind) (F.keep [5, 0, 1, 3, 4] rfl) ?_
 try dsimp only [List.cons_append, List.nil_append]
 refine M.pick ?_; repeat (first | exact PkG.nil | refine PkG.cons 0 rfl rfl ?_ | refine PkG.cons 1 rfl rfl ?_ | refine PkG.cons 2 rfl rfl ?_ | refine PkG.cons 3 rfl rfl ?_ | refine PkG.cons 4 rfl rfl ?_)
 clear F; intro hc3 F
 try rw [hc3] at F
 replace hc3 := of_decide_eq_false hc3
 refine s_rn 5 F rfl rfl ?_; clear F a; intro a F
 refine t_endM M ?_; (clear M; try clear w); intro w M
 refine joined (_) (by rw [cnt4 (by assumption)]; clear M F; grind) (F.keep [5, 0, 1, 3, 4] rfl) ?_
 try dsimp only [List.cons_append, List.nil_append]
 refine M.pick ?_; repeat (first | exact PkG.nil | refine PkG.cons 0 rfl rfl ?_ | refine PkG.cons 1 rfl rfl ?_ | refine PkG.cons 2 rfl rfl ?_ | refine PkG.cons 3 rfl rfl ?_ | refine PkG.cons 4 rfl rfl ?_)
 clear F; intro hc4 F
 try rw [hc4] at F
 replace hc4 := of_decide_eq_false hc4
 refine s_rn 10 F rfl rfl ?_; clear F a; intro a F
 refine t_endM M ?_; (clear M; try clear w); intro w M
 refine joined (_) (by rw [cnt4 (by assumption)]; clear M F; grind) (F.keep [5, 0, 1, 3, 4] rfl) ?_
 try dsimp only [List.cons_append, List.nil_append]
 refine M.pick ?_; repeat (first | exact PkG.nil | refine PkG.cons 0 rfl rfl ?_ | refine PkG.cons 1 rfl rfl ?_ | refine PkG.cons 2 rfl rfl ?_ | refine PkG.cons 3 rfl rfl ?_ | refine PkG.cons 4 rfl rfl ?_)
 clear F M; clear a; (try clear w)
 rintro u a w hu F M; try dsimp only at F M
 try simp only [List.cons_append, List.nil_append] at F M
 try dsimp only at hu
 refine wp_seq ?_
 refine wp_seq ?_
 have hk4 : q.kind = 4 := by assumption
 refine wp_region_l [.ind] ([0]) rfl ?_
 refine s_I F rfl rfl rfl rfl rfl rfl ?_; clear F a; intro a F
 refine t_endM M ?_; (clear M; try clear w); intro w M
 refine c_if F rfl ?_ ?_
 clear F; intro hc5 F
 try rw [hc5] at F
 skip
 replace F := F.keep [0, 1, 3, 4, 5] rfl
 refine wp_region_l [.ind, .ind, .rd, .wr] ([0, 1, 2, 3]) rfl ?_
 refine s_I F rfl rfl rfl rfl rfl rfl ?_; clear F a; intro a F
 refine s_fa0 F rfl rfl rfl rfl fa_32_3_A5 rfl ?_; clear F a; intro a F
 refine s_ld F rfl rfl rfl rfl sc_3_A5 rfl (by exact cell_of_blk M.h0 (lit rfl)) ?_; clear F a; intro a F
 have M1 : Sep _ _ _ (slR _ _ _ _ _ :: _) := M.f4; replace M := M1; clear M1
 have M1 : Sep _ _ _ (blk ob _ :: _) := M.f4; replace M := M1; clear M1
 have M1 : Sep _ _ _ (blk b _ :: _) := M.f3; replace M := M1; clear M1
 refine s_call (m := [_, _, _]) F M rfl rfl rfl rfl rfl (rfl : _ = some [_, _]) cb_108_A5 (fun nd_ => c108 b vb ob _ st _ (by omega) (by omega) q.valid _ (Own.left (m := [_, _, _]) (M.drewN nd_).own)) ?_; (clear F a M; try clear w); rintro v x w rfl M a F; (try simp only [List.cons_append, List.nil_append] at M)
 refine t_endM M ?_; (clear M; try clear w); intro w M
 refine wp_seq ?_
 replace F := F.keep [0, 1, 3, 4, 5] rfl
 refine wp_region_l [.ind, .ind] ([0, 1]) rfl ?_
 refine s_rn 2 F rfl rfl ?_; clear F a; intro a F
 refine t_endM M ?_; (clear M; try clear w); intro w M
 refine wp_ret ?_
 refine ret1 F rfl rfl ?_
 · first
     | (have hcn2 : st.cnt q = true := hu.symm.trans (by assumption); rw [hcn2, cnt_yes hcn2, count4 hk4, (timeout_same st q.valid).L]; refine ⟨_, (vv, x), rfl, rfl, ?_⟩; (try dsimp only); (refine M.pick ?_; repeat (first | exact PkG.nil | refine PkG.cons 0 rfl rfl ?_ | refine PkG.cons 1 rfl rfl ?_ | refine PkG.cons 2 rfl rfl ?_ | refine PkG.cons 4 rfl rfl ?_)); done)
     | (have hcn2 : st.cnt q = false := hu.symm.trans (by assumption); rw [hcn2, cnt_no hcn2]; refine ⟨_, (vv, ov), rfl, rfl, ?_⟩; (try dsimp only); rw [List.append_nil]; (refine M.pick ?_; repeat (first | exact PkG.nil | refine PkG.cons 0 rfl rfl ?_ | refine PkG.cons 1 rfl rfl ?_ | refine PkG.cons 2 rfl rfl ?_ | refine PkG.cons 3 rfl rfl ?_ | refine PkG.cons 4 rfl rfl ?_ | refine PkG.cons 5 rfl rfl ?_ | refine PkG.cons 6 rfl rfl ?_ | refine PkG.cons 7 rfl rfl ?_ | refine PkG.cons 8 rfl rfl ?_ | refine PkG.cons 9 rfl rfl ?_ | refine PkG.cons 10 rfl rfl ?_ | refine PkG.cons 11 rfl rfl ?_ | refine PkG.cons 12 rfl rfl ?_ | refine PkG.cons 13 rfl rfl ?_)); done)
 clear F; intro hc6 F
 try rw [hc6] at F
 skip
 refine wp_skip ?_
 refine wp_seq ?_
 replace F := F.keep [0, 1, 3, 4, 5] rfl
 refine wp_region_l [.ind, .ind] ([0, 1]) rfl ?_
 refine s_rn 2 F rfl rfl ?_; clear F a; intro a F
 refine t_endM M ?_; (clear M; try clear w); intro w M
 refine wp_ret ?_
 refine ret1 F rfl rfl ?_
 · first
     | (have hcn2 : st.cnt q = true := hu.symm.trans (by assumption); rw [hcn2, cnt_yes hcn2, count4 hk4, (timeout_same st q.valid).L]; refine ⟨_, (vv, x), rfl, rfl, ?_⟩; (try dsimp only); (refine M.pick ?_; repeat (first | exact PkG.nil | refine PkG.cons 0 rfl rfl ?_ | refine PkG.cons 1 rfl rfl ?_ | refine PkG.cons 2 rfl rfl ?_ | refine PkG.cons 3 rfl rfl ?_ | refine PkG.cons 4 rfl rfl ?_ | refine PkG.cons 5 rfl rfl ?_ | refine PkG.cons 6 rfl rfl ?_ | refine PkG.cons 7 rfl rfl ?_ | refine PkG.cons 8 rfl rfl ?_ | refine PkG.cons 9 rfl rfl ?_ | refine PkG.cons 10 rfl rfl ?_ | refine PkG.cons 11 rfl rfl ?_ | refine PkG.cons 12 rfl rfl ?_ | refine PkG.cons 13 rfl rfl ?_)); done)
     | (have hcn2 : st.cnt q = false := hu.symm.trans (by assumption); rw [hcn2, cnt_no hcn2]; refine ⟨_, (vv, ov), rfl, rfl, ?_⟩; (try dsimp only); rw [List.append_nil]; (refine M.pick ?_; repeat (first | exact PkG.nil | refine PkG.cons 1 rfl rfl ?_ | refine PkG.cons 2 rfl rfl ?_ | refine PkG.cons 3 rfl rfl ?_ | refine PkG.cons 4 rfl rfl ?_)); done)
 clear F; intro hc7 F
 try rw [hc7] at F
 replace hc7 := of_decide_eq_false hc7
 refine wp_skip ?_
 refine wp_seq ?_
 refine wp_seq ?_
 replace F := F.keep [0, 1, 3, 4] rfl
 refine wp_region_l [.rd, .wr, .ind] ([0, 1, 2]) rfl ?_
 refine s_lda F rfl rfl rfl rfl ag_32_A5 rfl rfl (cells_whole M.h0) ?_; clear F a; intro a F
 refine s_cq F M rfl rfl rfl rfl rfl (rfl : _ = some [_]) cb_109_A5 (fun nd_ => c109 q _) ?_; (clear F a M; try clear w); rintro v w rfl M a F
 refine s_bin F rfl rfl rfl rfl rfl rfl rfl ?_; clear F a; intro a F
 refine t_endM M ?_; (clear M; try clear w); intro w M
 refine c_if F rfl ?_ ?_
 clear F; intro hc8 F
 try rw [hc8] at F
 replace hc8 := nd1 hc8
 have hck := ck0 hc8
 refine wp_seq ?_
 replace F := F.keep [0, 1, 3, 4] rfl
 refine wp_region_l [.ind] ([0]) rfl ?_
 refine s_I F rfl rfl rfl rfl rfl rfl ?_; clear F a; intro a F
 refine t_endM M ?_; (clear M; try clear w); intro w M
 refine wp_ret ?_
 refine ret1 F rfl rfl ?_
 have hcn : st.cnt q = false := cnt_bad (by assumption) hck
 rw [hcn, cnt_no hcn]
 refine ⟨_, (vv, ov), rfl, rfl, ?_⟩
 try dsimp only
 try rw [List.append_nil]
 refine M.pick ?_; repeat (first | exact PkG.nil | refine PkG.cons 1 rfl rfl ?_ | refine PkG.cons 2 rfl rfl ?_ | refine PkG.cons 3 rfl rfl ?_ | refine PkG.cons 4 rfl rfl ?_)
 clear F; intro hc9 F
 try rw [hc9] at F
 replace hc9 := nd0 hc9
 have hck := ck1 hc9
 obtain ⟨k1, k2, k3, k4, k5, k6⟩ := check_spec hck
 refine wp_skip ?_
 refine wp_seq ?_
 refine wp_seq ?_
 replace F := F.keep [0, 1, 3, 4] rfl
 refine wp_region_l [.ind, .rd, .ind] ([0, 1, 2]) rfl ?_
 refine s_fa0 F rfl rfl rfl rfl fa_32_0_A5 rfl ?_; clear F a; intro a F
 refine s_ld F rfl rfl rfl rfl sc_3_A5 rfl (by exact cell_of_blk M.h0 (lit rfl)) ?_; clear F a; intro a F
 refine s_bin F rfl rfl rfl rfl rfl rfl rfl ?_; clear F a; intro a F
 refine t_endM M ?_; (clear M; try clear w); intro w M
 refine c_if F rfl ?_ ?_
 clear F; intro hc10 F
 try rw [hc10] at F
 replace hc10 := nd1 hc10
 refine wp_seq ?_
 replace F := F.keep [0, 1, 3, 4] rfl
 refine wp_region_t [.ind, .ind, .ind, .rd, .rd, .wr, .ind] [] (otOf [0, 1, 2, 3, 4, 5, 6]) mixed (by kernel_rfl) ?_
 refine s_rn 2 F rfl rfl ?_; clear F a; intro a F
 refine s_fa0 F rfl rfl rfl rfl fa_144_9_A5 rfl ?_; clear F a; intro a F
 refine s_ld F rfl rfl rfl rfl sc_25_A5 rfl (by exact cell_of_blk M.h1 (gf rfl (by decide))) ?_; clear F a; intro a F
 refine s_lda F rfl rfl rfl rfl ag_32_A5 rfl rfl (cells_whole M.h0) ?_; clear F a; intro a F
 have M1 : Sep _ _ _ (votR _ _ _ _ _ :: _) := M.f2; replace M := M1; clear M1
 refine s_call (m := [_]) F M rfl rfl rfl rfl rfl (rfl : _ = some [_, _]) cb_25_A5 (fun nd_ => c25v (b := vb) (n := st.n) (t := st.t) (L := st.L) q _ (M.drewN nd_).own.one) ?_; (clear F a M; try clear w); rintro v x w rfl M a F; (try simp only [List.cons_append, List.nil_append] at M)
 refine s_I F rfl rfl rfl rfl rfl rfl ?_; clear F a; intro a F
 refine t_endM M ?_; (clear M; try clear w); intro w M
 refine wp_ret ?_
 refine ret1 F rfl rfl ?_
 have hcn := cntV (a := st) (w := q) (by assumption) (by assumption) hck
 rw [hcn]
 refine ⟨_, (x, ov), rfl, rfl, ?_⟩
 cases hok : okV st.n st.L q
 · rw [put_no hok] at M
   rw [cnt_no (hcn.trans hok)]
   dsimp only
   rw [List.append_nil]
   refine M.pick ?_; repeat (first | exact PkG.nil | refine PkG.cons 0 rfl rfl ?_ | refine PkG.cons 2 rfl rfl ?_ | refine PkG.cons 3 rfl rfl ?_ | refine PkG.cons 4 rfl rfl ?_)
 · rw [put_yes hok] at M
   rw [cnt_yes (hcn.trans hok), countV (by assumption) (by assumption)]
   dsimp only
   rw [List.append_nil, aO_L]
   refine M.pick ?_; repeat (first | exact PkG.nil | refine PkG.cons 0 rfl rfl ?_ | refine PkG.cons 2 rfl rfl ?_ | refine PkG.cons 3 rfl rfl ?_ | refine PkG.cons 4 rfl rfl ?_)
 clear F; intro hc11 F
 try rw [hc11] at F
 replace hc11 := nd0 hc11
 refine wp_skip ?_
 refine wp_seq ?_
 refine wp_seq ?_
 replace F := F.keep [0, 1, 3, 4] rfl
 refine wp_region_t [.ind, .ind, .rd, .ind, .ind, .ind, .ind, .rd, .ind, .ind, .ind, .rd, .ind, .ind, .ind, .rd, .ind, .ind, .ind, .rd, .ind, .rd, .wr, .ind, .ind] [(11, 22)] (otOf [0, 1, 2, 3, 4, 5, 6, 7, 8, 9, 10, 11, 12, 13, 14, 15, 16, 17, 18, 19, 20, 21, 22, 23, 24]) mixed (by kernel_rfl) ?_
 refine s_I F rfl rfl rfl rfl rfl rfl ?_; clear F a; intro a F
 refine s_fa0 F rfl rfl rfl rfl fa_32_2_A5 rfl ?_; clear F a; intro a F
 refine s_ldL F rfl rfl rfl rfl sc_3_A5 rfl (by exact cell_of_blk M.h0 (lit rfl)) ?_; clear F a; intro a F
 refine s_I F rfl rfl rfl rfl rfl rfl ?_; clear F a; intro a F
 refine s_fa0 F rfl rfl rfl rfl fa_144_8_A5 rfl ?_; clear F a; intro a F
 refine s_ia F rfl rfl rfl rfl ar_139_A5 rfl rfl (by omega) (by omega) ?_; clear F a; intro a F
 refine s_fa F rfl rfl rfl rfl fa_32_4_A5 rfl ?_; clear F a; intro a F
 refine s_ldL F rfl rfl rfl rfl sc_9_A5 rfl (by exact cell_of_blk M.h1 (gf (aF_val2 (by omega) (by omega)) (by omega))) ?_; clear F a; intro a F
 refine s_rn 2 F rfl rfl ?_; clear F a; intro a F
 refine bsplit F 53 rfl ?_ ?_
 clear F; intro hc12 F
 try rw [hc12] at F
 replace hc12 := nd1 hc12
 refine s_rn 15 F rfl rfl ?_; clear F a; intro a F
 refine t_endM M ?_; (clear M; try clear w); intro w M
 refine c_t F rfl ?_
 refine wp_seq ?_
 replace F := F.keep [0, 1, 3, 4] rfl
 refine wp_region_l [.ind] ([0]) rfl ?_
 refine s_I F rfl rfl rfl rfl rfl rfl ?_; clear F a; intro a F
 refine t_endM M ?_; (clear M; try clear w); intro w M
 refine wp_ret ?_
 refine ret1 F rfl rfl ?_
 have hcn : st.cnt q = false := (by rw [cnt1 (by omega) hck]; refine decide_eq_false (fun h => ?_); exact absurd h.1 (by assumption))
 rw [hcn, cnt_no hcn]
 refine ⟨_, (vv, ov), rfl, rfl, ?_⟩
 try dsimp only
 try rw [List.append_nil]
 refine M.pick ?_; repeat (first | exact PkG.nil | refine PkG.cons 1 rfl rfl ?_ | refine PkG.cons 2 rfl rfl ?_ | refine PkG.cons 3 rfl rfl ?_ | refine PkG.cons 4 rfl rfl ?_)
 clear F; intro hc13 F
 try rw [hc13] at F
 replace hc13 := nd0 hc13
 refine s_fa0 F rfl rfl rfl rfl fa_32_1_A5 rfl ?_; clear F a; intro a F
 refine s_ldL F rfl rfl rfl rfl sc_3_A5 rfl (by exact cell_of_blk M.h0 (lit rfl)) ?_; clear F a; intro a F
 refine s_rn 2 F rfl rfl ?_; clear F a; intro a F
 refine s_fa0 F rfl rfl rfl rfl fa_144_0_A5 rfl ?_; clear F a; intro a F
 refine s_ldL F rfl rfl rfl rfl sc_3_A5 rfl (by exact cell_of_blk M.h1 (gf rfl (by decide))) ?_; clear F a; intro a F
 refine s_rn 2 F rfl rfl ?_; clear F a; intro a F
 refine s_fa0 F rfl rfl rfl rfl fa_144_2_A5 rfl ?_; clear F a; intro a F
 refine s_ldL F rfl rfl rfl rfl sc_3_A5 rfl (by exact cell_of_blk M.h1 (gf rfl (by decide))) ?_; clear F a; intro a F
 refine s_fa0 F rfl rfl rfl rfl fa_32_2_A5 rfl ?_; clear F a; intro a F
 refine s_ldL F rfl rfl rfl rfl sc_3_A5 rfl (by exact cell_of_blk M.h0 (lit rfl)) ?_; clear F a; intro a F
 refine s_cqL F M rfl rfl rfl rfl rfl (rfl : _ = some [_, _, _]) cb_35_A5 (fun nd_ => c35 _ _ _ _) (fun _ w _ M => (by (refine pend_skip rfl ?_); (refine pend_skip rfl ?_); (refine pend_skip rfl ?_); (refine pend_take (by exact cell_of_blk M.h0 (lit rfl)) ?_); (refine pend_skip rfl ?_); (refine pend_skip rfl ?_); exact pend_none)) ?_; (clear F a M; try clear w); rintro v w rfl M a F
 refine s_rn 2 F rfl rfl ?_; clear F a; intro a F
 refine t_endM M ?_; (clear M; try clear w); intro w M
 refine c_if F rfl ?_ ?_
 clear F; intro hc14 F
 try rw [hc14] at F
 replace hc14 := nd1 hc14
 refine wp_seq ?_
 replace F := F.keep [0, 1, 3, 4] rfl
 refine wp_region_l [.ind] ([0]) rfl ?_
 refine s_I F rfl rfl rfl rfl rfl rfl ?_; clear F a; intro a F
 refine t_endM M ?_; (clear M; try clear w); intro w M
 refine wp_ret ?_
 refine ret1 F rfl rfl ?_
 have hcn : st.cnt q = false := (by rw [cnt1 (by omega) hck]; refine decide_eq_false (fun h => ?_); exact absurd h.2 (by assumption))
 rw [hcn, cnt_no hcn]
 refine ⟨_, (vv, ov), rfl, rfl, ?_⟩
 try dsimp only
 try rw [List.append_nil]
 refine M.pick ?_; repeat (first | exact PkG.nil | refine PkG.cons 1 rfl rfl ?_ | refine PkG.cons 2 rfl rfl ?_ | refine PkG.cons 3 rfl rfl ?_ | refine PkG.cons 4 rfl rfl ?_)
 clear F; intro hc15 F
 try rw [hc15] at F
 replace hc15 := nd0 hc15
 refine wp_skip ?_
 refine wp_seq ?_
 replace F := F.keep [0, 1, 3, 4] rfl
 refine wp_region_t [.ind, .ind, .rd, .rd, .ind, .ind, .ind, .wr] [] (otOf [0, 1, 2, 3, 4, 5, 6, 7]) mixed (by kernel_rfl) ?_
 refine s_I F rfl rfl rfl rfl rfl rfl ?_; clear F a; intro a F
 refine s_fa0 F rfl rfl rfl rfl fa_32_2_A5 rfl ?_; clear F a; intro a F
 refine s_ld F rfl rfl rfl rfl sc_3_A5 rfl (by exact cell_of_blk M.h0 (lit rfl)) ?_; clear F a; intro a F
 refine s_lda F rfl rfl rfl rfl ag_32_A5 rfl rfl (cells_whole M.h0) ?_; clear F a; intro a F
 refine s_I F rfl rfl rfl rfl rfl rfl ?_; clear F a; intro a F
 refine s_fa0 F rfl rfl rfl rfl fa_144_8_A5 rfl ?_; clear F a; intro a F
 refine s_ia F rfl rfl rfl rfl ar_139_A5 rfl rfl (by omega) (by omega) ?_; clear F a; intro a F
 refine s_sta F M.f1 rfl rfl rfl sz_32_A5 rfl rfl rfl rfl (by rw [cellsF_size]; omega) ?_; (clear M; try clear w); intro w M
 refine t_endM M ?_; (clear M; try clear w); intro w M
 refine wp_seq ?_
 have hk1 : q.kind = 1 := by omega
 have hpe : (propL st.Ps q.round).value = VoteM.empty := by assumption
 rw [aF_propS vb (sayV ob) k4 k5 (prop_ne W) hpe] at M
 replace F := F.keep [0, 1, 3, 4] rfl
 refine wp_region_l [.ind] ([0]) rfl ?_
 refine s_I F rfl rfl rfl rfl rfl rfl ?_; clear F a; intro a F
 refine t_endM M ?_; (clear M; try clear w); intro w M
 refine wp_ret ?_
 refine ret1 F rfl rfl ?_
 have hcn : st.cnt q = true := by rw [cnt1 hk1 hck]; exact decide_eq_true ⟨hpe, by assumption⟩
 rw [hcn, cnt_yes hcn, count1 hk1]
 refine ⟨_, (vv, ov), rfl, rfl, ?_⟩
 try dsimp only
 try rw [List.append_nil]
 refine M.pick ?_; repeat (first | exact PkG.nil | refine PkG.cons 0 rfl rfl ?_ | refine PkG.cons 2 rfl rfl ?_ | refine PkG.cons 3 rfl rfl ?_ | refine PkG.cons 4 rfl rfl ?_)
end Go.Proofs.Ytboibdmflblphaa
