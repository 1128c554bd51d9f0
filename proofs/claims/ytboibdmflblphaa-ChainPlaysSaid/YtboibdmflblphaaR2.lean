/- R2 of the seat. -/
import Derived.Test.YtboibdmflblphaaR1
namespace Go.Proofs.Ytboibdmflblphaa
open Go Fw
theorem zr_53_R2 : zeroB Try.prog 53 = some (.agg #[.int .i64 0, .int .i64 0, .string { data := #[] }, .int .i64 0, .int .i64 0, .string { data := #[] }, .int .i64 0, .string { data := #[] }, .int .i64 0, .slice none 0 0, .int .i64 0, .int .i64 0, .slice none 0 0, .bool false, .bool false, .string { data := #[] }]) := by kernel_rfl
theorem ag_53_R2 : aggB Try.prog 53 = some 16 := by kernel_rfl
theorem cb_116_R2 : callB Try.prog 116 = true := by kernel_rfl
theorem sz_53_R2 : sizeB Try.prog 53 = some 16 := by kernel_rfl
theorem fa_53_10_R2 : FA Try.prog 53 10 10 := fun _ _ _ => by kernel_rfl
theorem ag_28_R2 : aggB Try.prog 28 = some 3 := by kernel_rfl
theorem fa_53_3_R2 : FA Try.prog 53 3 3 := fun _ _ _ => by kernel_rfl
theorem sc_3_R2 : scalB Try.prog 3 = true := by kernel_rfl
theorem cb_33_R2 : callB Try.prog 33 = true := by kernel_rfl
theorem cb_84_R2 : callB Try.prog 84 = true := by kernel_rfl
theorem cb_88_R2 : callB Try.prog 88 = true := by kernel_rfl
theorem zr_32_R2 : zeroB Try.prog 32 = some (.agg #[.int .i64 0, .int .i64 0, .int .i64 0, .int .i64 0, .string { data := #[] }]) := by kernel_rfl
theorem sz_32_R2 : sizeB Try.prog 32 = some 5 := by kernel_rfl
theorem fa_53_4_R2 : FA Try.prog 53 4 4 := fun _ _ _ => by kernel_rfl
theorem fa_32_3_R2 : FA Try.prog 32 3 3 := fun _ _ _ => by kernel_rfl
theorem fa_53_6_R2 : FA Try.prog 53 6 6 := fun _ _ _ => by kernel_rfl
theorem fa_32_4_R2 : FA Try.prog 32 4 4 := fun _ _ _ => by kernel_rfl
theorem sc_9_R2 : scalB Try.prog 9 = true := by kernel_rfl
theorem cb_115_R2 : callB Try.prog 115 = true := by kernel_rfl
theorem fa_53_5_R2 : FA Try.prog 53 5 5 := fun _ _ _ => by kernel_rfl
theorem cb_117_R2 : callB Try.prog 117 = true := by kernel_rfl
theorem fa_53_11_R2 : FA Try.prog 53 11 13 := fun _ _ _ => by kernel_rfl
theorem sc_4_R2 : scalB Try.prog 4 = true := by kernel_rfl
theorem sz_4_R2 : sizeB Try.prog 4 = some 1 := by kernel_rfl
theorem fa_53_7_R2 : FA Try.prog 53 7 7 := fun _ _ _ => by kernel_rfl
theorem sz_9_R2 : sizeB Try.prog 9 = some 1 := by kernel_rfl
theorem fa_53_8_R2 : FA Try.prog 53 8 8 := fun _ _ _ => by kernel_rfl
theorem sz_3_R2 : sizeB Try.prog 3 = some 1 := by kernel_rfl
open VoteM AgrM

def ruleS (st : ASt) : ASt := (st.rule.map (·.1)).getD st
def ruleO (st : ASt) : List Wrd := (st.rule.map (·.2)).getD []
theorem r_some {st b : ASt} {o : List Wrd} (h : st.rule = some (b, o)) : ruleS st = b ∧ ruleO st = o ∧ st.rule.isSome = true := by
 unfold ruleS ruleO
 rw [h]
 exact ⟨rfl, rfl, rfl⟩
theorem r_none {st : ASt} (h : st.rule = none) : ruleS st = st ∧ ruleO st = [] ∧ st.rule.isSome = false := by
 unfold ruleS ruleO
 rw [h]
 exact ⟨rfl, rfl, rfl⟩
section
variable {st : ASt}
theorem r_dec {v : ByteArray} (h : st.decide1 = some v) : st.rule = some ({ st with done := true, dec := v }, []) := by unfold ASt.rule; rw [h]
theorem r_ahead (h : st.decide1 = none) (h1 : st.round < aheadV st.n st.t st.L st.round) : st.rule = some (st.begin (aheadV st.n st.t st.L st.round), st.beginO (aheadV st.n st.t st.L st.round)) := by unfold ASt.rule; rw [h]; exact if_pos h1
theorem r_pv (h : st.decide1 = none) (h1 : ¬ st.round < aheadV st.n st.t st.L st.round) (h2 : st.pv = true) : st.rule = some (st.vote 2, st.voteO 2 (if st.free = true then st.now.value else VoteM.empty)) := by
 unfold ASt.rule; rw [h]; show (if _ then _ else _) = _; rw [if_neg h1, if_pos h2]
theorem r_pc (h : st.decide1 = none) (h1 : ¬ st.round < aheadV st.n st.t st.L st.round) (h2 : st.pv = false) (h3 : st.pc = true) : st.rule = some (st.lock5, if st.step = 2 then st.voteO 3 st.now.value else []) := by
 unfold ASt.rule; rw [h]; show (if _ then _ else _) = _; rw [if_neg h1, if_neg (by rw [h2]; decide), if_pos h3]
theorem r_nil (h : st.decide1 = none) (h1 : ¬ st.round < aheadV st.n st.t st.L st.round) (h2 : st.pv = false) (h3 : st.pc = false) (h4 : st.nil = true) : st.rule = some (st.vote 3, st.voteO 3 VoteM.empty) := by
 unfold ASt.rule; rw [h]; show (if _ then _ else _) = _; rw [if_neg h1, if_neg (by rw [h2]; decide), if_neg (by rw [h3]; decide), if_pos h4]
theorem r_not (h : st.decide1 = none) (h1 : ¬ st.round < aheadV st.n st.t st.L st.round) (h2 : st.pv = false) (h3 : st.pc = false) (h4 : st.nil = false) : st.rule = none := by
 unfold ASt.rule; rw [h]; show (if _ then _ else _) = _; rw [if_neg h1, if_neg (by rw [h2]; decide), if_neg (by rw [h3]; decide), if_neg (by rw [h4]; decide)]
theorem lock5_2 (h : st.step = 2) : st.lock5 = { st with seen := true, val := st.now.value, valR := st.round, lock := st.now.value, lockR := st.round, step := 3 } := if_pos h
theorem lock5_n (h : ¬ st.step = 2) : st.lock5 = { st with seen := true, val := st.now.value, valR := st.round } := if_neg h
end

set_option maxRecDepth 100000 in
set_option maxHeartbeats 4000000 in
theorem c89 (st : ASt) (W : st.Wf) (hpl : st.Ps.length ≤ 100000) (pv lv : Value) (w0 : World) (hrp : RdSl w0.heap pv st.Ps.length 5 (st.Ps.flatMap encW)) (hrl : RdSl w0.heap lv st.L.length 5 (st.L.flatMap encW)) : Cl Try.prog 89 #[aV st pv lv] w0 (RetS [] w0 (fun o (x : Value) => o = .tuple #[aV (ruleS st) pv lv, x, .bool st.rule.isSome]) fun x => [wsR x (ruleO st)]) := by
 obtain ⟨PA, PC, rfl, hpc_⟩ := hrp.form
 obtain ⟨LA, LC, rfl, hlc_⟩ := hrl.form
 have hn7 : st.n ≤ 7 := W.v.n7
 have hr0 := W.r0
 have hr1 := W.r1
 have M : Sep (fun b => b ∈ foots ([] : List Res)) w0 w0 _ := Sep.nil _ w0
 have hrop := (ro_of hrp).nil
 have hrol := (ro_of hrl).nil
 refine enter (vs := [_]) Try.func89 rfl rfl rfl ?_
 intro a F
 refine wp_seq ?_
 refine wp_region_l [.wr, .wr, .ind, .ind] ([0, 1, 2, 3]) rfl ?_
 refine s_bxA F M rfl rfl rfl rfl rfl ?_; (clear F a M; try clear w); intro b1 w M a F
 refine s_alc F M rfl rfl rfl rfl zr_53_R2 rfl ?_; (clear F a M; try clear w); intro b2 w M a F
 refine s_rn 2 F rfl rfl ?_; clear F a; intro a F
 refine t_endM M ?_; (clear M; try clear w); intro w M
 refine wp_seq ?_
 refine wp_seq ?_
 refine wp_region_l [.rd, .wr, .ind, .ind, .ind, .wr, .wr, .ind] ([0, 1, 2, 3, 4, 5, 6, 7]) rfl ?_
 refine s_lda F rfl rfl rfl rfl ag_53_R2 rfl rfl (cells_whole M.h1) ?_; clear F a; intro a F
 refine s_cq F M rfl rfl rfl rfl rfl (rfl : _ = some [_]) cb_116_R2 (fun nd_ => c116 st W hpl _ _ _ (M.chg.ro hrop) (M.chg.ro hrol)) ?_; (clear F a M; try clear w); rintro v w rfl M a F
 refine s_rn 3 F rfl rfl ?_; clear F a; intro a F
 refine s_alc F M rfl rfl rfl rfl zr_53_R2 rfl ?_; (clear F a M; try clear w); intro b5 w M a F
 refine s_stW F M rfl rfl rfl sz_53_R2 rfl rfl rfl rfl rfl ?_; (clear M; try clear w); intro w M
 refine s_I F rfl rfl rfl rfl rfl rfl ?_; clear F a; intro a F
 refine t_endM M ?_; (clear M; try clear w); intro w M
 refine wp_seq ?_
 replace F := F.keep [0, 1, 2, 3, 4, 5, 6] rfl
 refine wp_region_l [.ind] ([0]) rfl ?_
 refine s_I F rfl rfl rfl rfl rfl rfl ?_; clear F a; intro a F
 refine t_endM M ?_; (clear M; try clear w); intro w M
 refine c_if F rfl ?_ ?_
 clear F; intro hc0 F
 try rw [hc0] at F
 skip
 obtain ⟨dv, hdv⟩ := Option.isSome_iff_exists.1 (show st.decide1.isSome = true by assumption)
 refine wp_seq ?_
 replace F := F.keep [0, 1, 2, 3, 4, 5, 6] rfl
 refine wp_region_l [.rd, .wr, .ind, .ind] ([0, 1, 2, 3]) rfl ?_
 refine s_lda F rfl rfl rfl rfl ag_53_R2 rfl rfl (cells_whole M.h0) ?_; clear F a; intro a F
 refine s_stW F M.f1 rfl rfl rfl sz_53_R2 rfl rfl rfl rfl rfl ?_; (clear M; try clear w); intro w M
 refine s_rn 2 F rfl rfl ?_; clear F a; intro a F
 refine t_endM M ?_; (clear M; try clear w); intro w M
 refine wp_ret ?_
 refine rt3 F rfl (by exact rv_a F rfl ag_53_R2 rfl (cells_whole M.h0)) (rv_t F rfl) (rv_t F rfl) ?_
 replace M := M.nilT encW 32 5
 rw [decS_some hdv] at *
 obtain ⟨e1_, e2_, e3_⟩ := r_some (r_dec hdv)
 rw [e1_, e2_, e3_]
 refine ⟨_, .slice none 0 0, rfl, rfl, ?_⟩
 have M1 : Sep _ _ _ (slR _ _ _ _ _ :: _) := M; replace M := M1; clear M1
 exact Sep.left (m := [_]) M
 clear F; intro hc1 F
 try rw [hc1] at F
 skip
 have hdn : st.decide1 = none := by
   cases h9 : st.decide1 with
   | none => rfl
   | some z => rw [h9] at hc1; cases hc1
 refine wp_skip ?_
 refine wp_seq ?_
 refine wp_seq ?_
 replace F := F.keep [0, 1, 2, 3, 4, 5, 6] rfl
 refine wp_region_l [.ind, .rd, .ind, .rd, .wr, .ind] ([0, 1, 2, 3, 4, 5]) rfl ?_
 refine s_fa0 F rfl rfl rfl rfl fa_53_10_R2 rfl ?_; clear F a; intro a F
 refine s_lda F rfl rfl rfl rfl ag_28_R2 rfl rfl (aC_V M.h2) ?_; clear F a; intro a F
 refine s_fa0 F rfl rfl rfl rfl fa_53_3_R2 rfl ?_; clear F a; intro a F
 refine s_ld F rfl rfl rfl rfl sc_3_R2 rfl (by exact cell_of_blk M.h2 (lit rfl)) ?_; clear F a; intro a F
 refine s_cq F M rfl rfl rfl rfl rfl (rfl : _ = some [_, _]) cb_33_R2 (fun nd_ => c33 st.n st.t st.L _ st.round hn7 W.v.len _ (M.chg.ro hrol)) ?_; (clear F a M; try clear w); rintro v w rfl M a F
 refine s_I F rfl rfl rfl rfl rfl rfl ?_; clear F a; intro a F
 refine t_endM M ?_; (clear M; try clear w); intro w M
 refine wp_seq ?_
 replace F := F.keep [0, 1, 2, 3, 4, 5, 6, 7] rfl
 refine wp_region_l [.ind, .ind, .rd, .ind] ([0, 1, 2, 3]) rfl ?_
 refine s_I F rfl rfl rfl rfl rfl rfl ?_; clear F a; intro a F
 refine s_fa0 F rfl rfl rfl rfl fa_53_3_R2 rfl ?_; clear F a; intro a F
 refine s_ld F rfl rfl rfl rfl sc_3_R2 rfl (by exact cell_of_blk M.h2 (lit rfl)) ?_; clear F a; intro a F
 refine s_bin F rfl rfl rfl rfl rfl rfl rfl ?_; clear F a; intro a F
 refine t_endM M ?_; (clear M; try clear w); intro w M
 refine c_if F rfl ?_ ?_
 clear F; intro hc2 F
 try rw [hc2] at F
 replace hc2 := of_decide_eq_true hc2
 refine wp_seq ?_
 replace F := F.keep [0, 1, 2, 3, 4, 5, 6, 7] rfl
 refine wp_region_l [.rd, .ind, .wr, .ind, .ind, .ind, .wr, .wr, .ind] ([0, 1, 2, 3, 4, 5, 6, 7, 8]) rfl ?_
 refine s_lda F rfl rfl rfl rfl ag_53_R2 rfl rfl (cells_whole M.h2) ?_; clear F a; intro a F
 refine s_I F rfl rfl rfl rfl rfl rfl ?_; clear F a; intro a F
 refine s_call (m := []) F M rfl rfl rfl rfl rfl (rfl : _ = some [_, _]) cb_84_R2 (fun nd_ => c84 st (aheadV st.n st.t st.L st.round) _) ?_; (clear F a M; try clear w); rintro v x w rfl M a F; (try simp only [List.cons_append, List.nil_append] at M)
 refine s_rn 3 F rfl rfl ?_; clear F a; intro a F
 refine s_alc F M rfl rfl rfl rfl zr_53_R2 rfl ?_; (clear F a M; try clear w); intro b8 w M a F
 refine s_stW F M rfl rfl rfl sz_53_R2 rfl rfl rfl rfl rfl ?_; (clear M; try clear w); intro w M
 refine s_I F rfl rfl rfl rfl rfl rfl ?_; clear F a; intro a F
 refine t_endM M ?_; (clear M; try clear w); intro w M
 refine wp_seq ?_
 replace F := F.keep [0, 1, 2, 3, 4, 5, 6, 7, 8, 9] rfl
 refine wp_region_l [.rd, .ind, .wr, .ind, .ind] ([0, 1, 2, 3, 4]) rfl ?_
 refine s_lda F rfl rfl rfl rfl ag_53_R2 rfl rfl (cells_whole M.h0) ?_; clear F a; intro a F
 refine s_I F rfl rfl rfl rfl rfl rfl ?_; clear F a; intro a F
 refine s_stW F M.f3 rfl rfl rfl sz_53_R2 rfl rfl rfl rfl rfl ?_; (clear M; try clear w); intro w M
 refine s_rn 2 F rfl rfl ?_; clear F a; intro a F
 refine t_endM M ?_; (clear M; try clear w); intro w M
 refine wp_ret ?_
 refine rt3 F rfl (by exact rv_a F rfl ag_53_R2 rfl (cells_whole M.h0)) (rv_t F rfl) (rv_t F rfl) ?_
 obtain ⟨e1_, e2_, e3_⟩ := r_some (r_ahead hdn (by omega))
 rw [e1_, e2_, e3_]
 refine ⟨_, x, rfl, rfl, ?_⟩
 have M1 : Sep _ _ _ (slR _ _ _ _ _ :: _) := M.f2; replace M := M1; clear M1
 exact Sep.left (m := [_]) M
 clear F; intro hc3 F
 try rw [hc3] at F
 replace hc3 := of_decide_eq_false hc3
 have hna : ¬ st.round < aheadV st.n st.t st.L st.round := by omega
 refine wp_skip ?_
 refine wp_seq ?_
 replace F := F.keep [0, 1, 2, 3, 4, 5, 6, 7] rfl
 refine wp_region_l [.rd, .ind, .rd, .wr, .ind, .ind, .ind, .wr, .wr, .ind] ([0, 1, 2, 3, 4, 5, 6, 7, 8, 9]) rfl ?_
 refine s_lda F rfl rfl rfl rfl ag_53_R2 rfl rfl (cells_whole M.h2) ?_; clear F a; intro a F
 refine s_fa0 F rfl rfl rfl rfl fa_53_3_R2 rfl ?_; clear F a; intro a F
 refine s_ld F rfl rfl rfl rfl sc_3_R2 rfl (by exact cell_of_blk M.h2 (lit rfl)) ?_; clear F a; intro a F
 refine s_cq F M rfl rfl rfl rfl rfl (rfl : _ = some [_, _]) cb_88_R2 (fun nd_ => c88 st W hpl _ _ st.round _ (M.chg.ro hrop)) ?_; (clear F a M; try clear w); rintro v w rfl M a F
 refine s_rn 3 F rfl rfl ?_; clear F a; intro a F
 refine s_alc F M rfl rfl rfl rfl zr_32_R2 rfl ?_; (clear F a M; try clear w); intro b10 w M a F
 refine s_stW F M rfl rfl rfl sz_32_R2 rfl rfl rfl rfl rfl ?_; (clear M; try clear w); intro w M
 refine s_I F rfl rfl rfl rfl rfl rfl ?_; clear F a; intro a F
 refine t_endM M ?_; (clear M; try clear w); intro w M
 refine wp_seq ?_
 refine wp_seq ?_
 replace F := F.keep [0, 1, 2, 3, 4, 5, 6, 7, 10, 11] rfl
 refine wp_region_l [.ind, .ind, .ind, .rd, .ind, .ind, .ind, .ind, .rd, .ind, .ind, .rd, .ind, .rd, .ind, .rd, .wr, .ind, .ind] ([0, 1, 2, 3, 4, 5, 6, 7, 8, 9, 10, 11, 12, 13, 14, 15, 16, 17, 18]) rfl ?_
 refine s_rn 2 F rfl rfl ?_; clear F a; intro a F
 refine bsplit F 50 rfl ?_ ?_
 clear F; intro hc4 F
 try rw [hc4] at F
 replace hc4 := of_decide_eq_true hc4
 refine s_fa0 F rfl rfl rfl rfl fa_53_4_R2 rfl ?_; clear F a; intro a F
 refine s_ld F rfl rfl rfl rfl sc_3_R2 rfl (by exact cell_of_blk M.h3 (lit rfl)) ?_; clear F a; intro a F
 refine s_rn 3 F rfl rfl ?_; clear F a; intro a F
 refine bsplit F 55 rfl ?_ ?_
 clear F; intro hc5 F
 try rw [hc5] at F
 replace hc5 := of_decide_eq_true hc5
 refine s_fa0 F rfl rfl rfl rfl fa_32_3_R2 rfl ?_; clear F a; intro a F
 refine s_ld F rfl rfl rfl rfl sc_3_R2 rfl (by exact cell_of_blk M.h0 (lit rfl)) ?_; clear F a; intro a F
 refine s_rn 2 F rfl rfl ?_; clear F a; intro a F
 refine bsplit F 59 rfl ?_ ?_
 clear F; intro hc6 F
 try rw [hc6] at F
 replace hc6 := of_decide_eq_true hc6
 refine s_rn 8 F rfl rfl ?_; clear F a; intro a F
 refine t_endM M ?_; (clear M; try clear w); intro w M
 refine c_t F rfl ?_
 refine wp_seq ?_
 have hpv : st.pv = true := (by clear M F; simp only [ASt.pv, ASt.now]; grind)
 replace F := F.keep [0, 1, 2, 3, 4, 5, 6, 7, 10, 11] rfl
 refine wp_region_l [.ind] ([0]) rfl ?_
 refine s_I F rfl rfl rfl rfl rfl rfl ?_; clear F a; intro a F
 refine t_endM M ?_; (clear M; try clear w); intro w M
 refine wp_seq ?_
 refine wp_seq ?_
 refine wp_region_l [.ind, .rd, .ind, .ind, .ind, .rd, .ind, .rd, .ind, .ind, .ind, .ind, .rd, .ind, .ind, .ind, .rd, .ind, .rd, .ind, .ind, .ind] ([0, 1, 2, 3, 4, 5, 6, 7, 8, 9, 10, 11, 12, 13, 14, 15, 16, 17, 18, 19, 20, 21]) rfl ?_
 refine s_fa0 F rfl rfl rfl rfl fa_53_6_R2 rfl ?_; clear F a; intro a F
 refine s_ld F rfl rfl rfl rfl sc_3_R2 rfl (by exact cell_of_blk M.h3 (lit rfl)) ?_; clear F a; intro a F
 refine s_rn 2 F rfl rfl ?_; clear F a; intro a F
 refine bsplit F 71 rfl ?_ ?_
 clear F; intro hc7 F
 try rw [hc7] at F
 replace hc7 := of_decide_eq_true hc7
 refine s_rn 18 F rfl rfl ?_; clear F a; intro a F
 refine t_endM M ?_; (clear M; try clear w); intro w M
 refine cutX (X := (ByteArray)) (m0 := []) F [0, 1, 2, 3, 4, 5, 6, 7, 10, 11] rfl M (fun (fv : ByteArray) => (fv = if st.free = true then st.now.value else VoteM.empty)) (fun (fv : ByteArray) => [(12, .string fv)]) (fun (fv : ByteArray) => []) ?_ ?_
 refine c_t F rfl ?_
 replace F := F.keep [0, 1, 2, 3, 4, 5, 6, 7, 10, 11, 12] rfl
 refine wp_region_l [.ind, .rd, .ind] ([0, 1, 2]) rfl ?_
 refine s_fa0 F rfl rfl rfl rfl fa_32_4_R2 rfl ?_; clear F a; intro a F
 refine s_ld F rfl rfl rfl rfl sc_9_R2 rfl (by exact cell_of_blk M.h0 (lit rfl)) ?_; clear F a; intro a F
 refine s_I F rfl rfl rfl rfl rfl rfl ?_; clear F a; intro a F
 refine t_endM M ?_; (clear M; try clear w); intro w M
 refine joined (st.now.value) (by rw [if_pos (by clear M F; simp only [ASt.free, ASt.now]; grind)]) (F.keep [12, 0, 1, 2, 3, 4, 5, 6, 7, 10, 11] rfl) ?_; (try dsimp only [List.cons_append, List.nil_append]); (refine M.pick ?_; repeat (first | exact PkG.nil | refine PkG.cons 0 rfl rfl ?_ | refine PkG.cons 1 rfl rfl ?_ | refine PkG.cons 2 rfl rfl ?_ | refine PkG.cons 3 rfl rfl ?_))
 clear F M; clear a; (try clear w)
 rintro fv a w hfv F M; try dsimp only at F M
 try simp only [List.cons_append, List.nil_append] at F M
 try dsimp only at hfv
 refine wp_seq ?_
 refine wp_region_l [.rd, .ind, .wr, .ind, .ind, .ind, .wr, .wr, .ind] ([0, 1, 2, 3, 4, 5, 6, 7, 8]) rfl ?_
 refine s_lda F rfl rfl rfl rfl ag_53_R2 rfl rfl (cells_whole M.h3) ?_; clear F a; intro a F
 refine s_I F rfl rfl rfl rfl rfl rfl ?_; clear F a; intro a F
 refine s_call (m := []) F M rfl rfl rfl rfl rfl (rfl : _ = some [_, _, _]) cb_115_R2 (fun nd_ => c115 st 2 fv _) ?_; (clear F a M; try clear w); rintro v x w rfl M a F; (try simp only [List.cons_append, List.nil_append] at M)
 refine s_rn 3 F rfl rfl ?_; clear F a; intro a F
 refine s_alc F M rfl rfl rfl rfl zr_53_R2 rfl ?_; (clear F a M; try clear w); intro b13 w M a F
 refine s_stW F M rfl rfl rfl sz_53_R2 rfl rfl rfl rfl rfl ?_; (clear M; try clear w); intro w M
 refine s_I F rfl rfl rfl rfl rfl rfl ?_; clear F a; intro a F
 refine t_endM M ?_; (clear M; try clear w); intro w M
 refine wp_seq ?_
 replace F := F.keep [0, 1, 2, 3, 4, 5, 6, 7, 10, 11, 12, 13, 14] rfl
 refine wp_region_l [.rd, .ind, .wr, .ind, .ind] ([0, 1, 2, 3, 4]) rfl ?_
 refine s_lda F rfl rfl rfl rfl ag_53_R2 rfl rfl (cells_whole M.h0) ?_; clear F a; intro a F
 refine s_I F rfl rfl rfl rfl rfl rfl ?_; clear F a; intro a F
 refine s_stW F M.f4 rfl rfl rfl sz_53_R2 rfl rfl rfl rfl rfl ?_; (clear M; try clear w); intro w M
 refine s_rn 2 F rfl rfl ?_; clear F a; intro a F
 refine t_endM M ?_; (clear M; try clear w); intro w M
 refine wp_ret ?_
 refine rt3 F rfl (by exact rv_a F rfl ag_53_R2 rfl (cells_whole M.h0)) (rv_t F rfl) (rv_t F rfl) ?_
 obtain ⟨e1_, e2_, e3_⟩ := r_some ((r_pv hdn hna hpv).trans (by rw [← hfv]))
 rw [e1_, e2_, e3_]
 refine ⟨_, x, rfl, rfl, ?_⟩
 have M1 : Sep _ _ _ (slR _ _ _ _ _ :: _) := M.f2; replace M := M1; clear M1
 exact Sep.left (m := [_]) M
 clear F; intro hc8 F
 try rw [hc8] at F
 replace hc8 := of_decide_eq_false hc8
 refine s_fa0 F rfl rfl rfl rfl fa_53_5_R2 rfl ?_; clear F a; intro a F
 refine s_ld F rfl rfl rfl rfl sc_9_R2 rfl (by exact cell_of_blk M.h3 (lit rfl)) ?_; clear F a; intro a F
 refine s_fa0 F rfl rfl rfl rfl fa_32_4_R2 rfl ?_; clear F a; intro a F
 refine s_ld F rfl rfl rfl rfl sc_9_R2 rfl (by exact cell_of_blk M.h0 (lit rfl)) ?_; clear F a; intro a F
 refine s_rn 3 F rfl rfl ?_; clear F a; intro a F
 refine bsplit F 78 rfl ?_ ?_
 clear F; intro hc9 F
 try rw [hc9] at F
 replace hc9 := of_decide_eq_true hc9
 refine s_rn 11 F rfl rfl ?_; clear F a; intro a F
 refine t_endM M ?_; (clear M; try clear w); intro w M
 refine cutX (X := (ByteArray)) (m0 := []) F [0, 1, 2, 3, 4, 5, 6, 7, 10, 11] rfl M (fun (fv : ByteArray) => (fv = if st.free = true then st.now.value else VoteM.empty)) (fun (fv : ByteArray) => [(12, .string fv)]) (fun (fv : ByteArray) => []) ?_ ?_
 refine c_t F rfl ?_
 replace F := F.keep [0, 1, 2, 3, 4, 5, 6, 7, 10, 11, 12] rfl
 refine wp_region_l [.ind, .rd, .ind] ([0, 1, 2]) rfl ?_
 refine s_fa0 F rfl rfl rfl rfl fa_32_4_R2 rfl ?_; clear F a; intro a F
 refine s_ld F rfl rfl rfl rfl sc_9_R2 rfl (by exact cell_of_blk M.h0 (lit rfl)) ?_; clear F a; intro a F
 refine s_I F rfl rfl rfl rfl rfl rfl ?_; clear F a; intro a F
 refine t_endM M ?_; (clear M; try clear w); intro w M
 refine joined (st.now.value) (by rw [if_pos (by clear M F; simp only [ASt.free, ASt.now]; grind)]) (F.keep [12, 0, 1, 2, 3, 4, 5, 6, 7, 10, 11] rfl) ?_; (try dsimp only [List.cons_append, List.nil_append]); (refine M.pick ?_; repeat (first | exact PkG.nil | refine PkG.cons 0 rfl rfl ?_ | refine PkG.cons 1 rfl rfl ?_ | refine PkG.cons 2 rfl rfl ?_ | refine PkG.cons 3 rfl rfl ?_))
 clear F M; clear a; (try clear w)
 rintro fv a w hfv F M; try dsimp only at F M
 try simp only [List.cons_append, List.nil_append] at F M
 try dsimp only at hfv
 refine wp_seq ?_
 refine wp_region_l [.rd, .ind, .wr, .ind, .ind, .ind, .wr, .wr, .ind] ([0, 1, 2, 3, 4, 5, 6, 7, 8]) rfl ?_
 refine s_lda F rfl rfl rfl rfl ag_53_R2 rfl rfl (cells_whole M.h3) ?_; clear F a; intro a F
 refine s_I F rfl rfl rfl rfl rfl rfl ?_; clear F a; intro a F
 refine s_call (m := []) F M rfl rfl rfl rfl rfl (rfl : _ = some [_, _, _]) cb_115_R2 (fun nd_ => c115 st 2 fv _) ?_; (clear F a M; try clear w); rintro v x w rfl M a F; (try simp only [List.cons_append, List.nil_append] at M)
 refine s_rn 3 F rfl rfl ?_; clear F a; intro a F
 refine s_alc F M rfl rfl rfl rfl zr_53_R2 rfl ?_; (clear F a M; try clear w); intro b13 w M a F
 refine s_stW F M rfl rfl rfl sz_53_R2 rfl rfl rfl rfl rfl ?_; (clear M; try clear w); intro w M
 refine s_I F rfl rfl rfl rfl rfl rfl ?_; clear F a; intro a F
 refine t_endM M ?_; (clear M; try clear w); intro w M
 refine wp_seq ?_
 replace F := F.keep [0, 1, 2, 3, 4, 5, 6, 7, 10, 11, 12, 13, 14] rfl
 refine wp_region_l [.rd, .ind, .wr, .ind, .ind] ([0, 1, 2, 3, 4]) rfl ?_
 refine s_lda F rfl rfl rfl rfl ag_53_R2 rfl rfl (cells_whole M.h0) ?_; clear F a; intro a F
 refine s_I F rfl rfl rfl rfl rfl rfl ?_; clear F a; intro a F
 refine s_stW F M.f4 rfl rfl rfl sz_53_R2 rfl rfl rfl rfl rfl ?_; (clear M; try clear w); intro w M
 refine s_rn 2 F rfl rfl ?_; clear F a; intro a F
 refine t_endM M ?_; (clear M; try clear w); intro w M
 refine wp_ret ?_
 refine rt3 F rfl (by exact rv_a F rfl ag_53_R2 rfl (cells_whole M.h0)) (rv_t F rfl) (rv_t F rfl) ?_
 obtain ⟨e1_, e2_, e3_⟩ := r_some ((r_pv hdn hna hpv).trans (by rw [← hfv]))
 rw [e1_, e2_, e3_]
 refine ⟨_, x, rfl, rfl, ?_⟩
 have M1 : Sep _ _ _ (slR _ _ _ _ _ :: _) := M.f2; replace M := M1; clear M1
 exact Sep.left (m := [_]) M
 clear F; intro hc10 F
 try rw [hc10] at F
 replace hc10 := of_decide_eq_false hc10
 refine s_fa0 F rfl rfl rfl rfl fa_32_3_R2 rfl ?_; clear F a; intro a F
 refine s_ld F rfl rfl rfl rfl sc_3_R2 rfl (by exact cell_of_blk M.h0 (lit rfl)) ?_; clear F a; intro a F
 refine s_rn 2 F rfl rfl ?_; clear F a; intro a F
 refine bsplit F 82 rfl ?_ ?_
 clear F; intro hc11 F
 try rw [hc11] at F
 replace hc11 := of_decide_eq_true hc11
 refine s_fa0 F rfl rfl rfl rfl fa_53_6_R2 rfl ?_; clear F a; intro a F
 refine s_ld F rfl rfl rfl rfl sc_3_R2 rfl (by exact cell_of_blk M.h3 (lit rfl)) ?_; clear F a; intro a F
 refine s_fa0 F rfl rfl rfl rfl fa_32_3_R2 rfl ?_; clear F a; intro a F
 refine s_ld F rfl rfl rfl rfl sc_3_R2 rfl (by exact cell_of_blk M.h0 (lit rfl)) ?_; clear F a; intro a F
 refine s_rn 3 F rfl rfl ?_; clear F a; intro a F
 refine t_endM M ?_; (clear M; try clear w); intro w M
 refine cutX (X := (ByteArray)) (m0 := []) F [0, 1, 2, 3, 4, 5, 6, 7, 10, 11] rfl M (fun (fv : ByteArray) => (fv = if st.free = true then st.now.value else VoteM.empty)) (fun (fv : ByteArray) => [(12, .string fv)]) (fun (fv : ByteArray) => []) ?_ ?_
 refine c_if F rfl ?_ ?_
 clear F; intro hc12 F
 try rw [hc12] at F
 replace hc12 := of_decide_eq_true hc12
 replace F := F.keep [0, 1, 2, 3, 4, 5, 6, 7, 10, 11, 12] rfl
 refine wp_region_l [.ind, .rd, .ind] ([0, 1, 2]) rfl ?_
 refine s_fa0 F rfl rfl rfl rfl fa_32_4_R2 rfl ?_; clear F a; intro a F
 refine s_ld F rfl rfl rfl rfl sc_9_R2 rfl (by exact cell_of_blk M.h0 (lit rfl)) ?_; clear F a; intro a F
 refine s_I F rfl rfl rfl rfl rfl rfl ?_; clear F a; intro a F
 refine t_endM M ?_; (clear M; try clear w); intro w M
 refine joined (st.now.value) (by rw [if_pos (by clear M F; simp only [ASt.free, ASt.now]; grind)]) (F.keep [12, 0, 1, 2, 3, 4, 5, 6, 7, 10, 11] rfl) ?_; (try dsimp only [List.cons_append, List.nil_append]); (refine M.pick ?_; repeat (first | exact PkG.nil | refine PkG.cons 0 rfl rfl ?_ | refine PkG.cons 1 rfl rfl ?_ | refine PkG.cons 2 rfl rfl ?_ | refine PkG.cons 3 rfl rfl ?_))
 clear F; intro hc13 F
 try rw [hc13] at F
 replace hc13 := of_decide_eq_false hc13
 refine wp_skip ?_
 refine joined (VoteM.empty) (by rw [if_neg (by clear M F; simp only [ASt.free, ASt.now]; grind)]) (F.keep [12, 0, 1, 2, 3, 4, 5, 6, 7, 10, 11] rfl) ?_; (try dsimp only [List.cons_append, List.nil_append]); (refine M.pick ?_; repeat (first | exact PkG.nil | refine PkG.cons 0 rfl rfl ?_ | refine PkG.cons 1 rfl rfl ?_ | refine PkG.cons 2 rfl rfl ?_ | refine PkG.cons 3 rfl rfl ?_))
 clear F M; clear a; (try clear w)
 rintro fv a w hfv F M; try dsimp only at F M
 try simp only [List.cons_append, List.nil_append] at F M
 try dsimp only at hfv
 refine wp_seq ?_
 refine wp_region_l [.rd, .ind, .wr, .ind, .ind, .ind, .wr, .wr, .ind] ([0, 1, 2, 3, 4, 5, 6, 7, 8]) rfl ?_
 refine s_lda F rfl rfl rfl rfl ag_53_R2 rfl rfl (cells_whole M.h3) ?_; clear F a; intro a F
 refine s_I F rfl rfl rfl rfl rfl rfl ?_; clear F a; intro a F
 refine s_call (m := []) F M rfl rfl rfl rfl rfl (rfl : _ = some [_, _, _]) cb_115_R2 (fun nd_ => c115 st 2 fv _) ?_; (clear F a M; try clear w); rintro v x w rfl M a F; (try simp only [List.cons_append, List.nil_append] at M)
 refine s_rn 3 F rfl rfl ?_; clear F a; intro a F
 refine s_alc F M rfl rfl rfl rfl zr_53_R2 rfl ?_; (clear F a M; try clear w); intro b13 w M a F
 refine s_stW F M rfl rfl rfl sz_53_R2 rfl rfl rfl rfl rfl ?_; (clear M; try clear w); intro w M
 refine s_I F rfl rfl rfl rfl rfl rfl ?_; clear F a; intro a F
 refine t_endM M ?_; (clear M; try clear w); intro w M
 refine wp_seq ?_
 replace F := F.keep [0, 1, 2, 3, 4, 5, 6, 7, 10, 11, 12, 13, 14] rfl
 refine wp_region_l [.rd, .ind, .wr, .ind, .ind] ([0, 1, 2, 3, 4]) rfl ?_
 refine s_lda F rfl rfl rfl rfl ag_53_R2 rfl rfl (cells_whole M.h0) ?_; clear F a; intro a F
 refine s_I F rfl rfl rfl rfl rfl rfl ?_; clear F a; intro a F
 refine s_stW F M.f4 rfl rfl rfl sz_53_R2 rfl rfl rfl rfl rfl ?_; (clear M; try clear w); intro w M
 refine s_rn 2 F rfl rfl ?_; clear F a; intro a F
 refine t_endM M ?_; (clear M; try clear w); intro w M
 refine wp_ret ?_
 refine rt3 F rfl (by exact rv_a F rfl ag_53_R2 rfl (cells_whole M.h0)) (rv_t F rfl) (rv_t F rfl) ?_
 obtain ⟨e1_, e2_, e3_⟩ := r_some ((r_pv hdn hna hpv).trans (by rw [← hfv]))
 rw [e1_, e2_, e3_]
 refine ⟨_, x, rfl, rfl, ?_⟩
 have M1 : Sep _ _ _ (slR _ _ _ _ _ :: _) := M.f2; replace M := M1; clear M1
 exact Sep.left (m := [_]) M
 clear F; intro hc14 F
 try rw [hc14] at F
 replace hc14 := of_decide_eq_false hc14
 refine s_rn 7 F rfl rfl ?_; clear F a; intro a F
 refine t_endM M ?_; (clear M; try clear w); intro w M
 refine cutX (X := (ByteArray)) (m0 := []) F [0, 1, 2, 3, 4, 5, 6, 7, 10, 11] rfl M (fun (fv : ByteArray) => (fv = if st.free = true then st.now.value else VoteM.empty)) (fun (fv : ByteArray) => [(12, .string fv)]) (fun (fv : ByteArray) => []) ?_ ?_
 refine c_f F rfl ?_
 refine wp_skip ?_
 refine joined (VoteM.empty) (by rw [if_neg (by clear M F; simp only [ASt.free, ASt.now]; grind)]) (F.keep [12, 0, 1, 2, 3, 4, 5, 6, 7, 10, 11] rfl) ?_; (try dsimp only [List.cons_append, List.nil_append]); (refine M.pick ?_; repeat (first | exact PkG.nil | refine PkG.cons 0 rfl rfl ?_ | refine PkG.cons 1 rfl rfl ?_ | refine PkG.cons 2 rfl rfl ?_ | refine PkG.cons 3 rfl rfl ?_))
 clear F M; clear a; (try clear w)
 rintro fv a w hfv F M; try dsimp only at F M
 try simp only [List.cons_append, List.nil_append] at F M
 try dsimp only at hfv
 refine wp_seq ?_
 refine wp_region_l [.rd, .ind, .wr, .ind, .ind, .ind, .wr, .wr, .ind] ([0, 1, 2, 3, 4, 5, 6, 7, 8]) rfl ?_
 refine s_lda F rfl rfl rfl rfl ag_53_R2 rfl rfl (cells_whole M.h3) ?_; clear F a; intro a F
 refine s_I F rfl rfl rfl rfl rfl rfl ?_; clear F a; intro a F
 refine s_call (m := []) F M rfl rfl rfl rfl rfl (rfl : _ = some [_, _, _]) cb_115_R2 (fun nd_ => c115 st 2 fv _) ?_; (clear F a M; try clear w); rintro v x w rfl M a F; (try simp only [List.cons_append, List.nil_append] at M)
 refine s_rn 3 F rfl rfl ?_; clear F a; intro a F
 refine s_alc F M rfl rfl rfl rfl zr_53_R2 rfl ?_; (clear F a M; try clear w); intro b13 w M a F
 refine s_stW F M rfl rfl rfl sz_53_R2 rfl rfl rfl rfl rfl ?_; (clear M; try clear w); intro w M
 refine s_I F rfl rfl rfl rfl rfl rfl ?_; clear F a; intro a F
 refine t_endM M ?_; (clear M; try clear w); intro w M
 refine wp_seq ?_
 replace F := F.keep [0, 1, 2, 3, 4, 5, 6, 7, 10, 11, 12, 13, 14] rfl
 refine wp_region_l [.rd, .ind, .wr, .ind, .ind] ([0, 1, 2, 3, 4]) rfl ?_
 refine s_lda F rfl rfl rfl rfl ag_53_R2 rfl rfl (cells_whole M.h0) ?_; clear F a; intro a F
 refine s_I F rfl rfl rfl rfl rfl rfl ?_; clear F a; intro a F
 refine s_stW F M.f4 rfl rfl rfl sz_53_R2 rfl rfl rfl rfl rfl ?_; (clear M; try clear w); intro w M
 refine s_rn 2 F rfl rfl ?_; clear F a; intro a F
 refine t_endM M ?_; (clear M; try clear w); intro w M
 refine wp_ret ?_
 refine rt3 F rfl (by exact rv_a F rfl ag_53_R2 rfl (cells_whole M.h0)) (rv_t F rfl) (rv_t F rfl) ?_
 obtain ⟨e1_, e2_, e3_⟩ := r_some ((r_pv hdn hna hpv).trans (by rw [← hfv]))
 rw [e1_, e2_, e3_]
 refine ⟨_, x, rfl, rfl, ?_⟩
 have M1 : Sep _ _ _ (slR _ _ _ _ _ :: _) := M.f2; replace M := M1; clear M1
 exact Sep.left (m := [_]) M
 clear F; intro hc15 F
 try rw [hc15] at F
 replace hc15 := of_decide_eq_false hc15
 refine s_lda F rfl rfl rfl rfl ag_53_R2 rfl rfl (cells_whole M.h3) ?_; clear F a; intro a F
 refine s_fa0 F rfl rfl rfl rfl fa_32_3_R2 rfl ?_; clear F a; intro a F
 refine s_ld F rfl rfl rfl rfl sc_3_R2 rfl (by exact cell_of_blk M.h0 (lit rfl)) ?_; clear F a; intro a F
 refine s_fa0 F rfl rfl rfl rfl fa_32_4_R2 rfl ?_; clear F a; intro a F
 refine s_ld F rfl rfl rfl rfl sc_9_R2 rfl (by exact cell_of_blk M.h0 (lit rfl)) ?_; clear F a; intro a F
 refine s_cq F M rfl rfl rfl rfl rfl (rfl : _ = some [_, _, _, _]) cb_117_R2 (fun nd_ => c117 st W.v.len _ _ 2 (propL st.Ps st.round).valid (propL st.Ps st.round).value _ (M.chg.ro hrol)) ?_; (clear F a M; try clear w); rintro v w rfl M a F
 refine s_rn 2 F rfl rfl ?_; clear F a; intro a F
 refine t_endM M ?_; (clear M; try clear w); intro w M
 refine c_if F rfl ?_ ?_
 clear F; intro hc16 F
 try rw [hc16] at F
 skip
 refine wp_seq ?_
 have hpv : st.pv = true := (by clear M F; simp only [ASt.pv, ASt.now]; grind)
 replace F := F.keep [0, 1, 2, 3, 4, 5, 6, 7, 10, 11] rfl
 refine wp_region_l [.ind] ([0]) rfl ?_
 refine s_I F rfl rfl rfl rfl rfl rfl ?_; clear F a; intro a F
 refine t_endM M ?_; (clear M; try clear w); intro w M
 refine wp_seq ?_
 refine wp_seq ?_
 refine wp_region_l [.ind, .rd, .ind, .ind, .ind, .rd, .ind, .rd, .ind, .ind, .ind, .ind, .rd, .ind, .ind, .ind, .rd, .ind, .rd, .ind, .ind, .ind] ([0, 1, 2, 3, 4, 5, 6, 7, 8, 9, 10, 11, 12, 13, 14, 15, 16, 17, 18, 19, 20, 21]) rfl ?_
 refine s_fa0 F rfl rfl rfl rfl fa_53_6_R2 rfl ?_; clear F a; intro a F
 refine s_ld F rfl rfl rfl rfl sc_3_R2 rfl (by exact cell_of_blk M.h3 (lit rfl)) ?_; clear F a; intro a F
 refine s_rn 2 F rfl rfl ?_; clear F a; intro a F
 refine bsplit F 71 rfl ?_ ?_
 clear F; intro hc17 F
 try rw [hc17] at F
 replace hc17 := of_decide_eq_true hc17
 refine s_rn 18 F rfl rfl ?_; clear F a; intro a F
 refine t_endM M ?_; (clear M; try clear w); intro w M
 refine cutX (X := (ByteArray)) (m0 := []) F [0, 1, 2, 3, 4, 5, 6, 7, 10, 11] rfl M (fun (fv : ByteArray) => (fv = if st.free = true then st.now.value else VoteM.empty)) (fun (fv : ByteArray) => [(12, .string fv)]) (fun (fv : ByteArray) => []) ?_ ?_
 refine c_t F rfl ?_
 replace F := F.keep [0, 1, 2, 3, 4, 5, 6, 7, 10, 11, 12] rfl
 refine wp_region_l [.ind, .rd, .ind] ([0, 1, 2]) rfl ?_
 refine s_fa0 F rfl rfl rfl rfl fa_32_4_R2 rfl ?_; clear F a; intro a F
 refine s_ld F rfl rfl rfl rfl sc_9_R2 rfl (by exact cell_of_blk M.h0 (lit rfl)) ?_; clear F a; intro a F
 refine s_I F rfl rfl rfl rfl rfl rfl ?_; clear F a; intro a F
 refine t_endM M ?_; (clear M; try clear w); intro w M
 refine joined (st.now.value) (by rw [if_pos (by clear M F; simp only [ASt.free, ASt.now]; grind)]) (F.keep [12, 0, 1, 2, 3, 4, 5, 6, 7, 10, 11] rfl) ?_; (try dsimp only [List.cons_append, List.nil_append]); (refine M.pick ?_; repeat (first | exact PkG.nil | refine PkG.cons 0 rfl rfl ?_ | refine PkG.cons 1 rfl rfl ?_ | refine PkG.cons 2 rfl rfl ?_ | refine PkG.cons 3 rfl rfl ?_))
 clear F M; clear a; (try clear w)
 rintro fv a w hfv F M; try dsimp only at F M
 try simp only [List.cons_append, List.nil_append] at F M
 try dsimp only at hfv
 refine wp_seq ?_
 refine wp_region_l [.rd, .ind, .wr, .ind, .ind, .ind, .wr, .wr, .ind] ([0, 1, 2, 3, 4, 5, 6, 7, 8]) rfl ?_
 refine s_lda F rfl rfl rfl rfl ag_53_R2 rfl rfl (cells_whole M.h3) ?_; clear F a; intro a F
 refine s_I F rfl rfl rfl rfl rfl rfl ?_; clear F a; intro a F
 refine s_call (m := []) F M rfl rfl rfl rfl rfl (rfl : _ = some [_, _, _]) cb_115_R2 (fun nd_ => c115 st 2 fv _) ?_; (clear F a M; try clear w); rintro v x w rfl M a F; (try simp only [List.cons_append, List.nil_append] at M)
 refine s_rn 3 F rfl rfl ?_; clear F a; intro a F
 refine s_alc F M rfl rfl rfl rfl zr_53_R2 rfl ?_; (clear F a M; try clear w); intro b13 w M a F
 refine s_stW F M rfl rfl rfl sz_53_R2 rfl rfl rfl rfl rfl ?_; (clear M; try clear w); intro w M
 refine s_I F rfl rfl rfl rfl rfl rfl ?_; clear F a; intro a F
 refine t_endM M ?_; (clear M; try clear w); intro w M
 refine wp_seq ?_
 replace F := F.keep [0, 1, 2, 3, 4, 5, 6, 7, 10, 11, 12, 13, 14] rfl
 refine wp_region_l [.rd, .ind, .wr, .ind, .ind] ([0, 1, 2, 3, 4]) rfl ?_
 refine s_lda F rfl rfl rfl rfl ag_53_R2 rfl rfl (cells_whole M.h0) ?_; clear F a; intro a F
 refine s_I F rfl rfl rfl rfl rfl rfl ?_; clear F a; intro a F
 refine s_stW F M.f4 rfl rfl rfl sz_53_R2 rfl rfl rfl rfl rfl ?_; (clear M; try clear w); intro w M
 refine s_rn 2 F rfl rfl ?_; clear F a; intro a F
 refine t_endM M ?_; (clear M; try clear w); intro w M
 refine wp_ret ?_
 refine rt3 F rfl (by exact rv_a F rfl ag_53_R2 rfl (cells_whole M.h0)) (rv_t F rfl) (rv_t F rfl) ?_
 obtain ⟨e1_, e2_, e3_⟩ := r_some ((r_pv hdn hna hpv).trans (by rw [← hfv]))
 rw [e1_, e2_, e3_]
 refine ⟨_, x, rfl, rfl, ?_⟩
 have M1 : Sep _ _ _ (slR _ _ _ _ _ :: _) := M.f2; replace M := M1; clear M1
 exact Sep.left (m := [_]) M
 clear F; intro hc18 F
 try rw [hc18] at F
 replace hc18 := of_decide_eq_false hc18
 refine s_fa0 F rfl rfl rfl rfl fa_53_5_R2 rfl ?_; clear F a; intro a F
 refine s_ld F rfl rfl rfl rfl sc_9_R2 rfl (by exact cell_of_blk M.h3 (lit rfl)) ?_; clear F a; intro a F
 refine s_fa0 F rfl rfl rfl rfl fa_32_4_R2 rfl ?_; clear F a; intro a F
 refine s_ld F rfl rfl rfl rfl sc_9_R2 rfl (by exact cell_of_blk M.h0 (lit rfl)) ?_; clear F a; intro a F
 refine s_rn 3 F rfl rfl ?_; clear F a; intro a F
 refine bsplit F 78 rfl ?_ ?_
 clear F; intro hc19 F
 try rw [hc19] at F
 replace hc19 := of_decide_eq_true hc19
 refine s_rn 11 F rfl rfl ?_; clear F a; intro a F
 refine t_endM M ?_; (clear M; try clear w); intro w M
 refine cutX (X := (ByteArray)) (m0 := []) F [0, 1, 2, 3, 4, 5, 6, 7, 10, 11] rfl M (fun (fv : ByteArray) => (fv = if st.free = true then st.now.value else VoteM.empty)) (fun (fv : ByteArray) => [(12, .string fv)]) (fun (fv : ByteArray) => []) ?_ ?_
 refine c_t F rfl ?_
 replace F := F.keep [0, 1, 2, 3, 4, 5, 6, 7, 10, 11, 12] rfl
 refine wp_region_l [.ind, .rd, .ind] ([0, 1, 2]) rfl ?_
 refine s_fa0 F rfl rfl rfl rfl fa_32_4_R2 rfl ?_; clear F a; intro a F
 refine s_ld F rfl rfl rfl rfl sc_9_R2 rfl (by exact cell_of_blk M.h0 (lit rfl)) ?_; clear F a; intro a F
 refine s_I F rfl rfl rfl rfl rfl rfl ?_; clear F a; intro a F
 refine t_endM M ?_; (clear M; try clear w); intro w M
 refine joined (st.now.value) (by rw [if_pos (by clear M F; simp only [ASt.free, ASt.now]; grind)]) (F.keep [12, 0, 1, 2, 3, 4, 5, 6, 7, 10, 11] rfl) ?_; (try dsimp only [List.cons_append, List.nil_append]); (refine M.pick ?_; repeat (first | exact PkG.nil | refine PkG.cons 0 rfl rfl ?_ | refine PkG.cons 1 rfl rfl ?_ | refine PkG.cons 2 rfl rfl ?_ | refine PkG.cons 3 rfl rfl ?_))
 clear F M; clear a; (try clear w)
 rintro fv a w hfv F M; try dsimp only at F M
 try simp only [List.cons_append, List.nil_append] at F M
 try dsimp only at hfv
 refine wp_seq ?_
 refine wp_region_l [.rd, .ind, .wr, .ind, .ind, .ind, .wr, .wr, .ind] ([0, 1, 2, 3, 4, 5, 6, 7, 8]) rfl ?_
 refine s_lda F rfl rfl rfl rfl ag_53_R2 rfl rfl (cells_whole M.h3) ?_; clear F a; intro a F
 refine s_I F rfl rfl rfl rfl rfl rfl ?_; clear F a; intro a F
 refine s_call (m := []) F M rfl rfl rfl rfl rfl (rfl : _ = some [_, _, _]) cb_115_R2 (fun nd_ => c115 st 2 fv _) ?_; (clear F a M; try clear w); rintro v x w rfl M a F; (try simp only [List.cons_append, List.nil_append] at M)
 refine s_rn 3 F rfl rfl ?_; clear F a; intro a F
 refine s_alc F M rfl rfl rfl rfl zr_53_R2 rfl ?_; (clear F a M; try clear w); intro b13 w M a F
 refine s_stW F M rfl rfl rfl sz_53_R2 rfl rfl rfl rfl rfl ?_; (clear M; try clear w); intro w M
 refine s_I F rfl rfl rfl rfl rfl rfl ?_; clear F a; intro a F
 refine t_endM M ?_; (clear M; try clear w); intro w M
 refine wp_seq ?_
 replace F := F.keep [0, 1, 2, 3, 4, 5, 6, 7, 10, 11, 12, 13, 14] rfl
 refine wp_region_l [.rd, .ind, .wr, .ind, .ind] ([0, 1, 2, 3, 4]) rfl ?_
 refine s_lda F rfl rfl rfl rfl ag_53_R2 rfl rfl (cells_whole M.h0) ?_; clear F a; intro a F
 refine s_I F rfl rfl rfl rfl rfl rfl ?_; clear F a; intro a F
 refine s_stW F M.f4 rfl rfl rfl sz_53_R2 rfl rfl rfl rfl rfl ?_; (clear M; try clear w); intro w M
 refine s_rn 2 F rfl rfl ?_; clear F a; intro a F
 refine t_endM M ?_; (clear M; try clear w); intro w M
 refine wp_ret ?_
 refine rt3 F rfl (by exact rv_a F rfl ag_53_R2 rfl (cells_whole M.h0)) (rv_t F rfl) (rv_t F rfl) ?_
 obtain ⟨e1_, e2_, e3_⟩ := r_some ((r_pv hdn hna hpv).trans (by rw [← hfv]))
 rw [e1_, e2_, e3_]
 refine ⟨_, x, rfl, rfl, ?_⟩
 have M1 : Sep _ _ _ (slR _ _ _ _ _ :: _) := M.f2; replace M := M1; clear M1
 exact Sep.left (m := [_]) M
 clear F; intro hc20 F
 try rw [hc20] at F
 replace hc20 := of_decide_eq_false hc20
 refine s_fa0 F rfl rfl rfl rfl fa_32_3_R2 rfl ?_; clear F a; intro a F
 refine s_ld F rfl rfl rfl rfl sc_3_R2 rfl (by exact cell_of_blk M.h0 (lit rfl)) ?_; clear F a; intro a F
 refine s_rn 2 F rfl rfl ?_; clear F a; intro a F
 refine bsplit F 82 rfl ?_ ?_
 clear F; intro hc21 F
 try rw [hc21] at F
 replace hc21 := of_decide_eq_true hc21
 refine s_fa0 F rfl rfl rfl rfl fa_53_6_R2 rfl ?_; clear F a; intro a F
 refine s_ld F rfl rfl rfl rfl sc_3_R2 rfl (by exact cell_of_blk M.h3 (lit rfl)) ?_; clear F a; intro a F
 refine s_fa0 F rfl rfl rfl rfl fa_32_3_R2 rfl ?_; clear F a; intro a F
 refine s_ld F rfl rfl rfl rfl sc_3_R2 rfl (by exact cell_of_blk M.h0 (lit rfl)) ?_; clear F a; intro a F
 refine s_rn 3 F rfl rfl ?_; clear F a; intro a F
 refine t_endM M ?_; (clear M; try clear w); intro w M
 refine cutX (X := (ByteArray)) (m0 := []) F [0, 1, 2, 3, 4, 5, 6, 7, 10, 11] rfl M (fun (fv : ByteArray) => (fv = if st.free = true then st.now.value else VoteM.empty)) (fun (fv : ByteArray) => [(12, .string fv)]) (fun (fv : ByteArray) => []) ?_ ?_
 refine c_if F rfl ?_ ?_
 clear F; intro hc22 F
 try rw [hc22] at F
 replace hc22 := of_decide_eq_true hc22
 replace F := F.keep [0, 1, 2, 3, 4, 5, 6, 7, 10, 11, 12] rfl
 refine wp_region_l [.ind, .rd, .ind] ([0, 1, 2]) rfl ?_
 refine s_fa0 F rfl rfl rfl rfl fa_32_4_R2 rfl ?_; clear F a; intro a F
 refine s_ld F rfl rfl rfl rfl sc_9_R2 rfl (by exact cell_of_blk M.h0 (lit rfl)) ?_; clear F a; intro a F
 refine s_I F rfl rfl rfl rfl rfl rfl ?_; clear F a; intro a F
 refine t_endM M ?_; (clear M; try clear w); intro w M
 refine joined (st.now.value) (by rw [if_pos (by clear M F; simp only [ASt.free, ASt.now]; grind)]) (F.keep [12, 0, 1, 2, 3, 4, 5, 6, 7, 10, 11] rfl) ?_; (try dsimp only [List.cons_append, List.nil_append]); (refine M.pick ?_; repeat (first | exact PkG.nil | refine PkG.cons 0 rfl rfl ?_ | refine PkG.cons 1 rfl rfl ?_ | refine PkG.cons 2 rfl rfl ?_ | refine PkG.cons 3 rfl rfl ?_))
 clear F; intro hc23 F
 try rw [hc23] at F
 replace hc23 := of_decide_eq_false hc23
 refine wp_skip ?_
 refine joined (VoteM.empty) (by rw [if_neg (by clear M F; simp only [ASt.free, ASt.now]; grind)]) (F.keep [12, 0, 1, 2, 3, 4, 5, 6, 7, 10, 11] rfl) ?_; (try dsimp only [List.cons_append, List.nil_append]); (refine M.pick ?_; repeat (first | exact PkG.nil | refine PkG.cons 0 rfl rfl ?_ | refine PkG.cons 1 rfl rfl ?_ | refine PkG.cons 2 rfl rfl ?_ | refine PkG.cons 3 rfl rfl ?_))
 clear F M; clear a; (try clear w)
 rintro fv a w hfv F M; try dsimp only at F M
 try simp only [List.cons_append, List.nil_append] at F M
 try dsimp only at hfv
 refine wp_seq ?_
 refine wp_region_l [.rd, .ind, .wr, .ind, .ind, .ind, .wr, .wr, .ind] ([0, 1, 2, 3, 4, 5, 6, 7, 8]) rfl ?_
 refine s_lda F rfl rfl rfl rfl ag_53_R2 rfl rfl (cells_whole M.h3) ?_; clear F a; intro a F
 refine s_I F rfl rfl rfl rfl rfl rfl ?_; clear F a; intro a F
 refine s_call (m := []) F M rfl rfl rfl rfl rfl (rfl : _ = some [_, _, _]) cb_115_R2 (fun nd_ => c115 st 2 fv _) ?_; (clear F a M; try clear w); rintro v x w rfl M a F; (try simp only [List.cons_append, List.nil_append] at M)
 refine s_rn 3 F rfl rfl ?_; clear F a; intro a F
 refine s_alc F M rfl rfl rfl rfl zr_53_R2 rfl ?_; (clear F a M; try clear w); intro b13 w M a F
 refine s_stW F M rfl rfl rfl sz_53_R2 rfl rfl rfl rfl rfl ?_; (clear M; try clear w); intro w M
 refine s_I F rfl rfl rfl rfl rfl rfl ?_; clear F a; intro a F
 refine t_endM M ?_; (clear M; try clear w); intro w M
 refine wp_seq ?_
 replace F := F.keep [0, 1, 2, 3, 4, 5, 6, 7, 10, 11, 12, 13, 14] rfl
 refine wp_region_l [.rd, .ind, .wr, .ind, .ind] ([0, 1, 2, 3, 4]) rfl ?_
 refine s_lda F rfl rfl rfl rfl ag_53_R2 rfl rfl (cells_whole M.h0) ?_; clear F a; intro a F
 refine s_I F rfl rfl rfl rfl rfl rfl ?_; clear F a; intro a F
 refine s_stW F M.f4 rfl rfl rfl sz_53_R2 rfl rfl rfl rfl rfl ?_; (clear M; try clear w); intro w M
 refine s_rn 2 F rfl rfl ?_; clear F a; intro a F
 refine t_endM M ?_; (clear M; try clear w); intro w M
 refine wp_ret ?_
 refine rt3 F rfl (by exact rv_a F rfl ag_53_R2 rfl (cells_whole M.h0)) (rv_t F rfl) (rv_t F rfl) ?_
 obtain ⟨e1_, e2_, e3_⟩ := r_some ((r_pv hdn hna hpv).trans (by rw [← hfv]))
 rw [e1_, e2_, e3_]
 refine ⟨_, x, rfl, rfl, ?_⟩
 have M1 : Sep _ _ _ (slR _ _ _ _ _ :: _) := M.f2; replace M := M1; clear M1
 exact Sep.left (m := [_]) M
 clear F; intro hc24 F
 try rw [hc24] at F
 replace hc24 := of_decide_eq_false hc24
 refine s_rn 7 F rfl rfl ?_; clear F a; intro a F
 refine t_endM M ?_; (clear M; try clear w); intro w M
 refine cutX (X := (ByteArray)) (m0 := []) F [0, 1, 2, 3, 4, 5, 6, 7, 10, 11] rfl M (fun (fv : ByteArray) => (fv = if st.free = true then st.now.value else VoteM.empty)) (fun (fv : ByteArray) => [(12, .string fv)]) (fun (fv : ByteArray) => []) ?_ ?_
 refine c_f F rfl ?_
 refine wp_skip ?_
 refine joined (VoteM.empty) (by rw [if_neg (by clear M F; simp only [ASt.free, ASt.now]; grind)]) (F.keep [12, 0, 1, 2, 3, 4, 5, 6, 7, 10, 11] rfl) ?_; (try dsimp only [List.cons_append, List.nil_append]); (refine M.pick ?_; repeat (first | exact PkG.nil | refine PkG.cons 0 rfl rfl ?_ | refine PkG.cons 1 rfl rfl ?_ | refine PkG.cons 2 rfl rfl ?_ | refine PkG.cons 3 rfl rfl ?_))
 clear F M; clear a; (try clear w)
 rintro fv a w hfv F M; try dsimp only at F M
 try simp only [List.cons_append, List.nil_append] at F M
 try dsimp only at hfv
 refine wp_seq ?_
 refine wp_region_l [.rd, .ind, .wr, .ind, .ind, .ind, .wr, .wr, .ind] ([0, 1, 2, 3, 4, 5, 6, 7, 8]) rfl ?_
 refine s_lda F rfl rfl rfl rfl ag_53_R2 rfl rfl (cells_whole M.h3) ?_; clear F a; intro a F
 refine s_I F rfl rfl rfl rfl rfl rfl ?_; clear F a; intro a F
 refine s_call (m := []) F M rfl rfl rfl rfl rfl (rfl : _ = some [_, _, _]) cb_115_R2 (fun nd_ => c115 st 2 fv _) ?_; (clear F a M; try clear w); rintro v x w rfl M a F; (try simp only [List.cons_append, List.nil_append] at M)
 refine s_rn 3 F rfl rfl ?_; clear F a; intro a F
 refine s_alc F M rfl rfl rfl rfl zr_53_R2 rfl ?_; (clear F a M; try clear w); intro b13 w M a F
 refine s_stW F M rfl rfl rfl sz_53_R2 rfl rfl rfl rfl rfl ?_; (clear M; try clear w); intro w M
 refine s_I F rfl rfl rfl rfl rfl rfl ?_; clear F a; intro a F
 refine t_endM M ?_; (clear M; try clear w); intro w M
 refine wp_seq ?_
 replace F := F.keep [0, 1, 2, 3, 4, 5, 6, 7, 10, 11, 12, 13, 14] rfl
 refine wp_region_l [.rd, .ind, .wr, .ind, .ind] ([0, 1, 2, 3, 4]) rfl ?_
 refine s_lda F rfl rfl rfl rfl ag_53_R2 rfl rfl (cells_whole M.h0) ?_; clear F a; intro a F
 refine s_I F rfl rfl rfl rfl rfl rfl ?_; clear F a; intro a F
 refine s_stW F M.f4 rfl rfl rfl sz_53_R2 rfl rfl rfl rfl rfl ?_; (clear M; try clear w); intro w M
 refine s_rn 2 F rfl rfl ?_; clear F a; intro a F
 refine t_endM M ?_; (clear M; try clear w); intro w M
 refine wp_ret ?_
 refine rt3 F rfl (by exact rv_a F rfl ag_53_R2 rfl (cells_whole M.h0)) (rv_t F rfl) (rv_t F rfl) ?_
 obtain ⟨e1_, e2_, e3_⟩ := r_some ((r_pv hdn hna hpv).trans (by rw [← hfv]))
 rw [e1_, e2_, e3_]
 refine ⟨_, x, rfl, rfl, ?_⟩
 have M1 : Sep _ _ _ (slR _ _ _ _ _ :: _) := M.f2; replace M := M1; clear M1
 exact Sep.left (m := [_]) M
 clear F; intro hc25 F
 try rw [hc25] at F
 skip
 refine wp_skip ?_
 refine wp_seq ?_
 refine wp_seq ?_
 have hpv : st.pv = false := (by clear M F; simp only [ASt.pv, ASt.now]; grind)
 replace F := F.keep [0, 1, 2, 3, 4, 5, 6, 7, 10, 11] rfl
 refine wp_region_l [.ind, .ind, .ind, .rd, .ind, .ind, .ind, .ind, .rd, .ind, .ind, .ind, .rd, .ind, .rd, .ind, .rd, .wr, .ind] ([0, 1, 2, 3, 4, 5, 6, 7, 8, 9, 10, 11, 12, 13, 14, 15, 16, 17, 18]) rfl ?_
 refine s_rn 2 F rfl rfl ?_; clear F a; intro a F
 refine s_fa0 F rfl rfl rfl rfl fa_53_11_R2 rfl ?_; clear F a; intro a F
 refine s_ld F rfl rfl rfl rfl sc_4_R2 rfl (by exact cell_of_blk M.h3 (lit rfl)) ?_; clear F a; intro a F
 refine s_rn 3 F rfl rfl ?_; clear F a; intro a F
 refine bsplit F 106 rfl ?_ ?_
 clear F; intro hc26 F
 try rw [hc26] at F
 replace hc26 := nt hc26
 refine s_fa0 F rfl rfl rfl rfl fa_53_4_R2 rfl ?_; clear F a; intro a F
 refine s_ld F rfl rfl rfl rfl sc_3_R2 rfl (by exact cell_of_blk M.h3 (lit rfl)) ?_; clear F a; intro a F
 refine s_rn 3 F rfl rfl ?_; clear F a; intro a F
 refine bsplit F 111 rfl ?_ ?_
 clear F; intro hc27 F
 try rw [hc27] at F
 replace hc27 := nd1 hc27
 refine s_lda F rfl rfl rfl rfl ag_53_R2 rfl rfl (cells_whole M.h3) ?_; clear F a; intro a F
 refine s_fa0 F rfl rfl rfl rfl fa_53_3_R2 rfl ?_; clear F a; intro a F
 refine s_ld F rfl rfl rfl rfl sc_3_R2 rfl (by exact cell_of_blk M.h3 (lit rfl)) ?_; clear F a; intro a F
 refine s_fa0 F rfl rfl rfl rfl fa_32_4_R2 rfl ?_; clear F a; intro a F
 refine s_ld F rfl rfl rfl rfl sc_9_R2 rfl (by exact cell_of_blk M.h0 (lit rfl)) ?_; clear F a; intro a F
 refine s_cq F M rfl rfl rfl rfl rfl (rfl : _ = some [_, _, _, _]) cb_117_R2 (fun nd_ => c117 st W.v.len _ _ 2 st.round (propL st.Ps st.round).value _ (M.chg.ro hrol)) ?_; (clear F a M; try clear w); rintro v w rfl M a F
 refine s_I F rfl rfl rfl rfl rfl rfl ?_; clear F a; intro a F
 refine t_endM M ?_; (clear M; try clear w); intro w M
 refine c_if F rfl ?_ ?_
 clear F; intro hc28 F
 try rw [hc28] at F
 skip
 refine wp_seq ?_
 have hpc : st.pc = true := (by clear M F; simp only [ASt.pc, ASt.now]; grind)
 replace F := F.keep [0, 1, 2, 3, 4, 5, 6, 7, 10, 11] rfl
 refine wp_region_l [.ind] ([0]) rfl ?_
 refine s_I F rfl rfl rfl rfl rfl rfl ?_; clear F a; intro a F
 refine t_endM M ?_; (clear M; try clear w); intro w M
 refine wp_seq ?_
 refine wp_region_l [.ind, .wr] ([0, 1]) rfl ?_
 refine s_fa0 F rfl rfl rfl rfl fa_53_11_R2 rfl ?_; clear F a; intro a F
 refine s_st F M.f3 rfl rfl rfl sz_4_R2 rfl rfl rfl (by exact Nat.le_of_ble_eq_true rfl) ?_; (clear M; try clear w); intro w M
 refine t_endM M ?_; (clear M; try clear w); intro w M
 refine wp_seq ?_
 replace F := F.keep [0, 1, 2, 3, 4, 5, 6, 7, 10, 11, 15] rfl
 refine wp_region_l [.ind, .rd, .ind, .wr] ([0, 1, 2, 3]) rfl ?_
 refine s_fa0 F rfl rfl rfl rfl fa_32_4_R2 rfl ?_; clear F a; intro a F
 refine s_ld F rfl rfl rfl rfl sc_9_R2 rfl (by exact cell_of_blk M.h1 (lit rfl)) ?_; clear F a; intro a F
 refine s_fa0 F rfl rfl rfl rfl fa_53_7_R2 rfl ?_; clear F a; intro a F
 refine s_st F M rfl rfl rfl sz_9_R2 rfl rfl rfl (by exact Nat.le_of_ble_eq_true rfl) ?_; (clear M; try clear w); intro w M
 refine t_endM M ?_; (clear M; try clear w); intro w M
 refine wp_seq ?_
 replace F := F.keep [0, 1, 2, 3, 4, 5, 6, 7, 10, 11, 15] rfl
 refine wp_region_l [.ind, .rd, .ind, .wr] ([0, 1, 2, 3]) rfl ?_
 refine s_fa0 F rfl rfl rfl rfl fa_53_3_R2 rfl ?_; clear F a; intro a F
 refine s_ld F rfl rfl rfl rfl sc_3_R2 rfl (by exact cell_of_blk M.h0 (lit rfl)) ?_; clear F a; intro a F
 refine s_fa0 F rfl rfl rfl rfl fa_53_8_R2 rfl ?_; clear F a; intro a F
 refine s_st F M rfl rfl rfl sz_3_R2 rfl rfl rfl (by exact Nat.le_of_ble_eq_true rfl) ?_; (clear M; try clear w); intro w M
 refine t_endM M ?_; (clear M; try clear w); intro w M
 refine wp_seq ?_
 refine wp_seq ?_
 replace F := F.keep [0, 1, 2, 3, 4, 5, 6, 7, 10, 11, 15] rfl
 refine wp_region_l [.ind, .rd, .ind] ([0, 1, 2]) rfl ?_
 refine s_fa0 F rfl rfl rfl rfl fa_53_4_R2 rfl ?_; clear F a; intro a F
 refine s_ld F rfl rfl rfl rfl sc_3_R2 rfl (by exact cell_of_blk M.h0 (lit rfl)) ?_; clear F a; intro a F
 refine s_bin F rfl rfl rfl rfl rfl rfl rfl ?_; clear F a; intro a F
 refine t_endM M ?_; (clear M; try clear w); intro w M
 refine c_if F rfl ?_ ?_
 clear F; intro hc29 F
 try rw [hc29] at F
 replace hc29 := of_decide_eq_true hc29
 refine wp_seq ?_
 replace F := F.keep [0, 1, 2, 3, 4, 5, 6, 7, 10, 11, 15] rfl
 refine wp_region_l [.ind, .rd, .ind, .wr] ([0, 1, 2, 3]) rfl ?_
 refine s_fa0 F rfl rfl rfl rfl fa_32_4_R2 rfl ?_; clear F a; intro a F
 refine s_ld F rfl rfl rfl rfl sc_9_R2 rfl (by exact cell_of_blk M.h1 (lit rfl)) ?_; clear F a; intro a F
 refine s_fa0 F rfl rfl rfl rfl fa_53_5_R2 rfl ?_; clear F a; intro a F
 refine s_st F M rfl rfl rfl sz_9_R2 rfl rfl rfl (by exact Nat.le_of_ble_eq_true rfl) ?_; (clear M; try clear w); intro w M
 refine t_endM M ?_; (clear M; try clear w); intro w M
 refine wp_seq ?_
 replace F := F.keep [0, 1, 2, 3, 4, 5, 6, 7, 10, 11, 15] rfl
 refine wp_region_l [.ind, .rd, .ind, .wr] ([0, 1, 2, 3]) rfl ?_
 refine s_fa0 F rfl rfl rfl rfl fa_53_3_R2 rfl ?_; clear F a; intro a F
 refine s_ld F rfl rfl rfl rfl sc_3_R2 rfl (by exact cell_of_blk M.h0 (lit rfl)) ?_; clear F a; intro a F
 refine s_fa0 F rfl rfl rfl rfl fa_53_6_R2 rfl ?_; clear F a; intro a F
 refine s_st F M rfl rfl rfl sz_3_R2 rfl rfl rfl (by exact Nat.le_of_ble_eq_true rfl) ?_; (clear M; try clear w); intro w M
 refine t_endM M ?_; (clear M; try clear w); intro w M
 replace F := F.keep [0, 1, 2, 3, 4, 5, 6, 7, 10, 11, 15] rfl
 refine wp_region_l [.rd, .ind, .rd, .wr, .ind, .ind, .ind, .wr, .ind] ([0, 1, 2, 3, 4, 5, 6, 7, 8]) rfl ?_
 refine s_lda F rfl rfl rfl rfl ag_53_R2 rfl rfl (cells_whole M.h0) ?_; clear F a; intro a F
 refine s_fa0 F rfl rfl rfl rfl fa_32_4_R2 rfl ?_; clear F a; intro a F
 refine s_ld F rfl rfl rfl rfl sc_9_R2 rfl (by exact cell_of_blk M.h1 (lit rfl)) ?_; clear F a; intro a F
 refine s_call (m := []) F M rfl rfl rfl rfl rfl (rfl : _ = some [_, _, _]) cb_115_R2 (fun nd_ => c115 { st with seen := true, val := st.now.value, valR := st.round, lock := st.now.value, lockR := st.round } 3 (propL st.Ps st.round).value _) ?_; (clear F a M; try clear w); rintro v x w rfl M a F; (try simp only [List.cons_append, List.nil_append] at M)
 refine s_rn 3 F rfl rfl ?_; clear F a; intro a F
 refine s_stW F M.f1 rfl rfl rfl sz_53_R2 rfl rfl rfl rfl rfl ?_; (clear M; try clear w); intro w M
 refine s_I F rfl rfl rfl rfl rfl rfl ?_; clear F a; intro a F
 refine t_endM M ?_; (clear M; try clear w); intro w M
 refine wp_seq ?_
 replace F := F.keep [0, 1, 2, 3, 4, 5, 6, 7, 10, 11, 15] rfl
 refine wp_region_l [.rd, .ind, .wr, .ind, .ind] ([0, 1, 2, 3, 4]) rfl ?_
 refine s_lda F rfl rfl rfl rfl ag_53_R2 rfl rfl (cells_whole M.h0) ?_; clear F a; intro a F
 refine s_I F rfl rfl rfl rfl rfl rfl ?_; clear F a; intro a F
 refine s_stW F M.f4 rfl rfl rfl sz_53_R2 rfl rfl rfl rfl rfl ?_; (clear M; try clear w); intro w M
 refine s_rn 2 F rfl rfl ?_; clear F a; intro a F
 refine t_endM M ?_; (clear M; try clear w); intro w M
 refine wp_ret ?_
 refine rt3 F rfl (by exact rv_a F rfl ag_53_R2 rfl (cells_whole M.h0)) (rv_t F rfl) (rv_t F rfl) ?_
 first
 | (have h2s : st.step = 2 := by assumption
    have hr := r_pc hdn hna hpv hpc
    rw [lock5_2 h2s, if_pos h2s] at hr
    obtain ⟨e1_, e2_, e3_⟩ := r_some hr
    rw [e1_, e2_, e3_]
    refine ⟨_, x, rfl, rfl, ?_⟩
    have M1 : Sep _ _ _ (slR _ _ _ _ _ :: _) := M.f2; replace M := M1; clear M1
    exact Sep.left (m := [_]) M)
 | (have h2s : ¬ st.step = 2 := by assumption
    have hr := r_pc hdn hna hpv hpc
    rw [lock5_n h2s, if_neg h2s] at hr
    replace M := M.nilT encW 32 5
    obtain ⟨e1_, e2_, e3_⟩ := r_some hr
    rw [e1_, e2_, e3_]
    refine ⟨_, .slice none 0 0, rfl, rfl, ?_⟩
    exact Sep.left (m := [_]) M)
 clear F; intro hc30 F
 try rw [hc30] at F
 replace hc30 := of_decide_eq_false hc30
 refine wp_skip ?_
 refine wp_seq ?_
 replace F := F.keep [0, 1, 2, 3, 4, 5, 6, 7, 10, 11, 15] rfl
 refine wp_region_l [.rd, .ind, .wr, .ind, .ind] ([0, 1, 2, 3, 4]) rfl ?_
 refine s_lda F rfl rfl rfl rfl ag_53_R2 rfl rfl (cells_whole M.h0) ?_; clear F a; intro a F
 refine s_I F rfl rfl rfl rfl rfl rfl ?_; clear F a; intro a F
 refine s_stW F M.f3 rfl rfl rfl sz_53_R2 rfl rfl rfl rfl rfl ?_; (clear M; try clear w); intro w M
 refine s_rn 2 F rfl rfl ?_; clear F a; intro a F
 refine t_endM M ?_; (clear M; try clear w); intro w M
 refine wp_ret ?_
 refine rt3 F rfl (by exact rv_a F rfl ag_53_R2 rfl (cells_whole M.h0)) (rv_t F rfl) (rv_t F rfl) ?_
 first
 | (have h2s : st.step = 2 := by assumption
    have hr := r_pc hdn hna hpv hpc
    rw [lock5_2 h2s, if_pos h2s] at hr
    obtain ⟨e1_, e2_, e3_⟩ := r_some hr
    rw [e1_, e2_, e3_]
    refine ⟨_, x, rfl, rfl, ?_⟩
    first | (have M1 : Sep _ _ _ (slR _ _ _ _ _ :: _) := M; replace M := M1; clear M1) | (have M1 : Sep _ _ _ (slR _ _ _ _ _ :: _) := M.f1; replace M := M1; clear M1) | (have M1 : Sep _ _ _ (slR _ _ _ _ _ :: _) := M.f2; replace M := M1; clear M1) | (have M1 : Sep _ _ _ (slR _ _ _ _ _ :: _) := M.f3; replace M := M1; clear M1) | (have M1 : Sep _ _ _ (slR _ _ _ _ _ :: _) := M.f4; replace M := M1; clear M1) | (have M1 : Sep _ _ _ (slR _ _ _ _ _ :: _) := M.f5; replace M := M1; clear M1) | (have M1 : Sep _ _ _ (slR _ _ _ _ _ :: _) := M.f6; replace M := M1; clear M1) | (have M1 : Sep _ _ _ (slR _ _ _ _ _ :: _) := M.f7; replace M := M1; clear M1)
    exact Sep.left (m := [_]) M)
 | (have h2s : ¬ st.step = 2 := by assumption
    have hr := r_pc hdn hna hpv hpc
    rw [lock5_n h2s, if_neg h2s] at hr
    replace M := M.nilT encW 32 5
    obtain ⟨e1_, e2_, e3_⟩ := r_some hr
    rw [e1_, e2_, e3_]
    refine ⟨_, .slice none 0 0, rfl, rfl, ?_⟩
    exact Sep.left (m := [_]) M)
 clear F; intro hc31 F
 try rw [hc31] at F
 skip
 refine wp_skip ?_
 refine wp_seq ?_
 refine wp_seq ?_
 have hpc : st.pc = false := (by clear M F; simp only [ASt.pc, ASt.now]; grind)
 replace F := F.keep [0, 1, 2, 3, 4, 5, 6, 7, 10, 11] rfl
 refine wp_region_l [.ind, .rd, .ind, .ind, .rd, .ind, .rd, .wr, .ind] ([0, 1, 2, 3, 4, 5, 6, 7, 8]) rfl ?_
 refine s_fa0 F rfl rfl rfl rfl fa_53_4_R2 rfl ?_; clear F a; intro a F
 refine s_ld F rfl rfl rfl rfl sc_3_R2 rfl (by exact cell_of_blk M.h3 (lit rfl)) ?_; clear F a; intro a F
 refine s_rn 2 F rfl rfl ?_; clear F a; intro a F
 refine bsplit F 147 rfl ?_ ?_
 clear F; intro hc32 F
 try rw [hc32] at F
 replace hc32 := of_decide_eq_true hc32
 refine s_lda F rfl rfl rfl rfl ag_53_R2 rfl rfl (cells_whole M.h3) ?_; clear F a; intro a F
 refine s_fa0 F rfl rfl rfl rfl fa_53_3_R2 rfl ?_; clear F a; intro a F
 refine s_ld F rfl rfl rfl rfl sc_3_R2 rfl (by exact cell_of_blk M.h3 (lit rfl)) ?_; clear F a; intro a F
 refine s_cq F M rfl rfl rfl rfl rfl (rfl : _ = some [_, _, _, _]) cb_117_R2 (fun nd_ => c117 st W.v.len _ _ 2 st.round VoteM.empty _ (M.chg.ro hrol)) ?_; (clear F a M; try clear w); rintro v w rfl M a F
 refine s_I F rfl rfl rfl rfl rfl rfl ?_; clear F a; intro a F
 refine t_endM M ?_; (clear M; try clear w); intro w M
 refine c_if F rfl ?_ ?_
 clear F; intro hc33 F
 try rw [hc33] at F
 skip
 refine wp_seq ?_
 have hni : st.nil = true := (by clear M F; simp only [ASt.nil, ASt.now]; grind)
 replace F := F.keep [0, 1, 2, 3, 4, 5, 6, 7, 10, 11] rfl
 refine wp_region_l [.rd, .wr, .ind, .ind, .ind, .wr, .wr, .ind] ([0, 1, 2, 3, 4, 5, 6, 7]) rfl ?_
 refine s_lda F rfl rfl rfl rfl ag_53_R2 rfl rfl (cells_whole M.h3) ?_; clear F a; intro a F
 refine s_call (m := []) F M rfl rfl rfl rfl rfl (rfl : _ = some [_, _, _]) cb_115_R2 (fun nd_ => c115 st 3 VoteM.empty _) ?_; (clear F a M; try clear w); rintro v x w rfl M a F; (try simp only [List.cons_append, List.nil_append] at M)
 refine s_rn 3 F rfl rfl ?_; clear F a; intro a F
 refine s_alc F M rfl rfl rfl rfl zr_53_R2 rfl ?_; (clear F a M; try clear w); intro b16 w M a F
 refine s_stW F M rfl rfl rfl sz_53_R2 rfl rfl rfl rfl rfl ?_; (clear M; try clear w); intro w M
 refine s_I F rfl rfl rfl rfl rfl rfl ?_; clear F a; intro a F
 refine t_endM M ?_; (clear M; try clear w); intro w M
 refine wp_seq ?_
 replace F := F.keep [0, 1, 2, 3, 4, 5, 6, 7, 10, 11, 16, 17] rfl
 refine wp_region_l [.rd, .ind, .wr, .ind, .ind] ([0, 1, 2, 3, 4]) rfl ?_
 refine s_lda F rfl rfl rfl rfl ag_53_R2 rfl rfl (cells_whole M.h0) ?_; clear F a; intro a F
 refine s_I F rfl rfl rfl rfl rfl rfl ?_; clear F a; intro a F
 refine s_stW F M.f4 rfl rfl rfl sz_53_R2 rfl rfl rfl rfl rfl ?_; (clear M; try clear w); intro w M
 refine s_rn 2 F rfl rfl ?_; clear F a; intro a F
 refine t_endM M ?_; (clear M; try clear w); intro w M
 refine wp_ret ?_
 refine rt3 F rfl (by exact rv_a F rfl ag_53_R2 rfl (cells_whole M.h0)) (rv_t F rfl) (rv_t F rfl) ?_
 obtain ⟨e1_, e2_, e3_⟩ := r_some (r_nil hdn hna hpv hpc hni)
 rw [e1_, e2_, e3_]
 refine ⟨_, x, rfl, rfl, ?_⟩
 have M1 : Sep _ _ _ (slR _ _ _ _ _ :: _) := M.f2; replace M := M1; clear M1
 exact Sep.left (m := [_]) M
 clear F; intro hc34 F
 try rw [hc34] at F
 skip
 refine wp_skip ?_
 refine wp_seq ?_
 have hni : st.nil = false := (by clear M F; simp only [ASt.nil, ASt.now]; grind)
 replace F := F.keep [0, 1, 2, 3, 4, 5, 6, 7, 10, 11] rfl
 refine wp_region_l [.rd, .wr, .ind, .ind] ([0, 1, 2, 3]) rfl ?_
 refine s_lda F rfl rfl rfl rfl ag_53_R2 rfl rfl (cells_whole M.h3) ?_; clear F a; intro a F
 refine s_stW F M.f2 rfl rfl rfl sz_53_R2 rfl rfl rfl rfl rfl ?_; (clear M; try clear w); intro w M
 refine s_rn 2 F rfl rfl ?_; clear F a; intro a F
 refine t_endM M ?_; (clear M; try clear w); intro w M
 refine wp_ret ?_
 refine rt3 F rfl (by exact rv_a F rfl ag_53_R2 rfl (cells_whole M.h0)) (rv_t F rfl) (rv_t F rfl) ?_
 replace M := M.nilT encW 32 5
 obtain ⟨e1_, e2_, e3_⟩ := r_none (r_not hdn hna hpv hpc hni)
 rw [e1_, e2_, e3_]
 refine ⟨_, .slice none 0 0, rfl, rfl, ?_⟩
 exact Sep.left (m := [_]) M
 clear F; intro hc35 F
 try rw [hc35] at F
 replace hc35 := of_decide_eq_false hc35
 refine s_rn 5 F rfl rfl ?_; clear F a; intro a F
 refine t_endM M ?_; (clear M; try clear w); intro w M
 refine c_f F rfl ?_
 refine wp_skip ?_
 refine wp_seq ?_
 have hni : st.nil = false := (by clear M F; simp only [ASt.nil, ASt.now]; grind)
 replace F := F.keep [0, 1, 2, 3, 4, 5, 6, 7, 10, 11] rfl
 refine wp_region_l [.rd, .wr, .ind, .ind] ([0, 1, 2, 3]) rfl ?_
 refine s_lda F rfl rfl rfl rfl ag_53_R2 rfl rfl (cells_whole M.h3) ?_; clear F a; intro a F
 refine s_stW F M.f2 rfl rfl rfl sz_53_R2 rfl rfl rfl rfl rfl ?_; (clear M; try clear w); intro w M
 refine s_rn 2 F rfl rfl ?_; clear F a; intro a F
 refine t_endM M ?_; (clear M; try clear w); intro w M
 refine wp_ret ?_
 refine rt3 F rfl (by exact rv_a F rfl ag_53_R2 rfl (cells_whole M.h0)) (rv_t F rfl) (rv_t F rfl) ?_
 replace M := M.nilT encW 32 5
 obtain ⟨e1_, e2_, e3_⟩ := r_none (r_not hdn hna hpv hpc hni)
 rw [e1_, e2_, e3_]
 refine ⟨_, .slice none 0 0, rfl, rfl, ?_⟩
 exact Sep.left (m := [_]) M
 clear F; intro hc36 F
 try rw [hc36] at F
 replace hc36 := nd0 hc36
 refine s_rn 7 F rfl rfl ?_; clear F a; intro a F
 refine t_endM M ?_; (clear M; try clear w); intro w M
 refine c_f F rfl ?_
 refine wp_skip ?_
 refine wp_seq ?_
 refine wp_seq ?_
 have hpc : st.pc = false := (by clear M F; simp only [ASt.pc, ASt.now]; grind)
 replace F := F.keep [0, 1, 2, 3, 4, 5, 6, 7, 10, 11] rfl
 refine wp_region_l [.ind, .rd, .ind, .ind, .rd, .ind, .rd, .wr, .ind] ([0, 1, 2, 3, 4, 5, 6, 7, 8]) rfl ?_
 refine s_fa0 F rfl rfl rfl rfl fa_53_4_R2 rfl ?_; clear F a; intro a F
 refine s_ld F rfl rfl rfl rfl sc_3_R2 rfl (by exact cell_of_blk M.h3 (lit rfl)) ?_; clear F a; intro a F
 refine s_rn 2 F rfl rfl ?_; clear F a; intro a F
 refine bsplit F 147 rfl ?_ ?_
 clear F; intro hc37 F
 try rw [hc37] at F
 replace hc37 := of_decide_eq_true hc37
 refine s_lda F rfl rfl rfl rfl ag_53_R2 rfl rfl (cells_whole M.h3) ?_; clear F a; intro a F
 refine s_fa0 F rfl rfl rfl rfl fa_53_3_R2 rfl ?_; clear F a; intro a F
 refine s_ld F rfl rfl rfl rfl sc_3_R2 rfl (by exact cell_of_blk M.h3 (lit rfl)) ?_; clear F a; intro a F
 refine s_cq F M rfl rfl rfl rfl rfl (rfl : _ = some [_, _, _, _]) cb_117_R2 (fun nd_ => c117 st W.v.len _ _ 2 st.round VoteM.empty _ (M.chg.ro hrol)) ?_; (clear F a M; try clear w); rintro v w rfl M a F
 refine s_I F rfl rfl rfl rfl rfl rfl ?_; clear F a; intro a F
 refine t_endM M ?_; (clear M; try clear w); intro w M
 refine c_if F rfl ?_ ?_
 clear F; intro hc38 F
 try rw [hc38] at F
 skip
 refine wp_seq ?_
 have hni : st.nil = true := (by clear M F; simp only [ASt.nil, ASt.now]; grind)
 replace F := F.keep [0, 1, 2, 3, 4, 5, 6, 7, 10, 11] rfl
 refine wp_region_l [.rd, .wr, .ind, .ind, .ind, .wr, .wr, .ind] ([0, 1, 2, 3, 4, 5, 6, 7]) rfl ?_
 refine s_lda F rfl rfl rfl rfl ag_53_R2 rfl rfl (cells_whole M.h3) ?_; clear F a; intro a F
 refine s_call (m := []) F M rfl rfl rfl rfl rfl (rfl : _ = some [_, _, _]) cb_115_R2 (fun nd_ => c115 st 3 VoteM.empty _) ?_; (clear F a M; try clear w); rintro v x w rfl M a F; (try simp only [List.cons_append, List.nil_append] at M)
 refine s_rn 3 F rfl rfl ?_; clear F a; intro a F
 refine s_alc F M rfl rfl rfl rfl zr_53_R2 rfl ?_; (clear F a M; try clear w); intro b16 w M a F
 refine s_stW F M rfl rfl rfl sz_53_R2 rfl rfl rfl rfl rfl ?_; (clear M; try clear w); intro w M
 refine s_I F rfl rfl rfl rfl rfl rfl ?_; clear F a; intro a F
 refine t_endM M ?_; (clear M; try clear w); intro w M
 refine wp_seq ?_
 replace F := F.keep [0, 1, 2, 3, 4, 5, 6, 7, 10, 11, 16, 17] rfl
 refine wp_region_l [.rd, .ind, .wr, .ind, .ind] ([0, 1, 2, 3, 4]) rfl ?_
 refine s_lda F rfl rfl rfl rfl ag_53_R2 rfl rfl (cells_whole M.h0) ?_; clear F a; intro a F
 refine s_I F rfl rfl rfl rfl rfl rfl ?_; clear F a; intro a F
 refine s_stW F M.f4 rfl rfl rfl sz_53_R2 rfl rfl rfl rfl rfl ?_; (clear M; try clear w); intro w M
 refine s_rn 2 F rfl rfl ?_; clear F a; intro a F
 refine t_endM M ?_; (clear M; try clear w); intro w M
 refine wp_ret ?_
 refine rt3 F rfl (by exact rv_a F rfl ag_53_R2 rfl (cells_whole M.h0)) (rv_t F rfl) (rv_t F rfl) ?_
 obtain ⟨e1_, e2_, e3_⟩ := r_some (r_nil hdn hna hpv hpc hni)
 rw [e1_, e2_, e3_]
 refine ⟨_, x, rfl, rfl, ?_⟩
 have M1 : Sep _ _ _ (slR _ _ _ _ _ :: _) := M.f2; replace M := M1; clear M1
 exact Sep.left (m := [_]) M
 clear F; intro hc39 F
 try rw [hc39] at F
 skip
 refine wp_skip ?_
 refine wp_seq ?_
 have hni : st.nil = false := (by clear M F; simp only [ASt.nil, ASt.now]; grind)
 replace F := F.keep [0, 1, 2, 3, 4, 5, 6, 7, 10, 11] rfl
 refine wp_region_l [.rd, .wr, .ind, .ind] ([0, 1, 2, 3]) rfl ?_
 refine s_lda F rfl rfl rfl rfl ag_53_R2 rfl rfl (cells_whole M.h3) ?_; clear F a; intro a F
 refine s_stW F M.f2 rfl rfl rfl sz_53_R2 rfl rfl rfl rfl rfl ?_; (clear M; try clear w); intro w M
 refine s_rn 2 F rfl rfl ?_; clear F a; intro a F
 refine t_endM M ?_; (clear M; try clear w); intro w M
 refine wp_ret ?_
 refine rt3 F rfl (by exact rv_a F rfl ag_53_R2 rfl (cells_whole M.h0)) (rv_t F rfl) (rv_t F rfl) ?_
 replace M := M.nilT encW 32 5
 obtain ⟨e1_, e2_, e3_⟩ := r_none (r_not hdn hna hpv hpc hni)
 rw [e1_, e2_, e3_]
 refine ⟨_, .slice none 0 0, rfl, rfl, ?_⟩
 exact Sep.left (m := [_]) M
 clear F; intro hc40 F
 try rw [hc40] at F
 replace hc40 := of_decide_eq_false hc40
 refine s_rn 5 F rfl rfl ?_; clear F a; intro a F
 refine t_endM M ?_; (clear M; try clear w); intro w M
 refine c_f F rfl ?_
 refine wp_skip ?_
 refine wp_seq ?_
 have hni : st.nil = false := (by clear M F; simp only [ASt.nil, ASt.now]; grind)
 replace F := F.keep [0, 1, 2, 3, 4, 5, 6, 7, 10, 11] rfl
 refine wp_region_l [.rd, .wr, .ind, .ind] ([0, 1, 2, 3]) rfl ?_
 refine s_lda F rfl rfl rfl rfl ag_53_R2 rfl rfl (cells_whole M.h3) ?_; clear F a; intro a F
 refine s_stW F M.f2 rfl rfl rfl sz_53_R2 rfl rfl rfl rfl rfl ?_; (clear M; try clear w); intro w M
 refine s_rn 2 F rfl rfl ?_; clear F a; intro a F
 refine t_endM M ?_; (clear M; try clear w); intro w M
 refine wp_ret ?_
 refine rt3 F rfl (by exact rv_a F rfl ag_53_R2 rfl (cells_whole M.h0)) (rv_t F rfl) (rv_t F rfl) ?_
 replace M := M.nilT encW 32 5
 obtain ⟨e1_, e2_, e3_⟩ := r_none (r_not hdn hna hpv hpc hni)
 rw [e1_, e2_, e3_]
 refine ⟨_, .slice none 0 0, rfl, rfl, ?_⟩
 exact Sep.left (m := [_]) M
 clear F; intro hc41 F
 try rw [hc41] at F
 replace hc41 := nf hc41
 refine s_rn 12 F rfl rfl ?_; clear F a; intro a F
 refine t_endM M ?_; (clear M; try clear w); intro w M
 refine c_f F rfl ?_
 refine wp_skip ?_
 refine wp_seq ?_
 refine wp_seq ?_
 have hpc : st.pc = false := (by clear M F; simp only [ASt.pc, ASt.now]; grind)
 replace F := F.keep [0, 1, 2, 3, 4, 5, 6, 7, 10, 11] rfl
 refine wp_region_l [.ind, .rd, .ind, .ind, .rd, .ind, .rd, .wr, .ind] ([0, 1, 2, 3, 4, 5, 6, 7, 8]) rfl ?_
 refine s_fa0 F rfl rfl rfl rfl fa_53_4_R2 rfl ?_; clear F a; intro a F
 refine s_ld F rfl rfl rfl rfl sc_3_R2 rfl (by exact cell_of_blk M.h3 (lit rfl)) ?_; clear F a; intro a F
 refine s_rn 2 F rfl rfl ?_; clear F a; intro a F
 refine bsplit F 147 rfl ?_ ?_
 clear F; intro hc42 F
 try rw [hc42] at F
 replace hc42 := of_decide_eq_true hc42
 refine s_lda F rfl rfl rfl rfl ag_53_R2 rfl rfl (cells_whole M.h3) ?_; clear F a; intro a F
 refine s_fa0 F rfl rfl rfl rfl fa_53_3_R2 rfl ?_; clear F a; intro a F
 refine s_ld F rfl rfl rfl rfl sc_3_R2 rfl (by exact cell_of_blk M.h3 (lit rfl)) ?_; clear F a; intro a F
 refine s_cq F M rfl rfl rfl rfl rfl (rfl : _ = some [_, _, _, _]) cb_117_R2 (fun nd_ => c117 st W.v.len _ _ 2 st.round VoteM.empty _ (M.chg.ro hrol)) ?_; (clear F a M; try clear w); rintro v w rfl M a F
 refine s_I F rfl rfl rfl rfl rfl rfl ?_; clear F a; intro a F
 refine t_endM M ?_; (clear M; try clear w); intro w M
 refine c_if F rfl ?_ ?_
 clear F; intro hc43 F
 try rw [hc43] at F
 skip
 refine wp_seq ?_
 have hni : st.nil = true := (by clear M F; simp only [ASt.nil, ASt.now]; grind)
 replace F := F.keep [0, 1, 2, 3, 4, 5, 6, 7, 10, 11] rfl
 refine wp_region_l [.rd, .wr, .ind, .ind, .ind, .wr, .wr, .ind] ([0, 1, 2, 3, 4, 5, 6, 7]) rfl ?_
 refine s_lda F rfl rfl rfl rfl ag_53_R2 rfl rfl (cells_whole M.h3) ?_; clear F a; intro a F
 refine s_call (m := []) F M rfl rfl rfl rfl rfl (rfl : _ = some [_, _, _]) cb_115_R2 (fun nd_ => c115 st 3 VoteM.empty _) ?_; (clear F a M; try clear w); rintro v x w rfl M a F; (try simp only [List.cons_append, List.nil_append] at M)
 refine s_rn 3 F rfl rfl ?_; clear F a; intro a F
 refine s_alc F M rfl rfl rfl rfl zr_53_R2 rfl ?_; (clear F a M; try clear w); intro b16 w M a F
 refine s_stW F M rfl rfl rfl sz_53_R2 rfl rfl rfl rfl rfl ?_; (clear M; try clear w); intro w M
 refine s_I F rfl rfl rfl rfl rfl rfl ?_; clear F a; intro a F
 refine t_endM M ?_; (clear M; try clear w); intro w M
 refine wp_seq ?_
 replace F := F.keep [0, 1, 2, 3, 4, 5, 6, 7, 10, 11, 16, 17] rfl
 refine wp_region_l [.rd, .ind, .wr, .ind, .ind] ([0, 1, 2, 3, 4]) rfl ?_
 refine s_lda F rfl rfl rfl rfl ag_53_R2 rfl rfl (cells_whole M.h0) ?_; clear F a; intro a F
 refine s_I F rfl rfl rfl rfl rfl rfl ?_; clear F a; intro a F
 refine s_stW F M.f4 rfl rfl rfl sz_53_R2 rfl rfl rfl rfl rfl ?_; (clear M; try clear w); intro w M
 refine s_rn 2 F rfl rfl ?_; clear F a; intro a F
 refine t_endM M ?_; (clear M; try clear w); intro w M
 refine wp_ret ?_
 refine rt3 F rfl (by exact rv_a F rfl ag_53_R2 rfl (cells_whole M.h0)) (rv_t F rfl) (rv_t F rfl) ?_
 obtain ⟨e1_, e2_, e3_⟩ := r_some (r_nil hdn hna hpv hpc hni)
 rw [e1_, e2_, e3_]
 refine ⟨_, x, rfl, rfl, ?_⟩
 have M1 : Sep _ _ _ (slR _ _ _ _ _ :: _) := M.f2; replace M := M1; clear M1
 exact Sep.left (m := [_]) M
 clear F; intro hc44 F
 try rw [hc44] at F
 skip
 refine wp_skip ?_
 refine wp_seq ?_
 have hni : st.nil = false := (by clear M F; simp only [ASt.nil, ASt.now]; grind)
 replace F := F.keep [0, 1, 2, 3, 4, 5, 6, 7, 10, 11] rfl
 refine wp_region_l [.rd, .wr, .ind, .ind] ([0, 1, 2, 3]) rfl ?_
 refine s_lda F rfl rfl rfl rfl ag_53_R2 rfl rfl (cells_whole M.h3) ?_; clear F a; intro a F
 refine s_stW F M.f2 rfl rfl rfl sz_53_R2 rfl rfl rfl rfl rfl ?_; (clear M; try clear w); intro w M
 refine s_rn 2 F rfl rfl ?_; clear F a; intro a F
 refine t_endM M ?_; (clear M; try clear w); intro w M
 refine wp_ret ?_
 refine rt3 F rfl (by exact rv_a F rfl ag_53_R2 rfl (cells_whole M.h0)) (rv_t F rfl) (rv_t F rfl) ?_
 replace M := M.nilT encW 32 5
 obtain ⟨e1_, e2_, e3_⟩ := r_none (r_not hdn hna hpv hpc hni)
 rw [e1_, e2_, e3_]
 refine ⟨_, .slice none 0 0, rfl, rfl, ?_⟩
 exact Sep.left (m := [_]) M
 clear F; intro hc45 F
 try rw [hc45] at F
 replace hc45 := of_decide_eq_false hc45
 refine s_rn 5 F rfl rfl ?_; clear F a; intro a F
 refine t_endM M ?_; (clear M; try clear w); intro w M
 refine c_f F rfl ?_
 refine wp_skip ?_
 refine wp_seq ?_
 have hni : st.nil = false := (by clear M F; simp only [ASt.nil, ASt.now]; grind)
 replace F := F.keep [0, 1, 2, 3, 4, 5, 6, 7, 10, 11] rfl
 refine wp_region_l [.rd, .wr, .ind, .ind] ([0, 1, 2, 3]) rfl ?_
 refine s_lda F rfl rfl rfl rfl ag_53_R2 rfl rfl (cells_whole M.h3) ?_; clear F a; intro a F
 refine s_stW F M.f2 rfl rfl rfl sz_53_R2 rfl rfl rfl rfl rfl ?_; (clear M; try clear w); intro w M
 refine s_rn 2 F rfl rfl ?_; clear F a; intro a F
 refine t_endM M ?_; (clear M; try clear w); intro w M
 refine wp_ret ?_
 refine rt3 F rfl (by exact rv_a F rfl ag_53_R2 rfl (cells_whole M.h0)) (rv_t F rfl) (rv_t F rfl) ?_
 replace M := M.nilT encW 32 5
 obtain ⟨e1_, e2_, e3_⟩ := r_none (r_not hdn hna hpv hpc hni)
 rw [e1_, e2_, e3_]
 refine ⟨_, .slice none 0 0, rfl, rfl, ?_⟩
 exact Sep.left (m := [_]) M
 clear F; intro hc46 F
 try rw [hc46] at F
 replace hc46 := of_decide_eq_false hc46
 refine s_rn 12 F rfl rfl ?_; clear F a; intro a F
 refine t_endM M ?_; (clear M; try clear w); intro w M
 refine c_f F rfl ?_
 refine wp_skip ?_
 refine wp_seq ?_
 refine wp_seq ?_
 have hpv : st.pv = false := (by clear M F; simp only [ASt.pv, ASt.now]; grind)
 replace F := F.keep [0, 1, 2, 3, 4, 5, 6, 7, 10, 11] rfl
 refine wp_region_l [.ind, .ind, .ind, .rd, .ind, .ind, .ind, .ind, .rd, .ind, .ind, .ind, .rd, .ind, .rd, .ind, .rd, .wr, .ind] ([0, 1, 2, 3, 4, 5, 6, 7, 8, 9, 10, 11, 12, 13, 14, 15, 16, 17, 18]) rfl ?_
 refine s_rn 2 F rfl rfl ?_; clear F a; intro a F
 refine s_fa0 F rfl rfl rfl rfl fa_53_11_R2 rfl ?_; clear F a; intro a F
 refine s_ld F rfl rfl rfl rfl sc_4_R2 rfl (by exact cell_of_blk M.h3 (lit rfl)) ?_; clear F a; intro a F
 refine s_rn 3 F rfl rfl ?_; clear F a; intro a F
 refine bsplit F 106 rfl ?_ ?_
 clear F; intro hc47 F
 try rw [hc47] at F
 replace hc47 := nt hc47
 refine s_fa0 F rfl rfl rfl rfl fa_53_4_R2 rfl ?_; clear F a; intro a F
 refine s_ld F rfl rfl rfl rfl sc_3_R2 rfl (by exact cell_of_blk M.h3 (lit rfl)) ?_; clear F a; intro a F
 refine s_rn 3 F rfl rfl ?_; clear F a; intro a F
 refine bsplit F 111 rfl ?_ ?_
 clear F; intro hc48 F
 try rw [hc48] at F
 replace hc48 := nd1 hc48
 refine s_lda F rfl rfl rfl rfl ag_53_R2 rfl rfl (cells_whole M.h3) ?_; clear F a; intro a F
 refine s_fa0 F rfl rfl rfl rfl fa_53_3_R2 rfl ?_; clear F a; intro a F
 refine s_ld F rfl rfl rfl rfl sc_3_R2 rfl (by exact cell_of_blk M.h3 (lit rfl)) ?_; clear F a; intro a F
 refine s_fa0 F rfl rfl rfl rfl fa_32_4_R2 rfl ?_; clear F a; intro a F
 refine s_ld F rfl rfl rfl rfl sc_9_R2 rfl (by exact cell_of_blk M.h0 (lit rfl)) ?_; clear F a; intro a F
 refine s_cq F M rfl rfl rfl rfl rfl (rfl : _ = some [_, _, _, _]) cb_117_R2 (fun nd_ => c117 st W.v.len _ _ 2 st.round (propL st.Ps st.round).value _ (M.chg.ro hrol)) ?_; (clear F a M; try clear w); rintro v w rfl M a F
 refine s_I F rfl rfl rfl rfl rfl rfl ?_; clear F a; intro a F
 refine t_endM M ?_; (clear M; try clear w); intro w M
 refine c_if F rfl ?_ ?_
 clear F; intro hc49 F
 try rw [hc49] at F
 skip
 refine wp_seq ?_
 have hpc : st.pc = true := (by clear M F; simp only [ASt.pc, ASt.now]; grind)
 replace F := F.keep [0, 1, 2, 3, 4, 5, 6, 7, 10, 11] rfl
 refine wp_region_l [.ind] ([0]) rfl ?_
 refine s_I F rfl rfl rfl rfl rfl rfl ?_; clear F a; intro a F
 refine t_endM M ?_; (clear M; try clear w); intro w M
 refine wp_seq ?_
 refine wp_region_l [.ind, .wr] ([0, 1]) rfl ?_
 refine s_fa0 F rfl rfl rfl rfl fa_53_11_R2 rfl ?_; clear F a; intro a F
 refine s_st F M.f3 rfl rfl rfl sz_4_R2 rfl rfl rfl (by exact Nat.le_of_ble_eq_true rfl) ?_; (clear M; try clear w); intro w M
 refine t_endM M ?_; (clear M; try clear w); intro w M
 refine wp_seq ?_
 replace F := F.keep [0, 1, 2, 3, 4, 5, 6, 7, 10, 11, 15] rfl
 refine wp_region_l [.ind, .rd, .ind, .wr] ([0, 1, 2, 3]) rfl ?_
 refine s_fa0 F rfl rfl rfl rfl fa_32_4_R2 rfl ?_; clear F a; intro a F
 refine s_ld F rfl rfl rfl rfl sc_9_R2 rfl (by exact cell_of_blk M.h1 (lit rfl)) ?_; clear F a; intro a F
 refine s_fa0 F rfl rfl rfl rfl fa_53_7_R2 rfl ?_; clear F a; intro a F
 refine s_st F M rfl rfl rfl sz_9_R2 rfl rfl rfl (by exact Nat.le_of_ble_eq_true rfl) ?_; (clear M; try clear w); intro w M
 refine t_endM M ?_; (clear M; try clear w); intro w M
 refine wp_seq ?_
 replace F := F.keep [0, 1, 2, 3, 4, 5, 6, 7, 10, 11, 15] rfl
 refine wp_region_l [.ind, .rd, .ind, .wr] ([0, 1, 2, 3]) rfl ?_
 refine s_fa0 F rfl rfl rfl rfl fa_53_3_R2 rfl ?_; clear F a; intro a F
 refine s_ld F rfl rfl rfl rfl sc_3_R2 rfl (by exact cell_of_blk M.h0 (lit rfl)) ?_; clear F a; intro a F
 refine s_fa0 F rfl rfl rfl rfl fa_53_8_R2 rfl ?_; clear F a; intro a F
 refine s_st F M rfl rfl rfl sz_3_R2 rfl rfl rfl (by exact Nat.le_of_ble_eq_true rfl) ?_; (clear M; try clear w); intro w M
 refine t_endM M ?_; (clear M; try clear w); intro w M
 refine wp_seq ?_
 refine wp_seq ?_
 replace F := F.keep [0, 1, 2, 3, 4, 5, 6, 7, 10, 11, 15] rfl
 refine wp_region_l [.ind, .rd, .ind] ([0, 1, 2]) rfl ?_
 refine s_fa0 F rfl rfl rfl rfl fa_53_4_R2 rfl ?_; clear F a; intro a F
 refine s_ld F rfl rfl rfl rfl sc_3_R2 rfl (by exact cell_of_blk M.h0 (lit rfl)) ?_; clear F a; intro a F
 refine s_bin F rfl rfl rfl rfl rfl rfl rfl ?_; clear F a; intro a F
 refine t_endM M ?_; (clear M; try clear w); intro w M
 refine c_if F rfl ?_ ?_
 clear F; intro hc50 F
 try rw [hc50] at F
 replace hc50 := of_decide_eq_true hc50
 refine wp_seq ?_
 replace F := F.keep [0, 1, 2, 3, 4, 5, 6, 7, 10, 11, 15] rfl
 refine wp_region_l [.ind, .rd, .ind, .wr] ([0, 1, 2, 3]) rfl ?_
 refine s_fa0 F rfl rfl rfl rfl fa_32_4_R2 rfl ?_; clear F a; intro a F
 refine s_ld F rfl rfl rfl rfl sc_9_R2 rfl (by exact cell_of_blk M.h1 (lit rfl)) ?_; clear F a; intro a F
 refine s_fa0 F rfl rfl rfl rfl fa_53_5_R2 rfl ?_; clear F a; intro a F
 refine s_st F M rfl rfl rfl sz_9_R2 rfl rfl rfl (by exact Nat.le_of_ble_eq_true rfl) ?_; (clear M; try clear w); intro w M
 refine t_endM M ?_; (clear M; try clear w); intro w M
 refine wp_seq ?_
 replace F := F.keep [0, 1, 2, 3, 4, 5, 6, 7, 10, 11, 15] rfl
 refine wp_region_l [.ind, .rd, .ind, .wr] ([0, 1, 2, 3]) rfl ?_
 refine s_fa0 F rfl rfl rfl rfl fa_53_3_R2 rfl ?_; clear F a; intro a F
 refine s_ld F rfl rfl rfl rfl sc_3_R2 rfl (by exact cell_of_blk M.h0 (lit rfl)) ?_; clear F a; intro a F
 refine s_fa0 F rfl rfl rfl rfl fa_53_6_R2 rfl ?_; clear F a; intro a F
 refine s_st F M rfl rfl rfl sz_3_R2 rfl rfl rfl (by exact Nat.le_of_ble_eq_true rfl) ?_; (clear M; try clear w); intro w M
 refine t_endM M ?_; (clear M; try clear w); intro w M
 replace F := F.keep [0, 1, 2, 3, 4, 5, 6, 7, 10, 11, 15] rfl
 refine wp_region_l [.rd, .ind, .rd, .wr, .ind, .ind, .ind, .wr, .ind] ([0, 1, 2, 3, 4, 5, 6, 7, 8]) rfl ?_
 refine s_lda F rfl rfl rfl rfl ag_53_R2 rfl rfl (cells_whole M.h0) ?_; clear F a; intro a F
 refine s_fa0 F rfl rfl rfl rfl fa_32_4_R2 rfl ?_; clear F a; intro a F
 refine s_ld F rfl rfl rfl rfl sc_9_R2 rfl (by exact cell_of_blk M.h1 (lit rfl)) ?_; clear F a; intro a F
 refine s_call (m := []) F M rfl rfl rfl rfl rfl (rfl : _ = some [_, _, _]) cb_115_R2 (fun nd_ => c115 { st with seen := true, val := st.now.value, valR := st.round, lock := st.now.value, lockR := st.round } 3 (propL st.Ps st.round).value _) ?_; (clear F a M; try clear w); rintro v x w rfl M a F; (try simp only [List.cons_append, List.nil_append] at M)
 refine s_rn 3 F rfl rfl ?_; clear F a; intro a F
 refine s_stW F M.f1 rfl rfl rfl sz_53_R2 rfl rfl rfl rfl rfl ?_; (clear M; try clear w); intro w M
 refine s_I F rfl rfl rfl rfl rfl rfl ?_; clear F a; intro a F
 refine t_endM M ?_; (clear M; try clear w); intro w M
 refine wp_seq ?_
 replace F := F.keep [0, 1, 2, 3, 4, 5, 6, 7, 10, 11, 15] rfl
 refine wp_region_l [.rd, .ind, .wr, .ind, .ind] ([0, 1, 2, 3, 4]) rfl ?_
 refine s_lda F rfl rfl rfl rfl ag_53_R2 rfl rfl (cells_whole M.h0) ?_; clear F a; intro a F
 refine s_I F rfl rfl rfl rfl rfl rfl ?_; clear F a; intro a F
 refine s_stW F M.f4 rfl rfl rfl sz_53_R2 rfl rfl rfl rfl rfl ?_; (clear M; try clear w); intro w M
 refine s_rn 2 F rfl rfl ?_; clear F a; intro a F
 refine t_endM M ?_; (clear M; try clear w); intro w M
 refine wp_ret ?_
 refine rt3 F rfl (by exact rv_a F rfl ag_53_R2 rfl (cells_whole M.h0)) (rv_t F rfl) (rv_t F rfl) ?_
 first
 | (have h2s : st.step = 2 := by assumption
    have hr := r_pc hdn hna hpv hpc
    rw [lock5_2 h2s, if_pos h2s] at hr
    obtain ⟨e1_, e2_, e3_⟩ := r_some hr
    rw [e1_, e2_, e3_]
    refine ⟨_, x, rfl, rfl, ?_⟩
    have M1 : Sep _ _ _ (slR _ _ _ _ _ :: _) := M.f2; replace M := M1; clear M1
    exact Sep.left (m := [_]) M)
 | (have h2s : ¬ st.step = 2 := by assumption
    have hr := r_pc hdn hna hpv hpc
    rw [lock5_n h2s, if_neg h2s] at hr
    replace M := M.nilT encW 32 5
    obtain ⟨e1_, e2_, e3_⟩ := r_some hr
    rw [e1_, e2_, e3_]
    refine ⟨_, .slice none 0 0, rfl, rfl, ?_⟩
    exact Sep.left (m := [_]) M)
 clear F; intro hc51 F
 try rw [hc51] at F
 replace hc51 := of_decide_eq_false hc51
 refine wp_skip ?_
 refine wp_seq ?_
 replace F := F.keep [0, 1, 2, 3, 4, 5, 6, 7, 10, 11, 15] rfl
 refine wp_region_l [.rd, .ind, .wr, .ind, .ind] ([0, 1, 2, 3, 4]) rfl ?_
 refine s_lda F rfl rfl rfl rfl ag_53_R2 rfl rfl (cells_whole M.h0) ?_; clear F a; intro a F
 refine s_I F rfl rfl rfl rfl rfl rfl ?_; clear F a; intro a F
 refine s_stW F M.f3 rfl rfl rfl sz_53_R2 rfl rfl rfl rfl rfl ?_; (clear M; try clear w); intro w M
 refine s_rn 2 F rfl rfl ?_; clear F a; intro a F
 refine t_endM M ?_; (clear M; try clear w); intro w M
 refine wp_ret ?_
 refine rt3 F rfl (by exact rv_a F rfl ag_53_R2 rfl (cells_whole M.h0)) (rv_t F rfl) (rv_t F rfl) ?_
 first
 | (have h2s : st.step = 2 := by assumption
    have hr := r_pc hdn hna hpv hpc
    rw [lock5_2 h2s, if_pos h2s] at hr
    obtain ⟨e1_, e2_, e3_⟩ := r_some hr
    rw [e1_, e2_, e3_]
    refine ⟨_, x, rfl, rfl, ?_⟩
    first | (have M1 : Sep _ _ _ (slR _ _ _ _ _ :: _) := M; replace M := M1; clear M1) | (have M1 : Sep _ _ _ (slR _ _ _ _ _ :: _) := M.f1; replace M := M1; clear M1) | (have M1 : Sep _ _ _ (slR _ _ _ _ _ :: _) := M.f2; replace M := M1; clear M1) | (have M1 : Sep _ _ _ (slR _ _ _ _ _ :: _) := M.f3; replace M := M1; clear M1) | (have M1 : Sep _ _ _ (slR _ _ _ _ _ :: _) := M.f4; replace M := M1; clear M1) | (have M1 : Sep _ _ _ (slR _ _ _ _ _ :: _) := M.f5; replace M := M1; clear M1) | (have M1 : Sep _ _ _ (slR _ _ _ _ _ :: _) := M.f6; replace M := M1; clear M1) | (have M1 : Sep _ _ _ (slR _ _ _ _ _ :: _) := M.f7; replace M := M1; clear M1)
    exact Sep.left (m := [_]) M)
 | (have h2s : ¬ st.step = 2 := by assumption
    have hr := r_pc hdn hna hpv hpc
    rw [lock5_n h2s, if_neg h2s] at hr
    replace M := M.nilT encW 32 5
    obtain ⟨e1_, e2_, e3_⟩ := r_some hr
    rw [e1_, e2_, e3_]
    refine ⟨_, .slice none 0 0, rfl, rfl, ?_⟩
    exact Sep.left (m := [_]) M)
 clear F; intro hc52 F
 try rw [hc52] at F
 skip
 refine wp_skip ?_
 refine wp_seq ?_
 refine wp_seq ?_
 have hpc : st.pc = false := (by clear M F; simp only [ASt.pc, ASt.now]; grind)
 replace F := F.keep [0, 1, 2, 3, 4, 5, 6, 7, 10, 11] rfl
 refine wp_region_l [.ind, .rd, .ind, .ind, .rd, .ind, .rd, .wr, .ind] ([0, 1, 2, 3, 4, 5, 6, 7, 8]) rfl ?_
 refine s_fa0 F rfl rfl rfl rfl fa_53_4_R2 rfl ?_; clear F a; intro a F
 refine s_ld F rfl rfl rfl rfl sc_3_R2 rfl (by exact cell_of_blk M.h3 (lit rfl)) ?_; clear F a; intro a F
 refine s_rn 2 F rfl rfl ?_; clear F a; intro a F
 refine bsplit F 147 rfl ?_ ?_
 clear F; intro hc53 F
 try rw [hc53] at F
 replace hc53 := of_decide_eq_true hc53
 refine s_lda F rfl rfl rfl rfl ag_53_R2 rfl rfl (cells_whole M.h3) ?_; clear F a; intro a F
 refine s_fa0 F rfl rfl rfl rfl fa_53_3_R2 rfl ?_; clear F a; intro a F
 refine s_ld F rfl rfl rfl rfl sc_3_R2 rfl (by exact cell_of_blk M.h3 (lit rfl)) ?_; clear F a; intro a F
 refine s_cq F M rfl rfl rfl rfl rfl (rfl : _ = some [_, _, _, _]) cb_117_R2 (fun nd_ => c117 st W.v.len _ _ 2 st.round VoteM.empty _ (M.chg.ro hrol)) ?_; (clear F a M; try clear w); rintro v w rfl M a F
 refine s_I F rfl rfl rfl rfl rfl rfl ?_; clear F a; intro a F
 refine t_endM M ?_; (clear M; try clear w); intro w M
 refine c_if F rfl ?_ ?_
 clear F; intro hc54 F
 try rw [hc54] at F
 skip
 refine wp_seq ?_
 have hni : st.nil = true := (by clear M F; simp only [ASt.nil, ASt.now]; grind)
 replace F := F.keep [0, 1, 2, 3, 4, 5, 6, 7, 10, 11] rfl
 refine wp_region_l [.rd, .wr, .ind, .ind, .ind, .wr, .wr, .ind] ([0, 1, 2, 3, 4, 5, 6, 7]) rfl ?_
 refine s_lda F rfl rfl rfl rfl ag_53_R2 rfl rfl (cells_whole M.h3) ?_; clear F a; intro a F
 refine s_call (m := []) F M rfl rfl rfl rfl rfl (rfl : _ = some [_, _, _]) cb_115_R2 (fun nd_ => c115 st 3 VoteM.empty _) ?_; (clear F a M; try clear w); rintro v x w rfl M a F; (try simp only [List.cons_append, List.nil_append] at M)
 refine s_rn 3 F rfl rfl ?_; clear F a; intro a F
 refine s_alc F M rfl rfl rfl rfl zr_53_R2 rfl ?_; (clear F a M; try clear w); intro b16 w M a F
 refine s_stW F M rfl rfl rfl sz_53_R2 rfl rfl rfl rfl rfl ?_; (clear M; try clear w); intro w M
 refine s_I F rfl rfl rfl rfl rfl rfl ?_; clear F a; intro a F
 refine t_endM M ?_; (clear M; try clear w); intro w M
 refine wp_seq ?_
 replace F := F.keep [0, 1, 2, 3, 4, 5, 6, 7, 10, 11, 16, 17] rfl
 refine wp_region_l [.rd, .ind, .wr, .ind, .ind] ([0, 1, 2, 3, 4]) rfl ?_
 refine s_lda F rfl rfl rfl rfl ag_53_R2 rfl rfl (cells_whole M.h0) ?_; clear F a; intro a F
 refine s_I F rfl rfl rfl rfl rfl rfl ?_; clear F a; intro a F
 refine s_stW F M.f4 rfl rfl rfl sz_53_R2 rfl rfl rfl rfl rfl ?_; (clear M; try clear w); intro w M
 refine s_rn 2 F rfl rfl ?_; clear F a; intro a F
 refine t_endM M ?_; (clear M; try clear w); intro w M
 refine wp_ret ?_
 refine rt3 F rfl (by exact rv_a F rfl ag_53_R2 rfl (cells_whole M.h0)) (rv_t F rfl) (rv_t F rfl) ?_
 obtain ⟨e1_, e2_, e3_⟩ := r_some (r_nil hdn hna hpv hpc hni)
 rw [e1_, e2_, e3_]
 refine ⟨_, x, rfl, rfl, ?_⟩
 have M1 : Sep _ _ _ (slR _ _ _ _ _ :: _) := M.f2; replace M := M1; clear M1
 exact Sep.left (m := [_]) M
 clear F; intro hc55 F
 try rw [hc55] at F
 skip
 refine wp_skip ?_
 refine wp_seq ?_
 have hni : st.nil = false := (by clear M F; simp only [ASt.nil, ASt.now]; grind)
 replace F := F.keep [0, 1, 2, 3, 4, 5, 6, 7, 10, 11] rfl
 refine wp_region_l [.rd, .wr, .ind, .ind] ([0, 1, 2, 3]) rfl ?_
 refine s_lda F rfl rfl rfl rfl ag_53_R2 rfl rfl (cells_whole M.h3) ?_; clear F a; intro a F
 refine s_stW F M.f2 rfl rfl rfl sz_53_R2 rfl rfl rfl rfl rfl ?_; (clear M; try clear w); intro w M
 refine s_rn 2 F rfl rfl ?_; clear F a; intro a F
 refine t_endM M ?_; (clear M; try clear w); intro w M
 refine wp_ret ?_
 refine rt3 F rfl (by exact rv_a F rfl ag_53_R2 rfl (cells_whole M.h0)) (rv_t F rfl) (rv_t F rfl) ?_
 replace M := M.nilT encW 32 5
 obtain ⟨e1_, e2_, e3_⟩ := r_none (r_not hdn hna hpv hpc hni)
 rw [e1_, e2_, e3_]
 refine ⟨_, .slice none 0 0, rfl, rfl, ?_⟩
 exact Sep.left (m := [_]) M
 clear F; intro hc56 F
 try rw [hc56] at F
 replace hc56 := of_decide_eq_false hc56
 refine s_rn 5 F rfl rfl ?_; clear F a; intro a F
 refine t_endM M ?_; (clear M; try clear w); intro w M
 refine c_f F rfl ?_
 refine wp_skip ?_
 refine wp_seq ?_
 have hni : st.nil = false := (by clear M F; simp only [ASt.nil, ASt.now]; grind)
 replace F := F.keep [0, 1, 2, 3, 4, 5, 6, 7, 10, 11] rfl
 refine wp_region_l [.rd, .wr, .ind, .ind] ([0, 1, 2, 3]) rfl ?_
 refine s_lda F rfl rfl rfl rfl ag_53_R2 rfl rfl (cells_whole M.h3) ?_; clear F a; intro a F
 refine s_stW F M.f2 rfl rfl rfl sz_53_R2 rfl rfl rfl rfl rfl ?_; (clear M; try clear w); intro w M
 refine s_rn 2 F rfl rfl ?_; clear F a; intro a F
 refine t_endM M ?_; (clear M; try clear w); intro w M
 refine wp_ret ?_
 refine rt3 F rfl (by exact rv_a F rfl ag_53_R2 rfl (cells_whole M.h0)) (rv_t F rfl) (rv_t F rfl) ?_
 replace M := M.nilT encW 32 5
 obtain ⟨e1_, e2_, e3_⟩ := r_none (r_not hdn hna hpv hpc hni)
 rw [e1_, e2_, e3_]
 refine ⟨_, .slice none 0 0, rfl, rfl, ?_⟩
 exact Sep.left (m := [_]) M
 clear F; intro hc57 F
 try rw [hc57] at F
 replace hc57 := nd0 hc57
 refine s_rn 7 F rfl rfl ?_; clear F a; intro a F
 refine t_endM M ?_; (clear M; try clear w); intro w M
 refine c_f F rfl ?_
 refine wp_skip ?_
 refine wp_seq ?_
 refine wp_seq ?_
 have hpc : st.pc = false := (by clear M F; simp only [ASt.pc, ASt.now]; grind)
 replace F := F.keep [0, 1, 2, 3, 4, 5, 6, 7, 10, 11] rfl
 refine wp_region_l [.ind, .rd, .ind, .ind, .rd, .ind, .rd, .wr, .ind] ([0, 1, 2, 3, 4, 5, 6, 7, 8]) rfl ?_
 refine s_fa0 F rfl rfl rfl rfl fa_53_4_R2 rfl ?_; clear F a; intro a F
 refine s_ld F rfl rfl rfl rfl sc_3_R2 rfl (by exact cell_of_blk M.h3 (lit rfl)) ?_; clear F a; intro a F
 refine s_rn 2 F rfl rfl ?_; clear F a; intro a F
 refine bsplit F 147 rfl ?_ ?_
 clear F; intro hc58 F
 try rw [hc58] at F
 replace hc58 := of_decide_eq_true hc58
 refine s_lda F rfl rfl rfl rfl ag_53_R2 rfl rfl (cells_whole M.h3) ?_; clear F a; intro a F
 refine s_fa0 F rfl rfl rfl rfl fa_53_3_R2 rfl ?_; clear F a; intro a F
 refine s_ld F rfl rfl rfl rfl sc_3_R2 rfl (by exact cell_of_blk M.h3 (lit rfl)) ?_; clear F a; intro a F
 refine s_cq F M rfl rfl rfl rfl rfl (rfl : _ = some [_, _, _, _]) cb_117_R2 (fun nd_ => c117 st W.v.len _ _ 2 st.round VoteM.empty _ (M.chg.ro hrol)) ?_; (clear F a M; try clear w); rintro v w rfl M a F
 refine s_I F rfl rfl rfl rfl rfl rfl ?_; clear F a; intro a F
 refine t_endM M ?_; (clear M; try clear w); intro w M
 refine c_if F rfl ?_ ?_
 clear F; intro hc59 F
 try rw [hc59] at F
 skip
 refine wp_seq ?_
 have hni : st.nil = true := (by clear M F; simp only [ASt.nil, ASt.now]; grind)
 replace F := F.keep [0, 1, 2, 3, 4, 5, 6, 7, 10, 11] rfl
 refine wp_region_l [.rd, .wr, .ind, .ind, .ind, .wr, .wr, .ind] ([0, 1, 2, 3, 4, 5, 6, 7]) rfl ?_
 refine s_lda F rfl rfl rfl rfl ag_53_R2 rfl rfl (cells_whole M.h3) ?_; clear F a; intro a F
 refine s_call (m := []) F M rfl rfl rfl rfl rfl (rfl : _ = some [_, _, _]) cb_115_R2 (fun nd_ => c115 st 3 VoteM.empty _) ?_; (clear F a M; try clear w); rintro v x w rfl M a F; (try simp only [List.cons_append, List.nil_append] at M)
 refine s_rn 3 F rfl rfl ?_; clear F a; intro a F
 refine s_alc F M rfl rfl rfl rfl zr_53_R2 rfl ?_; (clear F a M; try clear w); intro b16 w M a F
 refine s_stW F M rfl rfl rfl sz_53_R2 rfl rfl rfl rfl rfl ?_; (clear M; try clear w); intro w M
 refine s_I F rfl rfl rfl rfl rfl rfl ?_; clear F a; intro a F
 refine t_endM M ?_; (clear M; try clear w); intro w M
 refine wp_seq ?_
 replace F := F.keep [0, 1, 2, 3, 4, 5, 6, 7, 10, 11, 16, 17] rfl
 refine wp_region_l [.rd, .ind, .wr, .ind, .ind] ([0, 1, 2, 3, 4]) rfl ?_
 refine s_lda F rfl rfl rfl rfl ag_53_R2 rfl rfl (cells_whole M.h0) ?_; clear F a; intro a F
 refine s_I F rfl rfl rfl rfl rfl rfl ?_; clear F a; intro a F
 refine s_stW F M.f4 rfl rfl rfl sz_53_R2 rfl rfl rfl rfl rfl ?_; (clear M; try clear w); intro w M
 refine s_rn 2 F rfl rfl ?_; clear F a; intro a F
 refine t_endM M ?_; (clear M; try clear w); intro w M
 refine wp_ret ?_
 refine rt3 F rfl (by exact rv_a F rfl ag_53_R2 rfl (cells_whole M.h0)) (rv_t F rfl) (rv_t F rfl) ?_
 obtain ⟨e1_, e2_, e3_⟩ := r_some (r_nil hdn hna hpv hpc hni)
 rw [e1_, e2_, e3_]
 refine ⟨_, x, rfl, rfl, ?_⟩
 have M1 : Sep _ _ _ (slR _ _ _ _ _ :: _) := M.f2; replace M := M1; clear M1
 exact Sep.left (m := [_]) M
 clear F; intro hc60 F
 try rw [hc60] at F
 skip
 refine wp_skip ?_
 refine wp_seq ?_
 have hni : st.nil = false := (by clear M F; simp only [ASt.nil, ASt.now]; grind)
 replace F := F.keep [0, 1, 2, 3, 4, 5, 6, 7, 10, 11] rfl
 refine wp_region_l [.rd, .wr, .ind, .ind] ([0, 1, 2, 3]) rfl ?_
 refine s_lda F rfl rfl rfl rfl ag_53_R2 rfl rfl (cells_whole M.h3) ?_; clear F a; intro a F
 refine s_stW F M.f2 rfl rfl rfl sz_53_R2 rfl rfl rfl rfl rfl ?_; (clear M; try clear w); intro w M
 refine s_rn 2 F rfl rfl ?_; clear F a; intro a F
 refine t_endM M ?_; (clear M; try clear w); intro w M
 refine wp_ret ?_
 refine rt3 F rfl (by exact rv_a F rfl ag_53_R2 rfl (cells_whole M.h0)) (rv_t F rfl) (rv_t F rfl) ?_
 replace M := M.nilT encW 32 5
 obtain ⟨e1_, e2_, e3_⟩ := r_none (r_not hdn hna hpv hpc hni)
 rw [e1_, e2_, e3_]
 refine ⟨_, .slice none 0 0, rfl, rfl, ?_⟩
 exact Sep.left (m := [_]) M
 clear F; intro hc61 F
 try rw [hc61] at F
 replace hc61 := of_decide_eq_false hc61
 refine s_rn 5 F rfl rfl ?_; clear F a; intro a F
 refine t_endM M ?_; (clear M; try clear w); intro w M
 refine c_f F rfl ?_
 refine wp_skip ?_
 refine wp_seq ?_
 have hni : st.nil = false := (by clear M F; simp only [ASt.nil, ASt.now]; grind)
 replace F := F.keep [0, 1, 2, 3, 4, 5, 6, 7, 10, 11] rfl
 refine wp_region_l [.rd, .wr, .ind, .ind] ([0, 1, 2, 3]) rfl ?_
 refine s_lda F rfl rfl rfl rfl ag_53_R2 rfl rfl (cells_whole M.h3) ?_; clear F a; intro a F
 refine s_stW F M.f2 rfl rfl rfl sz_53_R2 rfl rfl rfl rfl rfl ?_; (clear M; try clear w); intro w M
 refine s_rn 2 F rfl rfl ?_; clear F a; intro a F
 refine t_endM M ?_; (clear M; try clear w); intro w M
 refine wp_ret ?_
 refine rt3 F rfl (by exact rv_a F rfl ag_53_R2 rfl (cells_whole M.h0)) (rv_t F rfl) (rv_t F rfl) ?_
 replace M := M.nilT encW 32 5
 obtain ⟨e1_, e2_, e3_⟩ := r_none (r_not hdn hna hpv hpc hni)
 rw [e1_, e2_, e3_]
 refine ⟨_, .slice none 0 0, rfl, rfl, ?_⟩
 exact Sep.left (m := [_]) M
 clear F; intro hc62 F
 try rw [hc62] at F
 replace hc62 := nf hc62
 refine s_rn 12 F rfl rfl ?_; clear F a; intro a F
 refine t_endM M ?_; (clear M; try clear w); intro w M
 refine c_f F rfl ?_
 refine wp_skip ?_
 refine wp_seq ?_
 refine wp_seq ?_
 have hpc : st.pc = false := (by clear M F; simp only [ASt.pc, ASt.now]; grind)
 replace F := F.keep [0, 1, 2, 3, 4, 5, 6, 7, 10, 11] rfl
 refine wp_region_l [.ind, .rd, .ind, .ind, .rd, .ind, .rd, .wr, .ind] ([0, 1, 2, 3, 4, 5, 6, 7, 8]) rfl ?_
 refine s_fa0 F rfl rfl rfl rfl fa_53_4_R2 rfl ?_; clear F a; intro a F
 refine s_ld F rfl rfl rfl rfl sc_3_R2 rfl (by exact cell_of_blk M.h3 (lit rfl)) ?_; clear F a; intro a F
 refine s_rn 2 F rfl rfl ?_; clear F a; intro a F
 refine bsplit F 147 rfl ?_ ?_
 clear F; intro hc63 F
 try rw [hc63] at F
 replace hc63 := of_decide_eq_true hc63
 refine s_lda F rfl rfl rfl rfl ag_53_R2 rfl rfl (cells_whole M.h3) ?_; clear F a; intro a F
 refine s_fa0 F rfl rfl rfl rfl fa_53_3_R2 rfl ?_; clear F a; intro a F
 refine s_ld F rfl rfl rfl rfl sc_3_R2 rfl (by exact cell_of_blk M.h3 (lit rfl)) ?_; clear F a; intro a F
 refine s_cq F M rfl rfl rfl rfl rfl (rfl : _ = some [_, _, _, _]) cb_117_R2 (fun nd_ => c117 st W.v.len _ _ 2 st.round VoteM.empty _ (M.chg.ro hrol)) ?_; (clear F a M; try clear w); rintro v w rfl M a F
 refine s_I F rfl rfl rfl rfl rfl rfl ?_; clear F a; intro a F
 refine t_endM M ?_; (clear M; try clear w); intro w M
 refine c_if F rfl ?_ ?_
 clear F; intro hc64 F
 try rw [hc64] at F
 skip
 refine wp_seq ?_
 have hni : st.nil = true := (by clear M F; simp only [ASt.nil, ASt.now]; grind)
 replace F := F.keep [0, 1, 2, 3, 4, 5, 6, 7, 10, 11] rfl
 refine wp_region_l [.rd, .wr, .ind, .ind, .ind, .wr, .wr, .ind] ([0, 1, 2, 3, 4, 5, 6, 7]) rfl ?_
 refine s_lda F rfl rfl rfl rfl ag_53_R2 rfl rfl (cells_whole M.h3) ?_; clear F a; intro a F
 refine s_call (m := []) F M rfl rfl rfl rfl rfl (rfl : _ = some [_, _, _]) cb_115_R2 (fun nd_ => c115 st 3 VoteM.empty _) ?_; (clear F a M; try clear w); rintro v x w rfl M a F; (try simp only [List.cons_append, List.nil_append] at M)
 refine s_rn 3 F rfl rfl ?_; clear F a; intro a F
 refine s_alc F M rfl rfl rfl rfl zr_53_R2 rfl ?_; (clear F a M; try clear w); intro b16 w M a F
 refine s_stW F M rfl rfl rfl sz_53_R2 rfl rfl rfl rfl rfl ?_; (clear M; try clear w); intro w M
 refine s_I F rfl rfl rfl rfl rfl rfl ?_; clear F a; intro a F
 refine t_endM M ?_; (clear M; try clear w); intro w M
 refine wp_seq ?_
 replace F := F.keep [0, 1, 2, 3, 4, 5, 6, 7, 10, 11, 16, 17] rfl
 refine wp_region_l [.rd, .ind, .wr, .ind, .ind] ([0, 1, 2, 3, 4]) rfl ?_
 refine s_lda F rfl rfl rfl rfl ag_53_R2 rfl rfl (cells_whole M.h0) ?_; clear F a; intro a F
 refine s_I F rfl rfl rfl rfl rfl rfl ?_; clear F a; intro a F
 refine s_stW F M.f4 rfl rfl rfl sz_53_R2 rfl rfl rfl rfl rfl ?_; (clear M; try clear w); intro w M
 refine s_rn 2 F rfl rfl ?_; clear F a; intro a F
 refine t_endM M ?_; (clear M; try clear w); intro w M
 refine wp_ret ?_
 refine rt3 F rfl (by exact rv_a F rfl ag_53_R2 rfl (cells_whole M.h0)) (rv_t F rfl) (rv_t F rfl) ?_
 obtain ⟨e1_, e2_, e3_⟩ := r_some (r_nil hdn hna hpv hpc hni)
 rw [e1_, e2_, e3_]
 refine ⟨_, x, rfl, rfl, ?_⟩
 have M1 : Sep _ _ _ (slR _ _ _ _ _ :: _) := M.f2; replace M := M1; clear M1
 exact Sep.left (m := [_]) M
 clear F; intro hc65 F
 try rw [hc65] at F
 skip
 refine wp_skip ?_
 refine wp_seq ?_
 have hni : st.nil = false := (by clear M F; simp only [ASt.nil, ASt.now]; grind)
 replace F := F.keep [0, 1, 2, 3, 4, 5, 6, 7, 10, 11] rfl
 refine wp_region_l [.rd, .wr, .ind, .ind] ([0, 1, 2, 3]) rfl ?_
 refine s_lda F rfl rfl rfl rfl ag_53_R2 rfl rfl (cells_whole M.h3) ?_; clear F a; intro a F
 refine s_stW F M.f2 rfl rfl rfl sz_53_R2 rfl rfl rfl rfl rfl ?_; (clear M; try clear w); intro w M
 refine s_rn 2 F rfl rfl ?_; clear F a; intro a F
 refine t_endM M ?_; (clear M; try clear w); intro w M
 refine wp_ret ?_
 refine rt3 F rfl (by exact rv_a F rfl ag_53_R2 rfl (cells_whole M.h0)) (rv_t F rfl) (rv_t F rfl) ?_
 replace M := M.nilT encW 32 5
 obtain ⟨e1_, e2_, e3_⟩ := r_none (r_not hdn hna hpv hpc hni)
 rw [e1_, e2_, e3_]
 refine ⟨_, .slice none 0 0, rfl, rfl, ?_⟩
 exact Sep.left (m := [_]) M
 clear F; intro hc66 F
 try rw [hc66] at F
 replace hc66 := of_decide_eq_false hc66
 refine s_rn 5 F rfl rfl ?_; clear F a; intro a F
 refine t_endM M ?_; (clear M; try clear w); intro w M
 refine c_f F rfl ?_
 refine wp_skip ?_
 refine wp_seq ?_
 have hni : st.nil = false := (by clear M F; simp only [ASt.nil, ASt.now]; grind)
 replace F := F.keep [0, 1, 2, 3, 4, 5, 6, 7, 10, 11] rfl
 refine wp_region_l [.rd, .wr, .ind, .ind] ([0, 1, 2, 3]) rfl ?_
 refine s_lda F rfl rfl rfl rfl ag_53_R2 rfl rfl (cells_whole M.h3) ?_; clear F a; intro a F
 refine s_stW F M.f2 rfl rfl rfl sz_53_R2 rfl rfl rfl rfl rfl ?_; (clear M; try clear w); intro w M
 refine s_rn 2 F rfl rfl ?_; clear F a; intro a F
 refine t_endM M ?_; (clear M; try clear w); intro w M
 refine wp_ret ?_
 refine rt3 F rfl (by exact rv_a F rfl ag_53_R2 rfl (cells_whole M.h0)) (rv_t F rfl) (rv_t F rfl) ?_
 replace M := M.nilT encW 32 5
 obtain ⟨e1_, e2_, e3_⟩ := r_none (r_not hdn hna hpv hpc hni)
 rw [e1_, e2_, e3_]
 refine ⟨_, .slice none 0 0, rfl, rfl, ?_⟩
 exact Sep.left (m := [_]) M
 clear F; intro hc67 F
 try rw [hc67] at F
 replace hc67 := of_decide_eq_false hc67
 refine s_rn 17 F rfl rfl ?_; clear F a; intro a F
 refine t_endM M ?_; (clear M; try clear w); intro w M
 refine c_f F rfl ?_
 refine wp_skip ?_
 refine wp_seq ?_
 refine wp_seq ?_
 have hpv : st.pv = false := (by clear M F; simp only [ASt.pv, ASt.now]; grind)
 replace F := F.keep [0, 1, 2, 3, 4, 5, 6, 7, 10, 11] rfl
 refine wp_region_l [.ind, .ind, .ind, .rd, .ind, .ind, .ind, .ind, .rd, .ind, .ind, .ind, .rd, .ind, .rd, .ind, .rd, .wr, .ind] ([0, 1, 2, 3, 4, 5, 6, 7, 8, 9, 10, 11, 12, 13, 14, 15, 16, 17, 18]) rfl ?_
 refine s_rn 19 F rfl rfl ?_; clear F a; intro a F
 refine t_endM M ?_; (clear M; try clear w); intro w M
 refine c_f F rfl ?_
 refine wp_skip ?_
 refine wp_seq ?_
 refine wp_seq ?_
 have hpc : st.pc = false := (by clear M F; simp only [ASt.pc, ASt.now]; grind)
 replace F := F.keep [0, 1, 2, 3, 4, 5, 6, 7, 10, 11] rfl
 refine wp_region_l [.ind, .rd, .ind, .ind, .rd, .ind, .rd, .wr, .ind] ([0, 1, 2, 3, 4, 5, 6, 7, 8]) rfl ?_
 refine s_fa0 F rfl rfl rfl rfl fa_53_4_R2 rfl ?_; clear F a; intro a F
 refine s_ld F rfl rfl rfl rfl sc_3_R2 rfl (by exact cell_of_blk M.h3 (lit rfl)) ?_; clear F a; intro a F
 refine s_rn 2 F rfl rfl ?_; clear F a; intro a F
 refine bsplit F 147 rfl ?_ ?_
 clear F; intro hc68 F
 try rw [hc68] at F
 replace hc68 := of_decide_eq_true hc68
 refine s_lda F rfl rfl rfl rfl ag_53_R2 rfl rfl (cells_whole M.h3) ?_; clear F a; intro a F
 refine s_fa0 F rfl rfl rfl rfl fa_53_3_R2 rfl ?_; clear F a; intro a F
 refine s_ld F rfl rfl rfl rfl sc_3_R2 rfl (by exact cell_of_blk M.h3 (lit rfl)) ?_; clear F a; intro a F
 refine s_cq F M rfl rfl rfl rfl rfl (rfl : _ = some [_, _, _, _]) cb_117_R2 (fun nd_ => c117 st W.v.len _ _ 2 st.round VoteM.empty _ (M.chg.ro hrol)) ?_; (clear F a M; try clear w); rintro v w rfl M a F
 refine s_I F rfl rfl rfl rfl rfl rfl ?_; clear F a; intro a F
 refine t_endM M ?_; (clear M; try clear w); intro w M
 refine c_if F rfl ?_ ?_
 clear F; intro hc69 F
 try rw [hc69] at F
 skip
 refine wp_seq ?_
 have hni : st.nil = true := (by clear M F; simp only [ASt.nil, ASt.now]; grind)
 replace F := F.keep [0, 1, 2, 3, 4, 5, 6, 7, 10, 11] rfl
 refine wp_region_l [.rd, .wr, .ind, .ind, .ind, .wr, .wr, .ind] ([0, 1, 2, 3, 4, 5, 6, 7]) rfl ?_
 refine s_lda F rfl rfl rfl rfl ag_53_R2 rfl rfl (cells_whole M.h3) ?_; clear F a; intro a F
 refine s_call (m := []) F M rfl rfl rfl rfl rfl (rfl : _ = some [_, _, _]) cb_115_R2 (fun nd_ => c115 st 3 VoteM.empty _) ?_; (clear F a M; try clear w); rintro v x w rfl M a F; (try simp only [List.cons_append, List.nil_append] at M)
 refine s_rn 3 F rfl rfl ?_; clear F a; intro a F
 refine s_alc F M rfl rfl rfl rfl zr_53_R2 rfl ?_; (clear F a M; try clear w); intro b16 w M a F
 refine s_stW F M rfl rfl rfl sz_53_R2 rfl rfl rfl rfl rfl ?_; (clear M; try clear w); intro w M
 refine s_I F rfl rfl rfl rfl rfl rfl ?_; clear F a; intro a F
 refine t_endM M ?_; (clear M; try clear w); intro w M
 refine wp_seq ?_
 replace F := F.keep [0, 1, 2, 3, 4, 5, 6, 7, 10, 11, 16, 17] rfl
 refine wp_region_l [.rd, .ind, .wr, .ind, .ind] ([0, 1, 2, 3, 4]) rfl ?_
 refine s_lda F rfl rfl rfl rfl ag_53_R2 rfl rfl (cells_whole M.h0) ?_; clear F a; intro a F
 refine s_I F rfl rfl rfl rfl rfl rfl ?_; clear F a; intro a F
 refine s_stW F M.f4 rfl rfl rfl sz_53_R2 rfl rfl rfl rfl rfl ?_; (clear M; try clear w); intro w M
 refine s_rn 2 F rfl rfl ?_; clear F a; intro a F
 refine t_endM M ?_; (clear M; try clear w); intro w M
 refine wp_ret ?_
 refine rt3 F rfl (by exact rv_a F rfl ag_53_R2 rfl (cells_whole M.h0)) (rv_t F rfl) (rv_t F rfl) ?_
 obtain ⟨e1_, e2_, e3_⟩ := r_some (r_nil hdn hna hpv hpc hni)
 rw [e1_, e2_, e3_]
 refine ⟨_, x, rfl, rfl, ?_⟩
 have M1 : Sep _ _ _ (slR _ _ _ _ _ :: _) := M.f2; replace M := M1; clear M1
 exact Sep.left (m := [_]) M
 clear F; intro hc70 F
 try rw [hc70] at F
 skip
 refine wp_skip ?_
 refine wp_seq ?_
 have hni : st.nil = false := (by clear M F; simp only [ASt.nil, ASt.now]; grind)
 replace F := F.keep [0, 1, 2, 3, 4, 5, 6, 7, 10, 11] rfl
 refine wp_region_l [.rd, .wr, .ind, .ind] ([0, 1, 2, 3]) rfl ?_
 refine s_lda F rfl rfl rfl rfl ag_53_R2 rfl rfl (cells_whole M.h3) ?_; clear F a; intro a F
 refine s_stW F M.f2 rfl rfl rfl sz_53_R2 rfl rfl rfl rfl rfl ?_; (clear M; try clear w); intro w M
 refine s_rn 2 F rfl rfl ?_; clear F a; intro a F
 refine t_endM M ?_; (clear M; try clear w); intro w M
 refine wp_ret ?_
 refine rt3 F rfl (by exact rv_a F rfl ag_53_R2 rfl (cells_whole M.h0)) (rv_t F rfl) (rv_t F rfl) ?_
 replace M := M.nilT encW 32 5
 obtain ⟨e1_, e2_, e3_⟩ := r_none (r_not hdn hna hpv hpc hni)
 rw [e1_, e2_, e3_]
 refine ⟨_, .slice none 0 0, rfl, rfl, ?_⟩
 exact Sep.left (m := [_]) M
 clear F; intro hc71 F
 try rw [hc71] at F
 replace hc71 := of_decide_eq_false hc71
 refine s_rn 5 F rfl rfl ?_; clear F a; intro a F
 refine t_endM M ?_; (clear M; try clear w); intro w M
 refine c_f F rfl ?_
 refine wp_skip ?_
 refine wp_seq ?_
 have hni : st.nil = false := (by clear M F; simp only [ASt.nil, ASt.now]; grind)
 replace F := F.keep [0, 1, 2, 3, 4, 5, 6, 7, 10, 11] rfl
 refine wp_region_l [.rd, .wr, .ind, .ind] ([0, 1, 2, 3]) rfl ?_
 refine s_lda F rfl rfl rfl rfl ag_53_R2 rfl rfl (cells_whole M.h3) ?_; clear F a; intro a F
 refine s_stW F M.f2 rfl rfl rfl sz_53_R2 rfl rfl rfl rfl rfl ?_; (clear M; try clear w); intro w M
 refine s_rn 2 F rfl rfl ?_; clear F a; intro a F
 refine t_endM M ?_; (clear M; try clear w); intro w M
 refine wp_ret ?_
 refine rt3 F rfl (by exact rv_a F rfl ag_53_R2 rfl (cells_whole M.h0)) (rv_t F rfl) (rv_t F rfl) ?_
 replace M := M.nilT encW 32 5
 obtain ⟨e1_, e2_, e3_⟩ := r_none (r_not hdn hna hpv hpc hni)
 rw [e1_, e2_, e3_]
 refine ⟨_, .slice none 0 0, rfl, rfl, ?_⟩
 exact Sep.left (m := [_]) M
end Go.Proofs.Ytboibdmflblphaa
