/- R3 of the seat. -/
import Derived.Test.YtboibdmflblphaaR2
namespace Go.Proofs.Ytboibdmflblphaa
open Go Fw
theorem zr_28_R3 : zeroB Try.prog 28 = some (.agg #[.int .i64 0, .int .i64 0, .slice none 0 0]) := by kernel_rfl
theorem fa_32_0_R3 : FA Try.prog 32 0 0 := fun _ _ _ => by kernel_rfl
theorem sc_3_R3 : scalB Try.prog 3 = true := by kernel_rfl
theorem ag_28_R3 : aggB Try.prog 28 = some 3 := by kernel_rfl
theorem sz_28_R3 : sizeB Try.prog 28 = some 3 := by kernel_rfl
theorem fa_32_1_R3 : FA Try.prog 32 1 1 := fun _ _ _ => by kernel_rfl
theorem fa_28_0_R3 : FA Try.prog 28 0 0 := fun _ _ _ => by kernel_rfl
theorem fa_32_2_R3 : FA Try.prog 32 2 2 := fun _ _ _ => by kernel_rfl
theorem fa_32_4_R3 : FA Try.prog 32 4 4 := fun _ _ _ => by kernel_rfl
theorem sc_9_R3 : scalB Try.prog 9 = true := by kernel_rfl
theorem st_9_R3 : strB Try.prog 9 = true := by kernel_rfl
theorem fa_28_2_R3 : FA Try.prog 28 2 2 := fun _ _ _ => by kernel_rfl
theorem sc_22_R3 : scalB Try.prog 22 = true := by kernel_rfl
theorem sl_22_R3 : slcB Try.prog 22 = some (32, 5) := by kernel_rfl
theorem zr_53_R3 : zeroB Try.prog 53 = some (.agg #[.int .i64 0, .int .i64 0, .string { data := #[] }, .int .i64 0, .int .i64 0, .string { data := #[] }, .int .i64 0, .string { data := #[] }, .int .i64 0, .slice none 0 0, .int .i64 0, .int .i64 0, .slice none 0 0, .bool false, .bool false, .string { data := #[] }]) := by kernel_rfl
theorem fa_53_3_R3 : FA Try.prog 53 3 3 := fun _ _ _ => by kernel_rfl
theorem ag_53_R3 : aggB Try.prog 53 = some 16 := by kernel_rfl
theorem sz_53_R3 : sizeB Try.prog 53 = some 16 := by kernel_rfl
theorem fa_53_12_R3 : FA Try.prog 53 12 14 := fun _ _ _ => by kernel_rfl
theorem sc_4_R3 : scalB Try.prog 4 = true := by kernel_rfl
theorem fa_32_3_R3 : FA Try.prog 32 3 3 := fun _ _ _ => by kernel_rfl
theorem ag_32_R3 : aggB Try.prog 32 = some 5 := by kernel_rfl
theorem cb_49_R3 : callB Try.prog 49 = true := by kernel_rfl
theorem cb_88_R3 : callB Try.prog 88 = true := by kernel_rfl
theorem zr_32_R3 : zeroB Try.prog 32 = some (.agg #[.int .i64 0, .int .i64 0, .int .i64 0, .int .i64 0, .string { data := #[] }]) := by kernel_rfl
theorem sz_32_R3 : sizeB Try.prog 32 = some 5 := by kernel_rfl
theorem fa_53_10_R3 : FA Try.prog 53 10 10 := fun _ _ _ => by kernel_rfl
theorem fa_53_1_R3 : FA Try.prog 53 1 1 := fun _ _ _ => by kernel_rfl
theorem cb_36_R3 : callB Try.prog 36 = true := by kernel_rfl
theorem cb_24_R3 : callB Try.prog 24 = true := by kernel_rfl
theorem cb_87_R3 : callB Try.prog 87 = true := by kernel_rfl
theorem fa_53_9_R3 : FA Try.prog 53 9 9 := fun _ _ _ => by kernel_rfl
theorem tl_22_R3 : SlT Try.prog 22 32 5 48 (.agg #[.int .i64 0, .int .i64 0, .int .i64 0, .int .i64 0, .string { data := #[] }]) := ⟨by kernel_rfl, by kernel_rfl, by kernel_rfl, by kernel_rfl, by decide⟩
theorem bs_22_1_R3 : ∀ (x0_0 : Int) (x0_1 : Int) (x0_2 : Int) (x0_3 : Int) (x0_4 : ByteArray), News Try.prog (Instr.buildSlice 22 1 #[(0, .agg #[.int .i64 x0_0, .int .i64 x0_1, .int .i64 x0_2, .int .i64 x0_3, .string x0_4])]) (.cells #[.int .i64 x0_0, .int .i64 x0_1, .int .i64 x0_2, .int .i64 x0_3, .string x0_4] 32) fun b => .slice (some ⟨b, 0, none⟩) 1 1 := by intros; intro w; kernel_rfl
theorem sz_22_R3 : sizeB Try.prog 22 = some 1 := by kernel_rfl
theorem cb_89_R3 : callB Try.prog 89 = true := by kernel_rfl
open VoteM AgrM Quor

theorem Ps_len {st : ASt} (W : st.Wf) : st.Ps.length ≤ 64 := by
 have h := Quor.nodup_lt 64 (st.Ps.map fun w => w.round.toNat) ?_ ?_
 · simpa using h
 · have hp := List.pairwise_map.1 W.pn
   refine List.pairwise_map.2 (hp.imp_of_mem fun {a b} ha hb hne e => hne ?_)
   have h1 := (check_spec (W.p a ha).1).2.2.2.1
   have h2 := (check_spec (W.p b hb).1).2.2.2.1
   omega
 · intro x hx
   obtain ⟨w, hw, rfl⟩ := List.mem_map.1 hx
   have h1 := (check_spec (W.p w hw).1).2.2.2
   omega
theorem take_no {st : ASt} {q : Wrd} (h : st.cnt q = false) : st.take q = (st, []) := by
 unfold ASt.take
 split
 · rfl
 · rw [if_neg (by rw [h]; decide)]
theorem take_not {st : ASt} {q : Wrd} (h : (st.round < 0 ∨ st.done = true) ∨ st.cnt q = false) : st.take q = (st, []) := h.elim take_dead take_no
theorem Fw.Sep.wsC {S : Nat → Prop} {w0 w : World} {r : List Res} {v : Value} {L L' : List Wrd} (M : Sep S w0 w (wsR v L :: r)) (e : L = L') : Sep S w0 w (wsR v L' :: r) := by
 subst e; exact M
theorem ctk4 {st : ASt} {q : Wrd} (h : q.kind = 4) : st.count q = st.timeout q.valid := if_pos h
theorem ctk1 {st : ASt} {q : Wrd} (h : ¬ q.kind = 4) (h1 : q.kind = 1) : st.count q = ({ st with Ps := st.Ps ++ [q] }, []) := by
 unfold ASt.count
 rw [if_neg h, if_pos h1]
theorem ctk2 {st : ASt} {q : Wrd} (h : ¬ q.kind = 4) (h1 : ¬ q.kind = 1) : st.count q = ({ st with L := st.L ++ [q] }, []) := by
 unfold ASt.count
 rw [if_neg h, if_neg h1]
theorem cnt_out {st : ASt} {q : Wrd} : (st.count q).2.length ≤ 1 := by
 unfold ASt.count
 split
 · unfold ASt.timeout
   split
   · exact beginO_len _ _
   · split
     · simp
     · split
       · simp [ASt.voteO]
       · split <;> simp [ASt.voteO]
 · split <;> simp
/-- The rules, so far. -/
structure Lp (st : ASt) (q : Wrd) (s : ASt) (o : List Wrd) (k : Int) : Prop where
 W : s.Wf
 s0 : 0 ≤ s.round
 P : s.Ps = (st.count q).1.Ps
 L : s.L = (st.count q).1.L
 r1 : (st.count q).1.run.1 = s.run.1
 r2 : (st.count q).2 ++ (st.count q).1.run.2 = o ++ s.run.2
 lk : s.left + k ≤ 600
 ol : o.length ≤ k + 1
theorem lp0 {st : ASt} {q : Wrd} (W : st.Wf) (h0 : 0 ≤ st.round) (hc : st.cnt q = true) : Lp st q (st.count q).1 (st.count q).2 0 := by
 obtain ⟨W1, h1⟩ := count_wf W h0 hc
 refine ⟨W1, by omega, rfl, rfl, rfl, rfl, ?_, by have := cnt_out (st := st) (q := q); omega⟩
 have hs := W1.s
 unfold ASt.left
 split <;> split <;> omega
theorem Lp.next {st s b : ASt} {q : Wrd} {o o' : List Wrd} {k : Int} (P : Lp st q s o k) (hd : s.done = false) (hr : s.rule = some (b, o')) : Lp st q b (o ++ o') (k + 1) := by
 have R := rule_spec hr
 obtain ⟨W', h1⟩ := R.wf P.W P.s0
 have hl := R.left P.W P.s0 hd
 have hs := run_step P.W P.s0 hd hr
 have S := R.same
 have h2 := Rul_len R
 have h3 := P.s0
 have h4 := P.lk
 have h5 := P.ol
 refine ⟨W', by omega, S.Ps.trans P.P, S.L.trans P.L, by rw [P.r1, hs], by rw [P.r2, hs, List.append_assoc], by omega, by rw [List.length_append]; omega⟩
theorem Lp.fin {st s : ASt} {q : Wrd} {o : List Wrd} {k : Int} (P : Lp st q s o k) (h0 : 0 ≤ st.round) (hd : st.done = false) (hc : st.cnt q = true) (hs : s.run = (s, [])) : st.take q = (s, o) := by
 unfold ASt.take
 rw [if_neg (by rintro (h | h); omega; rw [hd] at h; cases h), if_pos hc, P.r1, P.r2, hs, List.append_nil]
theorem ruleO_len (s : ASt) : (ruleO s).length ≤ 1 := by
 unfold ruleO
 cases hr : s.rule with
 | none => simp
 | some x => exact Rul_len (rule_spec (b := x.1) (o := x.2) hr)
theorem Fw.Sep.blkC {S : Nat → Prop} {w0 w : World} {r : List Res} {b : Nat} {cs cs' : Array Value} {T : TypeId} (M : Sep S w0 w (blk b (.cells cs T (0, 0)) :: r)) (e : cs = cs') : Sep S w0 w (blk b (.cells cs' T (0, 0)) :: r) := by
 subst e; exact M
theorem rule_some {s : ASt} (h : s.rule.isSome = true) : s.rule = some (ruleS s, ruleO s) := by
 unfold ruleS ruleO
 cases hr : s.rule with
 | none => rw [hr] at h; cases h
 | some x => rfl

set_option maxRecDepth 100000 in
set_option maxHeartbeats 4000000 in
theorem c24n (n t : Int) (L : List Wrd) (v : Value) (q : Wrd) (hl : L.length ≤ 2048) (hno : okV n L q = false) (w0 : World) (hr : RdSl w0.heap v L.length 5 (L.flatMap encW)) : Cl Try.prog 24 #[refV n t v, wrdV q] w0 (RetQ w0 fun r => r = .tuple #[refV n t v, .bool false]) := by
 have M : Sep (fun _ => False) w0 w0 _ := Sep.nil _ w0
 have hro := ro_of hr
 obtain ⟨A, cc, rfl, hcc⟩ := hr.form
 refine enter (vs := [_, _]) Try.func24 rfl rfl rfl ?_
 intro a F
 refine wp_seq ?_
 refine wp_region_l [.wr, .wr, .wr, .ind] ([0, 1, 2, 3]) rfl ?_
 refine s_bxA F M rfl rfl rfl rfl rfl ?_; (clear F a M; try clear w); intro b2 w M a F
 refine s_bxA F M rfl rfl rfl rfl rfl ?_; (clear F a M; try clear w); intro b3 w M a F
 refine s_alc F M rfl rfl rfl rfl zr_28_R3 rfl ?_; (clear F a M; try clear w); intro b4 w M a F
 refine s_I F rfl rfl rfl rfl rfl rfl ?_; clear F a; intro a F
 refine t_endM M ?_; (clear M; try clear w); intro w M
 refine wp_seq ?_
 refine wp_seq ?_
 refine wp_region_l [.ind, .rd, .ind, .ind, .ind, .rd, .ind, .ind, .ind, .ind, .rd, .ind, .ind, .ind, .ind, .rd, .ind, .rd, .ind, .ind, .ind, .ind, .rd, .ind, .ind, .ind, .ind, .rd, .ind, .ind, .ind, .ind, .rd, .ind, .ind, .ind] ([0, 1, 2, 3, 4, 5, 6, 7, 8, 9, 10, 11, 12, 13, 14, 15, 16, 17, 18, 19, 20, 21, 22, 23, 24, 25, 26, 27, 28, 29, 30, 31, 32, 33, 34, 35]) rfl ?_
 refine s_fa0 F rfl rfl rfl rfl fa_32_0_R3 rfl ?_; clear F a; intro a F
 refine s_ld F rfl rfl rfl rfl sc_3_R3 rfl (by exact cell_of_blk M.h1 (lit rfl)) ?_; clear F a; intro a F
 refine s_rn 2 F rfl rfl ?_; clear F a; intro a F
 refine bsplit F 10 rfl ?_ ?_
 clear F; intro hc0 F
 try rw [hc0] at F
 replace hc0 := nd1 hc0
 refine s_fa0 F rfl rfl rfl rfl fa_32_0_R3 rfl ?_; clear F a; intro a F
 refine s_ld F rfl rfl rfl rfl sc_3_R3 rfl (by exact cell_of_blk M.h1 (lit rfl)) ?_; clear F a; intro a F
 refine s_rn 3 F rfl rfl ?_; clear F a; intro a F
 refine bsplit F 15 rfl ?_ ?_
 clear F; intro hc1 F
 try rw [hc1] at F
 replace hc1 := nd1 hc1
 refine s_rn 27 F rfl rfl ?_; clear F a; intro a F
 refine t_endM M ?_; (clear M; try clear w); intro w M
 refine c_t F rfl ?_
 refine wp_seq ?_
 replace F := F.keep [0, 1, 2, 3, 4, 5] rfl
 refine wp_region_l [.rd, .wr, .ind] ([0, 1, 2]) rfl ?_
 refine s_lda F rfl rfl rfl rfl ag_28_R3 rfl rfl (cells_whole M.h2) ?_; clear F a; intro a F
 refine s_stW F M rfl rfl rfl sz_28_R3 rfl rfl rfl rfl rfl ?_; (clear M; try clear w); intro w M
 refine s_I F rfl rfl rfl rfl rfl rfl ?_; clear F a; intro a F
 refine t_endM M ?_; (clear M; try clear w); intro w M
 refine wp_ret ?_
 refine rt2 F rfl (by exact rv_a F rfl ag_28_R3 rfl (cells_whole M.h0)) (rv_t F rfl) ?_
 exact ⟨_, rfl, rfl, M.chg⟩
 clear F; intro hc2 F
 try rw [hc2] at F
 replace hc2 := nd0 hc2
 refine s_fa0 F rfl rfl rfl rfl fa_32_1_R3 rfl ?_; clear F a; intro a F
 refine s_ld F rfl rfl rfl rfl sc_3_R3 rfl (by exact cell_of_blk M.h1 (lit rfl)) ?_; clear F a; intro a F
 refine s_rn 3 F rfl rfl ?_; clear F a; intro a F
 refine bsplit F 20 rfl ?_ ?_
 clear F; intro hc3 F
 try rw [hc3] at F
 replace hc3 := of_decide_eq_true hc3
 refine s_rn 22 F rfl rfl ?_; clear F a; intro a F
 refine t_endM M ?_; (clear M; try clear w); intro w M
 refine c_t F rfl ?_
 refine wp_seq ?_
 replace F := F.keep [0, 1, 2, 3, 4, 5] rfl
 refine wp_region_l [.rd, .wr, .ind] ([0, 1, 2]) rfl ?_
 refine s_lda F rfl rfl rfl rfl ag_28_R3 rfl rfl (cells_whole M.h2) ?_; clear F a; intro a F
 refine s_stW F M rfl rfl rfl sz_28_R3 rfl rfl rfl rfl rfl ?_; (clear M; try clear w); intro w M
 refine s_I F rfl rfl rfl rfl rfl rfl ?_; clear F a; intro a F
 refine t_endM M ?_; (clear M; try clear w); intro w M
 refine wp_ret ?_
 refine rt2 F rfl (by exact rv_a F rfl ag_28_R3 rfl (cells_whole M.h0)) (rv_t F rfl) ?_
 exact ⟨_, rfl, rfl, M.chg⟩
 clear F; intro hc4 F
 try rw [hc4] at F
 replace hc4 := of_decide_eq_false hc4
 refine s_fa0 F rfl rfl rfl rfl fa_32_1_R3 rfl ?_; clear F a; intro a F
 refine s_ld F rfl rfl rfl rfl sc_3_R3 rfl (by exact cell_of_blk M.h1 (lit rfl)) ?_; clear F a; intro a F
 refine s_fa0 F rfl rfl rfl rfl fa_28_0_R3 rfl ?_; clear F a; intro a F
 refine s_ld F rfl rfl rfl rfl sc_3_R3 rfl (by exact cell_of_blk M.h2 (lit rfl)) ?_; clear F a; intro a F
 refine s_rn 3 F rfl rfl ?_; clear F a; intro a F
 refine bsplit F 27 rfl ?_ ?_
 clear F; intro hc5 F
 try rw [hc5] at F
 replace hc5 := of_decide_eq_true hc5
 refine s_rn 15 F rfl rfl ?_; clear F a; intro a F
 refine t_endM M ?_; (clear M; try clear w); intro w M
 refine c_t F rfl ?_
 refine wp_seq ?_
 replace F := F.keep [0, 1, 2, 3, 4, 5] rfl
 refine wp_region_l [.rd, .wr, .ind] ([0, 1, 2]) rfl ?_
 refine s_lda F rfl rfl rfl rfl ag_28_R3 rfl rfl (cells_whole M.h2) ?_; clear F a; intro a F
 refine s_stW F M rfl rfl rfl sz_28_R3 rfl rfl rfl rfl rfl ?_; (clear M; try clear w); intro w M
 refine s_I F rfl rfl rfl rfl rfl rfl ?_; clear F a; intro a F
 refine t_endM M ?_; (clear M; try clear w); intro w M
 refine wp_ret ?_
 refine rt2 F rfl (by exact rv_a F rfl ag_28_R3 rfl (cells_whole M.h0)) (rv_t F rfl) ?_
 exact ⟨_, rfl, rfl, M.chg⟩
 clear F; intro hc6 F
 try rw [hc6] at F
 replace hc6 := of_decide_eq_false hc6
 refine s_fa0 F rfl rfl rfl rfl fa_32_2_R3 rfl ?_; clear F a; intro a F
 refine s_ld F rfl rfl rfl rfl sc_3_R3 rfl (by exact cell_of_blk M.h1 (lit rfl)) ?_; clear F a; intro a F
 refine s_rn 3 F rfl rfl ?_; clear F a; intro a F
 refine bsplit F 32 rfl ?_ ?_
 clear F; intro hc7 F
 try rw [hc7] at F
 replace hc7 := of_decide_eq_true hc7
 refine s_rn 10 F rfl rfl ?_; clear F a; intro a F
 refine t_endM M ?_; (clear M; try clear w); intro w M
 refine c_t F rfl ?_
 refine wp_seq ?_
 replace F := F.keep [0, 1, 2, 3, 4, 5] rfl
 refine wp_region_l [.rd, .wr, .ind] ([0, 1, 2]) rfl ?_
 refine s_lda F rfl rfl rfl rfl ag_28_R3 rfl rfl (cells_whole M.h2) ?_; clear F a; intro a F
 refine s_stW F M rfl rfl rfl sz_28_R3 rfl rfl rfl rfl rfl ?_; (clear M; try clear w); intro w M
 refine s_I F rfl rfl rfl rfl rfl rfl ?_; clear F a; intro a F
 refine t_endM M ?_; (clear M; try clear w); intro w M
 refine wp_ret ?_
 refine rt2 F rfl (by exact rv_a F rfl ag_28_R3 rfl (cells_whole M.h0)) (rv_t F rfl) ?_
 exact ⟨_, rfl, rfl, M.chg⟩
 clear F; intro hc8 F
 try rw [hc8] at F
 replace hc8 := of_decide_eq_false hc8
 refine s_fa0 F rfl rfl rfl rfl fa_32_2_R3 rfl ?_; clear F a; intro a F
 refine s_ld F rfl rfl rfl rfl sc_3_R3 rfl (by exact cell_of_blk M.h1 (lit rfl)) ?_; clear F a; intro a F
 refine s_rn 3 F rfl rfl ?_; clear F a; intro a F
 refine bsplit F 37 rfl ?_ ?_
 clear F; intro hc9 F
 try rw [hc9] at F
 replace hc9 := of_decide_eq_true hc9
 refine s_rn 5 F rfl rfl ?_; clear F a; intro a F
 refine t_endM M ?_; (clear M; try clear w); intro w M
 refine c_t F rfl ?_
 refine wp_seq ?_
 replace F := F.keep [0, 1, 2, 3, 4, 5] rfl
 refine wp_region_l [.rd, .wr, .ind] ([0, 1, 2]) rfl ?_
 refine s_lda F rfl rfl rfl rfl ag_28_R3 rfl rfl (cells_whole M.h2) ?_; clear F a; intro a F
 refine s_stW F M rfl rfl rfl sz_28_R3 rfl rfl rfl rfl rfl ?_; (clear M; try clear w); intro w M
 refine s_I F rfl rfl rfl rfl rfl rfl ?_; clear F a; intro a F
 refine t_endM M ?_; (clear M; try clear w); intro w M
 refine wp_ret ?_
 refine rt2 F rfl (by exact rv_a F rfl ag_28_R3 rfl (cells_whole M.h0)) (rv_t F rfl) ?_
 exact ⟨_, rfl, rfl, M.chg⟩
 clear F; intro hc10 F
 try rw [hc10] at F
 replace hc10 := of_decide_eq_false hc10
 refine s_fa0 F rfl rfl rfl rfl fa_32_4_R3 rfl ?_; clear F a; intro a F
 refine s_ld F rfl rfl rfl rfl sc_9_R3 rfl (by exact cell_of_blk M.h1 (lit rfl)) ?_; clear F a; intro a F
 refine s_lenS F rfl rfl rfl rfl st_9_R3 rfl ?_; clear F a; intro a F
 refine s_rn 2 F rfl rfl ?_; clear F a; intro a F
 refine t_endM M ?_; (clear M; try clear w); intro w M
 refine c_if F rfl ?_ ?_
 clear F; intro hc11 F
 try rw [hc11] at F
 replace hc11 := of_decide_eq_true hc11
 refine wp_seq ?_
 replace F := F.keep [0, 1, 2, 3, 4, 5] rfl
 refine wp_region_l [.rd, .wr, .ind] ([0, 1, 2]) rfl ?_
 refine s_lda F rfl rfl rfl rfl ag_28_R3 rfl rfl (cells_whole M.h2) ?_; clear F a; intro a F
 refine s_stW F M rfl rfl rfl sz_28_R3 rfl rfl rfl rfl rfl ?_; (clear M; try clear w); intro w M
 refine s_I F rfl rfl rfl rfl rfl rfl ?_; clear F a; intro a F
 refine t_endM M ?_; (clear M; try clear w); intro w M
 refine wp_ret ?_
 refine rt2 F rfl (by exact rv_a F rfl ag_28_R3 rfl (cells_whole M.h0)) (rv_t F rfl) ?_
 exact ⟨_, rfl, rfl, M.chg⟩
 clear F; intro hc12 F
 try rw [hc12] at F
 replace hc12 := of_decide_eq_false hc12
 refine wp_skip ?_
 refine wp_seq ?_
 refine wp_seq ?_
 replace F := F.keep [0, 1, 2, 3, 4, 5] rfl
 refine wp_region_l [.ind] ([0]) rfl ?_
 refine s_I F rfl rfl rfl rfl rfl rfl ?_; clear F a; intro a F
 refine t_endM M ?_; (clear M; try clear w); intro w M
 refine wp_block ?_
 refine loopX (X := (Int)) F [0, 1, 2, 3, 4] rfl (fun (i : Int) => (0 ≤ i) ∧ (i ≤ L.length) ∧ (∀ o ∈ L.take i.toNat, ¬ (o.kind = q.kind ∧ o.frm = q.frm ∧ o.round = q.round))) (fun (i : Int) => [(6, .int .i64 i)]) (fun (i : Int) => []) (fun (i : Int) => L.length - i.toNat) (0) M ⟨(by omega), (by omega), (by simp)⟩ (F.keep [6, 0, 1, 2, 3, 4] rfl) ?_
 clear F M; clear a; (try clear w)
 rintro i a w ⟨i0, i1, ha⟩ F M; try dsimp only at F M
 try simp only [List.cons_append, List.nil_append] at F M
 try dsimp only at i0 i1 ha
 refine wp_seq ?_
 refine wp_seq ?_
 refine wp_region_l [.ind, .ind, .rd, .ind, .ind] ([0, 1, 2, 3, 4]) rfl ?_
 refine s_I F rfl rfl rfl rfl rfl rfl ?_; clear F a; intro a F
 refine s_fa0 F rfl rfl rfl rfl fa_28_2_R3 rfl ?_; clear F a; intro a F
 refine s_ld F rfl rfl rfl rfl sc_22_R3 rfl (by exact cell_of_blk M.h2 (lit rfl)) ?_; clear F a; intro a F
 refine s_len F rfl rfl rfl rfl sl_22_R3 rfl ?_; clear F a; intro a F
 refine s_bin F rfl rfl rfl rfl rfl rfl rfl ?_; clear F a; intro a F
 refine t_endM M ?_; (clear M; try clear w); intro w M
 refine c_if F rfl ?_ ?_
 clear F; intro hc13 F
 try rw [hc13] at F
 replace hc13 := of_decide_eq_true hc13
 refine wp_skip ?_
 refine wp_seq ?_
 refine wp_block ?_
 refine wp_seq ?_
 replace F := F.keep [0, 1, 2, 3, 4, 6] rfl
 refine wp_region_t [.ind, .rd, .ind, .ind, .ind, .rd, .ind, .rd, .ind, .ind, .ind, .rd, .ind, .ind, .ind, .rd, .ind, .rd, .ind, .ind, .ind, .ind, .rd, .ind, .ind, .ind, .rd, .ind, .rd, .ind, .ind] [] (otOf [0, 1, 2, 3, 4, 5, 6, 7, 8, 9, 10, 11, 12, 13, 14, 15, 16, 17, 18, 19, 20, 21, 22, 23, 24, 25, 26, 27, 28, 29, 30]) mixed (by kernel_rfl) ?_
 refine s_fa0 F rfl rfl rfl rfl fa_28_2_R3 rfl ?_; clear F a; intro a F
 refine s_ld F rfl rfl rfl rfl sc_22_R3 rfl (by exact cell_of_blk M.h2 (lit rfl)) ?_; clear F a; intro a F
 refine s_I F rfl rfl rfl rfl rfl rfl ?_; clear F a; intro a F
 refine s_ix F rfl rfl rfl rfl sl_22_R3 rfl rfl (by exact M.chg.ro hro) (by omega) (by omega) ?_; clear F a; intro e54 he54 a F
 refine s_fa F rfl rfl rfl rfl fa_32_0_R3 rfl ?_; clear F a; intro a F
 refine s_ld F rfl rfl rfl rfl sc_3_R3 rfl (by exact rdX (M.chg.ro hro) (by intro e; rfl) he54 rfl) ?_; clear F a; intro a F
 refine s_fa0 F rfl rfl rfl rfl fa_32_0_R3 rfl ?_; clear F a; intro a F
 refine s_ld F rfl rfl rfl rfl sc_3_R3 rfl (by exact cell_of_blk M.h1 (lit rfl)) ?_; clear F a; intro a F
 refine s_rn 2 F rfl rfl ?_; clear F a; intro a F
 refine bsplit F 60 rfl ?_ ?_
 clear F; intro hc14 F
 try rw [hc14] at F
 replace hc14 := of_decide_eq_true hc14
 refine s_fa0 F rfl rfl rfl rfl fa_28_2_R3 rfl ?_; clear F a; intro a F
 refine s_ld F rfl rfl rfl rfl sc_22_R3 rfl (by exact cell_of_blk M.h2 (lit rfl)) ?_; clear F a; intro a F
 refine s_I F rfl rfl rfl rfl rfl rfl ?_; clear F a; intro a F
 refine s_ix F rfl rfl rfl rfl sl_22_R3 rfl rfl (by exact M.chg.ro hro) (by omega) (by omega) ?_; clear F a; intro e64 he64 a F
 try (obtain rfl := Option.some.inj (he54.symm.trans he64))
 refine s_fa F rfl rfl rfl rfl fa_32_1_R3 rfl ?_; clear F a; intro a F
 refine s_ld F rfl rfl rfl rfl sc_3_R3 rfl (by exact rdX (M.chg.ro hro) (by intro e; rfl) he64 rfl) ?_; clear F a; intro a F
 refine s_fa0 F rfl rfl rfl rfl fa_32_1_R3 rfl ?_; clear F a; intro a F
 refine s_ld F rfl rfl rfl rfl sc_3_R3 rfl (by exact cell_of_blk M.h1 (lit rfl)) ?_; clear F a; intro a F
 refine s_rn 3 F rfl rfl ?_; clear F a; intro a F
 refine bsplit F 71 rfl ?_ ?_
 clear F; intro hc15 F
 try rw [hc15] at F
 replace hc15 := of_decide_eq_true hc15
 refine s_fa0 F rfl rfl rfl rfl fa_28_2_R3 rfl ?_; clear F a; intro a F
 refine s_ld F rfl rfl rfl rfl sc_22_R3 rfl (by exact cell_of_blk M.h2 (lit rfl)) ?_; clear F a; intro a F
 refine s_I F rfl rfl rfl rfl rfl rfl ?_; clear F a; intro a F
 refine s_ix F rfl rfl rfl rfl sl_22_R3 rfl rfl (by exact M.chg.ro hro) (by omega) (by omega) ?_; clear F a; intro e75 he75 a F
 try (obtain rfl := Option.some.inj (he54.symm.trans he75))
 try (obtain rfl := Option.some.inj (he64.symm.trans he75))
 refine s_fa F rfl rfl rfl rfl fa_32_2_R3 rfl ?_; clear F a; intro a F
 refine s_ld F rfl rfl rfl rfl sc_3_R3 rfl (by exact rdX (M.chg.ro hro) (by intro e; rfl) he75 rfl) ?_; clear F a; intro a F
 refine s_fa0 F rfl rfl rfl rfl fa_32_2_R3 rfl ?_; clear F a; intro a F
 refine s_ld F rfl rfl rfl rfl sc_3_R3 rfl (by exact cell_of_blk M.h1 (lit rfl)) ?_; clear F a; intro a F
 refine s_rn 2 F rfl rfl ?_; clear F a; intro a F
 refine t_endM M ?_; (clear M; try clear w); intro w M
 refine c_if F rfl ?_ ?_
 clear F; intro hc16 F
 try rw [hc16] at F
 replace hc16 := of_decide_eq_true hc16
 refine wp_seq ?_
 replace F := F.keep [0, 1, 2, 3, 4, 6] rfl
 refine wp_region_l [.rd, .wr, .ind] ([0, 1, 2]) rfl ?_
 refine s_lda F rfl rfl rfl rfl ag_28_R3 rfl rfl (cells_whole M.h2) ?_; clear F a; intro a F
 refine s_stW F M rfl rfl rfl sz_28_R3 rfl rfl rfl rfl rfl ?_; (clear M; try clear w); intro w M
 refine s_I F rfl rfl rfl rfl rfl rfl ?_; clear F a; intro a F
 refine t_endM M ?_; (clear M; try clear w); intro w M
 refine wp_ret ?_
 refine rt2 F rfl (by exact rv_a F rfl ag_28_R3 rfl (cells_whole M.h0)) (rv_t F rfl) ?_
 exact ⟨_, rfl, rfl, M.chg⟩
 clear F; intro hc17 F
 try rw [hc17] at F
 replace hc17 := of_decide_eq_false hc17
 refine wp_skip ?_
 replace F := F.keep [0, 1, 2, 3, 4, 6] rfl
 refine wp_region_l [.ind, .ind, .ind] ([0, 1, 2]) rfl ?_
 refine s_I F rfl rfl rfl rfl rfl rfl ?_; clear F a; intro a F
 refine s_add F rfl rfl rfl rfl rfl rfl (by unfold In64; omega) ?_; clear F a; intro a F
 refine s_I F rfl rfl rfl rfl rfl rfl ?_; clear F a; intro a F
 refine t_endM M ?_; (clear M; try clear w); intro w M
 refine again (i + 1) (by show _ < _; (try dsimp only); omega) ⟨(by omega), (by assumption), (all_take ha i0 he54 (by clear M F; grind))⟩ (F.keep [6, 0, 1, 2, 3, 4] rfl) ?_
 try dsimp only [List.cons_append, List.nil_append]
 refine M.pick ?_; repeat (first | exact PkG.nil | refine PkG.cons 0 rfl rfl ?_ | refine PkG.cons 1 rfl rfl ?_ | refine PkG.cons 2 rfl rfl ?_)
 clear F; intro hc18 F
 try rw [hc18] at F
 replace hc18 := of_decide_eq_false hc18
 refine s_rn 10 F rfl rfl ?_; clear F a; intro a F
 refine t_endM M ?_; (clear M; try clear w); intro w M
 refine c_f F rfl ?_
 refine wp_skip ?_
 replace F := F.keep [0, 1, 2, 3, 4, 6] rfl
 refine wp_region_l [.ind, .ind, .ind] ([0, 1, 2]) rfl ?_
 refine s_I F rfl rfl rfl rfl rfl rfl ?_; clear F a; intro a F
 refine s_add F rfl rfl rfl rfl rfl rfl (by unfold In64; omega) ?_; clear F a; intro a F
 refine s_I F rfl rfl rfl rfl rfl rfl ?_; clear F a; intro a F
 refine t_endM M ?_; (clear M; try clear w); intro w M
 refine again (i + 1) (by show _ < _; (try dsimp only); omega) ⟨(by omega), (by assumption), (all_take ha i0 he54 (by clear M F; grind))⟩ (F.keep [6, 0, 1, 2, 3, 4] rfl) ?_
 try dsimp only [List.cons_append, List.nil_append]
 refine M.pick ?_; repeat (first | exact PkG.nil | refine PkG.cons 0 rfl rfl ?_ | refine PkG.cons 1 rfl rfl ?_ | refine PkG.cons 2 rfl rfl ?_)
 clear F; intro hc19 F
 try rw [hc19] at F
 replace hc19 := of_decide_eq_false hc19
 refine s_rn 21 F rfl rfl ?_; clear F a; intro a F
 refine t_endM M ?_; (clear M; try clear w); intro w M
 refine c_f F rfl ?_
 refine wp_skip ?_
 replace F := F.keep [0, 1, 2, 3, 4, 6] rfl
 refine wp_region_l [.ind, .ind, .ind] ([0, 1, 2]) rfl ?_
 refine s_I F rfl rfl rfl rfl rfl rfl ?_; clear F a; intro a F
 refine s_add F rfl rfl rfl rfl rfl rfl (by unfold In64; omega) ?_; clear F a; intro a F
 refine s_I F rfl rfl rfl rfl rfl rfl ?_; clear F a; intro a F
 refine t_endM M ?_; (clear M; try clear w); intro w M
 refine again (i + 1) (by show _ < _; (try dsimp only); omega) ⟨(by omega), (by assumption), (all_take ha i0 he54 (by clear M F; grind))⟩ (F.keep [6, 0, 1, 2, 3, 4] rfl) ?_
 try dsimp only [List.cons_append, List.nil_append]
 refine M.pick ?_; repeat (first | exact PkG.nil | refine PkG.cons 0 rfl rfl ?_ | refine PkG.cons 1 rfl rfl ?_ | refine PkG.cons 2 rfl rfl ?_)
 clear F; intro hc20 F
 try rw [hc20] at F
 replace hc20 := of_decide_eq_false hc20
 exfalso
 rw [take_all (by omega)] at ha
 have hok : okV n L q = true := by
   have := dup_no ha
   clear M F hr; grind [okV, mayV]
 rw [hno] at hok
 cases hok
 clear F; intro hc21 F
 try rw [hc21] at F
 replace hc21 := nd0 hc21
 refine s_rn 5 F rfl rfl ?_; clear F a; intro a F
 refine s_fa0 F rfl rfl rfl rfl fa_32_1_R3 rfl ?_; clear F a; intro a F
 refine s_ld F rfl rfl rfl rfl sc_3_R3 rfl (by exact cell_of_blk M.h1 (lit rfl)) ?_; clear F a; intro a F
 refine s_rn 3 F rfl rfl ?_; clear F a; intro a F
 refine bsplit F 20 rfl ?_ ?_
 clear F; intro hc22 F
 try rw [hc22] at F
 replace hc22 := of_decide_eq_true hc22
 refine s_rn 22 F rfl rfl ?_; clear F a; intro a F
 refine t_endM M ?_; (clear M; try clear w); intro w M
 refine c_t F rfl ?_
 refine wp_seq ?_
 replace F := F.keep [0, 1, 2, 3, 4, 5] rfl
 refine wp_region_l [.rd, .wr, .ind] ([0, 1, 2]) rfl ?_
 refine s_lda F rfl rfl rfl rfl ag_28_R3 rfl rfl (cells_whole M.h2) ?_; clear F a; intro a F
 refine s_stW F M rfl rfl rfl sz_28_R3 rfl rfl rfl rfl rfl ?_; (clear M; try clear w); intro w M
 refine s_I F rfl rfl rfl rfl rfl rfl ?_; clear F a; intro a F
 refine t_endM M ?_; (clear M; try clear w); intro w M
 refine wp_ret ?_
 refine rt2 F rfl (by exact rv_a F rfl ag_28_R3 rfl (cells_whole M.h0)) (rv_t F rfl) ?_
 exact ⟨_, rfl, rfl, M.chg⟩
 clear F; intro hc23 F
 try rw [hc23] at F
 replace hc23 := of_decide_eq_false hc23
 refine s_fa0 F rfl rfl rfl rfl fa_32_1_R3 rfl ?_; clear F a; intro a F
 refine s_ld F rfl rfl rfl rfl sc_3_R3 rfl (by exact cell_of_blk M.h1 (lit rfl)) ?_; clear F a; intro a F
 refine s_fa0 F rfl rfl rfl rfl fa_28_0_R3 rfl ?_; clear F a; intro a F
 refine s_ld F rfl rfl rfl rfl sc_3_R3 rfl (by exact cell_of_blk M.h2 (lit rfl)) ?_; clear F a; intro a F
 refine s_rn 3 F rfl rfl ?_; clear F a; intro a F
 refine bsplit F 27 rfl ?_ ?_
 clear F; intro hc24 F
 try rw [hc24] at F
 replace hc24 := of_decide_eq_true hc24
 refine s_rn 15 F rfl rfl ?_; clear F a; intro a F
 refine t_endM M ?_; (clear M; try clear w); intro w M
 refine c_t F rfl ?_
 refine wp_seq ?_
 replace F := F.keep [0, 1, 2, 3, 4, 5] rfl
 refine wp_region_l [.rd, .wr, .ind] ([0, 1, 2]) rfl ?_
 refine s_lda F rfl rfl rfl rfl ag_28_R3 rfl rfl (cells_whole M.h2) ?_; clear F a; intro a F
 refine s_stW F M rfl rfl rfl sz_28_R3 rfl rfl rfl rfl rfl ?_; (clear M; try clear w); intro w M
 refine s_I F rfl rfl rfl rfl rfl rfl ?_; clear F a; intro a F
 refine t_endM M ?_; (clear M; try clear w); intro w M
 refine wp_ret ?_
 refine rt2 F rfl (by exact rv_a F rfl ag_28_R3 rfl (cells_whole M.h0)) (rv_t F rfl) ?_
 exact ⟨_, rfl, rfl, M.chg⟩
 clear F; intro hc25 F
 try rw [hc25] at F
 replace hc25 := of_decide_eq_false hc25
 refine s_fa0 F rfl rfl rfl rfl fa_32_2_R3 rfl ?_; clear F a; intro a F
 refine s_ld F rfl rfl rfl rfl sc_3_R3 rfl (by exact cell_of_blk M.h1 (lit rfl)) ?_; clear F a; intro a F
 refine s_rn 3 F rfl rfl ?_; clear F a; intro a F
 refine bsplit F 32 rfl ?_ ?_
 clear F; intro hc26 F
 try rw [hc26] at F
 replace hc26 := of_decide_eq_true hc26
 refine s_rn 10 F rfl rfl ?_; clear F a; intro a F
 refine t_endM M ?_; (clear M; try clear w); intro w M
 refine c_t F rfl ?_
 refine wp_seq ?_
 replace F := F.keep [0, 1, 2, 3, 4, 5] rfl
 refine wp_region_l [.rd, .wr, .ind] ([0, 1, 2]) rfl ?_
 refine s_lda F rfl rfl rfl rfl ag_28_R3 rfl rfl (cells_whole M.h2) ?_; clear F a; intro a F
 refine s_stW F M rfl rfl rfl sz_28_R3 rfl rfl rfl rfl rfl ?_; (clear M; try clear w); intro w M
 refine s_I F rfl rfl rfl rfl rfl rfl ?_; clear F a; intro a F
 refine t_endM M ?_; (clear M; try clear w); intro w M
 refine wp_ret ?_
 refine rt2 F rfl (by exact rv_a F rfl ag_28_R3 rfl (cells_whole M.h0)) (rv_t F rfl) ?_
 exact ⟨_, rfl, rfl, M.chg⟩
 clear F; intro hc27 F
 try rw [hc27] at F
 replace hc27 := of_decide_eq_false hc27
 refine s_fa0 F rfl rfl rfl rfl fa_32_2_R3 rfl ?_; clear F a; intro a F
 refine s_ld F rfl rfl rfl rfl sc_3_R3 rfl (by exact cell_of_blk M.h1 (lit rfl)) ?_; clear F a; intro a F
 refine s_rn 3 F rfl rfl ?_; clear F a; intro a F
 refine bsplit F 37 rfl ?_ ?_
 clear F; intro hc28 F
 try rw [hc28] at F
 replace hc28 := of_decide_eq_true hc28
 refine s_rn 5 F rfl rfl ?_; clear F a; intro a F
 refine t_endM M ?_; (clear M; try clear w); intro w M
 refine c_t F rfl ?_
 refine wp_seq ?_
 replace F := F.keep [0, 1, 2, 3, 4, 5] rfl
 refine wp_region_l [.rd, .wr, .ind] ([0, 1, 2]) rfl ?_
 refine s_lda F rfl rfl rfl rfl ag_28_R3 rfl rfl (cells_whole M.h2) ?_; clear F a; intro a F
 refine s_stW F M rfl rfl rfl sz_28_R3 rfl rfl rfl rfl rfl ?_; (clear M; try clear w); intro w M
 refine s_I F rfl rfl rfl rfl rfl rfl ?_; clear F a; intro a F
 refine t_endM M ?_; (clear M; try clear w); intro w M
 refine wp_ret ?_
 refine rt2 F rfl (by exact rv_a F rfl ag_28_R3 rfl (cells_whole M.h0)) (rv_t F rfl) ?_
 exact ⟨_, rfl, rfl, M.chg⟩
 clear F; intro hc29 F
 try rw [hc29] at F
 replace hc29 := of_decide_eq_false hc29
 refine s_fa0 F rfl rfl rfl rfl fa_32_4_R3 rfl ?_; clear F a; intro a F
 refine s_ld F rfl rfl rfl rfl sc_9_R3 rfl (by exact cell_of_blk M.h1 (lit rfl)) ?_; clear F a; intro a F
 refine s_lenS F rfl rfl rfl rfl st_9_R3 rfl ?_; clear F a; intro a F
 refine s_rn 2 F rfl rfl ?_; clear F a; intro a F
 refine t_endM M ?_; (clear M; try clear w); intro w M
 refine c_if F rfl ?_ ?_
 clear F; intro hc30 F
 try rw [hc30] at F
 replace hc30 := of_decide_eq_true hc30
 refine wp_seq ?_
 replace F := F.keep [0, 1, 2, 3, 4, 5] rfl
 refine wp_region_l [.rd, .wr, .ind] ([0, 1, 2]) rfl ?_
 refine s_lda F rfl rfl rfl rfl ag_28_R3 rfl rfl (cells_whole M.h2) ?_; clear F a; intro a F
 refine s_stW F M rfl rfl rfl sz_28_R3 rfl rfl rfl rfl rfl ?_; (clear M; try clear w); intro w M
 refine s_I F rfl rfl rfl rfl rfl rfl ?_; clear F a; intro a F
 refine t_endM M ?_; (clear M; try clear w); intro w M
 refine wp_ret ?_
 refine rt2 F rfl (by exact rv_a F rfl ag_28_R3 rfl (cells_whole M.h0)) (rv_t F rfl) ?_
 exact ⟨_, rfl, rfl, M.chg⟩
 clear F; intro hc31 F
 try rw [hc31] at F
 replace hc31 := of_decide_eq_false hc31
 refine wp_skip ?_
 refine wp_seq ?_
 refine wp_seq ?_
 replace F := F.keep [0, 1, 2, 3, 4, 5] rfl
 refine wp_region_l [.ind] ([0]) rfl ?_
 refine s_I F rfl rfl rfl rfl rfl rfl ?_; clear F a; intro a F
 refine t_endM M ?_; (clear M; try clear w); intro w M
 refine wp_block ?_
 refine loopX (X := (Int)) F [0, 1, 2, 3, 4] rfl (fun (i : Int) => (0 ≤ i) ∧ (i ≤ L.length) ∧ (∀ o ∈ L.take i.toNat, ¬ (o.kind = q.kind ∧ o.frm = q.frm ∧ o.round = q.round))) (fun (i : Int) => [(6, .int .i64 i)]) (fun (i : Int) => []) (fun (i : Int) => L.length - i.toNat) (0) M ⟨(by omega), (by omega), (by simp)⟩ (F.keep [6, 0, 1, 2, 3, 4] rfl) ?_
 clear F M; clear a; (try clear w)
 rintro i a w ⟨i0, i1, ha⟩ F M; try dsimp only at F M
 try simp only [List.cons_append, List.nil_append] at F M
 try dsimp only at i0 i1 ha
 refine wp_seq ?_
 refine wp_seq ?_
 refine wp_region_l [.ind, .ind, .rd, .ind, .ind] ([0, 1, 2, 3, 4]) rfl ?_
 refine s_I F rfl rfl rfl rfl rfl rfl ?_; clear F a; intro a F
 refine s_fa0 F rfl rfl rfl rfl fa_28_2_R3 rfl ?_; clear F a; intro a F
 refine s_ld F rfl rfl rfl rfl sc_22_R3 rfl (by exact cell_of_blk M.h2 (lit rfl)) ?_; clear F a; intro a F
 refine s_len F rfl rfl rfl rfl sl_22_R3 rfl ?_; clear F a; intro a F
 refine s_bin F rfl rfl rfl rfl rfl rfl rfl ?_; clear F a; intro a F
 refine t_endM M ?_; (clear M; try clear w); intro w M
 refine c_if F rfl ?_ ?_
 clear F; intro hc32 F
 try rw [hc32] at F
 replace hc32 := of_decide_eq_true hc32
 refine wp_skip ?_
 refine wp_seq ?_
 refine wp_block ?_
 refine wp_seq ?_
 replace F := F.keep [0, 1, 2, 3, 4, 6] rfl
 refine wp_region_t [.ind, .rd, .ind, .ind, .ind, .rd, .ind, .rd, .ind, .ind, .ind, .rd, .ind, .ind, .ind, .rd, .ind, .rd, .ind, .ind, .ind, .ind, .rd, .ind, .ind, .ind, .rd, .ind, .rd, .ind, .ind] [] (otOf [0, 1, 2, 3, 4, 5, 6, 7, 8, 9, 10, 11, 12, 13, 14, 15, 16, 17, 18, 19, 20, 21, 22, 23, 24, 25, 26, 27, 28, 29, 30]) mixed (by kernel_rfl) ?_
 refine s_fa0 F rfl rfl rfl rfl fa_28_2_R3 rfl ?_; clear F a; intro a F
 refine s_ld F rfl rfl rfl rfl sc_22_R3 rfl (by exact cell_of_blk M.h2 (lit rfl)) ?_; clear F a; intro a F
 refine s_I F rfl rfl rfl rfl rfl rfl ?_; clear F a; intro a F
 refine s_ix F rfl rfl rfl rfl sl_22_R3 rfl rfl (by exact M.chg.ro hro) (by omega) (by omega) ?_; clear F a; intro e54 he54 a F
 refine s_fa F rfl rfl rfl rfl fa_32_0_R3 rfl ?_; clear F a; intro a F
 refine s_ld F rfl rfl rfl rfl sc_3_R3 rfl (by exact rdX (M.chg.ro hro) (by intro e; rfl) he54 rfl) ?_; clear F a; intro a F
 refine s_fa0 F rfl rfl rfl rfl fa_32_0_R3 rfl ?_; clear F a; intro a F
 refine s_ld F rfl rfl rfl rfl sc_3_R3 rfl (by exact cell_of_blk M.h1 (lit rfl)) ?_; clear F a; intro a F
 refine s_rn 2 F rfl rfl ?_; clear F a; intro a F
 refine bsplit F 60 rfl ?_ ?_
 clear F; intro hc33 F
 try rw [hc33] at F
 replace hc33 := of_decide_eq_true hc33
 refine s_fa0 F rfl rfl rfl rfl fa_28_2_R3 rfl ?_; clear F a; intro a F
 refine s_ld F rfl rfl rfl rfl sc_22_R3 rfl (by exact cell_of_blk M.h2 (lit rfl)) ?_; clear F a; intro a F
 refine s_I F rfl rfl rfl rfl rfl rfl ?_; clear F a; intro a F
 refine s_ix F rfl rfl rfl rfl sl_22_R3 rfl rfl (by exact M.chg.ro hro) (by omega) (by omega) ?_; clear F a; intro e64 he64 a F
 try (obtain rfl := Option.some.inj (he54.symm.trans he64))
 refine s_fa F rfl rfl rfl rfl fa_32_1_R3 rfl ?_; clear F a; intro a F
 refine s_ld F rfl rfl rfl rfl sc_3_R3 rfl (by exact rdX (M.chg.ro hro) (by intro e; rfl) he64 rfl) ?_; clear F a; intro a F
 refine s_fa0 F rfl rfl rfl rfl fa_32_1_R3 rfl ?_; clear F a; intro a F
 refine s_ld F rfl rfl rfl rfl sc_3_R3 rfl (by exact cell_of_blk M.h1 (lit rfl)) ?_; clear F a; intro a F
 refine s_rn 3 F rfl rfl ?_; clear F a; intro a F
 refine bsplit F 71 rfl ?_ ?_
 clear F; intro hc34 F
 try rw [hc34] at F
 replace hc34 := of_decide_eq_true hc34
 refine s_fa0 F rfl rfl rfl rfl fa_28_2_R3 rfl ?_; clear F a; intro a F
 refine s_ld F rfl rfl rfl rfl sc_22_R3 rfl (by exact cell_of_blk M.h2 (lit rfl)) ?_; clear F a; intro a F
 refine s_I F rfl rfl rfl rfl rfl rfl ?_; clear F a; intro a F
 refine s_ix F rfl rfl rfl rfl sl_22_R3 rfl rfl (by exact M.chg.ro hro) (by omega) (by omega) ?_; clear F a; intro e75 he75 a F
 try (obtain rfl := Option.some.inj (he54.symm.trans he75))
 try (obtain rfl := Option.some.inj (he64.symm.trans he75))
 refine s_fa F rfl rfl rfl rfl fa_32_2_R3 rfl ?_; clear F a; intro a F
 refine s_ld F rfl rfl rfl rfl sc_3_R3 rfl (by exact rdX (M.chg.ro hro) (by intro e; rfl) he75 rfl) ?_; clear F a; intro a F
 refine s_fa0 F rfl rfl rfl rfl fa_32_2_R3 rfl ?_; clear F a; intro a F
 refine s_ld F rfl rfl rfl rfl sc_3_R3 rfl (by exact cell_of_blk M.h1 (lit rfl)) ?_; clear F a; intro a F
 refine s_rn 2 F rfl rfl ?_; clear F a; intro a F
 refine t_endM M ?_; (clear M; try clear w); intro w M
 refine c_if F rfl ?_ ?_
 clear F; intro hc35 F
 try rw [hc35] at F
 replace hc35 := of_decide_eq_true hc35
 refine wp_seq ?_
 replace F := F.keep [0, 1, 2, 3, 4, 6] rfl
 refine wp_region_l [.rd, .wr, .ind] ([0, 1, 2]) rfl ?_
 refine s_lda F rfl rfl rfl rfl ag_28_R3 rfl rfl (cells_whole M.h2) ?_; clear F a; intro a F
 refine s_stW F M rfl rfl rfl sz_28_R3 rfl rfl rfl rfl rfl ?_; (clear M; try clear w); intro w M
 refine s_I F rfl rfl rfl rfl rfl rfl ?_; clear F a; intro a F
 refine t_endM M ?_; (clear M; try clear w); intro w M
 refine wp_ret ?_
 refine rt2 F rfl (by exact rv_a F rfl ag_28_R3 rfl (cells_whole M.h0)) (rv_t F rfl) ?_
 exact ⟨_, rfl, rfl, M.chg⟩
 clear F; intro hc36 F
 try rw [hc36] at F
 replace hc36 := of_decide_eq_false hc36
 refine wp_skip ?_
 replace F := F.keep [0, 1, 2, 3, 4, 6] rfl
 refine wp_region_l [.ind, .ind, .ind] ([0, 1, 2]) rfl ?_
 refine s_I F rfl rfl rfl rfl rfl rfl ?_; clear F a; intro a F
 refine s_add F rfl rfl rfl rfl rfl rfl (by unfold In64; omega) ?_; clear F a; intro a F
 refine s_I F rfl rfl rfl rfl rfl rfl ?_; clear F a; intro a F
 refine t_endM M ?_; (clear M; try clear w); intro w M
 refine again (i + 1) (by show _ < _; (try dsimp only); omega) ⟨(by omega), (by assumption), (all_take ha i0 he54 (by clear M F; grind))⟩ (F.keep [6, 0, 1, 2, 3, 4] rfl) ?_
 try dsimp only [List.cons_append, List.nil_append]
 refine M.pick ?_; repeat (first | exact PkG.nil | refine PkG.cons 0 rfl rfl ?_ | refine PkG.cons 1 rfl rfl ?_ | refine PkG.cons 2 rfl rfl ?_)
 clear F; intro hc37 F
 try rw [hc37] at F
 replace hc37 := of_decide_eq_false hc37
 refine s_rn 10 F rfl rfl ?_; clear F a; intro a F
 refine t_endM M ?_; (clear M; try clear w); intro w M
 refine c_f F rfl ?_
 refine wp_skip ?_
 replace F := F.keep [0, 1, 2, 3, 4, 6] rfl
 refine wp_region_l [.ind, .ind, .ind] ([0, 1, 2]) rfl ?_
 refine s_I F rfl rfl rfl rfl rfl rfl ?_; clear F a; intro a F
 refine s_add F rfl rfl rfl rfl rfl rfl (by unfold In64; omega) ?_; clear F a; intro a F
 refine s_I F rfl rfl rfl rfl rfl rfl ?_; clear F a; intro a F
 refine t_endM M ?_; (clear M; try clear w); intro w M
 refine again (i + 1) (by show _ < _; (try dsimp only); omega) ⟨(by omega), (by assumption), (all_take ha i0 he54 (by clear M F; grind))⟩ (F.keep [6, 0, 1, 2, 3, 4] rfl) ?_
 try dsimp only [List.cons_append, List.nil_append]
 refine M.pick ?_; repeat (first | exact PkG.nil | refine PkG.cons 0 rfl rfl ?_ | refine PkG.cons 1 rfl rfl ?_ | refine PkG.cons 2 rfl rfl ?_)
 clear F; intro hc38 F
 try rw [hc38] at F
 replace hc38 := of_decide_eq_false hc38
 refine s_rn 21 F rfl rfl ?_; clear F a; intro a F
 refine t_endM M ?_; (clear M; try clear w); intro w M
 refine c_f F rfl ?_
 refine wp_skip ?_
 replace F := F.keep [0, 1, 2, 3, 4, 6] rfl
 refine wp_region_l [.ind, .ind, .ind] ([0, 1, 2]) rfl ?_
 refine s_I F rfl rfl rfl rfl rfl rfl ?_; clear F a; intro a F
 refine s_add F rfl rfl rfl rfl rfl rfl (by unfold In64; omega) ?_; clear F a; intro a F
 refine s_I F rfl rfl rfl rfl rfl rfl ?_; clear F a; intro a F
 refine t_endM M ?_; (clear M; try clear w); intro w M
 refine again (i + 1) (by show _ < _; (try dsimp only); omega) ⟨(by omega), (by assumption), (all_take ha i0 he54 (by clear M F; grind))⟩ (F.keep [6, 0, 1, 2, 3, 4] rfl) ?_
 try dsimp only [List.cons_append, List.nil_append]
 refine M.pick ?_; repeat (first | exact PkG.nil | refine PkG.cons 0 rfl rfl ?_ | refine PkG.cons 1 rfl rfl ?_ | refine PkG.cons 2 rfl rfl ?_)
 clear F; intro hc39 F
 try rw [hc39] at F
 replace hc39 := of_decide_eq_false hc39
 exfalso
 rw [take_all (by omega)] at ha
 have hok : okV n L q = true := by
   have := dup_no ha
   clear M F hr; grind [okV, mayV]
 rw [hno] at hok
 cases hok
set_option maxRecDepth 100000 in
set_option maxHeartbeats 2000000 in
theorem c45n (st : ASt) (W : st.Wf) (q : Wrd) (hn : (st.round < 0 ∨ st.done = true) ∨ st.cnt q = false) (pv lv : Value) (w0 : World) (hrp : RdSl w0.heap pv st.Ps.length 5 (st.Ps.flatMap encW)) (hrl : RdSl w0.heap lv st.L.length 5 (st.L.flatMap encW)) : Cl Try.prog 45 #[aV st pv lv, wrdV q] w0 (RetQ w0 fun o => o = .tuple #[aV st pv lv, .slice none 0 0]) := by
 have M : Sep (fun _ => False) w0 w0 _ := Sep.nil _ w0
 have hrop := ro_of hrp
 obtain ⟨PA, PC, rfl, hpc⟩ := hrp.form
 have hrol := ro_of hrl
 obtain ⟨LA, LC, rfl, hlc⟩ := hrl.form
 refine enter (vs := [_, _]) Try.func45 rfl rfl rfl ?_
 intro a F
 refine wp_seq ?_
 refine wp_region_l [.wr, .wr, .wr, .ind] ([0, 1, 2, 3]) rfl ?_
 refine s_bxA F M rfl rfl rfl rfl rfl ?_; (clear F a M; try clear w); intro b2 w M a F
 refine s_bxA F M rfl rfl rfl rfl rfl ?_; (clear F a M; try clear w); intro b3 w M a F
 refine s_alc F M rfl rfl rfl rfl zr_53_R3 rfl ?_; (clear F a M; try clear w); intro b4 w M a F
 refine s_I F rfl rfl rfl rfl rfl rfl ?_; clear F a; intro a F
 refine t_endM M ?_; (clear M; try clear w); intro w M
 refine wp_seq ?_
 refine wp_seq ?_
 refine wp_region_l [.ind, .rd, .ind, .ind, .ind, .rd, .ind] ([0, 1, 2, 3, 4, 5, 6]) rfl ?_
 refine s_fa0 F rfl rfl rfl rfl fa_53_3_R3 rfl ?_; clear F a; intro a F
 refine s_ld F rfl rfl rfl rfl sc_3_R3 rfl (by exact cell_of_blk M.h2 (lit rfl)) ?_; clear F a; intro a F
 refine s_rn 2 F rfl rfl ?_; clear F a; intro a F
 refine bsplit F 18 rfl ?_ ?_
 clear F; intro hc0 F
 try rw [hc0] at F
 replace hc0 := of_decide_eq_true hc0
 refine s_rn 3 F rfl rfl ?_; clear F a; intro a F
 refine t_endM M ?_; (clear M; try clear w); intro w M
 refine c_t F rfl ?_
 refine wp_seq ?_
 replace F := F.keep [0, 1, 2, 3, 4, 5] rfl
 refine wp_region_l [.rd, .wr, .ind] ([0, 1, 2]) rfl ?_
 refine s_lda F rfl rfl rfl rfl ag_53_R3 rfl rfl (cells_whole M.h2) ?_; clear F a; intro a F
 refine s_stW F M rfl rfl rfl sz_53_R3 rfl rfl rfl rfl rfl ?_; (clear M; try clear w); intro w M
 refine s_I F rfl rfl rfl rfl rfl rfl ?_; clear F a; intro a F
 refine t_endM M ?_; (clear M; try clear w); intro w M
 refine wp_ret ?_
 refine rt2 F rfl (by exact rv_a F rfl ag_53_R3 rfl (cells_whole M.h0)) (rv_t F rfl) ?_
 exact ⟨_, rfl, rfl, M.chg⟩
 clear F; intro hc1 F
 try rw [hc1] at F
 replace hc1 := of_decide_eq_false hc1
 refine s_fa0 F rfl rfl rfl rfl fa_53_12_R3 rfl ?_; clear F a; intro a F
 refine s_ld F rfl rfl rfl rfl sc_4_R3 rfl (by exact cell_of_blk M.h2 (lit rfl)) ?_; clear F a; intro a F
 refine s_I F rfl rfl rfl rfl rfl rfl ?_; clear F a; intro a F
 refine t_endM M ?_; (clear M; try clear w); intro w M
 refine c_if F rfl ?_ ?_
 clear F; intro hc2 F
 try rw [hc2] at F
 skip
 refine wp_seq ?_
 replace F := F.keep [0, 1, 2, 3, 4, 5] rfl
 refine wp_region_l [.rd, .wr, .ind] ([0, 1, 2]) rfl ?_
 refine s_lda F rfl rfl rfl rfl ag_53_R3 rfl rfl (cells_whole M.h2) ?_; clear F a; intro a F
 refine s_stW F M rfl rfl rfl sz_53_R3 rfl rfl rfl rfl rfl ?_; (clear M; try clear w); intro w M
 refine s_I F rfl rfl rfl rfl rfl rfl ?_; clear F a; intro a F
 refine t_endM M ?_; (clear M; try clear w); intro w M
 refine wp_ret ?_
 refine rt2 F rfl (by exact rv_a F rfl ag_53_R3 rfl (cells_whole M.h0)) (rv_t F rfl) ?_
 exact ⟨_, rfl, rfl, M.chg⟩
 clear F; intro hc3 F
 try rw [hc3] at F
 skip
 refine wp_skip ?_
 refine wp_seq ?_
 replace F := F.keep [0, 1, 2, 3, 4, 5] rfl
 refine wp_region_l [.ind] ([0]) rfl ?_
 refine s_I F rfl rfl rfl rfl rfl rfl ?_; clear F a; intro a F
 refine t_endM M ?_; (clear M; try clear w); intro w M
 refine wp_seq ?_
 refine wp_block ?_
 refine wp_seq ?_
 refine wp_region_l [.ind, .rd, .ind, .ind] ([0, 1, 2, 3]) rfl ?_
 refine s_fa0 F rfl rfl rfl rfl fa_32_0_R3 rfl ?_; clear F a; intro a F
 refine s_ld F rfl rfl rfl rfl sc_3_R3 rfl (by exact cell_of_blk M.h1 (lit rfl)) ?_; clear F a; intro a F
 refine s_rn 2 F rfl rfl ?_; clear F a; intro a F
 refine t_endM M ?_; (clear M; try clear w); intro w M
 refine c_if F rfl ?_ ?_
 clear F; intro hc4 F
 try rw [hc4] at F
 replace hc4 := of_decide_eq_true hc4
 refine wp_seq ?_
 refine wp_seq ?_
 replace F := F.keep [0, 1, 2, 3, 4, 5, 6] rfl
 refine wp_region_l [.ind, .rd, .ind, .ind, .ind, .rd, .ind, .ind, .ind, .ind, .rd, .ind, .rd, .ind, .ind] ([0, 1, 2, 3, 4, 5, 6, 7, 8, 9, 10, 11, 12, 13, 14]) rfl ?_
 refine s_fa0 F rfl rfl rfl rfl fa_32_3_R3 rfl ?_; clear F a; intro a F
 refine s_ld F rfl rfl rfl rfl sc_3_R3 rfl (by exact cell_of_blk M.h1 (lit rfl)) ?_; clear F a; intro a F
 refine s_rn 2 F rfl rfl ?_; clear F a; intro a F
 refine bsplit F 42 rfl ?_ ?_
 clear F; intro hc5 F
 try rw [hc5] at F
 replace hc5 := of_decide_eq_true hc5
 refine s_rn 11 F rfl rfl ?_; clear F a; intro a F
 refine t_endM M ?_; (clear M; try clear w); intro w M
 refine c_t F rfl ?_
 refine wp_seq ?_
 replace F := F.keep [0, 1, 2, 3, 4, 5, 6] rfl
 refine wp_region_l [.rd, .wr, .ind] ([0, 1, 2]) rfl ?_
 refine s_lda F rfl rfl rfl rfl ag_53_R3 rfl rfl (cells_whole M.h2) ?_; clear F a; intro a F
 refine s_stW F M rfl rfl rfl sz_53_R3 rfl rfl rfl rfl rfl ?_; (clear M; try clear w); intro w M
 refine s_I F rfl rfl rfl rfl rfl rfl ?_; clear F a; intro a F
 refine t_endM M ?_; (clear M; try clear w); intro w M
 refine wp_ret ?_
 refine rt2 F rfl (by exact rv_a F rfl ag_53_R3 rfl (cells_whole M.h0)) (rv_t F rfl) ?_
 exact ⟨_, rfl, rfl, M.chg⟩
 clear F; intro hc6 F
 try rw [hc6] at F
 replace hc6 := of_decide_eq_false hc6
 refine s_fa0 F rfl rfl rfl rfl fa_32_3_R3 rfl ?_; clear F a; intro a F
 refine s_ld F rfl rfl rfl rfl sc_3_R3 rfl (by exact cell_of_blk M.h1 (lit rfl)) ?_; clear F a; intro a F
 refine s_rn 3 F rfl rfl ?_; clear F a; intro a F
 refine bsplit F 47 rfl ?_ ?_
 clear F; intro hc7 F
 try rw [hc7] at F
 replace hc7 := of_decide_eq_true hc7
 refine s_rn 6 F rfl rfl ?_; clear F a; intro a F
 refine t_endM M ?_; (clear M; try clear w); intro w M
 refine c_t F rfl ?_
 refine wp_seq ?_
 replace F := F.keep [0, 1, 2, 3, 4, 5, 6] rfl
 refine wp_region_l [.rd, .wr, .ind] ([0, 1, 2]) rfl ?_
 refine s_lda F rfl rfl rfl rfl ag_53_R3 rfl rfl (cells_whole M.h2) ?_; clear F a; intro a F
 refine s_stW F M rfl rfl rfl sz_53_R3 rfl rfl rfl rfl rfl ?_; (clear M; try clear w); intro w M
 refine s_I F rfl rfl rfl rfl rfl rfl ?_; clear F a; intro a F
 refine t_endM M ?_; (clear M; try clear w); intro w M
 refine wp_ret ?_
 refine rt2 F rfl (by exact rv_a F rfl ag_53_R3 rfl (cells_whole M.h0)) (rv_t F rfl) ?_
 exact ⟨_, rfl, rfl, M.chg⟩
 clear F; intro hc8 F
 try rw [hc8] at F
 replace hc8 := of_decide_eq_false hc8
 refine s_fa0 F rfl rfl rfl rfl fa_32_2_R3 rfl ?_; clear F a; intro a F
 refine s_ld F rfl rfl rfl rfl sc_3_R3 rfl (by exact cell_of_blk M.h1 (lit rfl)) ?_; clear F a; intro a F
 refine s_fa0 F rfl rfl rfl rfl fa_53_3_R3 rfl ?_; clear F a; intro a F
 refine s_ld F rfl rfl rfl rfl sc_3_R3 rfl (by exact cell_of_blk M.h2 (lit rfl)) ?_; clear F a; intro a F
 refine s_rn 2 F rfl rfl ?_; clear F a; intro a F
 refine t_endM M ?_; (clear M; try clear w); intro w M
 refine c_if F rfl ?_ ?_
 clear F; intro hc9 F
 try rw [hc9] at F
 replace hc9 := nd1 hc9
 refine wp_seq ?_
 replace F := F.keep [0, 1, 2, 3, 4, 5, 6] rfl
 refine wp_region_l [.rd, .wr, .ind] ([0, 1, 2]) rfl ?_
 refine s_lda F rfl rfl rfl rfl ag_53_R3 rfl rfl (cells_whole M.h2) ?_; clear F a; intro a F
 refine s_stW F M rfl rfl rfl sz_53_R3 rfl rfl rfl rfl rfl ?_; (clear M; try clear w); intro w M
 refine s_I F rfl rfl rfl rfl rfl rfl ?_; clear F a; intro a F
 refine t_endM M ?_; (clear M; try clear w); intro w M
 refine wp_ret ?_
 refine rt2 F rfl (by exact rv_a F rfl ag_53_R3 rfl (cells_whole M.h0)) (rv_t F rfl) ?_
 exact ⟨_, rfl, rfl, M.chg⟩
 clear F; intro hc10 F
 try rw [hc10] at F
 replace hc10 := nd0 hc10
 exfalso
 have hno := hn.resolve_left (by rintro (h | h); omega; simp_all)
 clear M F
 simp only [ASt.cnt] at hno
 grind
 clear F; intro hc11 F
 try rw [hc11] at F
 replace hc11 := of_decide_eq_false hc11
 refine wp_seq ?_
 replace F := F.keep [0, 1, 2, 3, 4, 5, 6] rfl
 refine wp_region_l [.rd, .wr, .ind, .ind] ([0, 1, 2, 3]) rfl ?_
 refine s_lda F rfl rfl rfl rfl ag_32_R3 rfl rfl (cells_whole M.h1) ?_; clear F a; intro a F
 refine s_cq F M rfl rfl rfl rfl rfl (rfl : _ = some [_]) cb_49_R3 (fun nd_ => c49 q _) ?_; (clear F a M; try clear w); rintro v w rfl M a F
 refine s_rn 2 F rfl rfl ?_; clear F a; intro a F
 refine t_endM M ?_; (clear M; try clear w); intro w M
 refine c_if F rfl ?_ ?_
 clear F; intro hc12 F
 try rw [hc12] at F
 replace hc12 := nd1 hc12
 refine wp_seq ?_
 replace F := F.keep [0, 1, 2, 3, 4, 5, 6] rfl
 refine wp_region_l [.rd, .wr, .ind] ([0, 1, 2]) rfl ?_
 refine s_lda F rfl rfl rfl rfl ag_53_R3 rfl rfl (cells_whole M.h2) ?_; clear F a; intro a F
 refine s_stW F M rfl rfl rfl sz_53_R3 rfl rfl rfl rfl rfl ?_; (clear M; try clear w); intro w M
 refine s_I F rfl rfl rfl rfl rfl rfl ?_; clear F a; intro a F
 refine t_endM M ?_; (clear M; try clear w); intro w M
 refine wp_ret ?_
 refine rt2 F rfl (by exact rv_a F rfl ag_53_R3 rfl (cells_whole M.h0)) (rv_t F rfl) ?_
 exact ⟨_, rfl, rfl, M.chg⟩
 clear F; intro hc13 F
 try rw [hc13] at F
 replace hc13 := nd0 hc13
 refine wp_seq ?_
 replace F := F.keep [0, 1, 2, 3, 4, 5, 6] rfl
 refine wp_region_l [.ind, .rd, .ind, .ind] ([0, 1, 2, 3]) rfl ?_
 refine s_fa0 F rfl rfl rfl rfl fa_32_0_R3 rfl ?_; clear F a; intro a F
 refine s_ld F rfl rfl rfl rfl sc_3_R3 rfl (by exact cell_of_blk M.h1 (lit rfl)) ?_; clear F a; intro a F
 refine s_rn 2 F rfl rfl ?_; clear F a; intro a F
 refine t_endM M ?_; (clear M; try clear w); intro w M
 refine c_if F rfl ?_ ?_
 clear F; intro hc14 F
 try rw [hc14] at F
 replace hc14 := of_decide_eq_true hc14
 refine wp_seq ?_
 refine wp_seq ?_
 replace F := F.keep [0, 1, 2, 3, 4, 5, 6] rfl
 refine wp_region_l [.rd, .ind, .rd, .wr, .ind, .ind, .ind, .wr, .wr, .ind] ([0, 1, 2, 3, 4, 5, 6, 7, 8, 9]) rfl ?_
 refine s_lda F rfl rfl rfl rfl ag_53_R3 rfl rfl (cells_whole M.h2) ?_; clear F a; intro a F
 refine s_fa0 F rfl rfl rfl rfl fa_32_2_R3 rfl ?_; clear F a; intro a F
 refine s_ld F rfl rfl rfl rfl sc_3_R3 rfl (by exact cell_of_blk M.h1 (lit rfl)) ?_; clear F a; intro a F
 refine s_cq F M rfl rfl rfl rfl rfl (rfl : _ = some [_, _]) cb_88_R3 (fun nd_ => c88 st W (by have := Ps_len W; omega) _ _ q.round _ (M.chg.ro hrop)) ?_; (clear F a M; try clear w); rintro v w rfl M a F
 refine s_rn 3 F rfl rfl ?_; clear F a; intro a F
 refine s_alc F M rfl rfl rfl rfl zr_32_R3 rfl ?_; (clear F a M; try clear w); intro b7 w M a F
 refine s_stW F M rfl rfl rfl sz_32_R3 rfl rfl rfl rfl rfl ?_; (clear M; try clear w); intro w M
 refine s_I F rfl rfl rfl rfl rfl rfl ?_; clear F a; intro a F
 refine t_endM M ?_; (clear M; try clear w); intro w M
 refine wp_seq ?_
 replace F := F.keep [0, 1, 2, 3, 4, 5, 6, 8] rfl
 refine wp_region_t [.ind, .ind, .ind, .rd, .ind, .ind, .rd, .ind, .rd, .ind, .rd, .wr, .ind, .ind] [(3, 11)] (otOf [0, 1, 2, 3, 4, 5, 6, 7, 8, 9, 10, 11, 12, 13]) mixed (by kernel_rfl) ?_
 refine s_rn 2 F rfl rfl ?_; clear F a; intro a F
 refine bsplit F 79 rfl ?_ ?_
 clear F; intro hc15 F
 try rw [hc15] at F
 replace hc15 := of_decide_eq_true hc15
 refine s_rn 12 F rfl rfl ?_; clear F a; intro a F
 refine t_endM M ?_; (clear M; try clear w); intro w M
 refine c_t F rfl ?_
 refine wp_seq ?_
 replace F := F.keep [0, 1, 2, 3, 4, 5, 6, 8] rfl
 refine wp_region_l [.rd, .wr, .ind] ([0, 1, 2]) rfl ?_
 refine s_lda F rfl rfl rfl rfl ag_53_R3 rfl rfl (cells_whole M.h3) ?_; clear F a; intro a F
 refine s_stW F M.f1 rfl rfl rfl sz_53_R3 rfl rfl rfl rfl rfl ?_; (clear M; try clear w); intro w M
 refine s_I F rfl rfl rfl rfl rfl rfl ?_; clear F a; intro a F
 refine t_endM M ?_; (clear M; try clear w); intro w M
 refine wp_ret ?_
 refine rt2 F rfl (by exact rv_a F rfl ag_53_R3 rfl (cells_whole M.h0)) (rv_t F rfl) ?_
 exact ⟨_, rfl, rfl, M.chg⟩
 clear F; intro hc16 F
 try rw [hc16] at F
 replace hc16 := of_decide_eq_false hc16
 refine s_fa0 F rfl rfl rfl rfl fa_32_1_R3 rfl ?_; clear F a; intro a F
 refine s_ldL F rfl rfl rfl rfl sc_3_R3 rfl (by exact cell_of_blk M.h2 (lit rfl)) ?_; clear F a; intro a F
 refine s_fa0 F rfl rfl rfl rfl fa_53_10_R3 rfl ?_; clear F a; intro a F
 refine s_fa F rfl rfl rfl rfl fa_28_0_R3 rfl ?_; clear F a; intro a F
 refine s_ldL F rfl rfl rfl rfl sc_3_R3 rfl (by exact cell_of_blk M.h3 (lit rfl)) ?_; clear F a; intro a F
 refine s_fa0 F rfl rfl rfl rfl fa_53_1_R3 rfl ?_; clear F a; intro a F
 refine s_ldL F rfl rfl rfl rfl sc_3_R3 rfl (by exact cell_of_blk M.h3 (lit rfl)) ?_; clear F a; intro a F
 refine s_fa0 F rfl rfl rfl rfl fa_32_2_R3 rfl ?_; clear F a; intro a F
 refine s_ldL F rfl rfl rfl rfl sc_3_R3 rfl (by exact cell_of_blk M.h2 (lit rfl)) ?_; clear F a; intro a F
 refine s_cqL F M rfl rfl rfl rfl rfl (rfl : _ = some [_, _, _]) cb_36_R3 (fun nd_ => c36 st.n st.h q.round _) (fun _ w _ M => (by (refine pend_skip rfl ?_); (refine pend_skip rfl ?_); (refine pend_skip rfl ?_); (refine pend_take (by exact cell_of_blk M.h2 (lit rfl)) ?_); exact pend_none)) ?_; (clear F a M; try clear w); rintro v w rfl M a F
 refine s_rn 2 F rfl rfl ?_; clear F a; intro a F
 refine t_endM M ?_; (clear M; try clear w); intro w M
 refine c_if F rfl ?_ ?_
 clear F; intro hc17 F
 try rw [hc17] at F
 replace hc17 := nd1 hc17
 refine wp_seq ?_
 replace F := F.keep [0, 1, 2, 3, 4, 5, 6, 8] rfl
 refine wp_region_l [.rd, .wr, .ind] ([0, 1, 2]) rfl ?_
 refine s_lda F rfl rfl rfl rfl ag_53_R3 rfl rfl (cells_whole M.h3) ?_; clear F a; intro a F
 refine s_stW F M.f1 rfl rfl rfl sz_53_R3 rfl rfl rfl rfl rfl ?_; (clear M; try clear w); intro w M
 refine s_I F rfl rfl rfl rfl rfl rfl ?_; clear F a; intro a F
 refine t_endM M ?_; (clear M; try clear w); intro w M
 refine wp_ret ?_
 refine rt2 F rfl (by exact rv_a F rfl ag_53_R3 rfl (cells_whole M.h0)) (rv_t F rfl) ?_
 exact ⟨_, rfl, rfl, M.chg⟩
 clear F; intro hc18 F
 try rw [hc18] at F
 replace hc18 := nd0 hc18
 exfalso
 have hno := hn.resolve_left (by rintro (h | h); omega; simp_all)
 clear M F
 simp only [ASt.cnt] at hno
 grind
 clear F; intro hc19 F
 try rw [hc19] at F
 replace hc19 := of_decide_eq_false hc19
 refine wp_seq ?_
 replace F := F.keep [0, 1, 2, 3, 4, 5, 6] rfl
 refine wp_region_l [.ind, .rd, .rd, .wr, .ind, .ind, .ind, .wr, .wr, .ind] ([0, 1, 2, 3, 4, 5, 6, 7, 8, 9]) rfl ?_
 refine s_fa0 F rfl rfl rfl rfl fa_53_10_R3 rfl ?_; clear F a; intro a F
 refine s_lda F rfl rfl rfl rfl ag_28_R3 rfl rfl (aC_V M.h2) ?_; clear F a; intro a F
 refine s_lda F rfl rfl rfl rfl ag_32_R3 rfl rfl (cells_whole M.h1) ?_; clear F a; intro a F
 refine s_cq F M rfl rfl rfl rfl rfl (rfl : _ = some [_, _]) cb_24_R3 (fun nd_ => c24n st.n st.t st.L _ q W.v.len (by have hno := hn.resolve_left (by rintro (h | h); omega; simp_all); clear M F; simp only [ASt.cnt] at hno; grind) _ (M.chg.ro hrol)) ?_; (clear F a M; try clear w); rintro v w rfl M a F
 refine s_rn 3 F rfl rfl ?_; clear F a; intro a F
 refine s_alc F M rfl rfl rfl rfl zr_28_R3 rfl ?_; (clear F a M; try clear w); intro b9 w M a F
 refine s_stW F M rfl rfl rfl sz_28_R3 rfl rfl rfl rfl rfl ?_; (clear M; try clear w); intro w M
 refine s_I F rfl rfl rfl rfl rfl rfl ?_; clear F a; intro a F
 refine t_endM M ?_; (clear M; try clear w); intro w M
 refine wp_seq ?_
 refine wp_seq ?_
 replace F := F.keep [0, 1, 2, 3, 4, 5, 6, 9, 10] rfl
 refine wp_region_l [.ind, .ind] ([0, 1]) rfl ?_
 refine s_rn 2 F rfl rfl ?_; clear F a; intro a F
 replace F : Fr _ _ ((31, Value.bool true) :: _) := F
 refine t_endM M ?_; (clear M; try clear w); intro w M
 refine c_t F rfl ?_
 refine wp_seq ?_
 replace F := F.keep [0, 1, 2, 3, 4, 5, 6, 9, 10] rfl
 refine wp_region_l [.rd, .wr, .ind] ([0, 1, 2]) rfl ?_
 refine s_lda F rfl rfl rfl rfl ag_53_R3 rfl rfl (cells_whole M.h3) ?_; clear F a; intro a F
 refine s_stW F M.f1 rfl rfl rfl sz_53_R3 rfl rfl rfl rfl rfl ?_; (clear M; try clear w); intro w M
 refine s_I F rfl rfl rfl rfl rfl rfl ?_; clear F a; intro a F
 refine t_endM M ?_; (clear M; try clear w); intro w M
 refine wp_ret ?_
 refine rt2 F rfl (by exact rv_a F rfl ag_53_R3 rfl (cells_whole M.h0)) (rv_t F rfl) ?_
 exact ⟨_, rfl, rfl, M.chg⟩
set_option maxRecDepth 100000 in
set_option maxHeartbeats 4000000 in
theorem c45y (st : ASt) (W : st.Wf) (q : Wrd) (h0 : 0 ≤ st.round) (hd : st.done = false) (hc : st.cnt q = true) (pv lv : Value) (w0 : World) (ho : Own w0.heap [wsR pv st.Ps, wsR lv st.L]) : Cl Try.prog 45 #[aV st pv lv, wrdV q] w0 (RetS [wsR pv st.Ps, wsR lv st.L] w0 (fun o (x : Value × Value × Value) => o = .tuple #[aV (st.take q).1 x.1 x.2.1, x.2.2]) fun x => [wsR x.1 (st.take q).1.Ps, wsR x.2.1 (st.take q).1.L, wsR x.2.2 (st.take q).2]) := by
 obtain ⟨PA, PC, rfl⟩ := SlOk.form (ho.ok (wsR pv st.Ps) (by simp))
 obtain ⟨LA, LC, rfl⟩ := SlOk.form (ho.ok (wsR lv st.L) (by simp))
 have hpl := Ps_len W
 have hll := W.v.len
 have M : Sep (fun b_ => b_ ∈ foots [wsR (.slice PA st.Ps.length PC) st.Ps, wsR (.slice LA st.L.length LC) st.L]) w0 w0 _ := Sep.start ho
 refine enter (vs := [_, _]) Try.func45 rfl rfl rfl ?_
 intro a F
 refine wp_seq ?_
 refine wp_region_l [.wr, .wr, .wr, .ind] ([0, 1, 2, 3]) rfl ?_
 refine s_bxA F M rfl rfl rfl rfl rfl ?_; (clear F a M; try clear w); intro b2 w M a F
 refine s_bxA F M rfl rfl rfl rfl rfl ?_; (clear F a M; try clear w); intro b3 w M a F
 refine s_alc F M rfl rfl rfl rfl zr_53_R3 rfl ?_; (clear F a M; try clear w); intro b4 w M a F
 refine s_I F rfl rfl rfl rfl rfl rfl ?_; clear F a; intro a F
 refine t_endM M ?_; (clear M; try clear w); intro w M
 refine wp_seq ?_
 refine wp_seq ?_
 refine wp_region_l [.ind, .rd, .ind, .ind, .ind, .rd, .ind] ([0, 1, 2, 3, 4, 5, 6]) rfl ?_
 refine s_fa0 F rfl rfl rfl rfl fa_53_3_R3 rfl ?_; clear F a; intro a F
 refine s_ld F rfl rfl rfl rfl sc_3_R3 rfl (by exact cell_of_blk M.h2 (lit rfl)) ?_; clear F a; intro a F
 refine s_rn 2 F rfl rfl ?_; clear F a; intro a F
 refine bsplit F 18 rfl ?_ ?_
 clear F; intro hc0 F
 try rw [hc0] at F
 replace hc0 := of_decide_eq_true hc0
 refine s_rn 3 F rfl rfl ?_; clear F a; intro a F
 refine t_endM M ?_; (clear M; try clear w); intro w M
 refine c_t F rfl ?_
 refine wp_seq ?_
 replace F := F.keep [0, 1, 2, 3, 4, 5] rfl
 refine wp_region_l [.rd, .wr, .ind] ([0, 1, 2]) rfl ?_
 refine s_lda F rfl rfl rfl rfl ag_53_R3 rfl rfl (cells_whole M.h2) ?_; clear F a; intro a F
 refine s_stW F M rfl rfl rfl sz_53_R3 rfl rfl rfl rfl rfl ?_; (clear M; try clear w); intro w M
 refine s_I F rfl rfl rfl rfl rfl rfl ?_; clear F a; intro a F
 refine t_endM M ?_; (clear M; try clear w); intro w M
 refine wp_ret ?_
 refine rt2 F rfl (by exact rv_a F rfl ag_53_R3 rfl (cells_whole M.h0)) (rv_t F rfl) ?_
 exfalso
 rcases (show st.round < 0 ∨ st.done = true by exact .inl (by assumption)) with h9 | h9
 · omega
 · rw [hd] at h9; cases h9
 clear F; intro hc1 F
 try rw [hc1] at F
 replace hc1 := of_decide_eq_false hc1
 refine s_fa0 F rfl rfl rfl rfl fa_53_12_R3 rfl ?_; clear F a; intro a F
 refine s_ld F rfl rfl rfl rfl sc_4_R3 rfl (by exact cell_of_blk M.h2 (lit rfl)) ?_; clear F a; intro a F
 refine s_I F rfl rfl rfl rfl rfl rfl ?_; clear F a; intro a F
 refine t_endM M ?_; (clear M; try clear w); intro w M
 refine c_if F rfl ?_ ?_
 clear F; intro hc2 F
 try rw [hc2] at F
 skip
 refine wp_seq ?_
 replace F := F.keep [0, 1, 2, 3, 4, 5] rfl
 refine wp_region_l [.rd, .wr, .ind] ([0, 1, 2]) rfl ?_
 refine s_lda F rfl rfl rfl rfl ag_53_R3 rfl rfl (cells_whole M.h2) ?_; clear F a; intro a F
 refine s_stW F M rfl rfl rfl sz_53_R3 rfl rfl rfl rfl rfl ?_; (clear M; try clear w); intro w M
 refine s_I F rfl rfl rfl rfl rfl rfl ?_; clear F a; intro a F
 refine t_endM M ?_; (clear M; try clear w); intro w M
 refine wp_ret ?_
 refine rt2 F rfl (by exact rv_a F rfl ag_53_R3 rfl (cells_whole M.h0)) (rv_t F rfl) ?_
 exfalso
 rcases (show st.round < 0 ∨ st.done = true by exact .inr (by assumption)) with h9 | h9
 · omega
 · rw [hd] at h9; cases h9
 clear F; intro hc3 F
 try rw [hc3] at F
 skip
 refine wp_skip ?_
 refine wp_seq ?_
 replace F := F.keep [0, 1, 2, 3, 4, 5] rfl
 refine wp_region_l [.ind] ([0]) rfl ?_
 refine s_I F rfl rfl rfl rfl rfl rfl ?_; clear F a; intro a F
 refine t_endM M ?_; (clear M; try clear w); intro w M
 refine wp_seq ?_
 refine wp_block ?_
 refine wp_seq ?_
 refine wp_region_l [.ind, .rd, .ind, .ind] ([0, 1, 2, 3]) rfl ?_
 refine s_fa0 F rfl rfl rfl rfl fa_32_0_R3 rfl ?_; clear F a; intro a F
 refine s_ld F rfl rfl rfl rfl sc_3_R3 rfl (by exact cell_of_blk M.h1 (lit rfl)) ?_; clear F a; intro a F
 refine s_rn 2 F rfl rfl ?_; clear F a; intro a F
 refine t_endM M ?_; (clear M; try clear w); intro w M
 have M1 : Sep _ _ _ (wsR _ st.L :: _) := M.f4; replace M := M1; clear M1
 have M1 : Sep _ _ _ (wsR _ st.Ps :: _) := M.f4; replace M := M1; clear M1
 have M1 : Sep _ _ _ (blk b2 _ :: _) := M.f4; replace M := M1; clear M1
 refine cutX (X := (Value) × (Value) × (Value)) (m0 := [_, _, _]) F [0, 1, 2, 3, 4] rfl M (fun ((PV, LV, ov) : (Value) × (Value) × (Value)) => True) (fun ((PV, LV, ov) : (Value) × (Value) × (Value)) => [(6, ov)]) (fun ((PV, LV, ov) : (Value) × (Value) × (Value)) => [blk b2 (.cells (aC (st.count q).1 PV LV) 53 (0, 0)), wsR PV (st.count q).1.Ps, wsR LV (st.count q).1.L, wsR ov (st.count q).2]) ?_ ?_
 refine c_if F rfl ?_ ?_
 clear F; intro hc4 F
 try rw [hc4] at F
 replace hc4 := of_decide_eq_true hc4
 refine wp_seq ?_
 refine wp_seq ?_
 replace F := F.keep [0, 1, 2, 3, 4, 5, 6] rfl
 refine wp_region_l [.ind, .rd, .ind, .ind, .ind, .rd, .ind, .ind, .ind, .ind, .rd, .ind, .rd, .ind, .ind] ([0, 1, 2, 3, 4, 5, 6, 7, 8, 9, 10, 11, 12, 13, 14]) rfl ?_
 refine s_fa0 F rfl rfl rfl rfl fa_32_3_R3 rfl ?_; clear F a; intro a F
 refine s_ld F rfl rfl rfl rfl sc_3_R3 rfl (by exact cell_of_blk M.h4 (lit rfl)) ?_; clear F a; intro a F
 refine s_rn 2 F rfl rfl ?_; clear F a; intro a F
 refine bsplit F 42 rfl ?_ ?_
 clear F; intro hc5 F
 try rw [hc5] at F
 replace hc5 := of_decide_eq_true hc5
 refine s_rn 11 F rfl rfl ?_; clear F a; intro a F
 refine t_endM M ?_; (clear M; try clear w); intro w M
 refine c_t F rfl ?_
 refine wp_seq ?_
 replace F := F.keep [0, 1, 2, 3, 4, 5, 6] rfl
 refine wp_region_l [.rd, .wr, .ind] ([0, 1, 2]) rfl ?_
 refine s_lda F rfl rfl rfl rfl ag_53_R3 rfl rfl (cells_whole M.h0) ?_; clear F a; intro a F
 refine s_stW F M.f3 rfl rfl rfl sz_53_R3 rfl rfl rfl rfl rfl ?_; (clear M; try clear w); intro w M
 refine s_I F rfl rfl rfl rfl rfl rfl ?_; clear F a; intro a F
 refine t_endM M ?_; (clear M; try clear w); intro w M
 refine wp_ret ?_
 refine rt2 F rfl (by exact rv_a F rfl ag_53_R3 rfl (cells_whole M.h0)) (rv_t F rfl) ?_
 exfalso
 have hc9 := hc
 clear M F
 simp only [ASt.cnt] at hc9
 grind
 clear F; intro hc6 F
 try rw [hc6] at F
 replace hc6 := of_decide_eq_false hc6
 refine s_fa0 F rfl rfl rfl rfl fa_32_3_R3 rfl ?_; clear F a; intro a F
 refine s_ld F rfl rfl rfl rfl sc_3_R3 rfl (by exact cell_of_blk M.h4 (lit rfl)) ?_; clear F a; intro a F
 refine s_rn 3 F rfl rfl ?_; clear F a; intro a F
 refine bsplit F 47 rfl ?_ ?_
 clear F; intro hc7 F
 try rw [hc7] at F
 replace hc7 := of_decide_eq_true hc7
 refine s_rn 6 F rfl rfl ?_; clear F a; intro a F
 refine t_endM M ?_; (clear M; try clear w); intro w M
 refine c_t F rfl ?_
 refine wp_seq ?_
 replace F := F.keep [0, 1, 2, 3, 4, 5, 6] rfl
 refine wp_region_l [.rd, .wr, .ind] ([0, 1, 2]) rfl ?_
 refine s_lda F rfl rfl rfl rfl ag_53_R3 rfl rfl (cells_whole M.h0) ?_; clear F a; intro a F
 refine s_stW F M.f3 rfl rfl rfl sz_53_R3 rfl rfl rfl rfl rfl ?_; (clear M; try clear w); intro w M
 refine s_I F rfl rfl rfl rfl rfl rfl ?_; clear F a; intro a F
 refine t_endM M ?_; (clear M; try clear w); intro w M
 refine wp_ret ?_
 refine rt2 F rfl (by exact rv_a F rfl ag_53_R3 rfl (cells_whole M.h0)) (rv_t F rfl) ?_
 exfalso
 have hc9 := hc
 clear M F
 simp only [ASt.cnt] at hc9
 grind
 clear F; intro hc8 F
 try rw [hc8] at F
 replace hc8 := of_decide_eq_false hc8
 refine s_fa0 F rfl rfl rfl rfl fa_32_2_R3 rfl ?_; clear F a; intro a F
 refine s_ld F rfl rfl rfl rfl sc_3_R3 rfl (by exact cell_of_blk M.h4 (lit rfl)) ?_; clear F a; intro a F
 refine s_fa0 F rfl rfl rfl rfl fa_53_3_R3 rfl ?_; clear F a; intro a F
 refine s_ld F rfl rfl rfl rfl sc_3_R3 rfl (by exact cell_of_blk M.h0 (lit rfl)) ?_; clear F a; intro a F
 refine s_rn 2 F rfl rfl ?_; clear F a; intro a F
 refine t_endM M ?_; (clear M; try clear w); intro w M
 refine c_if F rfl ?_ ?_
 clear F; intro hc9 F
 try rw [hc9] at F
 replace hc9 := nd1 hc9
 refine wp_seq ?_
 replace F := F.keep [0, 1, 2, 3, 4, 5, 6] rfl
 refine wp_region_l [.rd, .wr, .ind] ([0, 1, 2]) rfl ?_
 refine s_lda F rfl rfl rfl rfl ag_53_R3 rfl rfl (cells_whole M.h0) ?_; clear F a; intro a F
 refine s_stW F M.f3 rfl rfl rfl sz_53_R3 rfl rfl rfl rfl rfl ?_; (clear M; try clear w); intro w M
 refine s_I F rfl rfl rfl rfl rfl rfl ?_; clear F a; intro a F
 refine t_endM M ?_; (clear M; try clear w); intro w M
 refine wp_ret ?_
 refine rt2 F rfl (by exact rv_a F rfl ag_53_R3 rfl (cells_whole M.h0)) (rv_t F rfl) ?_
 exfalso
 have hc9 := hc
 clear M F
 simp only [ASt.cnt] at hc9
 grind
 clear F; intro hc10 F
 try rw [hc10] at F
 replace hc10 := nd0 hc10
 refine wp_skip ?_
 replace F := F.keep [0, 1, 2, 3, 4, 5, 6] rfl
 refine wp_region_l [.rd, .ind, .rd, .wr, .ind, .ind, .ind, .wr, .ind] ([0, 1, 2, 3, 4, 5, 6, 7, 8]) rfl ?_
 refine s_lda F rfl rfl rfl rfl ag_53_R3 rfl rfl (cells_whole M.h0) ?_; clear F a; intro a F
 refine s_fa0 F rfl rfl rfl rfl fa_32_3_R3 rfl ?_; clear F a; intro a F
 refine s_ld F rfl rfl rfl rfl sc_3_R3 rfl (by exact cell_of_blk M.h4 (lit rfl)) ?_; clear F a; intro a F
 refine s_call (m := []) F M rfl rfl rfl rfl rfl (rfl : _ = some [_, _]) cb_87_R3 (fun nd_ => c87 st W q.valid _) ?_; (clear F a M; try clear w); rintro v x w rfl M a F; (try simp only [List.cons_append, List.nil_append] at M)
 obtain ⟨XA, XC, rfl⟩ := SlOk.form M.h0
 refine s_rn 3 F rfl rfl ?_; clear F a; intro a F
 refine s_stW F M.f1 rfl rfl rfl sz_53_R3 rfl rfl rfl rfl rfl ?_; (clear M; try clear w); intro w M
 refine s_I F rfl rfl rfl rfl rfl rfl ?_; clear F a; intro a F
 refine t_endM M ?_; (clear M; try clear w); intro w M
 have hk4 : q.kind = 4 := by assumption
 rw [← ctk4 hk4] at M F
 have M1 : Sep _ _ _ (wsR _ st.Ps :: _) := M.f2; replace M := M1; clear M1
 replace M := Fw.Sep.wsC M (show st.Ps = (st.count q).1.Ps by rw [ctk4 hk4]; exact (timeout_same st q.valid).Ps.symm)
 have M1 : Sep _ _ _ (wsR _ st.L :: _) := M.f3; replace M := M1; clear M1
 replace M := Fw.Sep.wsC M (show st.L = (st.count q).1.L by rw [ctk4 hk4]; exact (timeout_same st q.valid).L.symm)

 refine joined ((.slice PA st.Ps.length PC), (.slice LA st.L.length LC), (.slice XA (st.count q).2.length XC)) trivial (F.keep [6, 0, 1, 2, 3, 4] rfl) ?_
 try dsimp only [List.cons_append, List.nil_append]
 refine M.pick ?_; repeat (first | exact PkG.nil | refine PkG.cons 0 rfl rfl ?_ | refine PkG.cons 1 rfl rfl ?_ | refine PkG.cons 2 rfl rfl ?_ | refine PkG.cons 3 rfl rfl ?_ | refine PkG.cons 4 rfl rfl ?_ | refine PkG.cons 5 rfl rfl ?_)
 clear F; intro hc11 F
 try rw [hc11] at F
 replace hc11 := of_decide_eq_false hc11
 refine wp_seq ?_
 replace F := F.keep [0, 1, 2, 3, 4, 5, 6] rfl
 refine wp_region_l [.rd, .wr, .ind, .ind] ([0, 1, 2, 3]) rfl ?_
 refine s_lda F rfl rfl rfl rfl ag_32_R3 rfl rfl (cells_whole M.h4) ?_; clear F a; intro a F
 refine s_cq F M rfl rfl rfl rfl rfl (rfl : _ = some [_]) cb_49_R3 (fun nd_ => c49 q _) ?_; (clear F a M; try clear w); rintro v w rfl M a F
 refine s_rn 2 F rfl rfl ?_; clear F a; intro a F
 refine t_endM M ?_; (clear M; try clear w); intro w M
 refine c_if F rfl ?_ ?_
 clear F; intro hc12 F
 try rw [hc12] at F
 replace hc12 := nd1 hc12
 refine wp_seq ?_
 replace F := F.keep [0, 1, 2, 3, 4, 5, 6] rfl
 refine wp_region_l [.rd, .wr, .ind] ([0, 1, 2]) rfl ?_
 refine s_lda F rfl rfl rfl rfl ag_53_R3 rfl rfl (cells_whole M.h0) ?_; clear F a; intro a F
 refine s_stW F M.f3 rfl rfl rfl sz_53_R3 rfl rfl rfl rfl rfl ?_; (clear M; try clear w); intro w M
 refine s_I F rfl rfl rfl rfl rfl rfl ?_; clear F a; intro a F
 refine t_endM M ?_; (clear M; try clear w); intro w M
 refine wp_ret ?_
 refine rt2 F rfl (by exact rv_a F rfl ag_53_R3 rfl (cells_whole M.h0)) (rv_t F rfl) ?_
 exfalso
 have hc9 := hc
 clear M F
 simp only [ASt.cnt] at hc9
 grind
 clear F; intro hc13 F
 try rw [hc13] at F
 replace hc13 := nd0 hc13
 refine wp_seq ?_
 replace F := F.keep [0, 1, 2, 3, 4, 5, 6] rfl
 refine wp_region_l [.ind, .rd, .ind, .ind] ([0, 1, 2, 3]) rfl ?_
 refine s_fa0 F rfl rfl rfl rfl fa_32_0_R3 rfl ?_; clear F a; intro a F
 refine s_ld F rfl rfl rfl rfl sc_3_R3 rfl (by exact cell_of_blk M.h4 (lit rfl)) ?_; clear F a; intro a F
 refine s_rn 2 F rfl rfl ?_; clear F a; intro a F
 refine t_endM M ?_; (clear M; try clear w); intro w M
 refine c_if F rfl ?_ ?_
 clear F; intro hc14 F
 try rw [hc14] at F
 replace hc14 := of_decide_eq_true hc14
 refine wp_seq ?_
 refine wp_seq ?_
 replace F := F.keep [0, 1, 2, 3, 4, 5, 6] rfl
 refine wp_region_l [.rd, .ind, .rd, .wr, .ind, .ind, .ind, .wr, .wr, .ind] ([0, 1, 2, 3, 4, 5, 6, 7, 8, 9]) rfl ?_
 refine s_lda F rfl rfl rfl rfl ag_53_R3 rfl rfl (cells_whole M.h0) ?_; clear F a; intro a F
 refine s_fa0 F rfl rfl rfl rfl fa_32_2_R3 rfl ?_; clear F a; intro a F
 refine s_ld F rfl rfl rfl rfl sc_3_R3 rfl (by exact cell_of_blk M.h4 (lit rfl)) ?_; clear F a; intro a F
 refine s_cq F M rfl rfl rfl rfl rfl (rfl : _ = some [_, _]) cb_88_R3 (fun nd_ => c88 st W (by have := Ps_len W; omega) _ _ q.round _ (by exact SlOk.rd M.h1)) ?_; (clear F a M; try clear w); rintro v w rfl M a F
 refine s_rn 3 F rfl rfl ?_; clear F a; intro a F
 refine s_alc F M rfl rfl rfl rfl zr_32_R3 rfl ?_; (clear F a M; try clear w); intro b7 w M a F
 refine s_stW F M rfl rfl rfl sz_32_R3 rfl rfl rfl rfl rfl ?_; (clear M; try clear w); intro w M
 refine s_I F rfl rfl rfl rfl rfl rfl ?_; clear F a; intro a F
 refine t_endM M ?_; (clear M; try clear w); intro w M
 refine wp_seq ?_
 replace F := F.keep [0, 1, 2, 3, 4, 5, 6, 8] rfl
 refine wp_region_t [.ind, .ind, .ind, .rd, .ind, .ind, .rd, .ind, .rd, .ind, .rd, .wr, .ind, .ind] [(3, 11)] (otOf [0, 1, 2, 3, 4, 5, 6, 7, 8, 9, 10, 11, 12, 13]) mixed (by kernel_rfl) ?_
 refine s_rn 2 F rfl rfl ?_; clear F a; intro a F
 refine bsplit F 79 rfl ?_ ?_
 clear F; intro hc15 F
 try rw [hc15] at F
 replace hc15 := of_decide_eq_true hc15
 refine s_rn 12 F rfl rfl ?_; clear F a; intro a F
 refine t_endM M ?_; (clear M; try clear w); intro w M
 refine c_t F rfl ?_
 refine wp_seq ?_
 replace F := F.keep [0, 1, 2, 3, 4, 5, 6, 8] rfl
 refine wp_region_l [.rd, .wr, .ind] ([0, 1, 2]) rfl ?_
 refine s_lda F rfl rfl rfl rfl ag_53_R3 rfl rfl (cells_whole M.h1) ?_; clear F a; intro a F
 refine s_stW F M.f4 rfl rfl rfl sz_53_R3 rfl rfl rfl rfl rfl ?_; (clear M; try clear w); intro w M
 refine s_I F rfl rfl rfl rfl rfl rfl ?_; clear F a; intro a F
 refine t_endM M ?_; (clear M; try clear w); intro w M
 refine wp_ret ?_
 refine rt2 F rfl (by exact rv_a F rfl ag_53_R3 rfl (cells_whole M.h0)) (rv_t F rfl) ?_
 exfalso
 have hc9 := hc
 clear M F
 simp only [ASt.cnt] at hc9
 grind
 clear F; intro hc16 F
 try rw [hc16] at F
 replace hc16 := of_decide_eq_false hc16
 refine s_fa0 F rfl rfl rfl rfl fa_32_1_R3 rfl ?_; clear F a; intro a F
 refine s_ldL F rfl rfl rfl rfl sc_3_R3 rfl (by exact cell_of_blk M.h5 (lit rfl)) ?_; clear F a; intro a F
 refine s_fa0 F rfl rfl rfl rfl fa_53_10_R3 rfl ?_; clear F a; intro a F
 refine s_fa F rfl rfl rfl rfl fa_28_0_R3 rfl ?_; clear F a; intro a F
 refine s_ldL F rfl rfl rfl rfl sc_3_R3 rfl (by exact cell_of_blk M.h1 (lit rfl)) ?_; clear F a; intro a F
 refine s_fa0 F rfl rfl rfl rfl fa_53_1_R3 rfl ?_; clear F a; intro a F
 refine s_ldL F rfl rfl rfl rfl sc_3_R3 rfl (by exact cell_of_blk M.h1 (lit rfl)) ?_; clear F a; intro a F
 refine s_fa0 F rfl rfl rfl rfl fa_32_2_R3 rfl ?_; clear F a; intro a F
 refine s_ldL F rfl rfl rfl rfl sc_3_R3 rfl (by exact cell_of_blk M.h5 (lit rfl)) ?_; clear F a; intro a F
 refine s_cqL F M rfl rfl rfl rfl rfl (rfl : _ = some [_, _, _]) cb_36_R3 (fun nd_ => c36 st.n st.h q.round _) (fun _ w _ M => (by (refine pend_skip rfl ?_); (refine pend_skip rfl ?_); (refine pend_skip rfl ?_); (refine pend_take (by exact cell_of_blk M.h5 (lit rfl)) ?_); exact pend_none)) ?_; (clear F a M; try clear w); rintro v w rfl M a F
 refine s_rn 2 F rfl rfl ?_; clear F a; intro a F
 refine t_endM M ?_; (clear M; try clear w); intro w M
 refine c_if F rfl ?_ ?_
 clear F; intro hc17 F
 try rw [hc17] at F
 replace hc17 := nd1 hc17
 refine wp_seq ?_
 replace F := F.keep [0, 1, 2, 3, 4, 5, 6, 8] rfl
 refine wp_region_l [.rd, .wr, .ind] ([0, 1, 2]) rfl ?_
 refine s_lda F rfl rfl rfl rfl ag_53_R3 rfl rfl (cells_whole M.h1) ?_; clear F a; intro a F
 refine s_stW F M.f4 rfl rfl rfl sz_53_R3 rfl rfl rfl rfl rfl ?_; (clear M; try clear w); intro w M
 refine s_I F rfl rfl rfl rfl rfl rfl ?_; clear F a; intro a F
 refine t_endM M ?_; (clear M; try clear w); intro w M
 refine wp_ret ?_
 refine rt2 F rfl (by exact rv_a F rfl ag_53_R3 rfl (cells_whole M.h0)) (rv_t F rfl) ?_
 exfalso
 have hc9 := hc
 clear M F
 simp only [ASt.cnt] at hc9
 grind
 clear F; intro hc18 F
 try rw [hc18] at F
 replace hc18 := nd0 hc18
 refine wp_skip ?_
 replace F := F.keep [0, 1, 2, 3, 4, 5, 6, 8] rfl
 refine wp_region_t [.ind, .rd, .wr, .rd, .wr, .wr, .ind, .wr] [(1, 4), (3, 2)] (.one 0 (.one 1 (.one 3 (.two 2 4 (otOf [4, 5, 6, 7]) (otOf [2, 5, 6, 7]))))) mixed (by kernel_rfl) ?_
 refine s_fa0 F rfl rfl rfl rfl fa_53_9_R3 rfl ?_; clear F a; intro a F
 refine s_ldL F rfl rfl rfl rfl sc_22_R3 rfl (by exact cell_of_blk M.h1 (lit rfl)) ?_; clear F a; intro a F
 refine s_ldaL F rfl rfl rfl rfl ag_32_R3 rfl rfl (cells_whole M.h5) ?_; clear F a; intro a F
 refine t_two ?_ ?_
 replace M := M.nilT encW 32 5
 refine s_apM (st.Ps) F M rfl rfl rfl rfl tl_22_R3 rfl rfl (by exact SlOk.rd M.h3) (by intro e; rfl) (by simp; omega) (fun A c w M => (by (refine pend_take (by exact cells_whole M.h6) ?_); (refine pend_skip rfl ?_); exact pend_none)) ?_; (clear F a M; try clear w); intro A95 c95 w M a F
 refine s_bsL F M rfl rfl rfl rfl (parts1 F rfl) (bs_22_1_R3 _ _ _ _ _) (fun b w M => (by (refine pend_skip rfl ?_); (refine pend_take (by exact cell_of_blk M.h3 (lit rfl)) ?_); exact pend_none)) ?_; (clear F a M; try clear w); intro b97 w M a F
 refine s_apE (q) F M.f1 rfl rfl rfl rfl tl_22_R3 rfl rfl (by exact rd_blk M.h0 rfl) rfl (by simp; omega) (fun A c w M => (by (refine pend_skip rfl ?_); (refine pend_skip rfl ?_); exact pend_none)) ?_; (clear F a M; try clear w); intro A98 c98 w M a F
 refine s_fa0 F rfl rfl rfl rfl fa_53_9_R3 rfl ?_; clear F a; intro a F
 refine s_stL F M.f3 rfl rfl rfl sz_22_R3 rfl rfl rfl (by exact Nat.le_of_ble_eq_true rfl) (fun w M => (by (refine pend_skip rfl ?_); (refine pend_skip rfl ?_); exact pend_none)) ?_; (clear M; try clear w); intro w M
 refine t_endM M ?_; (clear M; try clear w); intro w M
 have hq := ctk1 (st := st) (q := q) (by assumption) (by assumption)
 have M1 : Sep _ _ _ (wsR _ (([] ++ st.Ps) ++ [q]) :: _) := M.f1; replace M := M1; clear M1
 replace M := Fw.Sep.wsC M (show ([] ++ st.Ps) ++ [q] = (st.count q).1.Ps by rw [hq]; rfl)
 have M1 : Sep _ _ _ (wsR _ st.L :: _) := M.f5; replace M := M1; clear M1
 replace M := Fw.Sep.wsC M (show st.L = (st.count q).1.L by rw [hq])
 have M1 : Sep _ _ _ (blk b2 _ :: _) := M.f2; replace M := M1; clear M1
 replace M := Fw.Sep.blkC M (show _ = aC (st.count q).1 (.slice A98 (([] ++ st.Ps) ++ [q]).length c98) (.slice LA st.L.length LC) by rw [hq]; rfl)
 replace M := M.nilT encW 32 5
 replace M := Fw.Sep.wsC M (show ([] : List Wrd) = (st.count q).2 by rw [hq])
 refine joined ((.slice A98 (([] ++ st.Ps) ++ [q]).length c98), (.slice LA st.L.length LC), (.slice none 0 0)) trivial (F.keep [6, 0, 1, 2, 3, 4] rfl) ?_
 try dsimp only [List.cons_append, List.nil_append]
 refine M.pick ?_; repeat (first | exact PkG.nil | refine PkG.cons 0 rfl rfl ?_ | refine PkG.cons 1 rfl rfl ?_ | refine PkG.cons 2 rfl rfl ?_ | refine PkG.cons 3 rfl rfl ?_ | refine PkG.cons 7 rfl rfl ?_ | refine PkG.cons 8 rfl rfl ?_)
 refine s_bsL F M rfl rfl rfl rfl (parts1 F rfl) (bs_22_1_R3 _ _ _ _ _) (fun b w M => (by (refine pend_skip rfl ?_); (refine pend_take (by exact cell_of_blk M.h2 (lit rfl)) ?_); exact pend_none)) ?_; (clear F a M; try clear w); intro b97 w M a F
 replace M := M.nilT encW 32 5
 refine s_apM (st.Ps) F M rfl rfl rfl rfl tl_22_R3 rfl rfl (by exact SlOk.rd M.h4) (by intro e; rfl) (by simp; omega) (fun A c w M => (by (refine pend_take (by exact cells_whole M.h7) ?_); (refine pend_skip rfl ?_); exact pend_none)) ?_; (clear F a M; try clear w); intro A95 c95 w M a F
 refine s_apE (q) F M rfl rfl rfl rfl tl_22_R3 rfl rfl (by exact rd_blk M.h1 rfl) rfl (by simp; omega) (fun A c w M => (by (refine pend_skip rfl ?_); (refine pend_skip rfl ?_); exact pend_none)) ?_; (clear F a M; try clear w); intro A98 c98 w M a F
 refine s_fa0 F rfl rfl rfl rfl fa_53_9_R3 rfl ?_; clear F a; intro a F
 refine s_stL F M.f3 rfl rfl rfl sz_22_R3 rfl rfl rfl (by exact Nat.le_of_ble_eq_true rfl) (fun w M => (by (refine pend_skip rfl ?_); (refine pend_skip rfl ?_); exact pend_none)) ?_; (clear M; try clear w); intro w M
 refine t_endM M ?_; (clear M; try clear w); intro w M
 have hq := ctk1 (st := st) (q := q) (by assumption) (by assumption)
 have M1 : Sep _ _ _ (wsR _ (([] ++ st.Ps) ++ [q]) :: _) := M.f1; replace M := M1; clear M1
 replace M := Fw.Sep.wsC M (show ([] ++ st.Ps) ++ [q] = (st.count q).1.Ps by rw [hq]; rfl)
 have M1 : Sep _ _ _ (wsR _ st.L :: _) := M.f5; replace M := M1; clear M1
 replace M := Fw.Sep.wsC M (show st.L = (st.count q).1.L by rw [hq])
 have M1 : Sep _ _ _ (blk b2 _ :: _) := M.f2; replace M := M1; clear M1
 replace M := Fw.Sep.blkC M (show _ = aC (st.count q).1 (.slice A98 (([] ++ st.Ps) ++ [q]).length c98) (.slice LA st.L.length LC) by rw [hq]; rfl)
 replace M := M.nilT encW 32 5
 replace M := Fw.Sep.wsC M (show ([] : List Wrd) = (st.count q).2 by rw [hq])
 refine joined ((.slice A98 (([] ++ st.Ps) ++ [q]).length c98), (.slice LA st.L.length LC), (.slice none 0 0)) trivial (F.keep [6, 0, 1, 2, 3, 4] rfl) ?_
 try dsimp only [List.cons_append, List.nil_append]
 refine M.pick ?_; repeat (first | exact PkG.nil | refine PkG.cons 0 rfl rfl ?_ | refine PkG.cons 1 rfl rfl ?_ | refine PkG.cons 2 rfl rfl ?_ | refine PkG.cons 3 rfl rfl ?_ | refine PkG.cons 7 rfl rfl ?_ | refine PkG.cons 8 rfl rfl ?_)
 clear F; intro hc19 F
 try rw [hc19] at F
 replace hc19 := of_decide_eq_false hc19
 refine wp_seq ?_
 replace F := F.keep [0, 1, 2, 3, 4, 5, 6] rfl
 refine wp_region_l [.ind, .rd, .rd, .wr, .ind, .ind, .ind, .wr, .wr, .ind] ([0, 1, 2, 3, 4, 5, 6, 7, 8, 9]) rfl ?_
 refine s_fa0 F rfl rfl rfl rfl fa_53_10_R3 rfl ?_; clear F a; intro a F
 refine s_lda F rfl rfl rfl rfl ag_28_R3 rfl rfl (aC_V M.h0) ?_; clear F a; intro a F
 refine s_lda F rfl rfl rfl rfl ag_32_R3 rfl rfl (cells_whole M.h4) ?_; clear F a; intro a F
 have M1 : Sep _ _ _ (wsR _ st.L :: _) := M.f2; replace M := M1; clear M1
 refine s_call (m := [_]) F M rfl rfl rfl rfl rfl (rfl : _ = some [_, _]) cb_24_R3 (fun nd_ => c24 st.n st.t st.L _ q W.v.len _ (M.drewN nd_).own.one) ?_; (clear F a M; try clear w); rintro v x w rfl M a F; (try simp only [List.cons_append, List.nil_append] at M)
 obtain ⟨XA, XC, rfl⟩ := SlOk.form M.h0
 have hok : okV st.n st.L q = true := by
   have hc9 := hc
   clear M F
   simp only [ASt.cnt] at hc9
   grind
 rw [hok] at F
 refine s_rn 3 F rfl rfl ?_; clear F a; intro a F
 refine s_alc F M rfl rfl rfl rfl zr_28_R3 rfl ?_; (clear F a M; try clear w); intro b9 w M a F
 refine s_stW F M rfl rfl rfl sz_28_R3 rfl rfl rfl rfl rfl ?_; (clear M; try clear w); intro w M
 refine s_I F rfl rfl rfl rfl rfl rfl ?_; clear F a; intro a F
 refine t_endM M ?_; (clear M; try clear w); intro w M
 refine wp_seq ?_
 refine wp_seq ?_
 replace F := F.keep [0, 1, 2, 3, 4, 5, 6, 9, 10] rfl
 refine wp_region_l [.ind, .ind] ([0, 1]) rfl ?_
 refine s_rn 2 F rfl rfl ?_; clear F a; intro a F
 refine t_endM M ?_; (clear M; try clear w); intro w M
 refine c_if F rfl ?_ ?_
 clear F; intro hc20 F
 try rw [hc20] at F
 replace hc20 := nt hc20
 refine wp_seq ?_
 replace F := F.keep [0, 1, 2, 3, 4, 5, 6, 9, 10] rfl
 refine wp_region_l [.rd, .wr, .ind] ([0, 1, 2]) rfl ?_
 refine s_lda F rfl rfl rfl rfl ag_53_R3 rfl rfl (cells_whole M.h2) ?_; clear F a; intro a F
 refine s_stW F M.f4 rfl rfl rfl sz_53_R3 rfl rfl rfl rfl rfl ?_; (clear M; try clear w); intro w M
 refine s_I F rfl rfl rfl rfl rfl rfl ?_; clear F a; intro a F
 refine t_endM M ?_; (clear M; try clear w); intro w M
 refine wp_ret ?_
 refine rt2 F rfl (by exact rv_a F rfl ag_53_R3 rfl (cells_whole M.h0)) (rv_t F rfl) ?_
 exfalso
 have hc9 := hc
 clear M F
 simp only [ASt.cnt] at hc9
 grind
 clear F; intro hc21 F
 try rw [hc21] at F
 replace hc21 := nf hc21
 refine wp_skip ?_
 replace F := F.keep [0, 1, 2, 3, 4, 5, 6, 9, 10] rfl
 refine wp_region_l [.rd, .ind, .wr] ([0, 1, 2]) rfl ?_
 refine s_lda F rfl rfl rfl rfl ag_28_R3 rfl rfl (cells_whole M.h0) ?_; clear F a; intro a F
 refine s_fa0 F rfl rfl rfl rfl fa_53_10_R3 rfl ?_; clear F a; intro a F
 refine s_sta F M.f2 rfl rfl rfl sz_28_R3 rfl rfl rfl rfl (by exact Nat.le_of_ble_eq_true rfl) ?_; (clear M; try clear w); intro w M
 refine t_endM M ?_; (clear M; try clear w); intro w M
 have hq := ctk2 (st := st) (q := q) (by assumption) (by assumption)
 have M1 : Sep _ _ _ (wsR _ (putV _ _ _) :: _) := M.f2; replace M := M1; clear M1
 replace M := Fw.Sep.wsC M (show putV st.n st.L q = (st.count q).1.L by rw [hq, put_yes hok])
 have M1 : Sep _ _ _ (wsR _ st.Ps :: _) := M.f3; replace M := M1; clear M1
 replace M := Fw.Sep.wsC M (show st.Ps = (st.count q).1.Ps by rw [hq])
 have M1 : Sep _ _ _ (blk b2 _ :: _) := M.f2; replace M := M1; clear M1
 replace M := Fw.Sep.blkC M (show _ = aC (st.count q).1 (.slice PA st.Ps.length PC) (.slice XA (putV st.n st.L q).length XC) by rw [hq]; rfl)
 replace M := M.nilT encW 32 5
 replace M := Fw.Sep.wsC M (show ([] : List Wrd) = (st.count q).2 by rw [hq])
 refine joined ((.slice PA st.Ps.length PC), (.slice XA (putV st.n st.L q).length XC), (.slice none 0 0)) trivial (F.keep [6, 0, 1, 2, 3, 4] rfl) ?_
 try dsimp only [List.cons_append, List.nil_append]
 refine M.pick ?_; repeat (first | exact PkG.nil | refine PkG.cons 0 rfl rfl ?_ | refine PkG.cons 1 rfl rfl ?_ | refine PkG.cons 2 rfl rfl ?_ | refine PkG.cons 3 rfl rfl ?_ | refine PkG.cons 5 rfl rfl ?_ | refine PkG.cons 6 rfl rfl ?_)
 clear F M; clear a; (try clear w)
 rintro ⟨PV, LV, ov⟩ a w _ F M; try dsimp only at F M
 try simp only [List.cons_append, List.nil_append] at F M
 obtain ⟨PA2, PC2, rfl⟩ := SlOk.form M.h1
 obtain ⟨LA2, LC2, rfl⟩ := SlOk.form M.h2
 obtain ⟨OA, OC, rfl⟩ := SlOk.form M.h3
 refine wp_seq ?_
 refine wp_seq ?_
 refine wp_region_l [.ind] ([0]) rfl ?_
 refine s_I F rfl rfl rfl rfl rfl rfl ?_; clear F a; intro a F
 refine t_endM M ?_; (clear M; try clear w); intro w M
 refine wp_block ?_
 have M1 : Sep _ _ _ (wsR _ (st.count q).2 :: _) := M.f3; replace M := M1; clear M1
 have M1 : Sep _ _ _ (blk b2 _ :: _) := M.f1; replace M := M1; clear M1
 refine loopX (X := (Int) × (ASt) × (List Wrd) × (Option Addr) × (Nat)) F [0, 1, 2, 3, 4] rfl (fun ((k, s, o, A, c) : (Int) × (ASt) × (List Wrd) × (Option Addr) × (Nat)) => (0 ≤ k) ∧ (k ≤ 1000) ∧ (Lp st q s o k)) (fun ((k, s, o, A, c) : (Int) × (ASt) × (List Wrd) × (Option Addr) × (Nat)) => [(6, .slice A o.length c), (11, .int .i64 k)]) (fun ((k, s, o, A, c) : (Int) × (ASt) × (List Wrd) × (Option Addr) × (Nat)) => [blk b2 (.cells (aC s (.slice PA2 (st.count q).1.Ps.length PC2) (.slice LA2 (st.count q).1.L.length LC2)) 53 (0, 0)), wsR (.slice A o.length c) o]) (fun ((k, s, o, A, c) : (Int) × (ASt) × (List Wrd) × (Option Addr) × (Nat)) => (1000 - k).toNat) ((0), ((st.count q).1), ((st.count q).2), (OA), (OC)) M ⟨(by omega), (by omega), (lp0 W h0 hc)⟩ (F.keep [6, 11, 0, 1, 2, 3, 4] rfl) ?_
 clear F M; clear a; (try clear w)
 rintro ⟨k, s, o, A, c⟩ a w ⟨k0, k1, P⟩ F M; try dsimp only at F M
 try simp only [List.cons_append, List.nil_append] at F M
 try dsimp only at k0 k1 P
 have hlk := P.lk
 have hol := P.ol
 refine wp_seq ?_
 refine wp_seq ?_
 refine wp_region_l [.ind, .ind, .ind, .ind, .rd, .ind, .ind] ([0, 1, 2, 3, 4, 5, 6]) rfl ?_
 refine s_rn 3 F rfl rfl ?_; clear F a; intro a F
 refine bsplit F 102 rfl ?_ ?_
 clear F; intro hc22 F
 try rw [hc22] at F
 replace hc22 := of_decide_eq_true hc22
 refine s_fa0 F rfl rfl rfl rfl fa_53_12_R3 rfl ?_; clear F a; intro a F
 refine s_ld F rfl rfl rfl rfl sc_4_R3 rfl (by exact cell_of_blk M.h0 (lit rfl)) ?_; clear F a; intro a F
 refine s_rn 2 F rfl rfl ?_; clear F a; intro a F
 refine t_endM M ?_; (clear M; try clear w); intro w M
 refine c_if F rfl ?_ ?_
 clear F; intro hc23 F
 try rw [hc23] at F
 replace hc23 := nt hc23
 refine wp_skip ?_
 refine wp_seq ?_
 refine wp_block ?_
 refine wp_seq ?_
 replace F := F.keep [0, 1, 2, 3, 4, 6, 11] rfl
 refine wp_region_l [.rd, .wr, .ind, .ind, .ind, .ind, .wr, .wr, .ind, .ind] ([0, 1, 2, 3, 4, 5, 6, 7, 8, 9]) rfl ?_
 refine s_lda F rfl rfl rfl rfl ag_53_R3 rfl rfl (cells_whole M.h0) ?_; clear F a; intro a F
 refine s_call (m := []) F M rfl rfl rfl rfl rfl (rfl : _ = some [_]) cb_89_R3 (fun nd_ => c89 s P.W (by have := Ps_len P.W; omega) _ _ _ (by rw [P.P]; exact SlOk.rd M.h2) (by rw [P.L]; exact SlOk.rd M.h3)) ?_; (clear F a M; try clear w); rintro v x w rfl M a F; (try simp only [List.cons_append, List.nil_append] at M)
 obtain ⟨XA, XC, rfl⟩ := SlOk.form M.h0
 have hol1 := ruleO_len s
 refine s_rn 4 F rfl rfl ?_; clear F a; intro a F
 refine s_alc F M rfl rfl rfl rfl zr_53_R3 rfl ?_; (clear F a M; try clear w); intro b12 w M a F
 refine s_stW F M rfl rfl rfl sz_53_R3 rfl rfl rfl rfl rfl ?_; (clear M; try clear w); intro w M
 refine s_rn 2 F rfl rfl ?_; clear F a; intro a F
 refine t_endM M ?_; (clear M; try clear w); intro w M
 refine wp_seq ?_
 refine wp_seq ?_
 replace F := F.keep [0, 1, 2, 3, 4, 6, 11, 12, 13, 14] rfl
 refine wp_region_l [.ind, .ind] ([0, 1]) rfl ?_
 refine s_rn 2 F rfl rfl ?_; clear F a; intro a F
 refine t_endM M ?_; (clear M; try clear w); intro w M
 refine c_if F rfl ?_ ?_
 clear F; intro hc24 F
 try rw [hc24] at F
 replace hc24 := nt hc24
 refine wp_exit ?_
 refine wp_seq ?_
 replace F := F.keep [0, 1, 2, 3, 4, 6, 11, 12, 13, 14] rfl
 refine wp_region_l [.rd, .ind, .wr, .ind] ([0, 1, 2, 3]) rfl ?_
 refine s_lda F rfl rfl rfl rfl ag_53_R3 rfl rfl (cells_whole M.h2) ?_; clear F a; intro a F
 refine s_I F rfl rfl rfl rfl rfl rfl ?_; clear F a; intro a F
 refine s_stW F M.f6 rfl rfl rfl sz_53_R3 rfl rfl rfl rfl rfl ?_; (clear M; try clear w); intro w M
 refine s_I F rfl rfl rfl rfl rfl rfl ?_; clear F a; intro a F
 refine t_endM M ?_; (clear M; try clear w); intro w M
 refine wp_ret ?_
 refine rt2 F rfl (by exact rv_a F rfl ag_53_R3 rfl (cells_whole M.h0)) (rv_t F rfl) ?_
 have hrs : s.run = (s, []) := by
   first
   | exact run_done (by assumption)
   | (refine run_stop ?_
      cases h9 : s.rule with
      | none => rfl
      | some z => exfalso; simp_all)
 have ht := P.fin h0 hd hc hrs
 rw [ht]
 refine ⟨_, ((.slice PA2 (st.count q).1.Ps.length PC2), (.slice LA2 (st.count q).1.L.length LC2), .slice A o.length c), rfl, rfl, ?_⟩
 have M1 : Sep _ _ _ (wsR _ o :: _) := M.f4; replace M := M1; clear M1
 have M1 : Sep _ _ _ (wsR _ (st.count q).1.L :: _) := M.f6; replace M := M1; clear M1
 replace M := Fw.Sep.wsC M P.L.symm
 have M1 : Sep _ _ _ (wsR _ (st.count q).1.Ps :: _) := M.f6; replace M := M1; clear M1
 replace M := Fw.Sep.wsC M P.P.symm
 exact Sep.left (m := [_, _, _]) M
 clear F; intro hc25 F
 try rw [hc25] at F
 replace hc25 := nf hc25
 refine wp_skip ?_
 refine wp_seq ?_
 replace F := F.keep [0, 1, 2, 3, 4, 6, 11, 12, 13, 14] rfl
 refine wp_region_l [.rd, .wr] ([0, 1]) rfl ?_
 refine s_lda F rfl rfl rfl rfl ag_53_R3 rfl rfl (cells_whole M.h0) ?_; clear F a; intro a F
 refine s_stW F M.f2 rfl rfl rfl sz_53_R3 rfl rfl rfl rfl rfl ?_; (clear M; try clear w); intro w M
 refine t_endM M ?_; (clear M; try clear w); intro w M
 replace F := F.keep [0, 1, 2, 3, 4, 6, 11, 12, 13, 14] rfl
 refine wp_region_l [.ind, .ind, .wr, .ind] ([0, 1, 2, 3]) rfl ?_
 refine s_rn 2 F rfl rfl ?_; clear F a; intro a F
 refine s_apM (ruleO s) F M.f3 rfl rfl rfl rfl tl_22_R3 rfl rfl (by exact SlOk.rd M.h2) (by intro e; rfl) (by omega) (fun _ _ _ _ => pend_nil) ?_; (clear F a M; try clear w); intro A120 c120 w M a F
 refine s_I F rfl rfl rfl rfl rfl rfl ?_; clear F a; intro a F
 refine t_endM M ?_; (clear M; try clear w); intro w M
 replace F := F.keep [0, 1, 2, 3, 4, 6, 11, 12, 13, 14] rfl
 refine wp_region_l [.ind, .ind, .ind] ([0, 1, 2]) rfl ?_
 refine s_I F rfl rfl rfl rfl rfl rfl ?_; clear F a; intro a F
 refine s_add F rfl rfl rfl rfl rfl rfl (by unfold In64; omega) ?_; clear F a; intro a F
 refine s_I F rfl rfl rfl rfl rfl rfl ?_; clear F a; intro a F
 refine t_endM M ?_; (clear M; try clear w); intro w M
 refine again ((k + 1), (ruleS s), (o ++ ruleO s), (A120), (c120)) (by show _ < _; (try dsimp only); omega) ⟨(by omega), (by assumption), (P.next (by assumption) (rule_some (by assumption)))⟩ (F.keep [6, 11, 0, 1, 2, 3, 4] rfl) ?_
 try dsimp only [List.cons_append, List.nil_append]
 refine M.pick ?_; repeat (first | exact PkG.nil | refine PkG.cons 0 rfl rfl ?_ | refine PkG.cons 1 rfl rfl ?_ | refine PkG.cons 4 rfl rfl ?_ | refine PkG.cons 5 rfl rfl ?_ | refine PkG.cons 6 rfl rfl ?_ | refine PkG.cons 7 rfl rfl ?_)
 clear F; intro hc26 F
 try rw [hc26] at F
 replace hc26 := nf hc26
 refine wp_exit ?_
 refine wp_seq ?_
 replace F := F.keep [0, 1, 2, 3, 4, 6, 11] rfl
 refine wp_region_l [.rd, .ind, .wr, .ind] ([0, 1, 2, 3]) rfl ?_
 refine s_lda F rfl rfl rfl rfl ag_53_R3 rfl rfl (cells_whole M.h0) ?_; clear F a; intro a F
 refine s_I F rfl rfl rfl rfl rfl rfl ?_; clear F a; intro a F
 refine s_stW F M.f4 rfl rfl rfl sz_53_R3 rfl rfl rfl rfl rfl ?_; (clear M; try clear w); intro w M
 refine s_I F rfl rfl rfl rfl rfl rfl ?_; clear F a; intro a F
 refine t_endM M ?_; (clear M; try clear w); intro w M
 refine wp_ret ?_
 refine rt2 F rfl (by exact rv_a F rfl ag_53_R3 rfl (cells_whole M.h0)) (rv_t F rfl) ?_
 have hrs : s.run = (s, []) := by
   first
   | exact run_done (by assumption)
   | (refine run_stop ?_
      cases h9 : s.rule with
      | none => rfl
      | some z => exfalso; simp_all)
 have ht := P.fin h0 hd hc hrs
 rw [ht]
 refine ⟨_, ((.slice PA2 (st.count q).1.Ps.length PC2), (.slice LA2 (st.count q).1.L.length LC2), .slice A o.length c), rfl, rfl, ?_⟩
 have M1 : Sep _ _ _ (wsR _ o :: _) := M.f2; replace M := M1; clear M1
 have M1 : Sep _ _ _ (wsR _ (st.count q).1.L :: _) := M.f4; replace M := M1; clear M1
 replace M := Fw.Sep.wsC M P.L.symm
 have M1 : Sep _ _ _ (wsR _ (st.count q).1.Ps :: _) := M.f4; replace M := M1; clear M1
 replace M := Fw.Sep.wsC M P.P.symm
 exact Sep.left (m := [_, _, _]) M
 clear F; intro hc27 F
 try rw [hc27] at F
 replace hc27 := of_decide_eq_false hc27
 exfalso
 omega
end Go.Proofs.Ytboibdmflblphaa
