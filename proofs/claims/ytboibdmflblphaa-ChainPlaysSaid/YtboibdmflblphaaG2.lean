/- G2 of the seat. -/
import Derived.Test.YtboibdmflblphaaG1
namespace Go.Proofs.Ytboibdmflblphaa
open Go Fw
theorem zr_100_G2 : zeroB Try.prog 100 = some (.agg #[.int .i64 0, .int .i64 0, .int .i64 0, .bool false, .int .i64 0, .int .i64 0, .string { data := #[] }, .int .i64 0, .int .i64 0, .string { data := #[] }, .int .i64 0, .string { data := #[] }, .int .i64 0, .slice none 0 0, .int .i64 0, .int .i64 0, .slice none 0 0, .bool false, .bool false, .string { data := #[] }, .slice none 0 0, .slice none 0 0]) := by kernel_rfl
theorem fa_100_5_G2 : FA Try.prog 100 5 20 := fun _ _ _ => by kernel_rfl
theorem sc_69_G2 : scalB Try.prog 69 = true := by kernel_rfl
theorem sl_69_G2 : slcB Try.prog 69 = some (9, 1) := by kernel_rfl
theorem ag_100_G2 : aggB Try.prog 100 = some 22 := by kernel_rfl
theorem sz_100_G2 : sizeB Try.prog 100 = some 22 := by kernel_rfl
theorem fa_100_6_G2 : FA Try.prog 100 6 21 := fun _ _ _ => by kernel_rfl
theorem sc_9_G2 : scalB Try.prog 9 = true := by kernel_rfl
theorem fa_100_0_G2 : FA Try.prog 100 0 0 := fun _ _ _ => by kernel_rfl
theorem sc_3_G2 : scalB Try.prog 3 = true := by kernel_rfl
theorem fa_100_1_G2 : FA Try.prog 100 1 1 := fun _ _ _ => by kernel_rfl
theorem fa_100_2_G2 : FA Try.prog 100 2 2 := fun _ _ _ => by kernel_rfl
theorem cb_40_G2 : callB Try.prog 40 = true := by kernel_rfl
theorem zr_53_G2 : zeroB Try.prog 53 = some (.agg #[.int .i64 0, .int .i64 0, .string { data := #[] }, .int .i64 0, .int .i64 0, .string { data := #[] }, .int .i64 0, .string { data := #[] }, .int .i64 0, .slice none 0 0, .int .i64 0, .int .i64 0, .slice none 0 0, .bool false, .bool false, .string { data := #[] }]) := by kernel_rfl
theorem sz_53_G2 : sizeB Try.prog 53 = some 16 := by kernel_rfl
theorem ag_53_G2 : aggB Try.prog 53 = some 16 := by kernel_rfl
theorem cb_42_G2 : callB Try.prog 42 = true := by kernel_rfl
theorem fa_100_4_G2 : FA Try.prog 100 4 4 := fun _ _ _ => by kernel_rfl
theorem cb_122_G2 : callB Try.prog 122 = true := by kernel_rfl
theorem tl_69_G2 : SlT Try.prog 69 9 1 16 (.string { data := #[] }) := ⟨by kernel_rfl, by kernel_rfl, by kernel_rfl, by kernel_rfl, by decide⟩
theorem bs_69_1_G2 : ∀ (x0 : ByteArray), News Try.prog (Instr.buildSlice 69 1 #[(0, .string x0)]) (.cells #[.string x0] 9) fun b => .slice (some ⟨b, 0, none⟩) 1 1 := by intros; intro w; kernel_rfl
theorem sz_69_G2 : sizeB Try.prog 69 = some 1 := by kernel_rfl
theorem cb_103_G2 : callB Try.prog 103 = true := by kernel_rfl
open VoteM AgrM CouM ChnM

structure Xv where
 p : Value
 l : Value
 g : Value
 w : Value
abbrev xV (c : Chn) (x : Xv) : Value := cV c x.p x.l x.g x.w
theorem begin_over {c : Chn} (h : c.over = true) : c.begin = c ∧ c.beginO = [] := ⟨if_pos h, if_pos h⟩
theorem begin_more {c : Chn} (h : c.over = false) : c.begin = c.put c.fresh.start ∧ c.beginO = tallsO c.log.length c.fresh.startO := ⟨if_neg (by rw [h]; decide), if_neg (by rw [h]; decide)⟩
theorem rid_at {l : List ByteArray} {s : ByteArray} {i : Nat} (h : l[i]? = some s) (hn : ∀ x ∈ l.take i, x ≠ s) : l.take i ++ l.drop (i + 1) = ridB l s := by
 rw [rid_some (idx_at h hn), List.eraseIdx_eq_take_drop_succ]
theorem rid_off {l : List ByteArray} {s : ByteArray} (hn : ∀ x ∈ l, x ≠ s) : l = ridB l s := (rid_none (idx_no hn)).symm
theorem cC_put (c : Chn) (a : ASt) (pv lv gv wv p2 l2 : Value) : setCells (cC c pv lv gv wv) 4 (aC a p2 l2).toList = cC (c.put a) p2 l2 gv wv :=
 setCells_mid [.int .i64 c.n, .int .i64 c.t, .int .i64 c.me, .bool c.begun] [.int .i64 c.part.me, .int .i64 c.part.h, .string c.part.own, .int .i64 c.part.round, .int .i64 c.part.step, .string c.part.lock, .int .i64 c.part.lockR, .string c.part.val, .int .i64 c.part.valR, pv, .int .i64 c.part.n, .int .i64 c.part.t, lv, .bool c.part.seen, .bool c.part.done, .string c.part.dec] [gv, wv] (aC a p2 l2).toList rfl
theorem Fw.Sep.stC {S : Nat → Prop} {w0 w : World} {r : List Res} {v : Value} {L L' : List ByteArray} (M : Sep S w0 w (strR v L :: r)) (e : L = L') : Sep S w0 w (strR v L' :: r) := by
 subst e; exact M

set_option maxRecDepth 100000 in
set_option maxHeartbeats 400000 in
theorem c103a (c : Chn) (ho : c.over = true) {PA LA GA WA : Option Addr} {pn pc ln lc GC WC : Nat} (w0 : World) : Cl Try.prog 103 #[cV c (.slice PA pn pc) (.slice LA ln lc) (.slice GA c.log.length GC) (.slice WA c.wants.length WC)] w0 (RetQ w0 fun o => o = .tuple #[cV c (.slice PA pn pc) (.slice LA ln lc) (.slice GA c.log.length GC) (.slice WA c.wants.length WC), nilV]) := by
 have M : Sep (fun _ => False) w0 w0 _ := Sep.nil _ w0
 refine enter (vs := [_]) Try.func103 rfl rfl rfl ?_
 intro a F
 refine wp_seq ?_
 refine wp_region_l [.wr, .wr, .ind] ([0, 1, 2]) rfl ?_
 refine s_bxA F M rfl rfl rfl rfl rfl ?_; (clear F a M; try clear w); intro b1 w M a F
 refine s_alc F M rfl rfl rfl rfl zr_100_G2 rfl ?_; (clear F a M; try clear w); intro b2 w M a F
 refine s_I F rfl rfl rfl rfl rfl rfl ?_; clear F a; intro a F
 refine t_endM M ?_; (clear M; try clear w); intro w M
 refine wp_seq ?_
 refine wp_seq ?_
 refine wp_region_l [.ind, .rd, .ind, .ind] ([0, 1, 2, 3]) rfl ?_
 refine s_fa0 F rfl rfl rfl rfl fa_100_5_G2 rfl ?_; clear F a; intro a F
 refine s_ld F rfl rfl rfl rfl sc_69_G2 rfl (by exact cell_of_blk M.h1 (lit rfl)) ?_; clear F a; intro a F
 refine s_len F rfl rfl rfl rfl sl_69_G2 rfl ?_; clear F a; intro a F
 refine s_bin F rfl rfl rfl rfl rfl rfl rfl ?_; clear F a; intro a F
 refine t_endM M ?_; (clear M; try clear w); intro w M
 refine c_if F rfl ?_ ?_
 clear F; intro hc0 F
 try rw [hc0] at F
 replace hc0 := of_decide_eq_true hc0
 refine wp_seq ?_
 replace F := F.keep [0, 1, 2, 3] rfl
 refine wp_region_l [.rd, .wr, .ind] ([0, 1, 2]) rfl ?_
 refine s_lda F rfl rfl rfl rfl ag_100_G2 rfl rfl (cells_whole M.h1) ?_; clear F a; intro a F
 refine s_stW F M rfl rfl rfl sz_100_G2 rfl rfl rfl rfl rfl ?_; (clear M; try clear w); intro w M
 refine s_I F rfl rfl rfl rfl rfl rfl ?_; clear F a; intro a F
 refine t_endM M ?_; (clear M; try clear w); intro w M
 refine wp_ret ?_
 refine rt2 F rfl (by exact rv_a F rfl ag_100_G2 rfl (cells_whole M.h0)) (rv_t F rfl) ?_
 exact ⟨_, rfl, rfl, M.chg⟩
 clear F; intro hc1 F
 try rw [hc1] at F
 replace hc1 := of_decide_eq_false hc1
 exfalso
 have := over_spec.1 ho
 omega
set_option maxRecDepth 100000 in
set_option maxHeartbeats 4000000 in
theorem c103b (c : Chn) (ho : c.over = false) (hok : okA c.n c.t c.me c.log.length (headW c.wants) = true) {PA LA GA WA : Option Addr} {pn pc ln lc GC WC : Nat} (w0 : World) (hrw : RdSl w0.heap (.slice WA c.wants.length WC) c.wants.length 1 (c.wants.flatMap encS)) : Cl Try.prog 103 #[cV c (.slice PA pn pc) (.slice LA ln lc) (.slice GA c.log.length GC) (.slice WA c.wants.length WC)] w0 (RetS [] w0 (fun o (x : Value) => o = .tuple #[cV (c.put c.fresh.start) nilV nilV (.slice GA c.log.length GC) (.slice WA c.wants.length WC), x]) fun x => [tlR x (tallsO c.log.length c.fresh.startO)]) := by
 have M : Sep (fun b => b ∈ foots ([] : List Res)) w0 w0 _ := Sep.nil _ w0
 have hrow := (ro_of hrw).nil
 refine enter (vs := [_]) Try.func103 rfl rfl rfl ?_
 intro a F
 refine wp_seq ?_
 refine wp_region_l [.wr, .wr, .ind] ([0, 1, 2]) rfl ?_
 refine s_bxA F M rfl rfl rfl rfl rfl ?_; (clear F a M; try clear w); intro b1 w M a F
 refine s_alc F M rfl rfl rfl rfl zr_100_G2 rfl ?_; (clear F a M; try clear w); intro b2 w M a F
 refine s_I F rfl rfl rfl rfl rfl rfl ?_; clear F a; intro a F
 refine t_endM M ?_; (clear M; try clear w); intro w M
 refine wp_seq ?_
 refine wp_seq ?_
 refine wp_region_l [.ind, .rd, .ind, .ind] ([0, 1, 2, 3]) rfl ?_
 refine s_fa0 F rfl rfl rfl rfl fa_100_5_G2 rfl ?_; clear F a; intro a F
 refine s_ld F rfl rfl rfl rfl sc_69_G2 rfl (by exact cell_of_blk M.h1 (lit rfl)) ?_; clear F a; intro a F
 refine s_len F rfl rfl rfl rfl sl_69_G2 rfl ?_; clear F a; intro a F
 refine s_bin F rfl rfl rfl rfl rfl rfl rfl ?_; clear F a; intro a F
 refine t_endM M ?_; (clear M; try clear w); intro w M
 refine c_if F rfl ?_ ?_
 clear F; intro hc0 F
 try rw [hc0] at F
 replace hc0 := of_decide_eq_true hc0
 exfalso
 have := over_no.1 ho
 omega
 clear F; intro hc1 F
 try rw [hc1] at F
 replace hc1 := of_decide_eq_false hc1
 refine wp_skip ?_
 refine wp_seq ?_
 replace F := F.keep [0, 1, 2, 3] rfl
 refine wp_region_l [.ind] ([0]) rfl ?_
 refine s_I F rfl rfl rfl rfl rfl rfl ?_; clear F a; intro a F
 refine t_endM M ?_; (clear M; try clear w); intro w M
 refine wp_seq ?_
 refine wp_seq ?_
 refine wp_region_l [.ind, .rd, .ind, .ind] ([0, 1, 2, 3]) rfl ?_
 refine s_fa0 F rfl rfl rfl rfl fa_100_6_G2 rfl ?_; clear F a; intro a F
 refine s_ld F rfl rfl rfl rfl sc_69_G2 rfl (by exact cell_of_blk M.h1 (lit rfl)) ?_; clear F a; intro a F
 refine s_len F rfl rfl rfl rfl sl_69_G2 rfl ?_; clear F a; intro a F
 refine s_bin F rfl rfl rfl rfl rfl rfl rfl ?_; clear F a; intro a F
 refine t_endM M ?_; (clear M; try clear w); intro w M
 refine cutX (X := Unit) (m0 := []) F [0, 1, 2, 3] rfl M (fun (_ : Unit) => True) (fun (_ : Unit) => [(4, .string (headW c.wants))]) (fun (_ : Unit) => []) ?_ ?_
 refine c_if F rfl ?_ ?_
 clear F; intro hc2 F
 try rw [hc2] at F
 replace hc2 := of_decide_eq_true hc2
 replace F := F.keep [0, 1, 2, 3, 4] rfl
 refine wp_region_l [.ind, .rd, .ind, .rd, .ind] ([0, 1, 2, 3, 4]) rfl ?_
 refine s_fa0 F rfl rfl rfl rfl fa_100_6_G2 rfl ?_; clear F a; intro a F
 refine s_ld F rfl rfl rfl rfl sc_69_G2 rfl (by exact cell_of_blk M.h1 (lit rfl)) ?_; clear F a; intro a F
 refine s_ix F rfl rfl rfl rfl sl_69_G2 rfl rfl (by exact M.chg.ro hrow) (by omega) (by omega) ?_; clear F a; intro e20 he20 a F
 refine s_ld F rfl rfl rfl rfl sc_9_G2 rfl (by exact rdX0 (M.chg.ro hrow) (by intro e; rfl) he20 rfl) ?_; clear F a; intro a F
 refine s_I F rfl rfl rfl rfl rfl rfl ?_; clear F a; intro a F
 refine t_endM M ?_; (clear M; try clear w); intro w M
 rw [← head_some he20] at F
 refine joined () trivial (F.keep [4, 0, 1, 2, 3] rfl) ?_
 try dsimp only [List.cons_append, List.nil_append]
 refine M.pick ?_; repeat (first | exact PkG.nil | refine PkG.cons 0 rfl rfl ?_ | refine PkG.cons 1 rfl rfl ?_)
 clear F; intro hc3 F
 try rw [hc3] at F
 replace hc3 := of_decide_eq_false hc3
 refine wp_skip ?_
 rw [show ({ data := #[126] } : ByteArray) = headW c.wants from (head_none (by omega)).symm] at F
 refine joined () trivial (F.keep [4, 0, 1, 2, 3] rfl) ?_
 try dsimp only [List.cons_append, List.nil_append]
 refine M.pick ?_; repeat (first | exact PkG.nil | refine PkG.cons 0 rfl rfl ?_ | refine PkG.cons 1 rfl rfl ?_)
 clear F M; clear a; (try clear w)
 rintro _ a w _ F M; try dsimp only at F M
 try simp only [List.cons_append, List.nil_append] at F M
 refine wp_seq ?_
 refine wp_region_l [.ind, .rd, .ind, .rd, .ind, .rd, .ind, .rd, .ind, .ind, .wr, .ind, .ind, .ind, .wr, .wr, .ind] ([0, 1, 2, 3, 4, 5, 6, 7, 8, 9, 10, 11, 12, 13, 14, 15, 16]) rfl ?_
 refine s_fa0 F rfl rfl rfl rfl fa_100_0_G2 rfl ?_; clear F a; intro a F
 refine s_ld F rfl rfl rfl rfl sc_3_G2 rfl (by exact cell_of_blk M.h1 (lit rfl)) ?_; clear F a; intro a F
 refine s_fa0 F rfl rfl rfl rfl fa_100_1_G2 rfl ?_; clear F a; intro a F
 refine s_ld F rfl rfl rfl rfl sc_3_G2 rfl (by exact cell_of_blk M.h1 (lit rfl)) ?_; clear F a; intro a F
 refine s_fa0 F rfl rfl rfl rfl fa_100_2_G2 rfl ?_; clear F a; intro a F
 refine s_ld F rfl rfl rfl rfl sc_3_G2 rfl (by exact cell_of_blk M.h1 (lit rfl)) ?_; clear F a; intro a F
 refine s_fa0 F rfl rfl rfl rfl fa_100_5_G2 rfl ?_; clear F a; intro a F
 refine s_ld F rfl rfl rfl rfl sc_69_G2 rfl (by exact cell_of_blk M.h1 (lit rfl)) ?_; clear F a; intro a F
 refine s_len F rfl rfl rfl rfl sl_69_G2 rfl ?_; clear F a; intro a F
 refine s_I F rfl rfl rfl rfl rfl rfl ?_; clear F a; intro a F
 refine s_cq F M rfl rfl rfl rfl rfl (rfl : _ = some [_, _, _, _, _]) cb_40_G2 (fun nd_ => c40 _ _ _ _ _ hok _) ?_; (clear F a M; try clear w); rintro v w rfl M a F
 refine s_I F rfl rfl rfl rfl rfl rfl ?_; clear F a; intro a F
 refine s_I F rfl rfl rfl rfl rfl rfl ?_; clear F a; intro a F
 refine s_I F rfl rfl rfl rfl rfl rfl ?_; clear F a; intro a F
 refine s_alc F M rfl rfl rfl rfl zr_53_G2 rfl ?_; (clear F a M; try clear w); intro b5 w M a F
 refine s_stW F M rfl rfl rfl sz_53_G2 rfl rfl rfl rfl rfl ?_; (clear M; try clear w); intro w M
 refine s_I F rfl rfl rfl rfl rfl rfl ?_; clear F a; intro a F
 refine t_endM M ?_; (clear M; try clear w); intro w M
 refine wp_seq ?_
 replace F := F.keep [0, 1, 2, 3, 4, 5] rfl
 refine wp_region_l [.rd, .wr, .ind, .ind, .ind, .wr, .wr, .ind] ([0, 1, 2, 3, 4, 5, 6, 7]) rfl ?_
 refine s_lda F rfl rfl rfl rfl ag_53_G2 rfl rfl (cells_whole M.h0) ?_; clear F a; intro a F
 refine s_call (m := []) F M rfl rfl rfl rfl rfl (rfl : _ = some [_]) cb_42_G2 (fun nd_ => c42 c.fresh _) ?_; (clear F a M; try clear w); rintro v x w rfl M a F; (try simp only [List.cons_append, List.nil_append] at M)
 have hol1 := startO_len1 c.fresh
 generalize c.fresh.start = s1 at M F ⊢
 generalize c.fresh.startO = o1 at M F hol1 ⊢
 obtain ⟨XA, XC, rfl⟩ := SlOk.form M.h0
 refine s_I F rfl rfl rfl rfl rfl rfl ?_; clear F a; intro a F
 refine s_I F rfl rfl rfl rfl rfl rfl ?_; clear F a; intro a F
 refine s_I F rfl rfl rfl rfl rfl rfl ?_; clear F a; intro a F
 refine s_alc F M rfl rfl rfl rfl zr_53_G2 rfl ?_; (clear F a M; try clear w); intro b7 w M a F
 refine s_stW F M rfl rfl rfl sz_53_G2 rfl rfl rfl rfl rfl ?_; (clear M; try clear w); intro w M
 refine s_I F rfl rfl rfl rfl rfl rfl ?_; clear F a; intro a F
 refine t_endM M ?_; (clear M; try clear w); intro w M
 refine wp_seq ?_
 replace F := F.keep [0, 1, 2, 3, 4, 5, 7, 8] rfl
 refine wp_region_l [.rd, .ind, .wr] ([0, 1, 2]) rfl ?_
 refine s_lda F rfl rfl rfl rfl ag_53_G2 rfl rfl (cells_whole M.h0) ?_; clear F a; intro a F
 refine s_fa0 F rfl rfl rfl rfl fa_100_4_G2 rfl ?_; clear F a; intro a F
 refine s_sta F M.f4 rfl rfl rfl sz_53_G2 rfl rfl rfl rfl (by exact Nat.le_of_ble_eq_true rfl) ?_; (clear M; try clear w); intro w M
 refine t_endM M ?_; (clear M; try clear w); intro w M
 refine wp_seq ?_
 have M1 : Sep _ _ _ (blk b1 _ :: _) := M; replace M := M1; clear M1
 replace M := Fw.Sep.blkC M (cC_put c s1 _ _ _ _ _ _)
 replace F := F.keep [0, 1, 2, 3, 4, 5, 7, 8] rfl
 refine wp_region_t [.rd, .ind, .rd, .ind, .ind, .wr, .wr, .ind] [(0, 5)] (otOf [0, 1, 2, 3, 4, 5, 6, 7]) mixed (by kernel_rfl) ?_
 refine s_ldaL F rfl rfl rfl rfl ag_100_G2 rfl rfl (cells_whole M.h0) ?_; clear F a; intro a F
 refine s_fa0 F rfl rfl rfl rfl fa_100_5_G2 rfl ?_; clear F a; intro a F
 refine s_ldL F rfl rfl rfl rfl sc_69_G2 rfl (by exact cell_of_blk M.h0 (lit rfl)) ?_; clear F a; intro a F
 refine s_len F rfl rfl rfl rfl sl_69_G2 rfl ?_; clear F a; intro a F
 refine s_I F rfl rfl rfl rfl rfl rfl ?_; clear F a; intro a F
 refine s_callP (m := []) F M rfl rfl rfl rfl rfl (rfl : _ = some [_, _]) cb_122_G2 (fun nd_ => c122 c.log.length o1 (Nat.le_trans hol1 (by decide)) _ _ (by exact SlOk.rd M.h2)) (fun _ x w _ M => by (try simp only [List.cons_append, List.nil_append] at M); exact (by (refine pend_skip rfl ?_); (refine pend_take (by exact cells_whole M.h1) ?_); exact pend_none)) ?_; (clear F a M; try clear w); rintro v y w rfl M a F; (try simp only [List.cons_append, List.nil_append] at M)
 obtain ⟨YA, YC, rfl⟩ := SlOk.form M.h0
 refine s_stWL F M.f5 rfl rfl rfl sz_100_G2 rfl rfl rfl rfl rfl (fun w M => (by (refine pend_skip rfl ?_); (refine pend_skip rfl ?_); exact pend_none)) ?_; (clear M; try clear w); intro w M
 refine s_I F rfl rfl rfl rfl rfl rfl ?_; clear F a; intro a F
 refine t_endM M ?_; (clear M; try clear w); intro w M
 refine wp_ret ?_
 refine rt2 F rfl (by exact rv_a F rfl ag_100_G2 rfl (cells_whole M.h0)) (rv_t F rfl) ?_
 refine ⟨_, .slice YA _ YC, rfl, rfl, ?_⟩
 have M1 : Sep _ _ _ (slR (.slice YA _ YC) _ _ _ _ :: _) := M.f1; replace M := M1; clear M1
 exact Sep.left (m := [_]) M
theorem c103 (c : Chn) (hok : c.over = false → okA c.n c.t c.me c.log.length (headW c.wants) = true) (x : Xv) (w0 : World) (ho : Own w0.heap [wsR x.p c.part.Ps, wsR x.l c.part.L, strR x.g c.log, strR x.w c.wants]) : Cl Try.prog 103 #[xV c x] w0 (RetS [wsR x.p c.part.Ps, wsR x.l c.part.L, strR x.g c.log, strR x.w c.wants] w0 (fun o (y : Xv × Value) => o = .tuple #[xV c.begin y.1, y.2]) fun y => [wsR y.1.p c.begin.part.Ps, wsR y.1.l c.begin.part.L, strR y.1.g c.begin.log, strR y.1.w c.begin.wants, tlR y.2 c.beginO]) := by
 obtain ⟨xp, xl, xg, xw⟩ := x
 dsimp only at ho ⊢
 obtain ⟨PA, PC, rfl⟩ := SlOk.form (ho.ok (wsR xp c.part.Ps) (by simp))
 obtain ⟨LA, LC, rfl⟩ := SlOk.form (ho.ok (wsR xl c.part.L) (by simp))
 obtain ⟨GA, GC, rfl⟩ := SlOk.form (ho.ok (strR xg c.log) (by simp))
 obtain ⟨WA, WC, rfl⟩ := SlOk.form (ho.ok (strR xw c.wants) (by simp))
 cases hov : c.over
 · rw [(begin_more hov).1, (begin_more hov).2]
   refine ⟨(c103b c hov (hok hov) w0 (SlOk.rd (ho.ok (strR (.slice WA c.wants.length WC) c.wants) (by simp)))).out.mono ?_⟩
   rintro _ w' ⟨v, x, e, hp, hc⟩
   have hs := AgrM.start_same c.fresh
   have M := (Sep.frame (m := []) (Sep.start ho) hc).f1.tl.f1.tl
   have M := Fw.Sep.wsC (M.nilT encW 32 5) (show ([] : List Wrd) = c.fresh.start.L from hs.L.symm)
   have M := Fw.Sep.wsC (M.nilT encW 32 5) (show ([] : List Wrd) = c.fresh.start.Ps from hs.Ps.symm)
   refine ⟨v, (⟨nilV, nilV, .slice GA c.log.length GC, .slice WA c.wants.length WC⟩, x), e, hp, ?_⟩
   dsimp only
   refine M.pick ?_; repeat (first | exact PkG.nil | refine PkG.cons 0 rfl rfl ?_ | refine PkG.cons 1 rfl rfl ?_ | refine PkG.cons 2 rfl rfl ?_ | refine PkG.cons 3 rfl rfl ?_ | refine PkG.cons 4 rfl rfl ?_)
 · rw [(begin_over hov).1, (begin_over hov).2]
   refine ⟨(c103a c hov w0).out.mono ?_⟩
   rintro _ w' ⟨v, e, hp, hc⟩
   have M := ((Sep.start ho).quiet hc).nilT encTo 104 6
   refine ⟨v, ((⟨.slice PA c.part.Ps.length PC, .slice LA c.part.L.length LC, .slice GA c.log.length GC, .slice WA c.wants.length WC⟩ : Xv), nilV), e, hp, ?_⟩
   dsimp only
   refine M.pick ?_; repeat (first | exact PkG.nil | refine PkG.cons 0 rfl rfl ?_ | refine PkG.cons 1 rfl rfl ?_ | refine PkG.cons 2 rfl rfl ?_ | refine PkG.cons 3 rfl rfl ?_ | refine PkG.cons 4 rfl rfl ?_)
set_option maxRecDepth 100000 in
set_option maxHeartbeats 4000000 in
theorem c106 (c : Chn) (W : c.Wf) (ho64 : c.over = false) (s : ByteArray) (x : Xv) (w0 : World) (ho : Own w0.heap [wsR x.p c.part.Ps, wsR x.l c.part.L, strR x.g c.log, strR x.w c.wants]) : Cl Try.prog 106 #[xV c x, .string s] w0 (RetS [wsR x.p c.part.Ps, wsR x.l c.part.L, strR x.g c.log, strR x.w c.wants] w0 (fun o (y : Xv × Value) => o = .tuple #[xV (c.dec s) y.1, y.2]) fun y => [wsR y.1.p (c.dec s).part.Ps, wsR y.1.l (c.dec s).part.L, strR y.1.g (c.dec s).log, strR y.1.w (c.dec s).wants, tlR y.2 (c.decO s)]) := by
 obtain ⟨xp, xl, xg, xw⟩ := x
 dsimp only at ho ⊢
 obtain ⟨PA, PC, rfl⟩ := SlOk.form (ho.ok (wsR xp c.part.Ps) (by simp))
 obtain ⟨LA, LC, rfl⟩ := SlOk.form (ho.ok (wsR xl c.part.L) (by simp))
 obtain ⟨GA, GC, rfl⟩ := SlOk.form (ho.ok (strR xg c.log) (by simp))
 obtain ⟨WA, WC, rfl⟩ := SlOk.form (ho.ok (strR xw c.wants) (by simp))
 have hl64 := over_no.1 ho64
 have hwl := W.wl
 have M : Sep (fun b_ => b_ ∈ foots [wsR (.slice PA c.part.Ps.length PC) c.part.Ps, wsR (.slice LA c.part.L.length LC) c.part.L, strR (.slice GA c.log.length GC) c.log, strR (.slice WA c.wants.length WC) c.wants]) w0 w0 _ := Sep.start ho
 refine enter (vs := [_, _]) Try.func106 rfl rfl rfl ?_
 intro a F
 refine wp_seq ?_
 refine wp_region_l [.wr, .wr, .ind] ([0, 1, 2]) rfl ?_
 refine s_bxA F M rfl rfl rfl rfl rfl ?_; (clear F a M; try clear w); intro b2 w M a F
 refine s_alc F M rfl rfl rfl rfl zr_100_G2 rfl ?_; (clear F a M; try clear w); intro b4 w M a F
 refine s_I F rfl rfl rfl rfl rfl rfl ?_; clear F a; intro a F
 refine t_endM M ?_; (clear M; try clear w); intro w M
 refine wp_seq ?_
 refine wp_region_l [.ind, .rd, .wr, .ind, .wr, .wr, .ind, .wr] ([0, 1, 2, 3, 4, 5, 6, 7]) rfl ?_
 refine s_fa0 F rfl rfl rfl rfl fa_100_5_G2 rfl ?_; clear F a; intro a F
 refine s_ld F rfl rfl rfl rfl sc_69_G2 rfl (by exact cell_of_blk M.h1 (lit rfl)) ?_; clear F a; intro a F
 replace M := M.nilT encS 9 1
 refine s_apM (c.log) F M rfl rfl rfl rfl tl_69_G2 rfl rfl (by exact SlOk.rd M.h5) (by intro e; rfl) (by simp; omega) (fun _ _ _ _ => pend_nil) ?_; (clear F a M; try clear w); intro A9 c9 w M a F
 refine s_I F rfl rfl rfl rfl rfl rfl ?_; clear F a; intro a F
 refine s_bs F M rfl rfl rfl rfl (parts1 F rfl) (bs_69_1_G2 _) ?_; (clear F a M; try clear w); intro b11 w M a F
 refine s_apE ((s : ByteArray)) F M.f1 rfl rfl rfl rfl tl_69_G2 rfl rfl (by exact rd_blk M.h0 rfl) rfl (by simp; omega) (fun _ _ _ _ => pend_nil) ?_; (clear F a M; try clear w); intro A12 c12 w M a F
 refine s_fa0 F rfl rfl rfl rfl fa_100_5_G2 rfl ?_; clear F a; intro a F
 refine s_st F M.f3 rfl rfl rfl sz_69_G2 rfl rfl rfl (by exact Nat.le_of_ble_eq_true rfl) ?_; (clear M; try clear w); intro w M
 refine t_endM M ?_; (clear M; try clear w); intro w M
 refine wp_seq ?_
 refine wp_seq ?_
 rw [List.nil_append] at F M
 have M1 : Sep _ _ _ (blk b11 _ :: _) := M.f2; replace M := M1; clear M1
 replace M := M.tl
 have M1 : Sep _ _ _ (slR (.slice GA _ GC) _ _ _ _ :: _) := M.f5; replace M := M1; clear M1
 replace M := M.tl
 replace F := F.keep [0, 1, 2, 4, 5] rfl
 refine wp_region_l [.ind] ([0]) rfl ?_
 refine s_I F rfl rfl rfl rfl rfl rfl ?_; clear F a; intro a F
 refine t_endM M ?_; (clear M; try clear w); intro w M
 refine wp_block ?_
 refine loopX (X := (Int)) F [0, 1, 2, 4, 5] rfl (fun (i : Int) => (0 ≤ i) ∧ (i ≤ c.wants.length) ∧ (∀ y ∈ c.wants.take i.toNat, y ≠ s)) (fun (i : Int) => [(6, .int .i64 i)]) (fun (i : Int) => []) (fun (i : Int) => c.wants.length - i.toNat) (0) M ⟨(by omega), (by omega), (by simp)⟩ (F.keep [6, 0, 1, 2, 4, 5] rfl) ?_
 clear F M; clear a; (try clear w)
 rintro i a w ⟨i0, i1, hn⟩ F M; try dsimp only at F M
 try simp only [List.cons_append, List.nil_append] at F M
 try dsimp only at i0 i1 hn
 refine wp_seq ?_
 refine wp_seq ?_
 refine wp_region_l [.ind, .ind, .rd, .ind, .ind] ([0, 1, 2, 3, 4]) rfl ?_
 refine s_I F rfl rfl rfl rfl rfl rfl ?_; clear F a; intro a F
 refine s_fa0 F rfl rfl rfl rfl fa_100_6_G2 rfl ?_; clear F a; intro a F
 refine s_ld F rfl rfl rfl rfl sc_69_G2 rfl (by exact cell_of_blk M.h0 (lit rfl)) ?_; clear F a; intro a F
 refine s_len F rfl rfl rfl rfl sl_69_G2 rfl ?_; clear F a; intro a F
 refine s_bin F rfl rfl rfl rfl rfl rfl rfl ?_; clear F a; intro a F
 refine t_endM M ?_; (clear M; try clear w); intro w M
 refine c_if F rfl ?_ ?_
 clear F; intro hc0 F
 try rw [hc0] at F
 replace hc0 := of_decide_eq_true hc0
 refine wp_skip ?_
 refine wp_seq ?_
 refine wp_block ?_
 refine wp_seq ?_
 replace F := F.keep [0, 1, 2, 4, 5, 6] rfl
 refine wp_region_l [.ind, .rd, .ind, .ind, .rd, .ind, .ind] ([0, 1, 2, 3, 4, 5, 6]) rfl ?_
 refine s_fa0 F rfl rfl rfl rfl fa_100_6_G2 rfl ?_; clear F a; intro a F
 refine s_ld F rfl rfl rfl rfl sc_69_G2 rfl (by exact cell_of_blk M.h0 (lit rfl)) ?_; clear F a; intro a F
 refine s_I F rfl rfl rfl rfl rfl rfl ?_; clear F a; intro a F
 refine s_ix F rfl rfl rfl rfl sl_69_G2 rfl rfl (by exact SlOk.rd M.h5) (by omega) (by omega) ?_; clear F a; intro e24 he24 a F
 refine s_ld F rfl rfl rfl rfl sc_9_G2 rfl (by exact rdX0 (SlOk.rd M.h5) (by intro e; rfl) he24 rfl) ?_; clear F a; intro a F
 refine s_I F rfl rfl rfl rfl rfl rfl ?_; clear F a; intro a F
 refine s_bin F rfl rfl rfl rfl rfl rfl rfl ?_; clear F a; intro a F
 refine t_endM M ?_; (clear M; try clear w); intro w M
 refine c_if F rfl ?_ ?_
 clear F; intro hc1 F
 try rw [hc1] at F
 replace hc1 := of_decide_eq_true hc1
 refine wp_seq ?_
 replace F := F.keep [0, 1, 2, 4, 5, 6] rfl
 refine wp_region_t [.ind, .rd, .ind, .ind, .wr, .ind, .rd, .ind, .ind, .ind, .wr, .ind, .wr] [(6, 4)] (otOf [0, 1, 2, 3, 5, 6, 7, 8, 9, 4, 10, 11, 12]) mixed (by kernel_rfl) ?_
 refine s_fa0 F rfl rfl rfl rfl fa_100_6_G2 rfl ?_; clear F a; intro a F
 refine s_ldL F rfl rfl rfl rfl sc_69_G2 rfl (by exact cell_of_blk M.h0 (lit rfl)) ?_; clear F a; intro a F
 refine s_I F rfl rfl rfl rfl rfl rfl ?_; clear F a; intro a F
 refine s_slc F rfl rfl rfl rfl sl_69_G2 rfl rfl rfl (by exact SlOk.rd M.h5) (by omega) (by omega) (by omega) ?_; clear F a; intro a F
 refine s_fa0 F rfl rfl rfl rfl fa_100_6_G2 rfl ?_; clear F a; intro a F
 refine s_ldL F rfl rfl rfl rfl sc_69_G2 rfl (by exact cell_of_blk M.h0 (lit rfl)) ?_; clear F a; intro a F
 refine s_I F rfl rfl rfl rfl rfl rfl ?_; clear F a; intro a F
 refine s_add F rfl rfl rfl rfl rfl rfl (by unfold In64; omega) ?_; clear F a; intro a F
 refine s_slc F rfl rfl rfl rfl sl_69_G2 rfl rfl rfl (by exact SlOk.rd M.h5) (by omega) (by omega) (by omega) ?_; clear F a; intro a F
 replace M := M.nilT encS 9 1
 refine s_apM (c.wants.take i.toNat) F M rfl rfl rfl rfl tl_69_G2 rfl rfl (by exact RdSl.pre (SlOk.rd M.h6) (by intro e; rfl) _ (by omega)) (by intro e; rfl) (by simp; omega) (fun A c w M => (by (refine pend_take (by exact cell_of_blk M.h1 (lit rfl)) ?_); (refine pend_skip rfl ?_); exact pend_none)) ?_; (clear F a M; try clear w); intro A32 c32 w M a F
 refine s_apM (c.wants.drop (i + 1).toNat) F M rfl rfl rfl rfl tl_69_G2 rfl rfl (by exact RdSl.suf (SlOk.rd M.h6) (by intro e; rfl) _ (by omega)) (by intro e; rfl) (by simp; omega) (fun A c w M => (by (refine pend_skip rfl ?_); (refine pend_skip rfl ?_); exact pend_none)) ?_; (clear F a M; try clear w); intro A38 c38 w M a F
 refine s_fa0 F rfl rfl rfl rfl fa_100_6_G2 rfl ?_; clear F a; intro a F
 refine s_stL F M.f1 rfl rfl rfl sz_69_G2 rfl rfl rfl (by exact Nat.le_of_ble_eq_true rfl) (fun w M => (by (refine pend_skip rfl ?_); (refine pend_skip rfl ?_); exact pend_none)) ?_; (clear M; try clear w); intro w M
 refine t_endM M ?_; (clear M; try clear w); intro w M
 refine wp_exit ?_
 refine wp_seq ?_
 rw [List.nil_append, show (i + 1).toNat = i.toNat + 1 by omega, rid_at (by rw [he24]; exact congrArg some (by assumption)) hn] at F M
 replace F := F.keep [0, 1, 2, 4, 5, 6] rfl
 refine wp_region_l [.rd, .wr, .ind, .ind, .wr, .ind] ([0, 1, 2, 3, 4, 5]) rfl ?_
 refine s_lda F rfl rfl rfl rfl ag_100_G2 rfl rfl (cells_whole M.h0) ?_; clear F a; intro a F
 have M1 : Sep _ _ _ (strR (.slice A38 (ridB c.wants s).length c38) _ :: _) := M.f1; replace M := M1; clear M1
 have M1 : Sep _ _ _ (slR (.slice A12 _ c12) _ _ _ _ :: _) := M.f2; replace M := M1; clear M1
 have M1 : Sep _ _ _ (slR (.slice LA _ LC) _ _ _ _ :: _) := M.f5; replace M := M1; clear M1
 have M1 : Sep _ _ _ (slR (.slice PA _ PC) _ _ _ _ :: _) := M.f5; replace M := M1; clear M1
 refine s_call (m := [_, _, _, _]) F M rfl rfl rfl rfl rfl (rfl : _ = some [_]) cb_103_G2 (fun nd_ => c103 (c.laid s) (fun _ => (W.laid ho64 s).ok) ⟨.slice PA c.part.Ps.length PC, .slice LA c.part.L.length LC, .slice A12 (c.log ++ [s]).length c12, (.slice A38 (ridB c.wants s).length c38)⟩ _ (Own.left (m := [_, _, _, _]) (M.drewN nd_).own)) ?_; (clear F a M; try clear w); rintro v y w rfl M a F; (try simp only [List.cons_append, List.nil_append] at M)
 obtain ⟨⟨yp, yl, yg, yw⟩, yo⟩ := y
 dsimp only at M F
 obtain ⟨YPA, YPC, rfl⟩ := SlOk.form M.h0
 obtain ⟨YLA, YLC, rfl⟩ := SlOk.form M.h1
 obtain ⟨YGA, YGC, rfl⟩ := SlOk.form M.h2
 obtain ⟨YWA, YWC, rfl⟩ := SlOk.form M.h3
 obtain ⟨YOA, YOC, rfl⟩ := SlOk.form M.h4
 refine s_I F rfl rfl rfl rfl rfl rfl ?_; clear F a; intro a F
 refine s_I F rfl rfl rfl rfl rfl rfl ?_; clear F a; intro a F
 have M1 : Sep _ _ _ (blk b4 _ :: _) := M.f6; replace M := M1; clear M1
 refine s_stW F M rfl rfl rfl sz_100_G2 rfl rfl rfl rfl rfl ?_; (clear M; try clear w); intro w M
 refine s_I F rfl rfl rfl rfl rfl rfl ?_; clear F a; intro a F
 refine t_endM M ?_; (clear M; try clear w); intro w M
 refine wp_ret ?_
 refine rt2 F rfl (by exact rv_a F rfl ag_100_G2 rfl (cells_whole M.h0)) (rv_t F rfl) ?_
 refine ⟨_, (⟨.slice YPA (c.dec s).part.Ps.length YPC, .slice YLA (c.dec s).part.L.length YLC, .slice YGA (c.dec s).log.length YGC, .slice YWA (c.dec s).wants.length YWC⟩, .slice YOA (c.decO s).length YOC), rfl, rfl, ?_⟩
 dsimp only
 refine M.pick ?_; repeat (first | exact PkG.nil | refine PkG.cons 1 rfl rfl ?_ | refine PkG.cons 2 rfl rfl ?_ | refine PkG.cons 3 rfl rfl ?_ | refine PkG.cons 4 rfl rfl ?_ | refine PkG.cons 5 rfl rfl ?_)
 clear F; intro hc2 F
 try rw [hc2] at F
 replace hc2 := of_decide_eq_false hc2
 refine wp_skip ?_
 replace F := F.keep [0, 1, 2, 4, 5, 6] rfl
 refine wp_region_l [.ind, .ind, .ind] ([0, 1, 2]) rfl ?_
 refine s_I F rfl rfl rfl rfl rfl rfl ?_; clear F a; intro a F
 refine s_add F rfl rfl rfl rfl rfl rfl (by unfold In64; omega) ?_; clear F a; intro a F
 refine s_I F rfl rfl rfl rfl rfl rfl ?_; clear F a; intro a F
 refine t_endM M ?_; (clear M; try clear w); intro w M
 refine again (i + 1) (by show _ < _; (try dsimp only); omega) ⟨(by omega), (by assumption), (by rw [show (i + 1).toNat = i.toNat + 1 by omega]; exact take_next hn he24 (by assumption))⟩ (F.keep [6, 0, 1, 2, 4, 5] rfl) ?_
 try dsimp only [List.cons_append, List.nil_append]
 refine M.pick ?_; repeat (first | exact PkG.nil | refine PkG.cons 0 rfl rfl ?_ | refine PkG.cons 1 rfl rfl ?_ | refine PkG.cons 2 rfl rfl ?_ | refine PkG.cons 3 rfl rfl ?_ | refine PkG.cons 4 rfl rfl ?_ | refine PkG.cons 5 rfl rfl ?_)
 clear F; intro hc3 F
 try rw [hc3] at F
 replace hc3 := of_decide_eq_false hc3
 rw [take_all (by omega)] at hn
 have M1 : Sep _ _ _ (slR (.slice WA _ WC) _ _ _ _ :: _) := M.f5; replace M := M1; clear M1
 replace M := Fw.Sep.stC (v := .slice WA c.wants.length WC) M (rid_off hn)
 refine wp_exit ?_
 refine wp_seq ?_
 skip
 replace F := F.keep [0, 1, 2, 4, 5, 6] rfl
 refine wp_region_l [.rd, .wr, .ind, .ind, .wr, .ind] ([0, 1, 2, 3, 4, 5]) rfl ?_
 refine s_lda F rfl rfl rfl rfl ag_100_G2 rfl rfl (cells_whole M.h1) ?_; clear F a; intro a F
 have M1 : Sep _ _ _ (strR (.slice WA c.wants.length WC) _ :: _) := M; replace M := M1; clear M1
 have M1 : Sep _ _ _ (slR (.slice A12 _ c12) _ _ _ _ :: _) := M.f2; replace M := M1; clear M1
 have M1 : Sep _ _ _ (slR (.slice LA _ LC) _ _ _ _ :: _) := M.f5; replace M := M1; clear M1
 have M1 : Sep _ _ _ (slR (.slice PA _ PC) _ _ _ _ :: _) := M.f5; replace M := M1; clear M1
 refine s_call (m := [_, _, _, _]) F M rfl rfl rfl rfl rfl (rfl : _ = some [_]) cb_103_G2 (fun nd_ => c103 (c.laid s) (fun _ => (W.laid ho64 s).ok) ⟨.slice PA c.part.Ps.length PC, .slice LA c.part.L.length LC, .slice A12 (c.log ++ [s]).length c12, (.slice WA c.wants.length WC)⟩ _ (Own.left (m := [_, _, _, _]) (M.drewN nd_).own)) ?_; (clear F a M; try clear w); rintro v y w rfl M a F; (try simp only [List.cons_append, List.nil_append] at M)
 obtain ⟨⟨yp, yl, yg, yw⟩, yo⟩ := y
 dsimp only at M F
 obtain ⟨YPA, YPC, rfl⟩ := SlOk.form M.h0
 obtain ⟨YLA, YLC, rfl⟩ := SlOk.form M.h1
 obtain ⟨YGA, YGC, rfl⟩ := SlOk.form M.h2
 obtain ⟨YWA, YWC, rfl⟩ := SlOk.form M.h3
 obtain ⟨YOA, YOC, rfl⟩ := SlOk.form M.h4
 refine s_I F rfl rfl rfl rfl rfl rfl ?_; clear F a; intro a F
 refine s_I F rfl rfl rfl rfl rfl rfl ?_; clear F a; intro a F
 have M1 : Sep _ _ _ (blk b4 _ :: _) := M.f6; replace M := M1; clear M1
 refine s_stW F M rfl rfl rfl sz_100_G2 rfl rfl rfl rfl rfl ?_; (clear M; try clear w); intro w M
 refine s_I F rfl rfl rfl rfl rfl rfl ?_; clear F a; intro a F
 refine t_endM M ?_; (clear M; try clear w); intro w M
 refine wp_ret ?_
 refine rt2 F rfl (by exact rv_a F rfl ag_100_G2 rfl (cells_whole M.h0)) (rv_t F rfl) ?_
 refine ⟨_, (⟨.slice YPA (c.dec s).part.Ps.length YPC, .slice YLA (c.dec s).part.L.length YLC, .slice YGA (c.dec s).log.length YGC, .slice YWA (c.dec s).wants.length YWC⟩, .slice YOA (c.decO s).length YOC), rfl, rfl, ?_⟩
 dsimp only
 refine M.pick ?_; repeat (first | exact PkG.nil | refine PkG.cons 1 rfl rfl ?_ | refine PkG.cons 2 rfl rfl ?_ | refine PkG.cons 3 rfl rfl ?_ | refine PkG.cons 4 rfl rfl ?_ | refine PkG.cons 5 rfl rfl ?_)
end Go.Proofs.Ytboibdmflblphaa
