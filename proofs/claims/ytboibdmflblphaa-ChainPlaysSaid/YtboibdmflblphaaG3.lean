/- G3 of the seat. -/
import Derived.Test.YtboibdmflblphaaG2
namespace Go.Proofs.Ytboibdmflblphaa
open Go Fw
theorem zr_100_G3 : zeroB Try.prog 100 = some (.agg #[.int .i64 0, .int .i64 0, .int .i64 0, .bool false, .int .i64 0, .int .i64 0, .string { data := #[] }, .int .i64 0, .int .i64 0, .string { data := #[] }, .int .i64 0, .string { data := #[] }, .int .i64 0, .slice none 0 0, .int .i64 0, .int .i64 0, .slice none 0 0, .bool false, .bool false, .string { data := #[] }, .slice none 0 0, .slice none 0 0]) := by kernel_rfl
theorem fa_100_3_G3 : FA Try.prog 100 3 3 := fun _ _ _ => by kernel_rfl
theorem sc_4_G3 : scalB Try.prog 4 = true := by kernel_rfl
theorem ag_100_G3 : aggB Try.prog 100 = some 22 := by kernel_rfl
theorem sz_100_G3 : sizeB Try.prog 100 = some 22 := by kernel_rfl
theorem fa_100_5_G3 : FA Try.prog 100 5 20 := fun _ _ _ => by kernel_rfl
theorem sc_69_G3 : scalB Try.prog 69 = true := by kernel_rfl
theorem sl_69_G3 : slcB Try.prog 69 = some (9, 1) := by kernel_rfl
theorem fa_100_4_G3 : FA Try.prog 100 4 4 := fun _ _ _ => by kernel_rfl
theorem ag_53_G3 : aggB Try.prog 53 = some 16 := by kernel_rfl
theorem ag_32_G3 : aggB Try.prog 32 = some 5 := by kernel_rfl
theorem cb_45_G3 : callB Try.prog 45 = true := by kernel_rfl
theorem zr_53_G3 : zeroB Try.prog 53 = some (.agg #[.int .i64 0, .int .i64 0, .string { data := #[] }, .int .i64 0, .int .i64 0, .string { data := #[] }, .int .i64 0, .string { data := #[] }, .int .i64 0, .slice none 0 0, .int .i64 0, .int .i64 0, .slice none 0 0, .bool false, .bool false, .string { data := #[] }]) := by kernel_rfl
theorem sz_53_G3 : sizeB Try.prog 53 = some 16 := by kernel_rfl
theorem cb_122_G3 : callB Try.prog 122 = true := by kernel_rfl
theorem fa_53_12_G3 : FA Try.prog 53 12 14 := fun _ _ _ => by kernel_rfl
theorem fa_53_13_G3 : FA Try.prog 53 13 15 := fun _ _ _ => by kernel_rfl
theorem sc_9_G3 : scalB Try.prog 9 = true := by kernel_rfl
theorem cb_106_G3 : callB Try.prog 106 = true := by kernel_rfl
theorem tl_92_G3 : SlT Try.prog 92 104 6 56 (.agg #[.int .i64 0, .int .i64 0, .int .i64 0, .int .i64 0, .int .i64 0, .string { data := #[] }]) := ⟨by kernel_rfl, by kernel_rfl, by kernel_rfl, by kernel_rfl, by decide⟩
theorem sz_4_G3 : sizeB Try.prog 4 = some 1 := by kernel_rfl
theorem cb_103_G3 : callB Try.prog 103 = true := by kernel_rfl
theorem fa_104_0_G3 : FA Try.prog 104 0 0 := fun _ _ _ => by kernel_rfl
theorem sc_3_G3 : scalB Try.prog 3 = true := by kernel_rfl
theorem fa_104_1_G3 : FA Try.prog 104 1 1 := fun _ _ _ => by kernel_rfl
theorem fa_32_0_G3 : FA Try.prog 32 0 0 := fun _ _ _ => by kernel_rfl
theorem cb_104_G3 : callB Try.prog 104 = true := by kernel_rfl
theorem fa_53_3_G3 : FA Try.prog 53 3 3 := fun _ _ _ => by kernel_rfl
theorem bl_32_0_2_3_G3 : ∀ (x0 : Int) (x2 : Int) (x3 : Int), ∀ w : World, (Instr.build 32 #[(0, .int .i64 x0), (2, .int .i64 x2), (3, .int .i64 x3)]).run Try.prog w = .ok (.agg #[.int .i64 x0, .int .i64 0, .int .i64 x2, .int .i64 x3, .string { data := #[] }]) w := by intros; kernel_rfl
open VoteM AgrM CouM ChnM
set_option maxRecDepth 100000 in
set_option maxHeartbeats 400000 in
theorem c104n (c : Chn) (hn : c.begun = false ∨ c.over = true) (q : Wrd) {PA LA GA WA : Option Addr} {pn pc ln lc GC WC : Nat} (w0 : World) : Cl Try.prog 104 #[cV c (.slice PA pn pc) (.slice LA ln lc) (.slice GA c.log.length GC) (.slice WA c.wants.length WC), wrdV q] w0 (RetQ w0 fun o => o = .tuple #[cV c (.slice PA pn pc) (.slice LA ln lc) (.slice GA c.log.length GC) (.slice WA c.wants.length WC), nilV]) := by
 have M : Sep (fun _ => False) w0 w0 _ := Sep.nil _ w0
 refine enter (vs := [_, _]) Try.func104 rfl rfl rfl ?_
 intro a F
 refine wp_seq ?_
 refine wp_region_l [.wr, .wr, .wr, .ind] ([0, 1, 2, 3]) rfl ?_
 refine s_bxA F M rfl rfl rfl rfl rfl ?_; (clear F a M; try clear w); intro b2 w M a F
 refine s_bxA F M rfl rfl rfl rfl rfl ?_; (clear F a M; try clear w); intro b3 w M a F
 refine s_alc F M rfl rfl rfl rfl zr_100_G3 rfl ?_; (clear F a M; try clear w); intro b4 w M a F
 refine s_I F rfl rfl rfl rfl rfl rfl ?_; clear F a; intro a F
 refine t_endM M ?_; (clear M; try clear w); intro w M
 refine wp_seq ?_
 refine wp_seq ?_
 refine wp_region_l [.ind, .rd, .ind, .ind, .ind, .rd, .ind, .ind, .ind] ([0, 1, 2, 3, 4, 5, 6, 7, 8]) rfl ?_
 refine s_fa0 F rfl rfl rfl rfl fa_100_3_G3 rfl ?_; clear F a; intro a F
 refine s_ld F rfl rfl rfl rfl sc_4_G3 rfl (by exact cell_of_blk M.h2 (lit rfl)) ?_; clear F a; intro a F
 refine s_I F rfl rfl rfl rfl rfl rfl ?_; clear F a; intro a F
 refine s_I F rfl rfl rfl rfl rfl rfl ?_; clear F a; intro a F
 refine bsplit F 14 rfl ?_ ?_
 clear F; intro hc0 F
 try rw [hc0] at F
 replace hc0 := nt hc0
 refine s_no F rfl rfl rfl rfl ?_; clear F a; intro a F
 refine s_no F rfl rfl rfl rfl ?_; clear F a; intro a F
 refine s_no F rfl rfl rfl rfl ?_; clear F a; intro a F
 refine s_no F rfl rfl rfl rfl ?_; clear F a; intro a F
 refine s_I F rfl rfl rfl rfl rfl rfl ?_; clear F a; intro a F
 refine t_endM M ?_; (clear M; try clear w); intro w M
 refine c_t F rfl ?_
 refine wp_seq ?_
 replace F := F.keep [0, 1, 2, 3, 4, 5] rfl
 refine wp_region_l [.rd, .wr, .ind] ([0, 1, 2]) rfl ?_
 refine s_lda F rfl rfl rfl rfl ag_100_G3 rfl rfl (cells_whole M.h2) ?_; clear F a; intro a F
 refine s_stW F M rfl rfl rfl sz_100_G3 rfl rfl rfl rfl rfl ?_; (clear M; try clear w); intro w M
 refine s_I F rfl rfl rfl rfl rfl rfl ?_; clear F a; intro a F
 refine t_endM M ?_; (clear M; try clear w); intro w M
 refine wp_ret ?_
 refine rt2 F rfl (by exact rv_a F rfl ag_100_G3 rfl (cells_whole M.h0)) (rv_t F rfl) ?_
 exact ⟨_, rfl, rfl, M.chg⟩
 clear F; intro hc1 F
 try rw [hc1] at F
 replace hc1 := nf hc1
 refine s_fa0 F rfl rfl rfl rfl fa_100_5_G3 rfl ?_; clear F a; intro a F
 refine s_ld F rfl rfl rfl rfl sc_69_G3 rfl (by exact cell_of_blk M.h2 (lit rfl)) ?_; clear F a; intro a F
 refine s_len F rfl rfl rfl rfl sl_69_G3 rfl ?_; clear F a; intro a F
 refine s_bin F rfl rfl rfl rfl rfl rfl rfl ?_; clear F a; intro a F
 refine s_I F rfl rfl rfl rfl rfl rfl ?_; clear F a; intro a F
 refine t_endM M ?_; (clear M; try clear w); intro w M
 refine c_if F rfl ?_ ?_
 clear F; intro hc2 F
 try rw [hc2] at F
 replace hc2 := of_decide_eq_true hc2
 refine wp_seq ?_
 replace F := F.keep [0, 1, 2, 3, 4, 5] rfl
 refine wp_region_l [.rd, .wr, .ind] ([0, 1, 2]) rfl ?_
 refine s_lda F rfl rfl rfl rfl ag_100_G3 rfl rfl (cells_whole M.h2) ?_; clear F a; intro a F
 refine s_stW F M rfl rfl rfl sz_100_G3 rfl rfl rfl rfl rfl ?_; (clear M; try clear w); intro w M
 refine s_I F rfl rfl rfl rfl rfl rfl ?_; clear F a; intro a F
 refine t_endM M ?_; (clear M; try clear w); intro w M
 refine wp_ret ?_
 refine rt2 F rfl (by exact rv_a F rfl ag_100_G3 rfl (cells_whole M.h0)) (rv_t F rfl) ?_
 exact ⟨_, rfl, rfl, M.chg⟩
 clear F; intro hc3 F
 try rw [hc3] at F
 replace hc3 := of_decide_eq_false hc3
 exfalso
 rcases hn with hn | hn
 · exact absurd hn (by rw [show c.begun = true by assumption]; decide)
 · exact absurd hn (by rw [over_no.2 (by omega)]; decide)
set_option maxRecDepth 100000 in
set_option maxHeartbeats 4000000 in
theorem c104y (c : Chn) (W : c.Wf) (hcb : c.begun = true) (hco : c.over = false) (q : Wrd) (s1 : ASt) (o1 : List Wrd) (hT : c.part.take q = (s1, o1)) (x : Xv) (w0 : World) (ho : Own w0.heap [wsR x.p c.part.Ps, wsR x.l c.part.L, strR x.g c.log, strR x.w c.wants]) : Cl Try.prog 104 #[xV c x, wrdV q] w0 (RetS [wsR x.p c.part.Ps, wsR x.l c.part.L, strR x.g c.log, strR x.w c.wants] w0 (fun o (y : Xv × Value) => o = .tuple #[xV (c.put s1).next y.1, y.2]) fun y => [wsR y.1.p (c.put s1).next.part.Ps, wsR y.1.l (c.put s1).next.part.L, strR y.1.g (c.put s1).next.log, strR y.1.w (c.put s1).next.wants, tlR y.2 ((c.put s1).nextO (tallsO c.log.length o1))]) := by
 obtain ⟨xp, xl, xg, xw⟩ := x
 dsimp only at ho ⊢
 obtain ⟨PA, PC, rfl⟩ := SlOk.form (ho.ok (wsR xp c.part.Ps) (by simp))
 obtain ⟨LA, LC, rfl⟩ := SlOk.form (ho.ok (wsR xl c.part.L) (by simp))
 obtain ⟨GA, GC, rfl⟩ := SlOk.form (ho.ok (strR xg c.log) (by simp))
 obtain ⟨WA, WC, rfl⟩ := SlOk.form (ho.ok (strR xw c.wants) (by simp))
 have htl := take_len (W.p hcb) q
 rw [hT] at htl
 dsimp only at htl
 have htl2 := tallsO_len (h := c.log.length) (l := o1)
 have hWa : s1.Wf := by have := (take_wf (W.p hcb) q).1; rw [hT] at this; exact this
 have M : Sep (fun b_ => b_ ∈ foots [wsR (.slice PA c.part.Ps.length PC) c.part.Ps, wsR (.slice LA c.part.L.length LC) c.part.L, strR (.slice GA c.log.length GC) c.log, strR (.slice WA c.wants.length WC) c.wants]) w0 w0 _ := Sep.start ho
 refine enter (vs := [_, _]) Try.func104 rfl rfl rfl ?_
 intro a F
 refine wp_seq ?_
 refine wp_region_l [.wr, .wr, .wr, .ind] ([0, 1, 2, 3]) rfl ?_
 refine s_bxA F M rfl rfl rfl rfl rfl ?_; (clear F a M; try clear w); intro b2 w M a F
 refine s_bxA F M rfl rfl rfl rfl rfl ?_; (clear F a M; try clear w); intro b3 w M a F
 refine s_alc F M rfl rfl rfl rfl zr_100_G3 rfl ?_; (clear F a M; try clear w); intro b4 w M a F
 refine s_I F rfl rfl rfl rfl rfl rfl ?_; clear F a; intro a F
 refine t_endM M ?_; (clear M; try clear w); intro w M
 refine wp_seq ?_
 refine wp_seq ?_
 refine wp_region_l [.ind, .rd, .ind, .ind, .ind, .rd, .ind, .ind, .ind] ([0, 1, 2, 3, 4, 5, 6, 7, 8]) rfl ?_
 refine s_fa0 F rfl rfl rfl rfl fa_100_3_G3 rfl ?_; clear F a; intro a F
 refine s_ld F rfl rfl rfl rfl sc_4_G3 rfl (by exact cell_of_blk M.h2 (lit rfl)) ?_; clear F a; intro a F
 refine s_I F rfl rfl rfl rfl rfl rfl ?_; clear F a; intro a F
 refine s_I F rfl rfl rfl rfl rfl rfl ?_; clear F a; intro a F
 refine bsplit F 14 rfl ?_ ?_
 clear F; intro hc0 F
 try rw [hc0] at F
 replace hc0 := nt hc0
 exact absurd hcb (by rw [show c.begun = false by assumption]; decide)
 clear F; intro hc1 F
 try rw [hc1] at F
 replace hc1 := nf hc1
 refine s_fa0 F rfl rfl rfl rfl fa_100_5_G3 rfl ?_; clear F a; intro a F
 refine s_ld F rfl rfl rfl rfl sc_69_G3 rfl (by exact cell_of_blk M.h2 (lit rfl)) ?_; clear F a; intro a F
 refine s_len F rfl rfl rfl rfl sl_69_G3 rfl ?_; clear F a; intro a F
 refine s_bin F rfl rfl rfl rfl rfl rfl rfl ?_; clear F a; intro a F
 refine s_I F rfl rfl rfl rfl rfl rfl ?_; clear F a; intro a F
 refine t_endM M ?_; (clear M; try clear w); intro w M
 refine c_if F rfl ?_ ?_
 clear F; intro hc2 F
 try rw [hc2] at F
 replace hc2 := of_decide_eq_true hc2
 exfalso
 have := over_no.1 hco
 omega
 clear F; intro hc3 F
 try rw [hc3] at F
 replace hc3 := of_decide_eq_false hc3
 refine wp_skip ?_
 refine wp_seq ?_
 replace F := F.keep [0, 1, 2, 3, 4, 5] rfl
 refine wp_region_l [.ind, .rd, .rd, .wr, .ind, .ind, .ind, .wr, .wr, .ind] ([0, 1, 2, 3, 4, 5, 6, 7, 8, 9]) rfl ?_
 refine s_fa0 F rfl rfl rfl rfl fa_100_4_G3 rfl ?_; clear F a; intro a F
 refine s_lda F rfl rfl rfl rfl ag_53_G3 rfl rfl (cC_A M.h2) ?_; clear F a; intro a F
 refine s_lda F rfl rfl rfl rfl ag_32_G3 rfl rfl (cells_whole M.h1) ?_; clear F a; intro a F
 have M1 : Sep _ _ _ (slR (.slice LA _ LC) _ _ _ _ :: _) := M.f4; replace M := M1; clear M1
 have M1 : Sep _ _ _ (slR (.slice PA _ PC) _ _ _ _ :: _) := M.f4; replace M := M1; clear M1
 refine s_call (m := [_, _]) F M rfl rfl rfl rfl rfl (rfl : _ = some [_, _]) cb_45_G3 (fun nd_ => c45r c.part (W.p hcb) q _ _ _ (Own.left (m := [_, _]) (M.drewN nd_).own)) ?_; (clear F a M; try clear w); rintro v x w rfl M a F; (try simp only [List.cons_append, List.nil_append] at M)
 obtain ⟨PV2, LV2, ov⟩ := x
 rw [hT] at M F
 dsimp only at M F
 obtain ⟨P2A, P2C, rfl⟩ := SlOk.form M.h0
 obtain ⟨L2A, L2C, rfl⟩ := SlOk.form M.h1
 obtain ⟨OA, OC, rfl⟩ := SlOk.form M.h2
 refine s_I F rfl rfl rfl rfl rfl rfl ?_; clear F a; intro a F
 refine s_I F rfl rfl rfl rfl rfl rfl ?_; clear F a; intro a F
 refine s_I F rfl rfl rfl rfl rfl rfl ?_; clear F a; intro a F
 refine s_alc F M rfl rfl rfl rfl zr_53_G3 rfl ?_; (clear F a M; try clear w); intro b6 w M a F
 refine s_stW F M rfl rfl rfl sz_53_G3 rfl rfl rfl rfl rfl ?_; (clear M; try clear w); intro w M
 refine s_I F rfl rfl rfl rfl rfl rfl ?_; clear F a; intro a F
 refine t_endM M ?_; (clear M; try clear w); intro w M
 refine wp_seq ?_
 replace F := F.keep [0, 1, 2, 3, 4, 5, 6, 7] rfl
 refine wp_region_l [.rd, .ind, .wr] ([0, 1, 2]) rfl ?_
 refine s_lda F rfl rfl rfl rfl ag_53_G3 rfl rfl (cells_whole M.h0) ?_; clear F a; intro a F
 refine s_fa0 F rfl rfl rfl rfl fa_100_4_G3 rfl ?_; clear F a; intro a F
 have M1 : Sep _ _ _ (blk b2 _ :: _) := M.f6; replace M := M1; clear M1
 refine s_sta F M rfl rfl rfl sz_53_G3 rfl rfl rfl rfl (by exact Nat.le_of_ble_eq_true rfl) ?_; (clear M; try clear w); intro w M
 refine t_endM M ?_; (clear M; try clear w); intro w M
 refine wp_seq ?_
 have M1 : Sep _ _ _ (blk b2 _ :: _) := M; replace M := M1; clear M1
 replace M := Fw.Sep.blkC M (cC_put c s1 _ _ _ _ _ _)
 replace F := F.keep [0, 1, 2, 3, 4, 5, 6, 7] rfl
 refine wp_region_l [.ind, .rd, .ind, .ind, .wr, .ind] ([0, 1, 2, 3, 4, 5]) rfl ?_
 refine s_fa0 F rfl rfl rfl rfl fa_100_5_G3 rfl ?_; clear F a; intro a F
 refine s_ld F rfl rfl rfl rfl sc_69_G3 rfl (by exact cell_of_blk M.h0 (lit rfl)) ?_; clear F a; intro a F
 refine s_len F rfl rfl rfl rfl sl_69_G3 rfl ?_; clear F a; intro a F
 refine s_I F rfl rfl rfl rfl rfl rfl ?_; clear F a; intro a F
 refine s_call (m := []) F M rfl rfl rfl rfl rfl (rfl : _ = some [_, _]) cb_122_G3 (fun nd_ => c122 c.log.length o1 (by omega) _ _ (by exact SlOk.rd M.h4)) ?_; (clear F a M; try clear w); rintro v z w rfl M a F; (try simp only [List.cons_append, List.nil_append] at M)
 obtain ⟨TA, TC, rfl⟩ := SlOk.form M.h0
 refine s_I F rfl rfl rfl rfl rfl rfl ?_; clear F a; intro a F
 refine t_endM M ?_; (clear M; try clear w); intro w M
 refine wp_seq ?_
 refine wp_seq ?_
 have M1 : Sep _ _ _ (slR (.slice OA _ OC) _ _ _ _ :: _) := M.f5; replace M := M1; clear M1
 replace M := M.tl
 have M1 : Sep _ _ _ (blk b3 _ :: _) := M.f6; replace M := M1; clear M1
 replace M := M.tl
 replace F := F.keep [0, 1, 2, 3, 4, 5, 6, 7, 8] rfl
 refine wp_region_l [.ind, .rd, .ind] ([0, 1, 2]) rfl ?_
 refine s_fa0 F rfl rfl rfl rfl fa_53_12_G3 rfl ?_; clear F a; intro a F
 refine s_ld F rfl rfl rfl rfl sc_4_G3 rfl (by exact cell_of_blk M.h2 (lit rfl)) ?_; clear F a; intro a F
 refine s_I F rfl rfl rfl rfl rfl rfl ?_; clear F a; intro a F
 refine t_endM M ?_; (clear M; try clear w); intro w M
 refine c_if F rfl ?_ ?_
 clear F; intro hc4 F
 try rw [hc4] at F
 replace hc4 := nt hc4
 have hd : s1.done = false := by assumption
 refine wp_seq ?_
 replace F := F.keep [0, 1, 2, 3, 4, 5, 6, 7, 8] rfl
 refine wp_region_l [.rd, .ind, .wr, .ind] ([0, 1, 2, 3]) rfl ?_
 refine s_lda F rfl rfl rfl rfl ag_100_G3 rfl rfl (cells_whole M.h1) ?_; clear F a; intro a F
 refine s_I F rfl rfl rfl rfl rfl rfl ?_; clear F a; intro a F
 refine s_stW F M.f5 rfl rfl rfl sz_100_G3 rfl rfl rfl rfl rfl ?_; (clear M; try clear w); intro w M
 refine s_I F rfl rfl rfl rfl rfl rfl ?_; clear F a; intro a F
 refine t_endM M ?_; (clear M; try clear w); intro w M
 refine wp_ret ?_
 refine rt2 F rfl (by exact rv_a F rfl ag_100_G3 rfl (cells_whole M.h0)) (rv_t F rfl) ?_
 rw [(next_no (c := c.put s1) (out := tallsO c.log.length o1) hd).1, (next_no (c := c.put s1) (out := tallsO c.log.length o1) hd).2]
 refine ⟨_, (⟨.slice P2A s1.Ps.length P2C, .slice L2A s1.L.length L2C, .slice GA c.log.length GC, .slice WA c.wants.length WC⟩, .slice TA (tallsO c.log.length o1).length TC), rfl, rfl, ?_⟩
 dsimp only
 refine M.pick ?_; repeat (first | exact PkG.nil | refine PkG.cons 1 rfl rfl ?_ | refine PkG.cons 4 rfl rfl ?_ | refine PkG.cons 5 rfl rfl ?_ | refine PkG.cons 6 rfl rfl ?_ | refine PkG.cons 7 rfl rfl ?_)
 clear F; intro hc5 F
 try rw [hc5] at F
 replace hc5 := nf hc5
 have hd : s1.done = true := by assumption
 have hdl := decO_len (c.put s1) s1.dec
 refine wp_skip ?_
 refine wp_seq ?_
 replace F := F.keep [0, 1, 2, 3, 4, 5, 6, 7, 8] rfl
 refine wp_region_l [.rd, .ind, .rd, .wr, .ind, .ind, .ind, .wr, .wr, .ind] ([0, 1, 2, 3, 4, 5, 6, 7, 8, 9]) rfl ?_
 refine s_lda F rfl rfl rfl rfl ag_100_G3 rfl rfl (cells_whole M.h1) ?_; clear F a; intro a F
 refine s_fa0 F rfl rfl rfl rfl fa_53_13_G3 rfl ?_; clear F a; intro a F
 refine s_ld F rfl rfl rfl rfl sc_9_G3 rfl (by exact cell_of_blk M.h2 (lit rfl)) ?_; clear F a; intro a F
 have M1 : Sep _ _ _ (slR (.slice WA _ WC) _ _ _ _ :: _) := M.f7; replace M := M1; clear M1
 have M1 : Sep _ _ _ (slR (.slice GA _ GC) _ _ _ _ :: _) := M.f7; replace M := M1; clear M1
 have M1 : Sep _ _ _ (slR (.slice L2A _ L2C) _ _ _ _ :: _) := M.f6; replace M := M1; clear M1
 have M1 : Sep _ _ _ (slR (.slice P2A _ P2C) _ _ _ _ :: _) := M.f6; replace M := M1; clear M1
 refine s_call (m := [_, _, _, _]) F M rfl rfl rfl rfl rfl (rfl : _ = some [_, _]) cb_106_G3 (fun nd_ => c106 (c.put s1) (W.put hWa) hco s1.dec ⟨.slice P2A s1.Ps.length P2C, .slice L2A s1.L.length L2C, .slice GA c.log.length GC, .slice WA c.wants.length WC⟩ _ (Own.left (m := [_, _, _, _]) (M.drewN nd_).own)) ?_; (clear F a M; try clear w); rintro v y w rfl M a F; (try simp only [List.cons_append, List.nil_append] at M)
 obtain ⟨⟨yp, yl, yg, yw⟩, yo⟩ := y
 dsimp only at M F
 obtain ⟨YPA, YPC, rfl⟩ := SlOk.form M.h0
 obtain ⟨YLA, YLC, rfl⟩ := SlOk.form M.h1
 obtain ⟨YGA, YGC, rfl⟩ := SlOk.form M.h2
 obtain ⟨YWA, YWC, rfl⟩ := SlOk.form M.h3
 obtain ⟨YOA, YOC, rfl⟩ := SlOk.form M.h4
 refine s_I F rfl rfl rfl rfl rfl rfl ?_; clear F a; intro a F
 refine s_I F rfl rfl rfl rfl rfl rfl ?_; clear F a; intro a F
 refine s_I F rfl rfl rfl rfl rfl rfl ?_; clear F a; intro a F
 refine s_alc F M rfl rfl rfl rfl zr_100_G3 rfl ?_; (clear F a M; try clear w); intro b9 w M a F
 have M1 : Sep _ _ _ (blk b9 _ :: _) := M; replace M := M1; clear M1
 refine s_stW F M rfl rfl rfl sz_100_G3 rfl rfl rfl rfl rfl ?_; (clear M; try clear w); intro w M
 refine s_I F rfl rfl rfl rfl rfl rfl ?_; clear F a; intro a F
 refine t_endM M ?_; (clear M; try clear w); intro w M
 refine wp_seq ?_
 have M1 : Sep _ _ _ (blk b2 _ :: _) := M.f7; replace M := M1; clear M1
 replace M := M.tl
 have M1 : Sep _ _ _ (blk b6 _ :: _) := M.f7; replace M := M1; clear M1
 replace M := M.tl
 replace F := F.keep [0, 1, 2, 3, 4, 5, 6, 7, 8, 9, 10] rfl
 refine wp_region_t [.rd, .ind, .ind, .wr, .wr, .ind] [(0, 3)] (otOf [0, 1, 2, 3, 4, 5]) mixed (by kernel_rfl) ?_
 refine s_ldaL F rfl rfl rfl rfl ag_100_G3 rfl rfl (cells_whole M.h0) ?_; clear F a; intro a F
 refine s_I F rfl rfl rfl rfl rfl rfl ?_; clear F a; intro a F
 refine s_I F rfl rfl rfl rfl rfl rfl ?_; clear F a; intro a F
 refine s_apM ((c.put s1).decO s1.dec) F M.f6 rfl rfl rfl rfl tl_92_G3 rfl rfl (by exact SlOk.rd M.h5) (by intro e; rfl) (by omega) (fun A c w M => (by (refine pend_take (by exact cells_whole M.h1) ?_); exact pend_none)) ?_; (clear F a M; try clear w); intro A50 c50 w M a F
 refine s_stWL F M.f7 rfl rfl rfl sz_100_G3 rfl rfl rfl rfl rfl (fun w M => (by (refine pend_skip rfl ?_); exact pend_none)) ?_; (clear M; try clear w); intro w M
 refine s_I F rfl rfl rfl rfl rfl rfl ?_; clear F a; intro a F
 refine t_endM M ?_; (clear M; try clear w); intro w M
 refine wp_ret ?_
 refine rt2 F rfl (by exact rv_a F rfl ag_100_G3 rfl (cells_whole M.h0)) (rv_t F rfl) ?_
 rw [(next_yes (c := c.put s1) (out := tallsO c.log.length o1) hd).1, (next_yes (c := c.put s1) (out := tallsO c.log.length o1) hd).2]
 refine ⟨_, (⟨.slice YPA ((c.put s1).dec s1.dec).part.Ps.length YPC, .slice YLA ((c.put s1).dec s1.dec).part.L.length YLC, .slice YGA ((c.put s1).dec s1.dec).log.length YGC, .slice YWA ((c.put s1).dec s1.dec).wants.length YWC⟩, .slice A50 (tallsO c.log.length o1 ++ (c.put s1).decO s1.dec).length c50), rfl, rfl, ?_⟩
 dsimp only
 refine M.pick ?_; repeat (first | exact PkG.nil | refine PkG.cons 1 rfl rfl ?_ | refine PkG.cons 3 rfl rfl ?_ | refine PkG.cons 4 rfl rfl ?_ | refine PkG.cons 5 rfl rfl ?_ | refine PkG.cons 6 rfl rfl ?_)
theorem c104 (c : Chn) (W : c.Wf) (q : Wrd) (x : Xv) (w0 : World) (ho : Own w0.heap [wsR x.p c.part.Ps, wsR x.l c.part.L, strR x.g c.log, strR x.w c.wants]) : Cl Try.prog 104 #[xV c x, wrdV q] w0 (RetS [wsR x.p c.part.Ps, wsR x.l c.part.L, strR x.g c.log, strR x.w c.wants] w0 (fun o (y : Xv × Value) => o = .tuple #[xV (c.word q) y.1, y.2]) fun y => [wsR y.1.p (c.word q).part.Ps, wsR y.1.l (c.word q).part.L, strR y.1.g (c.word q).log, strR y.1.w (c.word q).wants, tlR y.2 (c.wordO q)]) := by
 have key : ∀ hn : c.begun = false ∨ c.over = true, Cl Try.prog 104 #[xV c x, wrdV q] w0 (RetS [wsR x.p c.part.Ps, wsR x.l c.part.L, strR x.g c.log, strR x.w c.wants] w0 (fun o (y : Xv × Value) => o = .tuple #[xV c y.1, y.2]) fun y => [wsR y.1.p c.part.Ps, wsR y.1.l c.part.L, strR y.1.g c.log, strR y.1.w c.wants, tlR y.2 []]) := by
   intro hn
   obtain ⟨xp, xl, xg, xw⟩ := x
   dsimp only at ho ⊢
   obtain ⟨PA, PC, rfl⟩ := SlOk.form (ho.ok (wsR xp c.part.Ps) (by simp))
   obtain ⟨LA, LC, rfl⟩ := SlOk.form (ho.ok (wsR xl c.part.L) (by simp))
   obtain ⟨GA, GC, rfl⟩ := SlOk.form (ho.ok (strR xg c.log) (by simp))
   obtain ⟨WA, WC, rfl⟩ := SlOk.form (ho.ok (strR xw c.wants) (by simp))
   refine ⟨(c104n c hn q w0).out.mono ?_⟩
   rintro _ w' ⟨v, e, hp, hc⟩
   have M := ((Sep.start ho).quiet hc).nilT encTo 104 6
   refine ⟨v, ((⟨.slice PA c.part.Ps.length PC, .slice LA c.part.L.length LC, .slice GA c.log.length GC, .slice WA c.wants.length WC⟩ : Xv), nilV), e, hp, ?_⟩
   dsimp only
   refine M.pick ?_; repeat (first | exact PkG.nil | refine PkG.cons 0 rfl rfl ?_ | refine PkG.cons 1 rfl rfl ?_ | refine PkG.cons 2 rfl rfl ?_ | refine PkG.cons 3 rfl rfl ?_ | refine PkG.cons 4 rfl rfl ?_)
 cases hb : c.begun
 · rw [(word_no (.inl hb)).1, (word_no (.inl hb)).2]; exact key (.inl hb)
 · cases hv : c.over
   · rw [word_yes hb hv, wordO_yes hb hv]; exact c104y c W hb hv q _ _ rfl x w0 ho
   · rw [(word_no (.inr hv)).1, (word_no (.inr hv)).2]; exact key (.inr hv)
set_option maxRecDepth 100000 in
set_option maxHeartbeats 2000000 in
theorem c69 (c : Chn) (W : c.Wf) (x : Xv) (w0 : World) (ho : Own w0.heap [wsR x.p c.part.Ps, wsR x.l c.part.L, strR x.g c.log, strR x.w c.wants]) : Cl Try.prog 69 #[xV c x] w0 (RetS [wsR x.p c.part.Ps, wsR x.l c.part.L, strR x.g c.log, strR x.w c.wants] w0 (fun o (y : Xv × Value) => o = .tuple #[xV c.start y.1, y.2]) fun y => [wsR y.1.p c.start.part.Ps, wsR y.1.l c.start.part.L, strR y.1.g c.start.log, strR y.1.w c.start.wants, tlR y.2 c.startO]) := by
 obtain ⟨xp, xl, xg, xw⟩ := x
 dsimp only at ho ⊢
 obtain ⟨PA, PC, rfl⟩ := SlOk.form (ho.ok (wsR xp c.part.Ps) (by simp))
 obtain ⟨LA, LC, rfl⟩ := SlOk.form (ho.ok (wsR xl c.part.L) (by simp))
 obtain ⟨GA, GC, rfl⟩ := SlOk.form (ho.ok (strR xg c.log) (by simp))
 obtain ⟨WA, WC, rfl⟩ := SlOk.form (ho.ok (strR xw c.wants) (by simp))
 have M : Sep (fun b_ => b_ ∈ foots [wsR (.slice PA c.part.Ps.length PC) c.part.Ps, wsR (.slice LA c.part.L.length LC) c.part.L, strR (.slice GA c.log.length GC) c.log, strR (.slice WA c.wants.length WC) c.wants]) w0 w0 _ := Sep.start ho
 refine enter (vs := [_]) Try.func69 rfl rfl rfl ?_
 intro a F
 refine wp_seq ?_
 refine wp_region_l [.wr, .wr, .ind] ([0, 1, 2]) rfl ?_
 refine s_bxA F M rfl rfl rfl rfl rfl ?_; (clear F a M; try clear w); intro b1 w M a F
 refine s_alc F M rfl rfl rfl rfl zr_100_G3 rfl ?_; (clear F a M; try clear w); intro b2 w M a F
 refine s_I F rfl rfl rfl rfl rfl rfl ?_; clear F a; intro a F
 refine t_endM M ?_; (clear M; try clear w); intro w M
 refine wp_seq ?_
 refine wp_seq ?_
 refine wp_region_l [.ind, .rd] ([0, 1]) rfl ?_
 refine s_fa0 F rfl rfl rfl rfl fa_100_3_G3 rfl ?_; clear F a; intro a F
 refine s_ld F rfl rfl rfl rfl sc_4_G3 rfl (by exact cell_of_blk M.h1 (lit rfl)) ?_; clear F a; intro a F
 refine t_endM M ?_; (clear M; try clear w); intro w M
 refine c_if F rfl ?_ ?_
 clear F; intro hc0 F
 try rw [hc0] at F
 skip
 have hcb : c.begun = true := by assumption
 rw [(start_yes hcb).1, (start_yes hcb).2]
 refine wp_seq ?_
 replace F := F.keep [0, 1, 2, 3] rfl
 refine wp_region_l [.rd, .wr, .ind] ([0, 1, 2]) rfl ?_
 refine s_lda F rfl rfl rfl rfl ag_100_G3 rfl rfl (cells_whole M.h1) ?_; clear F a; intro a F
 refine s_stW F M rfl rfl rfl sz_100_G3 rfl rfl rfl rfl rfl ?_; (clear M; try clear w); intro w M
 refine s_I F rfl rfl rfl rfl rfl rfl ?_; clear F a; intro a F
 refine t_endM M ?_; (clear M; try clear w); intro w M
 refine wp_ret ?_
 refine rt2 F rfl (by exact rv_a F rfl ag_100_G3 rfl (cells_whole M.h0)) (rv_t F rfl) ?_
 replace M := M.nilT encTo 104 6
 refine ⟨_, ((⟨.slice PA c.part.Ps.length PC, .slice LA c.part.L.length LC, .slice GA c.log.length GC, .slice WA c.wants.length WC⟩ : Xv), nilV), rfl, rfl, ?_⟩
 dsimp only
 refine M.pick ?_; repeat (first | exact PkG.nil | refine PkG.cons 0 rfl rfl ?_ | refine PkG.cons 3 rfl rfl ?_ | refine PkG.cons 4 rfl rfl ?_ | refine PkG.cons 5 rfl rfl ?_ | refine PkG.cons 6 rfl rfl ?_)
 clear F; intro hc1 F
 try rw [hc1] at F
 skip
 have hcb : c.begun = false := by simp_all
 rw [show c.start = c.go.begin from if_neg (by rw [hcb]; decide), show c.startO = c.go.beginO from if_neg (by rw [hcb]; decide)]
 refine wp_skip ?_
 refine wp_seq ?_
 replace F := F.keep [0, 1, 2, 3] rfl
 refine wp_region_l [.ind, .wr] ([0, 1]) rfl ?_
 refine s_fa0 F rfl rfl rfl rfl fa_100_3_G3 rfl ?_; clear F a; intro a F
 refine s_st F M.f1 rfl rfl rfl sz_4_G3 rfl rfl rfl (by exact Nat.le_of_ble_eq_true rfl) ?_; (clear M; try clear w); intro w M
 refine t_endM M ?_; (clear M; try clear w); intro w M
 refine wp_seq ?_
 replace F := F.keep [0, 1, 2, 3] rfl
 refine wp_region_l [.rd, .wr, .ind, .ind, .wr, .ind] ([0, 1, 2, 3, 4, 5]) rfl ?_
 refine s_lda F rfl rfl rfl rfl ag_100_G3 rfl rfl (cells_whole M.h0) ?_; clear F a; intro a F
 have M1 : Sep _ _ _ (slR (.slice WA _ WC) _ _ _ _ :: _) := M.f5; replace M := M1; clear M1
 have M1 : Sep _ _ _ (slR (.slice GA _ GC) _ _ _ _ :: _) := M.f5; replace M := M1; clear M1
 have M1 : Sep _ _ _ (slR (.slice LA _ LC) _ _ _ _ :: _) := M.f5; replace M := M1; clear M1
 have M1 : Sep _ _ _ (slR (.slice PA _ PC) _ _ _ _ :: _) := M.f5; replace M := M1; clear M1
 refine s_call (m := [_, _, _, _]) F M rfl rfl rfl rfl rfl (rfl : _ = some [_]) cb_103_G3 (fun nd_ => c103 c.go (fun _ => W.ok) ⟨.slice PA c.part.Ps.length PC, .slice LA c.part.L.length LC, .slice GA c.log.length GC, .slice WA c.wants.length WC⟩ _ (Own.left (m := [_, _, _, _]) (M.drewN nd_).own)) ?_; (clear F a M; try clear w); rintro v y w rfl M a F; (try simp only [List.cons_append, List.nil_append] at M)
 obtain ⟨⟨yp, yl, yg, yw⟩, yo⟩ := y
 dsimp only at M F
 obtain ⟨YPA, YPC, rfl⟩ := SlOk.form M.h0
 obtain ⟨YLA, YLC, rfl⟩ := SlOk.form M.h1
 obtain ⟨YGA, YGC, rfl⟩ := SlOk.form M.h2
 obtain ⟨YWA, YWC, rfl⟩ := SlOk.form M.h3
 obtain ⟨YOA, YOC, rfl⟩ := SlOk.form M.h4
 refine s_I F rfl rfl rfl rfl rfl rfl ?_; clear F a; intro a F
 refine s_I F rfl rfl rfl rfl rfl rfl ?_; clear F a; intro a F
 have M1 : Sep _ _ _ (blk b2 _ :: _) := M.f6; replace M := M1; clear M1
 refine s_stW F M rfl rfl rfl sz_100_G3 rfl rfl rfl rfl rfl ?_; (clear M; try clear w); intro w M
 refine s_I F rfl rfl rfl rfl rfl rfl ?_; clear F a; intro a F
 refine t_endM M ?_; (clear M; try clear w); intro w M
 refine wp_ret ?_
 refine rt2 F rfl (by exact rv_a F rfl ag_100_G3 rfl (cells_whole M.h0)) (rv_t F rfl) ?_
 refine ⟨_, (⟨.slice YPA c.go.begin.part.Ps.length YPC, .slice YLA c.go.begin.part.L.length YLC, .slice YGA c.go.begin.log.length YGC, .slice YWA c.go.begin.wants.length YWC⟩, .slice YOA c.go.beginO.length YOC), rfl, rfl, ?_⟩
 dsimp only
 refine M.pick ?_; repeat (first | exact PkG.nil | refine PkG.cons 1 rfl rfl ?_ | refine PkG.cons 2 rfl rfl ?_ | refine PkG.cons 3 rfl rfl ?_ | refine PkG.cons 4 rfl rfl ?_ | refine PkG.cons 5 rfl rfl ?_)
set_option maxRecDepth 100000 in
set_option maxHeartbeats 2000000 in
theorem c70 (c : Chn) (W : c.Wf) (z : To) (x : Xv) (w0 : World) (ho : Own w0.heap [wsR x.p c.part.Ps, wsR x.l c.part.L, strR x.g c.log, strR x.w c.wants]) : Cl Try.prog 70 #[xV c x, toV z] w0 (RetS [wsR x.p c.part.Ps, wsR x.l c.part.L, strR x.g c.log, strR x.w c.wants] w0 (fun o (y : Xv × Value) => o = .tuple #[xV (c.take z) y.1, y.2]) fun y => [wsR y.1.p (c.take z).part.Ps, wsR y.1.l (c.take z).part.L, strR y.1.g (c.take z).log, strR y.1.w (c.take z).wants, tlR y.2 (c.takeO z)]) := by
 obtain ⟨xp, xl, xg, xw⟩ := x
 dsimp only at ho ⊢
 obtain ⟨PA, PC, rfl⟩ := SlOk.form (ho.ok (wsR xp c.part.Ps) (by simp))
 obtain ⟨LA, LC, rfl⟩ := SlOk.form (ho.ok (wsR xl c.part.L) (by simp))
 obtain ⟨GA, GC, rfl⟩ := SlOk.form (ho.ok (strR xg c.log) (by simp))
 obtain ⟨WA, WC, rfl⟩ := SlOk.form (ho.ok (strR xw c.wants) (by simp))
 have M : Sep (fun b_ => b_ ∈ foots [wsR (.slice PA c.part.Ps.length PC) c.part.Ps, wsR (.slice LA c.part.L.length LC) c.part.L, strR (.slice GA c.log.length GC) c.log, strR (.slice WA c.wants.length WC) c.wants]) w0 w0 _ := Sep.start ho
 refine enter (vs := [_, _]) Try.func70 rfl rfl rfl ?_
 intro a F
 refine wp_seq ?_
 refine wp_region_l [.wr, .wr, .wr, .ind] ([0, 1, 2, 3]) rfl ?_
 refine s_bxA F M rfl rfl rfl rfl rfl ?_; (clear F a M; try clear w); intro b2 w M a F
 refine s_bxA F M rfl rfl rfl rfl rfl ?_; (clear F a M; try clear w); intro b3 w M a F
 refine s_alc F M rfl rfl rfl rfl zr_100_G3 rfl ?_; (clear F a M; try clear w); intro b4 w M a F
 refine s_I F rfl rfl rfl rfl rfl rfl ?_; clear F a; intro a F
 refine t_endM M ?_; (clear M; try clear w); intro w M
 refine wp_seq ?_
 refine wp_seq ?_
 refine wp_region_l [.ind, .rd, .ind, .rd, .ind, .ind, .ind, .ind, .ind, .rd, .ind, .ind] ([0, 1, 2, 3, 4, 5, 6, 7, 8, 9, 10, 11]) rfl ?_
 refine s_fa0 F rfl rfl rfl rfl fa_104_0_G3 rfl ?_; clear F a; intro a F
 refine s_ld F rfl rfl rfl rfl sc_3_G3 rfl (by exact cell_of_blk M.h1 (lit rfl)) ?_; clear F a; intro a F
 refine s_fa0 F rfl rfl rfl rfl fa_100_5_G3 rfl ?_; clear F a; intro a F
 refine s_ld F rfl rfl rfl rfl sc_69_G3 rfl (by exact cell_of_blk M.h2 (lit rfl)) ?_; clear F a; intro a F
 refine s_len F rfl rfl rfl rfl sl_69_G3 rfl ?_; clear F a; intro a F
 refine s_bin F rfl rfl rfl rfl rfl rfl rfl ?_; clear F a; intro a F
 refine s_I F rfl rfl rfl rfl rfl rfl ?_; clear F a; intro a F
 refine bsplit F 12 rfl ?_ ?_
 clear F; intro hc0 F
 try rw [hc0] at F
 replace hc0 := nd1 hc0
 refine s_no F rfl rfl rfl rfl ?_; clear F a; intro a F
 refine s_no F rfl rfl rfl rfl ?_; clear F a; intro a F
 refine s_no F rfl rfl rfl rfl ?_; clear F a; intro a F
 refine s_no F rfl rfl rfl rfl ?_; clear F a; intro a F
 refine s_I F rfl rfl rfl rfl rfl rfl ?_; clear F a; intro a F
 refine t_endM M ?_; (clear M; try clear w); intro w M
 refine c_t F rfl ?_
 refine wp_seq ?_
 replace F := F.keep [0, 1, 2, 3, 4, 5] rfl
 refine wp_region_l [.rd, .wr, .ind] ([0, 1, 2]) rfl ?_
 refine s_lda F rfl rfl rfl rfl ag_100_G3 rfl rfl (cells_whole M.h2) ?_; clear F a; intro a F
 refine s_stW F M rfl rfl rfl sz_100_G3 rfl rfl rfl rfl rfl ?_; (clear M; try clear w); intro w M
 refine s_I F rfl rfl rfl rfl rfl rfl ?_; clear F a; intro a F
 refine t_endM M ?_; (clear M; try clear w); intro w M
 refine wp_ret ?_
 refine rt2 F rfl (by exact rv_a F rfl ag_100_G3 rfl (cells_whole M.h0)) (rv_t F rfl) ?_
 have hx : c.takes z = false := (by clear M F; unfold Chn.takes; grind)
 rw [(ChnM.take_no hx).1, (ChnM.take_no hx).2]
 replace M := M.nilT encTo 104 6
 refine ⟨_, ((⟨.slice PA c.part.Ps.length PC, .slice LA c.part.L.length LC, .slice GA c.log.length GC, .slice WA c.wants.length WC⟩ : Xv), nilV), rfl, rfl, ?_⟩
 dsimp only
 refine M.pick ?_; repeat (first | exact PkG.nil | refine PkG.cons 0 rfl rfl ?_ | refine PkG.cons 4 rfl rfl ?_ | refine PkG.cons 5 rfl rfl ?_ | refine PkG.cons 6 rfl rfl ?_ | refine PkG.cons 7 rfl rfl ?_)
 clear F; intro hc1 F
 try rw [hc1] at F
 replace hc1 := nd0 hc1
 refine s_fa0 F rfl rfl rfl rfl fa_104_1_G3 rfl ?_; clear F a; intro a F
 refine s_fa F rfl rfl rfl rfl fa_32_0_G3 rfl ?_; clear F a; intro a F
 refine s_ld F rfl rfl rfl rfl sc_3_G3 rfl (by exact cell_of_blk M.h1 (lit rfl)) ?_; clear F a; intro a F
 refine s_bin F rfl rfl rfl rfl rfl rfl rfl ?_; clear F a; intro a F
 refine s_I F rfl rfl rfl rfl rfl rfl ?_; clear F a; intro a F
 refine t_endM M ?_; (clear M; try clear w); intro w M
 refine c_if F rfl ?_ ?_
 clear F; intro hc2 F
 try rw [hc2] at F
 replace hc2 := of_decide_eq_true hc2
 refine wp_seq ?_
 replace F := F.keep [0, 1, 2, 3, 4, 5] rfl
 refine wp_region_l [.rd, .wr, .ind] ([0, 1, 2]) rfl ?_
 refine s_lda F rfl rfl rfl rfl ag_100_G3 rfl rfl (cells_whole M.h2) ?_; clear F a; intro a F
 refine s_stW F M rfl rfl rfl sz_100_G3 rfl rfl rfl rfl rfl ?_; (clear M; try clear w); intro w M
 refine s_I F rfl rfl rfl rfl rfl rfl ?_; clear F a; intro a F
 refine t_endM M ?_; (clear M; try clear w); intro w M
 refine wp_ret ?_
 refine rt2 F rfl (by exact rv_a F rfl ag_100_G3 rfl (cells_whole M.h0)) (rv_t F rfl) ?_
 have hx : c.takes z = false := (by clear M F; unfold Chn.takes; grind)
 rw [(ChnM.take_no hx).1, (ChnM.take_no hx).2]
 replace M := M.nilT encTo 104 6
 refine ⟨_, ((⟨.slice PA c.part.Ps.length PC, .slice LA c.part.L.length LC, .slice GA c.log.length GC, .slice WA c.wants.length WC⟩ : Xv), nilV), rfl, rfl, ?_⟩
 dsimp only
 refine M.pick ?_; repeat (first | exact PkG.nil | refine PkG.cons 0 rfl rfl ?_ | refine PkG.cons 4 rfl rfl ?_ | refine PkG.cons 5 rfl rfl ?_ | refine PkG.cons 6 rfl rfl ?_ | refine PkG.cons 7 rfl rfl ?_)
 clear F; intro hc3 F
 try rw [hc3] at F
 replace hc3 := of_decide_eq_false hc3
 refine wp_skip ?_
 refine wp_seq ?_
 replace F := F.keep [0, 1, 2, 3, 4, 5] rfl
 refine wp_region_l [.rd, .ind, .rd, .wr, .ind, .ind, .wr, .ind] ([0, 1, 2, 3, 4, 5, 6, 7]) rfl ?_
 refine s_lda F rfl rfl rfl rfl ag_100_G3 rfl rfl (cells_whole M.h2) ?_; clear F a; intro a F
 refine s_fa0 F rfl rfl rfl rfl fa_104_1_G3 rfl ?_; clear F a; intro a F
 refine s_lda F rfl rfl rfl rfl ag_32_G3 rfl rfl (tal_word M.h1) ?_; clear F a; intro a F
 have M1 : Sep _ _ _ (slR (.slice WA _ WC) _ _ _ _ :: _) := M.f6; replace M := M1; clear M1
 have M1 : Sep _ _ _ (slR (.slice GA _ GC) _ _ _ _ :: _) := M.f6; replace M := M1; clear M1
 have M1 : Sep _ _ _ (slR (.slice LA _ LC) _ _ _ _ :: _) := M.f6; replace M := M1; clear M1
 have M1 : Sep _ _ _ (slR (.slice PA _ PC) _ _ _ _ :: _) := M.f6; replace M := M1; clear M1
 refine s_call (m := [_, _, _, _]) F M rfl rfl rfl rfl rfl (rfl : _ = some [_, _]) cb_104_G3 (fun nd_ => c104 c W z.w ⟨.slice PA c.part.Ps.length PC, .slice LA c.part.L.length LC, .slice GA c.log.length GC, .slice WA c.wants.length WC⟩ _ (Own.left (m := [_, _, _, _]) (M.drewN nd_).own)) ?_; (clear F a M; try clear w); rintro v y w rfl M a F; (try simp only [List.cons_append, List.nil_append] at M)
 obtain ⟨⟨yp, yl, yg, yw⟩, yo⟩ := y
 dsimp only at M F
 obtain ⟨YPA, YPC, rfl⟩ := SlOk.form M.h0
 obtain ⟨YLA, YLC, rfl⟩ := SlOk.form M.h1
 obtain ⟨YGA, YGC, rfl⟩ := SlOk.form M.h2
 obtain ⟨YWA, YWC, rfl⟩ := SlOk.form M.h3
 obtain ⟨YOA, YOC, rfl⟩ := SlOk.form M.h4
 refine s_I F rfl rfl rfl rfl rfl rfl ?_; clear F a; intro a F
 refine s_I F rfl rfl rfl rfl rfl rfl ?_; clear F a; intro a F
 have M1 : Sep _ _ _ (blk b4 _ :: _) := M.f5; replace M := M1; clear M1
 refine s_stW F M rfl rfl rfl sz_100_G3 rfl rfl rfl rfl rfl ?_; (clear M; try clear w); intro w M
 refine s_I F rfl rfl rfl rfl rfl rfl ?_; clear F a; intro a F
 refine t_endM M ?_; (clear M; try clear w); intro w M
 refine wp_ret ?_
 refine rt2 F rfl (by exact rv_a F rfl ag_100_G3 rfl (cells_whole M.h0)) (rv_t F rfl) ?_
 have hx : c.takes z = true := (by clear M F; unfold Chn.takes; grind)
 rw [(ChnM.take_yes hx).1, (ChnM.take_yes hx).2]
 refine ⟨_, (⟨.slice YPA (c.word z.w).part.Ps.length YPC, .slice YLA (c.word z.w).part.L.length YLC, .slice YGA (c.word z.w).log.length YGC, .slice YWA (c.word z.w).wants.length YWC⟩, .slice YOA (c.wordO z.w).length YOC), rfl, rfl, ?_⟩
 dsimp only
 refine M.pick ?_; repeat (first | exact PkG.nil | refine PkG.cons 1 rfl rfl ?_ | refine PkG.cons 2 rfl rfl ?_ | refine PkG.cons 3 rfl rfl ?_ | refine PkG.cons 4 rfl rfl ?_ | refine PkG.cons 5 rfl rfl ?_)
set_option maxRecDepth 100000 in
set_option maxHeartbeats 2000000 in
theorem c72 (c : Chn) (W : c.Wf) (s : Int) (x : Xv) (w0 : World) (ho : Own w0.heap [wsR x.p c.part.Ps, wsR x.l c.part.L, strR x.g c.log, strR x.w c.wants]) : Cl Try.prog 72 #[xV c x, .int .i64 s] w0 (RetS [wsR x.p c.part.Ps, wsR x.l c.part.L, strR x.g c.log, strR x.w c.wants] w0 (fun o (y : Xv × Value) => o = .tuple #[xV (c.word (⟨4, 0, c.part.round, s, VoteM.empty⟩ : Wrd)) y.1, y.2]) fun y => [wsR y.1.p (c.word (⟨4, 0, c.part.round, s, VoteM.empty⟩ : Wrd)).part.Ps, wsR y.1.l (c.word (⟨4, 0, c.part.round, s, VoteM.empty⟩ : Wrd)).part.L, strR y.1.g (c.word (⟨4, 0, c.part.round, s, VoteM.empty⟩ : Wrd)).log, strR y.1.w (c.word (⟨4, 0, c.part.round, s, VoteM.empty⟩ : Wrd)).wants, tlR y.2 (c.wordO (⟨4, 0, c.part.round, s, VoteM.empty⟩ : Wrd))]) := by
 obtain ⟨xp, xl, xg, xw⟩ := x
 dsimp only at ho ⊢
 obtain ⟨PA, PC, rfl⟩ := SlOk.form (ho.ok (wsR xp c.part.Ps) (by simp))
 obtain ⟨LA, LC, rfl⟩ := SlOk.form (ho.ok (wsR xl c.part.L) (by simp))
 obtain ⟨GA, GC, rfl⟩ := SlOk.form (ho.ok (strR xg c.log) (by simp))
 obtain ⟨WA, WC, rfl⟩ := SlOk.form (ho.ok (strR xw c.wants) (by simp))
 have M : Sep (fun b_ => b_ ∈ foots [wsR (.slice PA c.part.Ps.length PC) c.part.Ps, wsR (.slice LA c.part.L.length LC) c.part.L, strR (.slice GA c.log.length GC) c.log, strR (.slice WA c.wants.length WC) c.wants]) w0 w0 _ := Sep.start ho
 refine enter (vs := [_, _]) Try.func72 rfl rfl rfl ?_
 intro a F
 refine wp_seq ?_
 refine wp_region_l [.wr, .wr, .ind] ([0, 1, 2]) rfl ?_
 refine s_bxA F M rfl rfl rfl rfl rfl ?_; (clear F a M; try clear w); intro b2 w M a F
 refine s_alc F M rfl rfl rfl rfl zr_100_G3 rfl ?_; (clear F a M; try clear w); intro b4 w M a F
 refine s_I F rfl rfl rfl rfl rfl rfl ?_; clear F a; intro a F
 refine t_endM M ?_; (clear M; try clear w); intro w M
 refine wp_seq ?_
 refine wp_region_l [.rd, .ind, .ind, .rd, .ind, .ind, .wr, .ind, .ind, .wr, .ind] ([0, 1, 2, 3, 4, 5, 6, 7, 8, 9, 10]) rfl ?_
 refine s_lda F rfl rfl rfl rfl ag_100_G3 rfl rfl (cells_whole M.h1) ?_; clear F a; intro a F
 refine s_fa0 F rfl rfl rfl rfl fa_100_4_G3 rfl ?_; clear F a; intro a F
 refine s_fa F rfl rfl rfl rfl fa_53_3_G3 rfl ?_; clear F a; intro a F
 refine s_ld F rfl rfl rfl rfl sc_3_G3 rfl (by exact cell_of_blk M.h1 (lit rfl)) ?_; clear F a; intro a F
 refine s_I F rfl rfl rfl rfl rfl rfl ?_; clear F a; intro a F
 refine s_bld F rfl rfl rfl rfl (parts3 F rfl rfl rfl) (bl_32_0_2_3_G3 _ _ _) ?_; clear F a; intro a F
 have M1 : Sep _ _ _ (slR (.slice WA _ WC) _ _ _ _ :: _) := M.f5; replace M := M1; clear M1
 have M1 : Sep _ _ _ (slR (.slice GA _ GC) _ _ _ _ :: _) := M.f5; replace M := M1; clear M1
 have M1 : Sep _ _ _ (slR (.slice LA _ LC) _ _ _ _ :: _) := M.f5; replace M := M1; clear M1
 have M1 : Sep _ _ _ (slR (.slice PA _ PC) _ _ _ _ :: _) := M.f5; replace M := M1; clear M1
 refine s_call (m := [_, _, _, _]) F M rfl rfl rfl rfl rfl (rfl : _ = some [_, _]) cb_104_G3 (fun nd_ => c104 c W (⟨4, 0, c.part.round, s, VoteM.empty⟩ : Wrd) ⟨.slice PA c.part.Ps.length PC, .slice LA c.part.L.length LC, .slice GA c.log.length GC, .slice WA c.wants.length WC⟩ _ (Own.left (m := [_, _, _, _]) (M.drewN nd_).own)) ?_; (clear F a M; try clear w); rintro v y w rfl M a F; (try simp only [List.cons_append, List.nil_append] at M)
 obtain ⟨⟨yp, yl, yg, yw⟩, yo⟩ := y
 dsimp only at M F
 obtain ⟨YPA, YPC, rfl⟩ := SlOk.form M.h0
 obtain ⟨YLA, YLC, rfl⟩ := SlOk.form M.h1
 obtain ⟨YGA, YGC, rfl⟩ := SlOk.form M.h2
 obtain ⟨YWA, YWC, rfl⟩ := SlOk.form M.h3
 obtain ⟨YOA, YOC, rfl⟩ := SlOk.form M.h4
 refine s_I F rfl rfl rfl rfl rfl rfl ?_; clear F a; intro a F
 refine s_I F rfl rfl rfl rfl rfl rfl ?_; clear F a; intro a F
 have M1 : Sep _ _ _ (blk b4 _ :: _) := M.f5; replace M := M1; clear M1
 refine s_stW F M rfl rfl rfl sz_100_G3 rfl rfl rfl rfl rfl ?_; (clear M; try clear w); intro w M
 refine s_I F rfl rfl rfl rfl rfl rfl ?_; clear F a; intro a F
 refine t_endM M ?_; (clear M; try clear w); intro w M
 refine wp_ret ?_
 refine rt2 F rfl (by exact rv_a F rfl ag_100_G3 rfl (cells_whole M.h0)) (rv_t F rfl) ?_
 refine ⟨_, (⟨.slice YPA (c.word (⟨4, 0, c.part.round, s, VoteM.empty⟩ : Wrd)).part.Ps.length YPC, .slice YLA (c.word (⟨4, 0, c.part.round, s, VoteM.empty⟩ : Wrd)).part.L.length YLC, .slice YGA (c.word (⟨4, 0, c.part.round, s, VoteM.empty⟩ : Wrd)).log.length YGC, .slice YWA (c.word (⟨4, 0, c.part.round, s, VoteM.empty⟩ : Wrd)).wants.length YWC⟩, .slice YOA (c.wordO (⟨4, 0, c.part.round, s, VoteM.empty⟩ : Wrd)).length YOC), rfl, rfl, ?_⟩
 dsimp only
 refine M.pick ?_; repeat (first | exact PkG.nil | refine PkG.cons 1 rfl rfl ?_ | refine PkG.cons 2 rfl rfl ?_ | refine PkG.cons 3 rfl rfl ?_ | refine PkG.cons 4 rfl rfl ?_ | refine PkG.cons 5 rfl rfl ?_)
end Go.Proofs.Ytboibdmflblphaa
