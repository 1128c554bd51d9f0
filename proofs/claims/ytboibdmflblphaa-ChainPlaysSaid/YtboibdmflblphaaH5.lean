/- H5 of the seat. -/
import Derived.Test.YtboibdmflblphaaH4
namespace Go.Proofs.Ytboibdmflblphaa
open Go Fw
theorem zr_92_H5 : zeroB Try.prog 92 = some (.slice none 0 0) := by kernel_rfl
theorem sc_87_H5 : scalB Try.prog 87 = true := by kernel_rfl
theorem fa_166_3_H5 : FA Try.prog 166 3 3 := fun _ _ _ => by kernel_rfl
theorem sc_4_H5 : scalB Try.prog 4 = true := by kernel_rfl
theorem sz_92_H5 : sizeB Try.prog 92 = some 1 := by kernel_rfl
theorem sc_92_H5 : scalB Try.prog 92 = true := by kernel_rfl
theorem cb_98_H5 : callB Try.prog 98 = true := by kernel_rfl
theorem pt_87_H5 : ptrB Try.prog 87 = true := by kernel_rfl
theorem fa_104_0_H5 : FA Try.prog 104 0 0 := fun _ _ _ => by kernel_rfl
theorem sc_3_H5 : scalB Try.prog 3 = true := by kernel_rfl
theorem fa_166_5_H5 : FA Try.prog 166 5 5 := fun _ _ _ => by kernel_rfl
theorem sc_69_H5 : scalB Try.prog 69 = true := by kernel_rfl
theorem sl_69_H5 : slcB Try.prog 69 = some (9, 1) := by kernel_rfl
theorem fa_104_1_H5 : FA Try.prog 104 1 1 := fun _ _ _ => by kernel_rfl
theorem fa_32_0_H5 : FA Try.prog 32 0 0 := fun _ _ _ => by kernel_rfl
theorem ag_32_H5 : aggB Try.prog 32 = some 5 := by kernel_rfl
theorem cb_105_H5 : callB Try.prog 105 = true := by kernel_rfl
theorem fa_166_4_H5 : FA Try.prog 166 4 4 := fun _ _ _ => by kernel_rfl
theorem sc_50_H5 : scalB Try.prog 50 = true := by kernel_rfl
theorem cb_46_H5 : callB Try.prog 46 = true := by kernel_rfl
theorem bl_32_0_2_3_H5 : ∀ (x0 : Int) (x2 : Int) (x3 : Int), ∀ w : World, (Instr.build 32 #[(0, .int .i64 x0), (2, .int .i64 x2), (3, .int .i64 x3)]).run Try.prog w = .ok (.agg #[.int .i64 x0, .int .i64 0, .int .i64 x2, .int .i64 x3, .string { data := #[] }]) w := by intros; kernel_rfl
theorem sc_9_H5 : scalB Try.prog 9 = true := by kernel_rfl
theorem cb_97_H5 : callB Try.prog 97 = true := by kernel_rfl
theorem cb_99_H5 : callB Try.prog 99 = true := by kernel_rfl
open VoteM AgrM CouM ChnM
theorem c98r (γ : Gh) (c : Chn) (w0 : World) (hk : Ro (fun _ => False) w0 (chnR γ c)) : Cl Try.prog 98 #[.pointer (some ⟨γ.b, 0, none⟩)] w0 (RetQ w0 fun r => r = .bool c.over) := by
 obtain ⟨b, g, lv, wv⟩ := γ
 obtain ⟨LA, LC, rfl⟩ := SlOk.form (ch_ok hk).l
 exact c98 c b _ _ LA LC w0 (ch_ok hk).o
set_option maxRecDepth 100000 in
set_option maxHeartbeats 400000 in
theorem c105n (γ : Gh) (c : Chn) (hn : c.begun = false ∨ c.over = true) (q : Wrd) (w0 : World) (hw : Own w0.heap [chnR γ c]) : Cl Try.prog 105 #[.pointer (some ⟨γ.b, 0, none⟩), wrdV q] w0 (RetS [chnR γ c] w0 (fun r (x : Gh × Value) => r = x.2 ∧ x.1.b = γ.b) fun x => [chnR x.1 (c.word q), tlR x.2 (c.wordO q)]) := by
 have M : Sep (fun b_ => b_ ∈ foots [chnR γ c]) w0 w0 _ := Sep.start hw
 refine enterX (vs := [_, _]) Try.func105 rfl rfl rfl ?_
 intro a F
 refine wp_seq ?_
 refine wp_region_l [.wr, .wr, .wr] ([0, 1, 2]) rfl ?_
 refine s_bxS F M rfl rfl rfl rfl rfl rfl ?_; (clear F a M; try clear w); intro b2 w M a F
 refine s_bxA F M rfl rfl rfl rfl rfl ?_; (clear F a M; try clear w); intro b3 w M a F
 refine s_alc F M rfl rfl rfl rfl zr_92_H5 rfl ?_; (clear F a M; try clear w); intro b4 w M a F
 refine t_endM M ?_; (clear M; try clear w); intro w M
 refine wp_seq ?_
 refine wp_seq ?_
 refine wp_region_l [.rd, .ind, .ind, .rd, .ind, .ind, .rd, .wr, .ind] ([0, 1, 2, 3, 4, 5, 6, 7, 8]) rfl ?_
 refine s_ld F rfl rfl rfl rfl sc_87_H5 rfl (by exact cell_of_blk M.h2 (lit rfl)) ?_; clear F a; intro a F
 refine s_I F rfl rfl rfl rfl rfl rfl ?_; clear F a; intro a F
 refine s_fa0 F rfl rfl rfl rfl fa_166_3_H5 rfl ?_; clear F a; intro a F
 refine s_ld F rfl rfl rfl rfl sc_4_H5 rfl (by exact cell_of_blk (ch_ok (roF M.f3)).o (lit rfl)) ?_; clear F a; intro a F
 refine s_rn 2 F rfl rfl ?_; clear F a; intro a F
 refine bsplit F 10 rfl ?_ ?_
 clear F; intro hc0 F
 try rw [hc0] at F
 replace hc0 := nt hc0
 refine s_rn 3 F rfl rfl ?_; clear F a; intro a F
 refine t_endM M ?_; (clear M; try clear w); intro w M
 refine c_t F rfl ?_
 refine wp_seq ?_
 replace F := F.keep [0, 1, 2, 3, 4] rfl
 refine wp_region_l [.wr] ([0]) rfl ?_
 refine s_st F M rfl rfl rfl sz_92_H5 rfl rfl rfl (by exact Nat.le_of_ble_eq_true rfl) ?_; (clear M; try clear w); intro w M
 refine t_endM M ?_; (clear M; try clear w); intro w M
 refine wp_ret ?_
 refine bodyD ?_
 refine rt1 F rfl (by exact rv_s F rfl sc_92_H5 (cell_of_blk M.h0 (lit rfl))) ?_
 rw [(word_no hn).1, (word_no hn).2]
 replace M := M.nilT encTo 104 6
 refine ⟨_, (γ, .slice none 0 0), rfl, ⟨rfl, rfl⟩, ?_⟩
 have M1 : Sep _ _ _ (slR _ _ 104 _ _ :: _) := M; replace M := M1; clear M1
 have M1 : Sep _ _ _ (chnR _ _ :: _) := M.f4; replace M := M1; clear M1
 exact Sep.left (m := [chnR _ _, _]) M
 clear F; intro hc1 F
 try rw [hc1] at F
 replace hc1 := nf hc1
 refine s_ld F rfl rfl rfl rfl sc_87_H5 rfl (by exact cell_of_blk M.h2 (lit rfl)) ?_; clear F a; intro a F
 refine s_cq F M rfl rfl rfl rfl rfl (rfl : _ = some [_]) cb_98_H5 (fun nd_ => c98r γ c _ (by exact roF (M.drewN nd_).f3)) ?_; (clear F a M; try clear w); rintro v w rfl M a F
 refine s_I F rfl rfl rfl rfl rfl rfl ?_; clear F a; intro a F
 refine t_endM M ?_; (clear M; try clear w); intro w M
 refine c_if F rfl ?_ ?_
 clear F; intro hc2 F
 try rw [hc2] at F
 replace hc2 := of_decide_eq_true hc2
 refine wp_seq ?_
 replace F := F.keep [0, 1, 2, 3, 4] rfl
 refine wp_region_l [.wr] ([0]) rfl ?_
 refine s_st F M rfl rfl rfl sz_92_H5 rfl rfl rfl (by exact Nat.le_of_ble_eq_true rfl) ?_; (clear M; try clear w); intro w M
 refine t_endM M ?_; (clear M; try clear w); intro w M
 refine wp_ret ?_
 refine bodyD ?_
 refine rt1 F rfl (by exact rv_s F rfl sc_92_H5 (cell_of_blk M.h0 (lit rfl))) ?_
 rw [(word_no hn).1, (word_no hn).2]
 replace M := M.nilT encTo 104 6
 refine ⟨_, (γ, .slice none 0 0), rfl, ⟨rfl, rfl⟩, ?_⟩
 have M1 : Sep _ _ _ (slR _ _ 104 _ _ :: _) := M; replace M := M1; clear M1
 have M1 : Sep _ _ _ (chnR _ _ :: _) := M.f4; replace M := M1; clear M1
 exact Sep.left (m := [chnR _ _, _]) M
 clear F; intro hc3 F
 try rw [hc3] at F
 replace hc3 := of_decide_eq_false hc3
 exfalso
 rcases hn with hn | hn
 · exact absurd hn (by rw [show c.begun = true by assumption]; decide)
 · exact absurd hn (by rw [over_no.2 (by omega)]; decide)
theorem c105 (γ : Gh) (c : Chn) (W : c.Wf) (q : Wrd) (w0 : World) (hw : Own w0.heap [chnR γ c]) : Cl Try.prog 105 #[.pointer (some ⟨γ.b, 0, none⟩), wrdV q] w0 (RetS [chnR γ c] w0 (fun r (x : Gh × Value) => r = x.2 ∧ x.1.b = γ.b) fun x => [chnR x.1 (c.word q), tlR x.2 (c.wordO q)]) := by
 cases hb : c.begun
 · exact c105n γ c (.inl hb) q w0 hw
 · cases ho : c.over
   · exact c105y γ c W hb ho q w0 hw
   · exact c105n γ c (.inr ho) q w0 hw
set_option maxRecDepth 100000 in
set_option maxHeartbeats 400000 in
theorem c71 (γ : Gh) (c : Chn) (W : c.Wf) (z : To) (w0 : World) (hw : Own w0.heap [chnR γ c]) : Cl Try.prog 71 #[.pointer (some ⟨γ.b, 0, none⟩), toV z] w0 (RetS [chnR γ c] w0 (fun r (x : Gh × Value) => r = x.2 ∧ x.1.b = γ.b) fun x => [chnR x.1 (c.take z), tlR x.2 (c.takeO z)]) := by
 obtain ⟨b, g, lv, wv⟩ := γ
 have hk0 : (chnR ⟨b, g, lv, wv⟩ c).ok w0.heap := hw.ok _ List.mem_cons_self
 obtain ⟨LA, LC, rfl⟩ : ∃ A d, lv = .slice A c.log.length d := SlOk.form (hk0 (strR lv c.log) (by simp [chnL]))
 obtain ⟨WA, WC, rfl⟩ : ∃ A d, wv = .slice A c.wants.length d := SlOk.form (hk0 (strR wv c.wants) (by simp [chnL]))
 have M : Sep (fun b_ => b_ ∈ foots [chnR (⟨b, g, .slice LA c.log.length LC, .slice WA c.wants.length WC⟩ : Gh) c]) w0 w0 _ := Sep.start hw
 refine enter (vs := [_, _]) Try.func71 rfl rfl rfl ?_
 intro a F
 refine wp_seq ?_
 refine wp_region_l [.wr, .ind] ([0, 1]) rfl ?_
 refine s_bxA F M rfl rfl rfl rfl rfl ?_; (clear F a M; try clear w); intro b3 w M a F
 refine s_I F rfl rfl rfl rfl rfl rfl ?_; clear F a; intro a F
 refine t_endM M ?_; (clear M; try clear w); intro w M
 refine wp_seq ?_
 refine wp_seq ?_
 refine wp_region_t [.ind, .ind, .ind, .ind, .rd, .ind, .ind, .ind, .rd, .ind, .ind, .ind, .ind, .ind, .ind, .rd, .ind, .ind] [] (otOf [0, 1, 2, 3, 4, 5, 6, 7, 8, 9, 10, 11, 12, 13, 14, 15, 16, 17]) mixed (by kernel_rfl) ?_
 refine s_I F rfl rfl rfl rfl rfl rfl ?_; clear F a; intro a F
 refine s_pn F rfl rfl rfl rfl pt_87_H5 rfl ?_; clear F a; intro a F
 refine s_I F rfl rfl rfl rfl rfl rfl ?_; clear F a; intro a F
 refine s_fa0 F rfl rfl rfl rfl fa_104_0_H5 rfl ?_; clear F a; intro a F
 refine s_ld F rfl rfl rfl rfl sc_3_H5 rfl (by exact cell_of_blk M.h0 (lit rfl)) ?_; clear F a; intro a F
 refine s_rn 2 F rfl rfl ?_; clear F a; intro a F
 refine s_fa0 F rfl rfl rfl rfl fa_166_5_H5 rfl ?_; clear F a; intro a F
 refine s_ld F rfl rfl rfl rfl sc_69_H5 rfl (by exact cell_of_blk (ch_ok (roF M.f1)).o (lit rfl)) ?_; clear F a; intro a F
 refine s_len F rfl rfl rfl rfl sl_69_H5 rfl ?_; clear F a; intro a F
 refine s_rn 3 F rfl rfl ?_; clear F a; intro a F
 refine bsplit F 17 rfl ?_ ?_
 clear F; intro hc0 F
 try rw [hc0] at F
 replace hc0 := nd1 hc0
 refine s_rn 5 F rfl rfl ?_; clear F a; intro a F
 refine t_endM M ?_; (clear M; try clear w); intro w M
 refine c_t F rfl ?_
 refine wp_seq ?_
 replace F := F.keep [0, 1, 3, 4] rfl
 refine wp_region_l [.ind] ([0]) rfl ?_
 refine s_I F rfl rfl rfl rfl rfl rfl ?_; clear F a; intro a F
 refine t_endM M ?_; (clear M; try clear w); intro w M
 refine wp_ret ?_
 refine ret1 F rfl rfl ?_
 have hx : c.takes z = false := (by clear M F; unfold Chn.takes; grind)
 rw [(take_no hx).1, (take_no hx).2]
 replace M := M.nilT encTo 104 6
 refine ⟨_, ((⟨b, g, .slice LA c.log.length LC, .slice WA c.wants.length WC⟩ : Gh), .slice none 0 0), rfl, ⟨rfl, rfl⟩, ?_⟩
 have M1 : Sep _ _ _ (slR _ _ 104 _ _ :: _) := M; replace M := M1; clear M1
 have M1 : Sep _ _ _ (chnR _ _ :: _) := M.f2; replace M := M1; clear M1
 exact Sep.left (m := [chnR _ _, _]) M
 clear F; intro hc1 F
 try rw [hc1] at F
 replace hc1 := nd0 hc1
 refine s_fa0 F rfl rfl rfl rfl fa_104_1_H5 rfl ?_; clear F a; intro a F
 refine s_fa F rfl rfl rfl rfl fa_32_0_H5 rfl ?_; clear F a; intro a F
 refine s_ld F rfl rfl rfl rfl sc_3_H5 rfl (by exact cell_of_blk M.h0 (lit rfl)) ?_; clear F a; intro a F
 refine s_rn 2 F rfl rfl ?_; clear F a; intro a F
 refine t_endM M ?_; (clear M; try clear w); intro w M
 refine c_if F rfl ?_ ?_
 clear F; intro hc2 F
 try rw [hc2] at F
 replace hc2 := of_decide_eq_true hc2
 refine wp_seq ?_
 replace F := F.keep [0, 1, 3, 4] rfl
 refine wp_region_l [.ind] ([0]) rfl ?_
 refine s_I F rfl rfl rfl rfl rfl rfl ?_; clear F a; intro a F
 refine t_endM M ?_; (clear M; try clear w); intro w M
 refine wp_ret ?_
 refine ret1 F rfl rfl ?_
 have hx : c.takes z = false := (by clear M F; unfold Chn.takes; grind)
 rw [(take_no hx).1, (take_no hx).2]
 replace M := M.nilT encTo 104 6
 refine ⟨_, ((⟨b, g, .slice LA c.log.length LC, .slice WA c.wants.length WC⟩ : Gh), .slice none 0 0), rfl, ⟨rfl, rfl⟩, ?_⟩
 have M1 : Sep _ _ _ (slR _ _ 104 _ _ :: _) := M; replace M := M1; clear M1
 have M1 : Sep _ _ _ (chnR _ _ :: _) := M.f2; replace M := M1; clear M1
 exact Sep.left (m := [chnR _ _, _]) M
 clear F; intro hc3 F
 try rw [hc3] at F
 replace hc3 := of_decide_eq_false hc3
 refine wp_skip ?_
 refine wp_seq ?_
 replace F := F.keep [0, 1, 3, 4] rfl
 refine wp_region_l [.ind, .ind, .rd, .wr, .ind] ([0, 1, 2, 3, 4]) rfl ?_
 refine s_I F rfl rfl rfl rfl rfl rfl ?_; clear F a; intro a F
 refine s_fa0 F rfl rfl rfl rfl fa_104_1_H5 rfl ?_; clear F a; intro a F
 refine s_lda F rfl rfl rfl rfl ag_32_H5 rfl rfl (tal_word M.h0) ?_; clear F a; intro a F
 have M1 : Sep _ _ _ (chnR _ _ :: _) := M.f1; replace M := M1; clear M1
 refine s_call (m := [_]) F M rfl rfl rfl rfl rfl (rfl : _ = some [_, _]) cb_105_H5 (fun nd_ => c105 (⟨b, g, .slice LA c.log.length LC, .slice WA c.wants.length WC⟩ : Gh) c W (z.w) _ (M.drewN nd_).own.one) ?_; (clear F a M; try clear w); rintro v y w ⟨rfl, hb2⟩ M a F; (try simp only [List.cons_append, List.nil_append] at M)
 refine s_I F rfl rfl rfl rfl rfl rfl ?_; clear F a; intro a F
 refine t_endM M ?_; (clear M; try clear w); intro w M
 refine wp_ret ?_
 refine ret1 F rfl rfl ?_
 have hx : c.takes z = true := (by clear M F; unfold Chn.takes; grind)
 rw [(take_yes hx).1, (take_yes hx).2]
 refine ⟨_, y, rfl, ⟨rfl, hb2⟩, ?_⟩
 refine M.pick ?_; repeat (first | exact PkG.nil | refine PkG.cons 0 rfl rfl ?_ | refine PkG.cons 1 rfl rfl ?_)
set_option maxRecDepth 100000 in
set_option maxHeartbeats 400000 in
theorem c73y (γ : Gh) (c : Chn) (W : c.Wf) (hcb : c.begun = true) (s : Int) (w0 : World) (hw : Own w0.heap [chnR γ c]) : Cl Try.prog 73 #[.pointer (some ⟨γ.b, 0, none⟩), .int .i64 s] w0 (RetS [chnR γ c] w0 (fun r (x : Gh × Value) => r = x.2 ∧ x.1.b = γ.b) fun x => [chnR x.1 (c.word (c.tmo s)), tlR x.2 (c.wordO (c.tmo s))]) := by
 obtain ⟨b, g, lv, wv⟩ := γ
 have hk0 : (chnR ⟨b, g, lv, wv⟩ c).ok w0.heap := hw.ok _ List.mem_cons_self
 obtain ⟨LA, LC, rfl⟩ : ∃ A d, lv = .slice A c.log.length d := SlOk.form (hk0 (strR lv c.log) (by simp [chnL]))
 obtain ⟨WA, WC, rfl⟩ : ∃ A d, wv = .slice A c.wants.length d := SlOk.form (hk0 (strR wv c.wants) (by simp [chnL]))
 have M : Sep (fun b_ => b_ ∈ foots [chnR (⟨b, g, .slice LA c.log.length LC, .slice WA c.wants.length WC⟩ : Gh) c]) w0 w0 _ := Sep.start hw
 refine enter (vs := [_, _]) Try.func73 rfl rfl rfl ?_
 intro a F
 refine wp_seq ?_
 refine wp_region_l [.ind] ([0]) rfl ?_
 refine s_I F rfl rfl rfl rfl rfl rfl ?_; clear F a; intro a F
 refine t_endM M ?_; (clear M; try clear w); intro w M
 refine wp_seq ?_
 refine wp_seq ?_
 refine wp_region_l [.ind, .ind] ([0, 1]) rfl ?_
 refine s_I F rfl rfl rfl rfl rfl rfl ?_; clear F a; intro a F
 refine s_pn F rfl rfl rfl rfl pt_87_H5 rfl ?_; clear F a; intro a F
 refine t_endM M ?_; (clear M; try clear w); intro w M
 refine c_f F rfl ?_
 refine wp_skip ?_
 refine wp_seq ?_
 replace F := F.keep [0, 1, 4] rfl
 refine wp_region_l [.ind, .ind, .ind, .rd, .wr, .ind, .ind, .ind, .ind, .ind] ([0, 1, 2, 3, 4, 5, 6, 7, 8, 9]) rfl ?_
 refine s_rn 2 F rfl rfl ?_; clear F a; intro a F
 refine s_fa0 F rfl rfl rfl rfl fa_166_4_H5 rfl ?_; clear F a; intro a F
 refine s_ld F rfl rfl rfl rfl sc_50_H5 rfl (by exact cell_of_blk (ch_ok (roF M)).o (lit rfl)) ?_; clear F a; intro a F
 rw [ptv1 hcb] at F
 refine s_cq F M rfl rfl rfl rfl rfl (rfl : _ = some [_]) cb_46_H5 (fun nd_ => c46r g c.part _ ((ch_ok (roF (M.drewN nd_))).p hcb)) ?_; (clear F a M; try clear w); rintro v w rfl M a F
 refine s_rn 5 F rfl rfl ?_; clear F a; intro a F
 refine t_endM M ?_; (clear M; try clear w); intro w M
 refine wp_seq ?_
 replace F := F.keep [0, 1, 4, 5] rfl
 refine wp_region_l [.ind, .ind, .ind, .ind, .wr, .ind] ([0, 1, 2, 3, 4, 5]) rfl ?_
 refine s_rn 3 F rfl rfl ?_; clear F a; intro a F
 refine s_bld F rfl rfl rfl rfl (parts3 F rfl rfl rfl) (bl_32_0_2_3_H5 _ _ _) ?_; clear F a; intro a F
 have M1 : Sep _ _ _ (chnR _ _ :: _) := M; replace M := M1; clear M1
 refine s_call (m := [_]) F M rfl rfl rfl rfl rfl (rfl : _ = some [_, _]) cb_105_H5 (fun nd_ => c105 (⟨b, g, .slice LA c.log.length LC, .slice WA c.wants.length WC⟩ : Gh) c W (⟨4, 0, c.part.round, s, VoteM.empty⟩) _ (M.drewN nd_).own.one) ?_; (clear F a M; try clear w); rintro v y w ⟨rfl, hb2⟩ M a F; (try simp only [List.cons_append, List.nil_append] at M)
 refine s_I F rfl rfl rfl rfl rfl rfl ?_; clear F a; intro a F
 refine t_endM M ?_; (clear M; try clear w); intro w M
 refine wp_ret ?_
 refine ret1 F rfl rfl ?_
 rw [tmo_yes hcb]
 refine ⟨_, y, rfl, ⟨rfl, hb2⟩, ?_⟩
 refine M.pick ?_; repeat (first | exact PkG.nil | refine PkG.cons 0 rfl rfl ?_ | refine PkG.cons 1 rfl rfl ?_)
set_option maxRecDepth 100000 in
set_option maxHeartbeats 400000 in
theorem c73n (γ : Gh) (c : Chn) (W : c.Wf) (hcb : c.begun = false) (s : Int) (w0 : World) (hw : Own w0.heap [chnR γ c]) : Cl Try.prog 73 #[.pointer (some ⟨γ.b, 0, none⟩), .int .i64 s] w0 (RetS [chnR γ c] w0 (fun r (x : Gh × Value) => r = x.2 ∧ x.1.b = γ.b) fun x => [chnR x.1 (c.word (c.tmo s)), tlR x.2 (c.wordO (c.tmo s))]) := by
 obtain ⟨b, g, lv, wv⟩ := γ
 have hk0 : (chnR ⟨b, g, lv, wv⟩ c).ok w0.heap := hw.ok _ List.mem_cons_self
 obtain ⟨LA, LC, rfl⟩ : ∃ A d, lv = .slice A c.log.length d := SlOk.form (hk0 (strR lv c.log) (by simp [chnL]))
 obtain ⟨WA, WC, rfl⟩ : ∃ A d, wv = .slice A c.wants.length d := SlOk.form (hk0 (strR wv c.wants) (by simp [chnL]))
 have M : Sep (fun b_ => b_ ∈ foots [chnR (⟨b, g, .slice LA c.log.length LC, .slice WA c.wants.length WC⟩ : Gh) c]) w0 w0 _ := Sep.start hw
 refine enter (vs := [_, _]) Try.func73 rfl rfl rfl ?_
 intro a F
 refine wp_seq ?_
 refine wp_region_l [.ind] ([0]) rfl ?_
 refine s_I F rfl rfl rfl rfl rfl rfl ?_; clear F a; intro a F
 refine t_endM M ?_; (clear M; try clear w); intro w M
 refine wp_seq ?_
 refine wp_seq ?_
 refine wp_region_l [.ind, .ind] ([0, 1]) rfl ?_
 refine s_I F rfl rfl rfl rfl rfl rfl ?_; clear F a; intro a F
 refine s_pn F rfl rfl rfl rfl pt_87_H5 rfl ?_; clear F a; intro a F
 refine t_endM M ?_; (clear M; try clear w); intro w M
 refine c_f F rfl ?_
 refine wp_skip ?_
 refine wp_seq ?_
 replace F := F.keep [0, 1, 4] rfl
 refine wp_region_l [.ind, .ind, .ind, .rd, .wr, .ind, .ind, .ind, .ind, .ind] ([0, 1, 2, 3, 4, 5, 6, 7, 8, 9]) rfl ?_
 refine s_rn 2 F rfl rfl ?_; clear F a; intro a F
 refine s_fa0 F rfl rfl rfl rfl fa_166_4_H5 rfl ?_; clear F a; intro a F
 refine s_ld F rfl rfl rfl rfl sc_50_H5 rfl (by exact cell_of_blk (ch_ok (roF M)).o (lit rfl)) ?_; clear F a; intro a F
 rw [ptv0 hcb] at F
 refine s_cq F M rfl rfl rfl rfl rfl (rfl : _ = some [_]) cb_46_H5 (fun nd_ => c46n _) ?_; (clear F a M; try clear w); rintro v w rfl M a F
 refine s_rn 5 F rfl rfl ?_; clear F a; intro a F
 refine t_endM M ?_; (clear M; try clear w); intro w M
 refine wp_seq ?_
 replace F := F.keep [0, 1, 4, 5] rfl
 refine wp_region_l [.ind, .ind, .ind, .ind, .wr, .ind] ([0, 1, 2, 3, 4, 5]) rfl ?_
 refine s_rn 3 F rfl rfl ?_; clear F a; intro a F
 refine s_bld F rfl rfl rfl rfl (parts3 F rfl rfl rfl) (bl_32_0_2_3_H5 _ _ _) ?_; clear F a; intro a F
 have M1 : Sep _ _ _ (chnR _ _ :: _) := M; replace M := M1; clear M1
 refine s_call (m := [_]) F M rfl rfl rfl rfl rfl (rfl : _ = some [_, _]) cb_105_H5 (fun nd_ => c105 (⟨b, g, .slice LA c.log.length LC, .slice WA c.wants.length WC⟩ : Gh) c W (⟨4, 0, 0, s, VoteM.empty⟩) _ (M.drewN nd_).own.one) ?_; (clear F a M; try clear w); rintro v y w ⟨rfl, hb2⟩ M a F; (try simp only [List.cons_append, List.nil_append] at M)
 refine s_I F rfl rfl rfl rfl rfl rfl ?_; clear F a; intro a F
 refine t_endM M ?_; (clear M; try clear w); intro w M
 refine wp_ret ?_
 refine ret1 F rfl rfl ?_
 rw [tmo_no hcb]
 refine ⟨_, y, rfl, ⟨rfl, hb2⟩, ?_⟩
 refine M.pick ?_; repeat (first | exact PkG.nil | refine PkG.cons 0 rfl rfl ?_ | refine PkG.cons 1 rfl rfl ?_)
theorem c73 (γ : Gh) (c : Chn) (W : c.Wf) (s : Int) (w0 : World) (hw : Own w0.heap [chnR γ c]) : Cl Try.prog 73 #[.pointer (some ⟨γ.b, 0, none⟩), .int .i64 s] w0 (RetS [chnR γ c] w0 (fun r (x : Gh × Value) => r = x.2 ∧ x.1.b = γ.b) fun x => [chnR x.1 (c.word (c.tmo s)), tlR x.2 (c.wordO (c.tmo s))]) := by
 cases hb : c.begun
 · exact c73n γ c W hb s w0 hw
 · exact c73y γ c W hb s w0 hw
set_option maxRecDepth 100000 in
set_option maxHeartbeats 400000 in
theorem c60a (γ : Gh) (c : Chn) (hcb : c.begun = false) (v : Value) (w0 : World) (hk : Ro (fun _ => False) w0 (chnR γ c)) : Cl Try.prog 60 #[.pointer (some ⟨γ.b, 0, none⟩), v] w0 (RetQ w0 fun r => r = .int .i64 0) := by
 have M : Sep (fun _ => False) w0 w0 _ := Sep.nil _ w0
 have O := ch_ok hk
 refine enter (vs := [_, _]) Try.func60 rfl rfl rfl ?_
 intro a F
 refine wp_seq ?_
 refine wp_region_l [.ind] ([0]) rfl ?_
 refine s_I F rfl rfl rfl rfl rfl rfl ?_; clear F a; intro a F
 refine t_endM M ?_; (clear M; try clear w); intro w M
 refine wp_seq ?_
 refine wp_seq ?_
 refine wp_region_l [.ind, .ind, .ind, .ind, .ind, .ind, .rd, .ind, .ind] ([0, 1, 2, 3, 4, 5, 6, 7, 8]) rfl ?_
 refine s_I F rfl rfl rfl rfl rfl rfl ?_; clear F a; intro a F
 refine s_pn F rfl rfl rfl rfl pt_87_H5 rfl ?_; clear F a; intro a F
 refine s_rn 3 F rfl rfl ?_; clear F a; intro a F
 refine s_fa0 F rfl rfl rfl rfl fa_166_3_H5 rfl ?_; clear F a; intro a F
 refine s_ld F rfl rfl rfl rfl sc_4_H5 rfl (by exact old_cell M id O.o (lit rfl)) ?_; clear F a; intro a F
 refine s_rn 2 F rfl rfl ?_; clear F a; intro a F
 refine t_endM M ?_; (clear M; try clear w); intro w M
 refine c_if F rfl ?_ ?_
 clear F; intro hc0 F
 try rw [hc0] at F
 replace hc0 := nt hc0
 refine wp_seq ?_
 replace F := F.keep [0, 1, 4] rfl
 refine wp_region_l [.ind] ([0]) rfl ?_
 refine s_I F rfl rfl rfl rfl rfl rfl ?_; clear F a; intro a F
 refine t_endM M ?_; (clear M; try clear w); intro w M
 refine wp_ret ?_
 refine ret1 F rfl rfl ?_
 exact ⟨_, rfl, rfl, M.chg⟩
 clear F; intro hc1 F
 try rw [hc1] at F
 replace hc1 := nf hc1
 exact absurd hcb (by rw [show c.begun = true by assumption]; decide)
set_option maxRecDepth 100000 in
set_option maxHeartbeats 2000000 in
theorem c60 (γ : Gh) (c : Chn) (W : c.Wf) (hcb : c.begun = true) (l : List ByteArray) (hl : l.length ≤ 100000) (v : Value) (w0 : World) (hw : Own w0.heap [chnR γ c]) (hro : Ro (fun b => b ∈ foots [chnR γ c]) w0 (rdR v l.length 1 (l.flatMap encS))) : Cl Try.prog 60 #[.pointer (some ⟨γ.b, 0, none⟩), v] w0 (RetS [chnR γ c] w0 (fun r (γ2 : Gh) => r = .int .i64 (c.catchN l) ∧ γ2.b = γ.b) fun γ2 => [chnR γ2 (c.decs (l.take (c.catchN l)))]) := by
 obtain ⟨A, cc, rfl, hcc⟩ := RdSl.form hro.ok
 have M : Sep (fun b_ => b_ ∈ foots [chnR γ c]) w0 w0 _ := Sep.start hw
 refine enter (vs := [_, _]) Try.func60 rfl rfl rfl ?_
 intro a F
 refine wp_seq ?_
 refine wp_region_l [.ind] ([0]) rfl ?_
 refine s_I F rfl rfl rfl rfl rfl rfl ?_; clear F a; intro a F
 refine t_endM M ?_; (clear M; try clear w); intro w M
 refine wp_seq ?_
 refine wp_seq ?_
 refine wp_region_l [.ind, .ind, .ind, .ind, .ind, .ind, .rd, .ind, .ind] ([0, 1, 2, 3, 4, 5, 6, 7, 8]) rfl ?_
 refine s_I F rfl rfl rfl rfl rfl rfl ?_; clear F a; intro a F
 refine s_pn F rfl rfl rfl rfl pt_87_H5 rfl ?_; clear F a; intro a F
 refine s_rn 3 F rfl rfl ?_; clear F a; intro a F
 refine s_fa0 F rfl rfl rfl rfl fa_166_3_H5 rfl ?_; clear F a; intro a F
 refine s_ld F rfl rfl rfl rfl sc_4_H5 rfl (by exact cell_of_blk (ch_ok (roF M)).o (lit rfl)) ?_; clear F a; intro a F
 refine s_rn 2 F rfl rfl ?_; clear F a; intro a F
 refine t_endM M ?_; (clear M; try clear w); intro w M
 refine c_if F rfl ?_ ?_
 clear F; intro hc0 F
 try rw [hc0] at F
 replace hc0 := nt hc0
 exact absurd hcb (by rw [show c.begun = false by assumption]; decide)
 clear F; intro hc1 F
 try rw [hc1] at F
 replace hc1 := nf hc1
 refine wp_skip ?_
 refine wp_seq ?_
 refine wp_seq ?_
 replace F := F.keep [0, 1, 4] rfl
 refine wp_region_l [.ind, .ind, .ind] ([0, 1, 2]) rfl ?_
 refine s_I F rfl rfl rfl rfl rfl rfl ?_; clear F a; intro a F
 refine s_len F rfl rfl rfl rfl sl_69_H5 rfl ?_; clear F a; intro a F
 refine s_I F rfl rfl rfl rfl rfl rfl ?_; clear F a; intro a F
 refine t_endM M ?_; (clear M; try clear w); intro w M
 refine wp_block ?_
 have M1 : Sep _ _ _ (chnR _ _ :: _) := M; replace M := M1; clear M1
 refine loopX (X := (Int) × (Gh)) F [0, 1, 16, 17] rfl (fun ((i, γ2) : (Int) × (Gh)) => (0 ≤ i) ∧ (i ≤ l.length) ∧ (γ2.b = γ.b) ∧ ((c.decs (l.take i.toNat)).Wf) ∧ (c.catchN l = i.toNat + (c.decs (l.take i.toNat)).catchN (l.drop i.toNat))) (fun ((i, γ2) : (Int) × (Gh)) => [(18, .int .i64 i)]) (fun ((i, γ2) : (Int) × (Gh)) => [chnR γ2 (c.decs (l.take i.toNat))]) (fun ((i, γ2) : (Int) × (Gh)) => l.length - i.toNat) ((0), (γ)) M ⟨(by omega), (by omega), rfl, W, (by simp; rfl)⟩ (F.keep [18, 0, 1, 16, 17] rfl) ?_
 clear F M; clear a; (try clear w)
 rintro ⟨i, γ2⟩ a w ⟨i0, i1, hg, hW, hN⟩ F M; try dsimp only at F M
 try simp only [List.cons_append, List.nil_append] at F M
 try dsimp only at i0 i1 hg hW hN
 rw [← hg] at F
 refine wp_seq ?_
 refine wp_region_l [.ind] ([0]) rfl ?_
 refine s_bin F rfl rfl rfl rfl rfl rfl rfl ?_; clear F a; intro a F
 refine t_endM M ?_; (clear M; try clear w); intro w M
 refine wp_seq ?_
 refine c_if F rfl ?_ ?_
 clear F; intro hc2 F
 try rw [hc2] at F
 replace hc2 := of_decide_eq_true hc2
 refine wp_skip ?_
 refine wp_seq ?_
 refine wp_block ?_
 refine wp_seq ?_
 replace F := F.keep [0, 1, 16, 17, 18] rfl
 refine wp_region_l [.ind, .ind, .rd, .ind, .ind] ([0, 1, 2, 3, 4]) rfl ?_
 refine s_I F rfl rfl rfl rfl rfl rfl ?_; clear F a; intro a F
 refine s_ix F rfl rfl rfl rfl sl_69_H5 rfl rfl (by exact M.chg.ro hro) (by omega) (by omega) ?_; clear F a; intro e21 he21 a F
 refine s_ld F rfl rfl rfl rfl sc_9_H5 rfl (by exact rdX0 (M.chg.ro hro) (by intro e; rfl) he21 rfl) ?_; clear F a; intro a F
 refine s_rn 2 F rfl rfl ?_; clear F a; intro a F
 refine t_endM M ?_; (clear M; try clear w); intro w M
 refine wp_seq ?_
 refine wp_seq ?_
 replace F := F.keep [0, 1, 5, 6, 16, 17, 18] rfl
 refine wp_region_l [.ind, .wr, .ind, .ind, .ind, .wr, .ind] ([0, 1, 2, 3, 4, 5, 6]) rfl ?_
 refine s_I F rfl rfl rfl rfl rfl rfl ?_; clear F a; intro a F
 refine s_cq F M rfl rfl rfl rfl rfl (rfl : _ = some [_]) cb_97_H5 (fun nd_ => c97 e21 _) ?_; (clear F a M; try clear w); rintro v w rfl M a F
 refine s_rn 2 F rfl rfl ?_; clear F a; intro a F
 refine bsplit F 26 rfl ?_ ?_
 clear F; intro hc3 F
 try rw [hc3] at F
 replace hc3 := nt hc3
 refine s_rn 3 F rfl rfl ?_; clear F a; intro a F
 refine t_endM M ?_; (clear M; try clear w); intro w M
 refine c_t F rfl ?_
 refine wp_seq ?_
 replace F := F.keep [0, 1, 5, 6, 16, 17, 18] rfl
 refine wp_region_l [.ind, .ind] ([0, 1]) rfl ?_
 refine s_rn 2 F rfl rfl ?_; clear F a; intro a F
 refine t_endM M ?_; (clear M; try clear w); intro w M
 refine wp_ret ?_
 refine ret1 F rfl rfl ?_
 have hq := hN
 rw [drop_at he21, catch_end (by exact .inl (by assumption))] at hq
 refine ⟨_, γ2, rfl, ⟨?_, hg⟩, ?_⟩
 · show Value.int .i64 i = _
   congr 1
   omega
 · rw [show c.catchN l = i.toNat by omega]
   have M1 : Sep _ _ _ (chnR _ _ :: _) := M; replace M := M1; clear M1
   exact Sep.left (m := [chnR _ _]) M
 clear F; intro hc4 F
 try rw [hc4] at F
 replace hc4 := nf hc4
 refine s_I F rfl rfl rfl rfl rfl rfl ?_; clear F a; intro a F
 refine s_cq F M rfl rfl rfl rfl rfl (rfl : _ = some [_]) cb_98_H5 (fun nd_ => c98r γ2 (c.decs (l.take i.toNat)) _ (by exact roF (M.drewN nd_))) ?_; (clear F a M; try clear w); rintro v w rfl M a F
 refine s_I F rfl rfl rfl rfl rfl rfl ?_; clear F a; intro a F
 refine t_endM M ?_; (clear M; try clear w); intro w M
 refine c_if F rfl ?_ ?_
 clear F; intro hc5 F
 try rw [hc5] at F
 replace hc5 := of_decide_eq_true hc5
 refine wp_seq ?_
 replace F := F.keep [0, 1, 5, 6, 16, 17, 18] rfl
 refine wp_region_l [.ind, .ind] ([0, 1]) rfl ?_
 refine s_rn 2 F rfl rfl ?_; clear F a; intro a F
 refine t_endM M ?_; (clear M; try clear w); intro w M
 refine wp_ret ?_
 refine ret1 F rfl rfl ?_
 have hq := hN
 rw [drop_at he21, catch_end (by exact .inr (over_spec.2 (by assumption)))] at hq
 refine ⟨_, γ2, rfl, ⟨?_, hg⟩, ?_⟩
 · show Value.int .i64 i = _
   congr 1
   omega
 · rw [show c.catchN l = i.toNat by omega]
   have M1 : Sep _ _ _ (chnR _ _ :: _) := M; replace M := M1; clear M1
   exact Sep.left (m := [chnR _ _]) M
 clear F; intro hc6 F
 try rw [hc6] at F
 replace hc6 := of_decide_eq_false hc6
 refine wp_skip ?_
 replace F := F.keep [0, 1, 5, 6, 16, 17, 18] rfl
 refine wp_region_l [.ind, .ind, .wr] ([0, 1, 2]) rfl ?_
 refine s_rn 2 F rfl rfl ?_; clear F a; intro a F
 have M1 : Sep _ _ _ (chnR _ _ :: _) := M; replace M := M1; clear M1
 refine s_call (m := [_]) F M rfl rfl rfl rfl rfl (rfl : _ = some [_, _]) cb_99_H5 (fun nd_ => c99r γ2 (c.decs (l.take i.toNat)) hW (decs_begun.trans hcb) (over_no.2 (by omega)) e21 _ (M.drewN nd_).own.one) ?_; (clear F a M; try clear w); rintro v y w ⟨rfl, hb3⟩ M a F; (try simp only [List.cons_append, List.nil_append] at M)
 obtain ⟨γ3, v3⟩ := y
 dsimp only at M F hb3
 refine t_endM M ?_; (clear M; try clear w); intro w M
 replace F := F.keep [0, 1, 5, 6, 16, 17, 18] rfl
 refine wp_region_l [.ind, .ind] ([0, 1]) rfl ?_
 refine s_add F rfl rfl rfl rfl rfl rfl (by unfold In64; omega) ?_; clear F a; intro a F
 refine s_I F rfl rfl rfl rfl rfl rfl ?_; clear F a; intro a F
 refine t_endM M ?_; (clear M; try clear w); intro w M
 rw [hg] at F
 rw [← decs_next he21, show i.toNat + 1 = (i + 1).toNat by omega] at M
 refine again ((i + 1), (γ3)) (by show _ < _; (try dsimp only); omega) ⟨(by omega), (by assumption), (hb3.trans hg), (by rw [show (i + 1).toNat = i.toNat + 1 by omega, decs_next he21]; exact hW.dec (over_no.2 (by omega)) e21), (by rw [show (i + 1).toNat = i.toNat + 1 by omega, decs_next he21, hN, drop_at he21, catch_on (by assumption) (over_no.2 (by omega))]; omega)⟩ (F.keep [18, 0, 1, 16, 17] rfl) ?_
 try dsimp only [List.cons_append, List.nil_append]
 refine M.pick ?_; repeat (first | exact PkG.nil | refine PkG.cons 0 rfl rfl ?_)
 clear F; intro hc7 F
 try rw [hc7] at F
 replace hc7 := of_decide_eq_false hc7
 refine wp_exit ?_
 refine wp_seq ?_
 replace F := F.keep [0, 1, 16, 17, 18] rfl
 refine wp_region_l [.ind, .ind, .ind] ([0, 1, 2]) rfl ?_
 refine s_I F rfl rfl rfl rfl rfl rfl ?_; clear F a; intro a F
 refine s_len F rfl rfl rfl rfl sl_69_H5 rfl ?_; clear F a; intro a F
 refine s_I F rfl rfl rfl rfl rfl rfl ?_; clear F a; intro a F
 refine t_endM M ?_; (clear M; try clear w); intro w M
 refine wp_ret ?_
 refine ret1 F rfl rfl ?_
 have hq := hN
 rw [List.drop_eq_nil_of_le (by omega)] at hq
 have hq : c.catchN l = i.toNat := hq
 refine ⟨_, γ2, rfl, ⟨?_, hg⟩, ?_⟩
 · show Value.int .i64 l.length = _
   congr 1
   omega
 · rw [hq]
   have M1 : Sep _ _ _ (chnR _ _ :: _) := M; replace M := M1; clear M1
   exact Sep.left (m := [chnR _ _]) M
end Go.Proofs.Ytboibdmflblphaa
