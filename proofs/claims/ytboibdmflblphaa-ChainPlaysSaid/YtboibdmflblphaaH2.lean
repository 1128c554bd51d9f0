/- H2 of the seat. -/
import Derived.Test.YtboibdmflblphaaH1
namespace Go.Proofs.Ytboibdmflblphaa
open Go Fw
theorem cb_98_H2 : callB Try.prog 98 = true := by kernel_rfl
theorem fa_166_6_H2 : FA Try.prog 166 6 6 := fun _ _ _ => by kernel_rfl
theorem sc_69_H2 : scalB Try.prog 69 = true := by kernel_rfl
theorem sl_69_H2 : slcB Try.prog 69 = some (9, 1) := by kernel_rfl
theorem sc_9_H2 : scalB Try.prog 9 = true := by kernel_rfl
theorem fa_166_0_H2 : FA Try.prog 166 0 0 := fun _ _ _ => by kernel_rfl
theorem sc_3_H2 : scalB Try.prog 3 = true := by kernel_rfl
theorem fa_166_1_H2 : FA Try.prog 166 1 1 := fun _ _ _ => by kernel_rfl
theorem fa_166_2_H2 : FA Try.prog 166 2 2 := fun _ _ _ => by kernel_rfl
theorem fa_166_5_H2 : FA Try.prog 166 5 5 := fun _ _ _ => by kernel_rfl
theorem cb_39_H2 : callB Try.prog 39 = true := by kernel_rfl
theorem fa_166_4_H2 : FA Try.prog 166 4 4 := fun _ _ _ => by kernel_rfl
theorem sz_50_H2 : sizeB Try.prog 50 = some 1 := by kernel_rfl
theorem sc_50_H2 : scalB Try.prog 50 = true := by kernel_rfl
theorem cb_44_H2 : callB Try.prog 44 = true := by kernel_rfl
theorem cb_121_H2 : callB Try.prog 121 = true := by kernel_rfl
theorem bs_69_1_H2 : ∀ (x0 : ByteArray), News Try.prog (Instr.buildSlice 69 1 #[(0, .string x0)]) (.cells #[.string x0] 9) fun b => .slice (some ⟨b, 0, none⟩) 1 1 := by intros; intro w; kernel_rfl
theorem tl_69_H2 : SlT Try.prog 69 9 1 16 (.string { data := #[] }) := ⟨by kernel_rfl, by kernel_rfl, by kernel_rfl, by kernel_rfl, by decide⟩
theorem sz_69_H2 : sizeB Try.prog 69 = some 1 := by kernel_rfl
theorem cb_119_H2 : callB Try.prog 119 = true := by kernel_rfl
theorem cb_120_H2 : callB Try.prog 120 = true := by kernel_rfl
theorem cb_100_H2 : callB Try.prog 100 = true := by kernel_rfl
open VoteM AgrM CouM ChnM

theorem startO_len1 (a : ASt) : a.startO.length ≤ 1 := by
 unfold ASt.startO
 split
 · simp
 · exact beginO_len _ _
theorem head_some {l : List ByteArray} {e : ByteArray} (h : l[0]? = some e) : headW l = e := by unfold headW; rw [h]; rfl
theorem head_none {l : List ByteArray} (h : l.length = 0) : headW l = tilde := by
 unfold headW
 rw [List.eq_nil_of_length_eq_zero h]
 rfl
theorem rid_some {l : List ByteArray} {v : ByteArray} {i : Nat} (h : idxB l v = some i) : ridB l v = l.eraseIdx i := by unfold ridB; rw [h]
theorem rid_none {l : List ByteArray} {v : ByteArray} (h : idxB l v = none) : ridB l v = l := by unfold ridB; rw [h]
abbrev gp (g : Ga) : Value := .pointer (some ⟨g.b, 0, none⟩)

set_option maxRecDepth 100000 in
set_option maxHeartbeats 400000 in
theorem c100a (c : Chn) (ho : c.over = true) (b : Nat) (pv wv : Value) (LA : Option Addr) (LC : Nat) (w0 : World) (hb : w0.heap[b]? = some (chO c pv (.slice LA c.log.length LC) wv)) : Cl Try.prog 100 #[.pointer (some ⟨b, 0, none⟩)] w0 (RetQ w0 fun r => r = .slice none 0 0) := by
 have M : Sep (fun _ => False) w0 w0 _ := Sep.nil _ w0
 refine enter (vs := [_]) Try.func100 rfl rfl rfl ?_
 intro a F
 refine wp_seq ?_
 refine wp_region_l [.ind] ([0]) rfl ?_
 refine s_I F rfl rfl rfl rfl rfl rfl ?_; clear F a; intro a F
 refine t_endM M ?_; (clear M; try clear w); intro w M
 refine wp_seq ?_
 refine wp_seq ?_
 refine wp_region_l [.ind, .wr] ([0, 1]) rfl ?_
 refine s_I F rfl rfl rfl rfl rfl rfl ?_; clear F a; intro a F
 refine s_cq F M rfl rfl rfl rfl rfl (rfl : _ = some [_]) cb_98_H2 (fun nd_ => c98 c b pv wv LA LC _ (((M.drewN nd_).chg.keep b (lt_some hb) id).trans hb)) ?_; (clear F a M; try clear w); rintro v w rfl M a F
 rw [ho] at F
 replace F : Fr _ _ ((5, Value.bool true) :: _) := F
 refine t_endM M ?_; (clear M; try clear w); intro w M
 refine c_t F rfl ?_
 refine wp_seq ?_
 replace F := F.keep [0, 2] rfl
 refine wp_region_l [.ind] ([0]) rfl ?_
 refine s_I F rfl rfl rfl rfl rfl rfl ?_; clear F a; intro a F
 refine t_endM M ?_; (clear M; try clear w); intro w M
 refine wp_ret ?_
 refine ret1 F rfl rfl ?_
 exact ⟨_, rfl, rfl, M.chg⟩
set_option maxRecDepth 100000 in
set_option maxHeartbeats 2000000 in
theorem c100 (c : Chn) (hok : okA c.n c.t c.me c.log.length (headW c.wants) = true) (ho : c.over = false) (b : Nat) (pv wv : Value) (LA : Option Addr) (LC : Nat) (w0 : World) (hw : Own w0.heap [blk b (chO c pv (.slice LA c.log.length LC) wv), strR wv c.wants]) : Cl Try.prog 100 #[.pointer (some ⟨b, 0, none⟩)] w0 (RetS [blk b (chO c pv (.slice LA c.log.length LC) wv), strR wv c.wants] w0 (fun r (x : Ga × Value) => r = x.2) fun x => [blk b (chO c (gp x.1) (.slice LA c.log.length LC) wv), strR wv c.wants, agR x.1 c.fresh.start, tlR x.2 (tallsO c.log.length c.fresh.startO)]) := by
 obtain ⟨WA, WC, rfl⟩ := SlOk.form (hw.ok (strR wv c.wants) (by simp))
 have M : Sep (fun b_ => b_ ∈ foots [blk b (chO c pv (.slice LA c.log.length LC) (.slice WA c.wants.length WC)), strR (.slice WA c.wants.length WC) c.wants]) w0 w0 _ := Sep.start hw
 refine enter (vs := [_]) Try.func100 rfl rfl rfl ?_
 intro a F
 refine wp_seq ?_
 refine wp_region_l [.ind] ([0]) rfl ?_
 refine s_I F rfl rfl rfl rfl rfl rfl ?_; clear F a; intro a F
 refine t_endM M ?_; (clear M; try clear w); intro w M
 refine wp_seq ?_
 refine wp_seq ?_
 refine wp_region_l [.ind, .wr] ([0, 1]) rfl ?_
 refine s_I F rfl rfl rfl rfl rfl rfl ?_; clear F a; intro a F
 refine s_cq F M rfl rfl rfl rfl rfl (rfl : _ = some [_]) cb_98_H2 (fun nd_ => c98 c b pv _ LA LC _ (by exact M.h0)) ?_; (clear F a M; try clear w); rintro v w rfl M a F
 rw [ho] at F
 replace F : Fr _ _ ((5, Value.bool false) :: _) := F
 refine t_endM M ?_; (clear M; try clear w); intro w M
 refine c_f F rfl ?_
 refine wp_skip ?_
 refine wp_seq ?_
 replace F := F.keep [0, 2] rfl
 refine wp_region_l [.ind] ([0]) rfl ?_
 refine s_I F rfl rfl rfl rfl rfl rfl ?_; clear F a; intro a F
 refine t_endM M ?_; (clear M; try clear w); intro w M
 refine wp_seq ?_
 refine wp_seq ?_
 refine wp_region_l [.ind, .ind, .ind, .rd, .ind, .ind] ([0, 1, 2, 3, 4, 5]) rfl ?_
 refine s_rn 2 F rfl rfl ?_; clear F a; intro a F
 refine s_fa0 F rfl rfl rfl rfl fa_166_6_H2 rfl ?_; clear F a; intro a F
 refine s_ld F rfl rfl rfl rfl sc_69_H2 rfl (by exact cell_of_blk M.h0 (lit rfl)) ?_; clear F a; intro a F
 refine s_len F rfl rfl rfl rfl sl_69_H2 rfl ?_; clear F a; intro a F
 refine s_bin F rfl rfl rfl rfl rfl rfl rfl ?_; clear F a; intro a F
 refine t_endM M ?_; (clear M; try clear w); intro w M
 refine cutX (X := Unit) (m0 := []) F [0, 2] rfl M (fun (_ : Unit) => True) (fun (_ : Unit) => [(3, .string (headW c.wants))]) (fun (_ : Unit) => []) ?_ ?_
 refine c_if F rfl ?_ ?_
 clear F; intro hc0 F
 try rw [hc0] at F
 replace hc0 := of_decide_eq_true hc0
 replace F := F.keep [0, 2, 3] rfl
 refine wp_region_l [.ind, .ind, .ind, .rd, .ind, .rd, .ind] ([0, 1, 2, 3, 4, 5, 6]) rfl ?_
 refine s_rn 2 F rfl rfl ?_; clear F a; intro a F
 refine s_fa0 F rfl rfl rfl rfl fa_166_6_H2 rfl ?_; clear F a; intro a F
 refine s_ld F rfl rfl rfl rfl sc_69_H2 rfl (by exact cell_of_blk M.h0 (lit rfl)) ?_; clear F a; intro a F
 refine s_ix F rfl rfl rfl rfl sl_69_H2 rfl rfl (by exact SlOk.rd M.h1) (by omega) (by omega) ?_; clear F a; intro e16 he16 a F
 refine s_ld F rfl rfl rfl rfl sc_9_H2 rfl (by exact rdX0 (SlOk.rd M.h1) (by intro e; rfl) he16 rfl) ?_; clear F a; intro a F
 refine s_I F rfl rfl rfl rfl rfl rfl ?_; clear F a; intro a F
 refine t_endM M ?_; (clear M; try clear w); intro w M
 rw [← head_some he16] at F
 refine joined () trivial (F.keep [3, 0, 2] rfl) ?_
 try dsimp only [List.cons_append, List.nil_append]
 refine M.pick ?_; repeat (first | exact PkG.nil | refine PkG.cons 0 rfl rfl ?_ | refine PkG.cons 1 rfl rfl ?_)
 clear F; intro hc1 F
 try rw [hc1] at F
 replace hc1 := of_decide_eq_false hc1
 refine wp_skip ?_
 replace F := F
 rw [show ({ data := #[126] } : ByteArray) = headW c.wants from (head_none (by omega)).symm] at F
 refine joined () trivial (F.keep [3, 0, 2] rfl) ?_
 try dsimp only [List.cons_append, List.nil_append]
 refine M.pick ?_; repeat (first | exact PkG.nil | refine PkG.cons 0 rfl rfl ?_ | refine PkG.cons 1 rfl rfl ?_)
 clear F M; clear a; (try clear w)
 rintro _ a w _ F M; try dsimp only at F M
 try simp only [List.cons_append, List.nil_append] at F M
 refine wp_seq ?_
 refine wp_region_t [.ind, .ind, .ind, .ind, .rd, .ind, .ind, .ind, .rd, .ind, .ind, .ind, .rd, .ind, .ind, .ind, .rd, .ind, .ind, .wr, .ind, .ind, .wr] [] (otOf [0, 1, 2, 3, 4, 5, 6, 7, 8, 9, 10, 11, 12, 13, 14, 15, 16, 17, 18, 19, 20, 21, 22]) mixed (by kernel_rfl) ?_
 refine s_rn 3 F rfl rfl ?_; clear F a; intro a F
 refine s_fa0 F rfl rfl rfl rfl fa_166_0_H2 rfl ?_; clear F a; intro a F
 refine s_ld F rfl rfl rfl rfl sc_3_H2 rfl (by exact cell_of_blk M.h0 (lit rfl)) ?_; clear F a; intro a F
 refine s_rn 2 F rfl rfl ?_; clear F a; intro a F
 refine s_fa0 F rfl rfl rfl rfl fa_166_1_H2 rfl ?_; clear F a; intro a F
 refine s_ld F rfl rfl rfl rfl sc_3_H2 rfl (by exact cell_of_blk M.h0 (lit rfl)) ?_; clear F a; intro a F
 refine s_rn 2 F rfl rfl ?_; clear F a; intro a F
 refine s_fa0 F rfl rfl rfl rfl fa_166_2_H2 rfl ?_; clear F a; intro a F
 refine s_ld F rfl rfl rfl rfl sc_3_H2 rfl (by exact cell_of_blk M.h0 (lit rfl)) ?_; clear F a; intro a F
 refine s_rn 2 F rfl rfl ?_; clear F a; intro a F
 refine s_fa0 F rfl rfl rfl rfl fa_166_5_H2 rfl ?_; clear F a; intro a F
 refine s_ld F rfl rfl rfl rfl sc_69_H2 rfl (by exact cell_of_blk M.h0 (lit rfl)) ?_; clear F a; intro a F
 refine s_len F rfl rfl rfl rfl sl_69_H2 rfl ?_; clear F a; intro a F
 refine s_I F rfl rfl rfl rfl rfl rfl ?_; clear F a; intro a F
 refine s_call (m := []) F M rfl rfl rfl rfl rfl (rfl : _ = some [_, _, _, _, _]) cb_39_H2 (fun nd_ => c39r _ _ _ _ _ hok _) ?_; (clear F a M; try clear w); rintro v g w rfl M a F; (try simp only [List.cons_append, List.nil_append] at M)
 refine s_I F rfl rfl rfl rfl rfl rfl ?_; clear F a; intro a F
 refine s_fa0 F rfl rfl rfl rfl fa_166_4_H2 rfl ?_; clear F a; intro a F
 refine s_st F M.f1 rfl rfl rfl sz_50_H2 rfl rfl rfl (by exact Nat.le_of_ble_eq_true rfl) ?_; (clear M; try clear w); intro w M
 refine t_endM M ?_; (clear M; try clear w); intro w M
 refine wp_seq ?_
 replace F := F.keep [0, 2, 3] rfl
 refine wp_region_l [.ind, .ind, .ind, .ind, .rd, .wr, .wr, .ind] ([0, 1, 2, 3, 4, 5, 6, 7]) rfl ?_
 refine s_rn 3 F rfl rfl ?_; clear F a; intro a F
 refine s_fa0 F rfl rfl rfl rfl fa_166_4_H2 rfl ?_; clear F a; intro a F
 refine s_ld F rfl rfl rfl rfl sc_50_H2 rfl (by exact cell_of_blk M.h0 (lit rfl)) ?_; clear F a; intro a F
 have M1 : Sep _ _ _ (agR _ _ :: _) := M.f1; replace M := M1; clear M1
 refine s_call (m := [_]) F M rfl rfl rfl rfl rfl (rfl : _ = some [_]) cb_44_H2 (fun nd_ => c44r g c.fresh _ (M.drewN nd_).own.one) ?_; (clear F a M; try clear w); rintro v x w rfl M a F; (try simp only [List.cons_append, List.nil_append] at M)
 obtain ⟨XA, XC, rfl⟩ := SlOk.form M.h1
 refine s_call (m := []) F M rfl rfl rfl rfl rfl (rfl : _ = some [_, _]) cb_121_H2 (fun nd_ => c121 c b (gp g) _ LA LC c.fresh.startO (Nat.le_trans (startO_len1 _) (by decide)) _ _ (by exact M.h2) (by exact SlOk.rd M.h1)) ?_; (clear F a M; try clear w); rintro v y w rfl M a F; (try simp only [List.cons_append, List.nil_append] at M)
 refine s_I F rfl rfl rfl rfl rfl rfl ?_; clear F a; intro a F
 refine t_endM M ?_; (clear M; try clear w); intro w M
 refine wp_ret ?_
 refine ret1 F rfl rfl ?_
 refine ⟨_, (g, v), rfl, rfl, ?_⟩
 refine M.pick ?_; repeat (first | exact PkG.nil | refine PkG.cons 0 rfl rfl ?_ | refine PkG.cons 1 rfl rfl ?_ | refine PkG.cons 3 rfl rfl ?_ | refine PkG.cons 4 rfl rfl ?_)
set_option maxRecDepth 100000 in
set_option maxHeartbeats 2000000 in
theorem c99a (c : Chn) (W : c.Wf) (hl64 : c.over = false) (s : ByteArray) (hov : (c.laid s).over = true) (b : Nat) (pv lv wv : Value) (w0 : World) (hw : Own w0.heap [blk b (chO c pv lv wv), strR lv c.log, strR wv c.wants]) : Cl Try.prog 99 #[.pointer (some ⟨b, 0, none⟩), .string s] w0 (RetS [blk b (chO c pv lv wv), strR lv c.log, strR wv c.wants] w0 (fun r (x : Value × Value) => r = .slice none 0 0) fun x => [blk b (chO (c.laid s) pv x.1 x.2), strR x.1 (c.laid s).log, strR x.2 (c.laid s).wants]) := by
 obtain ⟨LA, LC, rfl⟩ := SlOk.form (hw.ok (strR lv c.log) (by simp))
 obtain ⟨WA, WC, rfl⟩ := SlOk.form (hw.ok (strR wv c.wants) (by simp))
 have hl64_ := over_no.1 hl64
 have hwl := W.wl
 have M : Sep (fun b_ => b_ ∈ foots [blk b (chO c pv (.slice LA c.log.length LC) (.slice WA c.wants.length WC)), strR (.slice LA c.log.length LC) c.log, strR (.slice WA c.wants.length WC) c.wants]) w0 w0 _ := Sep.start hw
 refine enter (vs := [_, _]) Try.func99 rfl rfl rfl ?_
 intro a F
 refine wp_seq ?_
 refine wp_region_l [.ind] ([0]) rfl ?_
 refine s_I F rfl rfl rfl rfl rfl rfl ?_; clear F a; intro a F
 refine t_endM M ?_; (clear M; try clear w); intro w M
 refine wp_seq ?_
 refine wp_region_l [.ind, .ind, .ind, .ind, .rd, .ind, .wr, .wr, .ind, .ind, .wr] ([0, 1, 2, 3, 4, 5, 6, 7, 8, 9, 10]) rfl ?_
 refine s_rn 3 F rfl rfl ?_; clear F a; intro a F
 refine s_fa0 F rfl rfl rfl rfl fa_166_5_H2 rfl ?_; clear F a; intro a F
 refine s_ld F rfl rfl rfl rfl sc_69_H2 rfl (by exact cell_of_blk M.h0 (lit rfl)) ?_; clear F a; intro a F
 refine s_I F rfl rfl rfl rfl rfl rfl ?_; clear F a; intro a F
 refine s_bs F M rfl rfl rfl rfl (parts1 F rfl) (bs_69_1_H2 _) ?_; (clear F a M; try clear w); intro b12 w M a F
 refine s_apE ((s : ByteArray)) F M.f2 rfl rfl rfl rfl tl_69_H2 rfl rfl (by exact rd_blk M.h0 rfl) rfl (by omega) (fun _ _ _ _ => pend_nil) ?_; (clear F a M; try clear w); intro A13 c13 w M a F
 refine s_I F rfl rfl rfl rfl rfl rfl ?_; clear F a; intro a F
 refine s_fa0 F rfl rfl rfl rfl fa_166_5_H2 rfl ?_; clear F a; intro a F
 refine s_st F M.f2 rfl rfl rfl sz_69_H2 rfl rfl rfl (by exact Nat.le_of_ble_eq_true rfl) ?_; (clear M; try clear w); intro w M
 refine t_endM M ?_; (clear M; try clear w); intro w M
 refine wp_seq ?_
 refine wp_seq ?_
 replace F := F.keep [0, 1, 4] rfl
 refine wp_region_l [.ind, .ind, .ind, .rd, .ind, .wr, .ind] ([0, 1, 2, 3, 4, 5, 6]) rfl ?_
 refine s_rn 2 F rfl rfl ?_; clear F a; intro a F
 refine s_fa0 F rfl rfl rfl rfl fa_166_6_H2 rfl ?_; clear F a; intro a F
 refine s_ld F rfl rfl rfl rfl sc_69_H2 rfl (by exact cell_of_blk M.h0 (lit rfl)) ?_; clear F a; intro a F
 refine s_I F rfl rfl rfl rfl rfl rfl ?_; clear F a; intro a F
 refine s_cq F M rfl rfl rfl rfl rfl (rfl : _ = some [_, _]) cb_119_H2 (fun nd_ => c119 c.wants (by omega) s _ _ (by exact SlOk.rd M.h3)) ?_; (clear F a M; try clear w); rintro v w rfl M a F
 have hix := @idxV c.wants s
 refine s_I F rfl rfl rfl rfl rfl rfl ?_; clear F a; intro a F
 refine t_endM M ?_; (clear M; try clear w); intro w M
 refine wp_seq ?_
 replace F := F.keep [0, 1, 4, 5] rfl
 refine wp_region_l [.ind, .ind] ([0, 1]) rfl ?_
 refine s_rn 2 F rfl rfl ?_; clear F a; intro a F
 refine t_endM M ?_; (clear M; try clear w); intro w M
 have M1 : Sep _ _ _ (strR _ c.wants :: _) := M.f3; replace M := M1; clear M1
 have M1 : Sep _ _ _ (blk b _ :: _) := M.f1; replace M := M1; clear M1
 refine cutX (X := (Value)) (m0 := [_, _]) F [0, 1, 4, 5] rfl M (fun (wv2 : Value) => True) (fun (wv2 : Value) => []) (fun (wv2 : Value) => [blk b (chO c pv (.slice A13 (c.log ++ [s]).length c13) wv2), strR wv2 (ridB c.wants s)]) ?_ ?_
 refine c_if F rfl ?_ ?_
 clear F; intro hc0 F
 try rw [hc0] at F
 replace hc0 := of_decide_eq_true hc0
 obtain ⟨i_, hi1, hi2, hi3⟩ : ∃ i, idxB c.wants s = some i ∧ i < c.wants.length ∧ (((idxB c.wants s).map Int.ofNat).getD (-1)) = (i : Int) := by
   rcases hix with ⟨_, h⟩ | ⟨h, _⟩
   · exact h
   · omega
 rw [hi3] at F
 replace F := F.keep [0, 1, 4, 5] rfl
 refine wp_region_l [.ind, .ind, .ind, .ind, .rd, .ind, .ind, .ind, .wr, .ind, .ind, .wr] ([0, 1, 2, 3, 4, 5, 6, 7, 8, 9, 10, 11]) rfl ?_
 refine s_rn 3 F rfl rfl ?_; clear F a; intro a F
 refine s_fa0 F rfl rfl rfl rfl fa_166_6_H2 rfl ?_; clear F a; intro a F
 refine s_ld F rfl rfl rfl rfl sc_69_H2 rfl (by exact cell_of_blk M.h0 (lit rfl)) ?_; clear F a; intro a F
 refine s_rn 2 F rfl rfl ?_; clear F a; intro a F
 refine s_add F rfl rfl rfl rfl rfl rfl (by unfold In64; omega) ?_; clear F a; intro a F
 have M1 : Sep _ _ _ (strR _ c.wants :: _) := M.f1; replace M := M1; clear M1
 refine s_call (m := [_]) F M rfl rfl rfl rfl rfl (rfl : _ = some [_, _, _]) cb_120_H2 (fun nd_ => c120 c.wants i_ hi2 WA WC _ (M.drewN nd_).own.one) ?_; (clear F a M; try clear w); rintro v y1 w rfl M a F; (try simp only [List.cons_append, List.nil_append] at M)
 obtain ⟨YA, YC, rfl⟩ := SlOk.form M.h0
 refine s_I F rfl rfl rfl rfl rfl rfl ?_; clear F a; intro a F
 refine s_fa0 F rfl rfl rfl rfl fa_166_6_H2 rfl ?_; clear F a; intro a F
 refine s_st F M.f1 rfl rfl rfl sz_69_H2 rfl rfl rfl (by exact Nat.le_of_ble_eq_true rfl) ?_; (clear M; try clear w); intro w M
 refine t_endM M ?_; (clear M; try clear w); intro w M
 have M1 : Sep _ _ _ (slR _ (c.wants.eraseIdx _).length _ _ _ :: _) := M.f1; replace M := M1; clear M1
 rw [← rid_some hi1] at M
 rw [← hi3] at F
 refine joined (.slice YA (ridB c.wants s).length YC) trivial (F.keep [0, 1, 4, 5] rfl) ?_
 try dsimp only [List.cons_append, List.nil_append]
 refine M.pick ?_; repeat (first | exact PkG.nil | refine PkG.cons 0 rfl rfl ?_ | refine PkG.cons 1 rfl rfl ?_ | refine PkG.cons 2 rfl rfl ?_ | refine PkG.cons 3 rfl rfl ?_)
 clear F; intro hc1 F
 try rw [hc1] at F
 replace hc1 := of_decide_eq_false hc1
 have hi1 : idxB c.wants s = none := by
   rcases hix with ⟨h, _⟩ | ⟨_, h⟩
   · omega
   · exact h
 refine wp_skip ?_
 have M1 : Sep _ _ _ (strR _ c.wants :: _) := M.f1; replace M := M1; clear M1
 replace M := M.turn (q := strR (.slice WA c.wants.length WC) (ridB c.wants s)) (by rw [rid_none hi1]) (fun hh => by rw [rid_none hi1]; exact hh)
 refine joined (.slice WA c.wants.length WC) trivial (F.keep [0, 1, 4, 5] rfl) ?_
 try dsimp only [List.cons_append, List.nil_append]
 refine M.pick ?_; repeat (first | exact PkG.nil | refine PkG.cons 0 rfl rfl ?_ | refine PkG.cons 1 rfl rfl ?_ | refine PkG.cons 2 rfl rfl ?_ | refine PkG.cons 3 rfl rfl ?_)
 clear F M; clear a; (try clear w)
 rintro wv2 a w _ F M; try dsimp only at F M
 try simp only [List.cons_append, List.nil_append] at F M
 refine wp_seq ?_
 refine wp_region_l [.ind, .wr, .ind] ([0, 1, 2]) rfl ?_
 refine s_I F rfl rfl rfl rfl rfl rfl ?_; clear F a; intro a F
 refine s_cq F M rfl rfl rfl rfl rfl (rfl : _ = some [_]) cb_100_H2 (fun nd_ => c100a (c.laid s) hov b pv _ A13 c13 _ (by exact M.h0)) ?_; (clear F a M; try clear w); rintro v w rfl M a F
 refine s_I F rfl rfl rfl rfl rfl rfl ?_; clear F a; intro a F
 refine t_endM M ?_; (clear M; try clear w); intro w M
 refine wp_ret ?_
 refine ret1 F rfl rfl ?_
 refine ⟨_, (.slice A13 (c.log ++ [s]).length c13, wv2), rfl, rfl, ?_⟩
 refine M.pick ?_; repeat (first | exact PkG.nil | refine PkG.cons 0 rfl rfl ?_ | refine PkG.cons 1 rfl rfl ?_ | refine PkG.cons 2 rfl rfl ?_)
set_option maxRecDepth 100000 in
set_option maxHeartbeats 2000000 in
theorem c99b (c : Chn) (W : c.Wf) (hl64 : c.over = false) (s : ByteArray) (hov : (c.laid s).over = false) (b : Nat) (pv lv wv : Value) (w0 : World) (hw : Own w0.heap [blk b (chO c pv lv wv), strR lv c.log, strR wv c.wants]) : Cl Try.prog 99 #[.pointer (some ⟨b, 0, none⟩), .string s] w0 (RetS [blk b (chO c pv lv wv), strR lv c.log, strR wv c.wants] w0 (fun r (x : Value × Value × Ga × Value) => r = x.2.2.2) fun x => [blk b (chO (c.laid s) (gp x.2.2.1) x.1 x.2.1), strR x.1 (c.laid s).log, strR x.2.1 (c.laid s).wants, agR x.2.2.1 (c.laid s).fresh.start, tlR x.2.2.2 (tallsO (c.laid s).log.length (c.laid s).fresh.startO)]) := by
 obtain ⟨LA, LC, rfl⟩ := SlOk.form (hw.ok (strR lv c.log) (by simp))
 obtain ⟨WA, WC, rfl⟩ := SlOk.form (hw.ok (strR wv c.wants) (by simp))
 have hl64_ := over_no.1 hl64
 have hwl := W.wl
 have M : Sep (fun b_ => b_ ∈ foots [blk b (chO c pv (.slice LA c.log.length LC) (.slice WA c.wants.length WC)), strR (.slice LA c.log.length LC) c.log, strR (.slice WA c.wants.length WC) c.wants]) w0 w0 _ := Sep.start hw
 refine enter (vs := [_, _]) Try.func99 rfl rfl rfl ?_
 intro a F
 refine wp_seq ?_
 refine wp_region_l [.ind] ([0]) rfl ?_
 refine s_I F rfl rfl rfl rfl rfl rfl ?_; clear F a; intro a F
 refine t_endM M ?_; (clear M; try clear w); intro w M
 refine wp_seq ?_
 refine wp_region_l [.ind, .ind, .ind, .ind, .rd, .ind, .wr, .wr, .ind, .ind, .wr] ([0, 1, 2, 3, 4, 5, 6, 7, 8, 9, 10]) rfl ?_
 refine s_rn 3 F rfl rfl ?_; clear F a; intro a F
 refine s_fa0 F rfl rfl rfl rfl fa_166_5_H2 rfl ?_; clear F a; intro a F
 refine s_ld F rfl rfl rfl rfl sc_69_H2 rfl (by exact cell_of_blk M.h0 (lit rfl)) ?_; clear F a; intro a F
 refine s_I F rfl rfl rfl rfl rfl rfl ?_; clear F a; intro a F
 refine s_bs F M rfl rfl rfl rfl (parts1 F rfl) (bs_69_1_H2 _) ?_; (clear F a M; try clear w); intro b12 w M a F
 refine s_apE ((s : ByteArray)) F M.f2 rfl rfl rfl rfl tl_69_H2 rfl rfl (by exact rd_blk M.h0 rfl) rfl (by omega) (fun _ _ _ _ => pend_nil) ?_; (clear F a M; try clear w); intro A13 c13 w M a F
 refine s_I F rfl rfl rfl rfl rfl rfl ?_; clear F a; intro a F
 refine s_fa0 F rfl rfl rfl rfl fa_166_5_H2 rfl ?_; clear F a; intro a F
 refine s_st F M.f2 rfl rfl rfl sz_69_H2 rfl rfl rfl (by exact Nat.le_of_ble_eq_true rfl) ?_; (clear M; try clear w); intro w M
 refine t_endM M ?_; (clear M; try clear w); intro w M
 refine wp_seq ?_
 refine wp_seq ?_
 replace F := F.keep [0, 1, 4] rfl
 refine wp_region_l [.ind, .ind, .ind, .rd, .ind, .wr, .ind] ([0, 1, 2, 3, 4, 5, 6]) rfl ?_
 refine s_rn 2 F rfl rfl ?_; clear F a; intro a F
 refine s_fa0 F rfl rfl rfl rfl fa_166_6_H2 rfl ?_; clear F a; intro a F
 refine s_ld F rfl rfl rfl rfl sc_69_H2 rfl (by exact cell_of_blk M.h0 (lit rfl)) ?_; clear F a; intro a F
 refine s_I F rfl rfl rfl rfl rfl rfl ?_; clear F a; intro a F
 refine s_cq F M rfl rfl rfl rfl rfl (rfl : _ = some [_, _]) cb_119_H2 (fun nd_ => c119 c.wants (by omega) s _ _ (by exact SlOk.rd M.h3)) ?_; (clear F a M; try clear w); rintro v w rfl M a F
 have hix := @idxV c.wants s
 refine s_I F rfl rfl rfl rfl rfl rfl ?_; clear F a; intro a F
 refine t_endM M ?_; (clear M; try clear w); intro w M
 refine wp_seq ?_
 replace F := F.keep [0, 1, 4, 5] rfl
 refine wp_region_l [.ind, .ind] ([0, 1]) rfl ?_
 refine s_rn 2 F rfl rfl ?_; clear F a; intro a F
 refine t_endM M ?_; (clear M; try clear w); intro w M
 have M1 : Sep _ _ _ (strR _ c.wants :: _) := M.f3; replace M := M1; clear M1
 have M1 : Sep _ _ _ (blk b _ :: _) := M.f1; replace M := M1; clear M1
 refine cutX (X := (Value)) (m0 := [_, _]) F [0, 1, 4, 5] rfl M (fun (wv2 : Value) => True) (fun (wv2 : Value) => []) (fun (wv2 : Value) => [blk b (chO c pv (.slice A13 (c.log ++ [s]).length c13) wv2), strR wv2 (ridB c.wants s)]) ?_ ?_
 refine c_if F rfl ?_ ?_
 clear F; intro hc0 F
 try rw [hc0] at F
 replace hc0 := of_decide_eq_true hc0
 obtain ⟨i_, hi1, hi2, hi3⟩ : ∃ i, idxB c.wants s = some i ∧ i < c.wants.length ∧ (((idxB c.wants s).map Int.ofNat).getD (-1)) = (i : Int) := by
   rcases hix with ⟨_, h⟩ | ⟨h, _⟩
   · exact h
   · omega
 rw [hi3] at F
 replace F := F.keep [0, 1, 4, 5] rfl
 refine wp_region_l [.ind, .ind, .ind, .ind, .rd, .ind, .ind, .ind, .wr, .ind, .ind, .wr] ([0, 1, 2, 3, 4, 5, 6, 7, 8, 9, 10, 11]) rfl ?_
 refine s_rn 3 F rfl rfl ?_; clear F a; intro a F
 refine s_fa0 F rfl rfl rfl rfl fa_166_6_H2 rfl ?_; clear F a; intro a F
 refine s_ld F rfl rfl rfl rfl sc_69_H2 rfl (by exact cell_of_blk M.h0 (lit rfl)) ?_; clear F a; intro a F
 refine s_rn 2 F rfl rfl ?_; clear F a; intro a F
 refine s_add F rfl rfl rfl rfl rfl rfl (by unfold In64; omega) ?_; clear F a; intro a F
 have M1 : Sep _ _ _ (strR _ c.wants :: _) := M.f1; replace M := M1; clear M1
 refine s_call (m := [_]) F M rfl rfl rfl rfl rfl (rfl : _ = some [_, _, _]) cb_120_H2 (fun nd_ => c120 c.wants i_ hi2 WA WC _ (M.drewN nd_).own.one) ?_; (clear F a M; try clear w); rintro v y1 w rfl M a F; (try simp only [List.cons_append, List.nil_append] at M)
 obtain ⟨YA, YC, rfl⟩ := SlOk.form M.h0
 refine s_I F rfl rfl rfl rfl rfl rfl ?_; clear F a; intro a F
 refine s_fa0 F rfl rfl rfl rfl fa_166_6_H2 rfl ?_; clear F a; intro a F
 refine s_st F M.f1 rfl rfl rfl sz_69_H2 rfl rfl rfl (by exact Nat.le_of_ble_eq_true rfl) ?_; (clear M; try clear w); intro w M
 refine t_endM M ?_; (clear M; try clear w); intro w M
 have M1 : Sep _ _ _ (slR _ (c.wants.eraseIdx _).length _ _ _ :: _) := M.f1; replace M := M1; clear M1
 rw [← rid_some hi1] at M
 rw [← hi3] at F
 refine joined (.slice YA (ridB c.wants s).length YC) trivial (F.keep [0, 1, 4, 5] rfl) ?_
 try dsimp only [List.cons_append, List.nil_append]
 refine M.pick ?_; repeat (first | exact PkG.nil | refine PkG.cons 0 rfl rfl ?_ | refine PkG.cons 1 rfl rfl ?_ | refine PkG.cons 2 rfl rfl ?_ | refine PkG.cons 3 rfl rfl ?_)
 clear F; intro hc1 F
 try rw [hc1] at F
 replace hc1 := of_decide_eq_false hc1
 have hi1 : idxB c.wants s = none := by
   rcases hix with ⟨h, _⟩ | ⟨_, h⟩
   · omega
   · exact h
 refine wp_skip ?_
 have M1 : Sep _ _ _ (strR _ c.wants :: _) := M.f1; replace M := M1; clear M1
 replace M := M.turn (q := strR (.slice WA c.wants.length WC) (ridB c.wants s)) (by rw [rid_none hi1]) (fun hh => by rw [rid_none hi1]; exact hh)
 refine joined (.slice WA c.wants.length WC) trivial (F.keep [0, 1, 4, 5] rfl) ?_
 try dsimp only [List.cons_append, List.nil_append]
 refine M.pick ?_; repeat (first | exact PkG.nil | refine PkG.cons 0 rfl rfl ?_ | refine PkG.cons 1 rfl rfl ?_ | refine PkG.cons 2 rfl rfl ?_ | refine PkG.cons 3 rfl rfl ?_)
 clear F M; clear a; (try clear w)
 rintro wv2 a w _ F M; try dsimp only at F M
 try simp only [List.cons_append, List.nil_append] at F M
 refine wp_seq ?_
 refine wp_region_l [.ind, .wr, .ind] ([0, 1, 2]) rfl ?_
 refine s_I F rfl rfl rfl rfl rfl rfl ?_; clear F a; intro a F
 have M1 : Sep _ _ _ (strR _ (ridB c.wants s) :: _) := M.f1; replace M := M1; clear M1
 have M1 : Sep _ _ _ (blk b _ :: _) := M.f1; replace M := M1; clear M1
 refine s_call (m := [_, _]) F M rfl rfl rfl rfl rfl (rfl : _ = some [_]) cb_100_H2 (fun nd_ => c100 (c.laid s) (W.laid hl64 s).ok hov b pv _ A13 c13 _ (Own.left (m := [_, _]) (M.drewN nd_).own)) ?_; (clear F a M; try clear w); rintro v x w rfl M a F; (try simp only [List.cons_append, List.nil_append] at M)
 obtain ⟨g, y⟩ := x
 refine s_I F rfl rfl rfl rfl rfl rfl ?_; clear F a; intro a F
 refine t_endM M ?_; (clear M; try clear w); intro w M
 refine wp_ret ?_
 refine ret1 F rfl rfl ?_
 refine ⟨_, (.slice A13 (c.log ++ [s]).length c13, wv2, g, y), rfl, rfl, ?_⟩
 refine M.pick ?_; repeat (first | exact PkG.nil | refine PkG.cons 0 rfl rfl ?_ | refine PkG.cons 1 rfl rfl ?_ | refine PkG.cons 2 rfl rfl ?_ | refine PkG.cons 3 rfl rfl ?_ | refine PkG.cons 4 rfl rfl ?_)
end Go.Proofs.Ytboibdmflblphaa
