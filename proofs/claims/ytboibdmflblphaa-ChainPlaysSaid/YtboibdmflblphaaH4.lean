/- H4 of the seat. -/
import Derived.Test.YtboibdmflblphaaH3
namespace Go.Proofs.Ytboibdmflblphaa
open Go Fw
theorem pt_87_H4 : ptrB Try.prog 87 = true := by kernel_rfl
theorem fa_166_3_H4 : FA Try.prog 166 3 3 := fun _ _ _ => by kernel_rfl
theorem sc_4_H4 : scalB Try.prog 4 = true := by kernel_rfl
theorem sz_4_H4 : sizeB Try.prog 4 = some 1 := by kernel_rfl
theorem cb_100_H4 : callB Try.prog 100 = true := by kernel_rfl
theorem sc_87_H4 : scalB Try.prog 87 = true := by kernel_rfl
theorem fa_166_4_H4 : FA Try.prog 166 4 4 := fun _ _ _ => by kernel_rfl
theorem sc_50_H4 : scalB Try.prog 50 = true := by kernel_rfl
theorem cb_48_H4 : callB Try.prog 48 = true := by kernel_rfl
theorem sc_92_H4 : scalB Try.prog 92 = true := by kernel_rfl
theorem cb_99_H4 : callB Try.prog 99 = true := by kernel_rfl
theorem tl_92_H4 : SlT Try.prog 92 104 6 56 (.agg #[.int .i64 0, .int .i64 0, .int .i64 0, .int .i64 0, .int .i64 0, .string { data := #[] }]) := ⟨by kernel_rfl, by kernel_rfl, by kernel_rfl, by kernel_rfl, by decide⟩
theorem sz_92_H4 : sizeB Try.prog 92 = some 1 := by kernel_rfl
theorem cb_123_H4 : callB Try.prog 123 = true := by kernel_rfl
theorem zr_92_H4 : zeroB Try.prog 92 = some (.slice none 0 0) := by kernel_rfl
theorem cb_98_H4 : callB Try.prog 98 = true := by kernel_rfl
theorem ag_32_H4 : aggB Try.prog 32 = some 5 := by kernel_rfl
theorem cb_41_H4 : callB Try.prog 41 = true := by kernel_rfl
theorem cb_121_H4 : callB Try.prog 121 = true := by kernel_rfl
open VoteM AgrM CouM ChnM

section
variable {S : Nat → Prop} {w0 w : World} {r : List Res} {γ : Gh} {c : Chn}
/-- A chain that has begun, opened. -/
theorem Fw.Sep.ch1O (hb : c.begun = true) (M : Sep S w0 w (chnR γ c :: r)) : Sep S w0 w (blk γ.b (Go.Proofs.Ytboibdmflblphaa.chO c (gp γ.g) γ.lv γ.wv) :: strR γ.lv c.log :: strR γ.wv c.wants :: agR γ.g c.part :: r) := by
 have M1 := Fw.Sep.chO M
 rw [ptv1 hb] at M1
 have M2 : Sep S w0 w (agR γ.g c.part :: blk γ.b (Go.Proofs.Ytboibdmflblphaa.chO c (gp γ.g) γ.lv γ.wv) :: strR γ.lv c.log :: strR γ.wv c.wants :: r) := Fw.Sep.plO hb M1.f3
 exact M2.f3.f3.f3
theorem Fw.Sep.ch1S (hb : c.begun = true) (M : Sep S w0 w (blk γ.b (Go.Proofs.Ytboibdmflblphaa.chO c (gp γ.g) γ.lv γ.wv) :: strR γ.lv c.log :: strR γ.wv c.wants :: agR γ.g c.part :: r)) : Sep S w0 w (chnR γ c :: r) := by
 have M2 : Sep S w0 w (plR γ c :: blk γ.b (Go.Proofs.Ytboibdmflblphaa.chO c (gp γ.g) γ.lv γ.wv) :: strR γ.lv c.log :: strR γ.wv c.wants :: r) := Fw.Sep.plS hb M.f3
 have M3 : Sep S w0 w (blk γ.b (Go.Proofs.Ytboibdmflblphaa.chO c (gp γ.g) γ.lv γ.wv) :: strR γ.lv c.log :: strR γ.wv c.wants :: plR γ c :: r) := M2.f3.f3.f3
 rw [← ptv1 (γ := γ) hb] at M3
 exact Fw.Sep.chS M3
end
theorem c99r (γ : Gh) (c : Chn) (W : c.Wf) (hb : c.begun = true) (ho : c.over = false) (s : ByteArray) (w0 : World) (hw : Own w0.heap [chnR γ c]) : Cl Try.prog 99 #[.pointer (some ⟨γ.b, 0, none⟩), .string s] w0 (RetS [chnR γ c] w0 (fun r (x : Gh × Value) => r = x.2 ∧ x.1.b = γ.b) fun x => [chnR x.1 (c.dec s), tlR x.2 (c.decO s)]) := by
 have M0 := Fw.Sep.ch1O hb (Sep.start hw)
 have M1 : Sep _ w0 w0 ([blk γ.b (Go.Proofs.Ytboibdmflblphaa.chO c (gp γ.g) γ.lv γ.wv), strR γ.lv c.log, strR γ.wv c.wants] ++ [agR γ.g c.part]) := M0
 have ho1 := Own.left M1.own
 cases hov : (c.laid s).over
 · obtain ⟨e1, e2⟩ := dec_more (c := c) (v := s) hov
   rw [e1, e2]
   refine ⟨(c99b c W ho s hov γ.b (gp γ.g) γ.lv γ.wv w0 ho1).out.mono ?_⟩
   rintro _ w' ⟨v, ⟨lv, wv, g, ov⟩, e, hp, hc⟩
   have M2 := Sep.frame M1 hc
   refine ⟨v, (⟨γ.b, g, lv, wv⟩, ov), e, ⟨hp, rfl⟩, ?_⟩
   exact Sep.left (m := [chnR ⟨γ.b, g, lv, wv⟩ ((c.laid s).put (c.laid s).fresh.start), tlR ov (tallsO (c.laid s).log.length (c.laid s).fresh.startO)]) (Fw.Sep.ch1S (γ := ⟨γ.b, g, lv, wv⟩) (c := (c.laid s).put (c.laid s).fresh.start) hb M2)
 · obtain ⟨e1, e2⟩ := dec_over (c := c) (v := s) hov
   rw [e1, e2]
   refine ⟨(c99a c W ho s hov γ.b (gp γ.g) γ.lv γ.wv w0 ho1).out.mono ?_⟩
   rintro _ w' ⟨v, ⟨lv, wv⟩, e, hp, hc⟩
   have M2 := Sep.frame M1 hc
   refine ⟨v, (⟨γ.b, γ.g, lv, wv⟩, .slice none 0 0), e, ⟨hp, rfl⟩, ?_⟩
   have M3 : Sep _ w0 w' [chnR ⟨γ.b, γ.g, lv, wv⟩ (c.laid s)] := Fw.Sep.ch1S (γ := ⟨γ.b, γ.g, lv, wv⟩) (c := c.laid s) hb M2
   exact (M3.nilT encTo 104 6).f1
theorem decO_len (c : Chn) (v : ByteArray) : (c.decO v).length ≤ 1 := by
 unfold Chn.decO Chn.beginO
 split
 · simp
 · rw [tallsO_len]; exact startO_len1 _
theorem ClD.frame {α : Type} {P : Program} {k : FuncId} {args : Array Value} {S : Nat → Prop} {w0 w : World} {m r : List Res} {post : Value → α → Prop} {mm : α → List Res} {R : Ending → World → Prop} (h : ClD P k args w (RetS m w post mm)) (M : Sep S w0 w (m ++ r))
   (hR : ∀ u x w', post u x → Sep S w0 w' (mm x ++ r) → R (.returned u) w') : ClD P k args w R := by
 refine ⟨fun u => (h.out u).mono ?_⟩
 rintro e u' w' ⟨h1, v, x, rfl, hp, hc⟩
 exact ⟨h1, hR v x w' hp (Sep.frame M hc)⟩
theorem tal_word {w : World} {b : Nat} {x : To} {T : TypeId} {fz : Nat × Nat} (hb : w.heap[b]? = some (.cells (encTo x).toArray T fz)) : ∀ j v, (encW x.w).toArray[j]? = some v → w.cell? ((⟨b, 1, none⟩ : Addr).add j) = some v := by
 refine cells_part hb fun j v hv => ?_
 have hj : j < 5 := (Array.getElem?_eq_some_iff.1 hv).1
 have : j = 0 ∨ j = 1 ∨ j = 2 ∨ j = 3 ∨ j = 4 := by omega
 rcases this with rfl | rfl | rfl | rfl | rfl <;> exact hv
abbrev toV (x : To) : Value := .agg (encTo x).toArray

set_option maxRecDepth 100000 in
set_option maxHeartbeats 400000 in
theorem c61 (γ : Gh) (c : Chn) (W : c.Wf) (h0 : c.begun = false → c.over = false) (w0 : World) (hw : Own w0.heap [chnR γ c]) : Cl Try.prog 61 #[.pointer (some ⟨γ.b, 0, none⟩)] w0 (RetS [chnR γ c] w0 (fun r (x : Gh × Value) => r = x.2 ∧ x.1.b = γ.b) fun x => [chnR x.1 c.start, tlR x.2 c.startO]) := by
 obtain ⟨b, g, lv, wv⟩ := γ
 have hk0 : (chnR ⟨b, g, lv, wv⟩ c).ok w0.heap := hw.ok _ List.mem_cons_self
 obtain ⟨LA, LC, rfl⟩ : ∃ A d, lv = .slice A c.log.length d := SlOk.form (hk0 (strR lv c.log) (by simp [chnL]))
 obtain ⟨WA, WC, rfl⟩ : ∃ A d, wv = .slice A c.wants.length d := SlOk.form (hk0 (strR wv c.wants) (by simp [chnL]))
 have M : Sep (fun b_ => b_ ∈ foots [chnR (⟨b, g, .slice LA c.log.length LC, .slice WA c.wants.length WC⟩ : Gh) c]) w0 w0 _ := Sep.start hw
 replace M := Fw.Sep.chO M
 dsimp only at M
 refine enter (vs := [_]) Try.func61 rfl rfl rfl ?_
 intro a F
 refine wp_seq ?_
 refine wp_region_l [.ind] ([0]) rfl ?_
 refine s_I F rfl rfl rfl rfl rfl rfl ?_; clear F a; intro a F
 refine t_endM M ?_; (clear M; try clear w); intro w M
 refine wp_seq ?_
 refine wp_seq ?_
 refine wp_region_l [.ind, .ind, .ind, .ind, .ind, .ind, .rd, .ind] ([0, 1, 2, 3, 4, 5, 6, 7]) rfl ?_
 refine s_I F rfl rfl rfl rfl rfl rfl ?_; clear F a; intro a F
 refine s_pn F rfl rfl rfl rfl pt_87_H4 rfl ?_; clear F a; intro a F
 refine s_rn 3 F rfl rfl ?_; clear F a; intro a F
 refine s_fa0 F rfl rfl rfl rfl fa_166_3_H4 rfl ?_; clear F a; intro a F
 refine s_ld F rfl rfl rfl rfl sc_4_H4 rfl (by exact cell_of_blk M.h0 (lit rfl)) ?_; clear F a; intro a F
 refine s_I F rfl rfl rfl rfl rfl rfl ?_; clear F a; intro a F
 refine t_endM M ?_; (clear M; try clear w); intro w M
 refine c_if F rfl ?_ ?_
 clear F; intro hc0 F
 try rw [hc0] at F
 skip
 have hcb : c.begun = true := by assumption
 refine wp_seq ?_
 replace F := F.keep [0, 2] rfl
 refine wp_region_l [.ind] ([0]) rfl ?_
 refine s_I F rfl rfl rfl rfl rfl rfl ?_; clear F a; intro a F
 refine t_endM M ?_; (clear M; try clear w); intro w M
 refine wp_ret ?_
 refine ret1 F rfl rfl ?_
 rw [(start_yes hcb).1, (start_yes hcb).2]
 replace M := M.nilT encTo 104 6
 refine ⟨_, ((⟨b, g, .slice LA c.log.length LC, .slice WA c.wants.length WC⟩ : Gh), .slice none 0 0), rfl, ⟨rfl, rfl⟩, ?_⟩
 have M1 : Sep _ _ _ (slR _ _ 104 _ _ :: _) := M; replace M := M1; clear M1
 have M1 : Sep _ _ _ (plR _ _ :: _) := M.f4; replace M := M1; clear M1
 have M1 : Sep _ _ _ (slR ((⟨b, g, .slice LA c.log.length LC, .slice WA c.wants.length WC⟩ : Gh)).wv _ _ _ _ :: _) := M.f4; replace M := M1; clear M1
 have M1 : Sep _ _ _ (slR ((⟨b, g, .slice LA c.log.length LC, .slice WA c.wants.length WC⟩ : Gh)).lv _ _ _ _ :: _) := M.f4; replace M := M1; clear M1
 have M1 : Sep _ _ _ (blk ((⟨b, g, .slice LA c.log.length LC, .slice WA c.wants.length WC⟩ : Gh)).b _ :: _) := M.f4; replace M := M1; clear M1
 exact Sep.left (m := [chnR ((⟨b, g, .slice LA c.log.length LC, .slice WA c.wants.length WC⟩ : Gh)) (c), _]) (Fw.Sep.chS (γ := ((⟨b, g, .slice LA c.log.length LC, .slice WA c.wants.length WC⟩ : Gh))) (c := (c)) M)
 clear F; intro hc1 F
 try rw [hc1] at F
 skip
 have hcb : c.begun = false := by simp_all
 refine wp_skip ?_
 refine wp_seq ?_
 replace F := F.keep [0, 2] rfl
 refine wp_region_l [.ind, .ind, .ind, .wr] ([0, 1, 2, 3]) rfl ?_
 refine s_rn 2 F rfl rfl ?_; clear F a; intro a F
 refine s_fa0 F rfl rfl rfl rfl fa_166_3_H4 rfl ?_; clear F a; intro a F
 refine s_st F M rfl rfl rfl sz_4_H4 rfl rfl rfl (by exact Nat.le_of_ble_eq_true rfl) ?_; (clear M; try clear w); intro w M
 refine t_endM M ?_; (clear M; try clear w); intro w M
 refine wp_seq ?_
 replace F := F.keep [0, 2] rfl
 refine wp_region_l [.ind, .wr, .ind] ([0, 1, 2]) rfl ?_
 refine s_I F rfl rfl rfl rfl rfl rfl ?_; clear F a; intro a F
 have M1 : Sep _ _ _ (slR (.slice WA c.wants.length WC) _ _ _ _ :: _) := M.f2; replace M := M1; clear M1
 have M1 : Sep _ _ _ (blk b _ :: _) := M.f1; replace M := M1; clear M1
 refine s_call (m := [_, _]) F M rfl rfl rfl rfl rfl (rfl : _ = some [_]) cb_100_H4 (fun nd_ => c100 c.go W.ok (h0 hcb) b _ _ LA LC _ (Own.left (m := [_, _]) (M.drewN nd_).own)) ?_; (clear F a M; try clear w); rintro v x w rfl M a F; (try simp only [List.cons_append, List.nil_append] at M)
 obtain ⟨g2, ov⟩ := x
 refine s_I F rfl rfl rfl rfl rfl rfl ?_; clear F a; intro a F
 refine t_endM M ?_; (clear M; try clear w); intro w M
 refine wp_ret ?_
 refine ret1 F rfl rfl ?_
 rw [(start_no hcb (h0 hcb)).1, (start_no hcb (h0 hcb)).2]
 refine ⟨_, (⟨b, g2, .slice LA c.log.length LC, .slice WA c.wants.length WC⟩, ov), rfl, ⟨rfl, rfl⟩, ?_⟩
 have M1 : Sep _ _ _ (slR _ _ 104 _ _ :: _) := M.f3; replace M := M1; clear M1
 have M1 : Sep _ _ _ (agR _ _ :: _) := M.f3; replace M := M1; clear M1
 have M1 : Sep _ _ _ (slR ((⟨b, g2, .slice LA c.log.length LC, .slice WA c.wants.length WC⟩ : Gh)).wv _ _ _ _ :: _) := M.f3; replace M := M1; clear M1
 have M1 : Sep _ _ _ (slR ((⟨b, g2, .slice LA c.log.length LC, .slice WA c.wants.length WC⟩ : Gh)).lv _ _ _ _ :: _) := M.f4; replace M := M1; clear M1
 have M1 : Sep _ _ _ (blk ((⟨b, g2, .slice LA c.log.length LC, .slice WA c.wants.length WC⟩ : Gh)).b _ :: _) := M.f4; replace M := M1; clear M1
 exact Sep.left (m := [chnR ((⟨b, g2, .slice LA c.log.length LC, .slice WA c.wants.length WC⟩ : Gh)) ((c.go.put c.go.fresh.start)), _]) (Fw.Sep.ch1S (γ := ((⟨b, g2, .slice LA c.log.length LC, .slice WA c.wants.length WC⟩ : Gh))) (c := ((c.go.put c.go.fresh.start))) (rfl) M)
set_option maxRecDepth 100000 in
set_option maxHeartbeats 400000 in
theorem c123 (γ : Gh) (c : Chn) (W : c.Wf) (hcb : c.begun = true) (hco : c.over = false) (cb ob : Nat) (out : List To) (ov : Value) (hol : out.length ≤ 100000) (w0 : World) (hw : Own w0.heap [blk cb (.cells #[.pointer (some ⟨γ.b, 0, none⟩)] 87 (0, 0)), blk ob (.cells #[ov] 92 (0, 0)), tlR ov out, chnR γ c]) : ClD Try.prog 123 #[.pointer (some ⟨cb, 0, none⟩), .pointer (some ⟨ob, 0, none⟩)] w0 (RetS [blk cb (.cells #[.pointer (some ⟨γ.b, 0, none⟩)] 87 (0, 0)), blk ob (.cells #[ov] 92 (0, 0)), tlR ov out, chnR γ c] w0 (fun _ (x : Gh × Value) => x.1.b = γ.b) fun x => [blk cb (.cells #[.pointer (some ⟨γ.b, 0, none⟩)] 87 (0, 0)), blk ob (.cells #[x.2] 92 (0, 0)), tlR x.2 (c.nextO out), chnR x.1 c.next]) := by
 obtain ⟨OA, OC, rfl⟩ := SlOk.form (hw.ok (tlR ov out) (by simp))
 have M : Sep (fun b_ => b_ ∈ foots [blk cb (.cells #[.pointer (some ⟨γ.b, 0, none⟩)] 87 (0, 0)), blk ob (.cells #[(.slice OA out.length OC)] 92 (0, 0)), tlR (.slice OA out.length OC) out, chnR γ c]) w0 w0 _ := Sep.start hw
 replace M := Fw.Sep.ch1O hcb M.f3
 refine enterD (vs := [_, _]) Try.func123 rfl rfl rfl ?_
 intro a F
 refine wp_seq ?_
 refine wp_region_l [.rd, .ind, .ind, .rd, .wr, .ind, .ind, .ind, .ind, .ind] ([0, 1, 2, 3, 4, 5, 6, 7, 8, 9]) rfl ?_
 refine s_ld F rfl rfl rfl rfl sc_87_H4 rfl (by exact cell_of_blk M.h4 (lit rfl)) ?_; clear F a; intro a F
 refine s_I F rfl rfl rfl rfl rfl rfl ?_; clear F a; intro a F
 refine s_fa0 F rfl rfl rfl rfl fa_166_4_H4 rfl ?_; clear F a; intro a F
 refine s_ld F rfl rfl rfl rfl sc_50_H4 rfl (by exact cell_of_blk M.h0 (lit rfl)) ?_; clear F a; intro a F
 refine s_cq F M rfl rfl rfl rfl rfl (rfl : _ = some [_]) cb_48_H4 (fun nd_ => c48r γ.g c.part _ (by exact M.h3)) ?_; (clear F a M; try clear w); rintro v w rfl M a F
 refine s_rn 5 F rfl rfl ?_; clear F a; intro a F
 refine t_endM M ?_; (clear M; try clear w); intro w M
 refine wp_seq ?_
 replace F := F.keep [0, 1, 2, 3] rfl
 refine wp_region_l [.ind] ([0]) rfl ?_
 refine s_I F rfl rfl rfl rfl rfl rfl ?_; clear F a; intro a F
 refine t_endM M ?_; (clear M; try clear w); intro w M
 refine c_if F rfl ?_ ?_
 clear F; intro hc0 F
 try rw [hc0] at F
 skip
 have hd : c.part.done = true := by assumption
 replace M := Fw.Sep.ch1S hcb M
 replace F := F.keep [0, 1, 2, 3] rfl
 refine wp_region_t [.rd, .rd, .ind, .wr, .wr, .wr] [(0, 3)] (otOf [0, 1, 2, 3, 4, 5]) mixed (by kernel_rfl) ?_
 refine s_ldL F rfl rfl rfl rfl sc_92_H4 rfl (by exact cell_of_blk M.h2 (lit rfl)) ?_; clear F a; intro a F
 refine s_ldL F rfl rfl rfl rfl sc_87_H4 rfl (by exact cell_of_blk M.h1 (lit rfl)) ?_; clear F a; intro a F
 refine s_I F rfl rfl rfl rfl rfl rfl ?_; clear F a; intro a F
 have M1 : Sep _ _ _ (chnR _ _ :: _) := M; replace M := M1; clear M1
 refine s_callP (m := [_]) F M rfl rfl rfl rfl rfl (rfl : _ = some [_, _]) cb_99_H4 (fun nd_ => c99r γ c W hcb hco c.part.dec _ (M.drewN nd_).own.one) (fun _ x w _ M => by (try simp only [List.cons_append, List.nil_append] at M); exact (by (refine pend_skip rfl ?_); (refine pend_take (by exact cell_of_blk M.h3 (lit rfl)) ?_); exact pend_none)) ?_; (clear F a M; try clear w); rintro v x w ⟨rfl, hb2⟩ M a F; (try simp only [List.cons_append, List.nil_append] at M)
 obtain ⟨γ2, v2⟩ := x
 dsimp only at M F hb2
 have hdl := decO_len c c.part.dec
 obtain ⟨DA, DC, rfl⟩ := SlOk.form M.h1
 refine s_apM (c.decO c.part.dec) F M.f4 rfl rfl rfl rfl tl_92_H4 rfl rfl (by exact SlOk.rd M.h1) (by intro e; rfl) (by omega) (fun A c w M => (by (refine pend_skip rfl ?_); (refine pend_skip rfl ?_); exact pend_none)) ?_; (clear F a M; try clear w); intro A17 c17 w M a F
 refine s_stL F M.f4 rfl rfl rfl sz_92_H4 rfl rfl rfl (by exact Nat.le_of_ble_eq_true rfl) (fun w M => (by (refine pend_skip rfl ?_); (refine pend_skip rfl ?_); exact pend_none)) ?_; (clear M; try clear w); intro w M
 refine t_endM M ?_; (clear M; try clear w); intro w M
 refine (ret0 F rfl ?_).2
 rw [(next_yes (out := out) hd).1, (next_yes (out := out) hd).2]
 refine ⟨_, (γ2, .slice A17 (out ++ c.decO c.part.dec).length c17), rfl, hb2, ?_⟩
 refine M.pick ?_; repeat (first | exact PkG.nil | refine PkG.cons 0 rfl rfl ?_ | refine PkG.cons 1 rfl rfl ?_ | refine PkG.cons 2 rfl rfl ?_ | refine PkG.cons 4 rfl rfl ?_)
 clear F; intro hc1 F
 try rw [hc1] at F
 skip
 have hd : c.part.done = false := by simp_all
 refine wp_skip ?_
 refine (ret0 F rfl ?_).2
 rw [(next_no (out := out) hd).1, (next_no (out := out) hd).2]
 replace M := Fw.Sep.ch1S hcb M
 refine ⟨_, (γ, .slice OA out.length OC), rfl, rfl, ?_⟩
 refine M.pick ?_; repeat (first | exact PkG.nil | refine PkG.cons 0 rfl rfl ?_ | refine PkG.cons 1 rfl rfl ?_ | refine PkG.cons 2 rfl rfl ?_ | refine PkG.cons 3 rfl rfl ?_)
set_option maxRecDepth 100000 in
set_option maxHeartbeats 400000 in
theorem c105y (γ : Gh) (c : Chn) (W : c.Wf) (hcb : c.begun = true) (hco : c.over = false) (q : Wrd) (w0 : World) (hw : Own w0.heap [chnR γ c]) : Cl Try.prog 105 #[.pointer (some ⟨γ.b, 0, none⟩), wrdV q] w0 (RetS [chnR γ c] w0 (fun r (x : Gh × Value) => r = x.2 ∧ x.1.b = γ.b) fun x => [chnR x.1 (c.word q), tlR x.2 (c.wordO q)]) := by
 obtain ⟨b, g, lv, wv⟩ := γ
 have hk0 : (chnR ⟨b, g, lv, wv⟩ c).ok w0.heap := hw.ok _ List.mem_cons_self
 obtain ⟨LA, LC, rfl⟩ : ∃ A d, lv = .slice A c.log.length d := SlOk.form (hk0 (strR lv c.log) (by simp [chnL]))
 obtain ⟨WA, WC, rfl⟩ : ∃ A d, wv = .slice A c.wants.length d := SlOk.form (hk0 (strR wv c.wants) (by simp [chnL]))
 have M : Sep (fun b_ => b_ ∈ foots [chnR (⟨b, g, .slice LA c.log.length LC, .slice WA c.wants.length WC⟩ : Gh) c]) w0 w0 _ := Sep.start hw
 replace M := Fw.Sep.ch1O hcb M
 dsimp only at M
 refine enterX (vs := [_, _]) Try.func105 rfl rfl rfl ?_
 intro a F
 refine wp_seq ?_
 refine wp_region_l [.wr, .wr, .wr] ([0, 1, 2]) rfl ?_
 refine s_bxS F M rfl rfl rfl rfl rfl rfl ?_; (clear F a M; try clear w); intro b2 w M a F
 refine s_bxA F M rfl rfl rfl rfl rfl ?_; (clear F a M; try clear w); intro b3 w M a F
 refine s_alc F M rfl rfl rfl rfl zr_92_H4 rfl ?_; (clear F a M; try clear w); intro b4 w M a F
 refine t_endM M ?_; (clear M; try clear w); intro w M
 refine wp_seq ?_
 refine wp_seq ?_
 refine wp_region_l [.rd, .ind, .ind, .rd, .ind, .ind, .rd, .wr, .ind] ([0, 1, 2, 3, 4, 5, 6, 7, 8]) rfl ?_
 refine s_ld F rfl rfl rfl rfl sc_87_H4 rfl (by exact cell_of_blk M.h2 (lit rfl)) ?_; clear F a; intro a F
 refine s_I F rfl rfl rfl rfl rfl rfl ?_; clear F a; intro a F
 refine s_fa0 F rfl rfl rfl rfl fa_166_3_H4 rfl ?_; clear F a; intro a F
 refine s_ld F rfl rfl rfl rfl sc_4_H4 rfl (by exact cell_of_blk M.h3 (lit rfl)) ?_; clear F a; intro a F
 refine s_rn 2 F rfl rfl ?_; clear F a; intro a F
 refine bsplit F 10 rfl ?_ ?_
 clear F; intro hc0 F
 try rw [hc0] at F
 replace hc0 := nt hc0
 refine s_rn 3 F rfl rfl ?_; clear F a; intro a F
 refine t_endM M ?_; (clear M; try clear w); intro w M
 refine c_t F rfl ?_
 refine wp_seq ?_
 replace F := F.keep [0, 1, 2, 3, 4] rfl
 refine wp_region_l [.wr] ([0]) rfl ?_
 refine s_st F M rfl rfl rfl sz_92_H4 rfl rfl rfl (by exact Nat.le_of_ble_eq_true rfl) ?_; (clear M; try clear w); intro w M
 refine t_endM M ?_; (clear M; try clear w); intro w M
 refine wp_ret ?_
 refine bodyD ?_
 refine rt1 F rfl (by exact rv_s F rfl sc_92_H4 (cell_of_blk M.h0 (lit rfl))) ?_
 exact absurd hcb (by rw [show c.begun = false by assumption]; decide)
 clear F; intro hc1 F
 try rw [hc1] at F
 replace hc1 := nf hc1
 refine s_ld F rfl rfl rfl rfl sc_87_H4 rfl (by exact cell_of_blk M.h2 (lit rfl)) ?_; clear F a; intro a F
 refine s_cq F M rfl rfl rfl rfl rfl (rfl : _ = some [_]) cb_98_H4 (fun nd_ => c98 c b _ _ LA LC _ (by exact M.h3)) ?_; (clear F a M; try clear w); rintro v w rfl M a F
 refine s_I F rfl rfl rfl rfl rfl rfl ?_; clear F a; intro a F
 refine t_endM M ?_; (clear M; try clear w); intro w M
 refine c_if F rfl ?_ ?_
 clear F; intro hc2 F
 try rw [hc2] at F
 replace hc2 := of_decide_eq_true hc2
 refine wp_seq ?_
 replace F := F.keep [0, 1, 2, 3, 4] rfl
 refine wp_region_l [.wr] ([0]) rfl ?_
 refine s_st F M rfl rfl rfl sz_92_H4 rfl rfl rfl (by exact Nat.le_of_ble_eq_true rfl) ?_; (clear M; try clear w); intro w M
 refine t_endM M ?_; (clear M; try clear w); intro w M
 refine wp_ret ?_
 refine bodyD ?_
 refine rt1 F rfl (by exact rv_s F rfl sc_92_H4 (cell_of_blk M.h0 (lit rfl))) ?_
 exact absurd (over_spec.2 (by assumption)) (by rw [hco]; decide)
 clear F; intro hc3 F
 try rw [hc3] at F
 replace hc3 := of_decide_eq_false hc3
 refine wp_skip ?_
 refine wp_seq ?_
 refine wp_dfr2 F rfl rfl rfl ?_; clear F a; intro a F
 refine wp_seq ?_
 replace F := F.keep [0, 1, 2, 3, 4] rfl
 refine wp_region_tD [.rd, .rd, .ind, .ind, .rd, .rd, .wr, .wr, .wr] [(0, 6)] (otOf [0, 1, 2, 3, 4, 5, 6, 7, 8]) mixed (by kernel_rfl) ?_
 refine s_ldL F rfl rfl rfl rfl sc_87_H4 rfl (by exact cell_of_blk M.h2 (lit rfl)) ?_; clear F a; intro a F
 refine s_ldL F rfl rfl rfl rfl sc_87_H4 rfl (by exact cell_of_blk M.h2 (lit rfl)) ?_; clear F a; intro a F
 refine s_I F rfl rfl rfl rfl rfl rfl ?_; clear F a; intro a F
 refine s_fa0 F rfl rfl rfl rfl fa_166_4_H4 rfl ?_; clear F a; intro a F
 refine s_ldL F rfl rfl rfl rfl sc_50_H4 rfl (by exact cell_of_blk M.h3 (lit rfl)) ?_; clear F a; intro a F
 refine s_ldaL F rfl rfl rfl rfl ag_32_H4 rfl rfl (cells_whole M.h1) ?_; clear F a; intro a F
 have M1 : Sep _ _ _ (agR g _ :: _) := M.f6; replace M := M1; clear M1
 refine s_callP (m := [_]) F M rfl rfl rfl rfl rfl (rfl : _ = some [_, _]) cb_41_H4 (fun nd_ => c41r g c.part q (W.p hcb) _ (M.drewN nd_).own.one) (fun _ x w _ M => by (try simp only [List.cons_append, List.nil_append] at M); exact (by (refine pend_skip rfl ?_); (refine pend_skip rfl ?_); (refine pend_skip rfl ?_); (refine pend_take (by exact cell_of_blk M.h4 (lit rfl)) ?_); exact pend_none)) ?_; (clear F a M; try clear w); rintro v x w rfl M a F; (try simp only [List.cons_append, List.nil_append] at M)
 obtain ⟨gv, ov⟩ := x
 dsimp only at M F
 have htl := take_len (W.p hcb) q
 refine s_callP (m := []) F M rfl rfl rfl rfl rfl (rfl : _ = some [_, _]) cb_121_H4 (fun nd_ => c121 c b (gp g) _ LA LC (c.part.take q).2 (by omega) _ _ (by exact M.h5) (by exact SlOk.rd M.h1)) (fun _ x w _ M => by (try simp only [List.cons_append, List.nil_append] at M); exact (by (refine pend_skip rfl ?_); (refine pend_skip rfl ?_); (refine pend_skip rfl ?_); (refine pend_skip rfl ?_); exact pend_none)) ?_; (clear F a M; try clear w); rintro v y w rfl M a F; (try simp only [List.cons_append, List.nil_append] at M)
 have htl2 := tallsO_len (h := c.log.length) (l := (c.part.take q).2)
 obtain ⟨TA, TC, rfl⟩ := SlOk.form M.h0
 refine s_stL F M.f3 rfl rfl rfl sz_92_H4 rfl rfl rfl (by exact Nat.le_of_ble_eq_true rfl) (fun w M => (by (refine pend_skip rfl ?_); (refine pend_skip rfl ?_); (refine pend_skip rfl ?_); (refine pend_skip rfl ?_); exact pend_none)) ?_; (clear M; try clear w); intro w M
 refine t_endM M ?_; (clear M; try clear w); intro w M
 refine wp_ret ?_
 have M1 : Sep _ _ _ (slR _ _ 32 _ _ :: _) := M.f3; replace M := M1; clear M1
 replace M := M.tl
 have M1 : Sep _ _ _ (agR _ _ :: _) := M.f2; replace M := M1; clear M1
 have M1 : Sep _ _ _ (slR (.slice WA c.wants.length WC) _ _ _ _ :: _) := M.f7; replace M := M1; clear M1
 have M1 : Sep _ _ _ (slR (.slice LA c.log.length LC) _ _ _ _ :: _) := M.f7; replace M := M1; clear M1
 have M1 : Sep _ _ _ (blk b _ :: _) := M.f7; replace M := M1; clear M1
 replace M := Fw.Sep.ch1S (γ := (⟨b, ⟨g.b, g.vb, gv⟩, .slice LA c.log.length LC, .slice WA c.wants.length WC⟩ : Gh)) (c := c.put (c.part.take q).1) hcb M
 have M1 : Sep _ _ _ (chnR _ _ :: _) := M; replace M := M1; clear M1
 have M1 : Sep _ _ _ (slR _ _ 104 _ _ :: _) := M.f2; replace M := M1; clear M1
 have M1 : Sep _ _ _ (blk b4 _ :: _) := M.f2; replace M := M1; clear M1
 have M1 : Sep _ _ _ (blk b2 _ :: _) := M.f4; replace M := M1; clear M1
 have ho4 := Own.left (m := [_, _, _, _]) M.own
 have hD := c123 (⟨b, ⟨g.b, g.vb, gv⟩, .slice LA c.log.length LC, .slice WA c.wants.length WC⟩ : Gh) (c.put (c.part.take q).1) (W.put (take_wf (W.p hcb) q).1) hcb hco b2 b4 (tallsO c.log.length (c.part.take q).2) _ (by omega) _ ho4
 refine retD F rfl rfl sc_92_H4 cb_123_H4 (ClD.frame hD M ?_)
 rintro u ⟨γ3, v3⟩ w2 hp M6
 refine ⟨u, v3, rfl, cell_of_blk M6.h1 (lit rfl), ?_⟩
 rw [word_yes hcb hco, wordO_yes hcb hco]
 refine ⟨_, (γ3, v3), rfl, ⟨rfl, hp⟩, ?_⟩
 clear M
 have M := M6
 refine M.pick ?_; repeat (first | exact PkG.nil | refine PkG.cons 2 rfl rfl ?_ | refine PkG.cons 3 rfl rfl ?_)
end Go.Proofs.Ytboibdmflblphaa
