/- G5 of the seat. -/
import Derived.Test.YtboibdmflblphaaG4
namespace Go.Proofs.Ytboibdmflblphaa
open Go Fw
theorem cb_66_G5 : callB Try.prog 66 = true := by kernel_rfl
theorem cb_57_G5 : callB Try.prog 57 = true := by kernel_rfl
theorem fa_86_0_G5 : FA Try.prog 86 0 0 := fun _ _ _ => by kernel_rfl
theorem sc_3_G5 : scalB Try.prog 3 = true := by kernel_rfl
theorem fa_86_1_G5 : FA Try.prog 86 1 1 := fun _ _ _ => by kernel_rfl
theorem fa_86_2_G5 : FA Try.prog 86 2 2 := fun _ _ _ => by kernel_rfl
theorem cb_58_G5 : callB Try.prog 58 = true := by kernel_rfl
theorem cb_67_G5 : callB Try.prog 67 = true := by kernel_rfl
theorem zr_100_G5 : zeroB Try.prog 100 = some (.agg #[.int .i64 0, .int .i64 0, .int .i64 0, .bool false, .int .i64 0, .int .i64 0, .string { data := #[] }, .int .i64 0, .int .i64 0, .string { data := #[] }, .int .i64 0, .string { data := #[] }, .int .i64 0, .slice none 0 0, .int .i64 0, .int .i64 0, .slice none 0 0, .bool false, .bool false, .string { data := #[] }, .slice none 0 0, .slice none 0 0]) := by kernel_rfl
theorem sz_100_G5 : sizeB Try.prog 100 = some 22 := by kernel_rfl
theorem pt_87_G5 : ptrB Try.prog 87 = true := by kernel_rfl
theorem sl_97_G5 : slcB Try.prog 97 = some (106, 9) := by kernel_rfl
theorem ag_100_G5 : aggB Try.prog 100 = some 22 := by kernel_rfl
theorem ag_106_G5 : aggB Try.prog 106 = some 9 := by kernel_rfl
theorem zr_106_G5 : zeroB Try.prog 106 = some (.agg #[.int .i64 0, .int .i64 0, .int .i64 0, .int .i64 0, .int .i64 0, .int .i64 0, .int .i64 0, .string { data := #[] }, .slice none 0 0]) := by kernel_rfl
theorem sz_106_G5 : sizeB Try.prog 106 = some 9 := by kernel_rfl
theorem fa_106_0_G5 : FA Try.prog 106 0 0 := fun _ _ _ => by kernel_rfl
theorem fa_106_2_G5 : FA Try.prog 106 2 2 := fun _ _ _ => by kernel_rfl
theorem fa_104_1_G5 : FA Try.prog 104 1 1 := fun _ _ _ => by kernel_rfl
theorem fa_32_4_G5 : FA Try.prog 32 4 4 := fun _ _ _ => by kernel_rfl
theorem sc_9_G5 : scalB Try.prog 9 = true := by kernel_rfl
theorem cb_68_G5 : callB Try.prog 68 = true := by kernel_rfl
theorem cb_59_G5 : callB Try.prog 59 = true := by kernel_rfl
theorem cb_69_G5 : callB Try.prog 69 = true := by kernel_rfl
theorem cb_61_G5 : callB Try.prog 61 = true := by kernel_rfl
theorem ag_104_G5 : aggB Try.prog 104 = some 6 := by kernel_rfl
theorem cb_70_G5 : callB Try.prog 70 = true := by kernel_rfl
theorem cb_71_G5 : callB Try.prog 71 = true := by kernel_rfl
theorem fa_106_1_G5 : FA Try.prog 106 1 1 := fun _ _ _ => by kernel_rfl
theorem cb_72_G5 : callB Try.prog 72 = true := by kernel_rfl
theorem cb_73_G5 : callB Try.prog 73 = true := by kernel_rfl
theorem fa_106_3_G5 : FA Try.prog 106 3 8 := fun _ _ _ => by kernel_rfl
theorem sc_69_G5 : scalB Try.prog 69 = true := by kernel_rfl
theorem cb_74_G5 : callB Try.prog 74 = true := by kernel_rfl
theorem cb_60_G5 : callB Try.prog 60 = true := by kernel_rfl
theorem cb_75_G5 : callB Try.prog 75 = true := by kernel_rfl
theorem fa_100_5_G5 : FA Try.prog 100 5 20 := fun _ _ _ => by kernel_rfl
theorem sl_69_G5 : slcB Try.prog 69 = some (9, 1) := by kernel_rfl
theorem cb_64_G5 : callB Try.prog 64 = true := by kernel_rfl
theorem fa_100_6_G5 : FA Try.prog 100 6 21 := fun _ _ _ => by kernel_rfl
theorem cb_65_G5 : callB Try.prog 65 = true := by kernel_rfl
theorem cb_63_G5 : callB Try.prog 63 = true := by kernel_rfl
theorem cb_62_G5 : callB Try.prog 62 = true := by kernel_rfl
open VoteM AgrM CouM ChnM

section
variable {S : Nat → Prop} {w0 w : World} {r : List Res} {p x0 x1 x2 x3 x4 x5 x6 x7 x8 x9 x10 : Res}
open Fw
theorem Fw.Sep.f9 (M : Sep S w0 w (x0 :: x1 :: x2 :: x3 :: x4 :: x5 :: x6 :: x7 :: x8 :: p :: r)) : Sep S w0 w (p :: x0 :: x1 :: x2 :: x3 :: x4 :: x5 :: x6 :: x7 :: x8 :: r) := (M.perm (List.perm_middle (l₁ := [x0, x1, x2, x3, x4, x5, x6, x7, x8])))
theorem Fw.Sep.h8 (M : Sep S w0 w (x0 :: x1 :: x2 :: x3 :: x4 :: x5 :: x6 :: x7 :: p :: r)) : p.ok w.heap := M.own.ok p (by simp)
end
theorem chn_new (γ : Gh) (n t me : Int) (a a' : ASt) : chnR γ (ChnM.newC n t me a) = chnR γ (ChnM.newC n t me a') := by
 have hp : ∀ a, plR γ (ChnM.newC n t me a) = bigR id [] := fun a => by
   unfold plR
   rw [if_neg (show ¬ (ChnM.newC n t me a).begun = true from fun h => by cases h)]
 have hv : ∀ a, ptv γ (ChnM.newC n t me a) = .pointer none := fun a => ptv0 rfl
 unfold chnR chnL
 rw [hp, hp, hv, hv]
 rfl
theorem Fw.Sep.chNew {S : Nat → Prop} {w0 w : World} {r : List Res} {γ : Gh} {n t me : Int} {a a' : ASt} (M : Sep S w0 w (chnR γ (ChnM.newC n t me a) :: r)) : Sep S w0 w (chnR γ (ChnM.newC n t me a') :: r) := by
 rw [chn_new γ n t me a' a]
 exact M
theorem ro_newL {w0 w : World} {m r : List Res} {q : Res} (M : Sep (fun _ => False) w0 w (m ++ r)) (h : Ro (fun _ => False) w0 q) : Ro (fun b => b ∈ foots m) w q := by
 refine ⟨M.chg.ro h, fun b hb => ⟨Nat.lt_of_lt_of_le (h.lt b hb).1 M.chg.size, fun hp => ?_⟩⟩
 have hp2 : b ∈ foots (m ++ r) := by
   simp only [foots, List.flatMap_append, List.mem_append] at hp ⊢
   exact .inl hp
 rcases M.mine b hp2 with h1 | h1
 · exact h1
 · exact absurd (h.lt b hb).1 (by omega)
/-- What is caught, whether it has begun or not. -/
def cgN (c : Chn) (l : List ByteArray) : Nat := if c.begun = true then c.catchN l else 0
def cgC (c : Chn) (l : List ByteArray) : Chn := c.decs (l.take (cgN c l))
theorem cg_y {c : Chn} {l : List ByteArray} (h : c.begun = true) : cgN c l = c.catchN l := if_pos h
theorem cg_n {c : Chn} {l : List ByteArray} (h : c.begun = false) : cgN c l = 0 := if_neg (by rw [h]; decide)
theorem cg_wf {c : Chn} {l : List ByteArray} (W : c.Wf) : (cgC c l).Wf := by
 unfold cgC cgN
 split
 · exact catch_wf l c W
 · exact W
theorem c60w (γ : Gh) (c : Chn) (W : c.Wf) (l : List ByteArray) (hl : l.length ≤ 100000) (v : Value) (w0 : World) (hw : Own w0.heap [chnR γ c]) (hro : Ro (fun b => b ∈ foots [chnR γ c]) w0 (rdR v l.length 1 (l.flatMap encS))) : Cl Try.prog 60 #[.pointer (some ⟨γ.b, 0, none⟩), v] w0 (RetS [chnR γ c] w0 (fun r (γ2 : Gh) => r = .int .i64 (cgN c l) ∧ γ2.b = γ.b) fun γ2 => [chnR γ2 (cgC c l)]) := by
 unfold cgC
 cases hb : c.begun
 · rw [cg_n hb]
   refine ⟨(c60a γ c hb v w0 (roF (Sep.start hw))).out.mono ?_⟩
   rintro _ w' ⟨u, e, hp, hc⟩
   exact ⟨u, γ, e, ⟨hp, rfl⟩, (Sep.start hw).quiet hc⟩
 · rw [cg_y hb]
   exact c60 γ c W hb l hl v w0 hw hro
theorem c74w (c : Chn) (W : c.Wf) (l : List ByteArray) (hl : l.length ≤ 100000) (v : Value) (x : Xv) (w0 : World) (ho : Own w0.heap [wsR x.p c.part.Ps, wsR x.l c.part.L, strR x.g c.log, strR x.w c.wants]) (hro : Ro (fun b => b ∈ foots [wsR x.p c.part.Ps, wsR x.l c.part.L, strR x.g c.log, strR x.w c.wants]) w0 (rdR v l.length 1 (l.flatMap encS))) : Cl Try.prog 74 #[xV c x, v] w0 (RetS [wsR x.p c.part.Ps, wsR x.l c.part.L, strR x.g c.log, strR x.w c.wants] w0 (fun o (y : Xv) => o = .tuple #[xV (cgC c l) y, .int .i64 (cgN c l)]) fun y => [wsR y.p (cgC c l).part.Ps, wsR y.l (cgC c l).part.L, strR y.g (cgC c l).log, strR y.w (cgC c l).wants]) := by
 unfold cgC
 cases hb : c.begun
 · rw [cg_n hb]
   obtain ⟨xp, xl, xg, xw⟩ := x
   dsimp only at ho ⊢
   obtain ⟨VA, VC, rfl, hvc⟩ := RdSl.form hro.ok
   obtain ⟨PA, PC, rfl⟩ := SlOk.form (ho.ok (wsR xp c.part.Ps) (by simp))
   obtain ⟨LA, LC, rfl⟩ := SlOk.form (ho.ok (wsR xl c.part.L) (by simp))
   obtain ⟨GA, GC, rfl⟩ := SlOk.form (ho.ok (strR xg c.log) (by simp))
   obtain ⟨WA, WC, rfl⟩ := SlOk.form (ho.ok (strR xw c.wants) (by simp))
   refine ⟨(c74n c hb VA _ VC w0).out.mono ?_⟩
   rintro _ w' ⟨u, e, hp, hc⟩
   exact ⟨u, ⟨.slice PA c.part.Ps.length PC, .slice LA c.part.L.length LC, .slice GA c.log.length GC, .slice WA c.wants.length WC⟩, e, hp, (Sep.start ho).quiet hc⟩
 · rw [cg_y hb]
   exact c74y c W hb l hl v x w0 ho hro
theorem wordO_lenG {c : Chn} (W : c.Wf) (w : Wrd) : (c.wordO w).length ≤ 701 := by
 unfold Chn.wordO
 split
 · rename_i h
   have h1 := take_len (W.p h.1) w
   split
   · rw [List.length_append, tallsO_len]
     have := decO_len (c.put (c.part.take w).1) (c.part.take w).1.dec
     omega
   · rw [tallsO_len]; omega
 · simp
theorem startO_lenG (c : Chn) : c.startO.length ≤ 1 := by
 unfold Chn.startO Chn.beginO
 split
 · simp
 · split
   · simp
   · rw [tallsO_len]; exact startO_len1 _
theorem want_part (c : Chn) (v : ByteArray) : (c.want v).part = c.part ∧ (c.want v).log = c.log := by
 unfold Chn.want
 split <;> exact ⟨rfl, rfl⟩
def Hz (c : Chn) : Prop := c.begun = false → c.part.round = 0 ∧ c.over = false
theorem Hz.want {c : Chn} (h : Hz c) (v : ByteArray) : Hz (c.want v) := by
 unfold Chn.want
 split
 · exact h
 · exact h
theorem Hz.start (c : Chn) : Hz c.start := by
 intro h
 exfalso
 unfold Chn.start at h
 split at h
 · rename_i h2; rw [h2] at h; cases h
 · rw [begin_begun] at h; cases h
theorem Hz.word {c : Chn} (h : Hz c) (q : Wrd) : Hz (c.word q) := by
 cases hb : c.begun
 · rw [(word_no (.inl hb)).1]; exact h
 · intro h2
   exfalso
   unfold Chn.word at h2
   split at h2
   · split at h2
     · rw [dec_begun] at h2
       have : (c.put (c.part.take q).1).begun = c.begun := rfl
       rw [this, hb] at h2; cases h2
     · have : (c.put (c.part.take q).1).begun = c.begun := rfl
       rw [this, hb] at h2; cases h2
   · rw [hb] at h2; cases h2
theorem Hz.take {c : Chn} (h : Hz c) (x : To) : Hz (c.take x) := by
 unfold Chn.take
 split
 · exact h.word _
 · exact h
theorem Hz.cg {c : Chn} (h : Hz c) (l : List ByteArray) : Hz (cgC c l) := by
 cases hb : c.begun
 · unfold cgC; rw [cg_n hb]; exact h
 · intro h2
   exfalso
   unfold cgC at h2
   rw [decs_begun, hb] at h2; cases h2
theorem Hz.tmo {c : Chn} (h : Hz c) (s : Int) : c.tmo s = ⟨4, 0, c.part.round, s, VoteM.empty⟩ := by
 cases hb : c.begun
 · rw [tmo_no hb, (h hb).1]
 · rw [tmo_yes hb]
theorem newC_wfZ {n t me : Int} {v : ByteArray} (hk : okA n t me 0 v = true) : (ChnM.newC n t me zS).Wf := newC_wf hk
theorem Hz.new (n t me : Int) : Hz (ChnM.newC n t me zS) := fun _ => ⟨rfl, over_no.2 (by show (0 : Nat) < 64; decide)⟩
theorem c66y {l : List Dd} {v : Value} {w0 : World} (hf : fewD l) (hr : RdSl w0.heap v l.length 9 (l.flatMap encD)) (hd : ∀ d ∈ l, RdSl w0.heap d.vv d.vs.length 1 (d.vs.flatMap encS)) : Cl Try.prog 66 #[v] w0 (RetQ w0 fun r => r = .bool true) := (c66 l v w0 hr hd).monoQ fun v ⟨b, hv, hb⟩ => by rw [hv, hb.2 hf]
theorem c66n {l : List Dd} {v : Value} {w0 : World} (hf : ¬ fewD l) (hr : RdSl w0.heap v l.length 9 (l.flatMap encD)) (hd : ∀ d ∈ l, RdSl w0.heap d.vv d.vs.length 1 (d.vs.flatMap encS)) : Cl Try.prog 66 #[v] w0 (RetQ w0 fun r => r = .bool false) := (c66 l v w0 hr hd).monoQ fun v ⟨b, hv, hb⟩ => by
 cases b
 · exact hv
 · exact absurd (hb.1 rfl) hf
theorem dl_tallD {w : World} {b : Nat} {k n : Int} {x : To} {vv : Value} {vs : List ByteArray} {T : TypeId} {fz : Nat × Nat} (hb : w.heap[b]? = some (.cells (encD ⟨k, n, x, vv, vs⟩).toArray T fz)) : ∀ j v, (encTo x).toArray[j]? = some v → w.cell? ((⟨b, 2, none⟩ : Addr).add j) = some v := dl_tall hb

set_option maxRecDepth 100000 in
set_option maxHeartbeats 400000 in
theorem law17a (n t me : Int) (l : List Dd) (v : Value) (w0 : World) (hr : RdSl w0.heap v l.length 9 (l.flatMap encD)) (hd : ∀ d ∈ l, RdSl w0.heap d.vv d.vs.length 1 (d.vs.flatMap encS)) (hf : ¬ fewD l) : Cl Try.prog 17 #[.agg #[.int .i64 n, .int .i64 t, .int .i64 me], v] w0 (RetQ w0 fun v => v = .bool true) := by
 have M : Sep (fun _ => False) w0 w0 _ := Sep.nil _ w0
 have hro := ro_of hr
 obtain ⟨A, cc, rfl, hcc⟩ := hr.form
 refine enter (vs := [_, _]) Try.func17 rfl rfl rfl ?_
 intro a F
 refine wp_seq ?_
 refine wp_region_l [.wr, .ind] ([0, 1]) rfl ?_
 refine s_bxA F M rfl rfl rfl rfl rfl ?_; (clear F a M; try clear w); intro b2 w M a F
 refine s_I F rfl rfl rfl rfl rfl rfl ?_; clear F a; intro a F
 refine t_endM M ?_; (clear M; try clear w); intro w M
 refine wp_seq ?_
 refine wp_seq ?_
 refine wp_region_l [.ind, .wr, .ind] ([0, 1, 2]) rfl ?_
 refine s_I F rfl rfl rfl rfl rfl rfl ?_; clear F a; intro a F
 refine s_cq F M rfl rfl rfl rfl rfl (rfl : _ = some [_]) cb_66_G5 (fun nd_ => c66n hf (M.chg.ro hro) (fun d hdm => M.chg.ro (ro_of (hd d hdm)))) ?_; (clear F a M; try clear w); rintro v w rfl M a F
 refine s_I F rfl rfl rfl rfl rfl rfl ?_; clear F a; intro a F
 replace F : Fr _ _ ((17, Value.bool true) :: _) := F
 refine t_endM M ?_; (clear M; try clear w); intro w M
 refine c_t F rfl ?_
 refine wp_seq ?_
 replace F := F.keep [0, 1, 2, 4] rfl
 refine wp_region_l [.wr, .ind] ([0, 1]) rfl ?_
 refine s_cq F M rfl rfl rfl rfl rfl (rfl : _ = some []) cb_57_G5 (fun nd_ => c57 _) ?_; (clear F a M; try clear w); rintro v w rfl M a F
 refine s_I F rfl rfl rfl rfl rfl rfl ?_; clear F a; intro a F
 refine t_endM M ?_; (clear M; try clear w); intro w M
 refine wp_ret ?_
 refine ret1 F rfl rfl ?_
 exact ⟨_, rfl, rfl, M.chg⟩
set_option maxRecDepth 100000 in
set_option maxHeartbeats 400000 in
theorem law17b (n t me : Int) (l : List Dd) (v : Value) (w0 : World) (hr : RdSl w0.heap v l.length 9 (l.flatMap encD)) (hd : ∀ d ∈ l, RdSl w0.heap d.vv d.vs.length 1 (d.vs.flatMap encS)) (hf : fewD l) (hk : okA n t me 0 tilde = false) : Cl Try.prog 17 #[.agg #[.int .i64 n, .int .i64 t, .int .i64 me], v] w0 (RetQ w0 fun v => v = .bool true) := by
 have M : Sep (fun _ => False) w0 w0 _ := Sep.nil _ w0
 have hro := ro_of hr
 obtain ⟨A, cc, rfl, hcc⟩ := hr.form
 refine enter (vs := [_, _]) Try.func17 rfl rfl rfl ?_
 intro a F
 refine wp_seq ?_
 refine wp_region_l [.wr, .ind] ([0, 1]) rfl ?_
 refine s_bxA F M rfl rfl rfl rfl rfl ?_; (clear F a M; try clear w); intro b2 w M a F
 refine s_I F rfl rfl rfl rfl rfl rfl ?_; clear F a; intro a F
 refine t_endM M ?_; (clear M; try clear w); intro w M
 refine wp_seq ?_
 refine wp_seq ?_
 refine wp_region_l [.ind, .wr, .ind] ([0, 1, 2]) rfl ?_
 refine s_I F rfl rfl rfl rfl rfl rfl ?_; clear F a; intro a F
 refine s_cq F M rfl rfl rfl rfl rfl (rfl : _ = some [_]) cb_66_G5 (fun nd_ => c66y hf (M.chg.ro hro) (fun d hdm => M.chg.ro (ro_of (hd d hdm)))) ?_; (clear F a M; try clear w); rintro v w rfl M a F
 refine s_I F rfl rfl rfl rfl rfl rfl ?_; clear F a; intro a F
 replace F : Fr _ _ ((17, Value.bool false) :: _) := F
 refine t_endM M ?_; (clear M; try clear w); intro w M
 refine c_f F rfl ?_
 refine wp_skip ?_
 refine wp_seq ?_
 replace F := F.keep [0, 1, 2, 4] rfl
 refine wp_region_l [.ind, .rd, .ind, .rd, .ind, .rd, .wr, .ind] ([0, 1, 2, 3, 4, 5, 6, 7]) rfl ?_
 refine s_fa0 F rfl rfl rfl rfl fa_86_0_G5 rfl ?_; clear F a; intro a F
 refine s_ld F rfl rfl rfl rfl sc_3_G5 rfl (by exact cell_of_blk M.h0 (lit rfl)) ?_; clear F a; intro a F
 refine s_fa0 F rfl rfl rfl rfl fa_86_1_G5 rfl ?_; clear F a; intro a F
 refine s_ld F rfl rfl rfl rfl sc_3_G5 rfl (by exact cell_of_blk M.h0 (lit rfl)) ?_; clear F a; intro a F
 refine s_fa0 F rfl rfl rfl rfl fa_86_2_G5 rfl ?_; clear F a; intro a F
 refine s_ld F rfl rfl rfl rfl sc_3_G5 rfl (by exact cell_of_blk M.h0 (lit rfl)) ?_; clear F a; intro a F
 refine s_cq F M rfl rfl rfl rfl rfl (rfl : _ = some [_, _, _]) cb_58_G5 (fun nd_ => c58n n t me hk _) ?_; (clear F a M; try clear w); rintro v w rfl M a F
 refine s_I F rfl rfl rfl rfl rfl rfl ?_; clear F a; intro a F
 refine t_endM M ?_; (clear M; try clear w); intro w M
 refine wp_seq ?_
 replace F := F.keep [0, 1, 2, 4, 5] rfl
 refine wp_region_l [.ind, .rd, .ind, .rd, .ind, .rd, .wr, .ind, .ind, .ind, .wr, .wr, .ind] ([0, 1, 2, 3, 4, 5, 6, 7, 8, 9, 10, 11, 12]) rfl ?_
 refine s_fa0 F rfl rfl rfl rfl fa_86_0_G5 rfl ?_; clear F a; intro a F
 refine s_ld F rfl rfl rfl rfl sc_3_G5 rfl (by exact cell_of_blk M.h0 (lit rfl)) ?_; clear F a; intro a F
 refine s_fa0 F rfl rfl rfl rfl fa_86_1_G5 rfl ?_; clear F a; intro a F
 refine s_ld F rfl rfl rfl rfl sc_3_G5 rfl (by exact cell_of_blk M.h0 (lit rfl)) ?_; clear F a; intro a F
 refine s_fa0 F rfl rfl rfl rfl fa_86_2_G5 rfl ?_; clear F a; intro a F
 refine s_ld F rfl rfl rfl rfl sc_3_G5 rfl (by exact cell_of_blk M.h0 (lit rfl)) ?_; clear F a; intro a F
 refine s_cq F M rfl rfl rfl rfl rfl (rfl : _ = some [_, _, _]) cb_67_G5 (fun nd_ => c67 n t me _) ?_; (clear F a M; try clear w); rintro v w rfl M a F
 rw [hk] at F
 refine s_I F rfl rfl rfl rfl rfl rfl ?_; clear F a; intro a F
 refine s_I F rfl rfl rfl rfl rfl rfl ?_; clear F a; intro a F
 refine s_I F rfl rfl rfl rfl rfl rfl ?_; clear F a; intro a F
 refine s_alc F M rfl rfl rfl rfl zr_100_G5 rfl ?_; (clear F a M; try clear w); intro b6 w M a F
 refine s_stW F M rfl rfl rfl sz_100_G5 rfl rfl rfl rfl rfl ?_; (clear M; try clear w); intro w M
 refine s_I F rfl rfl rfl rfl rfl rfl ?_; clear F a; intro a F
 refine t_endM M ?_; (clear M; try clear w); intro w M
 refine wp_seq ?_
 refine wp_seq ?_
 replace F := F.keep [0, 1, 2, 4, 5, 6, 7] rfl
 refine wp_region_l [.ind, .ind, .ind, .ind, .ind, .ind] ([0, 1, 2, 3, 4, 5]) rfl ?_
 refine s_I F rfl rfl rfl rfl rfl rfl ?_; clear F a; intro a F
 refine s_I F rfl rfl rfl rfl rfl rfl ?_; clear F a; intro a F
 replace F : Fr _ _ ((37, Value.bool true) :: _) := F
 refine s_I F rfl rfl rfl rfl rfl rfl ?_; clear F a; intro a F
 refine s_no F rfl rfl rfl rfl ?_; clear F a; intro a F
 refine s_no F rfl rfl rfl rfl ?_; clear F a; intro a F
 refine s_I F rfl rfl rfl rfl rfl rfl ?_; clear F a; intro a F
 refine t_endM M ?_; (clear M; try clear w); intro w M
 refine c_t F rfl ?_
 refine wp_seq ?_
 replace F := F.keep [0, 1, 2, 4, 5, 6, 7] rfl
 refine wp_region_l [.ind, .ind, .ind, .ind, .ind, .ind, .ind, .wr, .ind, .ind] ([0, 1, 2, 3, 4, 5, 6, 7, 8, 9]) rfl ?_
 refine s_I F rfl rfl rfl rfl rfl rfl ?_; clear F a; intro a F
 refine s_I F rfl rfl rfl rfl rfl rfl ?_; clear F a; intro a F
 replace F : Fr _ _ ((43, Value.bool true) :: _) := F
 refine s_I F rfl rfl rfl rfl rfl rfl ?_; clear F a; intro a F
 refine s_I F rfl rfl rfl rfl rfl rfl ?_; clear F a; intro a F
 refine s_pn F rfl rfl rfl rfl pt_87_G5 rfl ?_; clear F a; intro a F
 replace F : Fr _ _ ((46, Value.bool true) :: _) := F
 refine s_I F rfl rfl rfl rfl rfl rfl ?_; clear F a; intro a F
 refine s_I F rfl rfl rfl rfl rfl rfl ?_; clear F a; intro a F
 refine s_cq F M rfl rfl rfl rfl rfl (rfl : _ = some []) cb_57_G5 (fun nd_ => c57 _) ?_; (clear F a M; try clear w); rintro v w rfl M a F
 refine s_I F rfl rfl rfl rfl rfl rfl ?_; clear F a; intro a F
 refine s_I F rfl rfl rfl rfl rfl rfl ?_; clear F a; intro a F
 refine t_endM M ?_; (clear M; try clear w); intro w M
 refine wp_ret ?_
 refine ret1 F rfl rfl ?_
 exact ⟨_, rfl, rfl, M.chg⟩
set_option maxRecDepth 100000 in
set_option maxHeartbeats 4000000 in
theorem law17c (n t me : Int) (l : List Dd) (v : Value) (w0 : World) (hr : RdSl w0.heap v l.length 9 (l.flatMap encD)) (hd : ∀ d ∈ l, RdSl w0.heap d.vv d.vs.length 1 (d.vs.flatMap encS)) (hf : fewD l) (hk : okA n t me 0 tilde = true) : Cl Try.prog 17 #[.agg #[.int .i64 n, .int .i64 t, .int .i64 me], v] w0 (RetQ w0 fun v => v = .bool true) := by
 have M : Sep (fun _ => False) w0 w0 _ := Sep.nil _ w0
 have hro := ro_of hr
 obtain ⟨A, cc, rfl, hcc⟩ := hr.form
 have hfl := hf.1
 refine enter (vs := [_, _]) Try.func17 rfl rfl rfl ?_
 intro a F
 refine wp_seq ?_
 refine wp_region_l [.wr, .ind] ([0, 1]) rfl ?_
 refine s_bxA F M rfl rfl rfl rfl rfl ?_; (clear F a M; try clear w); intro b2 w M a F
 refine s_I F rfl rfl rfl rfl rfl rfl ?_; clear F a; intro a F
 refine t_endM M ?_; (clear M; try clear w); intro w M
 refine wp_seq ?_
 refine wp_seq ?_
 refine wp_region_l [.ind, .wr, .ind] ([0, 1, 2]) rfl ?_
 refine s_I F rfl rfl rfl rfl rfl rfl ?_; clear F a; intro a F
 refine s_cq F M rfl rfl rfl rfl rfl (rfl : _ = some [_]) cb_66_G5 (fun nd_ => c66y hf (M.chg.ro hro) (fun d hdm => M.chg.ro (ro_of (hd d hdm)))) ?_; (clear F a M; try clear w); rintro v w rfl M a F
 refine s_I F rfl rfl rfl rfl rfl rfl ?_; clear F a; intro a F
 replace F : Fr _ _ ((17, Value.bool false) :: _) := F
 refine t_endM M ?_; (clear M; try clear w); intro w M
 refine c_f F rfl ?_
 refine wp_skip ?_
 refine wp_seq ?_
 replace F := F.keep [0, 1, 2, 4] rfl
 refine wp_region_l [.ind, .rd, .ind, .rd, .ind, .rd, .wr, .ind] ([0, 1, 2, 3, 4, 5, 6, 7]) rfl ?_
 refine s_fa0 F rfl rfl rfl rfl fa_86_0_G5 rfl ?_; clear F a; intro a F
 refine s_ld F rfl rfl rfl rfl sc_3_G5 rfl (by exact cell_of_blk M.h0 (lit rfl)) ?_; clear F a; intro a F
 refine s_fa0 F rfl rfl rfl rfl fa_86_1_G5 rfl ?_; clear F a; intro a F
 refine s_ld F rfl rfl rfl rfl sc_3_G5 rfl (by exact cell_of_blk M.h0 (lit rfl)) ?_; clear F a; intro a F
 refine s_fa0 F rfl rfl rfl rfl fa_86_2_G5 rfl ?_; clear F a; intro a F
 refine s_ld F rfl rfl rfl rfl sc_3_G5 rfl (by exact cell_of_blk M.h0 (lit rfl)) ?_; clear F a; intro a F
 refine s_call (m := []) F M rfl rfl rfl rfl rfl (rfl : _ = some [_, _, _]) cb_58_G5 (fun nd_ => c58 n t me hk _) ?_; (clear F a M; try clear w); rintro v γ0 w rfl M a F; (try simp only [List.cons_append, List.nil_append] at M)
 refine s_I F rfl rfl rfl rfl rfl rfl ?_; clear F a; intro a F
 refine t_endM M ?_; (clear M; try clear w); intro w M
 refine wp_seq ?_
 replace F := F.keep [0, 1, 2, 4, 5] rfl
 refine wp_region_l [.ind, .rd, .ind, .rd, .ind, .rd, .wr, .ind, .ind, .ind, .wr, .wr, .ind] ([0, 1, 2, 3, 4, 5, 6, 7, 8, 9, 10, 11, 12]) rfl ?_
 refine s_fa0 F rfl rfl rfl rfl fa_86_0_G5 rfl ?_; clear F a; intro a F
 refine s_ld F rfl rfl rfl rfl sc_3_G5 rfl (by exact cell_of_blk M.h1 (lit rfl)) ?_; clear F a; intro a F
 refine s_fa0 F rfl rfl rfl rfl fa_86_1_G5 rfl ?_; clear F a; intro a F
 refine s_ld F rfl rfl rfl rfl sc_3_G5 rfl (by exact cell_of_blk M.h1 (lit rfl)) ?_; clear F a; intro a F
 refine s_fa0 F rfl rfl rfl rfl fa_86_2_G5 rfl ?_; clear F a; intro a F
 refine s_ld F rfl rfl rfl rfl sc_3_G5 rfl (by exact cell_of_blk M.h1 (lit rfl)) ?_; clear F a; intro a F
 refine s_cq F M rfl rfl rfl rfl rfl (rfl : _ = some [_, _, _]) cb_67_G5 (fun nd_ => c67 n t me _) ?_; (clear F a M; try clear w); rintro v w rfl M a F
 rw [hk] at F
 refine s_I F rfl rfl rfl rfl rfl rfl ?_; clear F a; intro a F
 refine s_I F rfl rfl rfl rfl rfl rfl ?_; clear F a; intro a F
 refine s_I F rfl rfl rfl rfl rfl rfl ?_; clear F a; intro a F
 refine s_alc F M rfl rfl rfl rfl zr_100_G5 rfl ?_; (clear F a M; try clear w); intro b6 w M a F
 refine s_stW F M rfl rfl rfl sz_100_G5 rfl rfl rfl rfl rfl ?_; (clear M; try clear w); intro w M
 refine s_I F rfl rfl rfl rfl rfl rfl ?_; clear F a; intro a F
 refine t_endM M ?_; (clear M; try clear w); intro w M
 refine wp_seq ?_
 refine wp_seq ?_
 replace F := F.keep [0, 1, 2, 4, 5, 6, 7] rfl
 refine wp_region_l [.ind, .ind, .ind, .ind, .ind, .ind] ([0, 1, 2, 3, 4, 5]) rfl ?_
 refine s_I F rfl rfl rfl rfl rfl rfl ?_; clear F a; intro a F
 refine s_I F rfl rfl rfl rfl rfl rfl ?_; clear F a; intro a F
 replace F : Fr _ _ ((37, Value.bool false) :: _) := F
 refine s_I F rfl rfl rfl rfl rfl rfl ?_; clear F a; intro a F
 refine s_I F rfl rfl rfl rfl rfl rfl ?_; clear F a; intro a F
 refine s_pn F rfl rfl rfl rfl pt_87_G5 rfl ?_; clear F a; intro a F
 replace F : Fr _ _ ((40, Value.bool false) :: _) := F
 refine s_I F rfl rfl rfl rfl rfl rfl ?_; clear F a; intro a F
 refine t_endM M ?_; (clear M; try clear w); intro w M
 refine c_f F rfl ?_
 refine wp_skip ?_
 refine wp_seq ?_
 refine wp_seq ?_
 replace F := F.keep [0, 1, 2, 4, 5, 6, 7] rfl
 refine wp_region_l [.ind] ([0]) rfl ?_
 refine s_I F rfl rfl rfl rfl rfl rfl ?_; clear F a; intro a F
 refine t_endM M ?_; (clear M; try clear w); intro w M
 refine wp_block ?_
 replace M := (((M.nilT encS 9 1).nilT encS 9 1).nilT encW 32 5).nilT encW 32 5
 have M1 : Sep _ _ _ (blk b6 _ :: _) := M.f4; replace M := M1; clear M1
 have M1 : Sep _ _ _ (chnR _ _ :: _) := M.f5; replace M := M1; clear M1
 replace M := Fw.Sep.chNew (a' := zS) M
 have M1 : Sep _ _ _ (_ :: _) := M; replace M := M1; clear M1
 have M1 : Sep _ _ _ (_ :: _) := M; replace M := M1; clear M1
 have M1 : Sep _ _ _ (_ :: _) := M; replace M := M1; clear M1
 have M1 : Sep _ _ _ (_ :: _) := M; replace M := M1; clear M1
 have M1 : Sep _ _ _ (_ :: _) := M; replace M := M1; clear M1
 have M1 : Sep _ _ _ (_ :: _) := M; replace M := M1; clear M1
 refine loopX (X := (Int) × (Gh) × (Chn) × (Value) × (Value) × (Value) × (Value)) F [0, 1, 2, 5, 6, 7] rfl (fun ((i, γ, c, yp, yl, yg, yw) : (Int) × (Gh) × (Chn) × (Value) × (Value) × (Value) × (Value)) => (0 ≤ i) ∧ (i ≤ l.length) ∧ (γ.b = γ0.b) ∧ (c.Wf) ∧ (Hz c)) (fun ((i, γ, c, yp, yl, yg, yw) : (Int) × (Gh) × (Chn) × (Value) × (Value) × (Value) × (Value)) => [(8, .int .i64 i)]) (fun ((i, γ, c, yp, yl, yg, yw) : (Int) × (Gh) × (Chn) × (Value) × (Value) × (Value) × (Value)) => [chnR γ c, blk b6 (.cells (cC c yp yl yg yw) 100 (0, 0)), wsR yp c.part.Ps, wsR yl c.part.L, strR yg c.log, strR yw c.wants]) (fun ((i, γ, c, yp, yl, yg, yw) : (Int) × (Gh) × (Chn) × (Value) × (Value) × (Value) × (Value)) => l.length - i.toNat) ((0), (γ0), ((ChnM.newC n t me zS)), (nilV), (nilV), (nilV), (nilV)) M ⟨(by omega), (by omega), rfl, (newC_wfZ hk), (Hz.new n t me)⟩ (F.keep [8, 0, 1, 2, 5, 6, 7] rfl) ?_
 clear F M; clear a; (try clear w)
 rintro ⟨i, γ, c, yp, yl, yg, yw⟩ a w ⟨i0, i1, hg, hW, hz⟩ F M; try dsimp only at F M
 try simp only [List.cons_append, List.nil_append] at F M
 try dsimp only at i0 i1 hg hW hz
 rw [← hg] at F
 obtain ⟨YPA, YPC, rfl⟩ := SlOk.form M.h2
 obtain ⟨YLA, YLC, rfl⟩ := SlOk.form M.h3
 obtain ⟨YGA, YGC, rfl⟩ := SlOk.form M.h4
 obtain ⟨YWA, YWC, rfl⟩ := SlOk.form M.h5
 refine wp_seq ?_
 refine wp_seq ?_
 refine wp_region_l [.ind, .ind, .ind, .ind] ([0, 1, 2, 3]) rfl ?_
 refine s_I F rfl rfl rfl rfl rfl rfl ?_; clear F a; intro a F
 refine s_I F rfl rfl rfl rfl rfl rfl ?_; clear F a; intro a F
 refine s_len F rfl rfl rfl rfl sl_97_G5 rfl ?_; clear F a; intro a F
 refine s_bin F rfl rfl rfl rfl rfl rfl rfl ?_; clear F a; intro a F
 refine t_endM M ?_; (clear M; try clear w); intro w M
 refine c_if F rfl ?_ ?_
 clear F; intro hc0 F
 try rw [hc0] at F
 replace hc0 := of_decide_eq_true hc0
 refine wp_skip ?_
 refine wp_seq ?_
 refine wp_block ?_
 refine wp_seq ?_
 replace F := F.keep [0, 1, 2, 5, 6, 7, 8] rfl
 refine wp_region_l [.rd, .wr, .wr, .ind, .ind] ([0, 1, 2, 3, 4]) rfl ?_
 refine s_lda F rfl rfl rfl rfl ag_100_G5 rfl rfl (cells_whole M.h1) ?_; clear F a; intro a F
 refine s_alc F M rfl rfl rfl rfl zr_100_G5 rfl ?_; (clear F a M; try clear w); intro b9 w M a F
 refine s_stW F M rfl rfl rfl sz_100_G5 rfl rfl rfl rfl rfl ?_; (clear M; try clear w); intro w M
 refine s_I F rfl rfl rfl rfl rfl rfl ?_; clear F a; intro a F
 refine s_I F rfl rfl rfl rfl rfl rfl ?_; clear F a; intro a F
 refine t_endM M ?_; (clear M; try clear w); intro w M
 refine wp_seq ?_
 replace F := F.keep [0, 1, 2, 5, 6, 7, 8, 9, 10, 11] rfl
 refine wp_region_l [.ind, .ind] ([0, 1]) rfl ?_
 refine s_I F rfl rfl rfl rfl rfl rfl ?_; clear F a; intro a F
 refine s_I F rfl rfl rfl rfl rfl rfl ?_; clear F a; intro a F
 refine t_endM M ?_; (clear M; try clear w); intro w M
 refine wp_seq ?_
 refine wp_seq ?_
 refine wp_region_l [.ind, .ind, .ind, .rd, .wr, .wr] ([0, 1, 2, 3, 4, 5]) rfl ?_
 refine s_I F rfl rfl rfl rfl rfl rfl ?_; clear F a; intro a F
 refine s_I F rfl rfl rfl rfl rfl rfl ?_; clear F a; intro a F
 refine s_ix F rfl rfl rfl rfl sl_97_G5 rfl rfl (by exact M.chg.ro hro) (by omega) (by omega) ?_; clear F a; intro e60 he60 a F
 obtain ⟨dk, dn, dx, dvv, dvs⟩ := e60
 obtain ⟨VA, VC, hvv, _⟩ := (hd _ (List.mem_of_getElem? he60)).form
 dsimp only at hvv; subst hvv
 have hrv := ro_of (hd _ (List.mem_of_getElem? he60))
 have hvl : dvs.length ≤ 100 := (hf.2 _ (List.mem_of_getElem? he60)).l
 dsimp only at hrv
 refine s_lda F rfl rfl rfl rfl ag_106_G5 rfl rfl (rdsX (M.chg.ro hro) (by intro e; rfl) he60) ?_; clear F a; intro a F
 refine s_alc F M rfl rfl rfl rfl zr_106_G5 rfl ?_; (clear F a M; try clear w); intro b14 w M a F
 refine s_stW F M rfl rfl rfl sz_106_G5 rfl rfl rfl rfl rfl ?_; (clear M; try clear w); intro w M
 refine t_endM M ?_; (clear M; try clear w); intro w M
 refine wp_seq ?_
 replace F := F.keep [0, 1, 2, 5, 6, 7, 8, 9, 10, 11, 12, 13, 14] rfl
 refine wp_region_l [.ind, .rd] ([0, 1]) rfl ?_
 refine s_fa0 F rfl rfl rfl rfl fa_106_0_G5 rfl ?_; clear F a; intro a F
 refine s_ld F rfl rfl rfl rfl sc_3_G5 rfl (by exact cell_of_blk M.h0 (lit rfl)) ?_; clear F a; intro a F
 refine t_endM M ?_; (clear M; try clear w); intro w M
 refine wp_block ?_
 refine wp_seq ?_
 replace F := F.keep [0, 1, 2, 5, 6, 7, 8, 9, 10, 11, 12, 13, 14, 63] rfl
 refine wp_region_l [.ind, .ind] ([0, 1]) rfl ?_
 refine s_bin F rfl rfl rfl rfl rfl rfl rfl ?_; clear F a; intro a F
 refine s_I F rfl rfl rfl rfl rfl rfl ?_; clear F a; intro a F
 refine t_endM M ?_; (clear M; try clear w); intro w M
 have M1 : Sep _ _ _ (blk b9 _ :: _) := M.f1; replace M := M1; clear M1
 have M1 : Sep _ _ _ (chnR _ _ :: _) := M.f2; replace M := M1; clear M1
 have M1 : Sep _ _ _ (slR (.slice YWA _ YWC) _ _ _ _ :: _) := M.f7; replace M := M1; clear M1
 have M1 : Sep _ _ _ (slR (.slice YGA _ YGC) _ _ _ _ :: _) := M.f7; replace M := M1; clear M1
 have M1 : Sep _ _ _ (slR (.slice YLA _ YLC) _ _ _ _ :: _) := M.f7; replace M := M1; clear M1
 have M1 : Sep _ _ _ (slR (.slice YPA _ YPC) _ _ _ _ :: _) := M.f7; replace M := M1; clear M1
 have M1 : Sep _ _ _ (blk b9 _ :: _) := M.f5; replace M := M1; clear M1
 have M1 : Sep _ _ _ (chnR _ _ :: _) := M.f5; replace M := M1; clear M1
 refine cutX (X := (Chn) × (Gh) × (Value) × (Value) × (Value) × (Value) × (Int) × (List To) × (Value) × (Value)) (m0 := [_, _, _, _, _, _]) F [0, 1, 2, 5, 6, 7, 8, 9, 14, 63] rfl M (fun ((c2, γ2, zp, zl, zg, zw, e, o, ov, gv) : (Chn) × (Gh) × (Value) × (Value) × (Value) × (Value) × (Int) × (List To) × (Value) × (Value)) => (c2.Wf) ∧ (γ2.b = γ.b) ∧ (Hz c2) ∧ (o.length ≤ 100000)) (fun ((c2, γ2, zp, zl, zg, zw, e, o, ov, gv) : (Chn) × (Gh) × (Value) × (Value) × (Value) × (Value) × (Int) × (List To) × (Value) × (Value)) => [(10, .int .i64 e), (11, .int .i64 e), (12, ov), (13, gv)]) (fun ((c2, γ2, zp, zl, zg, zw, e, o, ov, gv) : (Chn) × (Gh) × (Value) × (Value) × (Value) × (Value) × (Int) × (List To) × (Value) × (Value)) => [chnR γ2 c2, blk b9 (.cells (cC c2 zp zl zg zw) 100 (0, 0)), wsR zp c2.part.Ps, wsR zl c2.part.L, strR zg c2.log, strR zw c2.wants, tlR ov o, tlR gv o]) ?_ ?_
 refine c_if F rfl ?_ ?_
 clear F; intro hc1 F
 try rw [hc1] at F
 replace hc1 := of_decide_eq_true hc1
 refine wp_seq ?_
 replace F := F.keep [0, 1, 2, 5, 6, 7, 8, 9, 10, 11, 12, 13, 14, 63] rfl
 refine wp_region_l [.rd, .ind, .ind, .ind, .rd, .wr, .ind, .ind, .ind, .wr, .ind] ([0, 1, 2, 3, 4, 5, 6, 7, 8, 9, 10]) rfl ?_
 refine s_lda F rfl rfl rfl rfl ag_100_G5 rfl rfl (cells_whole M.h7) ?_; clear F a; intro a F
 refine s_fa0 F rfl rfl rfl rfl fa_106_2_G5 rfl ?_; clear F a; intro a F
 refine s_fa F rfl rfl rfl rfl fa_104_1_G5 rfl ?_; clear F a; intro a F
 refine s_fa F rfl rfl rfl rfl fa_32_4_G5 rfl ?_; clear F a; intro a F
 refine s_ld F rfl rfl rfl rfl sc_9_G5 rfl (by exact cell_of_blk M.h6 (lit rfl)) ?_; clear F a; intro a F
 have M1 : Sep _ _ _ (slR (.slice YWA _ YWC) _ _ _ _ :: _) := M.f5; replace M := M1; clear M1
 refine s_call (m := [_]) F M rfl rfl rfl rfl rfl (rfl : _ = some [_, _]) cb_68_G5 (fun nd_ => c68 c hW.wl (.slice YWA c.wants.length YWC) dx.w.value _ (M.drewN nd_).own.one) ?_; (clear F a M; try clear w); rintro v x w rfl M a F; (try simp only [List.cons_append, List.nil_append] at M)
 obtain ⟨XWA, XWC, rfl⟩ := SlOk.form M.h0
 refine s_I F rfl rfl rfl rfl rfl rfl ?_; clear F a; intro a F
 refine s_I F rfl rfl rfl rfl rfl rfl ?_; clear F a; intro a F
 refine s_I F rfl rfl rfl rfl rfl rfl ?_; clear F a; intro a F
 have M1 : Sep _ _ _ (blk b9 _ :: _) := M.f2; replace M := M1; clear M1
 refine s_stW F M rfl rfl rfl sz_100_G5 rfl rfl rfl rfl rfl ?_; (clear M; try clear w); intro w M
 refine s_I F rfl rfl rfl rfl rfl rfl ?_; clear F a; intro a F
 refine t_endM M ?_; (clear M; try clear w); intro w M
 replace F := F.keep [0, 1, 2, 5, 6, 7, 8, 9, 10, 11, 12, 13, 14, 63] rfl
 refine wp_region_l [.ind, .ind, .ind, .ind, .rd, .wr, .ind] ([0, 1, 2, 3, 4, 5, 6]) rfl ?_
 refine s_I F rfl rfl rfl rfl rfl rfl ?_; clear F a; intro a F
 refine s_fa0 F rfl rfl rfl rfl fa_106_2_G5 rfl ?_; clear F a; intro a F
 refine s_fa F rfl rfl rfl rfl fa_104_1_G5 rfl ?_; clear F a; intro a F
 refine s_fa F rfl rfl rfl rfl fa_32_4_G5 rfl ?_; clear F a; intro a F
 refine s_ld F rfl rfl rfl rfl sc_9_G5 rfl (by exact cell_of_blk M.h6 (lit rfl)) ?_; clear F a; intro a F
 have M1 : Sep _ _ _ (chnR _ _ :: _) := M.f2; replace M := M1; clear M1
 refine s_call (m := [_]) F M rfl rfl rfl rfl rfl (rfl : _ = some [_, _]) cb_59_G5 (fun nd_ => c59 γ c hW dx.w.value _ (M.drewN nd_).own.one) ?_; (clear F a M; try clear w); rintro v γ1 w ⟨rfl, hb2⟩ M a F; (try simp only [List.cons_append, List.nil_append] at M)
 have M1 : Sep _ _ _ (slR (.slice YPA _ YPC) _ _ _ _ :: _) := M.f3; replace M := M1; clear M1
 replace M := Fw.Sep.wsC M (show c.part.Ps = (c.want dx.w.value).part.Ps by rw [(want_part c _).1])
 have M1 : Sep _ _ _ (slR (.slice YLA _ YLC) _ _ _ _ :: _) := M.f4; replace M := M1; clear M1
 replace M := Fw.Sep.wsC M (show c.part.L = (c.want dx.w.value).part.L by rw [(want_part c _).1])
 have M1 : Sep _ _ _ (slR (.slice YGA _ YGC) _ _ _ _ :: _) := M.f5; replace M := M1; clear M1
 replace M := Fw.Sep.stC M (show c.log = (c.want dx.w.value).log by rw [(want_part c _).2])
 have W2 : (c.want dx.w.value).Wf := hW.want _
 have hz2 : Hz (c.want dx.w.value) := hz.want _
 generalize c.want dx.w.value = c2 at M F W2 hz2
 generalize c.wantE dx.w.value = e2 at F
 replace M := (M.nilT encTo 104 6).nilT encTo 104 6
 refine s_I F rfl rfl rfl rfl rfl rfl ?_; clear F a; intro a F
 refine t_endM M ?_; (clear M; try clear w); intro w M
 refine joined ((c2), (γ1), (.slice YPA c.part.Ps.length YPC), (.slice YLA c.part.L.length YLC), (.slice YGA c.log.length YGC), (.slice XWA c2.wants.length XWC), (e2), ([]), (.slice none 0 0), (.slice none 0 0)) ⟨(by assumption), hb2, (by assumption), (by decide)⟩ (F.keep [10, 11, 12, 13, 0, 1, 2, 5, 6, 7, 8, 9, 14, 63] rfl) ?_
 try dsimp only [List.cons_append, List.nil_append]
 refine M.pick ?_; repeat (first | exact PkG.nil | refine PkG.cons 0 rfl rfl ?_ | refine PkG.cons 1 rfl rfl ?_ | refine PkG.cons 2 rfl rfl ?_ | refine PkG.cons 3 rfl rfl ?_ | refine PkG.cons 4 rfl rfl ?_ | refine PkG.cons 5 rfl rfl ?_ | refine PkG.cons 6 rfl rfl ?_ | refine PkG.cons 7 rfl rfl ?_ | refine PkG.cons 8 rfl rfl ?_ | refine PkG.cons 9 rfl rfl ?_ | refine PkG.cons 10 rfl rfl ?_)
 clear F; intro hc2 F
 try rw [hc2] at F
 replace hc2 := of_decide_eq_false hc2
 refine wp_seq ?_
 replace F := F.keep [0, 1, 2, 5, 6, 7, 8, 9, 10, 11, 12, 13, 14, 63] rfl
 refine wp_region_l [.ind, .ind] ([0, 1]) rfl ?_
 refine s_bin F rfl rfl rfl rfl rfl rfl rfl ?_; clear F a; intro a F
 refine s_I F rfl rfl rfl rfl rfl rfl ?_; clear F a; intro a F
 refine t_endM M ?_; (clear M; try clear w); intro w M
 refine c_if F rfl ?_ ?_
 clear F; intro hc3 F
 try rw [hc3] at F
 replace hc3 := of_decide_eq_true hc3
 refine wp_seq ?_
 replace F := F.keep [0, 1, 2, 5, 6, 7, 8, 9, 10, 11, 12, 13, 14, 63] rfl
 refine wp_region_l [.rd, .wr, .ind, .ind, .ind, .wr, .ind] ([0, 1, 2, 3, 4, 5, 6]) rfl ?_
 refine s_lda F rfl rfl rfl rfl ag_100_G5 rfl rfl (cells_whole M.h7) ?_; clear F a; intro a F
 have M1 : Sep _ _ _ (slR (.slice YWA _ YWC) _ _ _ _ :: _) := M.f5; replace M := M1; clear M1
 have M1 : Sep _ _ _ (slR (.slice YGA _ YGC) _ _ _ _ :: _) := M.f5; replace M := M1; clear M1
 have M1 : Sep _ _ _ (slR (.slice YLA _ YLC) _ _ _ _ :: _) := M.f5; replace M := M1; clear M1
 have M1 : Sep _ _ _ (slR (.slice YPA _ YPC) _ _ _ _ :: _) := M.f5; replace M := M1; clear M1
 refine s_call (m := [_, _, _, _]) F M rfl rfl rfl rfl rfl (rfl : _ = some [_]) cb_69_G5 (fun nd_ => c69 c hW ⟨.slice YPA c.part.Ps.length YPC, .slice YLA c.part.L.length YLC, .slice YGA c.log.length YGC, .slice YWA c.wants.length YWC⟩ _ (Own.left (m := [_, _, _, _]) (M.drewN nd_).own)) ?_; (clear F a M; try clear w); rintro v y w rfl M a F; (try simp only [List.cons_append, List.nil_append] at M)
 obtain ⟨⟨yp, yl, yg, yw⟩, yo⟩ := y
 dsimp only at M F
 obtain ⟨XPA, XPC, rfl⟩ := SlOk.form M.h0
 obtain ⟨XLA, XLC, rfl⟩ := SlOk.form M.h1
 obtain ⟨XGA, XGC, rfl⟩ := SlOk.form M.h2
 obtain ⟨XWA, XWC, rfl⟩ := SlOk.form M.h3
 obtain ⟨XOA, XOC, rfl⟩ := SlOk.form M.h4
 refine s_I F rfl rfl rfl rfl rfl rfl ?_; clear F a; intro a F
 refine s_I F rfl rfl rfl rfl rfl rfl ?_; clear F a; intro a F
 refine s_I F rfl rfl rfl rfl rfl rfl ?_; clear F a; intro a F
 have M1 : Sep _ _ _ (blk b9 _ :: _) := M.f6; replace M := M1; clear M1
 refine s_stW F M rfl rfl rfl sz_100_G5 rfl rfl rfl rfl rfl ?_; (clear M; try clear w); intro w M
 refine s_I F rfl rfl rfl rfl rfl rfl ?_; clear F a; intro a F
 refine t_endM M ?_; (clear M; try clear w); intro w M
 replace F := F.keep [0, 1, 2, 5, 6, 7, 8, 9, 10, 11, 12, 13, 14, 63] rfl
 refine wp_region_l [.ind, .wr, .ind] ([0, 1, 2]) rfl ?_
 refine s_I F rfl rfl rfl rfl rfl rfl ?_; clear F a; intro a F
 have M1 : Sep _ _ _ (chnR _ _ :: _) := M.f6; replace M := M1; clear M1
 refine s_call (m := [_]) F M rfl rfl rfl rfl rfl (rfl : _ = some [_]) cb_61_G5 (fun nd_ => c61 γ c hW (fun h => (hz h).2) _ (M.drewN nd_).own.one) ?_; (clear F a M; try clear w); rintro v x w ⟨rfl, hb2⟩ M a F; (try simp only [List.cons_append, List.nil_append] at M)
 obtain ⟨γ2, v2⟩ := x
 dsimp only at M F hb2
 obtain ⟨QA, QC, rfl⟩ := SlOk.form M.h1
 have W2 : (c.start).Wf := hW.start (fun h => (hz h).2)
 have hz2 : Hz (c.start) := Hz.start c
 have hol : (c.startO).length ≤ 100000 := Nat.le_trans (startO_lenG c) (by decide)
 generalize c.startO = o2 at M F hol
 generalize c.start = c2 at M F W2 hz2
 refine s_I F rfl rfl rfl rfl rfl rfl ?_; clear F a; intro a F
 refine t_endM M ?_; (clear M; try clear w); intro w M
 refine joined ((c2), (γ2), (.slice XPA c2.part.Ps.length XPC), (.slice XLA c2.part.L.length XLC), (.slice XGA c2.log.length XGC), (.slice XWA c2.wants.length XWC), (0), (o2), (.slice XOA o2.length XOC), (.slice QA o2.length QC)) ⟨(by assumption), hb2, (by assumption), hol⟩ (F.keep [10, 11, 12, 13, 0, 1, 2, 5, 6, 7, 8, 9, 14, 63] rfl) ?_
 try dsimp only [List.cons_append, List.nil_append]
 refine M.pick ?_; repeat (first | exact PkG.nil | refine PkG.cons 0 rfl rfl ?_ | refine PkG.cons 1 rfl rfl ?_ | refine PkG.cons 2 rfl rfl ?_ | refine PkG.cons 3 rfl rfl ?_ | refine PkG.cons 4 rfl rfl ?_ | refine PkG.cons 5 rfl rfl ?_ | refine PkG.cons 6 rfl rfl ?_ | refine PkG.cons 7 rfl rfl ?_ | refine PkG.cons 8 rfl rfl ?_ | refine PkG.cons 9 rfl rfl ?_ | refine PkG.cons 10 rfl rfl ?_)
 clear F; intro hc4 F
 try rw [hc4] at F
 replace hc4 := of_decide_eq_false hc4
 refine wp_seq ?_
 replace F := F.keep [0, 1, 2, 5, 6, 7, 8, 9, 10, 11, 12, 13, 14, 63] rfl
 refine wp_region_l [.ind, .ind] ([0, 1]) rfl ?_
 refine s_bin F rfl rfl rfl rfl rfl rfl rfl ?_; clear F a; intro a F
 refine s_I F rfl rfl rfl rfl rfl rfl ?_; clear F a; intro a F
 refine t_endM M ?_; (clear M; try clear w); intro w M
 refine c_if F rfl ?_ ?_
 clear F; intro hc5 F
 try rw [hc5] at F
 replace hc5 := of_decide_eq_true hc5
 refine wp_seq ?_
 replace F := F.keep [0, 1, 2, 5, 6, 7, 8, 9, 10, 11, 12, 13, 14, 63] rfl
 refine wp_region_l [.rd, .ind, .rd, .wr, .ind, .ind, .ind, .wr, .ind] ([0, 1, 2, 3, 4, 5, 6, 7, 8]) rfl ?_
 refine s_lda F rfl rfl rfl rfl ag_100_G5 rfl rfl (cells_whole M.h7) ?_; clear F a; intro a F
 refine s_fa0 F rfl rfl rfl rfl fa_106_2_G5 rfl ?_; clear F a; intro a F
 refine s_lda F rfl rfl rfl rfl ag_104_G5 rfl rfl (dl_tallD M.h6) ?_; clear F a; intro a F
 have M1 : Sep _ _ _ (slR (.slice YWA _ YWC) _ _ _ _ :: _) := M.f5; replace M := M1; clear M1
 have M1 : Sep _ _ _ (slR (.slice YGA _ YGC) _ _ _ _ :: _) := M.f5; replace M := M1; clear M1
 have M1 : Sep _ _ _ (slR (.slice YLA _ YLC) _ _ _ _ :: _) := M.f5; replace M := M1; clear M1
 have M1 : Sep _ _ _ (slR (.slice YPA _ YPC) _ _ _ _ :: _) := M.f5; replace M := M1; clear M1
 refine s_call (m := [_, _, _, _]) F M rfl rfl rfl rfl rfl (rfl : _ = some [_, _]) cb_70_G5 (fun nd_ => c70 c hW dx ⟨.slice YPA c.part.Ps.length YPC, .slice YLA c.part.L.length YLC, .slice YGA c.log.length YGC, .slice YWA c.wants.length YWC⟩ _ (Own.left (m := [_, _, _, _]) (M.drewN nd_).own)) ?_; (clear F a M; try clear w); rintro v y w rfl M a F; (try simp only [List.cons_append, List.nil_append] at M)
 obtain ⟨⟨yp, yl, yg, yw⟩, yo⟩ := y
 dsimp only at M F
 obtain ⟨XPA, XPC, rfl⟩ := SlOk.form M.h0
 obtain ⟨XLA, XLC, rfl⟩ := SlOk.form M.h1
 obtain ⟨XGA, XGC, rfl⟩ := SlOk.form M.h2
 obtain ⟨XWA, XWC, rfl⟩ := SlOk.form M.h3
 obtain ⟨XOA, XOC, rfl⟩ := SlOk.form M.h4
 refine s_I F rfl rfl rfl rfl rfl rfl ?_; clear F a; intro a F
 refine s_I F rfl rfl rfl rfl rfl rfl ?_; clear F a; intro a F
 refine s_I F rfl rfl rfl rfl rfl rfl ?_; clear F a; intro a F
 have M1 : Sep _ _ _ (blk b9 _ :: _) := M.f6; replace M := M1; clear M1
 refine s_stW F M rfl rfl rfl sz_100_G5 rfl rfl rfl rfl rfl ?_; (clear M; try clear w); intro w M
 refine s_I F rfl rfl rfl rfl rfl rfl ?_; clear F a; intro a F
 refine t_endM M ?_; (clear M; try clear w); intro w M
 replace F := F.keep [0, 1, 2, 5, 6, 7, 8, 9, 10, 11, 12, 13, 14, 63] rfl
 refine wp_region_l [.ind, .ind, .rd, .wr, .ind] ([0, 1, 2, 3, 4]) rfl ?_
 refine s_I F rfl rfl rfl rfl rfl rfl ?_; clear F a; intro a F
 refine s_fa0 F rfl rfl rfl rfl fa_106_2_G5 rfl ?_; clear F a; intro a F
 refine s_lda F rfl rfl rfl rfl ag_104_G5 rfl rfl (dl_tallD M.h7) ?_; clear F a; intro a F
 have M1 : Sep _ _ _ (chnR _ _ :: _) := M.f6; replace M := M1; clear M1
 refine s_call (m := [_]) F M rfl rfl rfl rfl rfl (rfl : _ = some [_, _]) cb_71_G5 (fun nd_ => c71 γ c hW dx _ (M.drewN nd_).own.one) ?_; (clear F a M; try clear w); rintro v x w ⟨rfl, hb2⟩ M a F; (try simp only [List.cons_append, List.nil_append] at M)
 obtain ⟨γ2, v2⟩ := x
 dsimp only at M F hb2
 obtain ⟨QA, QC, rfl⟩ := SlOk.form M.h1
 have W2 : (c.take dx).Wf := hW.take _
 have hz2 : Hz (c.take dx) := hz.take _
 have hol : (c.takeO dx).length ≤ 100000 := Nat.le_trans (takeO_len hW dx) (by decide)
 generalize c.takeO dx = o2 at M F hol
 generalize c.take dx = c2 at M F W2 hz2
 refine s_I F rfl rfl rfl rfl rfl rfl ?_; clear F a; intro a F
 refine t_endM M ?_; (clear M; try clear w); intro w M
 refine joined ((c2), (γ2), (.slice XPA c2.part.Ps.length XPC), (.slice XLA c2.part.L.length XLC), (.slice XGA c2.log.length XGC), (.slice XWA c2.wants.length XWC), (0), (o2), (.slice XOA o2.length XOC), (.slice QA o2.length QC)) ⟨(by assumption), hb2, (by assumption), hol⟩ (F.keep [10, 11, 12, 13, 0, 1, 2, 5, 6, 7, 8, 9, 14, 63] rfl) ?_
 try dsimp only [List.cons_append, List.nil_append]
 refine M.pick ?_; repeat (first | exact PkG.nil | refine PkG.cons 0 rfl rfl ?_ | refine PkG.cons 1 rfl rfl ?_ | refine PkG.cons 2 rfl rfl ?_ | refine PkG.cons 3 rfl rfl ?_ | refine PkG.cons 4 rfl rfl ?_ | refine PkG.cons 5 rfl rfl ?_ | refine PkG.cons 6 rfl rfl ?_ | refine PkG.cons 7 rfl rfl ?_ | refine PkG.cons 8 rfl rfl ?_ | refine PkG.cons 9 rfl rfl ?_ | refine PkG.cons 10 rfl rfl ?_)
 clear F; intro hc6 F
 try rw [hc6] at F
 replace hc6 := of_decide_eq_false hc6
 refine wp_seq ?_
 replace F := F.keep [0, 1, 2, 5, 6, 7, 8, 9, 10, 11, 12, 13, 14, 63] rfl
 refine wp_region_l [.ind, .ind] ([0, 1]) rfl ?_
 refine s_bin F rfl rfl rfl rfl rfl rfl rfl ?_; clear F a; intro a F
 refine s_I F rfl rfl rfl rfl rfl rfl ?_; clear F a; intro a F
 refine t_endM M ?_; (clear M; try clear w); intro w M
 refine c_if F rfl ?_ ?_
 clear F; intro hc7 F
 try rw [hc7] at F
 replace hc7 := of_decide_eq_true hc7
 refine wp_seq ?_
 replace F := F.keep [0, 1, 2, 5, 6, 7, 8, 9, 10, 11, 12, 13, 14, 63] rfl
 refine wp_region_l [.rd, .ind, .rd, .wr, .ind, .ind, .ind, .wr, .ind] ([0, 1, 2, 3, 4, 5, 6, 7, 8]) rfl ?_
 refine s_lda F rfl rfl rfl rfl ag_100_G5 rfl rfl (cells_whole M.h7) ?_; clear F a; intro a F
 refine s_fa0 F rfl rfl rfl rfl fa_106_1_G5 rfl ?_; clear F a; intro a F
 refine s_ld F rfl rfl rfl rfl sc_3_G5 rfl (by exact cell_of_blk M.h6 (lit rfl)) ?_; clear F a; intro a F
 have M1 : Sep _ _ _ (slR (.slice YWA _ YWC) _ _ _ _ :: _) := M.f5; replace M := M1; clear M1
 have M1 : Sep _ _ _ (slR (.slice YGA _ YGC) _ _ _ _ :: _) := M.f5; replace M := M1; clear M1
 have M1 : Sep _ _ _ (slR (.slice YLA _ YLC) _ _ _ _ :: _) := M.f5; replace M := M1; clear M1
 have M1 : Sep _ _ _ (slR (.slice YPA _ YPC) _ _ _ _ :: _) := M.f5; replace M := M1; clear M1
 refine s_call (m := [_, _, _, _]) F M rfl rfl rfl rfl rfl (rfl : _ = some [_, _]) cb_72_G5 (fun nd_ => c72 c hW dn ⟨.slice YPA c.part.Ps.length YPC, .slice YLA c.part.L.length YLC, .slice YGA c.log.length YGC, .slice YWA c.wants.length YWC⟩ _ (Own.left (m := [_, _, _, _]) (M.drewN nd_).own)) ?_; (clear F a M; try clear w); rintro v y w rfl M a F; (try simp only [List.cons_append, List.nil_append] at M)
 obtain ⟨⟨yp, yl, yg, yw⟩, yo⟩ := y
 dsimp only at M F
 obtain ⟨XPA, XPC, rfl⟩ := SlOk.form M.h0
 obtain ⟨XLA, XLC, rfl⟩ := SlOk.form M.h1
 obtain ⟨XGA, XGC, rfl⟩ := SlOk.form M.h2
 obtain ⟨XWA, XWC, rfl⟩ := SlOk.form M.h3
 obtain ⟨XOA, XOC, rfl⟩ := SlOk.form M.h4
 refine s_I F rfl rfl rfl rfl rfl rfl ?_; clear F a; intro a F
 refine s_I F rfl rfl rfl rfl rfl rfl ?_; clear F a; intro a F
 refine s_I F rfl rfl rfl rfl rfl rfl ?_; clear F a; intro a F
 have M1 : Sep _ _ _ (blk b9 _ :: _) := M.f6; replace M := M1; clear M1
 refine s_stW F M rfl rfl rfl sz_100_G5 rfl rfl rfl rfl rfl ?_; (clear M; try clear w); intro w M
 refine s_I F rfl rfl rfl rfl rfl rfl ?_; clear F a; intro a F
 refine t_endM M ?_; (clear M; try clear w); intro w M
 replace F := F.keep [0, 1, 2, 5, 6, 7, 8, 9, 10, 11, 12, 13, 14, 63] rfl
 refine wp_region_l [.ind, .ind, .rd, .wr, .ind] ([0, 1, 2, 3, 4]) rfl ?_
 refine s_I F rfl rfl rfl rfl rfl rfl ?_; clear F a; intro a F
 refine s_fa0 F rfl rfl rfl rfl fa_106_1_G5 rfl ?_; clear F a; intro a F
 refine s_ld F rfl rfl rfl rfl sc_3_G5 rfl (by exact cell_of_blk M.h7 (lit rfl)) ?_; clear F a; intro a F
 have M1 : Sep _ _ _ (chnR _ _ :: _) := M.f6; replace M := M1; clear M1
 refine s_call (m := [_]) F M rfl rfl rfl rfl rfl (rfl : _ = some [_, _]) cb_73_G5 (fun nd_ => c73 γ c hW dn _ (M.drewN nd_).own.one) ?_; (clear F a M; try clear w); rintro v x w ⟨rfl, hb2⟩ M a F; (try simp only [List.cons_append, List.nil_append] at M)
 rw [hz.tmo dn] at M
 obtain ⟨γ2, v2⟩ := x
 dsimp only at M F hb2
 obtain ⟨QA, QC, rfl⟩ := SlOk.form M.h1
 have W2 : (c.word (⟨4, 0, c.part.round, dn, VoteM.empty⟩ : Wrd)).Wf := hW.word _
 have hz2 : Hz (c.word (⟨4, 0, c.part.round, dn, VoteM.empty⟩ : Wrd)) := hz.word _
 have hol : (c.wordO (⟨4, 0, c.part.round, dn, VoteM.empty⟩ : Wrd)).length ≤ 100000 := Nat.le_trans (wordO_lenG hW _) (by decide)
 generalize c.wordO (⟨4, 0, c.part.round, dn, VoteM.empty⟩ : Wrd) = o2 at M F hol
 generalize c.word (⟨4, 0, c.part.round, dn, VoteM.empty⟩ : Wrd) = c2 at M F W2 hz2
 refine s_I F rfl rfl rfl rfl rfl rfl ?_; clear F a; intro a F
 refine t_endM M ?_; (clear M; try clear w); intro w M
 refine joined ((c2), (γ2), (.slice XPA c2.part.Ps.length XPC), (.slice XLA c2.part.L.length XLC), (.slice XGA c2.log.length XGC), (.slice XWA c2.wants.length XWC), (0), (o2), (.slice XOA o2.length XOC), (.slice QA o2.length QC)) ⟨(by assumption), hb2, (by assumption), hol⟩ (F.keep [10, 11, 12, 13, 0, 1, 2, 5, 6, 7, 8, 9, 14, 63] rfl) ?_
 try dsimp only [List.cons_append, List.nil_append]
 refine M.pick ?_; repeat (first | exact PkG.nil | refine PkG.cons 0 rfl rfl ?_ | refine PkG.cons 1 rfl rfl ?_ | refine PkG.cons 2 rfl rfl ?_ | refine PkG.cons 3 rfl rfl ?_ | refine PkG.cons 4 rfl rfl ?_ | refine PkG.cons 5 rfl rfl ?_ | refine PkG.cons 6 rfl rfl ?_ | refine PkG.cons 7 rfl rfl ?_ | refine PkG.cons 8 rfl rfl ?_ | refine PkG.cons 9 rfl rfl ?_ | refine PkG.cons 10 rfl rfl ?_)
 clear F; intro hc8 F
 try rw [hc8] at F
 replace hc8 := of_decide_eq_false hc8
 refine wp_seq ?_
 replace F := F.keep [0, 1, 2, 5, 6, 7, 8, 9, 10, 11, 12, 13, 14, 63] rfl
 refine wp_region_l [.ind, .ind] ([0, 1]) rfl ?_
 refine s_bin F rfl rfl rfl rfl rfl rfl rfl ?_; clear F a; intro a F
 refine s_I F rfl rfl rfl rfl rfl rfl ?_; clear F a; intro a F
 refine t_endM M ?_; (clear M; try clear w); intro w M
 refine c_if F rfl ?_ ?_
 clear F; intro hc9 F
 try rw [hc9] at F
 replace hc9 := of_decide_eq_true hc9
 refine wp_seq ?_
 replace F := F.keep [0, 1, 2, 5, 6, 7, 8, 9, 10, 11, 12, 13, 14, 63] rfl
 refine wp_region_l [.rd, .ind, .rd, .wr, .ind, .ind, .ind, .wr, .ind] ([0, 1, 2, 3, 4, 5, 6, 7, 8]) rfl ?_
 refine s_lda F rfl rfl rfl rfl ag_100_G5 rfl rfl (cells_whole M.h7) ?_; clear F a; intro a F
 refine s_fa0 F rfl rfl rfl rfl fa_106_3_G5 rfl ?_; clear F a; intro a F
 refine s_ld F rfl rfl rfl rfl sc_69_G5 rfl (by exact cell_of_blk M.h6 (lit rfl)) ?_; clear F a; intro a F
 have M1 : Sep _ _ _ (slR (.slice YWA _ YWC) _ _ _ _ :: _) := M.f5; replace M := M1; clear M1
 have M1 : Sep _ _ _ (slR (.slice YGA _ YGC) _ _ _ _ :: _) := M.f5; replace M := M1; clear M1
 have M1 : Sep _ _ _ (slR (.slice YLA _ YLC) _ _ _ _ :: _) := M.f5; replace M := M1; clear M1
 have M1 : Sep _ _ _ (slR (.slice YPA _ YPC) _ _ _ _ :: _) := M.f5; replace M := M1; clear M1
 refine s_call (m := [_, _, _, _]) F M rfl rfl rfl rfl rfl (rfl : _ = some [_, _]) cb_74_G5 (fun nd_ => c74w c hW dvs (by omega) _ ⟨.slice YPA c.part.Ps.length YPC, .slice YLA c.part.L.length YLC, .slice YGA c.log.length YGC, .slice YWA c.wants.length YWC⟩ _ (Own.left (m := [_, _, _, _]) (M.drewN nd_).own) (ro_newL (m := [_, _, _, _]) (M.drewN nd_) hrv)) ?_; (clear F a M; try clear w); rintro v y w rfl M a F; (try simp only [List.cons_append, List.nil_append] at M)
 obtain ⟨yp, yl, yg, yw⟩ := y
 dsimp only at M F
 obtain ⟨XPA, XPC, rfl⟩ := SlOk.form M.h0
 obtain ⟨XLA, XLC, rfl⟩ := SlOk.form M.h1
 obtain ⟨XGA, XGC, rfl⟩ := SlOk.form M.h2
 obtain ⟨XWA, XWC, rfl⟩ := SlOk.form M.h3
 refine s_I F rfl rfl rfl rfl rfl rfl ?_; clear F a; intro a F
 refine s_I F rfl rfl rfl rfl rfl rfl ?_; clear F a; intro a F
 refine s_I F rfl rfl rfl rfl rfl rfl ?_; clear F a; intro a F
 have M1 : Sep _ _ _ (blk b9 _ :: _) := M.f5; replace M := M1; clear M1
 refine s_stW F M rfl rfl rfl sz_100_G5 rfl rfl rfl rfl rfl ?_; (clear M; try clear w); intro w M
 refine s_I F rfl rfl rfl rfl rfl rfl ?_; clear F a; intro a F
 refine t_endM M ?_; (clear M; try clear w); intro w M
 replace F := F.keep [0, 1, 2, 5, 6, 7, 8, 9, 10, 11, 12, 13, 14, 63] rfl
 refine wp_region_l [.ind, .ind, .rd, .wr, .ind] ([0, 1, 2, 3, 4]) rfl ?_
 refine s_I F rfl rfl rfl rfl rfl rfl ?_; clear F a; intro a F
 refine s_fa0 F rfl rfl rfl rfl fa_106_3_G5 rfl ?_; clear F a; intro a F
 refine s_ld F rfl rfl rfl rfl sc_69_G5 rfl (by exact cell_of_blk M.h6 (lit rfl)) ?_; clear F a; intro a F
 have M1 : Sep _ _ _ (chnR _ _ :: _) := M.f5; replace M := M1; clear M1
 refine s_call (m := [_]) F M rfl rfl rfl rfl rfl (rfl : _ = some [_, _]) cb_60_G5 (fun nd_ => c60w γ c hW dvs (by omega) _ _ (M.drewN nd_).own.one (ro_newL (m := [_]) (M.drewN nd_) hrv)) ?_; (clear F a M; try clear w); rintro v γ1 w ⟨rfl, hb2⟩ M a F; (try simp only [List.cons_append, List.nil_append] at M)
 have W2 : (cgC c dvs).Wf := cg_wf hW
 have hz2 : Hz (cgC c dvs) := hz.cg _
 generalize cgC c dvs = c2 at M F W2 hz2
 generalize ((cgN c dvs : Nat) : Int) = e2 at F
 replace M := (M.nilT encTo 104 6).nilT encTo 104 6
 refine s_I F rfl rfl rfl rfl rfl rfl ?_; clear F a; intro a F
 refine t_endM M ?_; (clear M; try clear w); intro w M
 refine joined ((c2), (γ1), (.slice XPA c2.part.Ps.length XPC), (.slice XLA c2.part.L.length XLC), (.slice XGA c2.log.length XGC), (.slice XWA c2.wants.length XWC), (e2), ([]), (.slice none 0 0), (.slice none 0 0)) ⟨(by assumption), hb2, (by assumption), (by decide)⟩ (F.keep [10, 11, 12, 13, 0, 1, 2, 5, 6, 7, 8, 9, 14, 63] rfl) ?_
 try dsimp only [List.cons_append, List.nil_append]
 refine M.pick ?_; repeat (first | exact PkG.nil | refine PkG.cons 0 rfl rfl ?_ | refine PkG.cons 1 rfl rfl ?_ | refine PkG.cons 2 rfl rfl ?_ | refine PkG.cons 3 rfl rfl ?_ | refine PkG.cons 4 rfl rfl ?_ | refine PkG.cons 5 rfl rfl ?_ | refine PkG.cons 6 rfl rfl ?_ | refine PkG.cons 7 rfl rfl ?_ | refine PkG.cons 8 rfl rfl ?_ | refine PkG.cons 9 rfl rfl ?_ | refine PkG.cons 10 rfl rfl ?_)
 clear F; intro hc10 F
 try rw [hc10] at F
 replace hc10 := of_decide_eq_false hc10
 refine wp_skip ?_
 replace M := (M.nilT encTo 104 6).nilT encTo 104 6
 refine joined ((c), (γ), (.slice YPA c.part.Ps.length YPC), (.slice YLA c.part.L.length YLC), (.slice YGA c.log.length YGC), (.slice YWA c.wants.length YWC), (0), ([]), (.slice none 0 0), (.slice none 0 0)) ⟨hW, rfl, hz, (by decide)⟩ (F.keep [10, 11, 12, 13, 0, 1, 2, 5, 6, 7, 8, 9, 14, 63] rfl) ?_
 try dsimp only [List.cons_append, List.nil_append]
 refine M.pick ?_; repeat (first | exact PkG.nil | refine PkG.cons 0 rfl rfl ?_ | refine PkG.cons 1 rfl rfl ?_ | refine PkG.cons 2 rfl rfl ?_ | refine PkG.cons 3 rfl rfl ?_ | refine PkG.cons 4 rfl rfl ?_ | refine PkG.cons 5 rfl rfl ?_ | refine PkG.cons 6 rfl rfl ?_ | refine PkG.cons 7 rfl rfl ?_ | refine PkG.cons 8 rfl rfl ?_ | refine PkG.cons 9 rfl rfl ?_ | refine PkG.cons 10 rfl rfl ?_)
 clear F M; clear a; (try clear w)
 rintro ⟨c2, γ2, zp, zl, zg, zw, e, o, ov, gv⟩ a w ⟨W2, hg2, hz2, hol⟩ F M; try dsimp only at F M
 try simp only [List.cons_append, List.nil_append] at F M
 try dsimp only at W2 hg2 hz2 hol
 rw [← hg2] at F
 obtain ⟨ZPA, ZPC, rfl⟩ := SlOk.form M.h2
 obtain ⟨ZLA, ZLC, rfl⟩ := SlOk.form M.h3
 obtain ⟨ZGA, ZGC, rfl⟩ := SlOk.form M.h4
 obtain ⟨ZWA, ZWC, rfl⟩ := SlOk.form M.h5
 obtain ⟨OA, OC, rfl⟩ := SlOk.form M.h6
 obtain ⟨QA, QC, rfl⟩ := SlOk.form M.h7
 refine wp_seq ?_
 refine wp_region_l [.rd, .wr] ([0, 1]) rfl ?_
 refine s_lda F rfl rfl rfl rfl ag_100_G5 rfl rfl (cells_whole M.h1) ?_; clear F a; intro a F
 have M1 : Sep _ _ _ (blk b6 _ :: _) := M.f9; replace M := M1; clear M1
 refine s_stW F M rfl rfl rfl sz_100_G5 rfl rfl rfl rfl rfl ?_; (clear M; try clear w); intro w M
 refine t_endM M ?_; (clear M; try clear w); intro w M
 refine wp_seq ?_
 have M1 : Sep _ _ _ (chnR _ _ :: _) := M.f1; replace M := M1; clear M1
 replace F := F.keep [0, 1, 2, 5, 6, 7, 8, 9, 10, 11, 12, 13, 14, 63] rfl
 refine wp_region_t [.ind, .ind, .ind, .ind, .ind, .ind, .wr, .ind, .ind, .ind, .ind, .wr, .ind, .rd, .ind, .ind, .ind, .ind, .ind, .wr, .ind, .rd, .ind, .ind, .ind, .ind, .ind, .wr, .ind, .rd, .wr, .ind, .ind] [(13, 11), (21, 19), (29, 27)] (otOf [0, 1, 2, 3, 4, 5, 6, 7, 8, 9, 10, 12, 13, 14, 11, 15, 16, 17, 18, 20, 21, 22, 19, 23, 24, 25, 26, 28, 29, 27, 30, 31, 32]) mixed (by kernel_rfl) ?_
 refine s_I F rfl rfl rfl rfl rfl rfl ?_; clear F a; intro a F
 refine s_I F rfl rfl rfl rfl rfl rfl ?_; clear F a; intro a F
 refine s_bin F rfl rfl rfl rfl rfl rfl rfl ?_; clear F a; intro a F
 refine s_I F rfl rfl rfl rfl rfl rfl ?_; clear F a; intro a F
 refine bsplit F 133 rfl ?_ ?_
 clear F; intro hc11 F
 try rw [hc11] at F
 replace hc11 := nd1 hc11
 exact absurd rfl (by assumption)
 clear F; intro hc12 F
 try rw [hc12] at F
 replace hc12 := nd0 hc12
 refine s_I F rfl rfl rfl rfl rfl rfl ?_; clear F a; intro a F
 refine s_I F rfl rfl rfl rfl rfl rfl ?_; clear F a; intro a F
 refine s_cqL F M rfl rfl rfl rfl rfl (rfl : _ = some [_, _]) cb_75_G5 (fun nd_ => c75 o o hol _ _ _ (by exact SlOk.rd M.h7) (by exact SlOk.rd M.h8)) (fun _ w _ M => (by exact pend_none)) ?_; (clear F a M; try clear w); rintro v w rfl M a F
 rw [decide_eq_true rfl] at F
 refine s_I F rfl rfl rfl rfl rfl rfl ?_; clear F a; intro a F
 replace F : Fr _ _ ((137, Value.bool false) :: _) := F
 refine s_I F rfl rfl rfl rfl rfl rfl ?_; clear F a; intro a F
 refine s_I F rfl rfl rfl rfl rfl rfl ?_; clear F a; intro a F
 refine s_I F rfl rfl rfl rfl rfl rfl ?_; clear F a; intro a F
 refine s_fa0 F rfl rfl rfl rfl fa_100_5_G5 rfl ?_; clear F a; intro a F
 refine s_ldL F rfl rfl rfl rfl sc_69_G5 rfl (by exact cell_of_blk M.h1 (lit rfl)) ?_; clear F a; intro a F
 refine s_len F rfl rfl rfl rfl sl_69_G5 rfl ?_; clear F a; intro a F
 refine s_cqL F M rfl rfl rfl rfl rfl (rfl : _ = some [_]) cb_64_G5 (fun nd_ => c64 γ2 c2 _ (by exact roF (M.drewN nd_))) (fun _ w _ M => (by (refine pend_take (by exact cell_of_blk M.h1 (lit rfl)) ?_); exact pend_none)) ?_; (clear F a M; try clear w); rintro v w rfl M a F
 refine s_bin F rfl rfl rfl rfl rfl rfl rfl ?_; clear F a; intro a F
 refine s_I F rfl rfl rfl rfl rfl rfl ?_; clear F a; intro a F
 refine s_I F rfl rfl rfl rfl rfl rfl ?_; clear F a; intro a F
 refine bsplit F 147 rfl ?_ ?_
 clear F; intro hc13 F
 try rw [hc13] at F
 replace hc13 := nd1 hc13
 exact absurd rfl (by assumption)
 clear F; intro hc14 F
 try rw [hc14] at F
 replace hc14 := nd0 hc14
 refine s_I F rfl rfl rfl rfl rfl rfl ?_; clear F a; intro a F
 refine s_fa0 F rfl rfl rfl rfl fa_100_6_G5 rfl ?_; clear F a; intro a F
 refine s_ldL F rfl rfl rfl rfl sc_69_G5 rfl (by exact cell_of_blk M.h1 (lit rfl)) ?_; clear F a; intro a F
 refine s_len F rfl rfl rfl rfl sl_69_G5 rfl ?_; clear F a; intro a F
 refine s_cqL F M rfl rfl rfl rfl rfl (rfl : _ = some [_]) cb_65_G5 (fun nd_ => c65 γ2 c2 _ (by exact roF (M.drewN nd_))) (fun _ w _ M => (by (refine pend_take (by exact cell_of_blk M.h1 (lit rfl)) ?_); (refine pend_skip rfl ?_); exact pend_none)) ?_; (clear F a M; try clear w); rintro v w rfl M a F
 refine s_bin F rfl rfl rfl rfl rfl rfl rfl ?_; clear F a; intro a F
 refine s_I F rfl rfl rfl rfl rfl rfl ?_; clear F a; intro a F
 refine s_I F rfl rfl rfl rfl rfl rfl ?_; clear F a; intro a F
 refine bsplit F 155 rfl ?_ ?_
 clear F; intro hc15 F
 try rw [hc15] at F
 replace hc15 := nd1 hc15
 exact absurd rfl (by assumption)
 clear F; intro hc16 F
 try rw [hc16] at F
 replace hc16 := nd0 hc16
 refine s_I F rfl rfl rfl rfl rfl rfl ?_; clear F a; intro a F
 refine s_fa0 F rfl rfl rfl rfl fa_100_5_G5 rfl ?_; clear F a; intro a F
 refine s_ldL F rfl rfl rfl rfl sc_69_G5 rfl (by exact cell_of_blk M.h1 (lit rfl)) ?_; clear F a; intro a F
 refine s_callP (m := []) F M rfl rfl rfl rfl rfl (rfl : _ = some [_]) cb_63_G5 (fun nd_ => c63 γ2 c2 (Nat.le_trans W2.ll (by decide)) _ (by exact roF (M.drewN nd_))) (fun _ x w _ M => by (try simp only [List.cons_append, List.nil_append] at M); exact (by (refine pend_take (by exact cell_of_blk M.h2 (lit rfl)) ?_); (refine pend_skip rfl ?_); (refine pend_skip rfl ?_); exact pend_none)) ?_; (clear F a M; try clear w); rintro v x1 w rfl M a F; (try simp only [List.cons_append, List.nil_append] at M)
 refine s_cqL F M rfl rfl rfl rfl rfl (rfl : _ = some [_, _]) cb_62_G5 (fun nd_ => c62 c2.log c2.log (Nat.le_trans W2.ll (by decide)) _ _ _ (by exact SlOk.rd M.h0) (by exact SlOk.rd M.h6)) (fun _ w _ M => (by (refine pend_skip rfl ?_); (refine pend_skip rfl ?_); (refine pend_skip rfl ?_); exact pend_none)) ?_; (clear F a M; try clear w); rintro v w rfl M a F
 rw [decide_eq_true rfl] at F
 refine s_I F rfl rfl rfl rfl rfl rfl ?_; clear F a; intro a F
 replace F : Fr _ _ ((161, Value.bool false) :: _) := F
 refine s_I F rfl rfl rfl rfl rfl rfl ?_; clear F a; intro a F
 refine t_endM M ?_; (clear M; try clear w); intro w M
 refine c_f F rfl ?_
 refine wp_skip ?_
 replace F := F.keep [0, 1, 2, 5, 6, 7, 8, 9, 10, 11, 12, 13, 14, 63] rfl
 refine wp_region_l [.ind, .ind, .ind] ([0, 1, 2]) rfl ?_
 refine s_I F rfl rfl rfl rfl rfl rfl ?_; clear F a; intro a F
 refine s_add F rfl rfl rfl rfl rfl rfl (by unfold In64; omega) ?_; clear F a; intro a F
 refine s_I F rfl rfl rfl rfl rfl rfl ?_; clear F a; intro a F
 refine t_endM M ?_; (clear M; try clear w); intro w M
 rw [hg2, hg] at F
 refine again ((i + 1), (γ2), (c2), (.slice ZPA c2.part.Ps.length ZPC), (.slice ZLA c2.part.L.length ZLC), (.slice ZGA c2.log.length ZGC), (.slice ZWA c2.wants.length ZWC)) (by show _ < _; (try dsimp only); omega) ⟨(by omega), (by assumption), (hg2.trans hg), W2, hz2⟩ (F.keep [8, 0, 1, 2, 5, 6, 7] rfl) ?_
 try dsimp only [List.cons_append, List.nil_append]
 refine M.pick ?_; repeat (first | exact PkG.nil | refine PkG.cons 1 rfl rfl ?_ | refine PkG.cons 2 rfl rfl ?_ | refine PkG.cons 4 rfl rfl ?_ | refine PkG.cons 5 rfl rfl ?_ | refine PkG.cons 6 rfl rfl ?_ | refine PkG.cons 7 rfl rfl ?_ | refine PkG.cons 11 rfl rfl ?_)
 clear F; intro hc17 F
 try rw [hc17] at F
 replace hc17 := of_decide_eq_false hc17
 refine wp_exit ?_
 refine wp_seq ?_
 replace F := F.keep [0, 1, 2, 5, 6, 7, 8] rfl
 refine wp_region_l [.wr, .ind] ([0, 1]) rfl ?_
 refine s_cq F M rfl rfl rfl rfl rfl (rfl : _ = some []) cb_57_G5 (fun nd_ => c57 _) ?_; (clear F a M; try clear w); rintro v w rfl M a F
 refine s_I F rfl rfl rfl rfl rfl rfl ?_; clear F a; intro a F
 refine t_endM M ?_; (clear M; try clear w); intro w M
 refine wp_ret ?_
 refine ret1 F rfl rfl ?_
 exact ⟨_, rfl, rfl, M.chg⟩
theorem law17 (n t me : Int) (l : List Dd) (v : Value) (w0 : World) (hr : RdSl w0.heap v l.length 9 (l.flatMap encD)) (hd : ∀ d ∈ l, RdSl w0.heap d.vv d.vs.length 1 (d.vs.flatMap encS)) : Cl Try.prog 17 #[.agg #[.int .i64 n, .int .i64 t, .int .i64 me], v] w0 (RetQ w0 fun v => v = .bool true) := by
 by_cases hf : fewD l
 · cases hk : okA n t me 0 tilde
   · exact law17b n t me l v w0 hr hd hf hk
   · exact law17c n t me l v w0 hr hd hf hk
 · exact law17a n t me l v w0 hr hd hf
end Go.Proofs.Ytboibdmflblphaa
