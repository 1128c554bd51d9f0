/- G4 of the seat. -/
import Derived.Test.YtboibdmflblphaaG3
namespace Go.Proofs.Ytboibdmflblphaa
open Go Fw
theorem zr_100_G4 : zeroB Try.prog 100 = some (.agg #[.int .i64 0, .int .i64 0, .int .i64 0, .bool false, .int .i64 0, .int .i64 0, .string { data := #[] }, .int .i64 0, .int .i64 0, .string { data := #[] }, .int .i64 0, .string { data := #[] }, .int .i64 0, .slice none 0 0, .int .i64 0, .int .i64 0, .slice none 0 0, .bool false, .bool false, .string { data := #[] }, .slice none 0 0, .slice none 0 0]) := by kernel_rfl
theorem sl_69_G4 : slcB Try.prog 69 = some (9, 1) := by kernel_rfl
theorem fa_100_3_G4 : FA Try.prog 100 3 3 := fun _ _ _ => by kernel_rfl
theorem sc_4_G4 : scalB Try.prog 4 = true := by kernel_rfl
theorem ag_100_G4 : aggB Try.prog 100 = some 22 := by kernel_rfl
theorem sz_100_G4 : sizeB Try.prog 100 = some 22 := by kernel_rfl
theorem sc_9_G4 : scalB Try.prog 9 = true := by kernel_rfl
theorem cb_102_G4 : callB Try.prog 102 = true := by kernel_rfl
theorem fa_100_5_G4 : FA Try.prog 100 5 20 := fun _ _ _ => by kernel_rfl
theorem sc_69_G4 : scalB Try.prog 69 = true := by kernel_rfl
theorem cb_106_G4 : callB Try.prog 106 = true := by kernel_rfl
theorem sl_97_G4 : slcB Try.prog 97 = some (106, 9) := by kernel_rfl
theorem fa_106_2_G4 : FA Try.prog 106 2 2 := fun _ _ _ => by kernel_rfl
theorem fa_104_1_G4 : FA Try.prog 104 1 1 := fun _ _ _ => by kernel_rfl
theorem fa_32_4_G4 : FA Try.prog 32 4 4 := fun _ _ _ => by kernel_rfl
theorem st_9_G4 : strB Try.prog 9 = true := by kernel_rfl
theorem fa_106_3_G4 : FA Try.prog 106 3 8 := fun _ _ _ => by kernel_rfl
open VoteM AgrM CouM ChnM

structure Dd where
 k : Int
 n : Int
 x : To
 vv : Value
 vs : List ByteArray
def encD (d : Dd) : List Value := [.int .i64 d.k, .int .i64 d.n, .int .i64 d.x.node, .int .i64 d.x.w.kind, .int .i64 d.x.w.frm, .int .i64 d.x.w.round, .int .i64 d.x.w.valid, .string d.x.w.value, d.vv]
structure okDd (d : Dd) : Prop where
 v : d.x.w.value.size ≤ 5000
 l : d.vs.length ≤ 100
 s : ∀ s ∈ d.vs, s.size ≤ 5000
def fewD (l : List Dd) : Prop := l.length ≤ 100 ∧ ∀ d ∈ l, okDd d
theorem all_takeD {α : Type} {p : α → Prop} {l : List α} {i : Int} {e : α} (h : ∀ d ∈ l.take i.toNat, p d) (i0 : 0 ≤ i) (he : l[i.toNat]? = some e) (hp : p e) : ∀ d ∈ l.take (i + 1).toNat, p d := by
 rw [show (i + 1).toNat = i.toNat + 1 by omega]
 exact take_next h he hp

set_option maxRecDepth 100000 in
set_option maxHeartbeats 400000 in
theorem c74n (c : Chn) (hcb : c.begun = false) {PA LA GA WA : Option Addr} {pn pc ln lc GC WC : Nat} (A : Option Addr) (m d : Nat) (w0 : World) : Cl Try.prog 74 #[cV c (.slice PA pn pc) (.slice LA ln lc) (.slice GA c.log.length GC) (.slice WA c.wants.length WC), .slice A m d] w0 (RetQ w0 fun o => o = .tuple #[cV c (.slice PA pn pc) (.slice LA ln lc) (.slice GA c.log.length GC) (.slice WA c.wants.length WC), .int .i64 0]) := by
 have M : Sep (fun _ => False) w0 w0 _ := Sep.nil _ w0
 refine enter (vs := [_, _]) Try.func74 rfl rfl rfl ?_
 intro a F
 refine wp_seq ?_
 refine wp_region_l [.wr, .wr, .ind] ([0, 1, 2]) rfl ?_
 refine s_bxA F M rfl rfl rfl rfl rfl ?_; (clear F a M; try clear w); intro b2 w M a F
 refine s_alc F M rfl rfl rfl rfl zr_100_G4 rfl ?_; (clear F a M; try clear w); intro b4 w M a F
 refine s_I F rfl rfl rfl rfl rfl rfl ?_; clear F a; intro a F
 refine t_endM M ?_; (clear M; try clear w); intro w M
 refine wp_seq ?_
 refine wp_region_l [.ind] ([0]) rfl ?_
 refine s_I F rfl rfl rfl rfl rfl rfl ?_; clear F a; intro a F
 refine t_endM M ?_; (clear M; try clear w); intro w M
 refine wp_seq ?_
 refine wp_block ?_
 refine loopX (X := Unit) F [0, 1, 2, 4, 5] rfl (fun (_ : Unit) => True) (fun (_ : Unit) => [(6, .int .i64 0)]) (fun (_ : Unit) => []) (fun (_ : Unit) => 0) () M trivial (F.keep [6, 0, 1, 2, 4, 5] rfl) ?_
 clear F M; clear a; (try clear w)
 rintro _ a w _ F M; try dsimp only at F M
 try simp only [List.cons_append, List.nil_append] at F M
 refine wp_seq ?_
 refine wp_seq ?_
 refine wp_region_l [.ind, .ind, .ind, .ind, .ind, .ind, .rd, .ind, .ind, .ind, .ind, .ind, .rd, .wr, .ind, .ind, .ind, .rd, .ind, .ind, .ind] ([0, 1, 2, 3, 4, 5, 6, 7, 8, 9, 10, 11, 12, 13, 14, 15, 16, 17, 18, 19, 20]) rfl ?_
 refine s_I F rfl rfl rfl rfl rfl rfl ?_; clear F a; intro a F
 refine s_I F rfl rfl rfl rfl rfl rfl ?_; clear F a; intro a F
 refine s_len F rfl rfl rfl rfl sl_69_G4 rfl ?_; clear F a; intro a F
 refine s_bin F rfl rfl rfl rfl rfl rfl rfl ?_; clear F a; intro a F
 refine s_I F rfl rfl rfl rfl rfl rfl ?_; clear F a; intro a F
 refine bsplit F 11 rfl ?_ ?_
 clear F; intro hc0 F
 try rw [hc0] at F
 replace hc0 := of_decide_eq_true hc0
 refine s_fa0 F rfl rfl rfl rfl fa_100_3_G4 rfl ?_; clear F a; intro a F
 refine s_ld F rfl rfl rfl rfl sc_4_G4 rfl (by exact cell_of_blk M.h1 (lit rfl)) ?_; clear F a; intro a F
 refine s_I F rfl rfl rfl rfl rfl rfl ?_; clear F a; intro a F
 refine s_I F rfl rfl rfl rfl rfl rfl ?_; clear F a; intro a F
 refine bsplit F 15 rfl ?_ ?_
 clear F; intro hc1 F
 try rw [hc1] at F
 skip
 exact absurd hcb (by rw [show c.begun = true by assumption]; decide)
 clear F; intro hc2 F
 try rw [hc2] at F
 skip
 refine s_no F rfl rfl rfl rfl ?_; clear F a; intro a F
 refine s_no F rfl rfl rfl rfl ?_; clear F a; intro a F
 refine s_no F rfl rfl rfl rfl ?_; clear F a; intro a F
 refine s_no F rfl rfl rfl rfl ?_; clear F a; intro a F
 refine s_no F rfl rfl rfl rfl ?_; clear F a; intro a F
 refine s_I F rfl rfl rfl rfl rfl rfl ?_; clear F a; intro a F
 refine s_I F rfl rfl rfl rfl rfl rfl ?_; clear F a; intro a F
 refine s_no F rfl rfl rfl rfl ?_; clear F a; intro a F
 refine s_no F rfl rfl rfl rfl ?_; clear F a; intro a F
 refine s_no F rfl rfl rfl rfl ?_; clear F a; intro a F
 refine s_no F rfl rfl rfl rfl ?_; clear F a; intro a F
 refine s_I F rfl rfl rfl rfl rfl rfl ?_; clear F a; intro a F
 refine t_endM M ?_; (clear M; try clear w); intro w M
 refine c_f F rfl ?_
 refine wp_exit ?_
 refine wp_seq ?_
 replace F := F.keep [0, 1, 2, 4, 5, 6] rfl
 refine wp_region_l [.rd, .ind, .wr, .ind] ([0, 1, 2, 3]) rfl ?_
 refine s_lda F rfl rfl rfl rfl ag_100_G4 rfl rfl (cells_whole M.h1) ?_; clear F a; intro a F
 refine s_I F rfl rfl rfl rfl rfl rfl ?_; clear F a; intro a F
 refine s_stW F M rfl rfl rfl sz_100_G4 rfl rfl rfl rfl rfl ?_; (clear M; try clear w); intro w M
 refine s_I F rfl rfl rfl rfl rfl rfl ?_; clear F a; intro a F
 refine t_endM M ?_; (clear M; try clear w); intro w M
 refine wp_ret ?_
 refine rt2 F rfl (by exact rv_a F rfl ag_100_G4 rfl (cells_whole M.h0)) (rv_t F rfl) ?_
 exact ⟨_, rfl, rfl, M.chg⟩
 clear F; intro hc3 F
 try rw [hc3] at F
 replace hc3 := of_decide_eq_false hc3
 refine s_no F rfl rfl rfl rfl ?_; clear F a; intro a F
 refine s_no F rfl rfl rfl rfl ?_; clear F a; intro a F
 refine s_I F rfl rfl rfl rfl rfl rfl ?_; clear F a; intro a F
 refine s_I F rfl rfl rfl rfl rfl rfl ?_; clear F a; intro a F
 refine s_no F rfl rfl rfl rfl ?_; clear F a; intro a F
 refine s_no F rfl rfl rfl rfl ?_; clear F a; intro a F
 refine s_no F rfl rfl rfl rfl ?_; clear F a; intro a F
 refine s_no F rfl rfl rfl rfl ?_; clear F a; intro a F
 refine s_no F rfl rfl rfl rfl ?_; clear F a; intro a F
 refine s_I F rfl rfl rfl rfl rfl rfl ?_; clear F a; intro a F
 refine s_I F rfl rfl rfl rfl rfl rfl ?_; clear F a; intro a F
 refine s_no F rfl rfl rfl rfl ?_; clear F a; intro a F
 refine s_no F rfl rfl rfl rfl ?_; clear F a; intro a F
 refine s_no F rfl rfl rfl rfl ?_; clear F a; intro a F
 refine s_no F rfl rfl rfl rfl ?_; clear F a; intro a F
 refine s_I F rfl rfl rfl rfl rfl rfl ?_; clear F a; intro a F
 refine t_endM M ?_; (clear M; try clear w); intro w M
 refine c_f F rfl ?_
 refine wp_exit ?_
 refine wp_seq ?_
 replace F := F.keep [0, 1, 2, 4, 5, 6] rfl
 refine wp_region_l [.rd, .ind, .wr, .ind] ([0, 1, 2, 3]) rfl ?_
 refine s_lda F rfl rfl rfl rfl ag_100_G4 rfl rfl (cells_whole M.h1) ?_; clear F a; intro a F
 refine s_I F rfl rfl rfl rfl rfl rfl ?_; clear F a; intro a F
 refine s_stW F M rfl rfl rfl sz_100_G4 rfl rfl rfl rfl rfl ?_; (clear M; try clear w); intro w M
 refine s_I F rfl rfl rfl rfl rfl rfl ?_; clear F a; intro a F
 refine t_endM M ?_; (clear M; try clear w); intro w M
 refine wp_ret ?_
 refine rt2 F rfl (by exact rv_a F rfl ag_100_G4 rfl (cells_whole M.h0)) (rv_t F rfl) ?_
 exact ⟨_, rfl, rfl, M.chg⟩
set_option maxRecDepth 100000 in
set_option maxHeartbeats 4000000 in
theorem c74y (c : Chn) (W : c.Wf) (hcb : c.begun = true) (l : List ByteArray) (hl : l.length ≤ 100000) (v : Value) (x : Xv) (w0 : World) (ho : Own w0.heap [wsR x.p c.part.Ps, wsR x.l c.part.L, strR x.g c.log, strR x.w c.wants]) (hro : Ro (fun b => b ∈ foots [wsR x.p c.part.Ps, wsR x.l c.part.L, strR x.g c.log, strR x.w c.wants]) w0 (rdR v l.length 1 (l.flatMap encS))) : Cl Try.prog 74 #[xV c x, v] w0 (RetS [wsR x.p c.part.Ps, wsR x.l c.part.L, strR x.g c.log, strR x.w c.wants] w0 (fun o (y : Xv) => o = .tuple #[xV (c.decs (l.take (c.catchN l))) y, .int .i64 (c.catchN l)]) fun y => [wsR y.p (c.decs (l.take (c.catchN l))).part.Ps, wsR y.l (c.decs (l.take (c.catchN l))).part.L, strR y.g (c.decs (l.take (c.catchN l))).log, strR y.w (c.decs (l.take (c.catchN l))).wants]) := by
 obtain ⟨xp, xl, xg, xw⟩ := x
 dsimp only at ho ⊢
 obtain ⟨PA, PC, rfl⟩ := SlOk.form (ho.ok (wsR xp c.part.Ps) (by simp))
 obtain ⟨LA, LC, rfl⟩ := SlOk.form (ho.ok (wsR xl c.part.L) (by simp))
 obtain ⟨GA, GC, rfl⟩ := SlOk.form (ho.ok (strR xg c.log) (by simp))
 obtain ⟨WA, WC, rfl⟩ := SlOk.form (ho.ok (strR xw c.wants) (by simp))
 obtain ⟨VA, VC, rfl, hvc⟩ := RdSl.form hro.ok
 have M : Sep (fun b_ => b_ ∈ foots [wsR (.slice PA c.part.Ps.length PC) c.part.Ps, wsR (.slice LA c.part.L.length LC) c.part.L, strR (.slice GA c.log.length GC) c.log, strR (.slice WA c.wants.length WC) c.wants]) w0 w0 _ := Sep.start ho
 refine enter (vs := [_, _]) Try.func74 rfl rfl rfl ?_
 intro a F
 refine wp_seq ?_
 refine wp_region_l [.wr, .wr, .ind] ([0, 1, 2]) rfl ?_
 refine s_bxA F M rfl rfl rfl rfl rfl ?_; (clear F a M; try clear w); intro b2 w M a F
 refine s_alc F M rfl rfl rfl rfl zr_100_G4 rfl ?_; (clear F a M; try clear w); intro b4 w M a F
 refine s_I F rfl rfl rfl rfl rfl rfl ?_; clear F a; intro a F
 refine t_endM M ?_; (clear M; try clear w); intro w M
 refine wp_seq ?_
 refine wp_region_l [.ind] ([0]) rfl ?_
 refine s_I F rfl rfl rfl rfl rfl rfl ?_; clear F a; intro a F
 refine t_endM M ?_; (clear M; try clear w); intro w M
 refine wp_seq ?_
 refine wp_block ?_
 have M1 : Sep _ _ _ (slR (.slice WA _ WC) _ _ _ _ :: _) := M.f5; replace M := M1; clear M1
 have M1 : Sep _ _ _ (slR (.slice GA _ GC) _ _ _ _ :: _) := M.f5; replace M := M1; clear M1
 have M1 : Sep _ _ _ (slR (.slice LA _ LC) _ _ _ _ :: _) := M.f5; replace M := M1; clear M1
 have M1 : Sep _ _ _ (slR (.slice PA _ PC) _ _ _ _ :: _) := M.f5; replace M := M1; clear M1
 have M1 : Sep _ _ _ (blk b2 _ :: _) := M.f5; replace M := M1; clear M1
 refine loopX (X := (Int) × (Value) × (Value) × (Value) × (Value)) F [0, 1, 2, 4, 5] rfl (fun ((i, yp, yl, yg, yw) : (Int) × (Value) × (Value) × (Value) × (Value)) => (0 ≤ i) ∧ (i ≤ l.length) ∧ ((c.decs (l.take i.toNat)).Wf) ∧ (c.catchN l = i.toNat + (c.decs (l.take i.toNat)).catchN (l.drop i.toNat))) (fun ((i, yp, yl, yg, yw) : (Int) × (Value) × (Value) × (Value) × (Value)) => [(6, .int .i64 i)]) (fun ((i, yp, yl, yg, yw) : (Int) × (Value) × (Value) × (Value) × (Value)) => [blk b2 (.cells (cC (c.decs (l.take i.toNat)) yp yl yg yw) 100 (0, 0)), wsR yp (c.decs (l.take i.toNat)).part.Ps, wsR yl (c.decs (l.take i.toNat)).part.L, strR yg (c.decs (l.take i.toNat)).log, strR yw (c.decs (l.take i.toNat)).wants]) (fun ((i, yp, yl, yg, yw) : (Int) × (Value) × (Value) × (Value) × (Value)) => l.length - i.toNat) ((0), ((.slice PA c.part.Ps.length PC)), ((.slice LA c.part.L.length LC)), ((.slice GA c.log.length GC)), ((.slice WA c.wants.length WC))) M ⟨(by omega), (by omega), W, (by simp; rfl)⟩ (F.keep [6, 0, 1, 2, 4, 5] rfl) ?_
 clear F M; clear a; (try clear w)
 rintro ⟨i, yp, yl, yg, yw⟩ a w ⟨i0, i1, hW, hN⟩ F M; try dsimp only at F M
 try simp only [List.cons_append, List.nil_append] at F M
 try dsimp only at i0 i1 hW hN
 obtain ⟨YPA, YPC, rfl⟩ := SlOk.form M.h1
 obtain ⟨YLA, YLC, rfl⟩ := SlOk.form M.h2
 obtain ⟨YGA, YGC, rfl⟩ := SlOk.form M.h3
 obtain ⟨YWA, YWC, rfl⟩ := SlOk.form M.h4
 refine wp_seq ?_
 refine wp_seq ?_
 refine wp_region_l [.ind, .ind, .ind, .ind, .ind, .ind, .rd, .ind, .ind, .ind, .ind, .ind, .rd, .wr, .ind, .ind, .ind, .rd, .ind, .ind, .ind] ([0, 1, 2, 3, 4, 5, 6, 7, 8, 9, 10, 11, 12, 13, 14, 15, 16, 17, 18, 19, 20]) rfl ?_
 refine s_I F rfl rfl rfl rfl rfl rfl ?_; clear F a; intro a F
 refine s_I F rfl rfl rfl rfl rfl rfl ?_; clear F a; intro a F
 refine s_len F rfl rfl rfl rfl sl_69_G4 rfl ?_; clear F a; intro a F
 refine s_bin F rfl rfl rfl rfl rfl rfl rfl ?_; clear F a; intro a F
 refine s_I F rfl rfl rfl rfl rfl rfl ?_; clear F a; intro a F
 refine bsplit F 11 rfl ?_ ?_
 clear F; intro hc0 F
 try rw [hc0] at F
 replace hc0 := of_decide_eq_true hc0
 refine s_fa0 F rfl rfl rfl rfl fa_100_3_G4 rfl ?_; clear F a; intro a F
 refine s_ld F rfl rfl rfl rfl sc_4_G4 rfl (by exact cell_of_blk M.h0 (lit rfl)) ?_; clear F a; intro a F
 refine s_I F rfl rfl rfl rfl rfl rfl ?_; clear F a; intro a F
 refine s_I F rfl rfl rfl rfl rfl rfl ?_; clear F a; intro a F
 refine bsplit F 15 rfl ?_ ?_
 clear F; intro hc1 F
 try rw [hc1] at F
 skip
 refine s_I F rfl rfl rfl rfl rfl rfl ?_; clear F a; intro a F
 refine s_I F rfl rfl rfl rfl rfl rfl ?_; clear F a; intro a F
 refine s_ix F rfl rfl rfl rfl sl_69_G4 rfl rfl (by exact M.chg.ro hro) (by omega) (by omega) ?_; clear F a; intro e18 he18 a F
 refine s_ld F rfl rfl rfl rfl sc_9_G4 rfl (by exact rdX0 (M.chg.ro hro) (by intro e; rfl) he18 rfl) ?_; clear F a; intro a F
 refine s_cq F M rfl rfl rfl rfl rfl (rfl : _ = some [_]) cb_102_G4 (fun nd_ => c102 e18 _) ?_; (clear F a M; try clear w); rintro v w rfl M a F
 refine s_I F rfl rfl rfl rfl rfl rfl ?_; clear F a; intro a F
 refine s_I F rfl rfl rfl rfl rfl rfl ?_; clear F a; intro a F
 refine bsplit F 22 rfl ?_ ?_
 clear F; intro hc2 F
 try rw [hc2] at F
 skip
 refine s_fa0 F rfl rfl rfl rfl fa_100_5_G4 rfl ?_; clear F a; intro a F
 refine s_ld F rfl rfl rfl rfl sc_69_G4 rfl (by exact cell_of_blk M.h0 (lit rfl)) ?_; clear F a; intro a F
 refine s_len F rfl rfl rfl rfl sl_69_G4 rfl ?_; clear F a; intro a F
 refine s_bin F rfl rfl rfl rfl rfl rfl rfl ?_; clear F a; intro a F
 refine s_I F rfl rfl rfl rfl rfl rfl ?_; clear F a; intro a F
 refine t_endM M ?_; (clear M; try clear w); intro w M
 refine c_if F rfl ?_ ?_
 clear F; intro hc3 F
 try rw [hc3] at F
 replace hc3 := of_decide_eq_true hc3
 refine wp_skip ?_
 refine wp_block ?_
 refine wp_seq ?_
 replace F := F.keep [0, 1, 2, 4, 5, 6] rfl
 refine wp_region_t [.rd, .ind, .ind, .ind, .rd, .wr, .ind, .ind, .ind, .wr] [] (otOf [0, 1, 2, 3, 4, 5, 6, 7, 8, 9]) mixed (by kernel_rfl) ?_
 refine s_lda F rfl rfl rfl rfl ag_100_G4 rfl rfl (cells_whole M.h0) ?_; clear F a; intro a F
 refine s_I F rfl rfl rfl rfl rfl rfl ?_; clear F a; intro a F
 refine s_I F rfl rfl rfl rfl rfl rfl ?_; clear F a; intro a F
 refine s_ix F rfl rfl rfl rfl sl_69_G4 rfl rfl (by exact M.chg.ro hro) (by omega) (by omega) ?_; clear F a; intro e32 he32 a F
 try (obtain rfl := Option.some.inj (he18.symm.trans he32))
 refine s_ld F rfl rfl rfl rfl sc_9_G4 rfl (by exact rdX0 (M.chg.ro hro) (by intro e; rfl) he32 rfl) ?_; clear F a; intro a F
 have M1 : Sep _ _ _ (slR (.slice YWA _ YWC) _ _ _ _ :: _) := M.f4; replace M := M1; clear M1
 have M1 : Sep _ _ _ (slR (.slice YGA _ YGC) _ _ _ _ :: _) := M.f4; replace M := M1; clear M1
 have M1 : Sep _ _ _ (slR (.slice YLA _ YLC) _ _ _ _ :: _) := M.f4; replace M := M1; clear M1
 have M1 : Sep _ _ _ (slR (.slice YPA _ YPC) _ _ _ _ :: _) := M.f4; replace M := M1; clear M1
 refine s_call (m := [_, _, _, _]) F M rfl rfl rfl rfl rfl (rfl : _ = some [_, _]) cb_106_G4 (fun nd_ => c106 (c.decs (l.take i.toNat)) hW (over_no.2 (by omega)) e18 ⟨.slice YPA (c.decs (l.take i.toNat)).part.Ps.length YPC, .slice YLA (c.decs (l.take i.toNat)).part.L.length YLC, .slice YGA (c.decs (l.take i.toNat)).log.length YGC, .slice YWA (c.decs (l.take i.toNat)).wants.length YWC⟩ _ (Own.left (m := [_, _, _, _]) (M.drewN nd_).own)) ?_; (clear F a M; try clear w); rintro v y w rfl M a F; (try simp only [List.cons_append, List.nil_append] at M)
 obtain ⟨⟨yp, yl, yg, yw⟩, yo⟩ := y
 dsimp only at M F
 obtain ⟨ZPA, ZPC, rfl⟩ := SlOk.form M.h0
 obtain ⟨ZLA, ZLC, rfl⟩ := SlOk.form M.h1
 obtain ⟨ZGA, ZGC, rfl⟩ := SlOk.form M.h2
 obtain ⟨ZWA, ZWC, rfl⟩ := SlOk.form M.h3
 obtain ⟨ZOA, ZOC, rfl⟩ := SlOk.form M.h4
 refine s_I F rfl rfl rfl rfl rfl rfl ?_; clear F a; intro a F
 refine s_I F rfl rfl rfl rfl rfl rfl ?_; clear F a; intro a F
 refine s_I F rfl rfl rfl rfl rfl rfl ?_; clear F a; intro a F
 have M1 : Sep _ _ _ (blk b2 _ :: _) := M.f5; replace M := M1; clear M1
 refine s_stW F M rfl rfl rfl sz_100_G4 rfl rfl rfl rfl rfl ?_; (clear M; try clear w); intro w M
 refine t_endM M ?_; (clear M; try clear w); intro w M
 replace F := F.keep [0, 1, 2, 4, 5, 6] rfl
 refine wp_region_l [.ind, .ind, .ind] ([0, 1, 2]) rfl ?_
 refine s_I F rfl rfl rfl rfl rfl rfl ?_; clear F a; intro a F
 refine s_add F rfl rfl rfl rfl rfl rfl (by unfold In64; omega) ?_; clear F a; intro a F
 refine s_I F rfl rfl rfl rfl rfl rfl ?_; clear F a; intro a F
 refine t_endM M ?_; (clear M; try clear w); intro w M
 rw [← decs_next he18, show i.toNat + 1 = (i + 1).toNat by omega] at M
 refine again ((i + 1), (.slice ZPA (c.decs (l.take (i + 1).toNat)).part.Ps.length ZPC), (.slice ZLA (c.decs (l.take (i + 1).toNat)).part.L.length ZLC), (.slice ZGA (c.decs (l.take (i + 1).toNat)).log.length ZGC), (.slice ZWA (c.decs (l.take (i + 1).toNat)).wants.length ZWC)) (by show _ < _; (try dsimp only); omega) ⟨(by omega), (by assumption), (by rw [show (i + 1).toNat = i.toNat + 1 by omega, decs_next he18]; exact hW.dec (over_no.2 (by omega)) e18), (by rw [show (i + 1).toNat = i.toNat + 1 by omega, decs_next he18, hN, drop_at he18, catch_on (by assumption) (over_no.2 (by omega))]; omega)⟩ (F.keep [6, 0, 1, 2, 4, 5] rfl) ?_
 try dsimp only [List.cons_append, List.nil_append]
 refine M.pick ?_; repeat (first | exact PkG.nil | refine PkG.cons 0 rfl rfl ?_ | refine PkG.cons 1 rfl rfl ?_ | refine PkG.cons 2 rfl rfl ?_ | refine PkG.cons 3 rfl rfl ?_ | refine PkG.cons 4 rfl rfl ?_ | refine PkG.cons 6 rfl rfl ?_)
 clear F; intro hc4 F
 try rw [hc4] at F
 replace hc4 := of_decide_eq_false hc4
 refine wp_exit ?_
 refine wp_seq ?_
 have M1 : Sep _ _ _ (blk b4 _ :: _) := M.f5; replace M := M1; clear M1
 have M1 : Sep _ _ _ (blk b2 _ :: _) := M.f1; replace M := M1; clear M1
 replace F := F.keep [0, 1, 2, 4, 5, 6] rfl
 refine wp_region_l [.rd, .ind, .wr, .ind] ([0, 1, 2, 3]) rfl ?_
 refine s_lda F rfl rfl rfl rfl ag_100_G4 rfl rfl (cells_whole M.h0) ?_; clear F a; intro a F
 refine s_I F rfl rfl rfl rfl rfl rfl ?_; clear F a; intro a F
 refine s_stW F M.f1 rfl rfl rfl sz_100_G4 rfl rfl rfl rfl rfl ?_; (clear M; try clear w); intro w M
 refine s_I F rfl rfl rfl rfl rfl rfl ?_; clear F a; intro a F
 refine t_endM M ?_; (clear M; try clear w); intro w M
 refine wp_ret ?_
 refine rt2 F rfl (by exact rv_a F rfl ag_100_G4 rfl (cells_whole M.h0)) (rv_t F rfl) ?_
 have hk : c.catchN l = i.toNat := by
   first
   | (rw [List.drop_eq_nil_of_le (by omega)] at hN; exact hN)
   | (rw [drop_at he18, catch_end (by exact .inr (over_spec.2 (by omega)))] at hN; exact hN)
 rw [hk, show ((i.toNat : Nat) : Int) = i by omega]
 refine ⟨_, ⟨.slice YPA (c.decs (l.take i.toNat)).part.Ps.length YPC, .slice YLA (c.decs (l.take i.toNat)).part.L.length YLC, .slice YGA (c.decs (l.take i.toNat)).log.length YGC, .slice YWA (c.decs (l.take i.toNat)).wants.length YWC⟩, rfl, rfl, ?_⟩
 dsimp only
 refine M.pick ?_; repeat (first | exact PkG.nil | refine PkG.cons 2 rfl rfl ?_ | refine PkG.cons 3 rfl rfl ?_ | refine PkG.cons 4 rfl rfl ?_ | refine PkG.cons 5 rfl rfl ?_)
 clear F; intro hc5 F
 try rw [hc5] at F
 skip
 refine s_no F rfl rfl rfl rfl ?_; clear F a; intro a F
 refine s_no F rfl rfl rfl rfl ?_; clear F a; intro a F
 refine s_no F rfl rfl rfl rfl ?_; clear F a; intro a F
 refine s_no F rfl rfl rfl rfl ?_; clear F a; intro a F
 refine s_I F rfl rfl rfl rfl rfl rfl ?_; clear F a; intro a F
 refine t_endM M ?_; (clear M; try clear w); intro w M
 refine c_f F rfl ?_
 refine wp_exit ?_
 refine wp_seq ?_
 have M1 : Sep _ _ _ (blk b4 _ :: _) := M.f5; replace M := M1; clear M1
 have M1 : Sep _ _ _ (blk b2 _ :: _) := M.f1; replace M := M1; clear M1
 replace F := F.keep [0, 1, 2, 4, 5, 6] rfl
 refine wp_region_l [.rd, .ind, .wr, .ind] ([0, 1, 2, 3]) rfl ?_
 refine s_lda F rfl rfl rfl rfl ag_100_G4 rfl rfl (cells_whole M.h0) ?_; clear F a; intro a F
 refine s_I F rfl rfl rfl rfl rfl rfl ?_; clear F a; intro a F
 refine s_stW F M.f1 rfl rfl rfl sz_100_G4 rfl rfl rfl rfl rfl ?_; (clear M; try clear w); intro w M
 refine s_I F rfl rfl rfl rfl rfl rfl ?_; clear F a; intro a F
 refine t_endM M ?_; (clear M; try clear w); intro w M
 refine wp_ret ?_
 refine rt2 F rfl (by exact rv_a F rfl ag_100_G4 rfl (cells_whole M.h0)) (rv_t F rfl) ?_
 have hk : c.catchN l = i.toNat := by
   first
   | (rw [List.drop_eq_nil_of_le (by omega)] at hN; exact hN)
   | (rw [drop_at he18, catch_end (by exact .inl (by assumption))] at hN; exact hN)
 rw [hk, show ((i.toNat : Nat) : Int) = i by omega]
 refine ⟨_, ⟨.slice YPA (c.decs (l.take i.toNat)).part.Ps.length YPC, .slice YLA (c.decs (l.take i.toNat)).part.L.length YLC, .slice YGA (c.decs (l.take i.toNat)).log.length YGC, .slice YWA (c.decs (l.take i.toNat)).wants.length YWC⟩, rfl, rfl, ?_⟩
 dsimp only
 refine M.pick ?_; repeat (first | exact PkG.nil | refine PkG.cons 2 rfl rfl ?_ | refine PkG.cons 3 rfl rfl ?_ | refine PkG.cons 4 rfl rfl ?_ | refine PkG.cons 5 rfl rfl ?_)
 clear F; intro hc6 F
 try rw [hc6] at F
 skip
 exact absurd (decs_begun.trans hcb) (by rw [show (c.decs (l.take i.toNat)).begun = false by assumption]; decide)
 clear F; intro hc7 F
 try rw [hc7] at F
 replace hc7 := of_decide_eq_false hc7
 refine s_no F rfl rfl rfl rfl ?_; clear F a; intro a F
 refine s_no F rfl rfl rfl rfl ?_; clear F a; intro a F
 refine s_I F rfl rfl rfl rfl rfl rfl ?_; clear F a; intro a F
 refine s_I F rfl rfl rfl rfl rfl rfl ?_; clear F a; intro a F
 refine s_no F rfl rfl rfl rfl ?_; clear F a; intro a F
 refine s_no F rfl rfl rfl rfl ?_; clear F a; intro a F
 refine s_no F rfl rfl rfl rfl ?_; clear F a; intro a F
 refine s_no F rfl rfl rfl rfl ?_; clear F a; intro a F
 refine s_no F rfl rfl rfl rfl ?_; clear F a; intro a F
 refine s_I F rfl rfl rfl rfl rfl rfl ?_; clear F a; intro a F
 refine s_I F rfl rfl rfl rfl rfl rfl ?_; clear F a; intro a F
 refine s_no F rfl rfl rfl rfl ?_; clear F a; intro a F
 refine s_no F rfl rfl rfl rfl ?_; clear F a; intro a F
 refine s_no F rfl rfl rfl rfl ?_; clear F a; intro a F
 refine s_no F rfl rfl rfl rfl ?_; clear F a; intro a F
 refine s_I F rfl rfl rfl rfl rfl rfl ?_; clear F a; intro a F
 refine t_endM M ?_; (clear M; try clear w); intro w M
 refine c_f F rfl ?_
 refine wp_exit ?_
 refine wp_seq ?_
 have M1 : Sep _ _ _ (blk b4 _ :: _) := M.f5; replace M := M1; clear M1
 have M1 : Sep _ _ _ (blk b2 _ :: _) := M.f1; replace M := M1; clear M1
 replace F := F.keep [0, 1, 2, 4, 5, 6] rfl
 refine wp_region_l [.rd, .ind, .wr, .ind] ([0, 1, 2, 3]) rfl ?_
 refine s_lda F rfl rfl rfl rfl ag_100_G4 rfl rfl (cells_whole M.h0) ?_; clear F a; intro a F
 refine s_I F rfl rfl rfl rfl rfl rfl ?_; clear F a; intro a F
 refine s_stW F M.f1 rfl rfl rfl sz_100_G4 rfl rfl rfl rfl rfl ?_; (clear M; try clear w); intro w M
 refine s_I F rfl rfl rfl rfl rfl rfl ?_; clear F a; intro a F
 refine t_endM M ?_; (clear M; try clear w); intro w M
 refine wp_ret ?_
 refine rt2 F rfl (by exact rv_a F rfl ag_100_G4 rfl (cells_whole M.h0)) (rv_t F rfl) ?_
 have hk : c.catchN l = i.toNat := by
   first
   | (rw [List.drop_eq_nil_of_le (by omega)] at hN; exact hN)
   | (rw [drop_at he18, catch_end (by first | exact .inl (by assumption) | exact .inr (over_spec.2 (by omega)))] at hN; exact hN)
 rw [hk, show ((i.toNat : Nat) : Int) = i by omega]
 refine ⟨_, ⟨.slice YPA (c.decs (l.take i.toNat)).part.Ps.length YPC, .slice YLA (c.decs (l.take i.toNat)).part.L.length YLC, .slice YGA (c.decs (l.take i.toNat)).log.length YGC, .slice YWA (c.decs (l.take i.toNat)).wants.length YWC⟩, rfl, rfl, ?_⟩
 dsimp only
 refine M.pick ?_; repeat (first | exact PkG.nil | refine PkG.cons 2 rfl rfl ?_ | refine PkG.cons 3 rfl rfl ?_ | refine PkG.cons 4 rfl rfl ?_ | refine PkG.cons 5 rfl rfl ?_)
set_option maxRecDepth 100000 in
set_option maxHeartbeats 2000000 in
theorem c66 (l : List Dd) (v : Value) (w0 : World) (hr : RdSl w0.heap v l.length 9 (l.flatMap encD)) (hd : ∀ d ∈ l, RdSl w0.heap d.vv d.vs.length 1 (d.vs.flatMap encS)) : Cl Try.prog 66 #[v] w0 (RetQ w0 fun r => ∃ b : Bool, r = .bool b ∧ (b = true ↔ fewD l)) := by
 have M : Sep (fun _ => False) w0 w0 _ := Sep.nil _ w0
 have hro := ro_of hr
 obtain ⟨A, cc, rfl, hcc⟩ := hr.form
 refine enter (vs := [_]) Try.func66 rfl rfl rfl ?_
 intro a F
 refine wp_seq ?_
 refine wp_region_l [.ind] ([0]) rfl ?_
 refine s_I F rfl rfl rfl rfl rfl rfl ?_; clear F a; intro a F
 refine t_endM M ?_; (clear M; try clear w); intro w M
 refine wp_seq ?_
 refine wp_seq ?_
 refine wp_region_l [.ind, .ind, .ind] ([0, 1, 2]) rfl ?_
 refine s_I F rfl rfl rfl rfl rfl rfl ?_; clear F a; intro a F
 refine s_len F rfl rfl rfl rfl sl_97_G4 rfl ?_; clear F a; intro a F
 refine s_bin F rfl rfl rfl rfl rfl rfl rfl ?_; clear F a; intro a F
 refine t_endM M ?_; (clear M; try clear w); intro w M
 refine c_if F rfl ?_ ?_
 clear F; intro hc0 F
 try rw [hc0] at F
 replace hc0 := of_decide_eq_true hc0
 refine wp_seq ?_
 replace F := F.keep [0, 2] rfl
 refine wp_region_l [.ind] ([0]) rfl ?_
 refine s_I F rfl rfl rfl rfl rfl rfl ?_; clear F a; intro a F
 refine t_endM M ?_; (clear M; try clear w); intro w M
 refine wp_ret ?_
 refine ret1 F rfl rfl ?_
 refine ⟨_, rfl, ⟨false, rfl, ?_⟩, M.chg⟩
 refine ⟨fun h => (by cases h), fun h => ?_⟩
 exfalso
 have := h.1; omega
 clear F; intro hc1 F
 try rw [hc1] at F
 replace hc1 := of_decide_eq_false hc1
 refine wp_skip ?_
 refine wp_seq ?_
 refine wp_seq ?_
 replace F := F.keep [0, 2] rfl
 refine wp_region_l [.ind] ([0]) rfl ?_
 refine s_I F rfl rfl rfl rfl rfl rfl ?_; clear F a; intro a F
 refine t_endM M ?_; (clear M; try clear w); intro w M
 refine wp_block ?_
 refine loopX (X := (Int)) F [0] rfl (fun (i : Int) => (0 ≤ i) ∧ (i ≤ l.length) ∧ (∀ d ∈ l.take i.toNat, okDd d)) (fun (i : Int) => [(3, .int .i64 i)]) (fun (i : Int) => []) (fun (i : Int) => l.length - i.toNat) (0) M ⟨(by omega), (by omega), (by simp)⟩ (F.keep [3, 0] rfl) ?_
 clear F M; clear a; (try clear w)
 rintro i a w ⟨i0, i1, ha⟩ F M; try dsimp only at F M
 try simp only [List.cons_append, List.nil_append] at F M
 try dsimp only at i0 i1 ha
 refine wp_seq ?_
 refine wp_seq ?_
 refine wp_region_l [.ind, .ind, .ind, .ind] ([0, 1, 2, 3]) rfl ?_
 refine s_I F rfl rfl rfl rfl rfl rfl ?_; clear F a; intro a F
 refine s_I F rfl rfl rfl rfl rfl rfl ?_; clear F a; intro a F
 refine s_len F rfl rfl rfl rfl sl_97_G4 rfl ?_; clear F a; intro a F
 refine s_bin F rfl rfl rfl rfl rfl rfl rfl ?_; clear F a; intro a F
 refine t_endM M ?_; (clear M; try clear w); intro w M
 refine c_if F rfl ?_ ?_
 clear F; intro hc2 F
 try rw [hc2] at F
 replace hc2 := of_decide_eq_true hc2
 refine wp_skip ?_
 refine wp_seq ?_
 refine wp_block ?_
 refine wp_seq ?_
 refine wp_seq ?_
 replace F := F.keep [0, 3] rfl
 refine wp_region_l [.ind, .ind, .ind, .ind, .ind, .ind, .rd, .ind, .ind, .ind, .ind, .ind, .ind, .ind, .rd, .ind, .ind, .ind] ([0, 1, 2, 3, 4, 5, 6, 7, 8, 9, 10, 11, 12, 13, 14, 15, 16, 17]) rfl ?_
 refine s_I F rfl rfl rfl rfl rfl rfl ?_; clear F a; intro a F
 refine s_I F rfl rfl rfl rfl rfl rfl ?_; clear F a; intro a F
 refine s_ix F rfl rfl rfl rfl sl_97_G4 rfl rfl (by exact M.chg.ro hro) (by omega) (by omega) ?_; clear F a; intro e16 he16 a F
 refine s_fa F rfl rfl rfl rfl fa_106_2_G4 rfl ?_; clear F a; intro a F
 refine s_fa F rfl rfl rfl rfl fa_104_1_G4 rfl ?_; clear F a; intro a F
 refine s_fa F rfl rfl rfl rfl fa_32_4_G4 rfl ?_; clear F a; intro a F
 refine s_ld F rfl rfl rfl rfl sc_9_G4 rfl (by exact rdX3 (M.chg.ro hro) (by intro e; rfl) he16 rfl) ?_; clear F a; intro a F
 refine s_lenS F rfl rfl rfl rfl st_9_G4 rfl ?_; clear F a; intro a F
 refine s_bin F rfl rfl rfl rfl rfl rfl rfl ?_; clear F a; intro a F
 refine s_I F rfl rfl rfl rfl rfl rfl ?_; clear F a; intro a F
 refine bsplit F 23 rfl ?_ ?_
 clear F; intro hc3 F
 try rw [hc3] at F
 replace hc3 := of_decide_eq_true hc3
 refine s_no F rfl rfl rfl rfl ?_; clear F a; intro a F
 refine s_no F rfl rfl rfl rfl ?_; clear F a; intro a F
 refine s_no F rfl rfl rfl rfl ?_; clear F a; intro a F
 refine s_no F rfl rfl rfl rfl ?_; clear F a; intro a F
 refine s_no F rfl rfl rfl rfl ?_; clear F a; intro a F
 refine s_no F rfl rfl rfl rfl ?_; clear F a; intro a F
 refine s_no F rfl rfl rfl rfl ?_; clear F a; intro a F
 refine s_I F rfl rfl rfl rfl rfl rfl ?_; clear F a; intro a F
 refine t_endM M ?_; (clear M; try clear w); intro w M
 refine c_t F rfl ?_
 refine wp_seq ?_
 replace F := F.keep [0, 3] rfl
 refine wp_region_l [.ind] ([0]) rfl ?_
 refine s_I F rfl rfl rfl rfl rfl rfl ?_; clear F a; intro a F
 refine t_endM M ?_; (clear M; try clear w); intro w M
 refine wp_ret ?_
 refine ret1 F rfl rfl ?_
 refine ⟨_, rfl, ⟨false, rfl, ?_⟩, M.chg⟩
 refine ⟨fun h => (by cases h), fun h => ?_⟩
 exfalso
 have h2 := h.2 e16 (List.mem_of_getElem? he16); have := h2.v; have := h2.l; omega
 clear F; intro hc4 F
 try rw [hc4] at F
 replace hc4 := of_decide_eq_false hc4
 refine s_I F rfl rfl rfl rfl rfl rfl ?_; clear F a; intro a F
 refine s_I F rfl rfl rfl rfl rfl rfl ?_; clear F a; intro a F
 refine s_ix F rfl rfl rfl rfl sl_97_G4 rfl rfl (by exact M.chg.ro hro) (by omega) (by omega) ?_; clear F a; intro e26 he26 a F
 try (obtain rfl := Option.some.inj (he16.symm.trans he26))
 refine s_fa F rfl rfl rfl rfl fa_106_3_G4 rfl ?_; clear F a; intro a F
 refine s_ld F rfl rfl rfl rfl sc_69_G4 rfl (by exact rdX (M.chg.ro hro) (by intro e; rfl) he26 rfl) ?_; clear F a; intro a F
 obtain ⟨VA, VC, hvv, _⟩ := (hd e16 (List.mem_of_getElem? he16)).form
 have hvv2 : nth (encD e16) 8 = some (.slice VA e16.vs.length VC) := congrArg some hvv
 rw [show e16.vv = .slice VA e16.vs.length VC from hvv] at F
 refine s_len F rfl rfl rfl rfl sl_69_G4 rfl ?_; clear F a; intro a F
 refine s_bin F rfl rfl rfl rfl rfl rfl rfl ?_; clear F a; intro a F
 refine s_I F rfl rfl rfl rfl rfl rfl ?_; clear F a; intro a F
 refine t_endM M ?_; (clear M; try clear w); intro w M
 refine c_if F rfl ?_ ?_
 clear F; intro hc5 F
 try rw [hc5] at F
 replace hc5 := of_decide_eq_true hc5
 refine wp_seq ?_
 replace F := F.keep [0, 3] rfl
 refine wp_region_l [.ind] ([0]) rfl ?_
 refine s_I F rfl rfl rfl rfl rfl rfl ?_; clear F a; intro a F
 refine t_endM M ?_; (clear M; try clear w); intro w M
 refine wp_ret ?_
 refine ret1 F rfl rfl ?_
 refine ⟨_, rfl, ⟨false, rfl, ?_⟩, M.chg⟩
 refine ⟨fun h => (by cases h), fun h => ?_⟩
 exfalso
 have h2 := h.2 e16 (List.mem_of_getElem? he16); have := h2.v; have := h2.l; omega
 clear F; intro hc6 F
 try rw [hc6] at F
 replace hc6 := of_decide_eq_false hc6
 refine wp_skip ?_
 refine wp_seq ?_
 replace F := F.keep [0, 3] rfl
 refine wp_region_l [.ind] ([0]) rfl ?_
 refine s_I F rfl rfl rfl rfl rfl rfl ?_; clear F a; intro a F
 refine t_endM M ?_; (clear M; try clear w); intro w M
 refine wp_block ?_
 have hrv := ro_of (by have h := hd e16 (List.mem_of_getElem? he16); rw [hvv] at h; exact h)
 refine loopX (X := (Int)) F [0, 3] rfl (fun (k : Int) => (0 ≤ k) ∧ (k ≤ e16.vs.length) ∧ (∀ s ∈ e16.vs.take k.toNat, s.size ≤ 5000)) (fun (k : Int) => [(4, .int .i64 k)]) (fun (k : Int) => []) (fun (k : Int) => e16.vs.length - k.toNat) (0) M ⟨(by omega), (by omega), (by simp)⟩ (F.keep [4, 0, 3] rfl) ?_
 clear F M; clear a; (try clear w)
 rintro k a w ⟨k0, k1, hb⟩ F M; try dsimp only at F M
 try simp only [List.cons_append, List.nil_append] at F M
 try dsimp only at k0 k1 hb
 refine wp_seq ?_
 refine wp_seq ?_
 refine wp_region_l [.ind, .ind, .ind, .ind, .ind, .rd, .ind, .ind] ([0, 1, 2, 3, 4, 5, 6, 7]) rfl ?_
 refine s_I F rfl rfl rfl rfl rfl rfl ?_; clear F a; intro a F
 refine s_I F rfl rfl rfl rfl rfl rfl ?_; clear F a; intro a F
 refine s_I F rfl rfl rfl rfl rfl rfl ?_; clear F a; intro a F
 refine s_ix F rfl rfl rfl rfl sl_97_G4 rfl rfl (by exact M.chg.ro hro) (by omega) (by omega) ?_; clear F a; intro e35 he35 a F
 try (obtain rfl := Option.some.inj (he16.symm.trans he35))
 try (obtain rfl := Option.some.inj (he26.symm.trans he35))
 refine s_fa F rfl rfl rfl rfl fa_106_3_G4 rfl ?_; clear F a; intro a F
 refine s_ld F rfl rfl rfl rfl sc_69_G4 rfl (by exact rdX (M.chg.ro hro) (by intro e; rfl) he35 rfl) ?_; clear F a; intro a F
 rw [show e16.vv = .slice VA e16.vs.length VC from hvv] at F
 refine s_len F rfl rfl rfl rfl sl_69_G4 rfl ?_; clear F a; intro a F
 refine s_bin F rfl rfl rfl rfl rfl rfl rfl ?_; clear F a; intro a F
 refine t_endM M ?_; (clear M; try clear w); intro w M
 refine c_if F rfl ?_ ?_
 clear F; intro hc7 F
 try rw [hc7] at F
 replace hc7 := of_decide_eq_true hc7
 refine wp_skip ?_
 refine wp_seq ?_
 refine wp_block ?_
 refine wp_seq ?_
 replace F := F.keep [0, 3, 4] rfl
 refine wp_region_l [.ind, .ind, .ind, .ind, .rd, .ind, .ind, .rd, .ind, .ind] ([0, 1, 2, 3, 4, 5, 6, 7, 8, 9]) rfl ?_
 refine s_I F rfl rfl rfl rfl rfl rfl ?_; clear F a; intro a F
 refine s_I F rfl rfl rfl rfl rfl rfl ?_; clear F a; intro a F
 refine s_ix F rfl rfl rfl rfl sl_97_G4 rfl rfl (by exact M.chg.ro hro) (by omega) (by omega) ?_; clear F a; intro e44 he44 a F
 try (obtain rfl := Option.some.inj (he16.symm.trans he44))
 try (obtain rfl := Option.some.inj (he26.symm.trans he44))
 try (obtain rfl := Option.some.inj (he35.symm.trans he44))
 refine s_fa F rfl rfl rfl rfl fa_106_3_G4 rfl ?_; clear F a; intro a F
 refine s_ld F rfl rfl rfl rfl sc_69_G4 rfl (by exact rdX (M.chg.ro hro) (by intro e; rfl) he44 rfl) ?_; clear F a; intro a F
 refine s_I F rfl rfl rfl rfl rfl rfl ?_; clear F a; intro a F
 rw [show e16.vv = .slice VA e16.vs.length VC from hvv] at F
 refine s_ix F rfl rfl rfl rfl sl_69_G4 rfl rfl (by exact M.chg.ro hrv) (by omega) (by omega) ?_; clear F a; intro e48 he48 a F
 try (obtain rfl := Option.some.inj (he16.symm.trans he48))
 try (obtain rfl := Option.some.inj (he26.symm.trans he48))
 try (obtain rfl := Option.some.inj (he35.symm.trans he48))
 try (obtain rfl := Option.some.inj (he44.symm.trans he48))
 refine s_ld F rfl rfl rfl rfl sc_9_G4 rfl (by exact rdX0 (M.chg.ro hrv) (by intro e; rfl) he48 rfl) ?_; clear F a; intro a F
 refine s_lenS F rfl rfl rfl rfl st_9_G4 rfl ?_; clear F a; intro a F
 refine s_bin F rfl rfl rfl rfl rfl rfl rfl ?_; clear F a; intro a F
 refine t_endM M ?_; (clear M; try clear w); intro w M
 refine c_if F rfl ?_ ?_
 clear F; intro hc8 F
 try rw [hc8] at F
 replace hc8 := of_decide_eq_true hc8
 refine wp_seq ?_
 replace F := F.keep [0, 3, 4] rfl
 refine wp_region_l [.ind] ([0]) rfl ?_
 refine s_I F rfl rfl rfl rfl rfl rfl ?_; clear F a; intro a F
 refine t_endM M ?_; (clear M; try clear w); intro w M
 refine wp_ret ?_
 refine ret1 F rfl rfl ?_
 refine ⟨_, rfl, ⟨false, rfl, ?_⟩, M.chg⟩
 refine ⟨fun h => (by cases h), fun h => ?_⟩
 exfalso
 have := (h.2 e16 (List.mem_of_getElem? he16)).s e48 (List.mem_of_getElem? he48); omega
 clear F; intro hc9 F
 try rw [hc9] at F
 replace hc9 := of_decide_eq_false hc9
 refine wp_skip ?_
 replace F := F.keep [0, 3, 4] rfl
 refine wp_region_l [.ind, .ind, .ind] ([0, 1, 2]) rfl ?_
 refine s_I F rfl rfl rfl rfl rfl rfl ?_; clear F a; intro a F
 refine s_add F rfl rfl rfl rfl rfl rfl (by unfold In64; omega) ?_; clear F a; intro a F
 refine s_I F rfl rfl rfl rfl rfl rfl ?_; clear F a; intro a F
 refine t_endM M ?_; (clear M; try clear w); intro w M
 refine again (k + 1) (by show _ < _; (try dsimp only); omega) ⟨(by omega), (by assumption), (all_takeD hb k0 he48 (by omega))⟩ (F.keep [4, 0, 3] rfl) ?_
 try dsimp only [List.cons_append, List.nil_append]
 refine M.pick ?_; repeat (exact PkG.nil)
 clear F; intro hc10 F
 try rw [hc10] at F
 replace hc10 := of_decide_eq_false hc10
 refine wp_exit ?_
 replace F := F.keep [0, 3, 4] rfl
 refine wp_region_l [.ind, .ind, .ind] ([0, 1, 2]) rfl ?_
 refine s_I F rfl rfl rfl rfl rfl rfl ?_; clear F a; intro a F
 refine s_add F rfl rfl rfl rfl rfl rfl (by unfold In64; omega) ?_; clear F a; intro a F
 refine s_I F rfl rfl rfl rfl rfl rfl ?_; clear F a; intro a F
 refine t_endM M ?_; (clear M; try clear w); intro w M
 refine again (i + 1) (by show _ < _; (try dsimp only); omega) ⟨(by omega), (by assumption), (all_takeD ha i0 he16 ⟨by omega, by omega, by rw [take_all (by omega)] at hb; exact hb⟩)⟩ (F.keep [3, 0] rfl) ?_
 try dsimp only [List.cons_append, List.nil_append]
 refine M.pick ?_; repeat (exact PkG.nil)
 clear F; intro hc11 F
 try rw [hc11] at F
 replace hc11 := of_decide_eq_false hc11
 refine wp_exit ?_
 refine wp_seq ?_
 replace F := F.keep [0, 3] rfl
 refine wp_region_l [.ind] ([0]) rfl ?_
 refine s_I F rfl rfl rfl rfl rfl rfl ?_; clear F a; intro a F
 refine t_endM M ?_; (clear M; try clear w); intro w M
 refine wp_ret ?_
 refine ret1 F rfl rfl ?_
 refine ⟨_, rfl, ⟨true, rfl, ?_⟩, M.chg⟩
 rw [take_all (by omega)] at ha
 exact ⟨fun _ => ⟨by omega, ha⟩, fun _ => rfl⟩
end Go.Proofs.Ytboibdmflblphaa
