/- H3 of the seat. -/
import Derived.Test.YtboibdmflblphaaH2
namespace Go.Proofs.Ytboibdmflblphaa
open Go Fw
theorem pt_87_H3 : ptrB Try.prog 87 = true := by kernel_rfl
theorem fa_166_5_H3 : FA Try.prog 166 5 5 := fun _ _ _ => by kernel_rfl
theorem sc_69_H3 : scalB Try.prog 69 = true := by kernel_rfl
theorem sl_69_H3 : slcB Try.prog 69 = some (9, 1) := by kernel_rfl
theorem fa_166_6_H3 : FA Try.prog 166 6 6 := fun _ _ _ => by kernel_rfl
theorem cb_101_H3 : callB Try.prog 101 = true := by kernel_rfl
theorem cb_39_H3 : callB Try.prog 39 = true := by kernel_rfl
theorem pt_50_H3 : ptrB Try.prog 50 = true := by kernel_rfl
theorem bl_166_0_1_2_H3 : ∀ (x0 : Int) (x1 : Int) (x2 : Int), ∀ w : World, (Instr.build 166 #[(0, .int .i64 x0), (1, .int .i64 x1), (2, .int .i64 x2)]).run Try.prog w = .ok (.agg #[.int .i64 x0, .int .i64 x1, .int .i64 x2, .bool false, .pointer none, .slice none 0 0, .slice none 0 0]) w := by intros; kernel_rfl
theorem cb_97_H3 : callB Try.prog 97 = true := by kernel_rfl
theorem bs_69_1_H3 : ∀ (x0 : ByteArray), News Try.prog (Instr.buildSlice 69 1 #[(0, .string x0)]) (.cells #[.string x0] 9) fun b => .slice (some ⟨b, 0, none⟩) 1 1 := by intros; intro w; kernel_rfl
theorem tl_69_H3 : SlT Try.prog 69 9 1 16 (.string { data := #[] }) := ⟨by kernel_rfl, by kernel_rfl, by kernel_rfl, by kernel_rfl, by decide⟩
theorem sz_69_H3 : sizeB Try.prog 69 = some 1 := by kernel_rfl
open VoteM AgrM CouM ChnM

structure Gh where
 b : Nat
 g : Ga
 lv : Value
 wv : Value
def ptv (γ : Gh) (c : Chn) : Value := if c.begun = true then gp γ.g else .pointer none
def plR (γ : Gh) (c : Chn) : Res := bigR id (if c.begun = true then [agR γ.g c.part] else [])
def chnL (γ : Gh) (c : Chn) : List Res := [blk γ.b (chO c (ptv γ c) γ.lv γ.wv), strR γ.lv c.log, strR γ.wv c.wants, plR γ c]
/-- A chain, whole. -/
def chnR (γ : Gh) (c : Chn) : Res := bigR id (chnL γ c)
section
variable {S : Nat → Prop} {w0 w : World} {r : List Res} {γ : Gh} {c : Chn}
theorem Fw.Sep.chO (M : Sep S w0 w (chnR γ c :: r)) : Sep S w0 w (blk γ.b (Go.Proofs.Ytboibdmflblphaa.chO c (ptv γ c) γ.lv γ.wv) :: strR γ.lv c.log :: strR γ.wv c.wants :: plR γ c :: r) :=
 Fw.Sep.unjoin (L := chnL γ c) M
theorem Fw.Sep.chS (M : Sep S w0 w (blk γ.b (Go.Proofs.Ytboibdmflblphaa.chO c (ptv γ c) γ.lv γ.wv) :: strR γ.lv c.log :: strR γ.wv c.wants :: plR γ c :: r)) : Sep S w0 w (chnR γ c :: r) :=
 Fw.Sep.join (L := chnL γ c) M
theorem Fw.Sep.plO (h : c.begun = true) (M : Sep S w0 w (plR γ c :: r)) : Sep S w0 w (agR γ.g c.part :: r) := by
 unfold plR at M
 rw [if_pos h] at M
 exact Fw.Sep.unjoin (L := [agR γ.g c.part]) M
theorem Fw.Sep.plS (h : c.begun = true) (M : Sep S w0 w (agR γ.g c.part :: r)) : Sep S w0 w (plR γ c :: r) := by
 unfold plR
 rw [if_pos h]
 exact Fw.Sep.join (L := [agR γ.g c.part]) M
theorem Fw.Sep.plN (h : c.begun = false) (M : Sep S w0 w r) : Sep S w0 w (plR γ c :: r) := by
 unfold plR
 rw [if_neg (by rw [h]; decide)]
 exact Fw.Sep.join (L := []) M
end
theorem ptv1 {γ : Gh} {c : Chn} (h : c.begun = true) : ptv γ c = gp γ.g := if_pos h
theorem ptv0 {γ : Gh} {c : Chn} (h : c.begun = false) : ptv γ c = .pointer none := if_neg (by rw [h]; decide)
structure ChOk (w0 : World) (γ : Gh) (c : Chn) : Prop where
 o : w0.heap[γ.b]? = some (Go.Proofs.Ytboibdmflblphaa.chO c (ptv γ c) γ.lv γ.wv)
 l : SlOk w0.heap γ.lv c.log.length 9 1 (c.log.flatMap encS)
 w : SlOk w0.heap γ.wv c.wants.length 9 1 (c.wants.flatMap encS)
 p : c.begun = true → (agR γ.g c.part).ok w0.heap
theorem ro_mem {S : Nat → Prop} {w0 : World} {α : Type} {f : α → Res} {xs : List α} {x : α} (h : Ro S w0 (bigR f xs)) (hx : x ∈ xs) : Ro S w0 (f x) :=
 ⟨h.ok x hx, fun b hb => h.lt b (List.mem_flatMap.2 ⟨x, hx, hb⟩)⟩
theorem ch_ok {w0 : World} {γ : Gh} {c : Chn} (h : Ro (fun _ => False) w0 (chnR γ c)) : ChOk w0 γ c := by
 have m : ∀ x ∈ chnL γ c, Ro (fun _ => False) w0 x := fun x hx => ro_mem (f := id) h hx
 refine ⟨(m (blk γ.b (Go.Proofs.Ytboibdmflblphaa.chO c (ptv γ c) γ.lv γ.wv)) (by simp [chnL])).ok, (m (strR γ.lv c.log) (by simp [chnL])).ok, (m (strR γ.wv c.wants) (by simp [chnL])).ok, fun hb => ?_⟩
 have h1 := m (plR γ c) (by simp [chnL])
 unfold plR at h1
 rw [if_pos hb] at h1
 exact (ro_mem (f := id) (x := agR γ.g c.part) h1 List.mem_cons_self).ok
theorem want_bad {c : Chn} {v : ByteArray} (h : mayB v = false) : c.want v = c ∧ c.wantE v = 1 := by
 unfold Chn.want Chn.wantE
 rw [h]
 exact ⟨if_neg (fun e => by cases e.1), if_neg (by decide)⟩
theorem want_full {c : Chn} {v : ByteArray} (h : mayB v = true) (hl : ¬ c.wants.length < 8) : c.want v = c ∧ c.wantE v = 7 := by
 unfold Chn.want Chn.wantE
 rw [h]
 exact ⟨if_neg (fun e => hl e.2), by rw [if_pos rfl, if_neg hl]⟩
theorem want_ok {c : Chn} {v : ByteArray} (h : mayB v = true) (hl : c.wants.length < 8) : c.want v = c.wish v ∧ c.wantE v = 0 := by
 unfold Chn.want Chn.wantE
 rw [h]
 exact ⟨if_pos ⟨rfl, hl⟩, by rw [if_pos rfl, if_pos hl]⟩

set_option maxRecDepth 100000 in
set_option maxHeartbeats 400000 in
theorem c64 (γ : Gh) (c : Chn) (w0 : World) (hk : Ro (fun _ => False) w0 (chnR γ c)) : Cl Try.prog 64 #[.pointer (some ⟨γ.b, 0, none⟩)] w0 (RetQ w0 fun v => v = .int .i64 c.log.length) := by
 obtain ⟨b, g, lv, wv⟩ := γ
 obtain ⟨LA, LC, rfl⟩ := SlOk.form (ch_ok hk).l
 obtain ⟨WA, WC, rfl⟩ := SlOk.form (ch_ok hk).w
 have M : Sep (fun _ => False) w0 w0 _ := Sep.nil _ w0
 have O := ch_ok hk
 refine enter (vs := [_]) Try.func64 rfl rfl rfl ?_
 intro a F
 refine wp_seq ?_
 refine wp_region_l [.ind] ([0]) rfl ?_
 refine s_I F rfl rfl rfl rfl rfl rfl ?_; clear F a; intro a F
 refine t_endM M ?_; (clear M; try clear w); intro w M
 refine wp_seq ?_
 refine wp_seq ?_
 refine wp_region_l [.ind, .ind] ([0, 1]) rfl ?_
 refine s_I F rfl rfl rfl rfl rfl rfl ?_; clear F a; intro a F
 refine s_pn F rfl rfl rfl rfl pt_87_H3 rfl ?_; clear F a; intro a F
 refine t_endM M ?_; (clear M; try clear w); intro w M
 refine c_f F rfl ?_
 refine wp_skip ?_
 refine wp_seq ?_
 replace F := F.keep [0, 2] rfl
 refine wp_region_l [.ind, .ind, .ind, .rd, .ind, .ind] ([0, 1, 2, 3, 4, 5]) rfl ?_
 refine s_rn 2 F rfl rfl ?_; clear F a; intro a F
 refine s_fa0 F rfl rfl rfl rfl fa_166_5_H3 rfl ?_; clear F a; intro a F
 refine s_ld F rfl rfl rfl rfl sc_69_H3 rfl (by exact old_cell M id O.o (lit rfl)) ?_; clear F a; intro a F
 refine s_len F rfl rfl rfl rfl sl_69_H3 rfl ?_; clear F a; intro a F
 refine s_I F rfl rfl rfl rfl rfl rfl ?_; clear F a; intro a F
 refine t_endM M ?_; (clear M; try clear w); intro w M
 refine wp_ret ?_
 refine ret1 F rfl rfl ?_
 exact ⟨_, rfl, rfl, M.chg⟩
set_option maxRecDepth 100000 in
set_option maxHeartbeats 400000 in
theorem c65 (γ : Gh) (c : Chn) (w0 : World) (hk : Ro (fun _ => False) w0 (chnR γ c)) : Cl Try.prog 65 #[.pointer (some ⟨γ.b, 0, none⟩)] w0 (RetQ w0 fun v => v = .int .i64 c.wants.length) := by
 obtain ⟨b, g, lv, wv⟩ := γ
 obtain ⟨LA, LC, rfl⟩ := SlOk.form (ch_ok hk).l
 obtain ⟨WA, WC, rfl⟩ := SlOk.form (ch_ok hk).w
 have M : Sep (fun _ => False) w0 w0 _ := Sep.nil _ w0
 have O := ch_ok hk
 refine enter (vs := [_]) Try.func65 rfl rfl rfl ?_
 intro a F
 refine wp_seq ?_
 refine wp_region_l [.ind] ([0]) rfl ?_
 refine s_I F rfl rfl rfl rfl rfl rfl ?_; clear F a; intro a F
 refine t_endM M ?_; (clear M; try clear w); intro w M
 refine wp_seq ?_
 refine wp_seq ?_
 refine wp_region_l [.ind, .ind] ([0, 1]) rfl ?_
 refine s_I F rfl rfl rfl rfl rfl rfl ?_; clear F a; intro a F
 refine s_pn F rfl rfl rfl rfl pt_87_H3 rfl ?_; clear F a; intro a F
 refine t_endM M ?_; (clear M; try clear w); intro w M
 refine c_f F rfl ?_
 refine wp_skip ?_
 refine wp_seq ?_
 replace F := F.keep [0, 2] rfl
 refine wp_region_l [.ind, .ind, .ind, .rd, .ind, .ind] ([0, 1, 2, 3, 4, 5]) rfl ?_
 refine s_rn 2 F rfl rfl ?_; clear F a; intro a F
 refine s_fa0 F rfl rfl rfl rfl fa_166_6_H3 rfl ?_; clear F a; intro a F
 refine s_ld F rfl rfl rfl rfl sc_69_H3 rfl (by exact old_cell M id O.o (lit rfl)) ?_; clear F a; intro a F
 refine s_len F rfl rfl rfl rfl sl_69_H3 rfl ?_; clear F a; intro a F
 refine s_I F rfl rfl rfl rfl rfl rfl ?_; clear F a; intro a F
 refine t_endM M ?_; (clear M; try clear w); intro w M
 refine wp_ret ?_
 refine ret1 F rfl rfl ?_
 exact ⟨_, rfl, rfl, M.chg⟩
set_option maxRecDepth 100000 in
set_option maxHeartbeats 400000 in
theorem c63 (γ : Gh) (c : Chn) (hl : c.log.length ≤ 100000) (w0 : World) (hk : Ro (fun _ => False) w0 (chnR γ c)) : Cl Try.prog 63 #[.pointer (some ⟨γ.b, 0, none⟩)] w0 (RetS [] w0 (fun r (x : Value) => r = x) fun x => [strR x c.log]) := by
 obtain ⟨b, g, lv, wv⟩ := γ
 obtain ⟨LA, LC, rfl⟩ := SlOk.form (ch_ok hk).l
 obtain ⟨WA, WC, rfl⟩ := SlOk.form (ch_ok hk).w
 have M : Sep (fun _ => False) w0 w0 _ := Sep.nil _ w0
 have O := ch_ok hk
 refine enter (vs := [_]) Try.func63 rfl rfl rfl ?_
 intro a F
 refine wp_seq ?_
 refine wp_region_l [.ind] ([0]) rfl ?_
 refine s_I F rfl rfl rfl rfl rfl rfl ?_; clear F a; intro a F
 refine t_endM M ?_; (clear M; try clear w); intro w M
 refine wp_seq ?_
 refine wp_seq ?_
 refine wp_region_l [.ind, .ind] ([0, 1]) rfl ?_
 refine s_I F rfl rfl rfl rfl rfl rfl ?_; clear F a; intro a F
 refine s_pn F rfl rfl rfl rfl pt_87_H3 rfl ?_; clear F a; intro a F
 refine t_endM M ?_; (clear M; try clear w); intro w M
 refine c_f F rfl ?_
 refine wp_skip ?_
 refine wp_seq ?_
 replace F := F.keep [0, 2] rfl
 refine wp_region_l [.ind, .ind, .ind, .rd, .wr, .ind] ([0, 1, 2, 3, 4, 5]) rfl ?_
 refine s_rn 2 F rfl rfl ?_; clear F a; intro a F
 refine s_fa0 F rfl rfl rfl rfl fa_166_5_H3 rfl ?_; clear F a; intro a F
 refine s_ld F rfl rfl rfl rfl sc_69_H3 rfl (by exact old_cell M id O.o (lit rfl)) ?_; clear F a; intro a F
 refine s_call (m := []) F M rfl rfl rfl rfl rfl (rfl : _ = some [_]) cb_101_H3 (fun nd_ => c101 c.log hl _ _ ((ch_ok (hk.still (M.drewN nd_).chg)).l.rd)) ?_; (clear F a M; try clear w); rintro v x1 w rfl M a F; (try simp only [List.cons_append, List.nil_append] at M)
 refine s_I F rfl rfl rfl rfl rfl rfl ?_; clear F a; intro a F
 refine t_endM M ?_; (clear M; try clear w); intro w M
 refine wp_ret ?_
 refine ret1 F rfl rfl ?_
 refine ⟨_, _, rfl, rfl, ?_⟩
 exact Sep.left (r := []) M.toE
set_option maxRecDepth 100000 in
set_option maxHeartbeats 400000 in
theorem c58 (n t me : Int) (hk : okA n t me 0 tilde = true) (w0 : World) : Cl Try.prog 58 #[.int .i64 n, .int .i64 t, .int .i64 me] w0 (RetS [] w0 (fun v (γ : Gh) => v = .pointer (some ⟨γ.b, 0, none⟩)) fun γ => [chnR γ (ChnM.newC n t me (newA n t me 0 tilde))]) := by
 have M : Sep (fun b_ => b_ ∈ foots ([] : List Res)) w0 w0 _ := Sep.nil _ w0
 refine enter (vs := [_, _, _]) Try.func58 rfl rfl rfl ?_
 intro a F
 refine wp_seq ?_
 refine wp_region_l [.ind] ([0]) rfl ?_
 refine s_I F rfl rfl rfl rfl rfl rfl ?_; clear F a; intro a F
 refine t_endM M ?_; (clear M; try clear w); intro w M
 refine wp_seq ?_
 refine wp_seq ?_
 refine wp_region_l [.ind, .ind, .ind, .wr, .ind] ([0, 1, 2, 3, 4]) rfl ?_
 refine s_rn 3 F rfl rfl ?_; clear F a; intro a F
 refine s_call (m := []) F M rfl rfl rfl rfl rfl (rfl : _ = some [_, _, _, _, _]) cb_39_H3 (fun nd_ => c39r n t me 0 tilde hk _) ?_; (clear F a M; try clear w); rintro v g w rfl M a F; (try simp only [List.cons_append, List.nil_append] at M)
 refine s_pn F rfl rfl rfl rfl pt_50_H3 rfl ?_; clear F a; intro a F
 replace F : Fr _ _ ((11, Value.bool false) :: _) := F
 refine t_endM M ?_; (clear M; try clear w); intro w M
 refine c_f F rfl ?_
 refine wp_skip ?_
 refine wp_seq ?_
 replace F := F.keep [0, 1, 2, 6] rfl
 refine wp_region_l [.ind, .ind, .ind, .ind, .wr, .ind] ([0, 1, 2, 3, 4, 5]) rfl ?_
 refine s_rn 3 F rfl rfl ?_; clear F a; intro a F
 refine s_bld F rfl rfl rfl rfl (parts3 F rfl rfl rfl) (bl_166_0_1_2_H3 _ _ _) ?_; clear F a; intro a F
 refine s_bxA F M rfl rfl rfl rfl rfl ?_; (clear F a M; try clear w); intro b16 w M a F
 refine s_I F rfl rfl rfl rfl rfl rfl ?_; clear F a; intro a F
 refine t_endM M ?_; (clear M; try clear w); intro w M
 refine wp_ret ?_
 refine ret1 F rfl rfl ?_
 have M1 := Fw.Sep.plN (γ := ⟨b16, g, .slice none 0 0, .slice none 0 0⟩) (c := ChnM.newC n t me (newA n t me 0 tilde)) rfl M
 have M2 := (M1.nilS 9 1).nilS 9 1
 have M4 := M2.f3
 refine ⟨_, ⟨b16, g, .slice none 0 0, .slice none 0 0⟩, rfl, rfl, ?_⟩
 exact Sep.left (m := [chnR _ _]) (Fw.Sep.chS (γ := ⟨b16, g, .slice none 0 0, .slice none 0 0⟩) (c := ChnM.newC n t me (newA n t me 0 tilde)) M4)
set_option maxRecDepth 100000 in
set_option maxHeartbeats 400000 in
theorem c58n (n t me : Int) (hk : okA n t me 0 tilde = false) (w0 : World) : Cl Try.prog 58 #[.int .i64 n, .int .i64 t, .int .i64 me] w0 (RetQ w0 fun v => v = .pointer none) := by
 have M : Sep (fun _ => False) w0 w0 _ := Sep.nil _ w0
 refine enter (vs := [_, _, _]) Try.func58 rfl rfl rfl ?_
 intro a F
 refine wp_seq ?_
 refine wp_region_l [.ind] ([0]) rfl ?_
 refine s_I F rfl rfl rfl rfl rfl rfl ?_; clear F a; intro a F
 refine t_endM M ?_; (clear M; try clear w); intro w M
 refine wp_seq ?_
 refine wp_seq ?_
 refine wp_region_l [.ind, .ind, .ind, .wr, .ind] ([0, 1, 2, 3, 4]) rfl ?_
 refine s_rn 3 F rfl rfl ?_; clear F a; intro a F
 refine s_cq F M rfl rfl rfl rfl rfl (rfl : _ = some [_, _, _, _, _]) cb_39_H3 (fun nd_ => c39n n t me 0 tilde hk _) ?_; (clear F a M; try clear w); rintro v w rfl M a F
 refine s_pn F rfl rfl rfl rfl pt_50_H3 rfl ?_; clear F a; intro a F
 replace F : Fr _ _ ((11, Value.bool true) :: _) := F
 refine t_endM M ?_; (clear M; try clear w); intro w M
 refine c_t F rfl ?_
 refine wp_seq ?_
 replace F := F.keep [0, 1, 2, 6] rfl
 refine wp_region_l [.ind] ([0]) rfl ?_
 refine s_I F rfl rfl rfl rfl rfl rfl ?_; clear F a; intro a F
 refine t_endM M ?_; (clear M; try clear w); intro w M
 refine wp_ret ?_
 refine ret1 F rfl rfl ?_
 exact ⟨_, rfl, rfl, M.chg⟩
set_option maxRecDepth 100000 in
set_option maxHeartbeats 400000 in
theorem c59 (γ : Gh) (c : Chn) (W : c.Wf) (s : ByteArray) (w0 : World) (hw : Own w0.heap [chnR γ c]) : Cl Try.prog 59 #[.pointer (some ⟨γ.b, 0, none⟩), .string s] w0 (RetS [chnR γ c] w0 (fun r (γ2 : Gh) => r = .int .i64 (c.wantE s) ∧ γ2.b = γ.b) fun γ2 => [chnR γ2 (c.want s)]) := by
 obtain ⟨b, g, lv, wv⟩ := γ
 have hk0 : (chnR ⟨b, g, lv, wv⟩ c).ok w0.heap := hw.ok _ List.mem_cons_self
 obtain ⟨LA, LC, rfl⟩ : ∃ A d, lv = .slice A c.log.length d := SlOk.form (hk0 (strR lv c.log) (by simp [chnL]))
 obtain ⟨WA, WC, rfl⟩ : ∃ A d, wv = .slice A c.wants.length d := SlOk.form (hk0 (strR wv c.wants) (by simp [chnL]))
 have M : Sep (fun b_ => b_ ∈ foots [chnR (⟨b, g, .slice LA c.log.length LC, .slice WA c.wants.length WC⟩ : Gh) c]) w0 w0 _ := Sep.start hw
 replace M := Fw.Sep.chO M
 dsimp only at M
 have hwl := W.wl
 refine enter (vs := [_, _]) Try.func59 rfl rfl rfl ?_
 intro a F
 refine wp_seq ?_
 refine wp_region_l [.ind] ([0]) rfl ?_
 refine s_I F rfl rfl rfl rfl rfl rfl ?_; clear F a; intro a F
 refine t_endM M ?_; (clear M; try clear w); intro w M
 refine wp_seq ?_
 refine wp_block ?_
 refine wp_seq ?_
 refine wp_region_l [.ind, .ind, .ind, .ind, .wr, .ind, .ind, .ind] ([0, 1, 2, 3, 4, 5, 6, 7]) rfl ?_
 refine s_I F rfl rfl rfl rfl rfl rfl ?_; clear F a; intro a F
 refine s_pn F rfl rfl rfl rfl pt_87_H3 rfl ?_; clear F a; intro a F
 refine s_rn 2 F rfl rfl ?_; clear F a; intro a F
 refine s_cq F M rfl rfl rfl rfl rfl (rfl : _ = some [_]) cb_97_H3 (fun nd_ => c97 s _) ?_; (clear F a M; try clear w); rintro v w rfl M a F
 refine s_rn 3 F rfl rfl ?_; clear F a; intro a F
 refine t_endM M ?_; (clear M; try clear w); intro w M
 refine c_if F rfl ?_ ?_
 clear F; intro hc0 F
 try rw [hc0] at F
 replace hc0 := nt hc0
 refine wp_seq ?_
 replace F := F.keep [0, 1, 4] rfl
 refine wp_region_l [.ind] ([0]) rfl ?_
 refine s_I F rfl rfl rfl rfl rfl rfl ?_; clear F a; intro a F
 refine t_endM M ?_; (clear M; try clear w); intro w M
 refine wp_ret ?_
 refine ret1 F rfl rfl ?_
 have hm := want_bad (c := c) (v := s) (by simp_all)
 rw [hm.1, hm.2]
 refine ⟨_, (⟨b, g, .slice LA c.log.length LC, .slice WA c.wants.length WC⟩ : Gh), rfl, ⟨rfl, rfl⟩, ?_⟩
 have M1 : Sep _ _ _ (plR _ _ :: _) := M.f3; replace M := M1; clear M1
 have M1 : Sep _ _ _ (slR ((⟨b, g, .slice LA c.log.length LC, .slice WA c.wants.length WC⟩ : Gh)).wv _ _ _ _ :: _) := M.f3; replace M := M1; clear M1
 have M1 : Sep _ _ _ (slR ((⟨b, g, .slice LA c.log.length LC, .slice WA c.wants.length WC⟩ : Gh)).lv _ _ _ _ :: _) := M.f3; replace M := M1; clear M1
 have M1 : Sep _ _ _ (blk ((⟨b, g, .slice LA c.log.length LC, .slice WA c.wants.length WC⟩ : Gh)).b _ :: _) := M.f3; replace M := M1; clear M1
 exact Sep.left (m := [chnR ((⟨b, g, .slice LA c.log.length LC, .slice WA c.wants.length WC⟩ : Gh)) (c)]) (Fw.Sep.chS (γ := ((⟨b, g, .slice LA c.log.length LC, .slice WA c.wants.length WC⟩ : Gh))) (c := (c)) M)
 clear F; intro hc1 F
 try rw [hc1] at F
 replace hc1 := nf hc1
 refine wp_seq ?_
 replace F := F.keep [0, 1, 4] rfl
 refine wp_region_l [.ind, .ind, .ind, .rd, .ind, .ind, .ind] ([0, 1, 2, 3, 4, 5, 6]) rfl ?_
 refine s_rn 2 F rfl rfl ?_; clear F a; intro a F
 refine s_fa0 F rfl rfl rfl rfl fa_166_6_H3 rfl ?_; clear F a; intro a F
 refine s_ld F rfl rfl rfl rfl sc_69_H3 rfl (by exact cell_of_blk M.h0 (lit rfl)) ?_; clear F a; intro a F
 refine s_len F rfl rfl rfl rfl sl_69_H3 rfl ?_; clear F a; intro a F
 refine s_rn 2 F rfl rfl ?_; clear F a; intro a F
 refine t_endM M ?_; (clear M; try clear w); intro w M
 refine c_if F rfl ?_ ?_
 clear F; intro hc2 F
 try rw [hc2] at F
 replace hc2 := of_decide_eq_true hc2
 refine wp_seq ?_
 replace F := F.keep [0, 1, 4] rfl
 refine wp_region_l [.ind] ([0]) rfl ?_
 refine s_I F rfl rfl rfl rfl rfl rfl ?_; clear F a; intro a F
 refine t_endM M ?_; (clear M; try clear w); intro w M
 refine wp_ret ?_
 refine ret1 F rfl rfl ?_
 have hm := want_full (c := c) (v := s) (by simp_all) (by omega)
 rw [hm.1, hm.2]
 refine ⟨_, (⟨b, g, .slice LA c.log.length LC, .slice WA c.wants.length WC⟩ : Gh), rfl, ⟨rfl, rfl⟩, ?_⟩
 have M1 : Sep _ _ _ (plR _ _ :: _) := M.f3; replace M := M1; clear M1
 have M1 : Sep _ _ _ (slR ((⟨b, g, .slice LA c.log.length LC, .slice WA c.wants.length WC⟩ : Gh)).wv _ _ _ _ :: _) := M.f3; replace M := M1; clear M1
 have M1 : Sep _ _ _ (slR ((⟨b, g, .slice LA c.log.length LC, .slice WA c.wants.length WC⟩ : Gh)).lv _ _ _ _ :: _) := M.f3; replace M := M1; clear M1
 have M1 : Sep _ _ _ (blk ((⟨b, g, .slice LA c.log.length LC, .slice WA c.wants.length WC⟩ : Gh)).b _ :: _) := M.f3; replace M := M1; clear M1
 exact Sep.left (m := [chnR ((⟨b, g, .slice LA c.log.length LC, .slice WA c.wants.length WC⟩ : Gh)) (c)]) (Fw.Sep.chS (γ := ((⟨b, g, .slice LA c.log.length LC, .slice WA c.wants.length WC⟩ : Gh))) (c := (c)) M)
 clear F; intro hc3 F
 try rw [hc3] at F
 replace hc3 := of_decide_eq_false hc3
 refine wp_skip ?_
 refine wp_seq ?_
 replace F := F.keep [0, 1, 4] rfl
 refine wp_region_l [.ind, .ind, .ind, .ind, .rd, .ind, .wr, .wr, .ind, .ind, .wr] ([0, 1, 2, 3, 4, 5, 6, 7, 8, 9, 10]) rfl ?_
 refine s_rn 3 F rfl rfl ?_; clear F a; intro a F
 refine s_fa0 F rfl rfl rfl rfl fa_166_6_H3 rfl ?_; clear F a; intro a F
 refine s_ld F rfl rfl rfl rfl sc_69_H3 rfl (by exact cell_of_blk M.h0 (lit rfl)) ?_; clear F a; intro a F
 refine s_I F rfl rfl rfl rfl rfl rfl ?_; clear F a; intro a F
 refine s_bs F M rfl rfl rfl rfl (parts1 F rfl) (bs_69_1_H3 _) ?_; (clear F a M; try clear w); intro b26 w M a F
 refine s_apE ((s : ByteArray)) F M.f3 rfl rfl rfl rfl tl_69_H3 rfl rfl (by exact rd_blk M.h0 rfl) rfl (by omega) (fun _ _ _ _ => pend_nil) ?_; (clear F a M; try clear w); intro A27 c27 w M a F
 refine s_I F rfl rfl rfl rfl rfl rfl ?_; clear F a; intro a F
 refine s_fa0 F rfl rfl rfl rfl fa_166_6_H3 rfl ?_; clear F a; intro a F
 refine s_st F M.f2 rfl rfl rfl sz_69_H3 rfl rfl rfl (by exact Nat.le_of_ble_eq_true rfl) ?_; (clear M; try clear w); intro w M
 refine t_endM M ?_; (clear M; try clear w); intro w M
 refine wp_seq ?_
 replace F := F.keep [0, 1, 4] rfl
 refine wp_region_l [.ind] ([0]) rfl ?_
 refine s_I F rfl rfl rfl rfl rfl rfl ?_; clear F a; intro a F
 refine t_endM M ?_; (clear M; try clear w); intro w M
 refine wp_ret ?_
 refine ret1 F rfl rfl ?_
 have hm := want_ok (c := c) (v := s) (by simp_all) (by omega)
 rw [hm.1, hm.2]
 refine ⟨_, ⟨b, g, .slice LA c.log.length LC, .slice A27 (c.wants ++ [s]).length c27⟩, rfl, ⟨rfl, rfl⟩, ?_⟩
 have M1 : Sep _ _ _ (plR _ _ :: _) := M.f4; replace M := M1; clear M1
 have M1 : Sep _ _ _ (slR ((⟨b, g, .slice LA c.log.length LC, .slice A27 (c.wants ++ [s]).length c27⟩ : Gh)).wv _ _ _ _ :: _) := M.f2; replace M := M1; clear M1
 have M1 : Sep _ _ _ (slR ((⟨b, g, .slice LA c.log.length LC, .slice A27 (c.wants ++ [s]).length c27⟩ : Gh)).lv _ _ _ _ :: _) := M.f4; replace M := M1; clear M1
 have M1 : Sep _ _ _ (blk ((⟨b, g, .slice LA c.log.length LC, .slice A27 (c.wants ++ [s]).length c27⟩ : Gh)).b _ :: _) := M.f3; replace M := M1; clear M1
 exact Sep.left (m := [chnR ((⟨b, g, .slice LA c.log.length LC, .slice A27 (c.wants ++ [s]).length c27⟩ : Gh)) (c.wish s)]) (Fw.Sep.chS (γ := ((⟨b, g, .slice LA c.log.length LC, .slice A27 (c.wants ++ [s]).length c27⟩ : Gh))) (c := (c.wish s)) M)
end Go.Proofs.Ytboibdmflblphaa
