/- R1 of the seat. -/
import Derived.Test.YtboibdmflblphaaA9
namespace Go.Proofs.Ytboibdmflblphaa
open Go Fw
theorem zr_53_R1 : zeroB Try.prog 53 = some (.agg #[.int .i64 0, .int .i64 0, .string { data := #[] }, .int .i64 0, .int .i64 0, .string { data := #[] }, .int .i64 0, .string { data := #[] }, .int .i64 0, .slice none 0 0, .int .i64 0, .int .i64 0, .slice none 0 0, .bool false, .bool false, .string { data := #[] }]) := by kernel_rfl
theorem fa_53_4_R1 : FA Try.prog 53 4 4 := fun _ _ _ => by kernel_rfl
theorem sz_3_R1 : sizeB Try.prog 3 = some 1 := by kernel_rfl
theorem ag_53_R1 : aggB Try.prog 53 = some 16 := by kernel_rfl
theorem fa_53_0_R1 : FA Try.prog 53 0 0 := fun _ _ _ => by kernel_rfl
theorem sc_3_R1 : scalB Try.prog 3 = true := by kernel_rfl
theorem fa_53_3_R1 : FA Try.prog 53 3 3 := fun _ _ _ => by kernel_rfl
theorem bl_32_0_1_2_4_R1 : ∀ (x0 : Int) (x1 : Int) (x2 : Int) (x4 : ByteArray), ∀ w : World, (Instr.build 32 #[(0, .int .i64 x0), (1, .int .i64 x1), (2, .int .i64 x2), (4, .string x4)]).run Try.prog w = .ok (.agg #[.int .i64 x0, .int .i64 x1, .int .i64 x2, .int .i64 0, .string x4]) w := by intros; kernel_rfl
theorem bs_22_1_R1 : ∀ (x0_0 : Int) (x0_1 : Int) (x0_2 : Int) (x0_3 : Int) (x0_4 : ByteArray), News Try.prog (Instr.buildSlice 22 1 #[(0, .agg #[.int .i64 x0_0, .int .i64 x0_1, .int .i64 x0_2, .int .i64 x0_3, .string x0_4])]) (.cells #[.int .i64 x0_0, .int .i64 x0_1, .int .i64 x0_2, .int .i64 x0_3, .string x0_4] 32) fun b => .slice (some ⟨b, 0, none⟩) 1 1 := by intros; intro w; kernel_rfl
theorem sz_53_R1 : sizeB Try.prog 53 = some 16 := by kernel_rfl
theorem fa_53_11_R1 : FA Try.prog 53 11 13 := fun _ _ _ => by kernel_rfl
theorem sz_4_R1 : sizeB Try.prog 4 = some 1 := by kernel_rfl
theorem fa_53_10_R1 : FA Try.prog 53 10 10 := fun _ _ _ => by kernel_rfl
theorem fa_28_0_R1 : FA Try.prog 28 0 0 := fun _ _ _ => by kernel_rfl
theorem fa_53_1_R1 : FA Try.prog 53 1 1 := fun _ _ _ => by kernel_rfl
theorem cb_36_R1 : callB Try.prog 36 = true := by kernel_rfl
theorem fa_53_8_R1 : FA Try.prog 53 8 8 := fun _ _ _ => by kernel_rfl
theorem fa_53_7_R1 : FA Try.prog 53 7 7 := fun _ _ _ => by kernel_rfl
theorem sc_9_R1 : scalB Try.prog 9 = true := by kernel_rfl
theorem bl_32_0_1_2_3_4_R1 : ∀ (x0 : Int) (x1 : Int) (x2 : Int) (x3 : Int) (x4 : ByteArray), ∀ w : World, (Instr.build 32 #[(0, .int .i64 x0), (1, .int .i64 x1), (2, .int .i64 x2), (3, .int .i64 x3), (4, .string x4)]).run Try.prog w = .ok (.agg #[.int .i64 x0, .int .i64 x1, .int .i64 x2, .int .i64 x3, .string x4]) w := by intros; kernel_rfl
theorem zr_32_R1 : zeroB Try.prog 32 = some (.agg #[.int .i64 0, .int .i64 0, .int .i64 0, .int .i64 0, .string { data := #[] }]) := by kernel_rfl
theorem sz_32_R1 : sizeB Try.prog 32 = some 5 := by kernel_rfl
theorem fa_53_2_R1 : FA Try.prog 53 2 2 := fun _ _ _ => by kernel_rfl
theorem fa_32_4_R1 : FA Try.prog 32 4 4 := fun _ _ _ => by kernel_rfl
theorem sz_9_R1 : sizeB Try.prog 9 = some 1 := by kernel_rfl
theorem ag_32_R1 : aggB Try.prog 32 = some 5 := by kernel_rfl
theorem fa_53_9_R1 : FA Try.prog 53 9 9 := fun _ _ _ => by kernel_rfl
theorem sc_22_R1 : scalB Try.prog 22 = true := by kernel_rfl
theorem sl_22_R1 : slcB Try.prog 22 = some (32, 5) := by kernel_rfl
theorem fa_32_2_R1 : FA Try.prog 32 2 2 := fun _ _ _ => by kernel_rfl
theorem bl_32__R1 : ∀ w : World, (Instr.build 32 #[]).run Try.prog w = .ok (.agg #[.int .i64 0, .int .i64 0, .int .i64 0, .int .i64 0, .string { data := #[] }]) w := by intros; kernel_rfl
theorem ag_28_R1 : aggB Try.prog 28 = some 3 := by kernel_rfl
theorem cb_27_R1 : callB Try.prog 27 = true := by kernel_rfl
theorem cb_88_R1 : callB Try.prog 88 = true := by kernel_rfl
theorem cb_117_R1 : callB Try.prog 117 = true := by kernel_rfl
theorem fa_53_12_R1 : FA Try.prog 53 12 14 := fun _ _ _ => by kernel_rfl
theorem fa_53_13_R1 : FA Try.prog 53 13 15 := fun _ _ _ => by kernel_rfl
theorem cb_115_R1 : callB Try.prog 115 = true := by kernel_rfl
theorem cb_84_R1 : callB Try.prog 84 = true := by kernel_rfl
open VoteM AgrM

abbrev aC (st : ASt) (pv lv : Value) : Array Value := #[.int .i64 st.me, .int .i64 st.h, .string st.own, .int .i64 st.round, .int .i64 st.step, .string st.lock, .int .i64 st.lockR, .string st.val, .int .i64 st.valR, pv, .int .i64 st.n, .int .i64 st.t, lv, .bool st.seen, .bool st.done, .string st.dec]
/-- The document's part. -/
abbrev aV (st : ASt) (pv lv : Value) : Value := .agg (aC st pv lv)
theorem aC_V {w : World} {b : Nat} {st : ASt} {pv lv : Value} {T : TypeId} {fz : Nat × Nat} (hb : w.heap[b]? = some (.cells (aC st pv lv) T fz)) : ∀ j v, (#[.int .i64 st.n, .int .i64 st.t, lv] : Array Value)[j]? = some v → w.cell? ((⟨b, 10, none⟩ : Addr).add j) = some v := by
 refine cells_part hb fun j v hv => ?_
 have hj : j < 3 := (Array.getElem?_eq_some_iff.1 hv).1
 have : j = 0 ∨ j = 1 ∨ j = 2 := by omega
 rcases this with rfl | rfl | rfl <;> exact hv
theorem vote_3 {st : ASt} {k : Int} (h : k = 3) : st.vote k = { st with step := 3 } := by unfold ASt.vote; rw [if_pos h]
theorem vote_2 {st : ASt} {k : Int} (h : ¬ k = 3) : st.vote k = { st with step := 2 } := by unfold ASt.vote; rw [if_neg h]
theorem begin_hi {st : ASt} {r : Int} (h : 64 ≤ r) : st.begin r = st ∧ st.beginO r = [] := ⟨if_pos h, if_pos (.inl h)⟩
theorem begin_lo {st : ASt} {r : Int} (h : ¬ 64 ≤ r) : st.begin r = { st with round := r, step := 1, seen := false } := if_neg h
theorem beginO_no {st : ASt} {r : Int} (h : leader st.n st.h r ≠ st.me) : st.beginO r = [] := if_pos (.inr h)
theorem beginO_own {st : ASt} {r : Int} (h : ¬ 64 ≤ r) (h1 : leader st.n st.h r = st.me) (h2 : st.valR < 0) : st.beginO r = [⟨1, st.me, r, st.valR, st.own⟩] := by
 unfold ASt.beginO
 rw [if_neg (by rintro (e | e); exact h e; exact e h1), if_pos h2]
theorem beginO_val {st : ASt} {r : Int} (h : ¬ 64 ≤ r) (h1 : leader st.n st.h r = st.me) (h2 : ¬ st.valR < 0) : st.beginO r = [⟨1, st.me, r, st.valR, st.val⟩] := by
 unfold ASt.beginO
 rw [if_neg (by rintro (e | e); exact h e; exact e h1), if_neg h2]
theorem prop_hit {Ps : List Wrd} {r : Int} {i : Nat} {e : Wrd} (h : ∀ w ∈ Ps.take i, w.round ≠ r) (he : Ps[i]? = some e) (hr : e.round = r) : propL Ps r = e := by
 unfold propL
 have hs : Ps = Ps.take i ++ e :: Ps.drop (i + 1) := by
   obtain ⟨h1, h2⟩ := List.getElem?_eq_some_iff.1 he
   rw [← h2, ← List.drop_eq_getElem_cons h1, List.take_append_drop]
 rw [hs, List.find?_append]
 have h0 : (Ps.take i).find? (fun w => decide (w.round = r)) = none := by
   rw [List.find?_eq_none]
   intro w hw
   simpa using h w hw
 rw [h0]
 simp [List.find?_cons, hr]
theorem prop_miss {Ps : List Wrd} {r : Int} (h : ∀ w ∈ Ps, w.round ≠ r) : propL Ps r = zeroW := by
 unfold propL
 have h0 : Ps.find? (fun w => decide (w.round = r)) = none := by
   rw [List.find?_eq_none]
   intro w hw
   simpa using h w hw
 rw [h0]; rfl
theorem some_val {st : ASt} (W : st.Wf) {w : Wrd} (hw : w ∈ st.Ps) : w.value ≠ VoteM.empty := by
 obtain ⟨h1, h2, _⟩ := W.p w hw
 rcases (check_spec h1).1 with h | h
 · exact h.2.2.2
 · omega
/-- What is decided. -/
def decS (st : ASt) : ASt := match st.decide1 with
 | some v => { st with done := true, dec := v }
 | none => st
theorem decF_hit {a : ASt} {k r : Nat} (h : a.decOk r = true) : decF a (k + 1) r = some (propL a.Ps r).value := if_pos h
theorem decF_go {a : ASt} {k r : Nat} (h : a.decOk r = false) : decF a (k + 1) r = decF a k (r + 1) := if_neg (by rw [h]; decide)
theorem dec_go {st : ASt} {r : Int} (r0 : 0 ≤ r) (r1 : r < 64) (hd : st.decide1 = decF st (64 - r.toNat) r.toNat) (h : (propL st.Ps r).value = VoteM.empty ∨ st.is 3 r (propL st.Ps r).value = false) : st.decide1 = decF st (64 - (r + 1).toNat) (r + 1).toNat := by
 have er : ((r.toNat : Nat) : Int) = r := by omega
 have hno : st.decOk (r.toNat : Int) = false := by
   rw [er]
   unfold ASt.decOk
   rcases h with h | h
   · rw [decide_eq_false (fun e => e h)]; rfl
   · rw [h, Bool.and_false]
 rw [hd, show 64 - r.toNat = (64 - (r + 1).toNat) + 1 by omega, decF_go hno, show r.toNat + 1 = (r + 1).toNat by omega]
theorem tm1 {a : ASt} {s : Int} (h : s = 1) (h2 : a.step = s) : a.timeout s = (a.vote 2, a.voteO 2 VoteM.empty) := by
 unfold ASt.timeout
 rw [if_neg (by omega), if_neg (by omega), if_pos h]
theorem tm2 {a : ASt} {s : Int} (h : s = 2) (h2 : a.step = s) : a.timeout s = (a.vote 3, a.voteO 3 VoteM.empty) := by
 unfold ASt.timeout
 rw [if_neg (by omega), if_neg (by omega), if_neg (by omega), if_pos h]
theorem tm3 {a : ASt} {s : Int} (h : s = 3) : a.timeout s = (a.begin (a.round + 1), a.beginO (a.round + 1)) := if_pos h
theorem tm0 {a : ASt} {s : Int} (h : ¬ s = 3) (h1 : ¬ (s = 1 ∧ a.step = s)) (h2 : ¬ (s = 2 ∧ a.step = s)) : a.timeout s = (a, []) := by
 unfold ASt.timeout
 rw [if_neg h]
 split
 · rfl
 · rename_i e
   rw [if_neg (fun e1 => h1 ⟨e1, by omega⟩), if_neg (fun e1 => h2 ⟨e1, by omega⟩)]
theorem decS_some {st : ASt} {v : ByteArray} (h : st.decide1 = some v) : decS st = { st with done := true, dec := v } := by unfold decS; rw [h]
theorem decS_none {st : ASt} (h : st.decide1 = none) : decS st = st := by unfold decS; rw [h]

set_option maxRecDepth 100000 in
set_option maxHeartbeats 400000 in
theorem c115 (st : ASt) {PA LA : Option Addr} {pn pc ln lc : Nat} (k : Int) (v : ByteArray) (w0 : World) : Cl Try.prog 115 #[aV st (.slice PA pn pc) (.slice LA ln lc), .int .i64 k, .string v] w0 (RetS [] w0 (fun r (x : Value) => r = .tuple #[aV (st.vote k) (.slice PA pn pc) (.slice LA ln lc), x]) fun x => [wsR x (st.voteO k v)]) := by
 have M : Sep (fun b => b ∈ foots ([] : List Res)) w0 w0 _ := Sep.nil _ w0
 refine enter (vs := [_, _, _]) Try.func115 rfl rfl rfl ?_
 intro a F
 refine wp_seq ?_
 refine wp_region_l [.wr, .wr, .ind] ([0, 1, 2]) rfl ?_
 refine s_bxA F M rfl rfl rfl rfl rfl ?_; (clear F a M; try clear w); intro b3 w M a F
 refine s_alc F M rfl rfl rfl rfl zr_53_R1 rfl ?_; (clear F a M; try clear w); intro b6 w M a F
 refine s_I F rfl rfl rfl rfl rfl rfl ?_; clear F a; intro a F
 refine t_endM M ?_; (clear M; try clear w); intro w M
 refine wp_seq ?_
 refine wp_region_l [.ind, .wr] ([0, 1]) rfl ?_
 refine s_fa0 F rfl rfl rfl rfl fa_53_4_R1 rfl ?_; clear F a; intro a F
 refine s_st F M.f1 rfl rfl rfl sz_3_R1 rfl rfl rfl (by exact Nat.le_of_ble_eq_true rfl) ?_; (clear M; try clear w); intro w M
 refine t_endM M ?_; (clear M; try clear w); intro w M
 refine wp_seq ?_
 refine wp_seq ?_
 replace F := F.keep [0, 1, 2, 3, 6, 7] rfl
 refine wp_region_l [.ind, .ind] ([0, 1]) rfl ?_
 refine s_rn 2 F rfl rfl ?_; clear F a; intro a F
 refine t_endM M ?_; (clear M; try clear w); intro w M
 refine c_if F rfl ?_ ?_
 clear F; intro hc0 F
 try rw [hc0] at F
 replace hc0 := of_decide_eq_true hc0
 replace F := F.keep [0, 1, 2, 3, 6, 7] rfl
 refine wp_region_l [.ind, .wr] ([0, 1]) rfl ?_
 refine s_fa0 F rfl rfl rfl rfl fa_53_4_R1 rfl ?_; clear F a; intro a F
 refine s_st F M rfl rfl rfl sz_3_R1 rfl rfl rfl (by exact Nat.le_of_ble_eq_true rfl) ?_; (clear M; try clear w); intro w M
 refine t_endM M ?_; (clear M; try clear w); intro w M
 refine wp_seq ?_
 replace F := F.keep [0, 1, 2, 3, 6, 7] rfl
 refine wp_region_t [.rd, .ind, .ind, .rd, .ind, .rd, .ind, .ind, .wr, .wr, .ind] [(0, 8), (3, 9), (5, 9)] (.one 0 (.one 1 (.one 2 (.one 3 (.one 4 (.one 5 (.one 6 (.one 7 (.two 8 9 (otOf [9, 10]) (otOf [8, 10])))))))))) mixed (by kernel_rfl) ?_
 refine s_ldaL F rfl rfl rfl rfl ag_53_R1 rfl rfl (cells_whole M.h0) ?_; clear F a; intro a F
 refine s_I F rfl rfl rfl rfl rfl rfl ?_; clear F a; intro a F
 refine s_fa0 F rfl rfl rfl rfl fa_53_0_R1 rfl ?_; clear F a; intro a F
 refine s_ldL F rfl rfl rfl rfl sc_3_R1 rfl (by exact cell_of_blk M.h0 (lit rfl)) ?_; clear F a; intro a F
 refine s_fa0 F rfl rfl rfl rfl fa_53_3_R1 rfl ?_; clear F a; intro a F
 refine s_ldL F rfl rfl rfl rfl sc_3_R1 rfl (by exact cell_of_blk M.h0 (lit rfl)) ?_; clear F a; intro a F
 refine s_I F rfl rfl rfl rfl rfl rfl ?_; clear F a; intro a F
 refine s_bld F rfl rfl rfl rfl (parts4 F rfl rfl rfl rfl) (bl_32_0_1_2_4_R1 _ _ _ _) ?_; clear F a; intro a F
 refine t_two ?_ ?_
 refine s_bsL F M rfl rfl rfl rfl (parts1 F rfl) (bs_22_1_R1 _ _ _ _ _) (fun b w M => (by (refine pend_skip rfl ?_); (refine pend_skip rfl ?_); (refine pend_take (by exact cells_whole M.h1) ?_); exact pend_none)) ?_; (clear F a M; try clear w); intro b20 w M a F
 refine s_stWL F M.f2 rfl rfl rfl sz_53_R1 rfl rfl rfl rfl rfl (fun w M => (by (refine pend_take (by exact cell_of_blk M.h2 (lit rfl)) ?_); (refine pend_take (by exact cell_of_blk M.h2 (lit rfl)) ?_); (refine pend_skip rfl ?_); exact pend_none)) ?_; (clear M; try clear w); intro w M
 refine s_I F rfl rfl rfl rfl rfl rfl ?_; clear F a; intro a F
 refine t_endM M ?_; (clear M; try clear w); intro w M
 refine wp_ret ?_
 refine rt2 F rfl (by exact rv_a F rfl ag_53_R1 rfl (cells_whole M.h0)) (rv_t F rfl) ?_
 rw [vote_3 (by assumption)]
 have M1 : Sep _ _ _ (blk b20 _ :: _) := M.f1; replace M := M1; clear M1
 have M2 := sl_of_blk (m := 1) (sz := 5) M rfl
 refine ⟨_, _, rfl, rfl, ?_⟩
 exact Sep.left (m := [_]) M2
 refine s_stWL F M.f1 rfl rfl rfl sz_53_R1 rfl rfl rfl rfl rfl (fun w M => (by (refine pend_take (by exact cell_of_blk M.h1 (lit rfl)) ?_); (refine pend_take (by exact cell_of_blk M.h1 (lit rfl)) ?_); (refine pend_skip rfl ?_); exact pend_none)) ?_; (clear M; try clear w); intro w M
 refine s_bsL F M rfl rfl rfl rfl (parts1 F rfl) (bs_22_1_R1 _ _ _ _ _) (fun b w M => (by (refine pend_skip rfl ?_); (refine pend_skip rfl ?_); (refine pend_take (by exact cells_whole M.h2) ?_); exact pend_none)) ?_; (clear F a M; try clear w); intro b20 w M a F
 refine s_I F rfl rfl rfl rfl rfl rfl ?_; clear F a; intro a F
 refine t_endM M ?_; (clear M; try clear w); intro w M
 refine wp_ret ?_
 refine rt2 F rfl (by exact rv_a F rfl ag_53_R1 rfl (cells_whole M.h1)) (rv_t F rfl) ?_
 rw [vote_3 (by assumption)]
 have M1 : Sep _ _ _ (blk b20 _ :: _) := M; replace M := M1; clear M1
 have M2 := sl_of_blk (m := 1) (sz := 5) M rfl
 refine ⟨_, _, rfl, rfl, ?_⟩
 exact Sep.left (m := [_]) M2
 clear F; intro hc1 F
 try rw [hc1] at F
 replace hc1 := of_decide_eq_false hc1
 refine wp_skip ?_
 refine wp_seq ?_
 replace F := F.keep [0, 1, 2, 3, 6, 7] rfl
 refine wp_region_t [.rd, .ind, .ind, .rd, .ind, .rd, .ind, .ind, .wr, .wr, .ind] [(0, 8), (3, 9), (5, 9)] (.one 0 (.one 1 (.one 2 (.one 3 (.one 4 (.one 5 (.one 6 (.one 7 (.two 8 9 (otOf [9, 10]) (otOf [8, 10])))))))))) mixed (by kernel_rfl) ?_
 refine s_ldaL F rfl rfl rfl rfl ag_53_R1 rfl rfl (cells_whole M.h0) ?_; clear F a; intro a F
 refine s_I F rfl rfl rfl rfl rfl rfl ?_; clear F a; intro a F
 refine s_fa0 F rfl rfl rfl rfl fa_53_0_R1 rfl ?_; clear F a; intro a F
 refine s_ldL F rfl rfl rfl rfl sc_3_R1 rfl (by exact cell_of_blk M.h0 (lit rfl)) ?_; clear F a; intro a F
 refine s_fa0 F rfl rfl rfl rfl fa_53_3_R1 rfl ?_; clear F a; intro a F
 refine s_ldL F rfl rfl rfl rfl sc_3_R1 rfl (by exact cell_of_blk M.h0 (lit rfl)) ?_; clear F a; intro a F
 refine s_I F rfl rfl rfl rfl rfl rfl ?_; clear F a; intro a F
 refine s_bld F rfl rfl rfl rfl (parts4 F rfl rfl rfl rfl) (bl_32_0_1_2_4_R1 _ _ _ _) ?_; clear F a; intro a F
 refine t_two ?_ ?_
 refine s_bsL F M rfl rfl rfl rfl (parts1 F rfl) (bs_22_1_R1 _ _ _ _ _) (fun b w M => (by (refine pend_skip rfl ?_); (refine pend_skip rfl ?_); (refine pend_take (by exact cells_whole M.h1) ?_); exact pend_none)) ?_; (clear F a M; try clear w); intro b20 w M a F
 refine s_stWL F M.f2 rfl rfl rfl sz_53_R1 rfl rfl rfl rfl rfl (fun w M => (by (refine pend_take (by exact cell_of_blk M.h2 (lit rfl)) ?_); (refine pend_take (by exact cell_of_blk M.h2 (lit rfl)) ?_); (refine pend_skip rfl ?_); exact pend_none)) ?_; (clear M; try clear w); intro w M
 refine s_I F rfl rfl rfl rfl rfl rfl ?_; clear F a; intro a F
 refine t_endM M ?_; (clear M; try clear w); intro w M
 refine wp_ret ?_
 refine rt2 F rfl (by exact rv_a F rfl ag_53_R1 rfl (cells_whole M.h0)) (rv_t F rfl) ?_
 rw [vote_2 (by assumption)]
 have M1 : Sep _ _ _ (blk b20 _ :: _) := M.f1; replace M := M1; clear M1
 have M2 := sl_of_blk (m := 1) (sz := 5) M rfl
 refine ⟨_, _, rfl, rfl, ?_⟩
 exact Sep.left (m := [_]) M2
 refine s_stWL F M.f1 rfl rfl rfl sz_53_R1 rfl rfl rfl rfl rfl (fun w M => (by (refine pend_take (by exact cell_of_blk M.h1 (lit rfl)) ?_); (refine pend_take (by exact cell_of_blk M.h1 (lit rfl)) ?_); (refine pend_skip rfl ?_); exact pend_none)) ?_; (clear M; try clear w); intro w M
 refine s_bsL F M rfl rfl rfl rfl (parts1 F rfl) (bs_22_1_R1 _ _ _ _ _) (fun b w M => (by (refine pend_skip rfl ?_); (refine pend_skip rfl ?_); (refine pend_take (by exact cells_whole M.h2) ?_); exact pend_none)) ?_; (clear F a M; try clear w); intro b20 w M a F
 refine s_I F rfl rfl rfl rfl rfl rfl ?_; clear F a; intro a F
 refine t_endM M ?_; (clear M; try clear w); intro w M
 refine wp_ret ?_
 refine rt2 F rfl (by exact rv_a F rfl ag_53_R1 rfl (cells_whole M.h1)) (rv_t F rfl) ?_
 rw [vote_2 (by assumption)]
 have M1 : Sep _ _ _ (blk b20 _ :: _) := M; replace M := M1; clear M1
 have M2 := sl_of_blk (m := 1) (sz := 5) M rfl
 refine ⟨_, _, rfl, rfl, ?_⟩
 exact Sep.left (m := [_]) M2
set_option maxRecDepth 100000 in
set_option maxHeartbeats 400000 in
theorem c84 (st : ASt) {PA LA : Option Addr} {pn pc ln lc : Nat} (r : Int) (w0 : World) : Cl Try.prog 84 #[aV st (.slice PA pn pc) (.slice LA ln lc), .int .i64 r] w0 (RetS [] w0 (fun o (x : Value) => o = .tuple #[aV (st.begin r) (.slice PA pn pc) (.slice LA ln lc), x]) fun x => [wsR x (st.beginO r)]) := by
 have M : Sep (fun b => b ∈ foots ([] : List Res)) w0 w0 _ := Sep.nil _ w0
 refine enter (vs := [_, _]) Try.func84 rfl rfl rfl ?_
 intro a F
 refine wp_seq ?_
 refine wp_region_l [.wr, .wr, .ind] ([0, 1, 2]) rfl ?_
 refine s_bxA F M rfl rfl rfl rfl rfl ?_; (clear F a M; try clear w); intro b2 w M a F
 refine s_alc F M rfl rfl rfl rfl zr_53_R1 rfl ?_; (clear F a M; try clear w); intro b4 w M a F
 refine s_I F rfl rfl rfl rfl rfl rfl ?_; clear F a; intro a F
 refine t_endM M ?_; (clear M; try clear w); intro w M
 refine wp_seq ?_
 refine wp_seq ?_
 refine wp_region_l [.ind, .ind] ([0, 1]) rfl ?_
 refine s_rn 2 F rfl rfl ?_; clear F a; intro a F
 refine t_endM M ?_; (clear M; try clear w); intro w M
 refine c_if F rfl ?_ ?_
 clear F; intro hc0 F
 try rw [hc0] at F
 replace hc0 := of_decide_eq_true hc0
 refine wp_seq ?_
 replace F := F.keep [0, 1, 2, 4, 5] rfl
 refine wp_region_l [.rd, .wr, .ind] ([0, 1, 2]) rfl ?_
 refine s_lda F rfl rfl rfl rfl ag_53_R1 rfl rfl (cells_whole M.h1) ?_; clear F a; intro a F
 refine s_stW F M rfl rfl rfl sz_53_R1 rfl rfl rfl rfl rfl ?_; (clear M; try clear w); intro w M
 refine s_I F rfl rfl rfl rfl rfl rfl ?_; clear F a; intro a F
 refine t_endM M ?_; (clear M; try clear w); intro w M
 refine wp_ret ?_
 refine rt2 F rfl (by exact rv_a F rfl ag_53_R1 rfl (cells_whole M.h0)) (rv_t F rfl) ?_
 rw [(begin_hi (by assumption)).1, (begin_hi (by assumption)).2]
 refine ⟨_, .slice none 0 0, rfl, rfl, ?_⟩
 replace M := M.nilT encW 32 5
 exact Sep.left (m := [_]) M
 clear F; intro hc1 F
 try rw [hc1] at F
 replace hc1 := of_decide_eq_false hc1
 refine wp_skip ?_
 refine wp_seq ?_
 replace F := F.keep [0, 1, 2, 4, 5] rfl
 refine wp_region_l [.ind, .ind, .wr] ([0, 1, 2]) rfl ?_
 refine s_I F rfl rfl rfl rfl rfl rfl ?_; clear F a; intro a F
 refine s_fa0 F rfl rfl rfl rfl fa_53_3_R1 rfl ?_; clear F a; intro a F
 refine s_st F M.f1 rfl rfl rfl sz_3_R1 rfl rfl rfl (by exact Nat.le_of_ble_eq_true rfl) ?_; (clear M; try clear w); intro w M
 refine t_endM M ?_; (clear M; try clear w); intro w M
 refine wp_seq ?_
 replace F := F.keep [0, 1, 2, 4, 5] rfl
 refine wp_region_l [.ind, .wr] ([0, 1]) rfl ?_
 refine s_fa0 F rfl rfl rfl rfl fa_53_4_R1 rfl ?_; clear F a; intro a F
 refine s_st F M rfl rfl rfl sz_3_R1 rfl rfl rfl (by exact Nat.le_of_ble_eq_true rfl) ?_; (clear M; try clear w); intro w M
 refine t_endM M ?_; (clear M; try clear w); intro w M
 refine wp_seq ?_
 replace F := F.keep [0, 1, 2, 4, 5] rfl
 refine wp_region_l [.ind, .wr] ([0, 1]) rfl ?_
 refine s_fa0 F rfl rfl rfl rfl fa_53_11_R1 rfl ?_; clear F a; intro a F
 refine s_st F M rfl rfl rfl sz_4_R1 rfl rfl rfl (by exact Nat.le_of_ble_eq_true rfl) ?_; (clear M; try clear w); intro w M
 refine t_endM M ?_; (clear M; try clear w); intro w M
 refine wp_seq ?_
 refine wp_seq ?_
 replace F := F.keep [0, 1, 2, 4, 5] rfl
 refine wp_region_t [.ind, .ind, .rd, .ind, .rd, .ind, .wr, .ind, .rd, .ind] [(8, 6)] (otOf [0, 1, 2, 3, 4, 5, 7, 8, 6, 9]) mixed (by kernel_rfl) ?_
 refine s_fa0 F rfl rfl rfl rfl fa_53_10_R1 rfl ?_; clear F a; intro a F
 refine s_fa F rfl rfl rfl rfl fa_28_0_R1 rfl ?_; clear F a; intro a F
 refine s_ldL F rfl rfl rfl rfl sc_3_R1 rfl (by exact cell_of_blk M.h0 (lit rfl)) ?_; clear F a; intro a F
 refine s_fa0 F rfl rfl rfl rfl fa_53_1_R1 rfl ?_; clear F a; intro a F
 refine s_ldL F rfl rfl rfl rfl sc_3_R1 rfl (by exact cell_of_blk M.h0 (lit rfl)) ?_; clear F a; intro a F
 refine s_I F rfl rfl rfl rfl rfl rfl ?_; clear F a; intro a F
 refine s_fa0 F rfl rfl rfl rfl fa_53_0_R1 rfl ?_; clear F a; intro a F
 refine s_ldL F rfl rfl rfl rfl sc_3_R1 rfl (by exact cell_of_blk M.h0 (lit rfl)) ?_; clear F a; intro a F
 refine s_cqL F M rfl rfl rfl rfl rfl (rfl : _ = some [_, _, _]) cb_36_R1 (fun nd_ => c36 st.n st.h r _) (fun _ w _ M => (by (refine pend_take (by exact cell_of_blk M.h0 (lit rfl)) ?_); (refine pend_skip rfl ?_); (refine pend_skip rfl ?_); exact pend_none)) ?_; (clear F a M; try clear w); rintro v w rfl M a F
 refine s_bin F rfl rfl rfl rfl rfl rfl rfl ?_; clear F a; intro a F
 refine t_endM M ?_; (clear M; try clear w); intro w M
 refine c_if F rfl ?_ ?_
 clear F; intro hc2 F
 try rw [hc2] at F
 replace hc2 := nd1 hc2
 refine wp_seq ?_
 replace F := F.keep [0, 1, 2, 4, 5] rfl
 refine wp_region_l [.rd, .wr, .ind] ([0, 1, 2]) rfl ?_
 refine s_lda F rfl rfl rfl rfl ag_53_R1 rfl rfl (cells_whole M.h0) ?_; clear F a; intro a F
 refine s_stW F M.f1 rfl rfl rfl sz_53_R1 rfl rfl rfl rfl rfl ?_; (clear M; try clear w); intro w M
 refine s_I F rfl rfl rfl rfl rfl rfl ?_; clear F a; intro a F
 refine t_endM M ?_; (clear M; try clear w); intro w M
 refine wp_ret ?_
 refine rt2 F rfl (by exact rv_a F rfl ag_53_R1 rfl (cells_whole M.h0)) (rv_t F rfl) ?_
 rw [begin_lo (by assumption), beginO_no (by assumption)]
 refine ⟨_, .slice none 0 0, rfl, rfl, ?_⟩
 replace M := M.nilT encW 32 5
 exact Sep.left (m := [_]) M
 clear F; intro hc3 F
 try rw [hc3] at F
 replace hc3 := nd0 hc3
 refine wp_skip ?_
 refine wp_seq ?_
 replace F := F.keep [0, 1, 2, 4, 5] rfl
 refine wp_region_l [.ind, .rd, .ind, .ind, .rd, .ind, .rd, .ind, .wr, .wr] ([0, 1, 2, 3, 4, 5, 6, 7, 8, 9]) rfl ?_
 refine s_fa0 F rfl rfl rfl rfl fa_53_0_R1 rfl ?_; clear F a; intro a F
 refine s_ld F rfl rfl rfl rfl sc_3_R1 rfl (by exact cell_of_blk M.h0 (lit rfl)) ?_; clear F a; intro a F
 refine s_I F rfl rfl rfl rfl rfl rfl ?_; clear F a; intro a F
 refine s_fa0 F rfl rfl rfl rfl fa_53_8_R1 rfl ?_; clear F a; intro a F
 refine s_ld F rfl rfl rfl rfl sc_3_R1 rfl (by exact cell_of_blk M.h0 (lit rfl)) ?_; clear F a; intro a F
 refine s_fa0 F rfl rfl rfl rfl fa_53_7_R1 rfl ?_; clear F a; intro a F
 refine s_ld F rfl rfl rfl rfl sc_9_R1 rfl (by exact cell_of_blk M.h0 (lit rfl)) ?_; clear F a; intro a F
 refine s_bld F rfl rfl rfl rfl (parts5 F rfl rfl rfl rfl rfl) (bl_32_0_1_2_3_4_R1 _ _ _ _ _) ?_; clear F a; intro a F
 refine s_alc F M rfl rfl rfl rfl zr_32_R1 rfl ?_; (clear F a M; try clear w); intro b6 w M a F
 refine s_stW F M rfl rfl rfl sz_32_R1 rfl rfl rfl rfl rfl ?_; (clear M; try clear w); intro w M
 refine t_endM M ?_; (clear M; try clear w); intro w M
 refine wp_seq ?_
 refine wp_seq ?_
 replace F := F.keep [0, 1, 2, 4, 5, 6] rfl
 refine wp_region_l [.ind, .rd, .ind] ([0, 1, 2]) rfl ?_
 refine s_fa0 F rfl rfl rfl rfl fa_53_8_R1 rfl ?_; clear F a; intro a F
 refine s_ld F rfl rfl rfl rfl sc_3_R1 rfl (by exact cell_of_blk M.h1 (lit rfl)) ?_; clear F a; intro a F
 refine s_bin F rfl rfl rfl rfl rfl rfl rfl ?_; clear F a; intro a F
 refine t_endM M ?_; (clear M; try clear w); intro w M
 refine c_if F rfl ?_ ?_
 clear F; intro hc4 F
 try rw [hc4] at F
 replace hc4 := of_decide_eq_true hc4
 replace F := F.keep [0, 1, 2, 4, 5, 6] rfl
 refine wp_region_l [.ind, .rd, .ind, .wr] ([0, 1, 2, 3]) rfl ?_
 refine s_fa0 F rfl rfl rfl rfl fa_53_2_R1 rfl ?_; clear F a; intro a F
 refine s_ld F rfl rfl rfl rfl sc_9_R1 rfl (by exact cell_of_blk M.h1 (lit rfl)) ?_; clear F a; intro a F
 refine s_fa0 F rfl rfl rfl rfl fa_32_4_R1 rfl ?_; clear F a; intro a F
 refine s_st F M rfl rfl rfl sz_9_R1 rfl rfl rfl (by exact Nat.le_of_ble_eq_true rfl) ?_; (clear M; try clear w); intro w M
 refine t_endM M ?_; (clear M; try clear w); intro w M
 refine wp_seq ?_
 replace F := F.keep [0, 1, 2, 4, 5, 6] rfl
 refine wp_region_t [.rd, .rd, .wr, .wr, .ind] [(0, 2), (1, 3)] (.one 0 (.one 1 (.two 2 3 (otOf [3, 4]) (otOf [2, 4])))) mixed (by kernel_rfl) ?_
 refine s_ldaL F rfl rfl rfl rfl ag_53_R1 rfl rfl (cells_whole M.h1) ?_; clear F a; intro a F
 refine s_ldaL F rfl rfl rfl rfl ag_32_R1 rfl rfl (cells_whole M.h0) ?_; clear F a; intro a F
 refine t_two ?_ ?_
 refine s_bsL F M rfl rfl rfl rfl (parts1 F rfl) (bs_22_1_R1 _ _ _ _ _) (fun b w M => (by (refine pend_skip rfl ?_); (refine pend_take (by exact cells_whole M.h2) ?_); exact pend_none)) ?_; (clear F a M; try clear w); intro b41 w M a F
 refine s_stWL F M.f3 rfl rfl rfl sz_53_R1 rfl rfl rfl rfl rfl (fun w M => (by (refine pend_take (by exact cells_whole M.h2) ?_); (refine pend_skip rfl ?_); exact pend_none)) ?_; (clear M; try clear w); intro w M
 refine s_I F rfl rfl rfl rfl rfl rfl ?_; clear F a; intro a F
 refine t_endM M ?_; (clear M; try clear w); intro w M
 refine wp_ret ?_
 refine rt2 F rfl (by exact rv_a F rfl ag_53_R1 rfl (cells_whole M.h0)) (rv_t F rfl) ?_
 rw [begin_lo (by assumption), beginO_own (by assumption) (by simp_all) (by assumption)]
 have M1 : Sep _ _ _ (blk b41 _ :: _) := M.f1; replace M := M1; clear M1
 have M2 := sl_of_blk (m := 1) (sz := 5) M rfl
 refine ⟨_, _, rfl, rfl, ?_⟩
 exact Sep.left (m := [_]) M2
 refine s_stWL F M.f2 rfl rfl rfl sz_53_R1 rfl rfl rfl rfl rfl (fun w M => (by (refine pend_take (by exact cells_whole M.h1) ?_); (refine pend_skip rfl ?_); exact pend_none)) ?_; (clear M; try clear w); intro w M
 refine s_bsL F M rfl rfl rfl rfl (parts1 F rfl) (bs_22_1_R1 _ _ _ _ _) (fun b w M => (by (refine pend_skip rfl ?_); (refine pend_take (by exact cells_whole M.h3) ?_); exact pend_none)) ?_; (clear F a M; try clear w); intro b41 w M a F
 refine s_I F rfl rfl rfl rfl rfl rfl ?_; clear F a; intro a F
 refine t_endM M ?_; (clear M; try clear w); intro w M
 refine wp_ret ?_
 refine rt2 F rfl (by exact rv_a F rfl ag_53_R1 rfl (cells_whole M.h1)) (rv_t F rfl) ?_
 rw [begin_lo (by assumption), beginO_own (by assumption) (by simp_all) (by assumption)]
 have M1 : Sep _ _ _ (blk b41 _ :: _) := M; replace M := M1; clear M1
 have M2 := sl_of_blk (m := 1) (sz := 5) M rfl
 refine ⟨_, _, rfl, rfl, ?_⟩
 exact Sep.left (m := [_]) M2
 clear F; intro hc5 F
 try rw [hc5] at F
 replace hc5 := of_decide_eq_false hc5
 refine wp_skip ?_
 refine wp_seq ?_
 replace F := F.keep [0, 1, 2, 4, 5, 6] rfl
 refine wp_region_t [.rd, .rd, .wr, .wr, .ind] [(0, 2), (1, 3)] (.one 0 (.one 1 (.two 2 3 (otOf [3, 4]) (otOf [2, 4])))) mixed (by kernel_rfl) ?_
 refine s_ldaL F rfl rfl rfl rfl ag_53_R1 rfl rfl (cells_whole M.h1) ?_; clear F a; intro a F
 refine s_ldaL F rfl rfl rfl rfl ag_32_R1 rfl rfl (cells_whole M.h0) ?_; clear F a; intro a F
 refine t_two ?_ ?_
 refine s_bsL F M rfl rfl rfl rfl (parts1 F rfl) (bs_22_1_R1 _ _ _ _ _) (fun b w M => (by (refine pend_skip rfl ?_); (refine pend_take (by exact cells_whole M.h2) ?_); exact pend_none)) ?_; (clear F a M; try clear w); intro b41 w M a F
 refine s_stWL F M.f3 rfl rfl rfl sz_53_R1 rfl rfl rfl rfl rfl (fun w M => (by (refine pend_take (by exact cells_whole M.h2) ?_); (refine pend_skip rfl ?_); exact pend_none)) ?_; (clear M; try clear w); intro w M
 refine s_I F rfl rfl rfl rfl rfl rfl ?_; clear F a; intro a F
 refine t_endM M ?_; (clear M; try clear w); intro w M
 refine wp_ret ?_
 refine rt2 F rfl (by exact rv_a F rfl ag_53_R1 rfl (cells_whole M.h0)) (rv_t F rfl) ?_
 rw [begin_lo (by assumption), beginO_val (by assumption) (by simp_all) (by assumption)]
 have M1 : Sep _ _ _ (blk b41 _ :: _) := M.f1; replace M := M1; clear M1
 have M2 := sl_of_blk (m := 1) (sz := 5) M rfl
 refine ⟨_, _, rfl, rfl, ?_⟩
 exact Sep.left (m := [_]) M2
 refine s_stWL F M.f2 rfl rfl rfl sz_53_R1 rfl rfl rfl rfl rfl (fun w M => (by (refine pend_take (by exact cells_whole M.h1) ?_); (refine pend_skip rfl ?_); exact pend_none)) ?_; (clear M; try clear w); intro w M
 refine s_bsL F M rfl rfl rfl rfl (parts1 F rfl) (bs_22_1_R1 _ _ _ _ _) (fun b w M => (by (refine pend_skip rfl ?_); (refine pend_take (by exact cells_whole M.h3) ?_); exact pend_none)) ?_; (clear F a M; try clear w); intro b41 w M a F
 refine s_I F rfl rfl rfl rfl rfl rfl ?_; clear F a; intro a F
 refine t_endM M ?_; (clear M; try clear w); intro w M
 refine wp_ret ?_
 refine rt2 F rfl (by exact rv_a F rfl ag_53_R1 rfl (cells_whole M.h1)) (rv_t F rfl) ?_
 rw [begin_lo (by assumption), beginO_val (by assumption) (by simp_all) (by assumption)]
 have M1 : Sep _ _ _ (blk b41 _ :: _) := M; replace M := M1; clear M1
 have M2 := sl_of_blk (m := 1) (sz := 5) M rfl
 refine ⟨_, _, rfl, rfl, ?_⟩
 exact Sep.left (m := [_]) M2
set_option maxRecDepth 100000 in
set_option maxHeartbeats 400000 in
theorem c88 (st : ASt) (W : st.Wf) (hpl : st.Ps.length ≤ 100000) (pv lv : Value) (r : Int) (w0 : World) (hrp : RdSl w0.heap pv st.Ps.length 5 (st.Ps.flatMap encW)) : Cl Try.prog 88 #[aV st pv lv, .int .i64 r] w0 (RetQ w0 fun o => o = .tuple #[wrdV (propL st.Ps r), .bool (decide ((propL st.Ps r).value ≠ VoteM.empty))]) := by
 have M : Sep (fun _ => False) w0 w0 _ := Sep.nil _ w0
 have hrop := ro_of hrp
 obtain ⟨PA, PC, rfl, hpc⟩ := hrp.form
 refine enter (vs := [_, _]) Try.func88 rfl rfl rfl ?_
 intro a F
 refine wp_seq ?_
 refine wp_region_l [.wr, .wr, .ind] ([0, 1, 2]) rfl ?_
 refine s_bxA F M rfl rfl rfl rfl rfl ?_; (clear F a M; try clear w); intro b2 w M a F
 refine s_alc F M rfl rfl rfl rfl zr_32_R1 rfl ?_; (clear F a M; try clear w); intro b4 w M a F
 refine s_I F rfl rfl rfl rfl rfl rfl ?_; clear F a; intro a F
 refine t_endM M ?_; (clear M; try clear w); intro w M
 refine wp_seq ?_
 refine wp_seq ?_
 refine wp_region_l [.ind] ([0]) rfl ?_
 refine s_I F rfl rfl rfl rfl rfl rfl ?_; clear F a; intro a F
 refine t_endM M ?_; (clear M; try clear w); intro w M
 refine wp_block ?_
 refine loopX (X := (Int)) F [0, 1, 2, 4] rfl (fun (i : Int) => (0 ≤ i) ∧ (i ≤ st.Ps.length) ∧ (∀ w ∈ st.Ps.take i.toNat, w.round ≠ r)) (fun (i : Int) => [(6, .int .i64 i)]) (fun (i : Int) => []) (fun (i : Int) => st.Ps.length - i.toNat) (0) M ⟨(by omega), (by omega), (by simp)⟩ (F.keep [6, 0, 1, 2, 4] rfl) ?_
 clear F M; clear a; (try clear w)
 rintro i a w ⟨i0, i1, hn⟩ F M; try dsimp only at F M
 try simp only [List.cons_append, List.nil_append] at F M
 try dsimp only at i0 i1 hn
 refine wp_seq ?_
 refine wp_seq ?_
 refine wp_region_l [.ind, .ind, .rd, .ind, .ind] ([0, 1, 2, 3, 4]) rfl ?_
 refine s_I F rfl rfl rfl rfl rfl rfl ?_; clear F a; intro a F
 refine s_fa0 F rfl rfl rfl rfl fa_53_9_R1 rfl ?_; clear F a; intro a F
 refine s_ld F rfl rfl rfl rfl sc_22_R1 rfl (by exact cell_of_blk M.h1 (lit rfl)) ?_; clear F a; intro a F
 refine s_len F rfl rfl rfl rfl sl_22_R1 rfl ?_; clear F a; intro a F
 refine s_bin F rfl rfl rfl rfl rfl rfl rfl ?_; clear F a; intro a F
 refine t_endM M ?_; (clear M; try clear w); intro w M
 refine c_if F rfl ?_ ?_
 clear F; intro hc0 F
 try rw [hc0] at F
 replace hc0 := of_decide_eq_true hc0
 refine wp_skip ?_
 refine wp_seq ?_
 refine wp_block ?_
 refine wp_seq ?_
 replace F := F.keep [0, 1, 2, 4, 6] rfl
 refine wp_region_l [.ind, .rd, .ind, .ind, .ind, .rd, .ind, .ind] ([0, 1, 2, 3, 4, 5, 6, 7]) rfl ?_
 refine s_fa0 F rfl rfl rfl rfl fa_53_9_R1 rfl ?_; clear F a; intro a F
 refine s_ld F rfl rfl rfl rfl sc_22_R1 rfl (by exact cell_of_blk M.h1 (lit rfl)) ?_; clear F a; intro a F
 refine s_I F rfl rfl rfl rfl rfl rfl ?_; clear F a; intro a F
 refine s_ix F rfl rfl rfl rfl sl_22_R1 rfl rfl (by exact M.chg.ro hrop) (by omega) (by omega) ?_; clear F a; intro e17 he17 a F
 refine s_fa F rfl rfl rfl rfl fa_32_2_R1 rfl ?_; clear F a; intro a F
 refine s_ld F rfl rfl rfl rfl sc_3_R1 rfl (by exact rdX (M.chg.ro hrop) (by intro e; rfl) he17 rfl) ?_; clear F a; intro a F
 refine s_rn 2 F rfl rfl ?_; clear F a; intro a F
 refine t_endM M ?_; (clear M; try clear w); intro w M
 refine c_if F rfl ?_ ?_
 clear F; intro hc1 F
 try rw [hc1] at F
 replace hc1 := of_decide_eq_true hc1
 refine wp_seq ?_
 replace F := F.keep [0, 1, 2, 4, 6] rfl
 refine wp_region_l [.ind, .rd, .ind, .ind, .rd, .wr, .ind] ([0, 1, 2, 3, 4, 5, 6]) rfl ?_
 refine s_fa0 F rfl rfl rfl rfl fa_53_9_R1 rfl ?_; clear F a; intro a F
 refine s_ld F rfl rfl rfl rfl sc_22_R1 rfl (by exact cell_of_blk M.h1 (lit rfl)) ?_; clear F a; intro a F
 refine s_I F rfl rfl rfl rfl rfl rfl ?_; clear F a; intro a F
 refine s_ix F rfl rfl rfl rfl sl_22_R1 rfl rfl (by exact M.chg.ro hrop) (by omega) (by omega) ?_; clear F a; intro e25 he25 a F
 try (obtain rfl := Option.some.inj (he17.symm.trans he25))
 refine s_lda F rfl rfl rfl rfl ag_32_R1 rfl rfl (rdsX (M.chg.ro hrop) (by intro e; rfl) he25) ?_; clear F a; intro a F
 refine s_stW F M rfl rfl rfl sz_32_R1 rfl rfl rfl rfl rfl ?_; (clear M; try clear w); intro w M
 refine s_I F rfl rfl rfl rfl rfl rfl ?_; clear F a; intro a F
 refine t_endM M ?_; (clear M; try clear w); intro w M
 refine wp_ret ?_
 refine rt2 F rfl (by exact rv_a F rfl ag_32_R1 rfl (cells_whole M.h0)) (rv_t F rfl) ?_
 have hp := prop_hit hn he17 (by assumption)
 refine ⟨_, rfl, ?_, M.chg⟩
 rw [hp, decide_eq_true (some_val W (List.mem_of_getElem? he17))]
 rfl
 clear F; intro hc2 F
 try rw [hc2] at F
 replace hc2 := of_decide_eq_false hc2
 refine wp_skip ?_
 replace F := F.keep [0, 1, 2, 4, 6] rfl
 refine wp_region_l [.ind, .ind, .ind] ([0, 1, 2]) rfl ?_
 refine s_I F rfl rfl rfl rfl rfl rfl ?_; clear F a; intro a F
 refine s_add F rfl rfl rfl rfl rfl rfl (by unfold In64; omega) ?_; clear F a; intro a F
 refine s_I F rfl rfl rfl rfl rfl rfl ?_; clear F a; intro a F
 refine t_endM M ?_; (clear M; try clear w); intro w M
 refine again (i + 1) (by show _ < _; (try dsimp only); omega) ⟨(by omega), (by assumption), (all_take hn i0 he17 (by assumption))⟩ (F.keep [6, 0, 1, 2, 4] rfl) ?_
 try dsimp only [List.cons_append, List.nil_append]
 refine M.pick ?_; repeat (first | exact PkG.nil | refine PkG.cons 0 rfl rfl ?_ | refine PkG.cons 1 rfl rfl ?_)
 clear F; intro hc3 F
 try rw [hc3] at F
 replace hc3 := of_decide_eq_false hc3
 refine wp_exit ?_
 refine wp_seq ?_
 replace F := F.keep [0, 1, 2, 4, 6] rfl
 refine wp_region_l [.ind, .wr, .ind] ([0, 1, 2]) rfl ?_
 refine s_bld F rfl rfl rfl rfl (parts0 F ) (bl_32__R1) ?_; clear F a; intro a F
 refine s_stW F M rfl rfl rfl sz_32_R1 rfl rfl rfl rfl rfl ?_; (clear M; try clear w); intro w M
 refine s_I F rfl rfl rfl rfl rfl rfl ?_; clear F a; intro a F
 refine t_endM M ?_; (clear M; try clear w); intro w M
 refine wp_ret ?_
 refine rt2 F rfl (by exact rv_a F rfl ag_32_R1 rfl (cells_whole M.h0)) (rv_t F rfl) ?_
 rw [take_all (by omega)] at hn
 refine ⟨_, rfl, ?_, M.chg⟩
 rw [prop_miss hn]
 rfl
set_option maxRecDepth 100000 in
set_option maxHeartbeats 400000 in
theorem c117 (st : ASt) (hl : st.L.length ≤ 2048) (pv lv : Value) (k r : Int) (v : ByteArray) (w0 : World) (hrl : RdSl w0.heap lv st.L.length 5 (st.L.flatMap encW)) : Cl Try.prog 117 #[aV st pv lv, .int .i64 k, .int .i64 r, .string v] w0 (RetQ w0 fun o => o = .bool (st.is k r v)) := by
 have M : Sep (fun _ => False) w0 w0 _ := Sep.nil _ w0
 have hrol := ro_of hrl
 obtain ⟨LA, LC, rfl, hlc⟩ := hrl.form
 refine enter (vs := [_, _, _, _]) Try.func117 rfl rfl rfl ?_
 intro a F
 refine wp_seq ?_
 refine wp_region_l [.wr, .ind] ([0, 1]) rfl ?_
 refine s_bxA F M rfl rfl rfl rfl rfl ?_; (clear F a M; try clear w); intro b4 w M a F
 refine s_I F rfl rfl rfl rfl rfl rfl ?_; clear F a; intro a F
 refine t_endM M ?_; (clear M; try clear w); intro w M
 refine wp_seq ?_
 refine wp_region_l [.ind, .rd, .ind, .ind, .wr, .ind, .ind, .ind, .ind, .ind] ([0, 1, 2, 3, 4, 5, 6, 7, 8, 9]) rfl ?_
 refine s_fa0 F rfl rfl rfl rfl fa_53_10_R1 rfl ?_; clear F a; intro a F
 refine s_lda F rfl rfl rfl rfl ag_28_R1 rfl rfl (aC_V M.h0) ?_; clear F a; intro a F
 refine s_rn 2 F rfl rfl ?_; clear F a; intro a F
 refine s_cq F M rfl rfl rfl rfl rfl (rfl : _ = some [_, _, _]) cb_27_R1 (fun nd_ => c27 st.n st.t st.L _ k r hl _ (M.chg.ro hrol)) ?_; (clear F a M; try clear w); rintro v w rfl M a F
 refine s_rn 5 F rfl rfl ?_; clear F a; intro a F
 refine t_endM M ?_; (clear M; try clear w); intro w M
 refine wp_seq ?_
 replace F := F.keep [0, 1, 2, 3, 4, 8, 9, 10] rfl
 refine wp_region_l [.ind, .ind, .ind, .ind, .ind, .ind, .ind] ([0, 1, 2, 3, 4, 5, 6]) rfl ?_
 refine s_rn 2 F rfl rfl ?_; clear F a; intro a F
 refine bsplit F 20 rfl ?_ ?_
 clear F; intro hc0 F
 try rw [hc0] at F
 skip
 refine s_rn 5 F rfl rfl ?_; clear F a; intro a F
 refine t_endM M ?_; (clear M; try clear w); intro w M
 refine wp_ret ?_
 refine ret1 F rfl rfl ?_
 refine ⟨_, rfl, ?_, M.chg⟩
 congr 1
 clear M F
 unfold ASt.is
 simp_all
 clear F; intro hc1 F
 try rw [hc1] at F
 skip
 refine s_rn 5 F rfl rfl ?_; clear F a; intro a F
 refine t_endM M ?_; (clear M; try clear w); intro w M
 refine wp_ret ?_
 refine ret1 F rfl rfl ?_
 refine ⟨_, rfl, ?_, M.chg⟩
 congr 1
 clear M F
 unfold ASt.is
 simp_all
set_option maxRecDepth 100000 in
set_option maxHeartbeats 400000 in
theorem c116 (st : ASt) (W : st.Wf) (hpl : st.Ps.length ≤ 100000) (pv lv : Value) (w0 : World) (hrp : RdSl w0.heap pv st.Ps.length 5 (st.Ps.flatMap encW)) (hrl : RdSl w0.heap lv st.L.length 5 (st.L.flatMap encW)) : Cl Try.prog 116 #[aV st pv lv] w0 (RetQ w0 fun o => o = .tuple #[aV (decS st) pv lv, .bool st.decide1.isSome]) := by
 have M : Sep (fun _ => False) w0 w0 _ := Sep.nil _ w0
 have hrop := ro_of hrp
 obtain ⟨PA, PC, rfl, hpc⟩ := hrp.form
 have hrol := ro_of hrl
 obtain ⟨LA, LC, rfl, hlc⟩ := hrl.form
 refine enter (vs := [_]) Try.func116 rfl rfl rfl ?_
 intro a F
 refine wp_seq ?_
 refine wp_region_l [.wr, .wr, .ind] ([0, 1, 2]) rfl ?_
 refine s_bxA F M rfl rfl rfl rfl rfl ?_; (clear F a M; try clear w); intro b1 w M a F
 refine s_alc F M rfl rfl rfl rfl zr_53_R1 rfl ?_; (clear F a M; try clear w); intro b2 w M a F
 refine s_I F rfl rfl rfl rfl rfl rfl ?_; clear F a; intro a F
 refine t_endM M ?_; (clear M; try clear w); intro w M
 refine wp_seq ?_
 refine wp_seq ?_
 refine wp_region_l [.ind] ([0]) rfl ?_
 refine s_I F rfl rfl rfl rfl rfl rfl ?_; clear F a; intro a F
 refine t_endM M ?_; (clear M; try clear w); intro w M
 refine wp_block ?_
 refine loopX (X := (Int)) F [0, 1, 2] rfl (fun (r : Int) => (0 ≤ r) ∧ (r ≤ 64) ∧ (st.decide1 = decF st (64 - r.toNat) r.toNat)) (fun (r : Int) => [(4, .int .i64 r)]) (fun (r : Int) => []) (fun (r : Int) => (64 - r).toNat) (0) M ⟨(by omega), (by omega), rfl⟩ (F.keep [4, 0, 1, 2] rfl) ?_
 clear F M; clear a; (try clear w)
 rintro r a w ⟨r0, r1, hd⟩ F M; try dsimp only at F M
 try simp only [List.cons_append, List.nil_append] at F M
 try dsimp only at r0 r1 hd
 refine wp_seq ?_
 refine wp_seq ?_
 refine wp_region_l [.ind, .ind] ([0, 1]) rfl ?_
 refine s_rn 2 F rfl rfl ?_; clear F a; intro a F
 refine t_endM M ?_; (clear M; try clear w); intro w M
 refine c_if F rfl ?_ ?_
 clear F; intro hc0 F
 try rw [hc0] at F
 replace hc0 := of_decide_eq_true hc0
 refine wp_skip ?_
 refine wp_seq ?_
 refine wp_block ?_
 refine wp_seq ?_
 replace F := F.keep [0, 1, 2, 4] rfl
 refine wp_region_l [.rd, .ind, .wr, .ind, .ind, .ind, .wr, .wr, .ind] ([0, 1, 2, 3, 4, 5, 6, 7, 8]) rfl ?_
 refine s_lda F rfl rfl rfl rfl ag_53_R1 rfl rfl (cells_whole M.h1) ?_; clear F a; intro a F
 refine s_I F rfl rfl rfl rfl rfl rfl ?_; clear F a; intro a F
 refine s_cq F M rfl rfl rfl rfl rfl (rfl : _ = some [_, _]) cb_88_R1 (fun nd_ => c88 st W hpl _ _ r _ (M.chg.ro hrop)) ?_; (clear F a M; try clear w); rintro v w rfl M a F
 refine s_rn 3 F rfl rfl ?_; clear F a; intro a F
 refine s_alc F M rfl rfl rfl rfl zr_32_R1 rfl ?_; (clear F a M; try clear w); intro b5 w M a F
 refine s_stW F M rfl rfl rfl sz_32_R1 rfl rfl rfl rfl rfl ?_; (clear M; try clear w); intro w M
 refine s_I F rfl rfl rfl rfl rfl rfl ?_; clear F a; intro a F
 refine t_endM M ?_; (clear M; try clear w); intro w M
 refine wp_seq ?_
 replace F := F.keep [0, 1, 2, 4, 5, 6] rfl
 refine wp_region_l [.ind, .ind, .rd, .ind, .ind, .rd, .wr, .ind] ([0, 1, 2, 3, 4, 5, 6, 7]) rfl ?_
 refine s_rn 2 F rfl rfl ?_; clear F a; intro a F
 refine bsplit F 18 rfl ?_ ?_
 clear F; intro hc1 F
 try rw [hc1] at F
 replace hc1 := of_decide_eq_true hc1
 refine s_lda F rfl rfl rfl rfl ag_53_R1 rfl rfl (cells_whole M.h2) ?_; clear F a; intro a F
 refine s_I F rfl rfl rfl rfl rfl rfl ?_; clear F a; intro a F
 refine s_fa0 F rfl rfl rfl rfl fa_32_4_R1 rfl ?_; clear F a; intro a F
 refine s_ld F rfl rfl rfl rfl sc_9_R1 rfl (by exact cell_of_blk M.h0 (lit rfl)) ?_; clear F a; intro a F
 refine s_cq F M rfl rfl rfl rfl rfl (rfl : _ = some [_, _, _, _]) cb_117_R1 (fun nd_ => c117 st W.v.len _ _ 3 r (propL st.Ps r).value _ (M.chg.ro hrol)) ?_; (clear F a M; try clear w); rintro v w rfl M a F
 refine s_I F rfl rfl rfl rfl rfl rfl ?_; clear F a; intro a F
 refine t_endM M ?_; (clear M; try clear w); intro w M
 refine c_if F rfl ?_ ?_
 clear F; intro hc2 F
 try rw [hc2] at F
 skip
 refine wp_seq ?_
 replace F := F.keep [0, 1, 2, 4, 5, 6] rfl
 refine wp_region_l [.ind, .wr] ([0, 1]) rfl ?_
 refine s_fa0 F rfl rfl rfl rfl fa_53_12_R1 rfl ?_; clear F a; intro a F
 refine s_st F M.f2 rfl rfl rfl sz_4_R1 rfl rfl rfl (by exact Nat.le_of_ble_eq_true rfl) ?_; (clear M; try clear w); intro w M
 refine t_endM M ?_; (clear M; try clear w); intro w M
 refine wp_seq ?_
 replace F := F.keep [0, 1, 2, 4, 5, 6] rfl
 refine wp_region_l [.ind, .rd, .ind, .wr] ([0, 1, 2, 3]) rfl ?_
 refine s_fa0 F rfl rfl rfl rfl fa_32_4_R1 rfl ?_; clear F a; intro a F
 refine s_ld F rfl rfl rfl rfl sc_9_R1 rfl (by exact cell_of_blk M.h1 (lit rfl)) ?_; clear F a; intro a F
 refine s_fa0 F rfl rfl rfl rfl fa_53_13_R1 rfl ?_; clear F a; intro a F
 refine s_st F M rfl rfl rfl sz_9_R1 rfl rfl rfl (by exact Nat.le_of_ble_eq_true rfl) ?_; (clear M; try clear w); intro w M
 refine t_endM M ?_; (clear M; try clear w); intro w M
 refine wp_seq ?_
 replace F := F.keep [0, 1, 2, 4, 5, 6] rfl
 refine wp_region_l [.rd, .wr, .ind] ([0, 1, 2]) rfl ?_
 refine s_lda F rfl rfl rfl rfl ag_53_R1 rfl rfl (cells_whole M.h0) ?_; clear F a; intro a F
 refine s_stW F M.f2 rfl rfl rfl sz_53_R1 rfl rfl rfl rfl rfl ?_; (clear M; try clear w); intro w M
 refine s_I F rfl rfl rfl rfl rfl rfl ?_; clear F a; intro a F
 refine t_endM M ?_; (clear M; try clear w); intro w M
 refine wp_ret ?_
 refine rt2 F rfl (by exact rv_a F rfl ag_53_R1 rfl (cells_whole M.h0)) (rv_t F rfl) ?_
 have er : ((r.toNat : Nat) : Int) = r := by omega
 have hy : st.decOk (r.toNat : Int) = true := by
   rw [er]; clear M F hd; unfold ASt.decOk; simp_all
 have hv : st.decide1 = some (propL st.Ps r).value := by rw [hd, show 64 - r.toNat = (63 - r.toNat) + 1 by omega, decF_hit hy, er]
 refine ⟨_, rfl, ?_, M.chg⟩
 rw [decS_some hv, hv]
 rfl
 clear F; intro hc3 F
 try rw [hc3] at F
 skip
 refine wp_skip ?_
 replace F := F.keep [0, 1, 2, 4, 5, 6] rfl
 refine wp_region_l [.ind, .ind, .ind] ([0, 1, 2]) rfl ?_
 refine s_I F rfl rfl rfl rfl rfl rfl ?_; clear F a; intro a F
 refine s_add F rfl rfl rfl rfl rfl rfl (by unfold In64; omega) ?_; clear F a; intro a F
 refine s_I F rfl rfl rfl rfl rfl rfl ?_; clear F a; intro a F
 refine t_endM M ?_; (clear M; try clear w); intro w M
 refine again (r + 1) (by show _ < _; (try dsimp only); omega) ⟨(by omega), (by assumption), (dec_go r0 (by omega) hd (by clear hd F M; simp_all))⟩ (F.keep [4, 0, 1, 2] rfl) ?_
 try dsimp only [List.cons_append, List.nil_append]
 refine M.pick ?_; repeat (first | exact PkG.nil | refine PkG.cons 1 rfl rfl ?_ | refine PkG.cons 2 rfl rfl ?_)
 clear F; intro hc4 F
 try rw [hc4] at F
 replace hc4 := of_decide_eq_false hc4
 refine s_rn 6 F rfl rfl ?_; clear F a; intro a F
 refine t_endM M ?_; (clear M; try clear w); intro w M
 refine c_f F rfl ?_
 refine wp_skip ?_
 replace F := F.keep [0, 1, 2, 4, 5, 6] rfl
 refine wp_region_l [.ind, .ind, .ind] ([0, 1, 2]) rfl ?_
 refine s_I F rfl rfl rfl rfl rfl rfl ?_; clear F a; intro a F
 refine s_add F rfl rfl rfl rfl rfl rfl (by unfold In64; omega) ?_; clear F a; intro a F
 refine s_I F rfl rfl rfl rfl rfl rfl ?_; clear F a; intro a F
 refine t_endM M ?_; (clear M; try clear w); intro w M
 refine again (r + 1) (by show _ < _; (try dsimp only); omega) ⟨(by omega), (by assumption), (dec_go r0 (by omega) hd (by clear hd F M; simp_all))⟩ (F.keep [4, 0, 1, 2] rfl) ?_
 try dsimp only [List.cons_append, List.nil_append]
 refine M.pick ?_; repeat (first | exact PkG.nil | refine PkG.cons 1 rfl rfl ?_ | refine PkG.cons 2 rfl rfl ?_)
 clear F; intro hc5 F
 try rw [hc5] at F
 replace hc5 := of_decide_eq_false hc5
 refine wp_exit ?_
 refine wp_seq ?_
 replace F := F.keep [0, 1, 2, 4] rfl
 refine wp_region_l [.rd, .wr, .ind] ([0, 1, 2]) rfl ?_
 refine s_lda F rfl rfl rfl rfl ag_53_R1 rfl rfl (cells_whole M.h1) ?_; clear F a; intro a F
 refine s_stW F M rfl rfl rfl sz_53_R1 rfl rfl rfl rfl rfl ?_; (clear M; try clear w); intro w M
 refine s_I F rfl rfl rfl rfl rfl rfl ?_; clear F a; intro a F
 refine t_endM M ?_; (clear M; try clear w); intro w M
 refine wp_ret ?_
 refine rt2 F rfl (by exact rv_a F rfl ag_53_R1 rfl (cells_whole M.h0)) (rv_t F rfl) ?_
 have hv : st.decide1 = none := by rw [hd, show 64 - r.toNat = 0 by omega]; rfl
 refine ⟨_, rfl, ?_, M.chg⟩
 rw [decS_none hv, hv]
 rfl
set_option maxRecDepth 100000 in
set_option maxHeartbeats 400000 in
theorem c87 (st : ASt) (W : st.Wf) {PA LA : Option Addr} {pn pc ln lc : Nat} (s : Int) (w0 : World) : Cl Try.prog 87 #[aV st (.slice PA pn pc) (.slice LA ln lc), .int .i64 s] w0 (RetS [] w0 (fun o (x : Value) => o = .tuple #[aV (st.timeout s).1 (.slice PA pn pc) (.slice LA ln lc), x]) fun x => [wsR x (st.timeout s).2]) := by
 have hr0 := W.r0
 have hr1 := W.r1
 have M : Sep (fun b => b ∈ foots ([] : List Res)) w0 w0 _ := Sep.nil _ w0
 refine enter (vs := [_, _]) Try.func87 rfl rfl rfl ?_
 intro a F
 refine wp_seq ?_
 refine wp_region_l [.wr, .wr, .ind] ([0, 1, 2]) rfl ?_
 refine s_bxA F M rfl rfl rfl rfl rfl ?_; (clear F a M; try clear w); intro b2 w M a F
 refine s_alc F M rfl rfl rfl rfl zr_53_R1 rfl ?_; (clear F a M; try clear w); intro b4 w M a F
 refine s_I F rfl rfl rfl rfl rfl rfl ?_; clear F a; intro a F
 refine t_endM M ?_; (clear M; try clear w); intro w M
 refine wp_seq ?_
 refine wp_block ?_
 refine wp_seq ?_
 refine wp_region_l [.ind, .ind, .ind, .ind, .rd, .ind, .ind, .ind, .ind] ([0, 1, 2, 3, 4, 5, 6, 7, 8]) rfl ?_
 refine s_rn 3 F rfl rfl ?_; clear F a; intro a F
 refine bsplit F 9 rfl ?_ ?_
 clear F; intro hc0 F
 try rw [hc0] at F
 replace hc0 := of_decide_eq_true hc0
 refine s_fa0 F rfl rfl rfl rfl fa_53_4_R1 rfl ?_; clear F a; intro a F
 refine s_ld F rfl rfl rfl rfl sc_3_R1 rfl (by exact cell_of_blk M.h1 (lit rfl)) ?_; clear F a; intro a F
 refine s_rn 4 F rfl rfl ?_; clear F a; intro a F
 refine t_endM M ?_; (clear M; try clear w); intro w M
 refine c_if F rfl ?_ ?_
 clear F; intro hc1 F
 try rw [hc1] at F
 replace hc1 := of_decide_eq_true hc1
 refine wp_seq ?_
 replace F := F.keep [0, 1, 2, 4, 5] rfl
 refine wp_region_l [.rd, .wr, .ind, .ind, .wr, .ind] ([0, 1, 2, 3, 4, 5]) rfl ?_
 refine s_lda F rfl rfl rfl rfl ag_53_R1 rfl rfl (cells_whole M.h1) ?_; clear F a; intro a F
 refine s_call (m := []) F M rfl rfl rfl rfl rfl (rfl : _ = some [_, _, _]) cb_115_R1 (fun nd_ => c115 st 2 VoteM.empty _) ?_; (clear F a M; try clear w); rintro v x w rfl M a F; (try simp only [List.cons_append, List.nil_append] at M)
 refine s_rn 2 F rfl rfl ?_; clear F a; intro a F
 refine s_stW F M.f1 rfl rfl rfl sz_53_R1 rfl rfl rfl rfl rfl ?_; (clear M; try clear w); intro w M
 refine s_I F rfl rfl rfl rfl rfl rfl ?_; clear F a; intro a F
 refine t_endM M ?_; (clear M; try clear w); intro w M
 refine wp_ret ?_
 refine rt2 F rfl (by exact rv_a F rfl ag_53_R1 rfl (cells_whole M.h0)) (rv_t F rfl) ?_
 rw [tm1 (by assumption) (by assumption)]
 refine ⟨_, x, rfl, rfl, ?_⟩
 have M1 : Sep _ _ _ (slR _ _ _ _ _ :: _) := M.f1; replace M := M1; clear M1
 exact Sep.left (m := [_]) M
 clear F; intro hc2 F
 try rw [hc2] at F
 replace hc2 := of_decide_eq_false hc2
 refine wp_seq ?_
 replace F := F.keep [0, 1, 2, 4, 5] rfl
 refine wp_region_l [.ind, .ind, .ind, .ind, .rd, .ind, .ind, .ind, .ind] ([0, 1, 2, 3, 4, 5, 6, 7, 8]) rfl ?_
 refine s_rn 3 F rfl rfl ?_; clear F a; intro a F
 refine bsplit F 22 rfl ?_ ?_
 clear F; intro hc3 F
 try rw [hc3] at F
 replace hc3 := of_decide_eq_true hc3
 refine s_fa0 F rfl rfl rfl rfl fa_53_4_R1 rfl ?_; clear F a; intro a F
 refine s_ld F rfl rfl rfl rfl sc_3_R1 rfl (by exact cell_of_blk M.h1 (lit rfl)) ?_; clear F a; intro a F
 refine s_rn 4 F rfl rfl ?_; clear F a; intro a F
 refine t_endM M ?_; (clear M; try clear w); intro w M
 refine c_if F rfl ?_ ?_
 clear F; intro hc4 F
 try rw [hc4] at F
 replace hc4 := of_decide_eq_true hc4
 refine wp_seq ?_
 replace F := F.keep [0, 1, 2, 4, 5] rfl
 refine wp_region_l [.rd, .wr, .ind, .ind, .wr, .ind] ([0, 1, 2, 3, 4, 5]) rfl ?_
 refine s_lda F rfl rfl rfl rfl ag_53_R1 rfl rfl (cells_whole M.h1) ?_; clear F a; intro a F
 refine s_call (m := []) F M rfl rfl rfl rfl rfl (rfl : _ = some [_, _, _]) cb_115_R1 (fun nd_ => c115 st 3 VoteM.empty _) ?_; (clear F a M; try clear w); rintro v x w rfl M a F; (try simp only [List.cons_append, List.nil_append] at M)
 refine s_rn 2 F rfl rfl ?_; clear F a; intro a F
 refine s_stW F M.f1 rfl rfl rfl sz_53_R1 rfl rfl rfl rfl rfl ?_; (clear M; try clear w); intro w M
 refine s_I F rfl rfl rfl rfl rfl rfl ?_; clear F a; intro a F
 refine t_endM M ?_; (clear M; try clear w); intro w M
 refine wp_ret ?_
 refine rt2 F rfl (by exact rv_a F rfl ag_53_R1 rfl (cells_whole M.h0)) (rv_t F rfl) ?_
 rw [tm2 (by assumption) (by assumption)]
 refine ⟨_, x, rfl, rfl, ?_⟩
 have M1 : Sep _ _ _ (slR _ _ _ _ _ :: _) := M.f1; replace M := M1; clear M1
 exact Sep.left (m := [_]) M
 clear F; intro hc5 F
 try rw [hc5] at F
 replace hc5 := of_decide_eq_false hc5
 refine wp_seq ?_
 replace F := F.keep [0, 1, 2, 4, 5] rfl
 refine wp_region_l [.ind, .ind, .ind] ([0, 1, 2]) rfl ?_
 refine s_rn 3 F rfl rfl ?_; clear F a; intro a F
 refine t_endM M ?_; (clear M; try clear w); intro w M
 refine c_if F rfl ?_ ?_
 clear F; intro hc6 F
 try rw [hc6] at F
 replace hc6 := of_decide_eq_true hc6
 refine wp_seq ?_
 replace F := F.keep [0, 1, 2, 4, 5] rfl
 refine wp_region_l [.rd, .ind, .rd, .ind, .wr, .ind, .ind, .wr, .ind] ([0, 1, 2, 3, 4, 5, 6, 7, 8]) rfl ?_
 refine s_lda F rfl rfl rfl rfl ag_53_R1 rfl rfl (cells_whole M.h1) ?_; clear F a; intro a F
 refine s_fa0 F rfl rfl rfl rfl fa_53_3_R1 rfl ?_; clear F a; intro a F
 refine s_ld F rfl rfl rfl rfl sc_3_R1 rfl (by exact cell_of_blk M.h1 (lit rfl)) ?_; clear F a; intro a F
 refine s_add F rfl rfl rfl rfl rfl rfl (by unfold In64; omega) ?_; clear F a; intro a F
 refine s_call (m := []) F M rfl rfl rfl rfl rfl (rfl : _ = some [_, _]) cb_84_R1 (fun nd_ => c84 st (st.round + 1) _) ?_; (clear F a M; try clear w); rintro v x w rfl M a F; (try simp only [List.cons_append, List.nil_append] at M)
 refine s_rn 2 F rfl rfl ?_; clear F a; intro a F
 refine s_stW F M.f1 rfl rfl rfl sz_53_R1 rfl rfl rfl rfl rfl ?_; (clear M; try clear w); intro w M
 refine s_I F rfl rfl rfl rfl rfl rfl ?_; clear F a; intro a F
 refine t_endM M ?_; (clear M; try clear w); intro w M
 refine wp_ret ?_
 refine rt2 F rfl (by exact rv_a F rfl ag_53_R1 rfl (cells_whole M.h0)) (rv_t F rfl) ?_
 rw [tm3 (by assumption)]
 refine ⟨_, x, rfl, rfl, ?_⟩
 have M1 : Sep _ _ _ (slR _ _ _ _ _ :: _) := M.f1; replace M := M1; clear M1
 exact Sep.left (m := [_]) M
 clear F; intro hc7 F
 try rw [hc7] at F
 replace hc7 := of_decide_eq_false hc7
 refine wp_skip ?_
 refine wp_seq ?_
 replace F := F.keep [0, 1, 2, 4, 5] rfl
 refine wp_region_l [.rd, .wr, .ind] ([0, 1, 2]) rfl ?_
 refine s_lda F rfl rfl rfl rfl ag_53_R1 rfl rfl (cells_whole M.h1) ?_; clear F a; intro a F
 refine s_stW F M rfl rfl rfl sz_53_R1 rfl rfl rfl rfl rfl ?_; (clear M; try clear w); intro w M
 refine s_I F rfl rfl rfl rfl rfl rfl ?_; clear F a; intro a F
 refine t_endM M ?_; (clear M; try clear w); intro w M
 refine wp_ret ?_
 refine rt2 F rfl (by exact rv_a F rfl ag_53_R1 rfl (cells_whole M.h0)) (rv_t F rfl) ?_
 rw [tm0 (by assumption) (by omega) (by omega)]
 refine ⟨_, .slice none 0 0, rfl, rfl, ?_⟩
 replace M := M.nilT encW 32 5
 exact Sep.left (m := [_]) M
 clear F; intro hc8 F
 try rw [hc8] at F
 replace hc8 := of_decide_eq_false hc8
 refine s_rn 6 F rfl rfl ?_; clear F a; intro a F
 refine t_endM M ?_; (clear M; try clear w); intro w M
 refine c_f F rfl ?_
 refine wp_seq ?_
 replace F := F.keep [0, 1, 2, 4, 5] rfl
 refine wp_region_l [.ind, .ind, .ind] ([0, 1, 2]) rfl ?_
 refine s_rn 3 F rfl rfl ?_; clear F a; intro a F
 refine t_endM M ?_; (clear M; try clear w); intro w M
 refine c_if F rfl ?_ ?_
 clear F; intro hc9 F
 try rw [hc9] at F
 replace hc9 := of_decide_eq_true hc9
 refine wp_seq ?_
 replace F := F.keep [0, 1, 2, 4, 5] rfl
 refine wp_region_l [.rd, .ind, .rd, .ind, .wr, .ind, .ind, .wr, .ind] ([0, 1, 2, 3, 4, 5, 6, 7, 8]) rfl ?_
 refine s_lda F rfl rfl rfl rfl ag_53_R1 rfl rfl (cells_whole M.h1) ?_; clear F a; intro a F
 refine s_fa0 F rfl rfl rfl rfl fa_53_3_R1 rfl ?_; clear F a; intro a F
 refine s_ld F rfl rfl rfl rfl sc_3_R1 rfl (by exact cell_of_blk M.h1 (lit rfl)) ?_; clear F a; intro a F
 refine s_add F rfl rfl rfl rfl rfl rfl (by unfold In64; omega) ?_; clear F a; intro a F
 refine s_call (m := []) F M rfl rfl rfl rfl rfl (rfl : _ = some [_, _]) cb_84_R1 (fun nd_ => c84 st (st.round + 1) _) ?_; (clear F a M; try clear w); rintro v x w rfl M a F; (try simp only [List.cons_append, List.nil_append] at M)
 refine s_rn 2 F rfl rfl ?_; clear F a; intro a F
 refine s_stW F M.f1 rfl rfl rfl sz_53_R1 rfl rfl rfl rfl rfl ?_; (clear M; try clear w); intro w M
 refine s_I F rfl rfl rfl rfl rfl rfl ?_; clear F a; intro a F
 refine t_endM M ?_; (clear M; try clear w); intro w M
 refine wp_ret ?_
 refine rt2 F rfl (by exact rv_a F rfl ag_53_R1 rfl (cells_whole M.h0)) (rv_t F rfl) ?_
 rw [tm3 (by assumption)]
 refine ⟨_, x, rfl, rfl, ?_⟩
 have M1 : Sep _ _ _ (slR _ _ _ _ _ :: _) := M.f1; replace M := M1; clear M1
 exact Sep.left (m := [_]) M
 clear F; intro hc10 F
 try rw [hc10] at F
 replace hc10 := of_decide_eq_false hc10
 refine wp_skip ?_
 refine wp_seq ?_
 replace F := F.keep [0, 1, 2, 4, 5] rfl
 refine wp_region_l [.rd, .wr, .ind] ([0, 1, 2]) rfl ?_
 refine s_lda F rfl rfl rfl rfl ag_53_R1 rfl rfl (cells_whole M.h1) ?_; clear F a; intro a F
 refine s_stW F M rfl rfl rfl sz_53_R1 rfl rfl rfl rfl rfl ?_; (clear M; try clear w); intro w M
 refine s_I F rfl rfl rfl rfl rfl rfl ?_; clear F a; intro a F
 refine t_endM M ?_; (clear M; try clear w); intro w M
 refine wp_ret ?_
 refine rt2 F rfl (by exact rv_a F rfl ag_53_R1 rfl (cells_whole M.h0)) (rv_t F rfl) ?_
 rw [tm0 (by assumption) (by omega) (by omega)]
 refine ⟨_, .slice none 0 0, rfl, rfl, ?_⟩
 replace M := M.nilT encW 32 5
 exact Sep.left (m := [_]) M
 clear F; intro hc11 F
 try rw [hc11] at F
 replace hc11 := of_decide_eq_false hc11
 refine s_rn 6 F rfl rfl ?_; clear F a; intro a F
 refine t_endM M ?_; (clear M; try clear w); intro w M
 refine c_f F rfl ?_
 refine wp_seq ?_
 replace F := F.keep [0, 1, 2, 4, 5] rfl
 refine wp_region_l [.ind, .ind, .ind, .ind, .rd, .ind, .ind, .ind, .ind] ([0, 1, 2, 3, 4, 5, 6, 7, 8]) rfl ?_
 refine s_rn 3 F rfl rfl ?_; clear F a; intro a F
 refine bsplit F 22 rfl ?_ ?_
 clear F; intro hc12 F
 try rw [hc12] at F
 replace hc12 := of_decide_eq_true hc12
 refine s_fa0 F rfl rfl rfl rfl fa_53_4_R1 rfl ?_; clear F a; intro a F
 refine s_ld F rfl rfl rfl rfl sc_3_R1 rfl (by exact cell_of_blk M.h1 (lit rfl)) ?_; clear F a; intro a F
 refine s_rn 4 F rfl rfl ?_; clear F a; intro a F
 refine t_endM M ?_; (clear M; try clear w); intro w M
 refine c_if F rfl ?_ ?_
 clear F; intro hc13 F
 try rw [hc13] at F
 replace hc13 := of_decide_eq_true hc13
 refine wp_seq ?_
 replace F := F.keep [0, 1, 2, 4, 5] rfl
 refine wp_region_l [.rd, .wr, .ind, .ind, .wr, .ind] ([0, 1, 2, 3, 4, 5]) rfl ?_
 refine s_lda F rfl rfl rfl rfl ag_53_R1 rfl rfl (cells_whole M.h1) ?_; clear F a; intro a F
 refine s_call (m := []) F M rfl rfl rfl rfl rfl (rfl : _ = some [_, _, _]) cb_115_R1 (fun nd_ => c115 st 3 VoteM.empty _) ?_; (clear F a M; try clear w); rintro v x w rfl M a F; (try simp only [List.cons_append, List.nil_append] at M)
 refine s_rn 2 F rfl rfl ?_; clear F a; intro a F
 refine s_stW F M.f1 rfl rfl rfl sz_53_R1 rfl rfl rfl rfl rfl ?_; (clear M; try clear w); intro w M
 refine s_I F rfl rfl rfl rfl rfl rfl ?_; clear F a; intro a F
 refine t_endM M ?_; (clear M; try clear w); intro w M
 refine wp_ret ?_
 refine rt2 F rfl (by exact rv_a F rfl ag_53_R1 rfl (cells_whole M.h0)) (rv_t F rfl) ?_
 rw [tm2 (by assumption) (by assumption)]
 refine ⟨_, x, rfl, rfl, ?_⟩
 have M1 : Sep _ _ _ (slR _ _ _ _ _ :: _) := M.f1; replace M := M1; clear M1
 exact Sep.left (m := [_]) M
 clear F; intro hc14 F
 try rw [hc14] at F
 replace hc14 := of_decide_eq_false hc14
 refine wp_seq ?_
 replace F := F.keep [0, 1, 2, 4, 5] rfl
 refine wp_region_l [.ind, .ind, .ind] ([0, 1, 2]) rfl ?_
 refine s_rn 3 F rfl rfl ?_; clear F a; intro a F
 refine t_endM M ?_; (clear M; try clear w); intro w M
 refine c_if F rfl ?_ ?_
 clear F; intro hc15 F
 try rw [hc15] at F
 replace hc15 := of_decide_eq_true hc15
 refine wp_seq ?_
 replace F := F.keep [0, 1, 2, 4, 5] rfl
 refine wp_region_l [.rd, .ind, .rd, .ind, .wr, .ind, .ind, .wr, .ind] ([0, 1, 2, 3, 4, 5, 6, 7, 8]) rfl ?_
 refine s_lda F rfl rfl rfl rfl ag_53_R1 rfl rfl (cells_whole M.h1) ?_; clear F a; intro a F
 refine s_fa0 F rfl rfl rfl rfl fa_53_3_R1 rfl ?_; clear F a; intro a F
 refine s_ld F rfl rfl rfl rfl sc_3_R1 rfl (by exact cell_of_blk M.h1 (lit rfl)) ?_; clear F a; intro a F
 refine s_add F rfl rfl rfl rfl rfl rfl (by unfold In64; omega) ?_; clear F a; intro a F
 refine s_call (m := []) F M rfl rfl rfl rfl rfl (rfl : _ = some [_, _]) cb_84_R1 (fun nd_ => c84 st (st.round + 1) _) ?_; (clear F a M; try clear w); rintro v x w rfl M a F; (try simp only [List.cons_append, List.nil_append] at M)
 refine s_rn 2 F rfl rfl ?_; clear F a; intro a F
 refine s_stW F M.f1 rfl rfl rfl sz_53_R1 rfl rfl rfl rfl rfl ?_; (clear M; try clear w); intro w M
 refine s_I F rfl rfl rfl rfl rfl rfl ?_; clear F a; intro a F
 refine t_endM M ?_; (clear M; try clear w); intro w M
 refine wp_ret ?_
 refine rt2 F rfl (by exact rv_a F rfl ag_53_R1 rfl (cells_whole M.h0)) (rv_t F rfl) ?_
 rw [tm3 (by assumption)]
 refine ⟨_, x, rfl, rfl, ?_⟩
 have M1 : Sep _ _ _ (slR _ _ _ _ _ :: _) := M.f1; replace M := M1; clear M1
 exact Sep.left (m := [_]) M
 clear F; intro hc16 F
 try rw [hc16] at F
 replace hc16 := of_decide_eq_false hc16
 refine wp_skip ?_
 refine wp_seq ?_
 replace F := F.keep [0, 1, 2, 4, 5] rfl
 refine wp_region_l [.rd, .wr, .ind] ([0, 1, 2]) rfl ?_
 refine s_lda F rfl rfl rfl rfl ag_53_R1 rfl rfl (cells_whole M.h1) ?_; clear F a; intro a F
 refine s_stW F M rfl rfl rfl sz_53_R1 rfl rfl rfl rfl rfl ?_; (clear M; try clear w); intro w M
 refine s_I F rfl rfl rfl rfl rfl rfl ?_; clear F a; intro a F
 refine t_endM M ?_; (clear M; try clear w); intro w M
 refine wp_ret ?_
 refine rt2 F rfl (by exact rv_a F rfl ag_53_R1 rfl (cells_whole M.h0)) (rv_t F rfl) ?_
 rw [tm0 (by assumption) (by omega) (by omega)]
 refine ⟨_, .slice none 0 0, rfl, rfl, ?_⟩
 replace M := M.nilT encW 32 5
 exact Sep.left (m := [_]) M
 clear F; intro hc17 F
 try rw [hc17] at F
 replace hc17 := of_decide_eq_false hc17
 refine s_rn 6 F rfl rfl ?_; clear F a; intro a F
 refine t_endM M ?_; (clear M; try clear w); intro w M
 refine c_f F rfl ?_
 refine wp_seq ?_
 replace F := F.keep [0, 1, 2, 4, 5] rfl
 refine wp_region_l [.ind, .ind, .ind] ([0, 1, 2]) rfl ?_
 refine s_rn 3 F rfl rfl ?_; clear F a; intro a F
 refine t_endM M ?_; (clear M; try clear w); intro w M
 refine c_if F rfl ?_ ?_
 clear F; intro hc18 F
 try rw [hc18] at F
 replace hc18 := of_decide_eq_true hc18
 refine wp_seq ?_
 replace F := F.keep [0, 1, 2, 4, 5] rfl
 refine wp_region_l [.rd, .ind, .rd, .ind, .wr, .ind, .ind, .wr, .ind] ([0, 1, 2, 3, 4, 5, 6, 7, 8]) rfl ?_
 refine s_lda F rfl rfl rfl rfl ag_53_R1 rfl rfl (cells_whole M.h1) ?_; clear F a; intro a F
 refine s_fa0 F rfl rfl rfl rfl fa_53_3_R1 rfl ?_; clear F a; intro a F
 refine s_ld F rfl rfl rfl rfl sc_3_R1 rfl (by exact cell_of_blk M.h1 (lit rfl)) ?_; clear F a; intro a F
 refine s_add F rfl rfl rfl rfl rfl rfl (by unfold In64; omega) ?_; clear F a; intro a F
 refine s_call (m := []) F M rfl rfl rfl rfl rfl (rfl : _ = some [_, _]) cb_84_R1 (fun nd_ => c84 st (st.round + 1) _) ?_; (clear F a M; try clear w); rintro v x w rfl M a F; (try simp only [List.cons_append, List.nil_append] at M)
 refine s_rn 2 F rfl rfl ?_; clear F a; intro a F
 refine s_stW F M.f1 rfl rfl rfl sz_53_R1 rfl rfl rfl rfl rfl ?_; (clear M; try clear w); intro w M
 refine s_I F rfl rfl rfl rfl rfl rfl ?_; clear F a; intro a F
 refine t_endM M ?_; (clear M; try clear w); intro w M
 refine wp_ret ?_
 refine rt2 F rfl (by exact rv_a F rfl ag_53_R1 rfl (cells_whole M.h0)) (rv_t F rfl) ?_
 rw [tm3 (by assumption)]
 refine ⟨_, x, rfl, rfl, ?_⟩
 have M1 : Sep _ _ _ (slR _ _ _ _ _ :: _) := M.f1; replace M := M1; clear M1
 exact Sep.left (m := [_]) M
 clear F; intro hc19 F
 try rw [hc19] at F
 replace hc19 := of_decide_eq_false hc19
 refine wp_skip ?_
 refine wp_seq ?_
 replace F := F.keep [0, 1, 2, 4, 5] rfl
 refine wp_region_l [.rd, .wr, .ind] ([0, 1, 2]) rfl ?_
 refine s_lda F rfl rfl rfl rfl ag_53_R1 rfl rfl (cells_whole M.h1) ?_; clear F a; intro a F
 refine s_stW F M rfl rfl rfl sz_53_R1 rfl rfl rfl rfl rfl ?_; (clear M; try clear w); intro w M
 refine s_I F rfl rfl rfl rfl rfl rfl ?_; clear F a; intro a F
 refine t_endM M ?_; (clear M; try clear w); intro w M
 refine wp_ret ?_
 refine rt2 F rfl (by exact rv_a F rfl ag_53_R1 rfl (cells_whole M.h0)) (rv_t F rfl) ?_
 rw [tm0 (by assumption) (by omega) (by omega)]
 refine ⟨_, .slice none 0 0, rfl, rfl, ?_⟩
 replace M := M.nilT encW 32 5
 exact Sep.left (m := [_]) M
end Go.Proofs.Ytboibdmflblphaa
