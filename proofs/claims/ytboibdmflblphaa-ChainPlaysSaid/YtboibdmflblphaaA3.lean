/- A3 of the seat. -/
import Derived.Test.YtboibdmflblphaaA2
namespace Go.Proofs.Ytboibdmflblphaa
open Go Fw
theorem arE_139_A3 : arrE Try.prog 139 = some (64, 32, 5) := by kernel_rfl
theorem fa_144_8_A3 : FA Try.prog 144 8 10 := fun _ _ _ => by kernel_rfl
theorem ag_139_A3 : aggB Try.prog 139 = some 320 := by kernel_rfl
theorem zr_32_A3 : zeroB Try.prog 32 = some (.agg #[.int .i64 0, .int .i64 0, .int .i64 0, .int .i64 0, .string { data := #[] }]) := by kernel_rfl
theorem sz_32_A3 : sizeB Try.prog 32 = some 5 := by kernel_rfl
theorem fa_32_4_A3 : FA Try.prog 32 4 4 := fun _ _ _ => by kernel_rfl
theorem sc_9_A3 : scalB Try.prog 9 = true := by kernel_rfl
theorem cb_113_A3 : callB Try.prog 113 = true := by kernel_rfl
theorem fa_144_11_A3 : FA Try.prog 144 11 332 := fun _ _ _ => by kernel_rfl
theorem sz_4_A3 : sizeB Try.prog 4 = some 1 := by kernel_rfl
theorem fa_144_12_A3 : FA Try.prog 144 12 333 := fun _ _ _ => by kernel_rfl
theorem sz_9_A3 : sizeB Try.prog 9 = some 1 := by kernel_rfl
theorem fa_144_5_A3 : FA Try.prog 144 5 5 := fun _ _ _ => by kernel_rfl
theorem sc_3_A3 : scalB Try.prog 3 = true := by kernel_rfl
theorem fa_32_3_A3 : FA Try.prog 32 3 3 := fun _ _ _ => by kernel_rfl
theorem fa_144_6_A3 : FA Try.prog 144 6 6 := fun _ _ _ => by kernel_rfl
theorem fa_138_1_A3 : FA Try.prog 138 1 1 := fun _ _ _ => by kernel_rfl
theorem fa_138_0_A3 : FA Try.prog 138 0 0 := fun _ _ _ => by kernel_rfl
theorem cb_114_A3 : callB Try.prog 114 = true := by kernel_rfl
open VoteM AgrM

theorem decF_none {a : ASt} : ∀ (k s : Nat), (∀ q : Nat, s ≤ q → q < s + k → a.decOk q = false) → decF a k s = none
 | 0, _, _ => rfl
 | k + 1, s, h => by
   simp only [decF]
   rw [if_neg (by rw [h s (Nat.le_refl _) (by omega)]; simp)]
   exact decF_none k (s + 1) fun q h1 h2 => h q (by omega) (by omega)
theorem decF_some {a : ASt} {r : Nat} (hr : a.decOk r = true) : ∀ (k s : Nat), s ≤ r → r < s + k → (∀ q : Nat, s ≤ q → q < r → a.decOk q = false) → decF a k s = some (propL a.Ps r).value
 | 0, s, h1, h2, _ => by omega
 | k + 1, s, h1, h2, h => by
   simp only [decF]
   by_cases e : s = r
   · subst e; rw [if_pos hr]
   · rw [if_neg (by rw [h s (Nat.le_refl _) (by omega)]; simp)]
     exact decF_some hr k (s + 1) (by omega) (by omega) fun q g1 g2 => h q (by omega) g2
theorem dec_none {a : ASt} {r : Int} (h : ∀ q : Int, 0 ≤ q → q < r → a.decOk q = false) (hr : 64 ≤ r) : a.decide1 = none := decF_none 64 0 fun q _ h2 => h q (by omega) (by omega)
theorem dec_some {a : ASt} {r : Int} (h0 : 0 ≤ r) (h1 : r < 64) (h : ∀ q : Int, 0 ≤ q → q < r → a.decOk q = false) (hr : a.decOk r = true) : a.decide1 = some (propL a.Ps r).value := by
 obtain ⟨m, rfl⟩ : ∃ m : Nat, r = m := ⟨r.toNat, by omega⟩
 exact decF_some hr 64 0 (by omega) (by omega) fun q _ g2 => h q (by omega) (by omega)
theorem dec_no1 {a : ASt} {r : Int} (h : (propL a.Ps r).value = VoteM.empty) : a.decOk r = false := by unfold ASt.decOk; rw [decide_eq_false (fun h' => h' h), Bool.false_and]
theorem dec_no2 {a : ASt} {r : Int} (h : a.is 3 r (propL a.Ps r).value = false) : a.decOk r = false := by unfold ASt.decOk; rw [h, Bool.and_false]
theorem dec_yes {a : ASt} {r : Int} (h1 : ¬ (propL a.Ps r).value = VoteM.empty) (h : a.is 3 r (propL a.Ps r).value = true) : a.decOk r = true := by unfold ASt.decOk; rw [decide_eq_true h1, h]; rfl
theorem no_next {P : Int → Prop} {r : Int} (h : ∀ q : Int, 0 ≤ q → q < r → P q) (hr : P r) : ∀ q : Int, 0 ≤ q → q < r + 1 → P q := fun q h0 h1 => by
 by_cases e : q = r
 · subst e; exact hr
 · exact h q h0 (by omega)
def _root_.Go.Proofs.Ytboibdmflblphaa.AgrM.ASt.decd (a : ASt) (v : ByteArray) : ASt := { a with done := true, dec := v }
def _root_.Go.Proofs.Ytboibdmflblphaa.AgrM.ASt.dec1 (a : ASt) : ASt := match a.decide1 with
 | some v => a.decd v
 | none => a
theorem dec1_some {a : ASt} {v : ByteArray} (h : a.decide1 = some v) : a.dec1 = a.decd v := by unfold ASt.dec1; rw [h]
theorem dec1_none {a : ASt} (h : a.decide1 = none) : a.dec1 = a := by unfold ASt.dec1; rw [h]
theorem aF_decd (a : ASt) (vb : Nat) (mu : Value) (v : ByteArray) : upd (upd (aF a vb mu) 332 (.bool true)) 333 (.string v) = aF (a.decd v) vb mu := by
 rw [aF_done, aF_dec]
 rfl
def _root_.Go.Proofs.Ytboibdmflblphaa.AgrM.ASt.mark (a : ASt) : ASt := { a with seen := true, val := a.now.value, valR := a.round }
def _root_.Go.Proofs.Ytboibdmflblphaa.AgrM.ASt.mark2 (a : ASt) : ASt := { a.mark with lock := a.now.value, lockR := a.round }
theorem aF_mark (a : ASt) (vb : Nat) (mu : Value) : setCells (cellsF 335 (upd (aF a vb mu) 331 (.bool true))) 8 (#[.string a.now.value, .int .i64 a.round] : Array Value).toList = cellsF 335 (aF a.mark vb mu) := by
 simp only [setCells, setF]
 rw [aF_seen, aF_val, aF_valR]
 rfl
theorem aF_mark2 (a : ASt) (vb : Nat) (mu : Value) : setCells (cellsF 335 (aF a.mark vb mu)) 6 (#[.string a.now.value, .int .i64 a.round] : Array Value).toList = cellsF 335 (aF a.mark2 vb mu) := by
 simp only [setCells, setF]
 rw [aF_lock, aF_lockR]
 rfl
theorem lock5_yes {a : ASt} (h : a.step = 2) : a.lock5 = a.mark2.vote 3 := by unfold ASt.lock5; rw [if_pos h]; rfl
theorem lock5_no {a : ASt} (h : ¬ a.step = 2) : a.lock5 = a.mark := by unfold ASt.lock5; rw [if_neg h]; rfl
def rul1 (a : ASt) : ASt := (a.rule.getD (a, [])).1
def rul2 (a : ASt) : List Wrd := (a.rule.getD (a, [])).2
theorem rule_dec {a : ASt} {v : ByteArray} (h : a.decide1 = some v) : a.rule = some (a.decd v, []) := by unfold ASt.rule; rw [h]; rfl
theorem rule_ahead {a : ASt} (h1 : a.decide1 = none) (h2 : a.round < aheadV a.n a.t a.L a.round) : a.rule = some (a.begin (aheadV a.n a.t a.L a.round), a.beginO (aheadV a.n a.t a.L a.round)) := by unfold ASt.rule; rw [h1]; dsimp only; rw [if_pos h2]
theorem rule_pv {a : ASt} (h1 : a.decide1 = none) (h2 : ¬ a.round < aheadV a.n a.t a.L a.round) (h3 : a.pv = true) : a.rule = some (a.vote 2, a.voteO 2 (if a.free = true then a.now.value else VoteM.empty)) := by unfold ASt.rule; rw [h1]; dsimp only; rw [if_neg h2, if_pos h3]
theorem rule_pc {a : ASt} (h1 : a.decide1 = none) (h2 : ¬ a.round < aheadV a.n a.t a.L a.round) (h3 : a.pv = false) (h4 : a.pc = true) : a.rule = some (a.lock5, if a.step = 2 then a.voteO 3 a.now.value else []) := by unfold ASt.rule; rw [h1]; dsimp only; rw [if_neg h2, if_neg (by rw [h3]; simp), if_pos h4]
theorem rule_nil {a : ASt} (h1 : a.decide1 = none) (h2 : ¬ a.round < aheadV a.n a.t a.L a.round) (h3 : a.pv = false) (h4 : a.pc = false) (h5 : a.nil = true) : a.rule = some (a.vote 3, a.voteO 3 VoteM.empty) := by unfold ASt.rule; rw [h1]; dsimp only; rw [if_neg h2, if_neg (by rw [h3]; simp), if_neg (by rw [h4]; simp), if_pos h5]
theorem rule_none {a : ASt} (h1 : a.decide1 = none) (h2 : ¬ a.round < aheadV a.n a.t a.L a.round) (h3 : a.pv = false) (h4 : a.pc = false) (h5 : a.nil = false) : a.rule = none := by unfold ASt.rule; rw [h1]; dsimp only; rw [if_neg h2, if_neg (by rw [h3]; simp), if_neg (by rw [h4]; simp), if_neg (by rw [h5]; simp)]
theorem isSome_none {α : Type} {o : Option α} (h : o.isSome = false) : o = none := by cases o <;> simp_all
theorem isSome_some {α : Type} {o : Option α} (h : o.isSome = true) : ∃ v, o = some v := by cases o <;> simp_all

set_option maxRecDepth 100000 in
set_option maxHeartbeats 400000 in
theorem c110 (b vb : Nat) (vv mu : Value) (st : ASt) (w0 : World) (ho : Own w0.heap [blk b (aO (st) vb mu), votR vb vv st.n st.t st.L]) : Cl Try.prog 110 #[.pointer (some ⟨b, 0, none⟩)] w0 (RetS [blk b (aO (st) vb mu), votR vb vv st.n st.t st.L] w0 (fun v (_ : Unit) => v = .bool st.decide1.isSome) fun _ => [blk b (aO (st.dec1) vb mu), votR vb vv st.n st.t st.L]) := by
 have M : Sep (fun b_ => b_ ∈ foots [blk b (aO (st) vb mu), votR vb vv st.n st.t st.L]) w0 w0 _ := Sep.start ho
 refine enter (vs := [_]) Try.func110 rfl rfl rfl ?_
 intro a F
 refine wp_seq ?_
 refine wp_region_l [.ind] ([0]) rfl ?_
 refine s_I F rfl rfl rfl rfl rfl rfl ?_; clear F a; intro a F
 refine t_endM M ?_; (clear M; try clear w); intro w M
 refine wp_seq ?_
 refine wp_seq ?_
 refine wp_region_l [.ind, .ind, .ind, .rd, .ind] ([0, 1, 2, 3, 4]) rfl ?_
 refine s_rn 2 F rfl rfl ?_; clear F a; intro a F
 refine s_fa0 F rfl rfl rfl rfl fa_144_8_A3 rfl ?_; clear F a; intro a F
 refine s_lda F rfl rfl rfl rfl ag_139_A3 rfl (cs := cellsF 320 (pF st.Ps)) cellsF_size (by exact cells_F  M.h0 aF_all (by decide)) ?_; clear F a; intro a F
 refine s_I F rfl rfl rfl rfl rfl rfl ?_; clear F a; intro a F
 refine t_endM M ?_; (clear M; try clear w); intro w M
 refine wp_block ?_
 refine loopX (X := (Int)) F [0, 8] rfl (fun (r : Int) => (0 ≤ r) ∧ (r ≤ 64) ∧ (∀ q : Int, 0 ≤ q → q < r → st.decOk q = false)) (fun (r : Int) => [(9, .int .i64 r)]) (fun (r : Int) => []) (fun (r : Int) => 64 - r.toNat) (0) M ⟨(by omega), (by omega), (fun q _ _ => by omega)⟩ (F.keep [9, 0, 8] rfl) ?_
 clear F M; clear a; (try clear w)
 rintro r a w ⟨r0, r1, hno⟩ F M; try dsimp only at F M
 try simp only [List.cons_append, List.nil_append] at F M
 try dsimp only at r0 r1 hno
 refine wp_seq ?_
 refine wp_region_l [.ind] ([0]) rfl ?_
 refine s_bin F rfl rfl rfl rfl rfl rfl rfl ?_; clear F a; intro a F
 refine t_endM M ?_; (clear M; try clear w); intro w M
 refine wp_seq ?_
 refine c_if F rfl ?_ ?_
 clear F; intro hc0 F
 try rw [hc0] at F
 replace hc0 := of_decide_eq_true hc0
 refine wp_skip ?_
 refine wp_seq ?_
 refine wp_block ?_
 refine wp_seq ?_
 replace F := F.keep [0, 8, 9] rfl
 refine wp_region_l [.ind, .ind, .wr, .ind, .wr] ([0, 1, 2, 3, 4]) rfl ?_
 refine s_I F rfl rfl rfl rfl rfl rfl ?_; clear F a; intro a F
 refine s_idx F rfl rfl rfl rfl arE_139_A3 rfl rfl (by omega) (by omega) ((extractF (by omega)).trans (pF_word (by omega))) ?_; clear F a; intro a F
 refine s_alc F M rfl rfl rfl rfl zr_32_A3 rfl ?_; (clear F a M; try clear w); intro b4 w M a F
 refine s_I F rfl rfl rfl rfl rfl rfl ?_; clear F a; intro a F
 refine s_stW F M rfl rfl rfl sz_32_A3 rfl rfl rfl rfl rfl ?_; (clear M; try clear w); intro w M
 refine t_endM M ?_; (clear M; try clear w); intro w M
 refine wp_seq ?_
 replace F := F.keep [0, 3, 4, 8, 9] rfl
 refine wp_region_l [.ind, .rd, .ind, .ind, .ind, .ind, .ind, .rd, .wr, .ind] ([0, 1, 2, 3, 4, 5, 6, 7, 8, 9]) rfl ?_
 refine s_fa0 F rfl rfl rfl rfl fa_32_4_A3 rfl ?_; clear F a; intro a F
 refine s_ld F rfl rfl rfl rfl sc_9_A3 rfl (by exact cell_of_blk M.h0 (lit rfl)) ?_; clear F a; intro a F
 refine s_rn 2 F rfl rfl ?_; clear F a; intro a F
 refine bsplit F 16 rfl ?_ ?_
 clear F; intro hc1 F
 try rw [hc1] at F
 replace hc1 := nd1 hc1
 refine s_rn 2 F rfl rfl ?_; clear F a; intro a F
 refine s_fa0 F rfl rfl rfl rfl fa_32_4_A3 rfl ?_; clear F a; intro a F
 refine s_ld F rfl rfl rfl rfl sc_9_A3 rfl (by exact cell_of_blk M.h0 (lit rfl)) ?_; clear F a; intro a F
 refine s_cq F M rfl rfl rfl rfl rfl (rfl : _ = some [_, _, _, _]) cb_113_A3 (fun nd_ => c113 b vb vv _ st 3 r (propL st.Ps r).value _ (by exact M.h1) (by exact roF (M.drewN nd_).f2)) ?_; (clear F a M; try clear w); rintro v w rfl M a F
 refine s_I F rfl rfl rfl rfl rfl rfl ?_; clear F a; intro a F
 refine t_endM M ?_; (clear M; try clear w); intro w M
 refine c_if F rfl ?_ ?_
 clear F; intro hc2 F
 try rw [hc2] at F
 skip
 refine wp_seq ?_
 replace F := F.keep [0, 3, 4, 8, 9] rfl
 refine wp_region_t [.ind, .ind, .ind, .rd, .ind, .ind, .wr, .ind, .ind, .wr] [(3, 6)] (otOf [0, 1, 2, 3, 4, 5, 6, 7, 8, 9]) mixed (by kernel_rfl) ?_
 refine s_rn 2 F rfl rfl ?_; clear F a; intro a F
 refine s_fa0 F rfl rfl rfl rfl fa_32_4_A3 rfl ?_; clear F a; intro a F
 refine s_ldL F rfl rfl rfl rfl sc_9_A3 rfl (by exact cell_of_blk M.h0 (lit rfl)) ?_; clear F a; intro a F
 refine s_I F rfl rfl rfl rfl rfl rfl ?_; clear F a; intro a F
 refine s_fa0 F rfl rfl rfl rfl fa_144_11_A3 rfl ?_; clear F a; intro a F
 refine s_sfL F M.f1 rfl rfl rfl sz_4_A3 rfl rfl rfl (by exact Nat.le_of_ble_eq_true rfl) (fun w M => (by (refine pend_take (by exact cell_of_blk M.h1 (lit rfl)) ?_); exact pend_none)) ?_; (clear M; try clear w); intro w M
 refine s_I F rfl rfl rfl rfl rfl rfl ?_; clear F a; intro a F
 refine s_fa0 F rfl rfl rfl rfl fa_144_12_A3 rfl ?_; clear F a; intro a F
 refine s_sfL F M rfl rfl rfl sz_9_A3 rfl rfl rfl (by exact Nat.le_of_ble_eq_true rfl) (fun w M => (by (refine pend_skip rfl ?_); exact pend_none)) ?_; (clear M; try clear w); intro w M
 refine t_endM M ?_; (clear M; try clear w); intro w M
 refine wp_seq ?_
 rw [aF_decd] at M
 replace F := F.keep [0, 3, 4, 8, 9] rfl
 refine wp_region_l [.ind] ([0]) rfl ?_
 refine s_I F rfl rfl rfl rfl rfl rfl ?_; clear F a; intro a F
 refine t_endM M ?_; (clear M; try clear w); intro w M
 refine wp_ret ?_
 refine ret1 F rfl rfl ?_
 have hd := dec_some r0 (by omega) hno (dec_yes (by assumption) (by assumption))
 rw [dec1_some hd, hd]
 refine ⟨_, (), rfl, rfl, ?_⟩
 refine M.pick ?_; repeat (first | exact PkG.nil | refine PkG.cons 0 rfl rfl ?_ | refine PkG.cons 2 rfl rfl ?_)
 clear F; intro hc3 F
 try rw [hc3] at F
 skip
 refine wp_skip ?_
 replace F := F.keep [0, 3, 4, 8, 9] rfl
 refine wp_region_l [.ind, .ind] ([0, 1]) rfl ?_
 refine s_add F rfl rfl rfl rfl rfl rfl (by unfold In64; omega) ?_; clear F a; intro a F
 refine s_I F rfl rfl rfl rfl rfl rfl ?_; clear F a; intro a F
 refine t_endM M ?_; (clear M; try clear w); intro w M
 refine again (r + 1) (by show _ < _; (try dsimp only); omega) ⟨(by omega), (by assumption), (no_next hno (by exact dec_no2 (by assumption)))⟩ (F.keep [9, 0, 8] rfl) ?_
 try dsimp only [List.cons_append, List.nil_append]
 refine M.pick ?_; repeat (first | exact PkG.nil | refine PkG.cons 1 rfl rfl ?_ | refine PkG.cons 2 rfl rfl ?_)
 clear F; intro hc4 F
 try rw [hc4] at F
 replace hc4 := nd0 hc4
 refine s_rn 6 F rfl rfl ?_; clear F a; intro a F
 refine t_endM M ?_; (clear M; try clear w); intro w M
 refine c_f F rfl ?_
 refine wp_skip ?_
 replace F := F.keep [0, 3, 4, 8, 9] rfl
 refine wp_region_l [.ind, .ind] ([0, 1]) rfl ?_
 refine s_add F rfl rfl rfl rfl rfl rfl (by unfold In64; omega) ?_; clear F a; intro a F
 refine s_I F rfl rfl rfl rfl rfl rfl ?_; clear F a; intro a F
 refine t_endM M ?_; (clear M; try clear w); intro w M
 refine again (r + 1) (by show _ < _; (try dsimp only); omega) ⟨(by omega), (by assumption), (no_next hno (by exact dec_no1 (by assumption)))⟩ (F.keep [9, 0, 8] rfl) ?_
 try dsimp only [List.cons_append, List.nil_append]
 refine M.pick ?_; repeat (first | exact PkG.nil | refine PkG.cons 1 rfl rfl ?_ | refine PkG.cons 2 rfl rfl ?_)
 clear F; intro hc5 F
 try rw [hc5] at F
 replace hc5 := of_decide_eq_false hc5
 refine wp_exit ?_
 refine wp_seq ?_
 replace F := F.keep [0, 8, 9] rfl
 refine wp_region_l [.ind] ([0]) rfl ?_
 refine s_I F rfl rfl rfl rfl rfl rfl ?_; clear F a; intro a F
 refine t_endM M ?_; (clear M; try clear w); intro w M
 refine wp_ret ?_
 refine ret1 F rfl rfl ?_
 have hd := dec_none hno (by omega)
 rw [dec1_none hd, hd]
 refine ⟨_, (), rfl, rfl, ?_⟩
 refine M.pick ?_; repeat (first | exact PkG.nil | refine PkG.cons 0 rfl rfl ?_ | refine PkG.cons 1 rfl rfl ?_)
set_option maxRecDepth 100000 in
set_option maxHeartbeats 2000000 in
theorem c111 (b vb ob : Nat) (vv ov : Value) (st : ASt) (o : List Wrd) (hl : o.length ≤ 1000000) (w0 : World) (ho : Own w0.heap [blk b (aO (st) vb (sayV ob)), votR vb vv st.n st.t st.L, blk ob (.cells #[ov] 22 (0, 0)), wsR ov (o)]) : Cl Try.prog 111 #[.pointer (some ⟨b, 0, none⟩), wrdV st.now] w0 (RetS [blk b (aO (st) vb (sayV ob)), votR vb vv st.n st.t st.L, blk ob (.cells #[ov] 22 (0, 0)), wsR ov (o)] w0 (fun v (_ : Value) => v = .bool st.pv) fun x => [blk b (aO (if st.pv = true then st.vote 2 else st) vb (sayV ob)), votR vb vv st.n st.t st.L, blk ob (.cells #[x] 22 (0, 0)), wsR x (o ++ if st.pv = true then st.voteO 2 (if st.free = true then st.now.value else VoteM.empty) else [])]) := by
 have M : Sep (fun b_ => b_ ∈ foots [blk b (aO (st) vb (sayV ob)), votR vb vv st.n st.t st.L, blk ob (.cells #[ov] 22 (0, 0)), wsR ov (o)]) w0 w0 _ := Sep.start ho
 refine enter (vs := [_, _]) Try.func111 rfl rfl rfl ?_
 intro a F
 refine wp_seq ?_
 refine wp_region_l [.wr, .ind] ([0, 1]) rfl ?_
 refine s_bxA F M rfl rfl rfl rfl rfl ?_; (clear F a M; try clear w); intro b3 w M a F
 refine s_I F rfl rfl rfl rfl rfl rfl ?_; clear F a; intro a F
 refine t_endM M ?_; (clear M; try clear w); intro w M
 refine wp_seq ?_
 refine wp_seq ?_
 refine wp_region_l [.ind, .ind, .ind, .rd, .ind, .ind, .ind, .rd, .ind, .ind, .ind, .ind, .rd, .ind, .ind, .ind, .ind, .rd, .ind, .rd, .wr, .ind, .ind, .ind] ([0, 1, 2, 3, 4, 5, 6, 7, 8, 9, 10, 11, 12, 13, 14, 15, 16, 17, 18, 19, 20, 21, 22, 23]) rfl ?_
 refine s_rn 2 F rfl rfl ?_; clear F a; intro a F
 refine s_fa0 F rfl rfl rfl rfl fa_144_5_A3 rfl ?_; clear F a; intro a F
 refine s_ld F rfl rfl rfl rfl sc_3_A3 rfl (by exact cell_of_blk M.h1 (gf rfl (by decide))) ?_; clear F a; intro a F
 refine s_rn 2 F rfl rfl ?_; clear F a; intro a F
 refine bsplit F 11 rfl ?_ ?_
 clear F; intro hc0 F
 try rw [hc0] at F
 replace hc0 := nd1 hc0
 refine s_rn 18 F rfl rfl ?_; clear F a; intro a F
 refine t_endM M ?_; (clear M; try clear w); intro w M
 refine c_t F rfl ?_
 refine wp_seq ?_
 replace F := F.keep [0, 1, 3, 4] rfl
 refine wp_region_l [.ind] ([0]) rfl ?_
 refine s_I F rfl rfl rfl rfl rfl rfl ?_; clear F a; intro a F
 refine t_endM M ?_; (clear M; try clear w); intro w M
 refine wp_ret ?_
 refine ret1 F rfl rfl ?_
 have hp : st.pv = false := (by clear M F; unfold ASt.pv VoteM.empty; grind)
 rw [hp]
 refine ⟨_, ov, rfl, rfl, ?_⟩
 rw [if_neg (by decide), if_neg (by decide), List.append_nil]
 refine M.pick ?_; repeat (first | exact PkG.nil | refine PkG.cons 1 rfl rfl ?_ | refine PkG.cons 2 rfl rfl ?_ | refine PkG.cons 3 rfl rfl ?_ | refine PkG.cons 4 rfl rfl ?_)
 clear F; intro hc1 F
 try rw [hc1] at F
 replace hc1 := nd0 hc1
 refine s_fa0 F rfl rfl rfl rfl fa_32_4_A3 rfl ?_; clear F a; intro a F
 refine s_ld F rfl rfl rfl rfl sc_9_A3 rfl (by exact cell_of_blk M.h0 (lit rfl)) ?_; clear F a; intro a F
 refine s_rn 3 F rfl rfl ?_; clear F a; intro a F
 refine bsplit F 16 rfl ?_ ?_
 clear F; intro hc2 F
 try rw [hc2] at F
 replace hc2 := of_decide_eq_true hc2
 refine s_rn 13 F rfl rfl ?_; clear F a; intro a F
 refine t_endM M ?_; (clear M; try clear w); intro w M
 refine c_t F rfl ?_
 refine wp_seq ?_
 replace F := F.keep [0, 1, 3, 4] rfl
 refine wp_region_l [.ind] ([0]) rfl ?_
 refine s_I F rfl rfl rfl rfl rfl rfl ?_; clear F a; intro a F
 refine t_endM M ?_; (clear M; try clear w); intro w M
 refine wp_ret ?_
 refine ret1 F rfl rfl ?_
 have hp : st.pv = false := (by clear M F; unfold ASt.pv VoteM.empty; grind)
 rw [hp]
 refine ⟨_, ov, rfl, rfl, ?_⟩
 rw [if_neg (by decide), if_neg (by decide), List.append_nil]
 refine M.pick ?_; repeat (first | exact PkG.nil | refine PkG.cons 1 rfl rfl ?_ | refine PkG.cons 2 rfl rfl ?_ | refine PkG.cons 3 rfl rfl ?_ | refine PkG.cons 4 rfl rfl ?_)
 clear F; intro hc3 F
 try rw [hc3] at F
 replace hc3 := of_decide_eq_false hc3
 refine s_fa0 F rfl rfl rfl rfl fa_32_3_A3 rfl ?_; clear F a; intro a F
 refine s_ld F rfl rfl rfl rfl sc_3_A3 rfl (by exact cell_of_blk M.h0 (lit rfl)) ?_; clear F a; intro a F
 refine s_rn 2 F rfl rfl ?_; clear F a; intro a F
 refine bsplit F 20 rfl ?_ ?_
 clear F; intro hc4 F
 try rw [hc4] at F
 replace hc4 := of_decide_eq_true hc4
 refine s_I F rfl rfl rfl rfl rfl rfl ?_; clear F a; intro a F
 refine s_fa0 F rfl rfl rfl rfl fa_32_3_A3 rfl ?_; clear F a; intro a F
 refine s_ld F rfl rfl rfl rfl sc_3_A3 rfl (by exact cell_of_blk M.h0 (lit rfl)) ?_; clear F a; intro a F
 refine s_fa0 F rfl rfl rfl rfl fa_32_4_A3 rfl ?_; clear F a; intro a F
 refine s_ld F rfl rfl rfl rfl sc_9_A3 rfl (by exact cell_of_blk M.h0 (lit rfl)) ?_; clear F a; intro a F
 refine s_cq F M rfl rfl rfl rfl rfl (rfl : _ = some [_, _, _, _]) cb_113_A3 (fun nd_ => c113 b vb vv _ st 2 st.now.valid st.now.value _ (by exact M.h1) (by exact roF (M.drewN nd_).f2)) ?_; (clear F a M; try clear w); rintro v w rfl M a F
 refine s_rn 3 F rfl rfl ?_; clear F a; intro a F
 refine t_endM M ?_; (clear M; try clear w); intro w M
 refine c_if F rfl ?_ ?_
 clear F; intro hc5 F
 try rw [hc5] at F
 replace hc5 := nt hc5
 refine wp_seq ?_
 replace F := F.keep [0, 1, 3, 4] rfl
 refine wp_region_l [.ind] ([0]) rfl ?_
 refine s_I F rfl rfl rfl rfl rfl rfl ?_; clear F a; intro a F
 refine t_endM M ?_; (clear M; try clear w); intro w M
 refine wp_ret ?_
 refine ret1 F rfl rfl ?_
 have hp : st.pv = false := (by clear M F; unfold ASt.pv VoteM.empty; grind)
 rw [hp]
 refine ⟨_, ov, rfl, rfl, ?_⟩
 rw [if_neg (by decide), if_neg (by decide), List.append_nil]
 refine M.pick ?_; repeat (first | exact PkG.nil | refine PkG.cons 1 rfl rfl ?_ | refine PkG.cons 2 rfl rfl ?_ | refine PkG.cons 3 rfl rfl ?_ | refine PkG.cons 4 rfl rfl ?_)
 clear F; intro hc6 F
 try rw [hc6] at F
 replace hc6 := nf hc6
 refine wp_skip ?_
 refine wp_seq ?_
 have hp : st.pv = true := (by clear M F; unfold ASt.pv VoteM.empty; grind)
 refine cutX (X := (Bool)) (m0 := []) F [0, 1, 3, 4] rfl M (fun (u : Bool) => (u = st.free)) (fun (u : Bool) => [(5, .bool u)]) (fun (u : Bool) => []) ?_ ?_
 replace F := F.keep [0, 1, 3, 4] rfl
 refine wp_region_t [.ind, .ind, .ind, .ind, .rd, .ind, .ind, .ind, .ind, .ind, .ind, .rd, .ind, .rd, .ind, .ind, .ind, .ind, .rd, .ind, .ind, .ind, .ind, .ind, .ind, .rd, .ind, .rd, .ind, .ind, .ind, .ind] [] (otOf [0, 1, 2, 3, 4, 5, 6, 7, 8, 9, 10, 11, 12, 13, 14, 15, 16, 17, 18, 19, 20, 21, 22, 23, 24, 25, 26, 27, 28, 29, 30, 31]) mixed (by kernel_rfl) ?_
 refine s_rn 2 F rfl rfl ?_; clear F a; intro a F
 refine s_fa0 F rfl rfl rfl rfl fa_144_6_A3 rfl ?_; clear F a; intro a F
 refine s_fa F rfl rfl rfl rfl fa_138_1_A3 rfl ?_; clear F a; intro a F
 refine s_ld F rfl rfl rfl rfl sc_3_A3 rfl (by exact cell_of_blk M.h1 (gf rfl (by decide))) ?_; clear F a; intro a F
 refine s_rn 2 F rfl rfl ?_; clear F a; intro a F
 refine bsplit F 36 rfl ?_ ?_
 clear F; intro hc7 F
 try rw [hc7] at F
 replace hc7 := of_decide_eq_true hc7
 refine s_rn 25 F rfl rfl ?_; clear F a; intro a F
 refine t_endM M ?_; (clear M; try clear w); intro w M
 refine joined (_) (by clear M F; unfold ASt.free; grind) (F.keep [5, 0, 1, 3, 4] rfl) ?_
 try dsimp only [List.cons_append, List.nil_append]
 refine M.pick ?_; repeat (first | exact PkG.nil | refine PkG.cons 0 rfl rfl ?_ | refine PkG.cons 1 rfl rfl ?_ | refine PkG.cons 2 rfl rfl ?_ | refine PkG.cons 3 rfl rfl ?_ | refine PkG.cons 4 rfl rfl ?_)
 clear F; intro hc8 F
 try rw [hc8] at F
 replace hc8 := of_decide_eq_false hc8
 refine s_rn 2 F rfl rfl ?_; clear F a; intro a F
 refine s_fa0 F rfl rfl rfl rfl fa_144_6_A3 rfl ?_; clear F a; intro a F
 refine s_fa F rfl rfl rfl rfl fa_138_0_A3 rfl ?_; clear F a; intro a F
 refine s_ld F rfl rfl rfl rfl sc_9_A3 rfl (by exact cell_of_blk M.h1 (gf rfl (by decide))) ?_; clear F a; intro a F
 refine s_fa0 F rfl rfl rfl rfl fa_32_4_A3 rfl ?_; clear F a; intro a F
 refine s_ld F rfl rfl rfl rfl sc_9_A3 rfl (by exact cell_of_blk M.h0 (lit rfl)) ?_; clear F a; intro a F
 refine s_rn 3 F rfl rfl ?_; clear F a; intro a F
 refine bsplit F 46 rfl ?_ ?_
 clear F; intro hc9 F
 try rw [hc9] at F
 replace hc9 := of_decide_eq_true hc9
 refine s_rn 15 F rfl rfl ?_; clear F a; intro a F
 refine t_endM M ?_; (clear M; try clear w); intro w M
 refine joined (_) (by clear M F; unfold ASt.free; grind) (F.keep [5, 0, 1, 3, 4] rfl) ?_
 try dsimp only [List.cons_append, List.nil_append]
 refine M.pick ?_; repeat (first | exact PkG.nil | refine PkG.cons 0 rfl rfl ?_ | refine PkG.cons 1 rfl rfl ?_ | refine PkG.cons 2 rfl rfl ?_ | refine PkG.cons 3 rfl rfl ?_ | refine PkG.cons 4 rfl rfl ?_)
 clear F; intro hc10 F
 try rw [hc10] at F
 replace hc10 := of_decide_eq_false hc10
 refine s_fa0 F rfl rfl rfl rfl fa_32_3_A3 rfl ?_; clear F a; intro a F
 refine s_ld F rfl rfl rfl rfl sc_3_A3 rfl (by exact cell_of_blk M.h0 (lit rfl)) ?_; clear F a; intro a F
 refine s_rn 2 F rfl rfl ?_; clear F a; intro a F
 refine bsplit F 50 rfl ?_ ?_
 clear F; intro hc11 F
 try rw [hc11] at F
 replace hc11 := of_decide_eq_true hc11
 refine s_rn 2 F rfl rfl ?_; clear F a; intro a F
 refine s_fa0 F rfl rfl rfl rfl fa_144_6_A3 rfl ?_; clear F a; intro a F
 refine s_fa F rfl rfl rfl rfl fa_138_1_A3 rfl ?_; clear F a; intro a F
 refine s_ld F rfl rfl rfl rfl sc_3_A3 rfl (by exact cell_of_blk M.h1 (gf rfl (by decide))) ?_; clear F a; intro a F
 refine s_fa0 F rfl rfl rfl rfl fa_32_3_A3 rfl ?_; clear F a; intro a F
 refine s_ld F rfl rfl rfl rfl sc_3_A3 rfl (by exact cell_of_blk M.h0 (lit rfl)) ?_; clear F a; intro a F
 refine s_rn 4 F rfl rfl ?_; clear F a; intro a F
 refine t_endM M ?_; (clear M; try clear w); intro w M
 refine joined (_) (by clear M F; unfold ASt.free; grind) (F.keep [5, 0, 1, 3, 4] rfl) ?_
 try dsimp only [List.cons_append, List.nil_append]
 refine M.pick ?_; repeat (first | exact PkG.nil | refine PkG.cons 0 rfl rfl ?_ | refine PkG.cons 1 rfl rfl ?_ | refine PkG.cons 2 rfl rfl ?_ | refine PkG.cons 3 rfl rfl ?_ | refine PkG.cons 4 rfl rfl ?_)
 clear F; intro hc12 F
 try rw [hc12] at F
 replace hc12 := of_decide_eq_false hc12
 refine s_rn 11 F rfl rfl ?_; clear F a; intro a F
 refine t_endM M ?_; (clear M; try clear w); intro w M
 refine joined (_) (by clear M F; unfold ASt.free; grind) (F.keep [5, 0, 1, 3, 4] rfl) ?_
 try dsimp only [List.cons_append, List.nil_append]
 refine M.pick ?_; repeat (first | exact PkG.nil | refine PkG.cons 0 rfl rfl ?_ | refine PkG.cons 1 rfl rfl ?_ | refine PkG.cons 2 rfl rfl ?_ | refine PkG.cons 3 rfl rfl ?_ | refine PkG.cons 4 rfl rfl ?_)
 clear F M; clear a; (try clear w)
 rintro u a w hu F M; try dsimp only at F M
 try simp only [List.cons_append, List.nil_append] at F M
 try dsimp only at hu
 refine wp_seq ?_
 refine wp_seq ?_
 refine wp_region_l [.ind] ([0]) rfl ?_
 refine s_I F rfl rfl rfl rfl rfl rfl ?_; clear F a; intro a F
 refine t_endM M ?_; (clear M; try clear w); intro w M
 refine c_if F rfl ?_ ?_
 clear F; intro hc13 F
 try rw [hc13] at F
 skip
 rw [hc13] at hu
 replace F := F.keep [0, 1, 3, 4, 5] rfl
 refine wp_region_l [.ind, .ind, .rd, .wr] ([0, 1, 2, 3]) rfl ?_
 refine s_I F rfl rfl rfl rfl rfl rfl ?_; clear F a; intro a F
 refine s_fa0 F rfl rfl rfl rfl fa_32_4_A3 rfl ?_; clear F a; intro a F
 refine s_ld F rfl rfl rfl rfl sc_9_A3 rfl (by exact cell_of_blk M.h0 (lit rfl)) ?_; clear F a; intro a F
 have M1 : Sep _ _ _ (slR _ _ _ _ _ :: _) := M.f4; replace M := M1; clear M1
 have M1 : Sep _ _ _ (blk ob _ :: _) := M.f4; replace M := M1; clear M1
 have M1 : Sep _ _ _ (blk b _ :: _) := M.f3; replace M := M1; clear M1
 refine s_call (m := [_, _, _]) F M rfl rfl rfl rfl rfl (rfl : _ = some [_, _, _]) cb_114_A3 (fun nd_ => c114 b vb ob _ (st) _ (by omega) 2 st.now.value _ (Own.left (m := [_, _, _]) (M.drewN nd_).own)) ?_; (clear F a M; try clear w); rintro v x w rfl M a F; (try simp only [List.cons_append, List.nil_append] at M)
 refine t_endM M ?_; (clear M; try clear w); intro w M
 refine wp_seq ?_
 replace F := F.keep [0, 1, 3, 4, 5] rfl
 refine wp_region_l [.ind] ([0]) rfl ?_
 refine s_I F rfl rfl rfl rfl rfl rfl ?_; clear F a; intro a F
 refine t_endM M ?_; (clear M; try clear w); intro w M
 refine wp_ret ?_
 refine ret1 F rfl rfl ?_
 rw [hp]
 refine ⟨_, x, rfl, rfl, ?_⟩
 rw [if_pos rfl, if_pos rfl]
 rw [if_pos hu.symm]
 refine M.pick ?_; repeat (first | exact PkG.nil | refine PkG.cons 0 rfl rfl ?_ | refine PkG.cons 1 rfl rfl ?_ | refine PkG.cons 2 rfl rfl ?_ | refine PkG.cons 4 rfl rfl ?_)
 clear F; intro hc14 F
 try rw [hc14] at F
 skip
 rw [hc14] at hu
 replace F := F.keep [0, 1, 3, 4, 5] rfl
 refine wp_region_l [.ind, .wr] ([0, 1]) rfl ?_
 refine s_I F rfl rfl rfl rfl rfl rfl ?_; clear F a; intro a F
 have M1 : Sep _ _ _ (slR _ _ _ _ _ :: _) := M.f4; replace M := M1; clear M1
 have M1 : Sep _ _ _ (blk ob _ :: _) := M.f4; replace M := M1; clear M1
 have M1 : Sep _ _ _ (blk b _ :: _) := M.f3; replace M := M1; clear M1
 refine s_call (m := [_, _, _]) F M rfl rfl rfl rfl rfl (rfl : _ = some [_, _, _]) cb_114_A3 (fun nd_ => c114 b vb ob _ (st) _ (by omega) 2 VoteM.empty _ (Own.left (m := [_, _, _]) (M.drewN nd_).own)) ?_; (clear F a M; try clear w); rintro v x w rfl M a F; (try simp only [List.cons_append, List.nil_append] at M)
 refine t_endM M ?_; (clear M; try clear w); intro w M
 refine wp_seq ?_
 replace F := F.keep [0, 1, 3, 4, 5] rfl
 refine wp_region_l [.ind] ([0]) rfl ?_
 refine s_I F rfl rfl rfl rfl rfl rfl ?_; clear F a; intro a F
 refine t_endM M ?_; (clear M; try clear w); intro w M
 refine wp_ret ?_
 refine ret1 F rfl rfl ?_
 rw [hp]
 refine ⟨_, x, rfl, rfl, ?_⟩
 rw [if_pos rfl, if_pos rfl]
 rw [if_neg (by rw [← hu]; decide)]
 refine M.pick ?_; repeat (first | exact PkG.nil | refine PkG.cons 0 rfl rfl ?_ | refine PkG.cons 1 rfl rfl ?_ | refine PkG.cons 2 rfl rfl ?_ | refine PkG.cons 4 rfl rfl ?_)
 clear F; intro hc15 F
 try rw [hc15] at F
 replace hc15 := of_decide_eq_false hc15
 refine s_rn 9 F rfl rfl ?_; clear F a; intro a F
 refine t_endM M ?_; (clear M; try clear w); intro w M
 refine c_f F rfl ?_
 refine wp_skip ?_
 refine wp_seq ?_
 have hp : st.pv = true := (by clear M F; unfold ASt.pv VoteM.empty; grind)
 refine cutX (X := (Bool)) (m0 := []) F [0, 1, 3, 4] rfl M (fun (u : Bool) => (u = st.free)) (fun (u : Bool) => [(5, .bool u)]) (fun (u : Bool) => []) ?_ ?_
 replace F := F.keep [0, 1, 3, 4] rfl
 refine wp_region_t [.ind, .ind, .ind, .ind, .rd, .ind, .ind, .ind, .ind, .ind, .ind, .rd, .ind, .rd, .ind, .ind, .ind, .ind, .rd, .ind, .ind, .ind, .ind, .ind, .ind, .rd, .ind, .rd, .ind, .ind, .ind, .ind] [] (otOf [0, 1, 2, 3, 4, 5, 6, 7, 8, 9, 10, 11, 12, 13, 14, 15, 16, 17, 18, 19, 20, 21, 22, 23, 24, 25, 26, 27, 28, 29, 30, 31]) mixed (by kernel_rfl) ?_
 refine s_rn 2 F rfl rfl ?_; clear F a; intro a F
 refine s_fa0 F rfl rfl rfl rfl fa_144_6_A3 rfl ?_; clear F a; intro a F
 refine s_fa F rfl rfl rfl rfl fa_138_1_A3 rfl ?_; clear F a; intro a F
 refine s_ld F rfl rfl rfl rfl sc_3_A3 rfl (by exact cell_of_blk M.h1 (gf rfl (by decide))) ?_; clear F a; intro a F
 refine s_rn 2 F rfl rfl ?_; clear F a; intro a F
 refine bsplit F 36 rfl ?_ ?_
 clear F; intro hc16 F
 try rw [hc16] at F
 replace hc16 := of_decide_eq_true hc16
 refine s_rn 25 F rfl rfl ?_; clear F a; intro a F
 refine t_endM M ?_; (clear M; try clear w); intro w M
 refine joined (_) (by clear M F; unfold ASt.free; grind) (F.keep [5, 0, 1, 3, 4] rfl) ?_
 try dsimp only [List.cons_append, List.nil_append]
 refine M.pick ?_; repeat (first | exact PkG.nil | refine PkG.cons 0 rfl rfl ?_ | refine PkG.cons 1 rfl rfl ?_ | refine PkG.cons 2 rfl rfl ?_ | refine PkG.cons 3 rfl rfl ?_ | refine PkG.cons 4 rfl rfl ?_)
 clear F; intro hc17 F
 try rw [hc17] at F
 replace hc17 := of_decide_eq_false hc17
 refine s_rn 2 F rfl rfl ?_; clear F a; intro a F
 refine s_fa0 F rfl rfl rfl rfl fa_144_6_A3 rfl ?_; clear F a; intro a F
 refine s_fa F rfl rfl rfl rfl fa_138_0_A3 rfl ?_; clear F a; intro a F
 refine s_ld F rfl rfl rfl rfl sc_9_A3 rfl (by exact cell_of_blk M.h1 (gf rfl (by decide))) ?_; clear F a; intro a F
 refine s_fa0 F rfl rfl rfl rfl fa_32_4_A3 rfl ?_; clear F a; intro a F
 refine s_ld F rfl rfl rfl rfl sc_9_A3 rfl (by exact cell_of_blk M.h0 (lit rfl)) ?_; clear F a; intro a F
 refine s_rn 3 F rfl rfl ?_; clear F a; intro a F
 refine bsplit F 46 rfl ?_ ?_
 clear F; intro hc18 F
 try rw [hc18] at F
 replace hc18 := of_decide_eq_true hc18
 refine s_rn 15 F rfl rfl ?_; clear F a; intro a F
 refine t_endM M ?_; (clear M; try clear w); intro w M
 refine joined (_) (by clear M F; unfold ASt.free; grind) (F.keep [5, 0, 1, 3, 4] rfl) ?_
 try dsimp only [List.cons_append, List.nil_append]
 refine M.pick ?_; repeat (first | exact PkG.nil | refine PkG.cons 0 rfl rfl ?_ | refine PkG.cons 1 rfl rfl ?_ | refine PkG.cons 2 rfl rfl ?_ | refine PkG.cons 3 rfl rfl ?_ | refine PkG.cons 4 rfl rfl ?_)
 clear F; intro hc19 F
 try rw [hc19] at F
 replace hc19 := of_decide_eq_false hc19
 refine s_fa0 F rfl rfl rfl rfl fa_32_3_A3 rfl ?_; clear F a; intro a F
 refine s_ld F rfl rfl rfl rfl sc_3_A3 rfl (by exact cell_of_blk M.h0 (lit rfl)) ?_; clear F a; intro a F
 refine s_rn 2 F rfl rfl ?_; clear F a; intro a F
 refine bsplit F 50 rfl ?_ ?_
 clear F; intro hc20 F
 try rw [hc20] at F
 replace hc20 := of_decide_eq_true hc20
 refine s_rn 2 F rfl rfl ?_; clear F a; intro a F
 refine s_fa0 F rfl rfl rfl rfl fa_144_6_A3 rfl ?_; clear F a; intro a F
 refine s_fa F rfl rfl rfl rfl fa_138_1_A3 rfl ?_; clear F a; intro a F
 refine s_ld F rfl rfl rfl rfl sc_3_A3 rfl (by exact cell_of_blk M.h1 (gf rfl (by decide))) ?_; clear F a; intro a F
 refine s_fa0 F rfl rfl rfl rfl fa_32_3_A3 rfl ?_; clear F a; intro a F
 refine s_ld F rfl rfl rfl rfl sc_3_A3 rfl (by exact cell_of_blk M.h0 (lit rfl)) ?_; clear F a; intro a F
 refine s_rn 4 F rfl rfl ?_; clear F a; intro a F
 refine t_endM M ?_; (clear M; try clear w); intro w M
 refine joined (_) (by clear M F; unfold ASt.free; grind) (F.keep [5, 0, 1, 3, 4] rfl) ?_
 try dsimp only [List.cons_append, List.nil_append]
 refine M.pick ?_; repeat (first | exact PkG.nil | refine PkG.cons 0 rfl rfl ?_ | refine PkG.cons 1 rfl rfl ?_ | refine PkG.cons 2 rfl rfl ?_ | refine PkG.cons 3 rfl rfl ?_ | refine PkG.cons 4 rfl rfl ?_)
 clear F; intro hc21 F
 try rw [hc21] at F
 replace hc21 := of_decide_eq_false hc21
 refine s_rn 11 F rfl rfl ?_; clear F a; intro a F
 refine t_endM M ?_; (clear M; try clear w); intro w M
 refine joined (_) (by clear M F; unfold ASt.free; grind) (F.keep [5, 0, 1, 3, 4] rfl) ?_
 try dsimp only [List.cons_append, List.nil_append]
 refine M.pick ?_; repeat (first | exact PkG.nil | refine PkG.cons 0 rfl rfl ?_ | refine PkG.cons 1 rfl rfl ?_ | refine PkG.cons 2 rfl rfl ?_ | refine PkG.cons 3 rfl rfl ?_ | refine PkG.cons 4 rfl rfl ?_)
 clear F M; clear a; (try clear w)
 rintro u a w hu F M; try dsimp only at F M
 try simp only [List.cons_append, List.nil_append] at F M
 try dsimp only at hu
 refine wp_seq ?_
 refine wp_seq ?_
 refine wp_region_l [.ind] ([0]) rfl ?_
 refine s_I F rfl rfl rfl rfl rfl rfl ?_; clear F a; intro a F
 refine t_endM M ?_; (clear M; try clear w); intro w M
 refine c_if F rfl ?_ ?_
 clear F; intro hc22 F
 try rw [hc22] at F
 skip
 rw [hc22] at hu
 replace F := F.keep [0, 1, 3, 4, 5] rfl
 refine wp_region_l [.ind, .ind, .rd, .wr] ([0, 1, 2, 3]) rfl ?_
 refine s_I F rfl rfl rfl rfl rfl rfl ?_; clear F a; intro a F
 refine s_fa0 F rfl rfl rfl rfl fa_32_4_A3 rfl ?_; clear F a; intro a F
 refine s_ld F rfl rfl rfl rfl sc_9_A3 rfl (by exact cell_of_blk M.h0 (lit rfl)) ?_; clear F a; intro a F
 have M1 : Sep _ _ _ (slR _ _ _ _ _ :: _) := M.f4; replace M := M1; clear M1
 have M1 : Sep _ _ _ (blk ob _ :: _) := M.f4; replace M := M1; clear M1
 have M1 : Sep _ _ _ (blk b _ :: _) := M.f3; replace M := M1; clear M1
 refine s_call (m := [_, _, _]) F M rfl rfl rfl rfl rfl (rfl : _ = some [_, _, _]) cb_114_A3 (fun nd_ => c114 b vb ob _ (st) _ (by omega) 2 st.now.value _ (Own.left (m := [_, _, _]) (M.drewN nd_).own)) ?_; (clear F a M; try clear w); rintro v x w rfl M a F; (try simp only [List.cons_append, List.nil_append] at M)
 refine t_endM M ?_; (clear M; try clear w); intro w M
 refine wp_seq ?_
 replace F := F.keep [0, 1, 3, 4, 5] rfl
 refine wp_region_l [.ind] ([0]) rfl ?_
 refine s_I F rfl rfl rfl rfl rfl rfl ?_; clear F a; intro a F
 refine t_endM M ?_; (clear M; try clear w); intro w M
 refine wp_ret ?_
 refine ret1 F rfl rfl ?_
 rw [hp]
 refine ⟨_, x, rfl, rfl, ?_⟩
 rw [if_pos rfl, if_pos rfl]
 rw [if_pos hu.symm]
 refine M.pick ?_; repeat (first | exact PkG.nil | refine PkG.cons 0 rfl rfl ?_ | refine PkG.cons 1 rfl rfl ?_ | refine PkG.cons 2 rfl rfl ?_ | refine PkG.cons 4 rfl rfl ?_)
 clear F; intro hc23 F
 try rw [hc23] at F
 skip
 rw [hc23] at hu
 replace F := F.keep [0, 1, 3, 4, 5] rfl
 refine wp_region_l [.ind, .wr] ([0, 1]) rfl ?_
 refine s_I F rfl rfl rfl rfl rfl rfl ?_; clear F a; intro a F
 have M1 : Sep _ _ _ (slR _ _ _ _ _ :: _) := M.f4; replace M := M1; clear M1
 have M1 : Sep _ _ _ (blk ob _ :: _) := M.f4; replace M := M1; clear M1
 have M1 : Sep _ _ _ (blk b _ :: _) := M.f3; replace M := M1; clear M1
 refine s_call (m := [_, _, _]) F M rfl rfl rfl rfl rfl (rfl : _ = some [_, _, _]) cb_114_A3 (fun nd_ => c114 b vb ob _ (st) _ (by omega) 2 VoteM.empty _ (Own.left (m := [_, _, _]) (M.drewN nd_).own)) ?_; (clear F a M; try clear w); rintro v x w rfl M a F; (try simp only [List.cons_append, List.nil_append] at M)
 refine t_endM M ?_; (clear M; try clear w); intro w M
 refine wp_seq ?_
 replace F := F.keep [0, 1, 3, 4, 5] rfl
 refine wp_region_l [.ind] ([0]) rfl ?_
 refine s_I F rfl rfl rfl rfl rfl rfl ?_; clear F a; intro a F
 refine t_endM M ?_; (clear M; try clear w); intro w M
 refine wp_ret ?_
 refine ret1 F rfl rfl ?_
 rw [hp]
 refine ⟨_, x, rfl, rfl, ?_⟩
 rw [if_pos rfl, if_pos rfl]
 rw [if_neg (by rw [← hu]; decide)]
 refine M.pick ?_; repeat (first | exact PkG.nil | refine PkG.cons 0 rfl rfl ?_ | refine PkG.cons 1 rfl rfl ?_ | refine PkG.cons 2 rfl rfl ?_ | refine PkG.cons 4 rfl rfl ?_)
end Go.Proofs.Ytboibdmflblphaa
