/- G1 of the seat. -/
import Derived.Test.YtboibdmflblphaaR4
import Derived.Test.YtboibdmflblphaaH6
namespace Go.Proofs.Ytboibdmflblphaa
open Go Fw
theorem st_9_G1 : strB Try.prog 9 = true := by kernel_rfl
theorem sl_22_G1 : slcB Try.prog 22 = some (32, 5) := by kernel_rfl
theorem ag_32_G1 : aggB Try.prog 32 = some 5 := by kernel_rfl
theorem bl_104_0_1_G1 : ∀ (x0 : Int) (x1_0 : Int) (x1_1 : Int) (x1_2 : Int) (x1_3 : Int) (x1_4 : ByteArray), ∀ w : World, (Instr.build 104 #[(0, .int .i64 x0), (1, .agg #[.int .i64 x1_0, .int .i64 x1_1, .int .i64 x1_2, .int .i64 x1_3, .string x1_4])]).run Try.prog w = .ok (.agg #[.int .i64 x0, .int .i64 x1_0, .int .i64 x1_1, .int .i64 x1_2, .int .i64 x1_3, .string x1_4]) w := by intros; kernel_rfl
theorem bs_92_1_G1 : ∀ (x0_0 : Int) (x0_1_0 : Int) (x0_1_1 : Int) (x0_1_2 : Int) (x0_1_3 : Int) (x0_1_4 : ByteArray), News Try.prog (Instr.buildSlice 92 1 #[(0, .agg #[.int .i64 x0_0, .int .i64 x0_1_0, .int .i64 x0_1_1, .int .i64 x0_1_2, .int .i64 x0_1_3, .string x0_1_4])]) (.cells #[.int .i64 x0_0, .int .i64 x0_1_0, .int .i64 x0_1_1, .int .i64 x0_1_2, .int .i64 x0_1_3, .string x0_1_4] 104) fun b => .slice (some ⟨b, 0, none⟩) 1 1 := by intros; intro w; kernel_rfl
theorem tl_92_G1 : SlT Try.prog 92 104 6 56 (.agg #[.int .i64 0, .int .i64 0, .int .i64 0, .int .i64 0, .int .i64 0, .string { data := #[] }]) := ⟨by kernel_rfl, by kernel_rfl, by kernel_rfl, by kernel_rfl, by decide⟩
theorem zr_100_G1 : zeroB Try.prog 100 = some (.agg #[.int .i64 0, .int .i64 0, .int .i64 0, .bool false, .int .i64 0, .int .i64 0, .string { data := #[] }, .int .i64 0, .int .i64 0, .string { data := #[] }, .int .i64 0, .string { data := #[] }, .int .i64 0, .slice none 0 0, .int .i64 0, .int .i64 0, .slice none 0 0, .bool false, .bool false, .string { data := #[] }, .slice none 0 0, .slice none 0 0]) := by kernel_rfl
theorem bl_100_0_1_2_G1 : ∀ (x0 : Int) (x1 : Int) (x2 : Int), ∀ w : World, (Instr.build 100 #[(0, .int .i64 x0), (1, .int .i64 x1), (2, .int .i64 x2)]).run Try.prog w = .ok (.agg #[.int .i64 x0, .int .i64 x1, .int .i64 x2, .bool false, .int .i64 0, .int .i64 0, .string { data := #[] }, .int .i64 0, .int .i64 0, .string { data := #[] }, .int .i64 0, .string { data := #[] }, .int .i64 0, .slice none 0 0, .int .i64 0, .int .i64 0, .slice none 0 0, .bool false, .bool false, .string { data := #[] }, .slice none 0 0, .slice none 0 0]) w := by intros; kernel_rfl
theorem cb_34_G1 : callB Try.prog 34 = true := by kernel_rfl
theorem sz_100_G1 : sizeB Try.prog 100 = some 22 := by kernel_rfl
theorem ag_100_G1 : aggB Try.prog 100 = some 22 := by kernel_rfl
theorem cb_102_G1 : callB Try.prog 102 = true := by kernel_rfl
theorem fa_100_6_G1 : FA Try.prog 100 6 21 := fun _ _ _ => by kernel_rfl
theorem sc_69_G1 : scalB Try.prog 69 = true := by kernel_rfl
theorem sl_69_G1 : slcB Try.prog 69 = some (9, 1) := by kernel_rfl
theorem tl_69_G1 : SlT Try.prog 69 9 1 16 (.string { data := #[] }) := ⟨by kernel_rfl, by kernel_rfl, by kernel_rfl, by kernel_rfl, by decide⟩
theorem bs_69_1_G1 : ∀ (x0 : ByteArray), News Try.prog (Instr.buildSlice 69 1 #[(0, .string x0)]) (.cells #[.string x0] 9) fun b => .slice (some ⟨b, 0, none⟩) 1 1 := by intros; intro w; kernel_rfl
theorem sz_69_G1 : sizeB Try.prog 69 = some 1 := by kernel_rfl
theorem sl_92_G1 : slcB Try.prog 92 = some (104, 6) := by kernel_rfl
theorem ag_104_G1 : aggB Try.prog 104 = some 6 := by kernel_rfl
open VoteM AgrM CouM ChnM

/-- The document's chain: 22 cells. -/
abbrev cC (c : Chn) (pv lv gv wv : Value) : Array Value := #[.int .i64 c.n, .int .i64 c.t, .int .i64 c.me, .bool c.begun, .int .i64 c.part.me, .int .i64 c.part.h, .string c.part.own, .int .i64 c.part.round, .int .i64 c.part.step, .string c.part.lock, .int .i64 c.part.lockR, .string c.part.val, .int .i64 c.part.valR, pv, .int .i64 c.part.n, .int .i64 c.part.t, lv, .bool c.part.seen, .bool c.part.done, .string c.part.dec, gv, wv]
abbrev cV (c : Chn) (pv lv gv wv : Value) : Value := .agg (cC c pv lv gv wv)
theorem q_nonneg (n t : Int) : 0 ≤ quorum n t := by
 unfold quorum
 split <;> omega
theorem okT_yes {n t me : Int} (hq : quorum n t ≠ 0) (h1 : 1 ≤ me) (h2 : me ≤ n) : okA n t me 0 tilde = true := by
 have := may_spec.1 tilde_may
 simp only [okA, Bool.and_eq_true, decide_eq_true_eq]
 exact ⟨hq, h1, h2, by omega, by omega, this.1, this.2⟩
theorem okT_no {n t me : Int} (h : quorum n t = 0 ∨ me < 1 ∨ n < me) : okA n t me 0 tilde = false := by
 cases hk : okA n t me 0 tilde
 · rfl
 · exfalso
   simp only [okA, Bool.and_eq_true, decide_eq_true_eq] at hk
   omega
theorem okT_le {n t me : Int} (hq : quorum n t ≠ 0) (h1 : 1 ≤ me) : okA n t me 0 tilde = decide (me ≤ n) := by
 by_cases h : me ≤ n
 · rw [okT_yes hq h1 h, decide_eq_true h]
 · rw [okT_no (.inr (.inr (by omega))), decide_eq_false h]
theorem nat16 {j : Nat} (h : j < 16) : j = 0 ∨ j = 1 ∨ j = 2 ∨ j = 3 ∨ j = 4 ∨ j = 5 ∨ j = 6 ∨ j = 7 ∨ j = 8 ∨ j = 9 ∨ j = 10 ∨ j = 11 ∨ j = 12 ∨ j = 13 ∨ j = 14 ∨ j = 15 := by omega
theorem cC_A {w : World} {b : Nat} {c : Chn} {pv lv gv wv : Value} {T : TypeId} {fz : Nat × Nat} (hb : w.heap[b]? = some (.cells (cC c pv lv gv wv) T fz)) : ∀ j v, (aC c.part pv lv)[j]? = some v → w.cell? ((⟨b, 4, none⟩ : Addr).add j) = some v := by
 refine cells_part hb fun j v hv => ?_
 rcases nat16 (Array.getElem?_eq_some_iff.1 hv).1 with rfl | rfl | rfl | rfl | rfl | rfl | rfl | rfl | rfl | rfl | rfl | rfl | rfl | rfl | rfl | rfl <;> exact hv
instance : DecidableEq To := fun a b => decidable_of_iff (a.node = b.node ∧ a.w = b.w) (by cases a; cases b; simp)
theorem eqTo : EqV Try.prog 104 encTo := by
 refine ⟨by kernel_rfl, fun k k' w => ?_⟩
 have hs : Try.prog.stoodInHeld 104 = false := by kernel_rfl
 have hu : Try.prog.underlying 104 = some (.struct (Try.prog.fieldsOf 104)) := by kernel_rfl
 have hs' : Try.prog.stoodInHeld 32 = false := by kernel_rfl
 have hu' : Try.prog.underlying 32 = some (.struct (Try.prog.fieldsOf 32)) := by kernel_rfl
 have h3 : Try.prog.underlying 3 = some (.int .i64) := by kernel_rfl
 have h9 : Try.prog.underlying 9 = some .string := by kernel_rfl
 have s3 : scalB Try.prog 3 = true := by kernel_rfl
 have s9 : scalB Try.prog 9 = true := by kernel_rfl
 have hsh : ∀ q : To, (encTo q).toArray = #[.int .i64 q.node, .int .i64 q.w.kind, .int .i64 q.w.frm, .int .i64 q.w.round, .int .i64 q.w.valid, .string q.w.value] := fun _ => rfl
 have d0 : ∀ (a b c d : Int) (s : ByteArray), (part 3 #[Value.int .i64 a, .int .i64 b, .int .i64 c, .int .i64 d, .string s] 0).run Try.prog w = .ok (.int .i64 a) w := fun a b c d s => part_scal s3 rfl w
 have d1 : ∀ (a b c d : Int) (s : ByteArray), (part 3 #[Value.int .i64 a, .int .i64 b, .int .i64 c, .int .i64 d, .string s] 1).run Try.prog w = .ok (.int .i64 b) w := fun a b c d s => part_scal s3 rfl w
 have d2 : ∀ (a b c d : Int) (s : ByteArray), (part 3 #[Value.int .i64 a, .int .i64 b, .int .i64 c, .int .i64 d, .string s] 2).run Try.prog w = .ok (.int .i64 c) w := fun a b c d s => part_scal s3 rfl w
 have d3 : ∀ (a b c d : Int) (s : ByteArray), (part 3 #[Value.int .i64 a, .int .i64 b, .int .i64 c, .int .i64 d, .string s] 3).run Try.prog w = .ok (.int .i64 d) w := fun a b c d s => part_scal s3 rfl w
 have d4 : ∀ (a b c d : Int) (s : ByteArray), (part 9 #[Value.int .i64 a, .int .i64 b, .int .i64 c, .int .i64 d, .string s] 4).run Try.prog w = .ok (.string s) w := fun a b c d s => part_scal s9 rfl w
 have f0 : ∀ (h a b c d : Int) (s : ByteArray), (part 3 #[Value.int .i64 h, .int .i64 a, .int .i64 b, .int .i64 c, .int .i64 d, .string s] 0).run Try.prog w = .ok (.int .i64 h) w := fun h a b c d s => part_scal s3 rfl w
 have f1 : ∀ (h a b c d : Int) (s : ByteArray), (part 32 #[Value.int .i64 h, .int .i64 a, .int .i64 b, .int .i64 c, .int .i64 d, .string s] 1).run Try.prog w = .ok (.agg #[.int .i64 a, .int .i64 b, .int .i64 c, .int .i64 d, .string s]) w := fun h a b c d s => by kernel_rfl
 have inner : ∀ m m' : Wrd, (Op.equalIn 9999 32 (.agg #[.int .i64 m.kind, .int .i64 m.frm, .int .i64 m.round, .int .i64 m.valid, .string m.value]) (.agg #[.int .i64 m'.kind, .int .i64 m'.frm, .int .i64 m'.round, .int .i64 m'.valid, .string m'.value])).run Try.prog w = .ok (decide (m = m')) w := by
   intro m m'
   rw [run_equalIn_struct w 9998 32 _ _ hu' hs']
   simp only [Program.fieldsOf, Try.underlying32, Op.eqFields]
   have q0 := run_equalIn_int (P := Try.prog) w 9997 3 .i64 .i64 m.kind m'.kind h3
   have q1 := run_equalIn_int (P := Try.prog) w 9997 3 .i64 .i64 m.frm m'.frm h3
   have q2 := run_equalIn_int (P := Try.prog) w 9997 3 .i64 .i64 m.round m'.round h3
   have q3 := run_equalIn_int (P := Try.prog) w 9997 3 .i64 .i64 m.valid m'.valid h3
   have q4 := run_equalIn_string (P := Try.prog) w 9997 9 m.value m'.value h9
   obtain ⟨a, b, c, d, e⟩ := m
   obtain ⟨a', b', c', d', e'⟩ := m'
   simp [d0, d1, d2, d3, d4, q0, q1, q2, q3, q4, bytes_toList_inj]
   by_cases h1 : a = a' <;> by_cases h2 : b = b' <;> by_cases h3 : c = c' <;> by_cases h4 : d = d' <;> by_cases h5 : e = e' <;> simp [h1, h2, h3, h4, h5]
 rw [hsh, hsh, run_equalIn_struct w 9999 104 _ _ hu hs]
 simp only [Program.fieldsOf, Try.underlying104, Op.eqFields]
 have q0 := run_equalIn_int (P := Try.prog) w 9998 3 .i64 .i64 k.node k'.node h3
 have q1 := inner k.w k'.w
 obtain ⟨a, b⟩ := k
 obtain ⟨a', b'⟩ := k'
 simp [f0, f1, q0, q1]
 by_cases h1 : a = a' <;> by_cases h2 : b = b' <;> simp [h1, h2]
theorem take_eqT {l1 l2 : List To} {i : Nat} {a : To} (h : l1.take i = l2.take i) (h1 : l1[i]? = some a) (h2 : l2[i]? = some a) : l1.take (i + 1) = l2.take (i + 1) := by
 rw [List.take_add_one, List.take_add_one, h, h1, h2]
theorem tl_nextI {h : Nat} {l : List Wrd} {i : Int} {e : Wrd} (i0 : 0 ≤ i) (he : l[i.toNat]? = some e) : tallsO h (l.take i.toNat) ++ [(⟨(h : Int), e⟩ : To)] = tallsO h (l.take (i + 1).toNat) := by
 rw [show (i + 1).toNat = i.toNat + 1 by omega]; exact tl_next he

set_option maxRecDepth 100000 in
set_option maxHeartbeats 400000 in
theorem c102 (v : ByteArray) (w0 : World) : Cl Try.prog 102 #[.string v] w0 (RetQ w0 fun r => r = .bool (mayB v)) := by
 have M : Sep (fun _ => False) w0 w0 _ := Sep.nil _ w0
 refine enter (vs := [_]) Try.func102 rfl rfl rfl ?_
 intro a F
 refine wp_seq ?_
 refine wp_region_l [.ind] ([0]) rfl ?_
 refine s_I F rfl rfl rfl rfl rfl rfl ?_; clear F a; intro a F
 refine t_endM M ?_; (clear M; try clear w); intro w M
 refine wp_seq ?_
 refine wp_region_l [.ind, .ind, .ind, .ind, .ind, .ind, .ind, .ind] ([0, 1, 2, 3, 4, 5, 6, 7]) rfl ?_
 refine s_I F rfl rfl rfl rfl rfl rfl ?_; clear F a; intro a F
 refine s_bin F rfl rfl rfl rfl rfl rfl rfl ?_; clear F a; intro a F
 refine s_I F rfl rfl rfl rfl rfl rfl ?_; clear F a; intro a F
 refine bsplit F 5 rfl ?_ ?_
 clear F; intro hc0 F
 try rw [hc0] at F
 replace hc0 := nd1 hc0
 refine s_I F rfl rfl rfl rfl rfl rfl ?_; clear F a; intro a F
 refine s_lenS F rfl rfl rfl rfl st_9_G1 rfl ?_; clear F a; intro a F
 refine s_bin F rfl rfl rfl rfl rfl rfl rfl ?_; clear F a; intro a F
 refine s_I F rfl rfl rfl rfl rfl rfl ?_; clear F a; intro a F
 refine s_I F rfl rfl rfl rfl rfl rfl ?_; clear F a; intro a F
 refine t_endM M ?_; (clear M; try clear w); intro w M
 refine wp_ret ?_
 refine ret1 F rfl rfl ?_
 refine ⟨_, rfl, ?_, M.chg⟩
 congr 1
 clear M F
 have he0 : VoteM.empty = { data := #[] } := rfl
 unfold mayB
 rw [he0]
 grind
 clear F; intro hc1 F
 try rw [hc1] at F
 replace hc1 := nd0 hc1
 refine s_no F rfl rfl rfl rfl ?_; clear F a; intro a F
 refine s_no F rfl rfl rfl rfl ?_; clear F a; intro a F
 refine s_no F rfl rfl rfl rfl ?_; clear F a; intro a F
 refine s_I F rfl rfl rfl rfl rfl rfl ?_; clear F a; intro a F
 refine s_I F rfl rfl rfl rfl rfl rfl ?_; clear F a; intro a F
 refine t_endM M ?_; (clear M; try clear w); intro w M
 refine wp_ret ?_
 refine ret1 F rfl rfl ?_
 refine ⟨_, rfl, ?_, M.chg⟩
 congr 1
 clear M F
 have he0 : VoteM.empty = { data := #[] } := rfl
 unfold mayB
 rw [he0]
 grind
set_option maxRecDepth 100000 in
set_option maxHeartbeats 400000 in
theorem c122 (h : Nat) (l : List Wrd) (hl : l.length ≤ 100000) (v : Value) (w0 : World) (hr : RdSl w0.heap v l.length 5 (l.flatMap encW)) : Cl Try.prog 122 #[.int .i64 h, v] w0 (RetS [] w0 (fun r (x : Value) => r = x) fun x => [tlR x (tallsO h l)]) := by
 have M : Sep (fun b => b ∈ foots ([] : List Res)) w0 w0 _ := Sep.nil _ w0
 have hro := (ro_of hr).nil
 obtain ⟨A, cc, rfl, hcc⟩ := hr.form
 refine enter (vs := [_, _]) Try.func122 rfl rfl rfl ?_
 intro a F
 refine wp_seq ?_
 refine wp_region_l [.ind] ([0]) rfl ?_
 refine s_I F rfl rfl rfl rfl rfl rfl ?_; clear F a; intro a F
 refine t_endM M ?_; (clear M; try clear w); intro w M
 refine wp_seq ?_
 replace M := M.nilT encTo 104 6
 refine wp_region_l [.ind] ([0]) rfl ?_
 refine s_I F rfl rfl rfl rfl rfl rfl ?_; clear F a; intro a F
 refine t_endM M ?_; (clear M; try clear w); intro w M
 refine wp_seq ?_
 refine wp_seq ?_
 refine wp_region_l [.ind] ([0]) rfl ?_
 refine s_I F rfl rfl rfl rfl rfl rfl ?_; clear F a; intro a F
 refine t_endM M ?_; (clear M; try clear w); intro w M
 refine wp_block ?_
 have M1 : Sep _ _ _ (slR _ _ 104 _ _ :: _) := M; replace M := M1; clear M1
 refine loopX (X := (Int) × (Option Addr) × (Nat)) F [0, 1, 4] rfl (fun ((i, A, d) : (Int) × (Option Addr) × (Nat)) => (0 ≤ i) ∧ (i ≤ l.length)) (fun ((i, A, d) : (Int) × (Option Addr) × (Nat)) => [(5, .slice A (tallsO h (l.take i.toNat)).length d), (6, .int .i64 i)]) (fun ((i, A, d) : (Int) × (Option Addr) × (Nat)) => [tlR (.slice A (tallsO h (l.take i.toNat)).length d) (tallsO h (l.take i.toNat))]) (fun ((i, A, d) : (Int) × (Option Addr) × (Nat)) => l.length - i.toNat) ((0), (none), (0)) M ⟨(by omega), (by omega)⟩ (F.keep [5, 6, 0, 1, 4] rfl) ?_
 clear F M; clear a; (try clear w)
 rintro ⟨i, A, d⟩ a w ⟨i0, i1⟩ F M; try dsimp only at F M
 try simp only [List.cons_append, List.nil_append] at F M
 try dsimp only at i0 i1
 have hql : (tallsO h (l.take i.toNat)).length = i.toNat := by rw [tallsO_len, List.length_take]; omega
 refine wp_seq ?_
 refine wp_seq ?_
 refine wp_region_l [.ind, .ind, .ind, .ind] ([0, 1, 2, 3]) rfl ?_
 refine s_I F rfl rfl rfl rfl rfl rfl ?_; clear F a; intro a F
 refine s_I F rfl rfl rfl rfl rfl rfl ?_; clear F a; intro a F
 refine s_len F rfl rfl rfl rfl sl_22_G1 rfl ?_; clear F a; intro a F
 refine s_bin F rfl rfl rfl rfl rfl rfl rfl ?_; clear F a; intro a F
 refine t_endM M ?_; (clear M; try clear w); intro w M
 refine c_if F rfl ?_ ?_
 clear F; intro hc0 F
 try rw [hc0] at F
 replace hc0 := of_decide_eq_true hc0
 refine wp_skip ?_
 refine wp_seq ?_
 refine wp_block ?_
 replace F := F.keep [0, 1, 4, 5, 6] rfl
 refine wp_region_l [.ind, .ind, .ind, .ind, .ind, .rd, .ind, .wr, .wr, .ind] ([0, 1, 2, 3, 4, 5, 6, 7, 8, 9]) rfl ?_
 refine s_I F rfl rfl rfl rfl rfl rfl ?_; clear F a; intro a F
 refine s_I F rfl rfl rfl rfl rfl rfl ?_; clear F a; intro a F
 refine s_I F rfl rfl rfl rfl rfl rfl ?_; clear F a; intro a F
 refine s_I F rfl rfl rfl rfl rfl rfl ?_; clear F a; intro a F
 refine s_ix F rfl rfl rfl rfl sl_22_G1 rfl rfl (by exact M.chg.ro hro) (by omega) (by omega) ?_; clear F a; intro e17 he17 a F
 refine s_lda F rfl rfl rfl rfl ag_32_G1 rfl rfl (rdsX (M.chg.ro hro) (by intro e; rfl) he17) ?_; clear F a; intro a F
 refine s_bld F rfl rfl rfl rfl (parts2 F rfl rfl) (bl_104_0_1_G1 _ _ _ _ _ _) ?_; clear F a; intro a F
 refine s_bs F M rfl rfl rfl rfl (parts1 F rfl) (bs_92_1_G1 _ _ _ _ _ _) ?_; (clear F a M; try clear w); intro b20 w M a F
 refine s_apE ((⟨(h : Int), e17⟩ : To)) F M.f1 rfl rfl rfl rfl tl_92_G1 rfl rfl (by exact rd_blk M.h0 rfl) rfl (by omega) (fun _ _ _ _ => pend_nil) ?_; (clear F a M; try clear w); intro A21 c21 w M a F
 refine s_I F rfl rfl rfl rfl rfl rfl ?_; clear F a; intro a F
 refine t_endM M ?_; (clear M; try clear w); intro w M
 replace F := F.keep [0, 1, 4, 5, 6] rfl
 refine wp_region_l [.ind, .ind, .ind] ([0, 1, 2]) rfl ?_
 refine s_I F rfl rfl rfl rfl rfl rfl ?_; clear F a; intro a F
 refine s_add F rfl rfl rfl rfl rfl rfl (by unfold In64; omega) ?_; clear F a; intro a F
 refine s_I F rfl rfl rfl rfl rfl rfl ?_; clear F a; intro a F
 refine t_endM M ?_; (clear M; try clear w); intro w M
 rw [tl_nextI i0 he17] at F M
 refine again ((i + 1), (A21), (c21)) (by show _ < _; (try dsimp only); omega) ⟨(by omega), (by assumption)⟩ (F.keep [5, 6, 0, 1, 4] rfl) ?_
 try dsimp only [List.cons_append, List.nil_append]
 refine M.pick ?_; repeat (first | exact PkG.nil | refine PkG.cons 0 rfl rfl ?_)
 clear F; intro hc1 F
 try rw [hc1] at F
 replace hc1 := of_decide_eq_false hc1
 refine wp_exit ?_
 refine wp_seq ?_
 obtain rfl : i = (l.length : Int) := by omega
 rw [Int.toNat_natCast, List.take_length] at F M
 replace F := F.keep [0, 1, 4, 5, 6] rfl
 refine wp_region_l [.ind, .ind] ([0, 1]) rfl ?_
 refine s_I F rfl rfl rfl rfl rfl rfl ?_; clear F a; intro a F
 refine s_I F rfl rfl rfl rfl rfl rfl ?_; clear F a; intro a F
 refine t_endM M ?_; (clear M; try clear w); intro w M
 refine wp_ret ?_
 refine ret1 F rfl rfl ?_
 refine ⟨_, .slice A (tallsO h l).length d, rfl, rfl, ?_⟩
 refine M.pick ?_; repeat (first | exact PkG.nil | refine PkG.cons 0 rfl rfl ?_)
set_option maxRecDepth 100000 in
set_option maxHeartbeats 400000 in
theorem c67 (n t me : Int) (w0 : World) : Cl Try.prog 67 #[.int .i64 n, .int .i64 t, .int .i64 me] w0 (RetQ w0 fun o => o = .tuple #[cV (ChnM.newC n t me zS) nilV nilV nilV nilV, .bool (okA n t me 0 tilde)]) := by
 have M : Sep (fun _ => False) w0 w0 _ := Sep.nil _ w0
 refine enter (vs := [_, _, _]) Try.func67 rfl rfl rfl ?_
 intro a F
 refine wp_seq ?_
 refine wp_region_l [.wr, .ind] ([0, 1]) rfl ?_
 refine s_alc F M rfl rfl rfl rfl zr_100_G1 rfl ?_; (clear F a M; try clear w); intro b6 w M a F
 refine s_I F rfl rfl rfl rfl rfl rfl ?_; clear F a; intro a F
 refine t_endM M ?_; (clear M; try clear w); intro w M
 refine wp_seq ?_
 refine wp_region_l [.ind, .ind, .ind, .ind, .ind, .ind, .wr, .ind, .ind, .ind, .ind, .ind, .ind, .ind, .ind, .ind, .ind, .wr, .ind] ([0, 1, 2, 3, 4, 5, 6, 7, 8, 9, 10, 11, 12, 13, 14, 15, 16, 17, 18]) rfl ?_
 refine s_I F rfl rfl rfl rfl rfl rfl ?_; clear F a; intro a F
 refine s_I F rfl rfl rfl rfl rfl rfl ?_; clear F a; intro a F
 refine s_I F rfl rfl rfl rfl rfl rfl ?_; clear F a; intro a F
 refine s_bld F rfl rfl rfl rfl (parts3 F rfl rfl rfl) (bl_100_0_1_2_G1 _ _ _) ?_; clear F a; intro a F
 refine s_I F rfl rfl rfl rfl rfl rfl ?_; clear F a; intro a F
 refine s_I F rfl rfl rfl rfl rfl rfl ?_; clear F a; intro a F
 refine s_cq F M rfl rfl rfl rfl rfl (rfl : _ = some [_, _]) cb_34_G1 (fun nd_ => c34 n t _) ?_; (clear F a M; try clear w); rintro v w rfl M a F
 refine s_bin F rfl rfl rfl rfl rfl rfl rfl ?_; clear F a; intro a F
 refine s_I F rfl rfl rfl rfl rfl rfl ?_; clear F a; intro a F
 refine bsplit F 16 rfl ?_ ?_
 clear F; intro hc0 F
 try rw [hc0] at F
 replace hc0 := of_decide_eq_true hc0
 refine s_I F rfl rfl rfl rfl rfl rfl ?_; clear F a; intro a F
 refine s_bin F rfl rfl rfl rfl rfl rfl rfl ?_; clear F a; intro a F
 refine s_I F rfl rfl rfl rfl rfl rfl ?_; clear F a; intro a F
 refine s_I F rfl rfl rfl rfl rfl rfl ?_; clear F a; intro a F
 refine bsplit F 20 rfl ?_ ?_
 clear F; intro hc1 F
 try rw [hc1] at F
 replace hc1 := of_decide_eq_true hc1
 refine s_I F rfl rfl rfl rfl rfl rfl ?_; clear F a; intro a F
 refine s_I F rfl rfl rfl rfl rfl rfl ?_; clear F a; intro a F
 refine s_bin F rfl rfl rfl rfl rfl rfl rfl ?_; clear F a; intro a F
 refine s_I F rfl rfl rfl rfl rfl rfl ?_; clear F a; intro a F
 refine s_stW F M rfl rfl rfl sz_100_G1 rfl rfl rfl rfl rfl ?_; (clear M; try clear w); intro w M
 refine s_I F rfl rfl rfl rfl rfl rfl ?_; clear F a; intro a F
 refine t_endM M ?_; (clear M; try clear w); intro w M
 refine wp_ret ?_
 refine rt2 F rfl (by exact rv_a F rfl ag_100_G1 rfl (cells_whole M.h0)) (rv_t F rfl) ?_
 have hqn := q_nonneg n t
 first
 | (rw [okT_le (by omega) (by omega)]; exact ⟨_, rfl, rfl, M.chg⟩)
 | (rw [okT_no (by omega)]; exact ⟨_, rfl, rfl, M.chg⟩)
 clear F; intro hc2 F
 try rw [hc2] at F
 replace hc2 := of_decide_eq_false hc2
 refine s_no F rfl rfl rfl rfl ?_; clear F a; intro a F
 refine s_no F rfl rfl rfl rfl ?_; clear F a; intro a F
 refine s_no F rfl rfl rfl rfl ?_; clear F a; intro a F
 refine s_I F rfl rfl rfl rfl rfl rfl ?_; clear F a; intro a F
 refine s_stW F M rfl rfl rfl sz_100_G1 rfl rfl rfl rfl rfl ?_; (clear M; try clear w); intro w M
 refine s_I F rfl rfl rfl rfl rfl rfl ?_; clear F a; intro a F
 refine t_endM M ?_; (clear M; try clear w); intro w M
 refine wp_ret ?_
 refine rt2 F rfl (by exact rv_a F rfl ag_100_G1 rfl (cells_whole M.h0)) (rv_t F rfl) ?_
 have hqn := q_nonneg n t
 first
 | (rw [okT_le (by omega) (by omega)]; exact ⟨_, rfl, rfl, M.chg⟩)
 | (rw [okT_no (by omega)]; exact ⟨_, rfl, rfl, M.chg⟩)
 clear F; intro hc3 F
 try rw [hc3] at F
 replace hc3 := of_decide_eq_false hc3
 refine s_no F rfl rfl rfl rfl ?_; clear F a; intro a F
 refine s_no F rfl rfl rfl rfl ?_; clear F a; intro a F
 refine s_I F rfl rfl rfl rfl rfl rfl ?_; clear F a; intro a F
 refine s_I F rfl rfl rfl rfl rfl rfl ?_; clear F a; intro a F
 refine s_no F rfl rfl rfl rfl ?_; clear F a; intro a F
 refine s_no F rfl rfl rfl rfl ?_; clear F a; intro a F
 refine s_no F rfl rfl rfl rfl ?_; clear F a; intro a F
 refine s_I F rfl rfl rfl rfl rfl rfl ?_; clear F a; intro a F
 refine s_stW F M rfl rfl rfl sz_100_G1 rfl rfl rfl rfl rfl ?_; (clear M; try clear w); intro w M
 refine s_I F rfl rfl rfl rfl rfl rfl ?_; clear F a; intro a F
 refine t_endM M ?_; (clear M; try clear w); intro w M
 refine wp_ret ?_
 refine rt2 F rfl (by exact rv_a F rfl ag_100_G1 rfl (cells_whole M.h0)) (rv_t F rfl) ?_
 have hqn := q_nonneg n t
 first
 | (rw [okT_le (by omega) (by omega)]; exact ⟨_, rfl, rfl, M.chg⟩)
 | (rw [okT_no (by omega)]; exact ⟨_, rfl, rfl, M.chg⟩)
set_option maxRecDepth 100000 in
set_option maxHeartbeats 400000 in
theorem c68 (c : Chn) (hwl : c.wants.length ≤ 8) {PA LA GA : Option Addr} {pn pc ln lc gn gc : Nat} (wv : Value) (s : ByteArray) (w0 : World) (ho : Own w0.heap [strR wv c.wants]) : Cl Try.prog 68 #[cV c (.slice PA pn pc) (.slice LA ln lc) (.slice GA gn gc) wv, .string s] w0 (RetS [strR wv c.wants] w0 (fun o (x : Value) => o = .tuple #[cV (c.want s) (.slice PA pn pc) (.slice LA ln lc) (.slice GA gn gc) x, .int .i64 (c.wantE s)]) fun x => [strR x (c.want s).wants]) := by
 obtain ⟨WA, WC, rfl⟩ := SlOk.form (ho.ok (strR wv c.wants) (by simp))
 have M : Sep (fun b_ => b_ ∈ foots [strR (.slice WA c.wants.length WC) c.wants]) w0 w0 _ := Sep.start ho
 refine enter (vs := [_, _]) Try.func68 rfl rfl rfl ?_
 intro a F
 refine wp_seq ?_
 refine wp_region_l [.wr, .wr, .ind] ([0, 1, 2]) rfl ?_
 refine s_bxA F M rfl rfl rfl rfl rfl ?_; (clear F a M; try clear w); intro b2 w M a F
 refine s_alc F M rfl rfl rfl rfl zr_100_G1 rfl ?_; (clear F a M; try clear w); intro b4 w M a F
 refine s_I F rfl rfl rfl rfl rfl rfl ?_; clear F a; intro a F
 refine t_endM M ?_; (clear M; try clear w); intro w M
 refine wp_seq ?_
 refine wp_seq ?_
 refine wp_region_l [.ind, .wr, .ind] ([0, 1, 2]) rfl ?_
 refine s_I F rfl rfl rfl rfl rfl rfl ?_; clear F a; intro a F
 refine s_cq F M rfl rfl rfl rfl rfl (rfl : _ = some [_]) cb_102_G1 (fun nd_ => c102 s _) ?_; (clear F a M; try clear w); rintro v w rfl M a F
 refine s_I F rfl rfl rfl rfl rfl rfl ?_; clear F a; intro a F
 refine t_endM M ?_; (clear M; try clear w); intro w M
 refine c_if F rfl ?_ ?_
 clear F; intro hc0 F
 try rw [hc0] at F
 replace hc0 := nt hc0
 refine wp_seq ?_
 replace F := F.keep [0, 1, 2, 4, 5] rfl
 refine wp_region_l [.rd, .wr, .ind] ([0, 1, 2]) rfl ?_
 refine s_lda F rfl rfl rfl rfl ag_100_G1 rfl rfl (cells_whole M.h1) ?_; clear F a; intro a F
 refine s_stW F M rfl rfl rfl sz_100_G1 rfl rfl rfl rfl rfl ?_; (clear M; try clear w); intro w M
 refine s_I F rfl rfl rfl rfl rfl rfl ?_; clear F a; intro a F
 refine t_endM M ?_; (clear M; try clear w); intro w M
 refine wp_ret ?_
 refine rt2 F rfl (by exact rv_a F rfl ag_100_G1 rfl (cells_whole M.h0)) (rv_t F rfl) ?_
 have hm := want_bad (c := c) (v := s) (by simp_all)
 rw [hm.1, hm.2]
 refine ⟨_, .slice WA c.wants.length WC, rfl, rfl, ?_⟩
 have M1 : Sep _ _ _ (slR (.slice WA _ WC) _ _ _ _ :: _) := M.f2; replace M := M1; clear M1
 exact Sep.left (m := [_]) M
 clear F; intro hc1 F
 try rw [hc1] at F
 replace hc1 := nf hc1
 refine wp_skip ?_
 refine wp_seq ?_
 refine wp_seq ?_
 replace F := F.keep [0, 1, 2, 4, 5] rfl
 refine wp_region_l [.ind, .rd, .ind, .ind] ([0, 1, 2, 3]) rfl ?_
 refine s_fa0 F rfl rfl rfl rfl fa_100_6_G1 rfl ?_; clear F a; intro a F
 refine s_ld F rfl rfl rfl rfl sc_69_G1 rfl (by exact cell_of_blk M.h1 (lit rfl)) ?_; clear F a; intro a F
 refine s_len F rfl rfl rfl rfl sl_69_G1 rfl ?_; clear F a; intro a F
 refine s_bin F rfl rfl rfl rfl rfl rfl rfl ?_; clear F a; intro a F
 refine t_endM M ?_; (clear M; try clear w); intro w M
 refine c_if F rfl ?_ ?_
 clear F; intro hc2 F
 try rw [hc2] at F
 replace hc2 := of_decide_eq_true hc2
 refine wp_seq ?_
 replace F := F.keep [0, 1, 2, 4, 5] rfl
 refine wp_region_l [.rd, .wr, .ind] ([0, 1, 2]) rfl ?_
 refine s_lda F rfl rfl rfl rfl ag_100_G1 rfl rfl (cells_whole M.h1) ?_; clear F a; intro a F
 refine s_stW F M rfl rfl rfl sz_100_G1 rfl rfl rfl rfl rfl ?_; (clear M; try clear w); intro w M
 refine s_I F rfl rfl rfl rfl rfl rfl ?_; clear F a; intro a F
 refine t_endM M ?_; (clear M; try clear w); intro w M
 refine wp_ret ?_
 refine rt2 F rfl (by exact rv_a F rfl ag_100_G1 rfl (cells_whole M.h0)) (rv_t F rfl) ?_
 have hm := want_full (c := c) (v := s) (by simp_all) (by omega)
 rw [hm.1, hm.2]
 refine ⟨_, .slice WA c.wants.length WC, rfl, rfl, ?_⟩
 have M1 : Sep _ _ _ (slR (.slice WA _ WC) _ _ _ _ :: _) := M.f2; replace M := M1; clear M1
 exact Sep.left (m := [_]) M
 clear F; intro hc3 F
 try rw [hc3] at F
 replace hc3 := of_decide_eq_false hc3
 refine wp_skip ?_
 refine wp_seq ?_
 replace F := F.keep [0, 1, 2, 4, 5] rfl
 refine wp_region_l [.ind, .rd, .wr, .ind, .wr, .wr, .ind, .wr] ([0, 1, 2, 3, 4, 5, 6, 7]) rfl ?_
 refine s_fa0 F rfl rfl rfl rfl fa_100_6_G1 rfl ?_; clear F a; intro a F
 refine s_ld F rfl rfl rfl rfl sc_69_G1 rfl (by exact cell_of_blk M.h1 (lit rfl)) ?_; clear F a; intro a F
 replace M := M.nilT encS 9 1
 refine s_apM (c.wants) F M rfl rfl rfl rfl tl_69_G1 rfl rfl (by exact SlOk.rd M.h3) (by intro e; rfl) (by simp; omega) (fun _ _ _ _ => pend_nil) ?_; (clear F a M; try clear w); intro A17 c17 w M a F
 refine s_I F rfl rfl rfl rfl rfl rfl ?_; clear F a; intro a F
 refine s_bs F M rfl rfl rfl rfl (parts1 F rfl) (bs_69_1_G1 _) ?_; (clear F a M; try clear w); intro b19 w M a F
 refine s_apE ((s : ByteArray)) F M.f1 rfl rfl rfl rfl tl_69_G1 rfl rfl (by exact rd_blk M.h0 rfl) rfl (by simp; omega) (fun _ _ _ _ => pend_nil) ?_; (clear F a M; try clear w); intro A20 c20 w M a F
 refine s_fa0 F rfl rfl rfl rfl fa_100_6_G1 rfl ?_; clear F a; intro a F
 refine s_st F M.f3 rfl rfl rfl sz_69_G1 rfl rfl rfl (by exact Nat.le_of_ble_eq_true rfl) ?_; (clear M; try clear w); intro w M
 refine t_endM M ?_; (clear M; try clear w); intro w M
 refine wp_seq ?_
 replace F := F.keep [0, 1, 2, 4, 5] rfl
 refine wp_region_l [.rd, .wr, .ind] ([0, 1, 2]) rfl ?_
 refine s_lda F rfl rfl rfl rfl ag_100_G1 rfl rfl (cells_whole M.h0) ?_; clear F a; intro a F
 refine s_stW F M.f3 rfl rfl rfl sz_100_G1 rfl rfl rfl rfl rfl ?_; (clear M; try clear w); intro w M
 refine s_I F rfl rfl rfl rfl rfl rfl ?_; clear F a; intro a F
 refine t_endM M ?_; (clear M; try clear w); intro w M
 refine wp_ret ?_
 refine rt2 F rfl (by exact rv_a F rfl ag_100_G1 rfl (cells_whole M.h0)) (rv_t F rfl) ?_
 have hm := want_ok (c := c) (v := s) (by simp_all) (by omega)
 rw [hm.1, hm.2]
 rw [List.nil_append] at M
 refine ⟨_, .slice A20 (c.wants ++ [s]).length c20, rfl, rfl, ?_⟩
 have M1 : Sep _ _ _ (slR (.slice A20 _ _) _ _ _ _ :: _) := M.f2; replace M := M1; clear M1
 exact Sep.left (m := [_]) M
set_option maxRecDepth 100000 in
set_option maxHeartbeats 400000 in
theorem c75 (l1 l2 : List To) (hl : l1.length ≤ 100000) (v1 v2 : Value) (w0 : World) (hr1 : RdSl w0.heap v1 l1.length 6 (l1.flatMap encTo)) (hr2 : RdSl w0.heap v2 l2.length 6 (l2.flatMap encTo)) : Cl Try.prog 75 #[v1, v2] w0 (RetQ w0 fun r => r = .bool (decide (l1 = l2))) := by
 have M : Sep (fun _ => False) w0 w0 _ := Sep.nil _ w0
 have hro1 := ro_of hr1
 have hro2 := ro_of hr2
 obtain ⟨A1, d1, rfl, hcc1⟩ := hr1.form
 obtain ⟨A2, d2, rfl, hcc2⟩ := hr2.form
 refine enter (vs := [_, _]) Try.func75 rfl rfl rfl ?_
 intro a F
 refine wp_seq ?_
 refine wp_region_l [.ind] ([0]) rfl ?_
 refine s_I F rfl rfl rfl rfl rfl rfl ?_; clear F a; intro a F
 refine t_endM M ?_; (clear M; try clear w); intro w M
 refine wp_seq ?_
 refine wp_seq ?_
 refine wp_region_l [.ind, .ind, .ind, .ind, .ind] ([0, 1, 2, 3, 4]) rfl ?_
 refine s_I F rfl rfl rfl rfl rfl rfl ?_; clear F a; intro a F
 refine s_len F rfl rfl rfl rfl sl_92_G1 rfl ?_; clear F a; intro a F
 refine s_I F rfl rfl rfl rfl rfl rfl ?_; clear F a; intro a F
 refine s_len F rfl rfl rfl rfl sl_92_G1 rfl ?_; clear F a; intro a F
 refine s_bin F rfl rfl rfl rfl rfl rfl rfl ?_; clear F a; intro a F
 refine t_endM M ?_; (clear M; try clear w); intro w M
 refine c_if F rfl ?_ ?_
 clear F; intro hc0 F
 try rw [hc0] at F
 replace hc0 := nd1 hc0
 refine wp_seq ?_
 replace F := F.keep [0, 1, 4] rfl
 refine wp_region_l [.ind] ([0]) rfl ?_
 refine s_I F rfl rfl rfl rfl rfl rfl ?_; clear F a; intro a F
 refine t_endM M ?_; (clear M; try clear w); intro w M
 refine wp_ret ?_
 refine ret1 F rfl rfl ?_
 refine ⟨_, rfl, ?_, M.chg⟩
 rw [decide_eq_false]
 intro e
 have := congrArg List.length e
 omega
 clear F; intro hc1 F
 try rw [hc1] at F
 replace hc1 := nd0 hc1
 refine wp_skip ?_
 refine wp_seq ?_
 refine wp_seq ?_
 replace F := F.keep [0, 1, 4] rfl
 refine wp_region_l [.ind] ([0]) rfl ?_
 refine s_I F rfl rfl rfl rfl rfl rfl ?_; clear F a; intro a F
 refine t_endM M ?_; (clear M; try clear w); intro w M
 refine wp_block ?_
 refine loopX (X := (Int)) F [0, 1] rfl (fun (i : Int) => (0 ≤ i) ∧ (i ≤ l1.length) ∧ (l1.length = l2.length) ∧ (l1.take i.toNat = l2.take i.toNat)) (fun (i : Int) => [(5, .int .i64 i)]) (fun (i : Int) => []) (fun (i : Int) => l1.length - i.toNat) (0) M ⟨(by omega), (by omega), (by omega), (by simp)⟩ (F.keep [5, 0, 1] rfl) ?_
 clear F M; clear a; (try clear w)
 rintro i a w ⟨i0, i1, he, ht⟩ F M; try dsimp only at F M
 try simp only [List.cons_append, List.nil_append] at F M
 try dsimp only at i0 i1 he ht
 refine wp_seq ?_
 refine wp_seq ?_
 refine wp_region_l [.ind, .ind, .ind, .ind] ([0, 1, 2, 3]) rfl ?_
 refine s_I F rfl rfl rfl rfl rfl rfl ?_; clear F a; intro a F
 refine s_I F rfl rfl rfl rfl rfl rfl ?_; clear F a; intro a F
 refine s_len F rfl rfl rfl rfl sl_92_G1 rfl ?_; clear F a; intro a F
 refine s_bin F rfl rfl rfl rfl rfl rfl rfl ?_; clear F a; intro a F
 refine t_endM M ?_; (clear M; try clear w); intro w M
 refine c_if F rfl ?_ ?_
 clear F; intro hc2 F
 try rw [hc2] at F
 replace hc2 := of_decide_eq_true hc2
 refine wp_skip ?_
 refine wp_seq ?_
 refine wp_block ?_
 refine wp_seq ?_
 replace F := F.keep [0, 1, 5] rfl
 refine wp_region_t [.ind, .ind, .ind, .rd, .ind, .ind, .ind, .rd, .ind] [] (otOf [0, 1, 2, 3, 4, 5, 6, 7, 8]) mixed (by kernel_rfl) ?_
 refine s_I F rfl rfl rfl rfl rfl rfl ?_; clear F a; intro a F
 refine s_I F rfl rfl rfl rfl rfl rfl ?_; clear F a; intro a F
 refine s_ix F rfl rfl rfl rfl sl_92_G1 rfl rfl (by exact M.chg.ro hro1) (by omega) (by omega) ?_; clear F a; intro e19 he19 a F
 refine s_lda F rfl rfl rfl rfl ag_104_G1 rfl rfl (rdsX (M.chg.ro hro1) (by intro e; rfl) he19) ?_; clear F a; intro a F
 refine s_I F rfl rfl rfl rfl rfl rfl ?_; clear F a; intro a F
 refine s_I F rfl rfl rfl rfl rfl rfl ?_; clear F a; intro a F
 refine s_ix F rfl rfl rfl rfl sl_92_G1 rfl rfl (by exact M.chg.ro hro2) (by omega) (by omega) ?_; clear F a; intro e23 he23 a F
 try (obtain rfl := Option.some.inj (he19.symm.trans he23))
 refine s_lda F rfl rfl rfl rfl ag_104_G1 rfl rfl (rdsX (M.chg.ro hro2) (by intro e; rfl) he23) ?_; clear F a; intro a F
 refine s_sne eqTo F rfl rfl rfl rfl rfl rfl ?_; clear F a; intro a F
 refine t_endM M ?_; (clear M; try clear w); intro w M
 refine c_if F rfl ?_ ?_
 clear F; intro hc3 F
 try rw [hc3] at F
 replace hc3 := nd1 hc3
 refine wp_seq ?_
 replace F := F.keep [0, 1, 5] rfl
 refine wp_region_l [.ind] ([0]) rfl ?_
 refine s_I F rfl rfl rfl rfl rfl rfl ?_; clear F a; intro a F
 refine t_endM M ?_; (clear M; try clear w); intro w M
 refine wp_ret ?_
 refine ret1 F rfl rfl ?_
 refine ⟨_, rfl, ?_, M.chg⟩
 rw [decide_eq_false]
 intro e
 subst e
 rw [he19] at he23
 exact absurd (Option.some.inj he23) (by assumption)
 clear F; intro hc4 F
 try rw [hc4] at F
 replace hc4 := nd0 hc4
 refine wp_skip ?_
 replace F := F.keep [0, 1, 5] rfl
 refine wp_region_l [.ind, .ind, .ind] ([0, 1, 2]) rfl ?_
 refine s_I F rfl rfl rfl rfl rfl rfl ?_; clear F a; intro a F
 refine s_add F rfl rfl rfl rfl rfl rfl (by unfold In64; omega) ?_; clear F a; intro a F
 refine s_I F rfl rfl rfl rfl rfl rfl ?_; clear F a; intro a F
 refine t_endM M ?_; (clear M; try clear w); intro w M
 refine again (i + 1) (by show _ < _; (try dsimp only); omega) ⟨(by omega), (by assumption), (by assumption), (by rw [show (i + 1).toNat = i.toNat + 1 by omega]; exact take_eqT ht he19 (by rw [he23]; exact congrArg some (Eq.symm (by assumption))))⟩ (F.keep [5, 0, 1] rfl) ?_
 try dsimp only [List.cons_append, List.nil_append]
 refine M.pick ?_; repeat (exact PkG.nil)
 clear F; intro hc5 F
 try rw [hc5] at F
 replace hc5 := of_decide_eq_false hc5
 refine wp_exit ?_
 refine wp_seq ?_
 replace F := F.keep [0, 1, 5] rfl
 refine wp_region_l [.ind] ([0]) rfl ?_
 refine s_I F rfl rfl rfl rfl rfl rfl ?_; clear F a; intro a F
 refine t_endM M ?_; (clear M; try clear w); intro w M
 refine wp_ret ?_
 refine ret1 F rfl rfl ?_
 refine ⟨_, rfl, ?_, M.chg⟩
 rw [decide_eq_true]
 rw [List.take_of_length_le (by omega), List.take_of_length_le (by omega)] at ht
 exact ht
end Go.Proofs.Ytboibdmflblphaa
