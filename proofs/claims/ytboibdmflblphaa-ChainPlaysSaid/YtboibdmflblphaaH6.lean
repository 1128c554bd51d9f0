/- H6 of the seat. -/
import Derived.Test.YtboibdmflblphaaH5
namespace Go.Proofs.Ytboibdmflblphaa
open Go Fw
theorem sl_69_H6 : slcB Try.prog 69 = some (9, 1) := by kernel_rfl
theorem sc_9_H6 : scalB Try.prog 9 = true := by kernel_rfl
theorem pt_87_H6 : ptrB Try.prog 87 = true := by kernel_rfl
theorem cb_58_H6 : callB Try.prog 58 = true := by kernel_rfl
theorem cb_59_H6 : callB Try.prog 59 = true := by kernel_rfl
theorem cb_61_H6 : callB Try.prog 61 = true := by kernel_rfl
theorem sl_92_H6 : slcB Try.prog 92 = some (104, 6) := by kernel_rfl
theorem ag_104_H6 : aggB Try.prog 104 = some 6 := by kernel_rfl
theorem cb_71_H6 : callB Try.prog 71 = true := by kernel_rfl
theorem tl_92_H6 : SlT Try.prog 92 104 6 56 (.agg #[.int .i64 0, .int .i64 0, .int .i64 0, .int .i64 0, .int .i64 0, .string { data := #[] }]) := ⟨by kernel_rfl, by kernel_rfl, by kernel_rfl, by kernel_rfl, by decide⟩
theorem bs_69_1_H6 : ∀ (x0 : ByteArray), News Try.prog (Instr.buildSlice 69 1 #[(0, .string x0)]) (.cells #[.string x0] 9) fun b => .slice (some ⟨b, 0, none⟩) 1 1 := by intros; intro w; kernel_rfl
theorem cb_60_H6 : callB Try.prog 60 = true := by kernel_rfl
theorem cb_63_H6 : callB Try.prog 63 = true := by kernel_rfl
theorem bs_69_3_H6 : ∀ (x0 : ByteArray) (x1 : ByteArray) (x2 : ByteArray), News Try.prog (Instr.buildSlice 69 3 #[(0, .string x0), (1, .string x1), (2, .string x2)]) (.cells #[.string x0, .string x1, .string x2] 9) fun b => .slice (some ⟨b, 0, none⟩) 3 3 := by intros; intro w; kernel_rfl
theorem cb_62_H6 : callB Try.prog 62 = true := by kernel_rfl
theorem cb_64_H6 : callB Try.prog 64 = true := by kernel_rfl
theorem cb_65_H6 : callB Try.prog 65 = true := by kernel_rfl
open VoteM AgrM CouM ChnM

theorem ro_own {w : World} {p q : Res} {r : List Res} {v : Value} {m sz : Nat} {xs : List Value} (o : Own w.heap (p :: q :: r)) (hr : RdSl w.heap v m sz xs) (hf : ∀ b ∈ (rdR v m sz xs).foot, b ∈ q.foot) : Ro (fun b => b ∈ foots [p]) w (rdR v m sz xs) := by
 refine ⟨hr, fun b hb => ⟨o.lt b ?_, fun hp => ?_⟩⟩
 · simp only [foots, List.flatMap_cons, List.mem_append]
   exact .inr (.inl (hf b hb))
 · have := o.nd
   simp only [foots, List.flatMap_cons, List.nodup_append, List.flatMap_nil, List.append_nil] at this hp
   exact this.2.2 b hp b (List.mem_append_left _ (hf b hb)) rfl
theorem take_eq {α : Type} {l1 l2 : List α} {i : Nat} {a : α} (h : l1.take i = l2.take i) (h1 : l1[i]? = some a) (h2 : l2[i]? = some a) : l1.take (i + 1) = l2.take (i + 1) := by
 rw [List.take_add_one, List.take_add_one, h, h1, h2]
/-! ### the example -/
def tV : ByteArray := { data := #[118] }
def tW : ByteArray := { data := #[119] }
def nC : Chn := ChnM.newC 1 0 1 (newA 1 0 1 0 tilde)
def chQ : Nat → Chn × List To
 | 0 => ((nC.want tV).start, (nC.want tV).startO)
 | k + 1 => match (chQ k).2[k]? with
   | some x => ((chQ k).1.take x, (chQ k).2 ++ (chQ k).1.takeO x)
   | none => chQ k
theorem chQ_succ {k : Nat} {x : To} (h : (chQ k).2[k]? = some x) : chQ (k + 1) = ((chQ k).1.take x, (chQ k).2 ++ (chQ k).1.takeO x) := by
 simp only [chQ]
 rw [h]
theorem okt : okA 1 0 1 0 tilde = true := by kernel_rfl
theorem okno : okA 3 1 1 0 tilde = false := by kernel_rfl
theorem nC_wf : (nC.want tV).Wf := Chn.Wf.want (newC_wf okt) tV
theorem nC_over : (nC.want tV).begun = false → (nC.want tV).over = false := fun _ => by kernel_rfl
theorem chQ_wf : ∀ k, (chQ k).1.Wf
 | 0 => nC_wf.start nC_over
 | k + 1 => by
   simp only [chQ]
   split
   · exact (chQ_wf k).take _
   · exact chQ_wf k
theorem chQ0 : (chQ 0).2.length = 1 := by kernel_rfl
theorem chQ1 : (chQ 1).2.length = 2 := by kernel_rfl
theorem chQ2 : (chQ 2).2.length = 3 := by kernel_rfl
theorem chQ3 : (chQ 3).2.length = 4 := by kernel_rfl
theorem chQ4 : (chQ 4).2.length = 5 := by kernel_rfl
theorem chQ5 : (chQ 5).2.length = 6 := by kernel_rfl
theorem chQ6 : (chQ 6).2.length = 7 := by kernel_rfl
theorem chQ_len {k : Nat} (h : k ≤ 6) : (chQ k).2.length = k + 1 := by
 have : k = 0 ∨ k = 1 ∨ k = 2 ∨ k = 3 ∨ k = 4 ∨ k = 5 ∨ k = 6 := by omega
 rcases this with rfl | rfl | rfl | rfl | rfl | rfl | rfl
 · exact chQ0
 · exact chQ1
 · exact chQ2
 · exact chQ3
 · exact chQ4
 · exact chQ5
 · exact chQ6
theorem chQb : (chQ 6).1.begun = true := by kernel_rfl
def cF : Chn := (chQ 6).1.decs [tW]
theorem cFn : (chQ 6).1.catchN [tW] = 1 := by kernel_rfl
theorem cFl : cF.log = [tV, tilde, tW] := by kernel_rfl
theorem cFw : cF.wants = [] := by kernel_rfl
theorem catch_wf : ∀ (l : List ByteArray) (c : Chn), c.Wf → (c.decs (l.take (c.catchN l))).Wf
 | [], c, W => by
   show (c.decs (([] : List ByteArray).take _)).Wf
   rw [List.take_nil]; exact W
 | v :: l, c, W => by
   unfold Chn.catchN
   split
   · rename_i h
     exact catch_wf l (c.dec v) (W.dec h.2 v)
   · exact W
theorem cFwf : cF.Wf := by
 have := catch_wf [tW] _ (chQ_wf 6)
 rw [cFn] at this
 exact this
theorem wantE_no (c : Chn) : c.wantE VoteM.empty = 1 := by
 unfold Chn.wantE
 rw [if_neg (by decide)]
theorem wantE0 : nC.wantE tV = 0 := by kernel_rfl
theorem takeO_len {c : Chn} (W : c.Wf) (x : To) : (c.takeO x).length ≤ 701 := by
 unfold Chn.takeO
 split
 · unfold Chn.wordO
   split
   · rename_i h
     have h1 := take_len (W.p h.1) x.w
     split
     · rw [List.length_append, tallsO_len]
       have := decO_len (c.put (c.part.take x.w).1) (c.part.take x.w).1.dec
       omega
     · rw [tallsO_len]; omega
   · simp
 · simp
set_option maxRecDepth 100000 in
set_option maxHeartbeats 400000 in
theorem c62 (l1 l2 : List ByteArray) (hl : l1.length ≤ 100000) (v1 v2 : Value) (w0 : World) (hr1 : RdSl w0.heap v1 l1.length 1 (l1.flatMap encS)) (hr2 : RdSl w0.heap v2 l2.length 1 (l2.flatMap encS)) : Cl Try.prog 62 #[v1, v2] w0 (RetQ w0 fun r => r = .bool (decide (l1 = l2))) := by
 have M : Sep (fun _ => False) w0 w0 _ := Sep.nil _ w0
 have hro1 := ro_of hr1
 have hro2 := ro_of hr2
 obtain ⟨A1, d1, rfl, hcc1⟩ := hr1.form
 obtain ⟨A2, d2, rfl, hcc2⟩ := hr2.form
 refine enter (vs := [_, _]) Try.func62 rfl rfl rfl ?_
 intro a F
 refine wp_seq ?_
 refine wp_region_l [.ind] ([0]) rfl ?_
 refine s_I F rfl rfl rfl rfl rfl rfl ?_; clear F a; intro a F
 refine t_endM M ?_; (clear M; try clear w); intro w M
 refine wp_seq ?_
 refine wp_seq ?_
 refine wp_region_l [.ind, .ind, .ind, .ind, .ind] ([0, 1, 2, 3, 4]) rfl ?_
 refine s_I F rfl rfl rfl rfl rfl rfl ?_; clear F a; intro a F
 refine s_len F rfl rfl rfl rfl sl_69_H6 rfl ?_; clear F a; intro a F
 refine s_I F rfl rfl rfl rfl rfl rfl ?_; clear F a; intro a F
 refine s_len F rfl rfl rfl rfl sl_69_H6 rfl ?_; clear F a; intro a F
 refine s_bin F rfl rfl rfl rfl rfl rfl rfl ?_; clear F a; intro a F
 refine t_endM M ?_; (clear M; try clear w); intro w M
 refine c_if F rfl ?_ ?_
 clear F; intro hc0 F
 try rw [hc0] at F
 replace hc0 := nd1 hc0
 refine wp_seq ?_
 replace F := F.keep [0, 1, 4] rfl
 refine wp_region_l [.ind] ([0]) rfl ?_
 refine s_I F rfl rfl rfl rfl rfl rfl ?_; clear F a; intro a F
 refine t_endM M ?_; (clear M; try clear w); intro w M
 refine wp_ret ?_
 refine ret1 F rfl rfl ?_
 refine ⟨_, rfl, ?_, M.chg⟩
 rw [decide_eq_false]
 intro e
 have := congrArg List.length e
 omega
 clear F; intro hc1 F
 try rw [hc1] at F
 replace hc1 := nd0 hc1
 refine wp_skip ?_
 refine wp_seq ?_
 refine wp_seq ?_
 replace F := F.keep [0, 1, 4] rfl
 refine wp_region_l [.ind] ([0]) rfl ?_
 refine s_I F rfl rfl rfl rfl rfl rfl ?_; clear F a; intro a F
 refine t_endM M ?_; (clear M; try clear w); intro w M
 refine wp_block ?_
 refine loopX (X := (Int)) F [0, 1] rfl (fun (i : Int) => (0 ≤ i) ∧ (i ≤ l1.length) ∧ (l1.length = l2.length) ∧ (l1.take i.toNat = l2.take i.toNat)) (fun (i : Int) => [(5, .int .i64 i)]) (fun (i : Int) => []) (fun (i : Int) => l1.length - i.toNat) (0) M ⟨(by omega), (by omega), (by omega), (by simp)⟩ (F.keep [5, 0, 1] rfl) ?_
 clear F M; clear a; (try clear w)
 rintro i a w ⟨i0, i1, he, ht⟩ F M; try dsimp only at F M
 try simp only [List.cons_append, List.nil_append] at F M
 try dsimp only at i0 i1 he ht
 refine wp_seq ?_
 refine wp_seq ?_
 refine wp_region_l [.ind, .ind, .ind, .ind] ([0, 1, 2, 3]) rfl ?_
 refine s_rn 2 F rfl rfl ?_; clear F a; intro a F
 refine s_len F rfl rfl rfl rfl sl_69_H6 rfl ?_; clear F a; intro a F
 refine s_bin F rfl rfl rfl rfl rfl rfl rfl ?_; clear F a; intro a F
 refine t_endM M ?_; (clear M; try clear w); intro w M
 refine c_if F rfl ?_ ?_
 clear F; intro hc2 F
 try rw [hc2] at F
 replace hc2 := of_decide_eq_true hc2
 refine wp_skip ?_
 refine wp_seq ?_
 refine wp_block ?_
 refine wp_seq ?_
 replace F := F.keep [0, 1, 5] rfl
 refine wp_region_t [.ind, .ind, .ind, .rd, .ind, .ind, .ind, .rd, .ind] [] (otOf [0, 1, 2, 3, 4, 5, 6, 7, 8]) mixed (by kernel_rfl) ?_
 refine s_rn 2 F rfl rfl ?_; clear F a; intro a F
 refine s_ix F rfl rfl rfl rfl sl_69_H6 rfl rfl (by exact M.chg.ro hro1) (by omega) (by omega) ?_; clear F a; intro e19 he19 a F
 refine s_ld F rfl rfl rfl rfl sc_9_H6 rfl (by exact rdX0 (M.chg.ro hro1) (by intro e; rfl) he19 rfl) ?_; clear F a; intro a F
 refine s_rn 2 F rfl rfl ?_; clear F a; intro a F
 refine s_ix F rfl rfl rfl rfl sl_69_H6 rfl rfl (by exact M.chg.ro hro2) (by omega) (by omega) ?_; clear F a; intro e23 he23 a F
 try (obtain rfl := Option.some.inj (he19.symm.trans he23))
 refine s_ld F rfl rfl rfl rfl sc_9_H6 rfl (by exact rdX0 (M.chg.ro hro2) (by intro e; rfl) he23 rfl) ?_; clear F a; intro a F
 refine s_bin F rfl rfl rfl rfl rfl rfl rfl ?_; clear F a; intro a F
 refine t_endM M ?_; (clear M; try clear w); intro w M
 refine c_if F rfl ?_ ?_
 clear F; intro hc3 F
 try rw [hc3] at F
 replace hc3 := nd1 hc3
 refine wp_seq ?_
 replace F := F.keep [0, 1, 5] rfl
 refine wp_region_l [.ind] ([0]) rfl ?_
 refine s_I F rfl rfl rfl rfl rfl rfl ?_; clear F a; intro a F
 refine t_endM M ?_; (clear M; try clear w); intro w M
 refine wp_ret ?_
 refine ret1 F rfl rfl ?_
 refine ⟨_, rfl, ?_, M.chg⟩
 rw [decide_eq_false]
 intro e
 subst e
 rw [he19] at he23
 exact absurd (Option.some.inj he23) (by assumption)
 clear F; intro hc4 F
 try rw [hc4] at F
 replace hc4 := nd0 hc4
 refine wp_skip ?_
 replace F := F.keep [0, 1, 5] rfl
 refine wp_region_l [.ind, .ind, .ind] ([0, 1, 2]) rfl ?_
 refine s_I F rfl rfl rfl rfl rfl rfl ?_; clear F a; intro a F
 refine s_add F rfl rfl rfl rfl rfl rfl (by unfold In64; omega) ?_; clear F a; intro a F
 refine s_I F rfl rfl rfl rfl rfl rfl ?_; clear F a; intro a F
 refine t_endM M ?_; (clear M; try clear w); intro w M
 refine again (i + 1) (by show _ < _; (try dsimp only); omega) ⟨(by omega), (by assumption), (by assumption), (by rw [show (i + 1).toNat = i.toNat + 1 by omega]; exact take_eq ht he19 (by rw [he23]; exact congrArg some (Eq.symm (by assumption))))⟩ (F.keep [5, 0, 1] rfl) ?_
 try dsimp only [List.cons_append, List.nil_append]
 refine M.pick ?_; repeat (exact PkG.nil)
 clear F; intro hc5 F
 try rw [hc5] at F
 replace hc5 := of_decide_eq_false hc5
 refine wp_exit ?_
 refine wp_seq ?_
 replace F := F.keep [0, 1, 5] rfl
 refine wp_region_l [.ind] ([0]) rfl ?_
 refine s_I F rfl rfl rfl rfl rfl rfl ?_; clear F a; intro a F
 refine t_endM M ?_; (clear M; try clear w); intro w M
 refine wp_ret ?_
 refine ret1 F rfl rfl ?_
 refine ⟨_, rfl, ?_, M.chg⟩
 rw [decide_eq_true]
 rw [List.take_of_length_le (by omega), List.take_of_length_le (by omega)] at ht
 exact ht
set_option maxRecDepth 100000 in
set_option maxHeartbeats 400000 in
theorem c57 (w0 : World) : Cl Try.prog 57 #[] w0 (RetQ w0 fun v => v = .bool true) := by
 have M : Sep (fun _ => False) w0 w0 _ := Sep.nil _ w0
 refine enter (vs := []) Try.func57 rfl rfl rfl ?_
 intro a F
 refine wp_seq ?_
 refine wp_region_l [.ind] ([0]) rfl ?_
 refine s_I F rfl rfl rfl rfl rfl rfl ?_; clear F a; intro a F
 refine t_endM M ?_; (clear M; try clear w); intro w M
 refine wp_seq ?_
 refine wp_region_l [.wr, .ind] ([0, 1]) rfl ?_
 refine s_call (m := []) F M rfl rfl rfl rfl rfl (rfl : _ = some [_, _, _]) cb_58_H6 (fun nd_ => c58 1 0 1 okt _) ?_; (clear F a M; try clear w); rintro v γ0 w rfl M a F; (try simp only [List.cons_append, List.nil_append] at M)
 refine s_I F rfl rfl rfl rfl rfl rfl ?_; clear F a; intro a F
 refine t_endM M ?_; (clear M; try clear w); intro w M
 refine wp_seq ?_
 refine wp_seq ?_
 replace F := F.keep [0, 1] rfl
 refine wp_region_l [.ind, .ind, .ind, .wr, .ind, .ind] ([0, 1, 2, 3, 4, 5]) rfl ?_
 refine s_I F rfl rfl rfl rfl rfl rfl ?_; clear F a; intro a F
 refine s_pn F rfl rfl rfl rfl pt_87_H6 rfl ?_; clear F a; intro a F
 replace F : Fr _ _ ((8, Value.bool false) :: _) := F
 refine s_I F rfl rfl rfl rfl rfl rfl ?_; clear F a; intro a F
 refine s_cq F M rfl rfl rfl rfl rfl (rfl : _ = some [_, _, _]) cb_58_H6 (fun nd_ => c58n 3 1 1 okno _) ?_; (clear F a M; try clear w); rintro v w rfl M a F
 refine s_pne F rfl rfl rfl rfl pt_87_H6 rfl ?_; clear F a; intro a F
 replace F : Fr _ _ ((11, Value.bool false) :: _) := F
 refine s_I F rfl rfl rfl rfl rfl rfl ?_; clear F a; intro a F
 refine t_endM M ?_; (clear M; try clear w); intro w M
 refine c_f F rfl ?_
 refine wp_skip ?_
 refine wp_seq ?_
 replace F := F.keep [0, 1] rfl
 refine wp_region_l [.ind, .wr, .ind] ([0, 1, 2]) rfl ?_
 refine s_I F rfl rfl rfl rfl rfl rfl ?_; clear F a; intro a F
 have M1 : Sep _ _ _ (chnR _ _ :: _) := M; replace M := M1; clear M1
 refine s_call (m := [_]) F M rfl rfl rfl rfl rfl (rfl : _ = some [_, _]) cb_59_H6 (fun nd_ => c59 γ0 nC (newC_wf okt) tV _ (M.drewN nd_).own.one) ?_; (clear F a M; try clear w); rintro v γ1 w ⟨rfl, hb1⟩ M a F; (try simp only [List.cons_append, List.nil_append] at M)
 rw [wantE0] at F
 rw [← hb1] at F
 refine s_I F rfl rfl rfl rfl rfl rfl ?_; clear F a; intro a F
 refine t_endM M ?_; (clear M; try clear w); intro w M
 refine wp_seq ?_
 replace F := F.keep [0, 1, 2] rfl
 refine wp_region_l [.ind, .wr, .ind] ([0, 1, 2]) rfl ?_
 refine s_I F rfl rfl rfl rfl rfl rfl ?_; clear F a; intro a F
 have M1 : Sep _ _ _ (chnR _ _ :: _) := M; replace M := M1; clear M1
 refine s_call (m := [_]) F M rfl rfl rfl rfl rfl (rfl : _ = some [_]) cb_61_H6 (fun nd_ => c61 γ1 (nC.want tV) nC_wf nC_over _ (M.drewN nd_).own.one) ?_; (clear F a M; try clear w); rintro v x w ⟨rfl, hb2⟩ M a F; (try simp only [List.cons_append, List.nil_append] at M)
 obtain ⟨γ2, v2⟩ := x
 dsimp only at M F hb2
 obtain ⟨A2, d2, rfl⟩ := SlOk.form M.h1
 rw [← hb2] at F
 refine s_I F rfl rfl rfl rfl rfl rfl ?_; clear F a; intro a F
 refine t_endM M ?_; (clear M; try clear w); intro w M
 refine wp_seq ?_
 refine wp_seq ?_
 replace F := F.keep [0, 1, 2, 3] rfl
 refine wp_region_l [.ind] ([0]) rfl ?_
 refine s_I F rfl rfl rfl rfl rfl rfl ?_; clear F a; intro a F
 refine t_endM M ?_; (clear M; try clear w); intro w M
 refine wp_block ?_
 have M1 : Sep _ _ _ (slR _ _ 104 _ _ :: _) := M.f1; replace M := M1; clear M1
 have M1 : Sep _ _ _ (chnR _ _ :: _) := M.f1; replace M := M1; clear M1
 refine loopX (X := (Nat) × (Gh) × (Option Addr) × (Nat)) F [0, 1, 2] rfl (fun ((k, γ, A, d) : (Nat) × (Gh) × (Option Addr) × (Nat)) => (k ≤ 6) ∧ (γ.b = γ2.b)) (fun ((k, γ, A, d) : (Nat) × (Gh) × (Option Addr) × (Nat)) => [(3, .slice A (chQ k).2.length d), (4, .int .i64 (k : Int))]) (fun ((k, γ, A, d) : (Nat) × (Gh) × (Option Addr) × (Nat)) => [chnR γ (chQ k).1, tlR (.slice A (chQ k).2.length d) (chQ k).2]) (fun ((k, γ, A, d) : (Nat) × (Gh) × (Option Addr) × (Nat)) => 6 - k) ((0), (γ2), (A2), (d2)) M ⟨(by omega), rfl⟩ (F.keep [3, 4, 0, 1, 2] rfl) ?_
 clear F M; clear a; (try clear w)
 rintro ⟨k, γ, A, d⟩ a w ⟨hk, hg⟩ F M; try dsimp only at F M
 try simp only [List.cons_append, List.nil_append] at F M
 try dsimp only at hk hg
 rw [← hg] at F
 have hql := chQ_len hk
 refine wp_seq ?_
 refine wp_seq ?_
 refine wp_region_l [.ind, .ind, .ind, .ind, .ind, .ind, .ind, .ind] ([0, 1, 2, 3, 4, 5, 6, 7]) rfl ?_
 refine s_rn 2 F rfl rfl ?_; clear F a; intro a F
 refine s_len F rfl rfl rfl rfl sl_92_H6 rfl ?_; clear F a; intro a F
 refine s_rn 2 F rfl rfl ?_; clear F a; intro a F
 refine bsplit F 21 rfl ?_ ?_
 clear F; intro hc0 F
 try rw [hc0] at F
 replace hc0 := of_decide_eq_true hc0
 refine s_rn 3 F rfl rfl ?_; clear F a; intro a F
 refine t_endM M ?_; (clear M; try clear w); intro w M
 refine c_if F rfl ?_ ?_
 clear F; intro hc1 F
 try rw [hc1] at F
 replace hc1 := of_decide_eq_true hc1
 refine wp_skip ?_
 refine wp_seq ?_
 refine wp_block ?_
 replace F := F.keep [0, 1, 2, 3, 4] rfl
 refine wp_region_l [.ind, .ind, .ind, .ind, .ind, .rd, .wr, .wr, .ind] ([0, 1, 2, 3, 4, 5, 6, 7, 8]) rfl ?_
 refine s_rn 4 F rfl rfl ?_; clear F a; intro a F
 refine s_ix F rfl rfl rfl rfl sl_92_H6 rfl rfl (by exact SlOk.rd M.h1) (by omega) (by omega) ?_; clear F a; intro e31 he31 a F
 refine s_lda F rfl rfl rfl rfl ag_104_H6 rfl rfl (rdsX (SlOk.rd M.h1) (by intro e; rfl) he31) ?_; clear F a; intro a F
 have M1 : Sep _ _ _ (chnR _ _ :: _) := M; replace M := M1; clear M1
 refine s_call (m := [_]) F M rfl rfl rfl rfl rfl (rfl : _ = some [_, _]) cb_71_H6 (fun nd_ => c71 γ (chQ k).1 (chQ_wf k) e31 _ (M.drewN nd_).own.one) ?_; (clear F a M; try clear w); rintro v x w ⟨rfl, hb3⟩ M a F; (try simp only [List.cons_append, List.nil_append] at M)
 obtain ⟨γ5, v5⟩ := x
 dsimp only at M F hb3
 obtain ⟨A5, d5, rfl⟩ := SlOk.form M.h1
 have htl := takeO_len (chQ_wf k) e31
 refine s_apM ((chQ k).1.takeO e31) F M.f2 rfl rfl rfl rfl tl_92_H6 rfl rfl (by exact SlOk.rd M.h1) (by intro e; rfl) (by omega) (fun _ _ _ _ => pend_nil) ?_; (clear F a M; try clear w); intro A34 c34 w M a F
 refine s_I F rfl rfl rfl rfl rfl rfl ?_; clear F a; intro a F
 refine t_endM M ?_; (clear M; try clear w); intro w M
 replace F := F.keep [0, 1, 2, 3, 4] rfl
 refine wp_region_l [.ind, .ind, .ind] ([0, 1, 2]) rfl ?_
 refine s_I F rfl rfl rfl rfl rfl rfl ?_; clear F a; intro a F
 refine s_add F rfl rfl rfl rfl rfl rfl (by unfold In64; omega) ?_; clear F a; intro a F
 refine s_I F rfl rfl rfl rfl rfl rfl ?_; clear F a; intro a F
 refine t_endM M ?_; (clear M; try clear w); intro w M
 rw [hg] at F
 rw [Int.toNat_natCast] at he31
 rw [show (chQ k).2 ++ (chQ k).1.takeO e31 = (chQ (k + 1)).2 by rw [chQ_succ he31]] at F M
 rw [show (chQ k).1.take e31 = (chQ (k + 1)).1 by rw [chQ_succ he31]] at M
 refine again ((k + 1), (γ5), (A34), (c34)) (by show _ < _; (try dsimp only); omega) ⟨(by omega), (hb3.trans hg)⟩ (F.keep [3, 4, 0, 1, 2] rfl) ?_
 try dsimp only [List.cons_append, List.nil_append]
 refine M.pick ?_; repeat (first | exact PkG.nil | refine PkG.cons 0 rfl rfl ?_ | refine PkG.cons 1 rfl rfl ?_)
 clear F; intro hc2 F
 try rw [hc2] at F
 replace hc2 := of_decide_eq_false hc2
 refine wp_exit ?_
 refine wp_seq ?_
 obtain rfl : k = 6 := by omega
 replace F := F.keep [0, 1, 2, 3, 4] rfl
 refine wp_region_l [.ind, .wr, .wr, .ind] ([0, 1, 2, 3]) rfl ?_
 refine s_I F rfl rfl rfl rfl rfl rfl ?_; clear F a; intro a F
 refine s_bs F M rfl rfl rfl rfl (parts1 F rfl) (bs_69_1_H6 _) ?_; (clear F a M; try clear w); intro b36 w M a F
 have M1 : Sep _ _ _ (chnR _ _ :: _) := M.f1; replace M := M1; clear M1
 refine s_call (m := [_]) F M rfl rfl rfl rfl rfl (rfl : _ = some [_, _]) cb_60_H6 (fun nd_ => c60 γ (chQ 6).1 (chQ_wf 6) chQb [tW] (by decide) _ _ (M.drewN nd_).own.one (ro_own (M.drewN nd_).own (rd_blk M.h1 rfl) (fun _ h => h))) ?_; (clear F a M; try clear w); rintro v γ3 w ⟨rfl, hb3⟩ M a F; (try simp only [List.cons_append, List.nil_append] at M)
 rw [cFn] at F M
 replace M : Sep _ _ _ (chnR γ3 cF :: _) := M
 rw [← hb3] at F
 refine s_I F rfl rfl rfl rfl rfl rfl ?_; clear F a; intro a F
 refine t_endM M ?_; (clear M; try clear w); intro w M
 refine wp_seq ?_
 replace F := F.keep [0, 1, 2, 3, 4, 5] rfl
 refine wp_region_l [.ind, .ind, .ind, .ind, .wr, .wr, .wr, .ind, .ind, .ind, .wr, .ind, .ind, .ind, .ind, .wr, .ind, .ind, .ind, .ind, .ind, .ind, .ind, .ind, .wr, .ind, .ind, .ind] ([0, 1, 2, 3, 4, 5, 6, 7, 8, 9, 10, 11, 12, 13, 14, 15, 16, 17, 18, 19, 20, 21, 22, 23, 24, 25, 26, 27]) rfl ?_
 refine s_rn 2 F rfl rfl ?_; clear F a; intro a F
 replace F : Fr _ _ ((39, Value.bool true) :: _) := F
 refine s_rn 2 F rfl rfl ?_; clear F a; intro a F
 refine s_call (m := []) F M rfl rfl rfl rfl rfl (rfl : _ = some [_]) cb_63_H6 (fun nd_ => c63 γ3 cF (by rw [cFl]; decide) _ (by exact roF (M.drewN nd_))) ?_; (clear F a M; try clear w); rintro v x1 w rfl M a F; (try simp only [List.cons_append, List.nil_append] at M)
 refine s_bs F M rfl rfl rfl rfl (parts3 F rfl rfl rfl) (bs_69_3_H6 _ _ _) ?_; (clear F a M; try clear w); intro b43 w M a F
 refine s_cq F M rfl rfl rfl rfl rfl (rfl : _ = some [_, _]) cb_62_H6 (fun nd_ => c62 cF.log [tV, tilde, tW] (by rw [cFl]; decide) _ _ _ (by exact SlOk.rd M.h1) (by exact rd_blk M.h0 rfl)) ?_; (clear F a M; try clear w); rintro v w rfl M a F
 rw [decide_eq_true cFl] at F
 replace F : Fr _ _ ((44, Value.bool true) :: _) := F
 refine s_rn 3 F rfl rfl ?_; clear F a; intro a F
 refine s_cq F M rfl rfl rfl rfl rfl (rfl : _ = some [_]) cb_64_H6 (fun nd_ => c64 γ3 cF _ (by exact roF (M.drewN nd_).f2)) ?_; (clear F a M; try clear w); rintro v w rfl M a F
 rw [show (cF.log.length : Int) = 3 by rw [cFl]; rfl] at F
 refine s_bin F rfl rfl rfl rfl rfl rfl rfl ?_; clear F a; intro a F
 replace F : Fr _ _ ((49, Value.bool true) :: _) := F
 refine s_rn 3 F rfl rfl ?_; clear F a; intro a F
 refine s_cq F M rfl rfl rfl rfl rfl (rfl : _ = some [_]) cb_65_H6 (fun nd_ => c65 γ3 cF _ (by exact roF (M.drewN nd_).f2)) ?_; (clear F a M; try clear w); rintro v w rfl M a F
 rw [show (cF.wants.length : Int) = 0 by rw [cFw]; rfl] at F
 refine s_bin F rfl rfl rfl rfl rfl rfl rfl ?_; clear F a; intro a F
 replace F : Fr _ _ ((54, Value.bool true) :: _) := F
 refine s_rn 4 F rfl rfl ?_; clear F a; intro a F
 replace F : Fr _ _ ((58, Value.bool true) :: _) := F
 refine s_rn 3 F rfl rfl ?_; clear F a; intro a F
 have M1 : Sep _ _ _ (chnR _ _ :: _) := M.f2; replace M := M1; clear M1
 refine s_call (m := [_]) F M rfl rfl rfl rfl rfl (rfl : _ = some [_, _]) cb_59_H6 (fun nd_ => c59 γ3 cF cFwf VoteM.empty _ (M.drewN nd_).own.one) ?_; (clear F a M; try clear w); rintro v γ4 w ⟨rfl, hb4⟩ M a F; (try simp only [List.cons_append, List.nil_append] at M)
 rw [wantE_no] at F
 refine s_bin F rfl rfl rfl rfl rfl rfl rfl ?_; clear F a; intro a F
 replace F : Fr _ _ ((63, Value.bool true) :: _) := F
 refine s_rn 2 F rfl rfl ?_; clear F a; intro a F
 refine t_endM M ?_; (clear M; try clear w); intro w M
 refine wp_ret ?_
 refine ret1 F rfl rfl ?_
 exact ⟨_, rfl, rfl, M.chg⟩
 clear F; intro hc3 F
 try rw [hc3] at F
 replace hc3 := of_decide_eq_false hc3
 refine s_rn 3 F rfl rfl ?_; clear F a; intro a F
 refine t_endM M ?_; (clear M; try clear w); intro w M
 refine c_f F rfl ?_
 refine wp_exit ?_
 refine wp_seq ?_
 obtain rfl : k = 6 := by omega
 replace F := F.keep [0, 1, 2, 3, 4] rfl
 refine wp_region_l [.ind, .wr, .wr, .ind] ([0, 1, 2, 3]) rfl ?_
 refine s_I F rfl rfl rfl rfl rfl rfl ?_; clear F a; intro a F
 refine s_bs F M rfl rfl rfl rfl (parts1 F rfl) (bs_69_1_H6 _) ?_; (clear F a M; try clear w); intro b36 w M a F
 have M1 : Sep _ _ _ (chnR _ _ :: _) := M.f1; replace M := M1; clear M1
 refine s_call (m := [_]) F M rfl rfl rfl rfl rfl (rfl : _ = some [_, _]) cb_60_H6 (fun nd_ => c60 γ (chQ 6).1 (chQ_wf 6) chQb [tW] (by decide) _ _ (M.drewN nd_).own.one (ro_own (M.drewN nd_).own (rd_blk M.h1 rfl) (fun _ h => h))) ?_; (clear F a M; try clear w); rintro v γ3 w ⟨rfl, hb3⟩ M a F; (try simp only [List.cons_append, List.nil_append] at M)
 rw [cFn] at F M
 replace M : Sep _ _ _ (chnR γ3 cF :: _) := M
 rw [← hb3] at F
 refine s_I F rfl rfl rfl rfl rfl rfl ?_; clear F a; intro a F
 refine t_endM M ?_; (clear M; try clear w); intro w M
 refine wp_seq ?_
 replace F := F.keep [0, 1, 2, 3, 4, 5] rfl
 refine wp_region_l [.ind, .ind, .ind, .ind, .wr, .wr, .wr, .ind, .ind, .ind, .wr, .ind, .ind, .ind, .ind, .wr, .ind, .ind, .ind, .ind, .ind, .ind, .ind, .ind, .wr, .ind, .ind, .ind] ([0, 1, 2, 3, 4, 5, 6, 7, 8, 9, 10, 11, 12, 13, 14, 15, 16, 17, 18, 19, 20, 21, 22, 23, 24, 25, 26, 27]) rfl ?_
 refine s_rn 2 F rfl rfl ?_; clear F a; intro a F
 replace F : Fr _ _ ((39, Value.bool true) :: _) := F
 refine s_rn 2 F rfl rfl ?_; clear F a; intro a F
 refine s_call (m := []) F M rfl rfl rfl rfl rfl (rfl : _ = some [_]) cb_63_H6 (fun nd_ => c63 γ3 cF (by rw [cFl]; decide) _ (by exact roF (M.drewN nd_))) ?_; (clear F a M; try clear w); rintro v x1 w rfl M a F; (try simp only [List.cons_append, List.nil_append] at M)
 refine s_bs F M rfl rfl rfl rfl (parts3 F rfl rfl rfl) (bs_69_3_H6 _ _ _) ?_; (clear F a M; try clear w); intro b43 w M a F
 refine s_cq F M rfl rfl rfl rfl rfl (rfl : _ = some [_, _]) cb_62_H6 (fun nd_ => c62 cF.log [tV, tilde, tW] (by rw [cFl]; decide) _ _ _ (by exact SlOk.rd M.h1) (by exact rd_blk M.h0 rfl)) ?_; (clear F a M; try clear w); rintro v w rfl M a F
 rw [decide_eq_true cFl] at F
 replace F : Fr _ _ ((44, Value.bool true) :: _) := F
 refine s_rn 3 F rfl rfl ?_; clear F a; intro a F
 refine s_cq F M rfl rfl rfl rfl rfl (rfl : _ = some [_]) cb_64_H6 (fun nd_ => c64 γ3 cF _ (by exact roF (M.drewN nd_).f2)) ?_; (clear F a M; try clear w); rintro v w rfl M a F
 rw [show (cF.log.length : Int) = 3 by rw [cFl]; rfl] at F
 refine s_bin F rfl rfl rfl rfl rfl rfl rfl ?_; clear F a; intro a F
 replace F : Fr _ _ ((49, Value.bool true) :: _) := F
 refine s_rn 3 F rfl rfl ?_; clear F a; intro a F
 refine s_cq F M rfl rfl rfl rfl rfl (rfl : _ = some [_]) cb_65_H6 (fun nd_ => c65 γ3 cF _ (by exact roF (M.drewN nd_).f2)) ?_; (clear F a M; try clear w); rintro v w rfl M a F
 rw [show (cF.wants.length : Int) = 0 by rw [cFw]; rfl] at F
 refine s_bin F rfl rfl rfl rfl rfl rfl rfl ?_; clear F a; intro a F
 replace F : Fr _ _ ((54, Value.bool true) :: _) := F
 refine s_rn 4 F rfl rfl ?_; clear F a; intro a F
 replace F : Fr _ _ ((58, Value.bool true) :: _) := F
 refine s_rn 3 F rfl rfl ?_; clear F a; intro a F
 have M1 : Sep _ _ _ (chnR _ _ :: _) := M.f2; replace M := M1; clear M1
 refine s_call (m := [_]) F M rfl rfl rfl rfl rfl (rfl : _ = some [_, _]) cb_59_H6 (fun nd_ => c59 γ3 cF cFwf VoteM.empty _ (M.drewN nd_).own.one) ?_; (clear F a M; try clear w); rintro v γ4 w ⟨rfl, hb4⟩ M a F; (try simp only [List.cons_append, List.nil_append] at M)
 rw [wantE_no] at F
 refine s_bin F rfl rfl rfl rfl rfl rfl rfl ?_; clear F a; intro a F
 replace F : Fr _ _ ((63, Value.bool true) :: _) := F
 refine s_rn 2 F rfl rfl ?_; clear F a; intro a F
 refine t_endM M ?_; (clear M; try clear w); intro w M
 refine wp_ret ?_
 refine ret1 F rfl rfl ?_
 exact ⟨_, rfl, rfl, M.chg⟩

theorem dl_tall {w : World} {b : Nat} {k n : Value} {x : To} {vv : Value} {T : TypeId} {fz : Nat × Nat} (hb : w.heap[b]? = some (.cells #[k, n, .int .i64 x.node, .int .i64 x.w.kind, .int .i64 x.w.frm, .int .i64 x.w.round, .int .i64 x.w.valid, .string x.w.value, vv] T fz)) : ∀ j v, (encTo x).toArray[j]? = some v → w.cell? ((⟨b, 2, none⟩ : Addr).add j) = some v := by
 refine cells_part hb fun j v hv => ?_
 have hj : j < 6 := (Array.getElem?_eq_some_iff.1 hv).1
 have : j = 0 ∨ j = 1 ∨ j = 2 ∨ j = 3 ∨ j = 4 ∨ j = 5 := by omega
 rcases this with rfl | rfl | rfl | rfl | rfl | rfl <;> exact hv

end Go.Proofs.Ytboibdmflblphaa
