/- A6 of the seat. -/
import Derived.Test.YtboibdmflblphaaA5
namespace Go.Proofs.Ytboibdmflblphaa
open Go Fw
theorem sc_50_A6 : scalB Try.prog 50 = true := by kernel_rfl
theorem ag_32_A6 : aggB Try.prog 32 = some 5 := by kernel_rfl
theorem cb_82_A6 : callB Try.prog 82 = true := by kernel_rfl
theorem fa_144_11_A6 : FA Try.prog 144 11 332 := fun _ _ _ => by kernel_rfl
theorem sc_4_A6 : scalB Try.prog 4 = true := by kernel_rfl
theorem cb_83_A6 : callB Try.prog 83 = true := by kernel_rfl
theorem cb_86_A6 : callB Try.prog 86 = true := by kernel_rfl
open VoteM AgrM

theorem rul_some {a : ASt} (h : a.rule.isSome = true) : a.rule = some (rul1 a, rul2 a) := by
 obtain ⟨v, hv⟩ := isSome_some h
 unfold rul1 rul2
 rw [hv]
 rfl
theorem rul_no {a : ASt} (h : a.rule = none) : rul1 a = a ∧ rul2 a = [] := by
 unfold rul1 rul2
 rw [h]
 exact ⟨rfl, rfl⟩
theorem beginO_len (a : ASt) (r : Int) : (a.beginO r).length ≤ 1 := by
 unfold ASt.beginO
 split <;> simp
theorem Rul_len {a b : ASt} {o : List Wrd} (R : Rul a b o) : o.length ≤ 1 := by
 cases R with
 | dec => simp
 | ahead => exact beginO_len _ _
 | pv => simp [ASt.voteO]
 | pc => split <;> simp [ASt.voteO]
 | nil => simp [ASt.voteO]
theorem count_len (a : ASt) (w : Wrd) : (a.count w).2.length ≤ 1 := by
 unfold ASt.count
 split
 · unfold ASt.timeout
   split
   · exact beginO_len _ _
   · split
     · simp
     · split
       · simp [ASt.voteO]
       · split <;> simp [ASt.voteO]
 · split <;> simp
theorem left_le {a : ASt} (W : a.Wf) : a.left ≤ 600 := by
 have hs := W.s
 have h0 := W.r0
 unfold ASt.left
 split <;> split <;> omega
theorem run_len {a : ASt} (W : a.Wf) (h0 : 0 ≤ a.round) : a.run.2.length ≤ a.left := by
 refine run_q (Q := fun a _ o => o.length ≤ a.left) W h0 (fun _ _ _ => by simp) fun a b c o o' W h0 hd R _ h => ?_
 have := R.left W h0 hd
 have := Rul_len R
 rw [List.length_append]
 omega
theorem take_len {a : ASt} (W : a.Wf) (w : Wrd) : (a.take w).2.length ≤ 700 := by
 unfold ASt.take
 split
 · simp
 · split
   · rename_i h1 h2
     obtain ⟨W1, h3⟩ := count_wf W (by omega) h2
     have := run_len W1 (by omega)
     have := left_le W1
     have := count_len a w
     rw [List.length_append]
     omega
   · simp
theorem take_live {a : ASt} {w : Wrd} (h0 : 0 ≤ a.round) (hd : a.done = false) : a.take w = if a.cnt w = true then ((a.count w).1.run.1, (a.count w).2 ++ (a.count w).1.run.2) else (a, []) := by
 unfold ASt.take
 rw [if_neg (by rw [hd]; simp; omega)]
theorem take_dead {a : ASt} {w : Wrd} (h : a.round < 0 ∨ a.done = true) : a.take w = (a, []) := by
 unfold ASt.take
 rw [if_pos h]
theorem start_live {a : ASt} (h : a.round < 0) : a.start = a.begin 0 ∧ a.startO = a.beginO 0 := by
 unfold ASt.start ASt.startO
 rw [if_neg (by omega), if_neg (by omega)]
 exact ⟨rfl, rfl⟩
theorem start_dead {a : ASt} (h : 0 ≤ a.round) : a.start = a ∧ a.startO = [] := by
 unfold ASt.start ASt.startO
 rw [if_pos h, if_pos h]
 exact ⟨rfl, rfl⟩
theorem Fw.Sep.votTo {S : Nat → Prop} {w0 w : World} {r : List Res} {b : Nat} {v : Value} {n t n' t' : Int} {L L' : List Wrd} (M : Sep S w0 w (votR b v n t L :: r)) (hn : n' = n) (ht : t' = t) (hL : L' = L) : Sep S w0 w (votR b v n' t' L' :: r) := by
 subst hn; subst ht; subst hL
 exact M
theorem aF_mouthS (a : ASt) (vb : Nat) (mu mu' : Value) : setCells (cellsF 335 (aF a vb mu)) 334 (#[mu'] : Array Value).toList = cellsF 335 (aF a vb mu') := by
 simp only [setCells, setF]
 rw [aF_mouth]

set_option maxRecDepth 100000 in
set_option maxHeartbeats 4000000 in
theorem c81 (b vb ob b2 b3 : Nat) (vv ov : Value) (st : ASt) (o : List Wrd) (hl : o.length ≤ 1000) (q : Wrd) (W : st.Wf) (h0 : 0 ≤ st.round) (hd : st.done = false) (w0 : World) (ho : Own w0.heap [blk b (aO (st) vb (sayV ob)), votR vb vv st.n st.t (st).L, blk ob (.cells #[ov] 22 (0, 0)), wsR ov (o), blk b2 (.cells #[.pointer (some ⟨b, 0, none⟩)] 50 (0, 0)), blk b3 (.cells (encW q).toArray 32 (0, 0))]) : Cl Try.prog 81 #[.pointer (some ⟨b2, 0, none⟩), .pointer (some ⟨b3, 0, none⟩)] w0 (RetS [blk b (aO (st) vb (sayV ob)), votR vb vv st.n st.t (st).L, blk ob (.cells #[ov] 22 (0, 0)), wsR ov (o), blk b2 (.cells #[.pointer (some ⟨b, 0, none⟩)] 50 (0, 0)), blk b3 (.cells (encW q).toArray 32 (0, 0))] w0 (fun v (_ : Value × Value) => v = .tuple #[]) fun x => [blk b (aO (st.take q).1 vb (sayV ob)), votR vb x.1 st.n st.t (st.take q).1.L, blk ob (.cells #[x.2] 22 (0, 0)), wsR x.2 (o ++ (st.take q).2), blk b2 (.cells #[.pointer (some ⟨b, 0, none⟩)] 50 (0, 0)), blk b3 (.cells (encW q).toArray 32 (0, 0))]) := by
 have M : Sep (fun b_ => b_ ∈ foots [blk b (aO (st) vb (sayV ob)), votR vb vv st.n st.t (st).L, blk ob (.cells #[ov] 22 (0, 0)), wsR ov (o), blk b2 (.cells #[.pointer (some ⟨b, 0, none⟩)] 50 (0, 0)), blk b3 (.cells (encW q).toArray 32 (0, 0))]) w0 w0 _ := Sep.start ho
 refine enter (vs := [_, _]) Try.func81 rfl rfl rfl ?_
 intro a F
 refine wp_seq ?_
 refine wp_seq ?_
 refine wp_region_l [.rd, .rd, .wr, .ind] ([0, 1, 2, 3]) rfl ?_
 refine s_ld F rfl rfl rfl rfl sc_50_A6 rfl (by exact cell_of_blk M.h4 (lit rfl)) ?_; clear F a; intro a F
 refine s_lda F rfl rfl rfl rfl ag_32_A6 rfl rfl (cells_whole M.h5) ?_; clear F a; intro a F
 have M1 : Sep _ _ _ (slR _ _ _ _ _ :: _) := M.f3; replace M := M1; clear M1
 have M1 : Sep _ _ _ (blk ob _ :: _) := M.f3; replace M := M1; clear M1
 have M1 : Sep _ _ _ (votR _ _ _ _ _ :: _) := M.f3; replace M := M1; clear M1
 have M1 : Sep _ _ _ (blk b _ :: _) := M.f3; replace M := M1; clear M1
 refine s_call (m := [_, _, _, _]) F M rfl rfl rfl rfl rfl (rfl : _ = some [_, _]) cb_82_A6 (fun nd_ => c82 b vb ob vv _ st _ (by omega) q W h0 _ (Own.left (m := [_, _, _, _]) (M.drewN nd_).own)) ?_; (clear F a M; try clear w); rintro v y w rfl M a F; (try simp only [List.cons_append, List.nil_append] at M)
 obtain ⟨vv2, ov2⟩ := y
 dsimp only at M
 refine s_I F rfl rfl rfl rfl rfl rfl ?_; clear F a; intro a F
 refine t_endM M ?_; (clear M; try clear w); intro w M
 refine c_if F rfl ?_ ?_
 clear F; intro hc0 F
 try rw [hc0] at F
 replace hc0 := nt hc0
 have hcn : st.cnt q = false := by assumption
 refine wp_ret ?_
 refine (ret0 F rfl ?_).1
 rw [take_live h0 hd, if_neg (by rw [hcn]; simp)]
 rw [cnt_no hcn] at M
 refine ⟨_, (vv2, ov2), rfl, rfl, ?_⟩
 dsimp only at M ⊢
 refine M.pick ?_; repeat (first | exact PkG.nil | refine PkG.cons 0 rfl rfl ?_ | refine PkG.cons 1 rfl rfl ?_ | refine PkG.cons 2 rfl rfl ?_ | refine PkG.cons 3 rfl rfl ?_ | refine PkG.cons 4 rfl rfl ?_ | refine PkG.cons 5 rfl rfl ?_)
 clear F; intro hc1 F
 try rw [hc1] at F
 replace hc1 := nf hc1
 have hcn : st.cnt q = true := by assumption
 refine wp_skip ?_
 refine wp_block ?_
 rw [cnt_yes hcn] at M
 have T := count_took st q
 obtain ⟨W1, hle1⟩ := count_wf W h0 hcn
 have hle2 := left_le W1
 have hle3 := count_len st q
 have M1 : Sep _ _ _ (votR _ _ _ _ _ :: _) := M.f1; replace M := M1; clear M1
 replace M := Fw.Sep.votTo M T.n T.t rfl
 have M1 : Sep _ _ _ (slR _ _ _ _ _ :: _) := M.f3; replace M := M1; clear M1
 have M1 : Sep _ _ _ (blk ob _ :: _) := M.f3; replace M := M1; clear M1
 have M1 : Sep _ _ _ (votR _ _ _ _ _ :: _) := M.f2; replace M := M1; clear M1
 have M1 : Sep _ _ _ (blk b _ :: _) := M.f3; replace M := M1; clear M1
 refine loopX (X := (ASt) × (Value) × (List Wrd)) F [0, 1] rfl (fun ((c, ov, o2) : (ASt) × (Value) × (List Wrd)) => (c.Wf) ∧ (0 ≤ c.round) ∧ (c.run.1 = (st.count q).1.run.1) ∧ (o2 ++ c.run.2 = o ++ ((st.count q).2 ++ (st.count q).1.run.2)) ∧ (o2.length + c.left ≤ 10000) ∧ (c.n = st.n) ∧ (c.t = st.t) ∧ (c.L = (st.count q).1.L)) (fun ((c, ov, o2) : (ASt) × (Value) × (List Wrd)) => []) (fun ((c, ov, o2) : (ASt) × (Value) × (List Wrd)) => [blk b (aO c vb (sayV ob)), votR vb vv2 c.n c.t c.L, blk ob (.cells #[ov] 22 (0, 0)), wsR ov o2]) (fun ((c, ov, o2) : (ASt) × (Value) × (List Wrd)) => c.left) (((st.count q).1), (ov2), (o ++ (st.count q).2)) M ⟨W1, (by omega), rfl, (by rw [List.append_assoc]), (by rw [List.length_append]; omega), T.n, T.t, rfl⟩ (F.keep [0, 1] rfl) ?_
 clear F M; clear a; (try clear w)
 rintro ⟨c, ov, o2⟩ a w ⟨hW, hc0, hr1, hr2, hlen, hn, ht, hL⟩ F M; try dsimp only at F M
 try simp only [List.cons_append, List.nil_append] at F M
 try dsimp only at hW hc0 hr1 hr2 hlen hn ht hL
 refine wp_seq ?_
 refine wp_seq ?_
 refine wp_region_l [.rd, .ind, .ind, .rd, .ind, .ind, .rd, .wr, .ind] ([0, 1, 2, 3, 4, 5, 6, 7, 8]) rfl ?_
 refine s_ld F rfl rfl rfl rfl sc_50_A6 rfl (by exact cell_of_blk M.h4 (lit rfl)) ?_; clear F a; intro a F
 refine s_I F rfl rfl rfl rfl rfl rfl ?_; clear F a; intro a F
 refine s_fa0 F rfl rfl rfl rfl fa_144_11_A6 rfl ?_; clear F a; intro a F
 refine s_ld F rfl rfl rfl rfl sc_4_A6 rfl (by exact cell_of_blk M.h0 (gf (aF_332 _ _ _) (by decide))) ?_; clear F a; intro a F
 refine s_rn 2 F rfl rfl ?_; clear F a; intro a F
 refine bsplit F 11 rfl ?_ ?_
 clear F; intro hc2 F
 try rw [hc2] at F
 replace hc2 := nt hc2
 refine s_ld F rfl rfl rfl rfl sc_50_A6 rfl (by exact cell_of_blk M.h4 (lit rfl)) ?_; clear F a; intro a F
 have M1 : Sep _ _ _ (slR _ _ _ _ _ :: _) := M.f3; replace M := M1; clear M1
 have M1 : Sep _ _ _ (blk ob _ :: _) := M.f3; replace M := M1; clear M1
 have M1 : Sep _ _ _ (votR _ _ _ _ _ :: _) := M.f3; replace M := M1; clear M1
 have M1 : Sep _ _ _ (blk b _ :: _) := M.f3; replace M := M1; clear M1
 refine s_call (m := [_, _, _, _]) F M rfl rfl rfl rfl rfl (rfl : _ = some [_]) cb_83_A6 (fun nd_ => c83 b vb ob vv2 _ c _ (by omega) hW hc0 _ (Own.left (m := [_, _, _, _]) (M.drewN nd_).own)) ?_; (clear F a M; try clear w); rintro v x w rfl M a F; (try simp only [List.cons_append, List.nil_append] at M)
 refine s_I F rfl rfl rfl rfl rfl rfl ?_; clear F a; intro a F
 refine t_endM M ?_; (clear M; try clear w); intro w M
 refine c_if F rfl ?_ ?_
 clear F; intro hc3 F
 try rw [hc3] at F
 skip
 refine wp_skip ?_
 refine wp_block ?_
 refine wp_skip ?_
 have hrs := rul_some (a := c) (by assumption)
 have hR := rule_spec hrs
 have hlt := hR.left hW hc0 (by assumption)
 have hst := run_step hW hc0 (by assumption) hrs
 have hSm := hR.same
 obtain ⟨hW2, hle4⟩ := hR.wf hW hc0
 have hle5 := Rul_len hR
 rw [hst] at hr1 hr2
 have M1 : Sep _ _ _ (votR _ _ _ _ _ :: _) := M.f1; replace M := M1; clear M1
 replace M := Fw.Sep.votTo M hSm.n hSm.t hSm.L
 refine again ((rul1 c), (x), (o2 ++ rul2 c)) hlt ⟨hW2, (by omega), hr1, (by rw [List.append_assoc]; exact hr2), (by rw [List.length_append]; omega), (hSm.n.trans hn), (hSm.t.trans ht), (hSm.L.trans hL)⟩ (F.keep [0, 1] rfl) ?_
 try dsimp only [List.cons_append, List.nil_append]
 refine M.pick ?_; repeat (first | exact PkG.nil | refine PkG.cons 0 rfl rfl ?_ | refine PkG.cons 1 rfl rfl ?_ | refine PkG.cons 2 rfl rfl ?_ | refine PkG.cons 3 rfl rfl ?_ | refine PkG.cons 4 rfl rfl ?_ | refine PkG.cons 5 rfl rfl ?_)
 clear F; intro hc4 F
 try rw [hc4] at F
 skip
 refine wp_exit ?_
 refine (ret0 F rfl ?_).2
 have hq : c.run = (c, []) := (by exact run_stop (isSome_none (by assumption)))
 rw [hq] at hr1 hr2
 dsimp only at hr1 hr2
 rw [List.append_nil] at hr2
 have hSr := run_same W1 (by omega)
 rw [take_live h0 hd, if_pos hcn]
 first
   | (have hno := rul_no (a := c) (isSome_none (by assumption)); rw [hno.1, hno.2, List.append_nil] at M)
   | skip
 have M1 : Sep _ _ _ (votR _ _ _ _ _ :: _) := M.f1; replace M := M1; clear M1
 replace M := Fw.Sep.votTo (n' := st.n) (t' := st.t) (L' := (st.count q).1.run.1.L) M hn.symm ht.symm (by rw [hSr.L, hL])
 rw [hr1, hr2] at M
 · first
     | (refine ⟨_, (vv2, x), rfl, rfl, ?_⟩; dsimp only; (refine M.pick ?_; repeat (first | exact PkG.nil | refine PkG.cons 0 rfl rfl ?_ | refine PkG.cons 1 rfl rfl ?_ | refine PkG.cons 2 rfl rfl ?_ | refine PkG.cons 3 rfl rfl ?_ | refine PkG.cons 4 rfl rfl ?_ | refine PkG.cons 5 rfl rfl ?_)); done)
     | (refine ⟨_, (vv2, ov), rfl, rfl, ?_⟩; dsimp only; (refine M.pick ?_; repeat (first | exact PkG.nil | refine PkG.cons 0 rfl rfl ?_ | refine PkG.cons 1 rfl rfl ?_ | refine PkG.cons 2 rfl rfl ?_ | refine PkG.cons 3 rfl rfl ?_ | refine PkG.cons 4 rfl rfl ?_ | refine PkG.cons 5 rfl rfl ?_ | refine PkG.cons 6 rfl rfl ?_ | refine PkG.cons 7 rfl rfl ?_ | refine PkG.cons 8 rfl rfl ?_ | refine PkG.cons 9 rfl rfl ?_ | refine PkG.cons 10 rfl rfl ?_ | refine PkG.cons 11 rfl rfl ?_ | refine PkG.cons 12 rfl rfl ?_ | refine PkG.cons 13 rfl rfl ?_)); done)
 clear F; intro hc5 F
 try rw [hc5] at F
 replace hc5 := nf hc5
 refine s_rn 3 F rfl rfl ?_; clear F a; intro a F
 refine t_endM M ?_; (clear M; try clear w); intro w M
 refine c_f F rfl ?_
 refine wp_exit ?_
 refine (ret0 F rfl ?_).2
 have hq : c.run = (c, []) := (by exact run_done (by assumption))
 rw [hq] at hr1 hr2
 dsimp only at hr1 hr2
 rw [List.append_nil] at hr2
 have hSr := run_same W1 (by omega)
 rw [take_live h0 hd, if_pos hcn]
 first
   | (have hno := rul_no (a := c) (isSome_none (by assumption)); rw [hno.1, hno.2, List.append_nil] at M)
   | skip
 have M1 : Sep _ _ _ (votR _ _ _ _ _ :: _) := M.f1; replace M := M1; clear M1
 replace M := Fw.Sep.votTo (n' := st.n) (t' := st.t) (L' := (st.count q).1.run.1.L) M hn.symm ht.symm (by rw [hSr.L, hL])
 rw [hr1, hr2] at M
 · first
     | (refine ⟨_, (vv2, x), rfl, rfl, ?_⟩; dsimp only; (refine M.pick ?_; repeat (first | exact PkG.nil | refine PkG.cons 0 rfl rfl ?_ | refine PkG.cons 1 rfl rfl ?_ | refine PkG.cons 2 rfl rfl ?_ | refine PkG.cons 3 rfl rfl ?_ | refine PkG.cons 4 rfl rfl ?_ | refine PkG.cons 5 rfl rfl ?_ | refine PkG.cons 6 rfl rfl ?_ | refine PkG.cons 7 rfl rfl ?_ | refine PkG.cons 8 rfl rfl ?_ | refine PkG.cons 9 rfl rfl ?_ | refine PkG.cons 10 rfl rfl ?_ | refine PkG.cons 11 rfl rfl ?_ | refine PkG.cons 12 rfl rfl ?_ | refine PkG.cons 13 rfl rfl ?_)); done)
     | (refine ⟨_, (vv2, ov), rfl, rfl, ?_⟩; dsimp only; (refine M.pick ?_; repeat (first | exact PkG.nil | refine PkG.cons 0 rfl rfl ?_ | refine PkG.cons 1 rfl rfl ?_ | refine PkG.cons 2 rfl rfl ?_ | refine PkG.cons 3 rfl rfl ?_ | refine PkG.cons 4 rfl rfl ?_ | refine PkG.cons 5 rfl rfl ?_)); done)
set_option maxRecDepth 100000 in
set_option maxHeartbeats 400000 in
theorem c85 (b vb ob b2 : Nat) (ov : Value) (st : ASt) (o : List Wrd) (hl : o.length ≤ 1000) (w0 : World) (ho : Own w0.heap [blk b (aO (st) vb (sayV ob)), blk ob (.cells #[ov] 22 (0, 0)), wsR ov (o), blk b2 (.cells #[.pointer (some ⟨b, 0, none⟩)] 50 (0, 0))]) : Cl Try.prog 85 #[.pointer (some ⟨b2, 0, none⟩)] w0 (RetS [blk b (aO (st) vb (sayV ob)), blk ob (.cells #[ov] 22 (0, 0)), wsR ov (o), blk b2 (.cells #[.pointer (some ⟨b, 0, none⟩)] 50 (0, 0))] w0 (fun v (_ : Value) => v = .tuple #[]) fun x => [blk b (aO (st.begin 0) vb (sayV ob)), blk ob (.cells #[x] 22 (0, 0)), wsR x (o ++ st.beginO 0), blk b2 (.cells #[.pointer (some ⟨b, 0, none⟩)] 50 (0, 0))]) := by
 have M : Sep (fun b_ => b_ ∈ foots [blk b (aO (st) vb (sayV ob)), blk ob (.cells #[ov] 22 (0, 0)), wsR ov (o), blk b2 (.cells #[.pointer (some ⟨b, 0, none⟩)] 50 (0, 0))]) w0 w0 _ := Sep.start ho
 refine enter (vs := [_]) Try.func85 rfl rfl rfl ?_
 intro a F
 refine wp_region_l [.rd, .wr] ([0, 1]) rfl ?_
 refine s_ld F rfl rfl rfl rfl sc_50_A6 rfl (by exact cell_of_blk M.h3 (lit rfl)) ?_; clear F a; intro a F
 have M1 : Sep _ _ _ (slR _ _ _ _ _ :: _) := M.f2; replace M := M1; clear M1
 have M1 : Sep _ _ _ (blk ob _ :: _) := M.f2; replace M := M1; clear M1
 have M1 : Sep _ _ _ (blk b _ :: _) := M.f2; replace M := M1; clear M1
 refine s_call (m := [_, _, _]) F M rfl rfl rfl rfl rfl (rfl : _ = some [_, _]) cb_86_A6 (fun nd_ => c86 b vb ob _ st _ (by omega) 0 _ (Own.left (m := [_, _, _]) (M.drewN nd_).own)) ?_; (clear F a M; try clear w); rintro v x w rfl M a F; (try simp only [List.cons_append, List.nil_append] at M)
 refine t_endM M ?_; (clear M; try clear w); intro w M
 refine (ret0 F rfl ?_).2
 refine ⟨_, x, rfl, rfl, ?_⟩
 refine M.pick ?_; repeat (first | exact PkG.nil | refine PkG.cons 0 rfl rfl ?_ | refine PkG.cons 1 rfl rfl ?_ | refine PkG.cons 2 rfl rfl ?_ | refine PkG.cons 3 rfl rfl ?_)
end Go.Proofs.Ytboibdmflblphaa
