/- R4 of the seat. -/
import Derived.Test.YtboibdmflblphaaR3
namespace Go.Proofs.Ytboibdmflblphaa
open Go Fw
theorem sl_22_R4 : slcB Try.prog 22 = some (32, 5) := by kernel_rfl
theorem ag_32_R4 : aggB Try.prog 32 = some 5 := by kernel_rfl
theorem zr_53_R4 : zeroB Try.prog 53 = some (.agg #[.int .i64 0, .int .i64 0, .string { data := #[] }, .int .i64 0, .int .i64 0, .string { data := #[] }, .int .i64 0, .string { data := #[] }, .int .i64 0, .slice none 0 0, .int .i64 0, .int .i64 0, .slice none 0 0, .bool false, .bool false, .string { data := #[] }]) := by kernel_rfl
theorem fa_53_3_R4 : FA Try.prog 53 3 3 := fun _ _ _ => by kernel_rfl
theorem sc_3_R4 : scalB Try.prog 3 = true := by kernel_rfl
theorem ag_53_R4 : aggB Try.prog 53 = some 16 := by kernel_rfl
theorem sz_53_R4 : sizeB Try.prog 53 = some 16 := by kernel_rfl
theorem cb_84_R4 : callB Try.prog 84 = true := by kernel_rfl
theorem cb_23_R4 : callB Try.prog 23 = true := by kernel_rfl
theorem zr_28_R4 : zeroB Try.prog 28 = some (.agg #[.int .i64 0, .int .i64 0, .slice none 0 0]) := by kernel_rfl
theorem sz_28_R4 : sizeB Try.prog 28 = some 3 := by kernel_rfl
theorem bl_53__R4 : ∀ w : World, (Instr.build 53 #[]).run Try.prog w = .ok (.agg #[.int .i64 0, .int .i64 0, .string { data := #[] }, .int .i64 0, .int .i64 0, .string { data := #[] }, .int .i64 0, .string { data := #[] }, .int .i64 0, .slice none 0 0, .int .i64 0, .int .i64 0, .slice none 0 0, .bool false, .bool false, .string { data := #[] }]) w := by intros; kernel_rfl
theorem st_9_R4 : strB Try.prog 9 = true := by kernel_rfl
theorem ag_28_R4 : aggB Try.prog 28 = some 3 := by kernel_rfl
theorem bl_53_0_1_2_3_6_8_10_R4 : ∀ (x0 : Int) (x1 : Int) (x2 : ByteArray) (x3 : Int) (x6 : Int) (x8 : Int) (x10_0 : Int) (x10_1 : Int) (x10_2 : Option Addr) (n10_2 c10_2 : Nat), ∀ w : World, (Instr.build 53 #[(0, .int .i64 x0), (1, .int .i64 x1), (2, .string x2), (3, .int .i64 x3), (6, .int .i64 x6), (8, .int .i64 x8), (10, .agg #[.int .i64 x10_0, .int .i64 x10_1, .slice x10_2 n10_2 c10_2])]).run Try.prog w = .ok (.agg #[.int .i64 x0, .int .i64 x1, .string x2, .int .i64 x3, .int .i64 0, .string { data := #[] }, .int .i64 x6, .string { data := #[] }, .int .i64 x8, .slice none 0 0, .int .i64 x10_0, .int .i64 x10_1, .slice x10_2 n10_2 c10_2, .bool false, .bool false, .string { data := #[] }]) w := by intros; kernel_rfl
open VoteM AgrM

theorem eqW : EqV Try.prog 32 encW := by
  refine ⟨by kernel_rfl, fun k k' w => ?_⟩
  have hs : Try.prog.stoodInHeld 32 = false := by kernel_rfl
  have hu : Try.prog.underlying 32 = some (.struct (Try.prog.fieldsOf 32)) := by kernel_rfl
  have h3 : Try.prog.underlying 3 = some (.int .i64) := by kernel_rfl
  have h9 : Try.prog.underlying 9 = some .string := by kernel_rfl
  have s3 : scalB Try.prog 3 = true := by kernel_rfl
  have s9 : scalB Try.prog 9 = true := by kernel_rfl
  have hsh : ∀ q : Wrd, (encW q).toArray = #[.int .i64 q.kind, .int .i64 q.frm, .int .i64 q.round, .int .i64 q.valid, .string q.value] := fun _ => rfl
  have d0 : ∀ (a b c d : Int) (s : ByteArray), (part 3 #[Value.int .i64 a, .int .i64 b, .int .i64 c, .int .i64 d, .string s] 0).run Try.prog w = .ok (.int .i64 a) w := fun a b c d s => part_scal s3 rfl w
  have d1 : ∀ (a b c d : Int) (s : ByteArray), (part 3 #[Value.int .i64 a, .int .i64 b, .int .i64 c, .int .i64 d, .string s] 1).run Try.prog w = .ok (.int .i64 b) w := fun a b c d s => part_scal s3 rfl w
  have d2 : ∀ (a b c d : Int) (s : ByteArray), (part 3 #[Value.int .i64 a, .int .i64 b, .int .i64 c, .int .i64 d, .string s] 2).run Try.prog w = .ok (.int .i64 c) w := fun a b c d s => part_scal s3 rfl w
  have d3 : ∀ (a b c d : Int) (s : ByteArray), (part 3 #[Value.int .i64 a, .int .i64 b, .int .i64 c, .int .i64 d, .string s] 3).run Try.prog w = .ok (.int .i64 d) w := fun a b c d s => part_scal s3 rfl w
  have d4 : ∀ (a b c d : Int) (s : ByteArray), (part 9 #[Value.int .i64 a, .int .i64 b, .int .i64 c, .int .i64 d, .string s] 4).run Try.prog w = .ok (.string s) w := fun a b c d s => part_scal s9 rfl w
  rw [hsh, hsh, run_equalIn_struct w 9999 32 _ _ hu hs]
  simp only [Program.fieldsOf, Try.underlying32, Op.eqFields]
  have q0 := run_equalIn_int (P := Try.prog) w 9998 3 .i64 .i64 k.kind k'.kind h3
  have q1 := run_equalIn_int (P := Try.prog) w 9998 3 .i64 .i64 k.frm k'.frm h3
  have q2 := run_equalIn_int (P := Try.prog) w 9998 3 .i64 .i64 k.round k'.round h3
  have q3 := run_equalIn_int (P := Try.prog) w 9998 3 .i64 .i64 k.valid k'.valid h3
  have q4 := run_equalIn_string (P := Try.prog) w 9998 9 k.value k'.value h9
  obtain ⟨a, b, c, d, e⟩ := k
  obtain ⟨a', b', c', d', e'⟩ := k'
  simp [d0, d1, d2, d3, d4, q0, q1, q2, q3, q4, bytes_toList_inj]
  by_cases h1 : a = a' <;> by_cases h2 : b = b' <;> by_cases h3 : c = c' <;> by_cases h4 : d = d' <;> by_cases h5 : e = e' <;> simp [h1, h2, h3, h4, h5]
theorem take_eqW {l1 l2 : List Wrd} {i : Nat} {a : Wrd} (h : l1.take i = l2.take i) (h1 : l1[i]? = some a) (h2 : l2[i]? = some a) : l1.take (i + 1) = l2.take (i + 1) := by
  rw [List.take_add_one, List.take_add_one, h, h1, h2]
def zS : ASt := ⟨0, 0, 0, 0, VoteM.empty, 0, 0, VoteM.empty, 0, VoteM.empty, 0, [], [], false, false, VoteM.empty⟩
abbrev nilV : Value := .slice none 0 0
theorem okA_sp {n t me h : Int} {v : ByteArray} (hk : okA n t me h v = true) : quorum n t ≠ 0 ∧ 1 ≤ me ∧ me ≤ n ∧ 0 ≤ h ∧ h ≤ 64 ∧ v ≠ VoteM.empty ∧ v.size ≤ 4096 := by
  simpa [okA, and_assoc] using hk
theorem okA_of {n t me h : Int} {v : ByteArray} (hq : quorum n t ≠ 0) (h1 : 1 ≤ me) (h2 : me ≤ n) (h3 : 0 ≤ h) (h4 : h ≤ 64) (h5 : ¬ v = { data := #[] }) (h6 : v.size ≤ 4096) : okA n t me h v = true := by
  simp only [okA, Bool.and_eq_true, decide_eq_true_eq]
  exact ⟨hq, h1, h2, h3, h4, h5, h6⟩
theorem c45r (st : ASt) (W : st.Wf) (q : Wrd) (pv lv : Value) (w0 : World) (ho : Own w0.heap [wsR pv st.Ps, wsR lv st.L]) : Cl Try.prog 45 #[aV st pv lv, wrdV q] w0 (RetS [wsR pv st.Ps, wsR lv st.L] w0 (fun o (x : Value × Value × Value) => o = .tuple #[aV (st.take q).1 x.1 x.2.1, x.2.2]) fun x => [wsR x.1 (st.take q).1.Ps, wsR x.2.1 (st.take q).1.L, wsR x.2.2 (st.take q).2]) := by
  by_cases hn : (st.round < 0 ∨ st.done = true) ∨ st.cnt q = false
  · rw [take_not hn]
    refine ⟨(c45n st W q hn pv lv w0 (SlOk.rd (ho.ok (wsR pv st.Ps) (by simp))) (SlOk.rd (ho.ok (wsR lv st.L) (by simp)))).out.mono ?_⟩
    rintro _ w' ⟨v, e, hp, hc⟩
    refine ⟨v, (pv, lv, nilV), e, hp, ?_⟩
    have M := ((Sep.start ho).quiet hc).nilT encW 32 5
    exact M.f2.f2
  · have h0 : 0 ≤ st.round := by
      rcases Int.lt_or_le st.round 0 with h | h
      · exact absurd (.inl (.inl h)) hn
      · exact h
    have hd : st.done = false := by
      cases h : st.done
      · rfl
      · exact absurd (.inl (.inr h)) hn
    have hc : st.cnt q = true := by
      cases h : st.cnt q
      · exact absurd (.inr h) hn
      · rfl
    exact c45y st W q h0 hd hc pv lv w0 ho

set_option maxRecDepth 100000 in
set_option maxHeartbeats 400000 in
theorem c43 (l1 l2 : List Wrd) (hl : l1.length ≤ 100000) (v1 v2 : Value) (w0 : World) (hr1 : RdSl w0.heap v1 l1.length 5 (l1.flatMap encW)) (hr2 : RdSl w0.heap v2 l2.length 5 (l2.flatMap encW)) : Cl Try.prog 43 #[v1, v2] w0 (RetQ w0 fun r => r = .bool (decide (l1 = l2))) := by
  have M : Sep (fun _ => False) w0 w0 _ := Sep.nil _ w0
  have hro1 := ro_of hr1
  have hro2 := ro_of hr2
  obtain ⟨A1, d1, rfl, hcc1⟩ := hr1.form
  obtain ⟨A2, d2, rfl, hcc2⟩ := hr2.form
  refine enter (vs := [_, _]) Try.func43 rfl rfl rfl ?_
  intro a F
  refine wp_seq ?_
  refine wp_region_l [.ind] ([0]) rfl ?_
  refine s_I F rfl rfl rfl rfl rfl rfl ?_; clear F a; intro a F
  refine t_endM M ?_; (clear M; try clear w); intro w M
  refine wp_seq ?_
  refine wp_seq ?_
  refine wp_region_l [.ind, .ind, .ind, .ind, .ind] ([0, 1, 2, 3, 4]) rfl ?_
  refine s_I F rfl rfl rfl rfl rfl rfl ?_; clear F a; intro a F
  refine s_len F rfl rfl rfl rfl sl_22_R4 rfl ?_; clear F a; intro a F
  refine s_I F rfl rfl rfl rfl rfl rfl ?_; clear F a; intro a F
  refine s_len F rfl rfl rfl rfl sl_22_R4 rfl ?_; clear F a; intro a F
  refine s_bin F rfl rfl rfl rfl rfl rfl rfl ?_; clear F a; intro a F
  refine t_endM M ?_; (clear M; try clear w); intro w M
  refine c_if F rfl ?_ ?_
  ·
    clear F; intro hc0 F
    try rw [hc0] at F
    replace hc0 := nd1 hc0
    refine wp_seq ?_
    replace F := F.keep [0, 1, 4] rfl
    refine wp_region_l [.ind] ([0]) rfl ?_
    refine s_I F rfl rfl rfl rfl rfl rfl ?_; clear F a; intro a F
    refine t_endM M ?_; (clear M; try clear w); intro w M
    refine wp_ret ?_
    refine ret1 F rfl rfl ?_
    -- end 0
    refine ⟨_, rfl, ?_, M.chg⟩
    rw [decide_eq_false]
    intro e
    have := congrArg List.length e
    omega
  ·
    clear F; intro hc1 F
    try rw [hc1] at F
    replace hc1 := nd0 hc1
    refine wp_skip ?_
    refine wp_seq ?_
    refine wp_seq ?_
    replace F := F.keep [0, 1, 4] rfl
    refine wp_region_l [.ind] ([0]) rfl ?_
    refine s_I F rfl rfl rfl rfl rfl rfl ?_; clear F a; intro a F
    refine t_endM M ?_; (clear M; try clear w); intro w M
    refine wp_block ?_
    refine loopX (X := (Int)) F [0, 1] rfl (fun (i : Int) => (0 ≤ i) ∧ (i ≤ l1.length) ∧ (l1.length = l2.length) ∧ (l1.take i.toNat = l2.take i.toNat)) (fun (i : Int) => [(5, .int .i64 i)]) (fun (i : Int) => []) (fun (i : Int) => l1.length - i.toNat) (0) M ⟨(by omega), (by omega), (by omega), (by simp)⟩ (F.keep [5, 0, 1] rfl) ?_
    clear F M; clear a; (try clear w)
    rintro i a w ⟨i0, i1, he, ht⟩ F M; try dsimp only at F M
    try simp only [List.cons_append, List.nil_append] at F M
    try dsimp only at i0 i1 he ht
    refine wp_seq ?_
    refine wp_seq ?_
    refine wp_region_l [.ind, .ind, .ind, .ind] ([0, 1, 2, 3]) rfl ?_
    refine s_I F rfl rfl rfl rfl rfl rfl ?_; clear F a; intro a F
    refine s_I F rfl rfl rfl rfl rfl rfl ?_; clear F a; intro a F
    refine s_len F rfl rfl rfl rfl sl_22_R4 rfl ?_; clear F a; intro a F
    refine s_bin F rfl rfl rfl rfl rfl rfl rfl ?_; clear F a; intro a F
    refine t_endM M ?_; (clear M; try clear w); intro w M
    refine c_if F rfl ?_ ?_
    ·
      clear F; intro hc2 F
      try rw [hc2] at F
      replace hc2 := of_decide_eq_true hc2
      refine wp_skip ?_
      refine wp_seq ?_
      refine wp_block ?_
      refine wp_seq ?_
      replace F := F.keep [0, 1, 5] rfl
      refine wp_region_t [.ind, .ind, .ind, .rd, .ind, .ind, .ind, .rd, .ind] [] (otOf [0, 1, 2, 3, 4, 5, 6, 7, 8]) mixed (by kernel_rfl) ?_
      refine s_I F rfl rfl rfl rfl rfl rfl ?_; clear F a; intro a F
      refine s_I F rfl rfl rfl rfl rfl rfl ?_; clear F a; intro a F
      refine s_ix F rfl rfl rfl rfl sl_22_R4 rfl rfl (by exact M.chg.ro hro1) (by omega) (by omega) ?_; clear F a; intro e19 he19 a F
      refine s_lda F rfl rfl rfl rfl ag_32_R4 rfl rfl (rdsX (M.chg.ro hro1) (by intro e; rfl) he19) ?_; clear F a; intro a F
      refine s_I F rfl rfl rfl rfl rfl rfl ?_; clear F a; intro a F
      refine s_I F rfl rfl rfl rfl rfl rfl ?_; clear F a; intro a F
      refine s_ix F rfl rfl rfl rfl sl_22_R4 rfl rfl (by exact M.chg.ro hro2) (by omega) (by omega) ?_; clear F a; intro e23 he23 a F
      try (obtain rfl := Option.some.inj (he19.symm.trans he23))
      refine s_lda F rfl rfl rfl rfl ag_32_R4 rfl rfl (rdsX (M.chg.ro hro2) (by intro e; rfl) he23) ?_; clear F a; intro a F
      refine s_sne eqW F rfl rfl rfl rfl rfl rfl ?_; clear F a; intro a F
      refine t_endM M ?_; (clear M; try clear w); intro w M
      refine c_if F rfl ?_ ?_
      ·
        clear F; intro hc3 F
        try rw [hc3] at F
        replace hc3 := nd1 hc3
        refine wp_seq ?_
        replace F := F.keep [0, 1, 5] rfl
        refine wp_region_l [.ind] ([0]) rfl ?_
        refine s_I F rfl rfl rfl rfl rfl rfl ?_; clear F a; intro a F
        refine t_endM M ?_; (clear M; try clear w); intro w M
        refine wp_ret ?_
        refine ret1 F rfl rfl ?_
        -- end 1
        refine ⟨_, rfl, ?_, M.chg⟩
        rw [decide_eq_false]
        intro e
        subst e
        rw [he19] at he23
        exact absurd (Option.some.inj he23) (by assumption)
      ·
        clear F; intro hc4 F
        try rw [hc4] at F
        replace hc4 := nd0 hc4
        refine wp_skip ?_
        replace F := F.keep [0, 1, 5] rfl
        refine wp_region_l [.ind, .ind, .ind] ([0, 1, 2]) rfl ?_
        refine s_I F rfl rfl rfl rfl rfl rfl ?_; clear F a; intro a F
        refine s_add F rfl rfl rfl rfl rfl rfl (by unfold In64; omega) ?_; clear F a; intro a F
        refine s_I F rfl rfl rfl rfl rfl rfl ?_; clear F a; intro a F
        refine t_endM M ?_; (clear M; try clear w); intro w M
        refine again (i + 1) (by show _ < _; (try dsimp only); omega) ⟨(by omega), (by assumption), (by assumption), (by rw [show (i + 1).toNat = i.toNat + 1 by omega]; exact take_eqW ht he19 (by rw [he23]; exact congrArg some (Eq.symm (by assumption))))⟩ (F.keep [5, 0, 1] rfl) ?_
        try dsimp only [List.cons_append, List.nil_append]
        refine M.pick ?_; repeat (exact PkG.nil)
    ·
      clear F; intro hc5 F
      try rw [hc5] at F
      replace hc5 := of_decide_eq_false hc5
      refine wp_exit ?_
      refine wp_seq ?_
      replace F := F.keep [0, 1, 5] rfl
      refine wp_region_l [.ind] ([0]) rfl ?_
      refine s_I F rfl rfl rfl rfl rfl rfl ?_; clear F a; intro a F
      refine t_endM M ?_; (clear M; try clear w); intro w M
      refine wp_ret ?_
      refine ret1 F rfl rfl ?_
      -- end 2
      refine ⟨_, rfl, ?_, M.chg⟩
      rw [decide_eq_true]
      rw [List.take_of_length_le (by omega), List.take_of_length_le (by omega)] at ht
      exact ht
set_option maxRecDepth 100000 in
set_option maxHeartbeats 400000 in
theorem c42 (st : ASt) {PA LA : Option Addr} {pn pc ln lc : Nat} (w0 : World) : Cl Try.prog 42 #[aV st (.slice PA pn pc) (.slice LA ln lc)] w0 (RetS [] w0 (fun o (x : Value) => o = .tuple #[aV st.start (.slice PA pn pc) (.slice LA ln lc), x]) fun x => [wsR x st.startO]) := by
  have M : Sep (fun b => b ∈ foots ([] : List Res)) w0 w0 _ := Sep.nil _ w0
  refine enter (vs := [_]) Try.func42 rfl rfl rfl ?_
  intro a F
  refine wp_seq ?_
  refine wp_region_l [.wr, .wr, .ind] ([0, 1, 2]) rfl ?_
  refine s_bxA F M rfl rfl rfl rfl rfl ?_; (clear F a M; try clear w); intro b1 w M a F
  refine s_alc F M rfl rfl rfl rfl zr_53_R4 rfl ?_; (clear F a M; try clear w); intro b2 w M a F
  refine s_I F rfl rfl rfl rfl rfl rfl ?_; clear F a; intro a F
  refine t_endM M ?_; (clear M; try clear w); intro w M
  refine wp_seq ?_
  refine wp_seq ?_
  refine wp_region_l [.ind, .rd, .ind] ([0, 1, 2]) rfl ?_
  refine s_fa0 F rfl rfl rfl rfl fa_53_3_R4 rfl ?_; clear F a; intro a F
  refine s_ld F rfl rfl rfl rfl sc_3_R4 rfl (by exact cell_of_blk M.h1 (lit rfl)) ?_; clear F a; intro a F
  refine s_bin F rfl rfl rfl rfl rfl rfl rfl ?_; clear F a; intro a F
  refine t_endM M ?_; (clear M; try clear w); intro w M
  refine c_if F rfl ?_ ?_
  ·
    clear F; intro hc0 F
    try rw [hc0] at F
    replace hc0 := of_decide_eq_true hc0
    refine wp_seq ?_
    replace F := F.keep [0, 1, 2, 3] rfl
    refine wp_region_l [.rd, .wr, .ind] ([0, 1, 2]) rfl ?_
    refine s_lda F rfl rfl rfl rfl ag_53_R4 rfl rfl (cells_whole M.h1) ?_; clear F a; intro a F
    refine s_stW F M rfl rfl rfl sz_53_R4 rfl rfl rfl rfl rfl ?_; (clear M; try clear w); intro w M
    refine s_I F rfl rfl rfl rfl rfl rfl ?_; clear F a; intro a F
    refine t_endM M ?_; (clear M; try clear w); intro w M
    refine wp_ret ?_
    refine rt2 F rfl (by exact rv_a F rfl ag_53_R4 rfl (cells_whole M.h0)) (rv_t F rfl) ?_
    -- end 0
    replace M := M.nilT encW 32 5
    rw [(start_dead (by assumption)).1, (start_dead (by assumption)).2]
    refine ⟨_, nilV, rfl, rfl, ?_⟩
    exact Sep.left (m := [_]) M
  ·
    clear F; intro hc1 F
    try rw [hc1] at F
    replace hc1 := of_decide_eq_false hc1
    refine wp_skip ?_
    refine wp_seq ?_
    replace F := F.keep [0, 1, 2, 3] rfl
    refine wp_region_l [.rd, .wr, .ind, .ind, .wr, .ind] ([0, 1, 2, 3, 4, 5]) rfl ?_
    refine s_lda F rfl rfl rfl rfl ag_53_R4 rfl rfl (cells_whole M.h1) ?_; clear F a; intro a F
    refine s_call (m := []) F M rfl rfl rfl rfl rfl (rfl : _ = some [_, _]) cb_84_R4 (fun nd_ => c84 st 0 _) ?_; (clear F a M; try clear w); rintro v x w rfl M a F; (try simp only [List.cons_append, List.nil_append] at M)
    refine s_I F rfl rfl rfl rfl rfl rfl ?_; clear F a; intro a F
    refine s_I F rfl rfl rfl rfl rfl rfl ?_; clear F a; intro a F
    refine s_stW F M.f1 rfl rfl rfl sz_53_R4 rfl rfl rfl rfl rfl ?_; (clear M; try clear w); intro w M
    refine s_I F rfl rfl rfl rfl rfl rfl ?_; clear F a; intro a F
    refine t_endM M ?_; (clear M; try clear w); intro w M
    refine wp_ret ?_
    refine rt2 F rfl (by exact rv_a F rfl ag_53_R4 rfl (cells_whole M.h0)) (rv_t F rfl) ?_
    -- end 1
    rw [(start_live (by omega)).1, (start_live (by omega)).2]
    refine ⟨_, x, rfl, rfl, ?_⟩
    have M1 : Sep _ _ _ (slR _ _ 32 _ _ :: _) := M.f1; replace M := M1; clear M1
    exact Sep.left (m := [_]) M
set_option maxRecDepth 100000 in
set_option maxHeartbeats 400000 in
theorem c40 (n t me h : Int) (v : ByteArray) (hk : okA n t me h v = true) (w0 : World) : Cl Try.prog 40 #[.int .i64 n, .int .i64 t, .int .i64 me, .int .i64 h, .string v] w0 (RetQ w0 fun o => o = .tuple #[aV (newA n t me h v) nilV nilV, .bool true]) := by
  have M : Sep (fun _ => False) w0 w0 _ := Sep.nil _ w0
  refine enter (vs := [_, _, _, _, _]) Try.func40 rfl rfl rfl ?_
  intro a F
  refine wp_seq ?_
  refine wp_region_l [.wr, .ind] ([0, 1]) rfl ?_
  refine s_alc F M rfl rfl rfl rfl zr_53_R4 rfl ?_; (clear F a M; try clear w); intro b10 w M a F
  refine s_I F rfl rfl rfl rfl rfl rfl ?_; clear F a; intro a F
  refine t_endM M ?_; (clear M; try clear w); intro w M
  refine wp_seq ?_
  refine wp_region_l [.ind, .ind, .wr, .ind, .ind, .ind, .wr, .wr, .ind] ([0, 1, 2, 3, 4, 5, 6, 7, 8]) rfl ?_
  refine s_I F rfl rfl rfl rfl rfl rfl ?_; clear F a; intro a F
  refine s_I F rfl rfl rfl rfl rfl rfl ?_; clear F a; intro a F
  refine s_cq F M rfl rfl rfl rfl rfl (rfl : _ = some [_, _]) cb_23_R4 (fun nd_ => c23 n t (okA_sp hk).1 _) ?_; (clear F a M; try clear w); rintro v w rfl M a F
  refine s_I F rfl rfl rfl rfl rfl rfl ?_; clear F a; intro a F
  refine s_I F rfl rfl rfl rfl rfl rfl ?_; clear F a; intro a F
  refine s_I F rfl rfl rfl rfl rfl rfl ?_; clear F a; intro a F
  refine s_alc F M rfl rfl rfl rfl zr_28_R4 rfl ?_; (clear F a M; try clear w); intro b12 w M a F
  refine s_stW F M rfl rfl rfl sz_28_R4 rfl rfl rfl rfl rfl ?_; (clear M; try clear w); intro w M
  refine s_I F rfl rfl rfl rfl rfl rfl ?_; clear F a; intro a F
  replace F : Fr _ _ ((13, Value.bool true) :: _) := F
  refine t_endM M ?_; (clear M; try clear w); intro w M
  refine wp_seq ?_
  refine wp_seq ?_
  replace F := F.keep [0, 1, 2, 3, 4, 10, 11, 12, 13] rfl
  refine wp_region_l [.ind, .ind, .ind, .ind, .ind, .ind, .ind, .ind, .ind, .ind, .ind, .ind, .ind, .ind, .ind, .ind, .ind, .ind, .ind, .ind, .ind, .ind, .ind, .ind, .ind, .ind, .ind, .ind] ([0, 1, 2, 3, 4, 5, 6, 7, 8, 9, 10, 11, 12, 13, 14, 15, 16, 17, 18, 19, 20, 21, 22, 23, 24, 25, 26, 27]) rfl ?_
  refine s_I F rfl rfl rfl rfl rfl rfl ?_; clear F a; intro a F
  refine s_I F rfl rfl rfl rfl rfl rfl ?_; clear F a; intro a F
  refine s_I F rfl rfl rfl rfl rfl rfl ?_; clear F a; intro a F
  refine s_I F rfl rfl rfl rfl rfl rfl ?_; clear F a; intro a F
  refine s_bin F rfl rfl rfl rfl rfl rfl rfl ?_; clear F a; intro a F
  refine s_I F rfl rfl rfl rfl rfl rfl ?_; clear F a; intro a F
  refine s_I F rfl rfl rfl rfl rfl rfl ?_; clear F a; intro a F
  refine bsplit F 26 rfl ?_ ?_
  ·
    clear F; intro hc0 F
    try rw [hc0] at F
    replace hc0 := of_decide_eq_true hc0
    refine s_no F rfl rfl rfl rfl ?_; clear F a; intro a F
    refine s_no F rfl rfl rfl rfl ?_; clear F a; intro a F
    refine s_no F rfl rfl rfl rfl ?_; clear F a; intro a F
    refine s_I F rfl rfl rfl rfl rfl rfl ?_; clear F a; intro a F
    refine s_I F rfl rfl rfl rfl rfl rfl ?_; clear F a; intro a F
    refine s_no F rfl rfl rfl rfl ?_; clear F a; intro a F
    refine s_no F rfl rfl rfl rfl ?_; clear F a; intro a F
    refine s_I F rfl rfl rfl rfl rfl rfl ?_; clear F a; intro a F
    refine s_I F rfl rfl rfl rfl rfl rfl ?_; clear F a; intro a F
    refine s_no F rfl rfl rfl rfl ?_; clear F a; intro a F
    refine s_no F rfl rfl rfl rfl ?_; clear F a; intro a F
    refine s_I F rfl rfl rfl rfl rfl rfl ?_; clear F a; intro a F
    refine s_I F rfl rfl rfl rfl rfl rfl ?_; clear F a; intro a F
    refine s_no F rfl rfl rfl rfl ?_; clear F a; intro a F
    refine s_no F rfl rfl rfl rfl ?_; clear F a; intro a F
    refine s_I F rfl rfl rfl rfl rfl rfl ?_; clear F a; intro a F
    refine s_I F rfl rfl rfl rfl rfl rfl ?_; clear F a; intro a F
    refine s_no F rfl rfl rfl rfl ?_; clear F a; intro a F
    refine s_no F rfl rfl rfl rfl ?_; clear F a; intro a F
    refine s_no F rfl rfl rfl rfl ?_; clear F a; intro a F
    refine s_I F rfl rfl rfl rfl rfl rfl ?_; clear F a; intro a F
    refine t_endM M ?_; (clear M; try clear w); intro w M
    refine c_t F rfl ?_
    refine wp_seq ?_
    replace F := F.keep [0, 1, 2, 3, 4, 10, 11, 12, 13] rfl
    refine wp_region_l [.ind, .wr, .ind] ([0, 1, 2]) rfl ?_
    refine s_bld F rfl rfl rfl rfl (parts0 F ) (bl_53__R4) ?_; clear F a; intro a F
    refine s_stW F M.f1 rfl rfl rfl sz_53_R4 rfl rfl rfl rfl rfl ?_; (clear M; try clear w); intro w M
    refine s_I F rfl rfl rfl rfl rfl rfl ?_; clear F a; intro a F
    refine t_endM M ?_; (clear M; try clear w); intro w M
    refine wp_ret ?_
    refine rt2 F rfl (by exact rv_a F rfl ag_53_R4 rfl (cells_whole M.h0)) (rv_t F rfl) ?_
    -- end 0
    exfalso
    obtain ⟨k1, k2, k3, k4, k5, k6, k7⟩ := okA_sp hk
    omega
  ·
    clear F; intro hc1 F
    try rw [hc1] at F
    replace hc1 := of_decide_eq_false hc1
    refine s_I F rfl rfl rfl rfl rfl rfl ?_; clear F a; intro a F
    refine s_I F rfl rfl rfl rfl rfl rfl ?_; clear F a; intro a F
    refine s_bin F rfl rfl rfl rfl rfl rfl rfl ?_; clear F a; intro a F
    refine s_I F rfl rfl rfl rfl rfl rfl ?_; clear F a; intro a F
    refine s_I F rfl rfl rfl rfl rfl rfl ?_; clear F a; intro a F
    refine bsplit F 31 rfl ?_ ?_
    ·
      clear F; intro hc2 F
      try rw [hc2] at F
      replace hc2 := of_decide_eq_true hc2
      refine s_no F rfl rfl rfl rfl ?_; clear F a; intro a F
      refine s_no F rfl rfl rfl rfl ?_; clear F a; intro a F
      refine s_I F rfl rfl rfl rfl rfl rfl ?_; clear F a; intro a F
      refine s_I F rfl rfl rfl rfl rfl rfl ?_; clear F a; intro a F
      refine s_no F rfl rfl rfl rfl ?_; clear F a; intro a F
      refine s_no F rfl rfl rfl rfl ?_; clear F a; intro a F
      refine s_I F rfl rfl rfl rfl rfl rfl ?_; clear F a; intro a F
      refine s_I F rfl rfl rfl rfl rfl rfl ?_; clear F a; intro a F
      refine s_no F rfl rfl rfl rfl ?_; clear F a; intro a F
      refine s_no F rfl rfl rfl rfl ?_; clear F a; intro a F
      refine s_I F rfl rfl rfl rfl rfl rfl ?_; clear F a; intro a F
      refine s_I F rfl rfl rfl rfl rfl rfl ?_; clear F a; intro a F
      refine s_no F rfl rfl rfl rfl ?_; clear F a; intro a F
      refine s_no F rfl rfl rfl rfl ?_; clear F a; intro a F
      refine s_no F rfl rfl rfl rfl ?_; clear F a; intro a F
      refine s_I F rfl rfl rfl rfl rfl rfl ?_; clear F a; intro a F
      refine t_endM M ?_; (clear M; try clear w); intro w M
      refine c_t F rfl ?_
      refine wp_seq ?_
      replace F := F.keep [0, 1, 2, 3, 4, 10, 11, 12, 13] rfl
      refine wp_region_l [.ind, .wr, .ind] ([0, 1, 2]) rfl ?_
      refine s_bld F rfl rfl rfl rfl (parts0 F ) (bl_53__R4) ?_; clear F a; intro a F
      refine s_stW F M.f1 rfl rfl rfl sz_53_R4 rfl rfl rfl rfl rfl ?_; (clear M; try clear w); intro w M
      refine s_I F rfl rfl rfl rfl rfl rfl ?_; clear F a; intro a F
      refine t_endM M ?_; (clear M; try clear w); intro w M
      refine wp_ret ?_
      refine rt2 F rfl (by exact rv_a F rfl ag_53_R4 rfl (cells_whole M.h0)) (rv_t F rfl) ?_
      -- end 1
      exfalso
      obtain ⟨k1, k2, k3, k4, k5, k6, k7⟩ := okA_sp hk
      omega
    ·
      clear F; intro hc3 F
      try rw [hc3] at F
      replace hc3 := of_decide_eq_false hc3
      refine s_I F rfl rfl rfl rfl rfl rfl ?_; clear F a; intro a F
      refine s_bin F rfl rfl rfl rfl rfl rfl rfl ?_; clear F a; intro a F
      refine s_I F rfl rfl rfl rfl rfl rfl ?_; clear F a; intro a F
      refine s_I F rfl rfl rfl rfl rfl rfl ?_; clear F a; intro a F
      refine bsplit F 35 rfl ?_ ?_
      ·
        clear F; intro hc4 F
        try rw [hc4] at F
        replace hc4 := of_decide_eq_true hc4
        refine s_no F rfl rfl rfl rfl ?_; clear F a; intro a F
        refine s_no F rfl rfl rfl rfl ?_; clear F a; intro a F
        refine s_I F rfl rfl rfl rfl rfl rfl ?_; clear F a; intro a F
        refine s_I F rfl rfl rfl rfl rfl rfl ?_; clear F a; intro a F
        refine s_no F rfl rfl rfl rfl ?_; clear F a; intro a F
        refine s_no F rfl rfl rfl rfl ?_; clear F a; intro a F
        refine s_I F rfl rfl rfl rfl rfl rfl ?_; clear F a; intro a F
        refine s_I F rfl rfl rfl rfl rfl rfl ?_; clear F a; intro a F
        refine s_no F rfl rfl rfl rfl ?_; clear F a; intro a F
        refine s_no F rfl rfl rfl rfl ?_; clear F a; intro a F
        refine s_no F rfl rfl rfl rfl ?_; clear F a; intro a F
        refine s_I F rfl rfl rfl rfl rfl rfl ?_; clear F a; intro a F
        refine t_endM M ?_; (clear M; try clear w); intro w M
        refine c_t F rfl ?_
        refine wp_seq ?_
        replace F := F.keep [0, 1, 2, 3, 4, 10, 11, 12, 13] rfl
        refine wp_region_l [.ind, .wr, .ind] ([0, 1, 2]) rfl ?_
        refine s_bld F rfl rfl rfl rfl (parts0 F ) (bl_53__R4) ?_; clear F a; intro a F
        refine s_stW F M.f1 rfl rfl rfl sz_53_R4 rfl rfl rfl rfl rfl ?_; (clear M; try clear w); intro w M
        refine s_I F rfl rfl rfl rfl rfl rfl ?_; clear F a; intro a F
        refine t_endM M ?_; (clear M; try clear w); intro w M
        refine wp_ret ?_
        refine rt2 F rfl (by exact rv_a F rfl ag_53_R4 rfl (cells_whole M.h0)) (rv_t F rfl) ?_
        -- end 2
        exfalso
        obtain ⟨k1, k2, k3, k4, k5, k6, k7⟩ := okA_sp hk
        omega
      ·
        clear F; intro hc5 F
        try rw [hc5] at F
        replace hc5 := of_decide_eq_false hc5
        refine s_I F rfl rfl rfl rfl rfl rfl ?_; clear F a; intro a F
        refine s_bin F rfl rfl rfl rfl rfl rfl rfl ?_; clear F a; intro a F
        refine s_I F rfl rfl rfl rfl rfl rfl ?_; clear F a; intro a F
        refine s_I F rfl rfl rfl rfl rfl rfl ?_; clear F a; intro a F
        refine bsplit F 39 rfl ?_ ?_
        ·
          clear F; intro hc6 F
          try rw [hc6] at F
          replace hc6 := of_decide_eq_true hc6
          refine s_no F rfl rfl rfl rfl ?_; clear F a; intro a F
          refine s_no F rfl rfl rfl rfl ?_; clear F a; intro a F
          refine s_I F rfl rfl rfl rfl rfl rfl ?_; clear F a; intro a F
          refine s_I F rfl rfl rfl rfl rfl rfl ?_; clear F a; intro a F
          refine s_no F rfl rfl rfl rfl ?_; clear F a; intro a F
          refine s_no F rfl rfl rfl rfl ?_; clear F a; intro a F
          refine s_no F rfl rfl rfl rfl ?_; clear F a; intro a F
          refine s_I F rfl rfl rfl rfl rfl rfl ?_; clear F a; intro a F
          refine t_endM M ?_; (clear M; try clear w); intro w M
          refine c_t F rfl ?_
          refine wp_seq ?_
          replace F := F.keep [0, 1, 2, 3, 4, 10, 11, 12, 13] rfl
          refine wp_region_l [.ind, .wr, .ind] ([0, 1, 2]) rfl ?_
          refine s_bld F rfl rfl rfl rfl (parts0 F ) (bl_53__R4) ?_; clear F a; intro a F
          refine s_stW F M.f1 rfl rfl rfl sz_53_R4 rfl rfl rfl rfl rfl ?_; (clear M; try clear w); intro w M
          refine s_I F rfl rfl rfl rfl rfl rfl ?_; clear F a; intro a F
          refine t_endM M ?_; (clear M; try clear w); intro w M
          refine wp_ret ?_
          refine rt2 F rfl (by exact rv_a F rfl ag_53_R4 rfl (cells_whole M.h0)) (rv_t F rfl) ?_
          -- end 3
          exfalso
          obtain ⟨k1, k2, k3, k4, k5, k6, k7⟩ := okA_sp hk
          omega
        ·
          clear F; intro hc7 F
          try rw [hc7] at F
          replace hc7 := of_decide_eq_false hc7
          refine s_I F rfl rfl rfl rfl rfl rfl ?_; clear F a; intro a F
          refine s_bin F rfl rfl rfl rfl rfl rfl rfl ?_; clear F a; intro a F
          refine s_I F rfl rfl rfl rfl rfl rfl ?_; clear F a; intro a F
          refine s_I F rfl rfl rfl rfl rfl rfl ?_; clear F a; intro a F
          refine bsplit F 43 rfl ?_ ?_
          ·
            clear F; intro hc8 F
            try rw [hc8] at F
            replace hc8 := of_decide_eq_true hc8
            refine s_no F rfl rfl rfl rfl ?_; clear F a; intro a F
            refine s_no F rfl rfl rfl rfl ?_; clear F a; intro a F
            refine s_no F rfl rfl rfl rfl ?_; clear F a; intro a F
            refine s_I F rfl rfl rfl rfl rfl rfl ?_; clear F a; intro a F
            refine t_endM M ?_; (clear M; try clear w); intro w M
            refine c_t F rfl ?_
            refine wp_seq ?_
            replace F := F.keep [0, 1, 2, 3, 4, 10, 11, 12, 13] rfl
            refine wp_region_l [.ind, .wr, .ind] ([0, 1, 2]) rfl ?_
            refine s_bld F rfl rfl rfl rfl (parts0 F ) (bl_53__R4) ?_; clear F a; intro a F
            refine s_stW F M.f1 rfl rfl rfl sz_53_R4 rfl rfl rfl rfl rfl ?_; (clear M; try clear w); intro w M
            refine s_I F rfl rfl rfl rfl rfl rfl ?_; clear F a; intro a F
            refine t_endM M ?_; (clear M; try clear w); intro w M
            refine wp_ret ?_
            refine rt2 F rfl (by exact rv_a F rfl ag_53_R4 rfl (cells_whole M.h0)) (rv_t F rfl) ?_
            -- end 4
            exfalso
            obtain ⟨k1, k2, k3, k4, k5, k6, k7⟩ := okA_sp hk
            exact k6 (by assumption)
          ·
            clear F; intro hc9 F
            try rw [hc9] at F
            replace hc9 := of_decide_eq_false hc9
            refine s_I F rfl rfl rfl rfl rfl rfl ?_; clear F a; intro a F
            refine s_lenS F rfl rfl rfl rfl st_9_R4 rfl ?_; clear F a; intro a F
            refine s_bin F rfl rfl rfl rfl rfl rfl rfl ?_; clear F a; intro a F
            refine s_I F rfl rfl rfl rfl rfl rfl ?_; clear F a; intro a F
            refine t_endM M ?_; (clear M; try clear w); intro w M
            refine c_if F rfl ?_ ?_
            ·
              clear F; intro hc10 F
              try rw [hc10] at F
              replace hc10 := of_decide_eq_true hc10
              refine wp_seq ?_
              replace F := F.keep [0, 1, 2, 3, 4, 10, 11, 12, 13] rfl
              refine wp_region_l [.ind, .wr, .ind] ([0, 1, 2]) rfl ?_
              refine s_bld F rfl rfl rfl rfl (parts0 F ) (bl_53__R4) ?_; clear F a; intro a F
              refine s_stW F M.f1 rfl rfl rfl sz_53_R4 rfl rfl rfl rfl rfl ?_; (clear M; try clear w); intro w M
              refine s_I F rfl rfl rfl rfl rfl rfl ?_; clear F a; intro a F
              refine t_endM M ?_; (clear M; try clear w); intro w M
              refine wp_ret ?_
              refine rt2 F rfl (by exact rv_a F rfl ag_53_R4 rfl (cells_whole M.h0)) (rv_t F rfl) ?_
              -- end 5
              exfalso
              obtain ⟨k1, k2, k3, k4, k5, k6, k7⟩ := okA_sp hk
              omega
            ·
              clear F; intro hc11 F
              try rw [hc11] at F
              replace hc11 := of_decide_eq_false hc11
              refine wp_skip ?_
              refine wp_seq ?_
              replace F := F.keep [0, 1, 2, 3, 4, 10, 11, 12, 13] rfl
              refine wp_region_l [.ind, .ind, .ind, .rd, .ind, .wr, .ind] ([0, 1, 2, 3, 4, 5, 6]) rfl ?_
              refine s_I F rfl rfl rfl rfl rfl rfl ?_; clear F a; intro a F
              refine s_I F rfl rfl rfl rfl rfl rfl ?_; clear F a; intro a F
              refine s_I F rfl rfl rfl rfl rfl rfl ?_; clear F a; intro a F
              refine s_lda F rfl rfl rfl rfl ag_28_R4 rfl rfl (cells_whole M.h0) ?_; clear F a; intro a F
              refine s_bld F rfl rfl rfl rfl (parts7 F rfl rfl rfl rfl rfl rfl rfl) (bl_53_0_1_2_3_6_8_10_R4 _ _ _ _ _ _ _ _ _ _ _) ?_; clear F a; intro a F
              refine s_stW F M.f1 rfl rfl rfl sz_53_R4 rfl rfl rfl rfl rfl ?_; (clear M; try clear w); intro w M
              refine s_I F rfl rfl rfl rfl rfl rfl ?_; clear F a; intro a F
              refine t_endM M ?_; (clear M; try clear w); intro w M
              refine wp_ret ?_
              refine rt2 F rfl (by exact rv_a F rfl ag_53_R4 rfl (cells_whole M.h0)) (rv_t F rfl) ?_
              -- end 6
              exact ⟨_, rfl, rfl, M.chg⟩
set_option maxRecDepth 100000 in
set_option maxHeartbeats 400000 in
theorem c40q (n t me h : Int) (v : ByteArray) (hq : quorum n t = 0) (w0 : World) : Cl Try.prog 40 #[.int .i64 n, .int .i64 t, .int .i64 me, .int .i64 h, .string v] w0 (RetQ w0 fun o => o = .tuple #[aV zS nilV nilV, .bool false]) := by
  have M : Sep (fun _ => False) w0 w0 _ := Sep.nil _ w0
  refine enter (vs := [_, _, _, _, _]) Try.func40 rfl rfl rfl ?_
  intro a F
  refine wp_seq ?_
  refine wp_region_l [.wr, .ind] ([0, 1]) rfl ?_
  refine s_alc F M rfl rfl rfl rfl zr_53_R4 rfl ?_; (clear F a M; try clear w); intro b10 w M a F
  refine s_I F rfl rfl rfl rfl rfl rfl ?_; clear F a; intro a F
  refine t_endM M ?_; (clear M; try clear w); intro w M
  refine wp_seq ?_
  refine wp_region_l [.ind, .ind, .wr, .ind, .ind, .ind, .wr, .wr, .ind] ([0, 1, 2, 3, 4, 5, 6, 7, 8]) rfl ?_
  refine s_I F rfl rfl rfl rfl rfl rfl ?_; clear F a; intro a F
  refine s_I F rfl rfl rfl rfl rfl rfl ?_; clear F a; intro a F
  refine s_cq F M rfl rfl rfl rfl rfl (rfl : _ = some [_, _]) cb_23_R4 (fun nd_ => c23n n t hq _) ?_; (clear F a M; try clear w); rintro v w rfl M a F
  refine s_I F rfl rfl rfl rfl rfl rfl ?_; clear F a; intro a F
  refine s_I F rfl rfl rfl rfl rfl rfl ?_; clear F a; intro a F
  refine s_I F rfl rfl rfl rfl rfl rfl ?_; clear F a; intro a F
  refine s_alc F M rfl rfl rfl rfl zr_28_R4 rfl ?_; (clear F a M; try clear w); intro b12 w M a F
  refine s_stW F M rfl rfl rfl sz_28_R4 rfl rfl rfl rfl rfl ?_; (clear M; try clear w); intro w M
  refine s_I F rfl rfl rfl rfl rfl rfl ?_; clear F a; intro a F
  replace F : Fr _ _ ((13, Value.bool false) :: _) := F
  refine t_endM M ?_; (clear M; try clear w); intro w M
  refine wp_seq ?_
  refine wp_seq ?_
  replace F := F.keep [0, 1, 2, 3, 4, 10, 11, 12, 13] rfl
  refine wp_region_l [.ind, .ind, .ind, .ind, .ind, .ind, .ind, .ind, .ind, .ind, .ind, .ind, .ind, .ind, .ind, .ind, .ind, .ind, .ind, .ind, .ind, .ind, .ind, .ind, .ind, .ind, .ind, .ind] ([0, 1, 2, 3, 4, 5, 6, 7, 8, 9, 10, 11, 12, 13, 14, 15, 16, 17, 18, 19, 20, 21, 22, 23, 24, 25, 26, 27]) rfl ?_
  refine s_I F rfl rfl rfl rfl rfl rfl ?_; clear F a; intro a F
  refine s_I F rfl rfl rfl rfl rfl rfl ?_; clear F a; intro a F
  refine s_I F rfl rfl rfl rfl rfl rfl ?_; clear F a; intro a F
  refine s_no F rfl rfl rfl rfl ?_; clear F a; intro a F
  refine s_no F rfl rfl rfl rfl ?_; clear F a; intro a F
  refine s_I F rfl rfl rfl rfl rfl rfl ?_; clear F a; intro a F
  refine s_I F rfl rfl rfl rfl rfl rfl ?_; clear F a; intro a F
  refine s_no F rfl rfl rfl rfl ?_; clear F a; intro a F
  refine s_no F rfl rfl rfl rfl ?_; clear F a; intro a F
  refine s_no F rfl rfl rfl rfl ?_; clear F a; intro a F
  refine s_I F rfl rfl rfl rfl rfl rfl ?_; clear F a; intro a F
  refine s_I F rfl rfl rfl rfl rfl rfl ?_; clear F a; intro a F
  refine s_no F rfl rfl rfl rfl ?_; clear F a; intro a F
  refine s_no F rfl rfl rfl rfl ?_; clear F a; intro a F
  refine s_I F rfl rfl rfl rfl rfl rfl ?_; clear F a; intro a F
  refine s_I F rfl rfl rfl rfl rfl rfl ?_; clear F a; intro a F
  refine s_no F rfl rfl rfl rfl ?_; clear F a; intro a F
  refine s_no F rfl rfl rfl rfl ?_; clear F a; intro a F
  refine s_I F rfl rfl rfl rfl rfl rfl ?_; clear F a; intro a F
  refine s_I F rfl rfl rfl rfl rfl rfl ?_; clear F a; intro a F
  refine s_no F rfl rfl rfl rfl ?_; clear F a; intro a F
  refine s_no F rfl rfl rfl rfl ?_; clear F a; intro a F
  refine s_I F rfl rfl rfl rfl rfl rfl ?_; clear F a; intro a F
  refine s_I F rfl rfl rfl rfl rfl rfl ?_; clear F a; intro a F
  refine s_no F rfl rfl rfl rfl ?_; clear F a; intro a F
  refine s_no F rfl rfl rfl rfl ?_; clear F a; intro a F
  refine s_no F rfl rfl rfl rfl ?_; clear F a; intro a F
  refine s_I F rfl rfl rfl rfl rfl rfl ?_; clear F a; intro a F
  refine t_endM M ?_; (clear M; try clear w); intro w M
  refine c_t F rfl ?_
  refine wp_seq ?_
  replace F := F.keep [0, 1, 2, 3, 4, 10, 11, 12, 13] rfl
  refine wp_region_l [.ind, .wr, .ind] ([0, 1, 2]) rfl ?_
  refine s_bld F rfl rfl rfl rfl (parts0 F ) (bl_53__R4) ?_; clear F a; intro a F
  refine s_stW F M.f1 rfl rfl rfl sz_53_R4 rfl rfl rfl rfl rfl ?_; (clear M; try clear w); intro w M
  refine s_I F rfl rfl rfl rfl rfl rfl ?_; clear F a; intro a F
  refine t_endM M ?_; (clear M; try clear w); intro w M
  refine wp_ret ?_
  refine rt2 F rfl (by exact rv_a F rfl ag_53_R4 rfl (cells_whole M.h0)) (rv_t F rfl) ?_
  -- end 0
  exact ⟨_, rfl, rfl, M.chg⟩
set_option maxRecDepth 100000 in
set_option maxHeartbeats 400000 in
theorem c40m (n t me h : Int) (v : ByteArray) (hq : quorum n t ≠ 0) (hk : okA n t me h v = false) (w0 : World) : Cl Try.prog 40 #[.int .i64 n, .int .i64 t, .int .i64 me, .int .i64 h, .string v] w0 (RetQ w0 fun o => o = .tuple #[aV zS nilV nilV, .bool false]) := by
  have M : Sep (fun _ => False) w0 w0 _ := Sep.nil _ w0
  refine enter (vs := [_, _, _, _, _]) Try.func40 rfl rfl rfl ?_
  intro a F
  refine wp_seq ?_
  refine wp_region_l [.wr, .ind] ([0, 1]) rfl ?_
  refine s_alc F M rfl rfl rfl rfl zr_53_R4 rfl ?_; (clear F a M; try clear w); intro b10 w M a F
  refine s_I F rfl rfl rfl rfl rfl rfl ?_; clear F a; intro a F
  refine t_endM M ?_; (clear M; try clear w); intro w M
  refine wp_seq ?_
  refine wp_region_l [.ind, .ind, .wr, .ind, .ind, .ind, .wr, .wr, .ind] ([0, 1, 2, 3, 4, 5, 6, 7, 8]) rfl ?_
  refine s_I F rfl rfl rfl rfl rfl rfl ?_; clear F a; intro a F
  refine s_I F rfl rfl rfl rfl rfl rfl ?_; clear F a; intro a F
  refine s_cq F M rfl rfl rfl rfl rfl (rfl : _ = some [_, _]) cb_23_R4 (fun nd_ => c23 n t hq _) ?_; (clear F a M; try clear w); rintro v w rfl M a F
  refine s_I F rfl rfl rfl rfl rfl rfl ?_; clear F a; intro a F
  refine s_I F rfl rfl rfl rfl rfl rfl ?_; clear F a; intro a F
  refine s_I F rfl rfl rfl rfl rfl rfl ?_; clear F a; intro a F
  refine s_alc F M rfl rfl rfl rfl zr_28_R4 rfl ?_; (clear F a M; try clear w); intro b12 w M a F
  refine s_stW F M rfl rfl rfl sz_28_R4 rfl rfl rfl rfl rfl ?_; (clear M; try clear w); intro w M
  refine s_I F rfl rfl rfl rfl rfl rfl ?_; clear F a; intro a F
  replace F : Fr _ _ ((13, Value.bool true) :: _) := F
  refine t_endM M ?_; (clear M; try clear w); intro w M
  refine wp_seq ?_
  refine wp_seq ?_
  replace F := F.keep [0, 1, 2, 3, 4, 10, 11, 12, 13] rfl
  refine wp_region_l [.ind, .ind, .ind, .ind, .ind, .ind, .ind, .ind, .ind, .ind, .ind, .ind, .ind, .ind, .ind, .ind, .ind, .ind, .ind, .ind, .ind, .ind, .ind, .ind, .ind, .ind, .ind, .ind] ([0, 1, 2, 3, 4, 5, 6, 7, 8, 9, 10, 11, 12, 13, 14, 15, 16, 17, 18, 19, 20, 21, 22, 23, 24, 25, 26, 27]) rfl ?_
  refine s_I F rfl rfl rfl rfl rfl rfl ?_; clear F a; intro a F
  refine s_I F rfl rfl rfl rfl rfl rfl ?_; clear F a; intro a F
  refine s_I F rfl rfl rfl rfl rfl rfl ?_; clear F a; intro a F
  refine s_I F rfl rfl rfl rfl rfl rfl ?_; clear F a; intro a F
  refine s_bin F rfl rfl rfl rfl rfl rfl rfl ?_; clear F a; intro a F
  refine s_I F rfl rfl rfl rfl rfl rfl ?_; clear F a; intro a F
  refine s_I F rfl rfl rfl rfl rfl rfl ?_; clear F a; intro a F
  refine bsplit F 26 rfl ?_ ?_
  ·
    clear F; intro hc0 F
    try rw [hc0] at F
    replace hc0 := of_decide_eq_true hc0
    refine s_no F rfl rfl rfl rfl ?_; clear F a; intro a F
    refine s_no F rfl rfl rfl rfl ?_; clear F a; intro a F
    refine s_no F rfl rfl rfl rfl ?_; clear F a; intro a F
    refine s_I F rfl rfl rfl rfl rfl rfl ?_; clear F a; intro a F
    refine s_I F rfl rfl rfl rfl rfl rfl ?_; clear F a; intro a F
    refine s_no F rfl rfl rfl rfl ?_; clear F a; intro a F
    refine s_no F rfl rfl rfl rfl ?_; clear F a; intro a F
    refine s_I F rfl rfl rfl rfl rfl rfl ?_; clear F a; intro a F
    refine s_I F rfl rfl rfl rfl rfl rfl ?_; clear F a; intro a F
    refine s_no F rfl rfl rfl rfl ?_; clear F a; intro a F
    refine s_no F rfl rfl rfl rfl ?_; clear F a; intro a F
    refine s_I F rfl rfl rfl rfl rfl rfl ?_; clear F a; intro a F
    refine s_I F rfl rfl rfl rfl rfl rfl ?_; clear F a; intro a F
    refine s_no F rfl rfl rfl rfl ?_; clear F a; intro a F
    refine s_no F rfl rfl rfl rfl ?_; clear F a; intro a F
    refine s_I F rfl rfl rfl rfl rfl rfl ?_; clear F a; intro a F
    refine s_I F rfl rfl rfl rfl rfl rfl ?_; clear F a; intro a F
    refine s_no F rfl rfl rfl rfl ?_; clear F a; intro a F
    refine s_no F rfl rfl rfl rfl ?_; clear F a; intro a F
    refine s_no F rfl rfl rfl rfl ?_; clear F a; intro a F
    refine s_I F rfl rfl rfl rfl rfl rfl ?_; clear F a; intro a F
    refine t_endM M ?_; (clear M; try clear w); intro w M
    refine c_t F rfl ?_
    refine wp_seq ?_
    replace F := F.keep [0, 1, 2, 3, 4, 10, 11, 12, 13] rfl
    refine wp_region_l [.ind, .wr, .ind] ([0, 1, 2]) rfl ?_
    refine s_bld F rfl rfl rfl rfl (parts0 F ) (bl_53__R4) ?_; clear F a; intro a F
    refine s_stW F M.f1 rfl rfl rfl sz_53_R4 rfl rfl rfl rfl rfl ?_; (clear M; try clear w); intro w M
    refine s_I F rfl rfl rfl rfl rfl rfl ?_; clear F a; intro a F
    refine t_endM M ?_; (clear M; try clear w); intro w M
    refine wp_ret ?_
    refine rt2 F rfl (by exact rv_a F rfl ag_53_R4 rfl (cells_whole M.h0)) (rv_t F rfl) ?_
    -- end 0
    exact ⟨_, rfl, rfl, M.chg⟩
  ·
    clear F; intro hc1 F
    try rw [hc1] at F
    replace hc1 := of_decide_eq_false hc1
    refine s_I F rfl rfl rfl rfl rfl rfl ?_; clear F a; intro a F
    refine s_I F rfl rfl rfl rfl rfl rfl ?_; clear F a; intro a F
    refine s_bin F rfl rfl rfl rfl rfl rfl rfl ?_; clear F a; intro a F
    refine s_I F rfl rfl rfl rfl rfl rfl ?_; clear F a; intro a F
    refine s_I F rfl rfl rfl rfl rfl rfl ?_; clear F a; intro a F
    refine bsplit F 31 rfl ?_ ?_
    ·
      clear F; intro hc2 F
      try rw [hc2] at F
      replace hc2 := of_decide_eq_true hc2
      refine s_no F rfl rfl rfl rfl ?_; clear F a; intro a F
      refine s_no F rfl rfl rfl rfl ?_; clear F a; intro a F
      refine s_I F rfl rfl rfl rfl rfl rfl ?_; clear F a; intro a F
      refine s_I F rfl rfl rfl rfl rfl rfl ?_; clear F a; intro a F
      refine s_no F rfl rfl rfl rfl ?_; clear F a; intro a F
      refine s_no F rfl rfl rfl rfl ?_; clear F a; intro a F
      refine s_I F rfl rfl rfl rfl rfl rfl ?_; clear F a; intro a F
      refine s_I F rfl rfl rfl rfl rfl rfl ?_; clear F a; intro a F
      refine s_no F rfl rfl rfl rfl ?_; clear F a; intro a F
      refine s_no F rfl rfl rfl rfl ?_; clear F a; intro a F
      refine s_I F rfl rfl rfl rfl rfl rfl ?_; clear F a; intro a F
      refine s_I F rfl rfl rfl rfl rfl rfl ?_; clear F a; intro a F
      refine s_no F rfl rfl rfl rfl ?_; clear F a; intro a F
      refine s_no F rfl rfl rfl rfl ?_; clear F a; intro a F
      refine s_no F rfl rfl rfl rfl ?_; clear F a; intro a F
      refine s_I F rfl rfl rfl rfl rfl rfl ?_; clear F a; intro a F
      refine t_endM M ?_; (clear M; try clear w); intro w M
      refine c_t F rfl ?_
      refine wp_seq ?_
      replace F := F.keep [0, 1, 2, 3, 4, 10, 11, 12, 13] rfl
      refine wp_region_l [.ind, .wr, .ind] ([0, 1, 2]) rfl ?_
      refine s_bld F rfl rfl rfl rfl (parts0 F ) (bl_53__R4) ?_; clear F a; intro a F
      refine s_stW F M.f1 rfl rfl rfl sz_53_R4 rfl rfl rfl rfl rfl ?_; (clear M; try clear w); intro w M
      refine s_I F rfl rfl rfl rfl rfl rfl ?_; clear F a; intro a F
      refine t_endM M ?_; (clear M; try clear w); intro w M
      refine wp_ret ?_
      refine rt2 F rfl (by exact rv_a F rfl ag_53_R4 rfl (cells_whole M.h0)) (rv_t F rfl) ?_
      -- end 1
      exact ⟨_, rfl, rfl, M.chg⟩
    ·
      clear F; intro hc3 F
      try rw [hc3] at F
      replace hc3 := of_decide_eq_false hc3
      refine s_I F rfl rfl rfl rfl rfl rfl ?_; clear F a; intro a F
      refine s_bin F rfl rfl rfl rfl rfl rfl rfl ?_; clear F a; intro a F
      refine s_I F rfl rfl rfl rfl rfl rfl ?_; clear F a; intro a F
      refine s_I F rfl rfl rfl rfl rfl rfl ?_; clear F a; intro a F
      refine bsplit F 35 rfl ?_ ?_
      ·
        clear F; intro hc4 F
        try rw [hc4] at F
        replace hc4 := of_decide_eq_true hc4
        refine s_no F rfl rfl rfl rfl ?_; clear F a; intro a F
        refine s_no F rfl rfl rfl rfl ?_; clear F a; intro a F
        refine s_I F rfl rfl rfl rfl rfl rfl ?_; clear F a; intro a F
        refine s_I F rfl rfl rfl rfl rfl rfl ?_; clear F a; intro a F
        refine s_no F rfl rfl rfl rfl ?_; clear F a; intro a F
        refine s_no F rfl rfl rfl rfl ?_; clear F a; intro a F
        refine s_I F rfl rfl rfl rfl rfl rfl ?_; clear F a; intro a F
        refine s_I F rfl rfl rfl rfl rfl rfl ?_; clear F a; intro a F
        refine s_no F rfl rfl rfl rfl ?_; clear F a; intro a F
        refine s_no F rfl rfl rfl rfl ?_; clear F a; intro a F
        refine s_no F rfl rfl rfl rfl ?_; clear F a; intro a F
        refine s_I F rfl rfl rfl rfl rfl rfl ?_; clear F a; intro a F
        refine t_endM M ?_; (clear M; try clear w); intro w M
        refine c_t F rfl ?_
        refine wp_seq ?_
        replace F := F.keep [0, 1, 2, 3, 4, 10, 11, 12, 13] rfl
        refine wp_region_l [.ind, .wr, .ind] ([0, 1, 2]) rfl ?_
        refine s_bld F rfl rfl rfl rfl (parts0 F ) (bl_53__R4) ?_; clear F a; intro a F
        refine s_stW F M.f1 rfl rfl rfl sz_53_R4 rfl rfl rfl rfl rfl ?_; (clear M; try clear w); intro w M
        refine s_I F rfl rfl rfl rfl rfl rfl ?_; clear F a; intro a F
        refine t_endM M ?_; (clear M; try clear w); intro w M
        refine wp_ret ?_
        refine rt2 F rfl (by exact rv_a F rfl ag_53_R4 rfl (cells_whole M.h0)) (rv_t F rfl) ?_
        -- end 2
        exact ⟨_, rfl, rfl, M.chg⟩
      ·
        clear F; intro hc5 F
        try rw [hc5] at F
        replace hc5 := of_decide_eq_false hc5
        refine s_I F rfl rfl rfl rfl rfl rfl ?_; clear F a; intro a F
        refine s_bin F rfl rfl rfl rfl rfl rfl rfl ?_; clear F a; intro a F
        refine s_I F rfl rfl rfl rfl rfl rfl ?_; clear F a; intro a F
        refine s_I F rfl rfl rfl rfl rfl rfl ?_; clear F a; intro a F
        refine bsplit F 39 rfl ?_ ?_
        ·
          clear F; intro hc6 F
          try rw [hc6] at F
          replace hc6 := of_decide_eq_true hc6
          refine s_no F rfl rfl rfl rfl ?_; clear F a; intro a F
          refine s_no F rfl rfl rfl rfl ?_; clear F a; intro a F
          refine s_I F rfl rfl rfl rfl rfl rfl ?_; clear F a; intro a F
          refine s_I F rfl rfl rfl rfl rfl rfl ?_; clear F a; intro a F
          refine s_no F rfl rfl rfl rfl ?_; clear F a; intro a F
          refine s_no F rfl rfl rfl rfl ?_; clear F a; intro a F
          refine s_no F rfl rfl rfl rfl ?_; clear F a; intro a F
          refine s_I F rfl rfl rfl rfl rfl rfl ?_; clear F a; intro a F
          refine t_endM M ?_; (clear M; try clear w); intro w M
          refine c_t F rfl ?_
          refine wp_seq ?_
          replace F := F.keep [0, 1, 2, 3, 4, 10, 11, 12, 13] rfl
          refine wp_region_l [.ind, .wr, .ind] ([0, 1, 2]) rfl ?_
          refine s_bld F rfl rfl rfl rfl (parts0 F ) (bl_53__R4) ?_; clear F a; intro a F
          refine s_stW F M.f1 rfl rfl rfl sz_53_R4 rfl rfl rfl rfl rfl ?_; (clear M; try clear w); intro w M
          refine s_I F rfl rfl rfl rfl rfl rfl ?_; clear F a; intro a F
          refine t_endM M ?_; (clear M; try clear w); intro w M
          refine wp_ret ?_
          refine rt2 F rfl (by exact rv_a F rfl ag_53_R4 rfl (cells_whole M.h0)) (rv_t F rfl) ?_
          -- end 3
          exact ⟨_, rfl, rfl, M.chg⟩
        ·
          clear F; intro hc7 F
          try rw [hc7] at F
          replace hc7 := of_decide_eq_false hc7
          refine s_I F rfl rfl rfl rfl rfl rfl ?_; clear F a; intro a F
          refine s_bin F rfl rfl rfl rfl rfl rfl rfl ?_; clear F a; intro a F
          refine s_I F rfl rfl rfl rfl rfl rfl ?_; clear F a; intro a F
          refine s_I F rfl rfl rfl rfl rfl rfl ?_; clear F a; intro a F
          refine bsplit F 43 rfl ?_ ?_
          ·
            clear F; intro hc8 F
            try rw [hc8] at F
            replace hc8 := of_decide_eq_true hc8
            refine s_no F rfl rfl rfl rfl ?_; clear F a; intro a F
            refine s_no F rfl rfl rfl rfl ?_; clear F a; intro a F
            refine s_no F rfl rfl rfl rfl ?_; clear F a; intro a F
            refine s_I F rfl rfl rfl rfl rfl rfl ?_; clear F a; intro a F
            refine t_endM M ?_; (clear M; try clear w); intro w M
            refine c_t F rfl ?_
            refine wp_seq ?_
            replace F := F.keep [0, 1, 2, 3, 4, 10, 11, 12, 13] rfl
            refine wp_region_l [.ind, .wr, .ind] ([0, 1, 2]) rfl ?_
            refine s_bld F rfl rfl rfl rfl (parts0 F ) (bl_53__R4) ?_; clear F a; intro a F
            refine s_stW F M.f1 rfl rfl rfl sz_53_R4 rfl rfl rfl rfl rfl ?_; (clear M; try clear w); intro w M
            refine s_I F rfl rfl rfl rfl rfl rfl ?_; clear F a; intro a F
            refine t_endM M ?_; (clear M; try clear w); intro w M
            refine wp_ret ?_
            refine rt2 F rfl (by exact rv_a F rfl ag_53_R4 rfl (cells_whole M.h0)) (rv_t F rfl) ?_
            -- end 4
            exact ⟨_, rfl, rfl, M.chg⟩
          ·
            clear F; intro hc9 F
            try rw [hc9] at F
            replace hc9 := of_decide_eq_false hc9
            refine s_I F rfl rfl rfl rfl rfl rfl ?_; clear F a; intro a F
            refine s_lenS F rfl rfl rfl rfl st_9_R4 rfl ?_; clear F a; intro a F
            refine s_bin F rfl rfl rfl rfl rfl rfl rfl ?_; clear F a; intro a F
            refine s_I F rfl rfl rfl rfl rfl rfl ?_; clear F a; intro a F
            refine t_endM M ?_; (clear M; try clear w); intro w M
            refine c_if F rfl ?_ ?_
            ·
              clear F; intro hc10 F
              try rw [hc10] at F
              replace hc10 := of_decide_eq_true hc10
              refine wp_seq ?_
              replace F := F.keep [0, 1, 2, 3, 4, 10, 11, 12, 13] rfl
              refine wp_region_l [.ind, .wr, .ind] ([0, 1, 2]) rfl ?_
              refine s_bld F rfl rfl rfl rfl (parts0 F ) (bl_53__R4) ?_; clear F a; intro a F
              refine s_stW F M.f1 rfl rfl rfl sz_53_R4 rfl rfl rfl rfl rfl ?_; (clear M; try clear w); intro w M
              refine s_I F rfl rfl rfl rfl rfl rfl ?_; clear F a; intro a F
              refine t_endM M ?_; (clear M; try clear w); intro w M
              refine wp_ret ?_
              refine rt2 F rfl (by exact rv_a F rfl ag_53_R4 rfl (cells_whole M.h0)) (rv_t F rfl) ?_
              -- end 5
              exact ⟨_, rfl, rfl, M.chg⟩
            ·
              clear F; intro hc11 F
              try rw [hc11] at F
              replace hc11 := of_decide_eq_false hc11
              refine wp_skip ?_
              refine wp_seq ?_
              replace F := F.keep [0, 1, 2, 3, 4, 10, 11, 12, 13] rfl
              refine wp_region_l [.ind, .ind, .ind, .rd, .ind, .wr, .ind] ([0, 1, 2, 3, 4, 5, 6]) rfl ?_
              refine s_I F rfl rfl rfl rfl rfl rfl ?_; clear F a; intro a F
              refine s_I F rfl rfl rfl rfl rfl rfl ?_; clear F a; intro a F
              refine s_I F rfl rfl rfl rfl rfl rfl ?_; clear F a; intro a F
              refine s_lda F rfl rfl rfl rfl ag_28_R4 rfl rfl (cells_whole M.h0) ?_; clear F a; intro a F
              refine s_bld F rfl rfl rfl rfl (parts7 F rfl rfl rfl rfl rfl rfl rfl) (bl_53_0_1_2_3_6_8_10_R4 _ _ _ _ _ _ _ _ _ _ _) ?_; clear F a; intro a F
              refine s_stW F M.f1 rfl rfl rfl sz_53_R4 rfl rfl rfl rfl rfl ?_; (clear M; try clear w); intro w M
              refine s_I F rfl rfl rfl rfl rfl rfl ?_; clear F a; intro a F
              refine t_endM M ?_; (clear M; try clear w); intro w M
              refine wp_ret ?_
              refine rt2 F rfl (by exact rv_a F rfl ag_53_R4 rfl (cells_whole M.h0)) (rv_t F rfl) ?_
              -- end 6
              exfalso
              rw [okA_of hq (by omega) (by omega) (by omega) (by omega) (by assumption) (by omega)] at hk
              cases hk
theorem c40n (n t me h : Int) (v : ByteArray) (hk : okA n t me h v = false) (w0 : World) : Cl Try.prog 40 #[.int .i64 n, .int .i64 t, .int .i64 me, .int .i64 h, .string v] w0 (RetQ w0 fun o => o = .tuple #[aV zS nilV nilV, .bool false]) := by
  by_cases hq : quorum n t = 0
  · exact c40q n t me h v hq w0
  · exact c40m n t me h v hq hk w0
end Go.Proofs.Ytboibdmflblphaa
