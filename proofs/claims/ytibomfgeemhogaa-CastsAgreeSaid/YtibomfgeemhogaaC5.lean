/- C5 of the seat. -/
import Derived.Test.YtibomfgeemhogaaC3
import Derived.Test.YtibomfgeemhogaaFw7
namespace Go.Proofs.Ytibomfgeemhogaa
open Go Fw
theorem sl_27_C5 : slcB Try.prog 27 = some (38, 3) := by kernel_rfl
theorem fa_38_2_C5 : FA Try.prog 38 2 2 := fun _ _ _ => by kernel_rfl
theorem sc_9_C5 : scalB Try.prog 9 = true := by kernel_rfl
theorem st_9_C5 : strB Try.prog 9 = true := by kernel_rfl
theorem ag_38_C5 : aggB Try.prog 38 = some 3 := by kernel_rfl
theorem fa_32_3_C5 : FA Try.prog 32 3 3 := fun _ _ _ => by kernel_rfl
theorem sc_27_C5 : scalB Try.prog 27 = true := by kernel_rfl
theorem fa_38_0_C5 : FA Try.prog 38 0 0 := fun _ _ _ => by kernel_rfl
theorem sc_3_C5 : scalB Try.prog 3 = true := by kernel_rfl
theorem zr_32_C5 : zeroB Try.prog 32 = some (.agg #[.int .i64 0, .int .i64 0, .int .i64 0, .slice none 0 0, .bool false, .bool false, .string { data := #[] }]) := by kernel_rfl
theorem cb_13_C5 : callB Try.prog 13 = true := by kernel_rfl
theorem bl_32_0_1_2_C5 : ∀ (x0 : Int) (x1 : Int) (x2 : Int), ∀ w : World, (Instr.build 32 #[(0, .int .i64 x0), (1, .int .i64 x1), (2, .int .i64 x2)]).run Try.prog w = .ok (.agg #[.int .i64 x0, .int .i64 x1, .int .i64 x2, .slice none 0 0, .bool false, .bool false, .string { data := #[] }]) w := by intros; kernel_rfl
theorem sz_32_C5 : sizeB Try.prog 32 = some 7 := by kernel_rfl
theorem ag_32_C5 : aggB Try.prog 32 = some 7 := by kernel_rfl
theorem bl_32__C5 : ∀ w : World, (Instr.build 32 #[]).run Try.prog w = .ok (.agg #[.int .i64 0, .int .i64 0, .int .i64 0, .slice none 0 0, .bool false, .bool false, .string { data := #[] }]) w := by intros; kernel_rfl
open CastM

def few (l : List Msg) : Prop := l.length ≤ 80 ∧ ∀ m ∈ l, m.body.size ≤ 5000
instance (l : List Msg) : Decidable (few l) := by unfold few; infer_instance
abbrev refV (c : CSt) (v : Value) : Value := .agg #[.int .i64 c.n, .int .i64 c.t, .int .i64 c.frm, v, .bool c.ready, .bool c.done, .string c.body]
theorem cntL_take {L : List Msg} {i : Int} {e : Msg} {k : Int} {s : ByteArray} (h0 : 0 ≤ i) (he : L[i.toNat]? = some e) : cntL (L.take (i + 1).toNat) k s = cntL (L.take i.toNat) k s + if e.kind = k ∧ e.body = s then 1 else 0 := by
  rw [take_succ h0 he, cntL_snoc]
theorem eqM : EqV Try.prog 38 encM := by
  refine ⟨by kernel_rfl, fun k k' w => ?_⟩
  have hs : Try.prog.stoodInHeld 38 = false := by kernel_rfl
  have hu : Try.prog.underlying 38 = some (.struct (Try.prog.fieldsOf 38)) := by kernel_rfl
  have h3 : Try.prog.underlying 3 = some (.int .i64) := by kernel_rfl
  have h9 : Try.prog.underlying 9 = some .string := by kernel_rfl
  have s3 : scalB Try.prog 3 = true := by kernel_rfl
  have s9 : scalB Try.prog 9 = true := by kernel_rfl
  have hsh : ∀ m : Msg, (encM m).toArray = #[.int .i64 m.kind, .int .i64 m.frm, .string m.body] := fun _ => rfl
  rw [hsh, hsh, run_equalIn_struct w 9999 38 _ _ hu hs]
  simp only [Program.fieldsOf, Try.underlying38, Op.eqFields]
  have e0 : ∀ (a b : Int) (c : ByteArray), (part 3 #[Value.int .i64 a, .int .i64 b, .string c] 0).run Try.prog w = .ok (.int .i64 a) w := fun a b c => part_scal s3 rfl w
  have e1 : ∀ (a b : Int) (c : ByteArray), (part 3 #[Value.int .i64 a, .int .i64 b, .string c] 1).run Try.prog w = .ok (.int .i64 b) w := fun a b c => part_scal s3 rfl w
  have e2 : ∀ (a b : Int) (c : ByteArray), (part 9 #[Value.int .i64 a, .int .i64 b, .string c] 2).run Try.prog w = .ok (.string c) w := fun a b c => part_scal s9 rfl w
  have q0 := run_equalIn_int (P := Try.prog) w 9998 3 .i64 .i64 k.kind k'.kind h3
  have q1 := run_equalIn_int (P := Try.prog) w 9998 3 .i64 .i64 k.frm k'.frm h3
  have q2 := run_equalIn_string (P := Try.prog) w 9998 9 k.body k'.body h9
  obtain ⟨a, b, c⟩ := k
  obtain ⟨a', b', c'⟩ := k'
  simp [e0, e1, e2, q0, q1, q2, bytes_toList_inj]
  by_cases h1 : a = a' <;> by_cases h2 : b = b' <;> by_cases h3 : c = c' <;> simp [h1, h2, h3]

set_option maxRecDepth 100000 in
set_option maxHeartbeats 400000 in
theorem c15 (l : List Msg) (v : Value) (w0 : World) (hr : RdSl w0.heap v l.length 3 (l.flatMap encM)) : Cl Try.prog 15 #[v] w0 (RetQ w0 fun r => r = .int .i64 (if few l then 1 else 0)) := by
  have M : Sep (fun _ => False) w0 w0 _ := Sep.nil _ w0
  have hro := ro_of hr
  obtain ⟨A, cc, rfl, hcc⟩ := hr.form
  refine enter (vs := [_]) Try.func15 rfl rfl rfl ?_
  intro a F
  refine wp_seq ?_
  refine wp_region_l [.ind] ([0]) rfl ?_
  refine s_I F rfl rfl rfl rfl rfl rfl ?_; clear F a; intro a F
  refine t_endM M ?_; (clear M; try clear w); intro w M
  refine wp_seq ?_
  refine wp_seq ?_
  refine wp_region_l [.ind, .ind, .ind] ([0, 1, 2]) rfl ?_
  refine s_I F rfl rfl rfl rfl rfl rfl ?_; clear F a; intro a F
  refine s_len F rfl rfl rfl rfl sl_27_C5 rfl ?_; clear F a; intro a F
  refine s_bin F rfl rfl rfl rfl rfl rfl rfl ?_; clear F a; intro a F
  refine t_endM M ?_; (clear M; try clear w); intro w M
  refine c_if F rfl ?_ ?_
  ·
    clear F; intro hc0 F
    try rw [hc0] at F
    replace hc0 := of_decide_eq_true hc0
    refine wp_seq ?_
    replace F := F.keep [0, 2] rfl
    refine wp_region_l [.ind] ([0]) rfl ?_
    refine s_I F rfl rfl rfl rfl rfl rfl ?_; clear F a; intro a F
    refine t_endM M ?_; (clear M; try clear w); intro w M
    refine wp_ret ?_
    refine ret1 F rfl rfl ?_
    -- end 0
    refine ⟨_, rfl, ?_, M.chg⟩
    rw [if_neg (fun h => by have := h.1; omega)]
  ·
    clear F; intro hc1 F
    try rw [hc1] at F
    replace hc1 := of_decide_eq_false hc1
    refine wp_skip ?_
    refine wp_seq ?_
    refine wp_seq ?_
    replace F := F.keep [0, 2] rfl
    refine wp_region_l [.ind] ([0]) rfl ?_
    refine s_I F rfl rfl rfl rfl rfl rfl ?_; clear F a; intro a F
    refine t_endM M ?_; (clear M; try clear w); intro w M
    refine wp_block ?_
    refine wp_loop_ghost (fun n_ a w => ∃ (i : Int), n_ = l.length - i.toNat ∧ (0 ≤ i) ∧ (i ≤ l.length) ∧ (∀ m ∈ l.take i.toNat, m.body.size ≤ 5000) ∧ Fr 20 a [(0, .slice A l.length cc), (3, .int .i64 i)] ∧ Sep (fun _ => False) w0 w []) ((fun (i : Int) => l.length - i.toNat) (0)) ?_ ?_
    ·
      exact ⟨0, rfl, (by omega), (by omega), (by simp), F.keep [0, 3] rfl, Sep.left M⟩
    ·
      clear F M; clear a; (try clear w); intro n_ a w hI
      obtain ⟨i, rfl, i0, i1, ha, F, M⟩ := hI
      refine wp_seq ?_
      refine wp_seq ?_
      refine wp_region_l [.ind, .ind, .ind, .ind] ([0, 1, 2, 3]) rfl ?_
      refine s_I F rfl rfl rfl rfl rfl rfl ?_; clear F a; intro a F
      refine s_I F rfl rfl rfl rfl rfl rfl ?_; clear F a; intro a F
      refine s_len F rfl rfl rfl rfl sl_27_C5 rfl ?_; clear F a; intro a F
      refine s_bin F rfl rfl rfl rfl rfl rfl rfl ?_; clear F a; intro a F
      refine t_endM M ?_; (clear M; try clear w); intro w M
      refine c_if F rfl ?_ ?_
      ·
        clear F; intro hc2 F
        try rw [hc2] at F
        replace hc2 := of_decide_eq_true hc2
        obtain ⟨e, he⟩ := get_of i0 hc2
        obtain ⟨b, off, hA⟩ := hr.ptr (by omega)
        refine wp_skip ?_
        refine wp_seq ?_
        refine wp_block ?_
        refine wp_seq ?_
        replace F := F.keep [0, 3] rfl
        refine wp_region_l [.ind, .ind, .ind, .ind, .rd, .ind, .ind] ([0, 1, 2, 3, 4, 5, 6]) rfl ?_
        refine s_I F rfl rfl rfl rfl rfl rfl ?_; clear F a; intro a F
        refine s_I F rfl rfl rfl rfl rfl rfl ?_; clear F a; intro a F
        refine s_isA hA F rfl rfl rfl rfl sl_27_C5 rfl rfl (by omega) (by omega) ?_; clear F a; intro a F
        refine s_fa F rfl rfl rfl rfl fa_38_2_C5 rfl ?_; clear F a; intro a F
        refine s_ld F rfl rfl rfl rfl sc_9_C5 rfl (by exact rd_el hA (M.chg.ro hro) encM_len he rfl) ?_; clear F a; intro a F
        refine s_lenS F rfl rfl rfl rfl st_9_C5 rfl ?_; clear F a; intro a F
        refine s_bin F rfl rfl rfl rfl rfl rfl rfl ?_; clear F a; intro a F
        refine t_endM M ?_; (clear M; try clear w); intro w M
        refine c_if F rfl ?_ ?_
        ·
          clear F; intro hc3 F
          try rw [hc3] at F
          replace hc3 := of_decide_eq_true hc3
          refine wp_seq ?_
          replace F := F.keep [0, 3] rfl
          refine wp_region_l [.ind] ([0]) rfl ?_
          refine s_I F rfl rfl rfl rfl rfl rfl ?_; clear F a; intro a F
          refine t_endM M ?_; (clear M; try clear w); intro w M
          refine wp_ret ?_
          refine ret1 F rfl rfl ?_
          -- end 1
          refine ⟨_, rfl, ?_, M.chg⟩
          rw [if_neg (fun h => by have := h.2 e (List.mem_of_getElem? he); omega)]
        ·
          clear F; intro hc4 F
          try rw [hc4] at F
          replace hc4 := of_decide_eq_false hc4
          refine wp_skip ?_
          replace F := F.keep [0, 3] rfl
          refine wp_region_l [.ind, .ind, .ind] ([0, 1, 2]) rfl ?_
          refine s_I F rfl rfl rfl rfl rfl rfl ?_; clear F a; intro a F
          refine s_add F rfl rfl rfl rfl rfl rfl (by unfold In64; omega) ?_; clear F a; intro a F
          refine s_I F rfl rfl rfl rfl rfl rfl ?_; clear F a; intro a F
          refine t_endM M ?_; (clear M; try clear w); intro w M
          exact lp_again ((fun (i : Int) => l.length - i.toNat) (i + 1)) (by show _ < _; dsimp only; omega) ⟨i + 1, rfl, (by omega), (by assumption), all_take ha i0 he (by omega), F.keep [0, 3] rfl, Sep.left M⟩
      ·
        clear F; intro hc5 F
        try rw [hc5] at F
        replace hc5 := of_decide_eq_false hc5
        refine wp_exit ?_
        refine wp_seq ?_
        replace F := F.keep [0, 3] rfl
        refine wp_region_l [.ind] ([0]) rfl ?_
        refine s_I F rfl rfl rfl rfl rfl rfl ?_; clear F a; intro a F
        refine t_endM M ?_; (clear M; try clear w); intro w M
        refine wp_ret ?_
        refine ret1 F rfl rfl ?_
        -- end 2
        refine ⟨_, rfl, ?_, M.chg⟩
        rw [take_all (by omega)] at ha
        rw [if_pos ⟨by omega, ha⟩]
set_option maxRecDepth 100000 in
set_option maxHeartbeats 400000 in
theorem c36 (l l' : List Msg) (v v' : Value) (w0 : World) (hr : RdSl w0.heap v l.length 3 (l.flatMap encM)) (hr' : RdSl w0.heap v' l'.length 3 (l'.flatMap encM)) (hl : l.length ≤ maxLen) : Cl Try.prog 36 #[v, v'] w0 (RetQ w0 fun r => r = .bool (decide (l = l'))) := by
  have M : Sep (fun _ => False) w0 w0 _ := Sep.nil _ w0
  have hro := ro_of hr
  have hro' := ro_of hr'
  obtain ⟨A, cc, rfl, hcc⟩ := hr.form
  obtain ⟨A', cc', rfl, hcc'⟩ := hr'.form
  unfold maxLen at hl
  refine enter (vs := [_, _]) Try.func36 rfl rfl rfl ?_
  intro a F
  refine wp_seq ?_
  refine wp_region_l [.ind] ([0]) rfl ?_
  refine s_I F rfl rfl rfl rfl rfl rfl ?_; clear F a; intro a F
  refine t_endM M ?_; (clear M; try clear w); intro w M
  refine wp_seq ?_
  refine wp_seq ?_
  refine wp_region_l [.ind, .ind, .ind, .ind, .ind] ([0, 1, 2, 3, 4]) rfl ?_
  refine s_I F rfl rfl rfl rfl rfl rfl ?_; clear F a; intro a F
  refine s_len F rfl rfl rfl rfl sl_27_C5 rfl ?_; clear F a; intro a F
  refine s_I F rfl rfl rfl rfl rfl rfl ?_; clear F a; intro a F
  refine s_len F rfl rfl rfl rfl sl_27_C5 rfl ?_; clear F a; intro a F
  refine s_bin F rfl rfl rfl rfl rfl rfl rfl ?_; clear F a; intro a F
  refine t_endM M ?_; (clear M; try clear w); intro w M
  refine c_if F rfl ?_ ?_
  ·
    clear F; intro hc0 F
    try rw [hc0] at F
    replace hc0 := nd1 hc0
    refine wp_seq ?_
    replace F := F.keep [0, 1, 4] rfl
    refine wp_region_l [.ind] ([0]) rfl ?_
    refine s_I F rfl rfl rfl rfl rfl rfl ?_; clear F a; intro a F
    refine t_endM M ?_; (clear M; try clear w); intro w M
    refine wp_ret ?_
    refine ret1 F rfl rfl ?_
    -- end 0
    refine ⟨_, rfl, ?_, M.chg⟩
    rw [decide_eq_false (fun h => by subst h; omega)]
  ·
    clear F; intro hc1 F
    try rw [hc1] at F
    replace hc1 := nd0 hc1
    refine wp_skip ?_
    refine wp_seq ?_
    refine wp_seq ?_
    replace F := F.keep [0, 1, 4] rfl
    refine wp_region_l [.ind] ([0]) rfl ?_
    refine s_I F rfl rfl rfl rfl rfl rfl ?_; clear F a; intro a F
    refine t_endM M ?_; (clear M; try clear w); intro w M
    refine wp_block ?_
    refine wp_loop_ghost (fun n_ a w => ∃ (i : Int), n_ = l.length - i.toNat ∧ (0 ≤ i) ∧ (i ≤ l.length) ∧ (l.take i.toNat = l'.take i.toNat) ∧ Fr 26 a [(0, .slice A l.length cc), (1, .slice A' l'.length cc'), (5, .int .i64 i)] ∧ Sep (fun _ => False) w0 w []) ((fun (i : Int) => l.length - i.toNat) (0)) ?_ ?_
    ·
      exact ⟨0, rfl, (by omega), (by omega), rfl, F.keep [0, 1, 5] rfl, Sep.left M⟩
    ·
      clear F M; clear a; (try clear w); intro n_ a w hI
      obtain ⟨i, rfl, i0, i1, ha, F, M⟩ := hI
      refine wp_seq ?_
      refine wp_seq ?_
      refine wp_region_l [.ind, .ind, .ind, .ind] ([0, 1, 2, 3]) rfl ?_
      refine s_I F rfl rfl rfl rfl rfl rfl ?_; clear F a; intro a F
      refine s_I F rfl rfl rfl rfl rfl rfl ?_; clear F a; intro a F
      refine s_len F rfl rfl rfl rfl sl_27_C5 rfl ?_; clear F a; intro a F
      refine s_bin F rfl rfl rfl rfl rfl rfl rfl ?_; clear F a; intro a F
      refine t_endM M ?_; (clear M; try clear w); intro w M
      refine c_if F rfl ?_ ?_
      ·
        clear F; intro hc2 F
        try rw [hc2] at F
        replace hc2 := of_decide_eq_true hc2
        obtain ⟨e, he⟩ := get_of i0 hc2
        obtain ⟨b, off, hA⟩ := hr.ptr (by omega)
        obtain ⟨e', he'⟩ := get_of (l := l') i0 (by omega)
        obtain ⟨b', off', hA'⟩ := hr'.ptr (by omega)
        refine wp_skip ?_
        refine wp_seq ?_
        refine wp_block ?_
        refine wp_seq ?_
        replace F := F.keep [0, 1, 5] rfl
        refine wp_region_t [.ind, .ind, .ind, .rd, .ind, .ind, .ind, .rd, .ind] [] (otOf [0, 1, 2, 3, 4, 5, 6, 7, 8]) mixed (by kernel_rfl) ?_
        refine s_I F rfl rfl rfl rfl rfl rfl ?_; clear F a; intro a F
        refine s_I F rfl rfl rfl rfl rfl rfl ?_; clear F a; intro a F
        refine s_isA hA F rfl rfl rfl rfl sl_27_C5 rfl rfl (by omega) (by omega) ?_; clear F a; intro a F
        refine s_lda F rfl rfl rfl rfl ag_38_C5 rfl rfl (rd_els hA (M.chg.ro hro) encM_len he) ?_; clear F a; intro a F
        refine s_I F rfl rfl rfl rfl rfl rfl ?_; clear F a; intro a F
        refine s_I F rfl rfl rfl rfl rfl rfl ?_; clear F a; intro a F
        refine s_isA hA' F rfl rfl rfl rfl sl_27_C5 rfl rfl (by omega) (by omega) ?_; clear F a; intro a F
        refine s_lda F rfl rfl rfl rfl ag_38_C5 rfl rfl (rd_els hA' (M.chg.ro hro') encM_len he') ?_; clear F a; intro a F
        refine s_sne eqM F rfl rfl rfl rfl rfl rfl ?_; clear F a; intro a F
        refine t_endM M ?_; (clear M; try clear w); intro w M
        refine c_if F rfl ?_ ?_
        ·
          clear F; intro hc3 F
          try rw [hc3] at F
          replace hc3 := nd1 hc3
          refine wp_seq ?_
          replace F := F.keep [0, 1, 5] rfl
          refine wp_region_l [.ind] ([0]) rfl ?_
          refine s_I F rfl rfl rfl rfl rfl rfl ?_; clear F a; intro a F
          refine t_endM M ?_; (clear M; try clear w); intro w M
          refine wp_ret ?_
          refine ret1 F rfl rfl ?_
          -- end 1
          refine ⟨_, rfl, ?_, M.chg⟩
          rw [decide_eq_false (fun h => by subst h; rw [he] at he'; exact hc3 (Option.some.inj he'))]
        ·
          clear F; intro hc4 F
          try rw [hc4] at F
          replace hc4 := nd0 hc4
          refine wp_skip ?_
          replace F := F.keep [0, 1, 5] rfl
          refine wp_region_l [.ind, .ind, .ind] ([0, 1, 2]) rfl ?_
          refine s_I F rfl rfl rfl rfl rfl rfl ?_; clear F a; intro a F
          refine s_add F rfl rfl rfl rfl rfl rfl (by unfold In64; omega) ?_; clear F a; intro a F
          refine s_I F rfl rfl rfl rfl rfl rfl ?_; clear F a; intro a F
          refine t_endM M ?_; (clear M; try clear w); intro w M
          exact lp_again ((fun (i : Int) => l.length - i.toNat) (i + 1)) (by show _ < _; dsimp only; omega) ⟨i + 1, rfl, (by omega), (by assumption), (by rw [take_succ i0 he, take_succ i0 he', ha, hc4]), F.keep [0, 1, 5] rfl, Sep.left M⟩
      ·
        clear F; intro hc5 F
        try rw [hc5] at F
        replace hc5 := of_decide_eq_false hc5
        refine wp_exit ?_
        refine wp_seq ?_
        replace F := F.keep [0, 1, 5] rfl
        refine wp_region_l [.ind] ([0]) rfl ?_
        refine s_I F rfl rfl rfl rfl rfl rfl ?_; clear F a; intro a F
        refine t_endM M ?_; (clear M; try clear w); intro w M
        refine wp_ret ?_
        refine ret1 F rfl rfl ?_
        -- end 2
        refine ⟨_, rfl, ?_, M.chg⟩
        rw [take_all (by omega), take_all (by omega)] at ha
        rw [decide_eq_true ha]
set_option maxRecDepth 100000 in
set_option maxHeartbeats 400000 in
theorem c35 (c : CSt) (v : Value) (k : Int) (s : ByteArray) (w0 : World) (hr : RdSl w0.heap v c.L.length 3 (c.L.flatMap encM)) (hl : c.L.length ≤ 100) : Cl Try.prog 35 #[refV c v, .int .i64 k, .string s] w0 (RetQ w0 fun r => r = .int .i64 (cntL c.L k s : Nat)) := by
  have M : Sep (fun _ => False) w0 w0 _ := Sep.nil _ w0
  have hro := ro_of hr
  obtain ⟨A, cc, rfl, hcc⟩ := hr.form
  refine enter (vs := [_, _, _]) Try.func35 rfl rfl rfl ?_
  intro a F
  refine wp_seq ?_
  refine wp_region_l [.wr, .ind] ([0, 1]) rfl ?_
  refine s_bxA F M rfl rfl rfl rfl rfl ?_; (clear F a M; try clear w); intro b3 w M a F
  refine s_I F rfl rfl rfl rfl rfl rfl ?_; clear F a; intro a F
  refine t_endM M ?_; (clear M; try clear w); intro w M
  refine wp_seq ?_
  refine wp_region_l [.ind] ([0]) rfl ?_
  refine s_I F rfl rfl rfl rfl rfl rfl ?_; clear F a; intro a F
  refine t_endM M ?_; (clear M; try clear w); intro w M
  refine wp_seq ?_
  refine wp_seq ?_
  refine wp_region_l [.ind] ([0]) rfl ?_
  refine s_I F rfl rfl rfl rfl rfl rfl ?_; clear F a; intro a F
  refine t_endM M ?_; (clear M; try clear w); intro w M
  refine wp_block ?_
  refine wp_loop_ghost (fun n_ a w => ∃ (i : Int), n_ = c.L.length - i.toNat ∧ (0 ≤ i) ∧ (i ≤ c.L.length) ∧ Fr 37 a [(1, .int .i64 k), (2, .string s), (3, .pointer (some ⟨b3, 0, none⟩)), (7, .int .i64 (cntL (c.L.take i.toNat) k s : Nat)), (8, .int .i64 i)] ∧ Sep (fun _ => False) w0 w [blk b3 (.cells #[.int .i64 c.n, .int .i64 c.t, .int .i64 c.frm, .slice A c.L.length cc, .bool c.ready, .bool c.done, .string c.body] 32 (0, 0))]) ((fun (i : Int) => c.L.length - i.toNat) (0)) ?_ ?_
  ·
    have M1 : Sep _ _ _ (blk b3 _ :: _) := M; replace M := M1; clear M1
    exact ⟨0, rfl, (by omega), (by omega), F.keep [1, 2, 3, 7, 8] rfl, Sep.left M⟩
  ·
    clear F M; clear a; (try clear w); intro n_ a w hI
    obtain ⟨i, rfl, i0, i1, F, M⟩ := hI
    have hcl := cnt_le (c.L.take i.toNat) k s
    have hln := List.length_take_le i.toNat c.L
    refine wp_seq ?_
    refine wp_seq ?_
    refine wp_region_l [.ind, .ind, .rd, .ind, .ind] ([0, 1, 2, 3, 4]) rfl ?_
    refine s_I F rfl rfl rfl rfl rfl rfl ?_; clear F a; intro a F
    refine s_fa0 F rfl rfl rfl rfl fa_32_3_C5 rfl ?_; clear F a; intro a F
    refine s_ld F rfl rfl rfl rfl sc_27_C5 rfl (by exact cell_of_blk M.h0 (lit rfl)) ?_; clear F a; intro a F
    refine s_len F rfl rfl rfl rfl sl_27_C5 rfl ?_; clear F a; intro a F
    refine s_bin F rfl rfl rfl rfl rfl rfl rfl ?_; clear F a; intro a F
    refine t_endM M ?_; (clear M; try clear w); intro w M
    refine c_if F rfl ?_ ?_
    ·
      clear F; intro hc0 F
      try rw [hc0] at F
      replace hc0 := of_decide_eq_true hc0
      obtain ⟨e, he⟩ := get_of i0 hc0
      obtain ⟨b, off, hA⟩ := hr.ptr (by omega)
      refine wp_skip ?_
      refine wp_seq ?_
      refine wp_block ?_
      refine wp_seq ?_
      replace F := F.keep [1, 2, 3, 7, 8] rfl
      refine wp_region_l [.ind, .rd, .ind, .ind, .ind, .rd, .ind, .ind, .ind, .ind, .rd, .ind, .ind, .ind, .rd, .ind, .ind, .ind] ([0, 1, 2, 3, 4, 5, 6, 7, 8, 9, 10, 11, 12, 13, 14, 15, 16, 17]) rfl ?_
      refine s_fa0 F rfl rfl rfl rfl fa_32_3_C5 rfl ?_; clear F a; intro a F
      refine s_ld F rfl rfl rfl rfl sc_27_C5 rfl (by exact cell_of_blk M.h0 (lit rfl)) ?_; clear F a; intro a F
      refine s_I F rfl rfl rfl rfl rfl rfl ?_; clear F a; intro a F
      refine s_isA hA F rfl rfl rfl rfl sl_27_C5 rfl rfl (by omega) (by omega) ?_; clear F a; intro a F
      refine s_fa F rfl rfl rfl rfl fa_38_0_C5 rfl ?_; clear F a; intro a F
      refine s_ld F rfl rfl rfl rfl sc_3_C5 rfl (by exact rd_el hA (M.chg.ro hro) encM_len he rfl) ?_; clear F a; intro a F
      refine s_I F rfl rfl rfl rfl rfl rfl ?_; clear F a; intro a F
      refine s_bin F rfl rfl rfl rfl rfl rfl rfl ?_; clear F a; intro a F
      refine s_I F rfl rfl rfl rfl rfl rfl ?_; clear F a; intro a F
      refine bsplit F 24 rfl ?_ ?_
      ·
        clear F; intro hc1 F
        try rw [hc1] at F
        replace hc1 := of_decide_eq_true hc1
        refine s_fa0 F rfl rfl rfl rfl fa_32_3_C5 rfl ?_; clear F a; intro a F
        refine s_ld F rfl rfl rfl rfl sc_27_C5 rfl (by exact cell_of_blk M.h0 (lit rfl)) ?_; clear F a; intro a F
        refine s_I F rfl rfl rfl rfl rfl rfl ?_; clear F a; intro a F
        refine s_isA hA F rfl rfl rfl rfl sl_27_C5 rfl rfl (by omega) (by omega) ?_; clear F a; intro a F
        refine s_fa F rfl rfl rfl rfl fa_38_2_C5 rfl ?_; clear F a; intro a F
        refine s_ld F rfl rfl rfl rfl sc_9_C5 rfl (by exact rd_el hA (M.chg.ro hro) encM_len he rfl) ?_; clear F a; intro a F
        refine s_I F rfl rfl rfl rfl rfl rfl ?_; clear F a; intro a F
        refine s_bin F rfl rfl rfl rfl rfl rfl rfl ?_; clear F a; intro a F
        refine s_I F rfl rfl rfl rfl rfl rfl ?_; clear F a; intro a F
        refine t_endM M ?_; (clear M; try clear w); intro w M
        refine c_if F rfl ?_ ?_
        ·
          clear F; intro hc2 F
          try rw [hc2] at F
          replace hc2 := of_decide_eq_true hc2
          replace F := F.keep [1, 2, 3, 7, 8] rfl
          refine wp_region_l [.ind, .ind, .ind] ([0, 1, 2]) rfl ?_
          refine s_I F rfl rfl rfl rfl rfl rfl ?_; clear F a; intro a F
          refine s_add F rfl rfl rfl rfl rfl rfl (by unfold In64; omega) ?_; clear F a; intro a F
          refine s_I F rfl rfl rfl rfl rfl rfl ?_; clear F a; intro a F
          refine t_endM M ?_; (clear M; try clear w); intro w M
          replace F := F.keep [1, 2, 3, 7, 8] rfl
          refine wp_region_l [.ind, .ind, .ind] ([0, 1, 2]) rfl ?_
          refine s_I F rfl rfl rfl rfl rfl rfl ?_; clear F a; intro a F
          refine s_add F rfl rfl rfl rfl rfl rfl (by unfold In64; omega) ?_; clear F a; intro a F
          refine s_I F rfl rfl rfl rfl rfl rfl ?_; clear F a; intro a F
          refine t_endM M ?_; (clear M; try clear w); intro w M
          have hct := cntL_take (k := k) (s := s) i0 he
          rw [if_pos ⟨by assumption, by assumption⟩] at hct
          replace F := F.keep [1, 2, 3, 7, 8] rfl
          rw [show ((cntL (c.L.take i.toNat) k s : Nat) : Int) + 1 = (cntL (c.L.take (i + 1).toNat) k s : Nat) by omega] at F
          have M1 : Sep _ _ _ (blk b3 _ :: _) := M; replace M := M1; clear M1
          exact lp_again ((fun (i : Int) => c.L.length - i.toNat) (i + 1)) (by show _ < _; dsimp only; omega) ⟨i + 1, rfl, (by omega), (by assumption), F.keep [1, 2, 3, 7, 8] rfl, Sep.left M⟩
        ·
          clear F; intro hc3 F
          try rw [hc3] at F
          replace hc3 := of_decide_eq_false hc3
          refine wp_skip ?_
          replace F := F.keep [1, 2, 3, 7, 8] rfl
          refine wp_region_l [.ind, .ind, .ind] ([0, 1, 2]) rfl ?_
          refine s_I F rfl rfl rfl rfl rfl rfl ?_; clear F a; intro a F
          refine s_add F rfl rfl rfl rfl rfl rfl (by unfold In64; omega) ?_; clear F a; intro a F
          refine s_I F rfl rfl rfl rfl rfl rfl ?_; clear F a; intro a F
          refine t_endM M ?_; (clear M; try clear w); intro w M
          have hct := cntL_take (k := k) (s := s) i0 he
          rw [if_neg (fun h => by exact absurd h.2 (by assumption))] at hct
          replace F := F.keep [1, 2, 3, 7, 8] rfl
          rw [show ((cntL (c.L.take i.toNat) k s : Nat) : Int) = (cntL (c.L.take (i + 1).toNat) k s : Nat) by omega] at F
          have M1 : Sep _ _ _ (blk b3 _ :: _) := M; replace M := M1; clear M1
          exact lp_again ((fun (i : Int) => c.L.length - i.toNat) (i + 1)) (by show _ < _; dsimp only; omega) ⟨i + 1, rfl, (by omega), (by assumption), F.keep [1, 2, 3, 7, 8] rfl, Sep.left M⟩
      ·
        clear F; intro hc4 F
        try rw [hc4] at F
        replace hc4 := of_decide_eq_false hc4
        refine s_no F rfl rfl rfl rfl ?_; clear F a; intro a F
        refine s_no F rfl rfl rfl rfl ?_; clear F a; intro a F
        refine s_no F rfl rfl rfl rfl ?_; clear F a; intro a F
        refine s_no F rfl rfl rfl rfl ?_; clear F a; intro a F
        refine s_no F rfl rfl rfl rfl ?_; clear F a; intro a F
        refine s_no F rfl rfl rfl rfl ?_; clear F a; intro a F
        refine s_no F rfl rfl rfl rfl ?_; clear F a; intro a F
        refine s_no F rfl rfl rfl rfl ?_; clear F a; intro a F
        refine s_I F rfl rfl rfl rfl rfl rfl ?_; clear F a; intro a F
        refine t_endM M ?_; (clear M; try clear w); intro w M
        refine c_f F rfl ?_
        refine wp_skip ?_
        replace F := F.keep [1, 2, 3, 7, 8] rfl
        refine wp_region_l [.ind, .ind, .ind] ([0, 1, 2]) rfl ?_
        refine s_I F rfl rfl rfl rfl rfl rfl ?_; clear F a; intro a F
        refine s_add F rfl rfl rfl rfl rfl rfl (by unfold In64; omega) ?_; clear F a; intro a F
        refine s_I F rfl rfl rfl rfl rfl rfl ?_; clear F a; intro a F
        refine t_endM M ?_; (clear M; try clear w); intro w M
        have hct := cntL_take (k := k) (s := s) i0 he
        rw [if_neg (fun h => by exact absurd h.1 (by assumption))] at hct
        replace F := F.keep [1, 2, 3, 7, 8] rfl
        rw [show ((cntL (c.L.take i.toNat) k s : Nat) : Int) = (cntL (c.L.take (i + 1).toNat) k s : Nat) by omega] at F
        have M1 : Sep _ _ _ (blk b3 _ :: _) := M; replace M := M1; clear M1
        exact lp_again ((fun (i : Int) => c.L.length - i.toNat) (i + 1)) (by show _ < _; dsimp only; omega) ⟨i + 1, rfl, (by omega), (by assumption), F.keep [1, 2, 3, 7, 8] rfl, Sep.left M⟩
    ·
      clear F; intro hc5 F
      try rw [hc5] at F
      replace hc5 := of_decide_eq_false hc5
      refine wp_exit ?_
      refine wp_seq ?_
      replace F := F.keep [1, 2, 3, 7, 8] rfl
      refine wp_region_l [.ind, .ind] ([0, 1]) rfl ?_
      refine s_I F rfl rfl rfl rfl rfl rfl ?_; clear F a; intro a F
      refine s_I F rfl rfl rfl rfl rfl rfl ?_; clear F a; intro a F
      refine t_endM M ?_; (clear M; try clear w); intro w M
      refine wp_ret ?_
      refine ret1 F rfl rfl ?_
      -- end 0
      refine ⟨_, rfl, ?_, M.chg⟩
      rw [take_all (by omega)]
set_option maxRecDepth 100000 in
set_option maxHeartbeats 400000 in
theorem c17 (n t frm : Int) (hq : quorum n t ≠ 0) (h1 : 1 ≤ frm) (h2 : frm ≤ n) (w0 : World) : Cl Try.prog 17 #[.int .i64 n, .int .i64 t, .int .i64 frm] w0 (RetQ w0 fun v => v = .tuple #[refV (new n t frm) (.slice none 0 0), .bool true]) := by
  have M : Sep (fun _ => False) w0 w0 _ := Sep.nil _ w0
  refine enter (vs := [_, _, _]) Try.func17 rfl rfl rfl ?_
  intro a F
  refine wp_seq ?_
  refine wp_region_l [.wr, .ind] ([0, 1]) rfl ?_
  refine s_alc F M rfl rfl rfl rfl zr_32_C5 rfl ?_; (clear F a M; try clear w); intro b6 w M a F
  refine s_I F rfl rfl rfl rfl rfl rfl ?_; clear F a; intro a F
  refine t_endM M ?_; (clear M; try clear w); intro w M
  refine wp_seq ?_
  refine wp_seq ?_
  refine wp_region_l [.ind, .ind, .wr, .ind, .ind, .ind, .ind, .ind, .ind, .ind, .ind, .ind, .ind] ([0, 1, 2, 3, 4, 5, 6, 7, 8, 9, 10, 11, 12]) rfl ?_
  refine s_I F rfl rfl rfl rfl rfl rfl ?_; clear F a; intro a F
  refine s_I F rfl rfl rfl rfl rfl rfl ?_; clear F a; intro a F
  refine s_cq F M rfl rfl rfl rfl rfl (rfl : _ = some [_, _]) cb_13_C5 (fun nd_ => c13 _ _ _) ?_; (clear F a M; try clear w); rintro v w rfl M a F
  refine s_bin F rfl rfl rfl rfl rfl rfl rfl ?_; clear F a; intro a F
  refine s_I F rfl rfl rfl rfl rfl rfl ?_; clear F a; intro a F
  refine bsplit F 12 rfl ?_ ?_
  ·
    clear F; intro hc0 F
    try rw [hc0] at F
    replace hc0 := of_decide_eq_true hc0
    exact absurd hc0 hq
  ·
    clear F; intro hc1 F
    try rw [hc1] at F
    replace hc1 := of_decide_eq_false hc1
    refine s_I F rfl rfl rfl rfl rfl rfl ?_; clear F a; intro a F
    refine s_bin F rfl rfl rfl rfl rfl rfl rfl ?_; clear F a; intro a F
    refine s_I F rfl rfl rfl rfl rfl rfl ?_; clear F a; intro a F
    refine s_I F rfl rfl rfl rfl rfl rfl ?_; clear F a; intro a F
    refine bsplit F 16 rfl ?_ ?_
    ·
      clear F; intro hc2 F
      try rw [hc2] at F
      replace hc2 := of_decide_eq_true hc2
      exfalso; omega
    ·
      clear F; intro hc3 F
      try rw [hc3] at F
      replace hc3 := of_decide_eq_false hc3
      refine s_I F rfl rfl rfl rfl rfl rfl ?_; clear F a; intro a F
      refine s_I F rfl rfl rfl rfl rfl rfl ?_; clear F a; intro a F
      refine s_bin F rfl rfl rfl rfl rfl rfl rfl ?_; clear F a; intro a F
      refine s_I F rfl rfl rfl rfl rfl rfl ?_; clear F a; intro a F
      refine t_endM M ?_; (clear M; try clear w); intro w M
      refine c_if F rfl ?_ ?_
      ·
        clear F; intro hc4 F
        try rw [hc4] at F
        replace hc4 := of_decide_eq_true hc4
        exfalso; omega
      ·
        clear F; intro hc5 F
        try rw [hc5] at F
        replace hc5 := of_decide_eq_false hc5
        refine wp_skip ?_
        refine wp_seq ?_
        replace F := F.keep [0, 1, 2, 6, 7] rfl
        refine wp_region_l [.ind, .ind, .ind, .ind, .wr, .ind] ([0, 1, 2, 3, 4, 5]) rfl ?_
        refine s_I F rfl rfl rfl rfl rfl rfl ?_; clear F a; intro a F
        refine s_I F rfl rfl rfl rfl rfl rfl ?_; clear F a; intro a F
        refine s_I F rfl rfl rfl rfl rfl rfl ?_; clear F a; intro a F
        refine s_bld F rfl rfl rfl rfl (parts3 F rfl rfl rfl) (bl_32_0_1_2_C5 _ _ _) ?_; clear F a; intro a F
        refine s_stW F M rfl rfl rfl sz_32_C5 rfl rfl rfl rfl rfl ?_; (clear M; try clear w); intro w M
        refine s_I F rfl rfl rfl rfl rfl rfl ?_; clear F a; intro a F
        refine t_endM M ?_; (clear M; try clear w); intro w M
        refine wp_ret ?_
        refine rt2 F rfl (by exact rv_a F rfl ag_32_C5 rfl (cells_whole M.h0)) (rv_t F rfl) ?_
        -- end 0
        exact ⟨_, rfl, rfl, M.chg⟩
set_option maxRecDepth 100000 in
set_option maxHeartbeats 400000 in
theorem c17n (n t frm : Int) (h : quorum n t = 0 ∨ frm < 1 ∨ n < frm) (w0 : World) : Cl Try.prog 17 #[.int .i64 n, .int .i64 t, .int .i64 frm] w0 (RetQ w0 fun v => v = .tuple #[refV ⟨0, 0, 0, [], false, false, empty⟩ (.slice none 0 0), .bool false]) := by
  have M : Sep (fun _ => False) w0 w0 _ := Sep.nil _ w0
  refine enter (vs := [_, _, _]) Try.func17 rfl rfl rfl ?_
  intro a F
  refine wp_seq ?_
  refine wp_region_l [.wr, .ind] ([0, 1]) rfl ?_
  refine s_alc F M rfl rfl rfl rfl zr_32_C5 rfl ?_; (clear F a M; try clear w); intro b6 w M a F
  refine s_I F rfl rfl rfl rfl rfl rfl ?_; clear F a; intro a F
  refine t_endM M ?_; (clear M; try clear w); intro w M
  refine wp_seq ?_
  refine wp_seq ?_
  refine wp_region_l [.ind, .ind, .wr, .ind, .ind, .ind, .ind, .ind, .ind, .ind, .ind, .ind, .ind] ([0, 1, 2, 3, 4, 5, 6, 7, 8, 9, 10, 11, 12]) rfl ?_
  refine s_I F rfl rfl rfl rfl rfl rfl ?_; clear F a; intro a F
  refine s_I F rfl rfl rfl rfl rfl rfl ?_; clear F a; intro a F
  refine s_cq F M rfl rfl rfl rfl rfl (rfl : _ = some [_, _]) cb_13_C5 (fun nd_ => c13 _ _ _) ?_; (clear F a M; try clear w); rintro v w rfl M a F
  refine s_bin F rfl rfl rfl rfl rfl rfl rfl ?_; clear F a; intro a F
  refine s_I F rfl rfl rfl rfl rfl rfl ?_; clear F a; intro a F
  refine bsplit F 12 rfl ?_ ?_
  ·
    clear F; intro hc0 F
    try rw [hc0] at F
    replace hc0 := of_decide_eq_true hc0
    refine s_no F rfl rfl rfl rfl ?_; clear F a; intro a F
    refine s_no F rfl rfl rfl rfl ?_; clear F a; intro a F
    refine s_I F rfl rfl rfl rfl rfl rfl ?_; clear F a; intro a F
    refine s_I F rfl rfl rfl rfl rfl rfl ?_; clear F a; intro a F
    refine s_no F rfl rfl rfl rfl ?_; clear F a; intro a F
    refine s_no F rfl rfl rfl rfl ?_; clear F a; intro a F
    refine s_no F rfl rfl rfl rfl ?_; clear F a; intro a F
    refine s_I F rfl rfl rfl rfl rfl rfl ?_; clear F a; intro a F
    refine t_endM M ?_; (clear M; try clear w); intro w M
    refine c_t F rfl ?_
    refine wp_seq ?_
    replace F := F.keep [0, 1, 2, 6, 7] rfl
    refine wp_region_l [.ind, .wr, .ind] ([0, 1, 2]) rfl ?_
    refine s_bld F rfl rfl rfl rfl (parts0 F ) (bl_32__C5) ?_; clear F a; intro a F
    refine s_stW F M rfl rfl rfl sz_32_C5 rfl rfl rfl rfl rfl ?_; (clear M; try clear w); intro w M
    refine s_I F rfl rfl rfl rfl rfl rfl ?_; clear F a; intro a F
    refine t_endM M ?_; (clear M; try clear w); intro w M
    refine wp_ret ?_
    refine rt2 F rfl (by exact rv_a F rfl ag_32_C5 rfl (cells_whole M.h0)) (rv_t F rfl) ?_
    -- end 0
    exact ⟨_, rfl, rfl, M.chg⟩
  ·
    clear F; intro hc1 F
    try rw [hc1] at F
    replace hc1 := of_decide_eq_false hc1
    refine s_I F rfl rfl rfl rfl rfl rfl ?_; clear F a; intro a F
    refine s_bin F rfl rfl rfl rfl rfl rfl rfl ?_; clear F a; intro a F
    refine s_I F rfl rfl rfl rfl rfl rfl ?_; clear F a; intro a F
    refine s_I F rfl rfl rfl rfl rfl rfl ?_; clear F a; intro a F
    refine bsplit F 16 rfl ?_ ?_
    ·
      clear F; intro hc2 F
      try rw [hc2] at F
      replace hc2 := of_decide_eq_true hc2
      refine s_no F rfl rfl rfl rfl ?_; clear F a; intro a F
      refine s_no F rfl rfl rfl rfl ?_; clear F a; intro a F
      refine s_no F rfl rfl rfl rfl ?_; clear F a; intro a F
      refine s_I F rfl rfl rfl rfl rfl rfl ?_; clear F a; intro a F
      refine t_endM M ?_; (clear M; try clear w); intro w M
      refine c_t F rfl ?_
      refine wp_seq ?_
      replace F := F.keep [0, 1, 2, 6, 7] rfl
      refine wp_region_l [.ind, .wr, .ind] ([0, 1, 2]) rfl ?_
      refine s_bld F rfl rfl rfl rfl (parts0 F ) (bl_32__C5) ?_; clear F a; intro a F
      refine s_stW F M rfl rfl rfl sz_32_C5 rfl rfl rfl rfl rfl ?_; (clear M; try clear w); intro w M
      refine s_I F rfl rfl rfl rfl rfl rfl ?_; clear F a; intro a F
      refine t_endM M ?_; (clear M; try clear w); intro w M
      refine wp_ret ?_
      refine rt2 F rfl (by exact rv_a F rfl ag_32_C5 rfl (cells_whole M.h0)) (rv_t F rfl) ?_
      -- end 1
      exact ⟨_, rfl, rfl, M.chg⟩
    ·
      clear F; intro hc3 F
      try rw [hc3] at F
      replace hc3 := of_decide_eq_false hc3
      refine s_I F rfl rfl rfl rfl rfl rfl ?_; clear F a; intro a F
      refine s_I F rfl rfl rfl rfl rfl rfl ?_; clear F a; intro a F
      refine s_bin F rfl rfl rfl rfl rfl rfl rfl ?_; clear F a; intro a F
      refine s_I F rfl rfl rfl rfl rfl rfl ?_; clear F a; intro a F
      refine t_endM M ?_; (clear M; try clear w); intro w M
      refine c_if F rfl ?_ ?_
      ·
        clear F; intro hc4 F
        try rw [hc4] at F
        replace hc4 := of_decide_eq_true hc4
        refine wp_seq ?_
        replace F := F.keep [0, 1, 2, 6, 7] rfl
        refine wp_region_l [.ind, .wr, .ind] ([0, 1, 2]) rfl ?_
        refine s_bld F rfl rfl rfl rfl (parts0 F ) (bl_32__C5) ?_; clear F a; intro a F
        refine s_stW F M rfl rfl rfl sz_32_C5 rfl rfl rfl rfl rfl ?_; (clear M; try clear w); intro w M
        refine s_I F rfl rfl rfl rfl rfl rfl ?_; clear F a; intro a F
        refine t_endM M ?_; (clear M; try clear w); intro w M
        refine wp_ret ?_
        refine rt2 F rfl (by exact rv_a F rfl ag_32_C5 rfl (cells_whole M.h0)) (rv_t F rfl) ?_
        -- end 2
        exact ⟨_, rfl, rfl, M.chg⟩
      ·
        clear F; intro hc5 F
        try rw [hc5] at F
        replace hc5 := of_decide_eq_false hc5
        exfalso; omega
end Go.Proofs.Ytibomfgeemhogaa
