/- K5 of the seat. -/
import Derived.Test.YtibomfgeemhogaaK4
import Derived.Test.YtibomfgeemhogaaFw12
namespace Go.Proofs.Ytibomfgeemhogaa
open Go Fw
theorem sl_56_K5 : slcB Try.prog 56 = some (70, 5) := by kernel_rfl
theorem fa_70_2_K5 : FA Try.prog 70 2 2 := fun _ _ _ => by kernel_rfl
theorem fa_38_2_K5 : FA Try.prog 38 2 2 := fun _ _ _ => by kernel_rfl
theorem sc_9_K5 : scalB Try.prog 9 = true := by kernel_rfl
theorem st_9_K5 : strB Try.prog 9 = true := by kernel_rfl
theorem ag_70_K5 : aggB Try.prog 70 = some 5 := by kernel_rfl
theorem sl_61_K5 : slcB Try.prog 61 = some (9, 1) := by kernel_rfl
theorem zr_64_K5 : zeroB Try.prog 64 = some (.agg #[.int .i64 0, .int .i64 0, .slice none 0 0, .slice none 0 0, .slice none 0 0, .slice none 0 0, .slice none 0 0, .slice none 0 0, .slice none 0 0, .slice none 0 0, .slice none 0 0]) := by kernel_rfl
theorem bl_64_0_1_K5 : ∀ (x0 : Int) (x1 : Int), ∀ w : World, (Instr.build 64 #[(0, .int .i64 x0), (1, .int .i64 x1)]).run Try.prog w = .ok (.agg #[.int .i64 x0, .int .i64 x1, .slice none 0 0, .slice none 0 0, .slice none 0 0, .slice none 0 0, .slice none 0 0, .slice none 0 0, .slice none 0 0, .slice none 0 0, .slice none 0 0]) w := by intros; kernel_rfl
theorem cb_13_K5 : callB Try.prog 13 = true := by kernel_rfl
theorem sz_64_K5 : sizeB Try.prog 64 = some 11 := by kernel_rfl
theorem ag_64_K5 : aggB Try.prog 64 = some 11 := by kernel_rfl
theorem fa_64_0_K5 : FA Try.prog 64 0 0 := fun _ _ _ => by kernel_rfl
theorem sc_3_K5 : scalB Try.prog 3 = true := by kernel_rfl
theorem fa_64_3_K5 : FA Try.prog 64 3 3 := fun _ _ _ => by kernel_rfl
theorem ar_62_K5 : arrB Try.prog 62 = some (8, 1) := by kernel_rfl
theorem sc_61_K5 : scalB Try.prog 61 = true := by kernel_rfl
theorem fa_64_2_K5 : FA Try.prog 64 2 2 := fun _ _ _ => by kernel_rfl
theorem sc_60_K5 : scalB Try.prog 60 = true := by kernel_rfl
theorem sl_60_K5 : slcB Try.prog 60 = some (106, 9) := by kernel_rfl
theorem fa_106_0_K5 : FA Try.prog 106 0 0 := fun _ _ _ => by kernel_rfl
theorem fa_106_1_K5 : FA Try.prog 106 1 1 := fun _ _ _ => by kernel_rfl
open CastM CasM

theorem eqD : EqV Try.prog 70 encD := by
  refine ⟨by kernel_rfl, fun k k' w => ?_⟩
  have hs : Try.prog.stoodInHeld 70 = false := by kernel_rfl
  have hu : Try.prog.underlying 70 = some (.struct (Try.prog.fieldsOf 70)) := by kernel_rfl
  have hs' : Try.prog.stoodInHeld 38 = false := by kernel_rfl
  have hu' : Try.prog.underlying 38 = some (.struct (Try.prog.fieldsOf 38)) := by kernel_rfl
  have h3 : Try.prog.underlying 3 = some (.int .i64) := by kernel_rfl
  have h9 : Try.prog.underlying 9 = some .string := by kernel_rfl
  have s3 : scalB Try.prog 3 = true := by kernel_rfl
  have s9 : scalB Try.prog 9 = true := by kernel_rfl
  have hsh : ∀ q : Wd, (encD q).toArray = #[.int .i64 q.frm, .int .i64 q.seq, .int .i64 q.m.kind, .int .i64 q.m.frm, .string q.m.body] := fun _ => rfl
  have e0 : ∀ (a b : Int) (c : ByteArray), (part 3 #[Value.int .i64 a, .int .i64 b, .string c] 0).run Try.prog w = .ok (.int .i64 a) w := fun a b c => part_scal s3 rfl w
  have e1 : ∀ (a b : Int) (c : ByteArray), (part 3 #[Value.int .i64 a, .int .i64 b, .string c] 1).run Try.prog w = .ok (.int .i64 b) w := fun a b c => part_scal s3 rfl w
  have e2 : ∀ (a b : Int) (c : ByteArray), (part 9 #[Value.int .i64 a, .int .i64 b, .string c] 2).run Try.prog w = .ok (.string c) w := fun a b c => part_scal s9 rfl w
  have d0 : ∀ (a b c d : Int) (s : ByteArray), (part 3 #[Value.int .i64 a, .int .i64 b, .int .i64 c, .int .i64 d, .string s] 0).run Try.prog w = .ok (.int .i64 a) w := fun a b c d s => part_scal s3 rfl w
  have d1 : ∀ (a b c d : Int) (s : ByteArray), (part 3 #[Value.int .i64 a, .int .i64 b, .int .i64 c, .int .i64 d, .string s] 1).run Try.prog w = .ok (.int .i64 b) w := fun a b c d s => part_scal s3 rfl w
  have d2 : ∀ (a b c d : Int) (s : ByteArray), (part 38 #[Value.int .i64 a, .int .i64 b, .int .i64 c, .int .i64 d, .string s] 2).run Try.prog w = .ok (.agg #[.int .i64 c, .int .i64 d, .string s]) w := fun a b c d s => by kernel_rfl
  have inner : ∀ m m' : Msg, (Op.equalIn 9999 38 (.agg #[.int .i64 m.kind, .int .i64 m.frm, .string m.body]) (.agg #[.int .i64 m'.kind, .int .i64 m'.frm, .string m'.body])).run Try.prog w = .ok (decide (m = m')) w := by
    intro m m'
    rw [run_equalIn_struct w 9998 38 _ _ hu' hs']
    simp only [Program.fieldsOf, Try.underlying38, Op.eqFields]
    have q0 := run_equalIn_int (P := Try.prog) w 9997 3 .i64 .i64 m.kind m'.kind h3
    have q1 := run_equalIn_int (P := Try.prog) w 9997 3 .i64 .i64 m.frm m'.frm h3
    have q2 := run_equalIn_string (P := Try.prog) w 9997 9 m.body m'.body h9
    obtain ⟨a, b, c⟩ := m
    obtain ⟨a', b', c'⟩ := m'
    simp [e0, e1, e2, q0, q1, q2, bytes_toList_inj]
    by_cases h1 : a = a' <;> by_cases h2 : b = b' <;> by_cases h3 : c = c' <;> simp [h1, h2, h3]
  rw [hsh, hsh, run_equalIn_struct w 9999 70 _ _ hu hs]
  simp only [Program.fieldsOf, Try.underlying70, Op.eqFields]
  have q0 := run_equalIn_int (P := Try.prog) w 9998 3 .i64 .i64 k.frm k'.frm h3
  have q1 := run_equalIn_int (P := Try.prog) w 9998 3 .i64 .i64 k.seq k'.seq h3
  have q2 := inner k.m k'.m
  obtain ⟨a, b, c⟩ := k
  obtain ⟨a', b', c'⟩ := k'
  simp [d0, d1, d2, q0, q1, q2]
  by_cases h1 : a = a' <;> by_cases h2 : b = b' <;> by_cases h3 : c = c' <;> simp [h1, h2, h3]
def fewD (l : List Wd) : Prop := l.length ≤ 150 ∧ ∀ m ∈ l, m.m.body.size ≤ 5000
instance (l : List Wd) : Decidable (fewD l) := by unfold fewD; infer_instance

set_option maxRecDepth 100000 in
set_option maxHeartbeats 400000 in
theorem c23 (l : List Wd) (v : Value) (w0 : World) (hr : RdSl w0.heap v l.length 5 (l.flatMap encD)) : Cl Try.prog 23 #[v] w0 (RetQ w0 fun r => r = .bool (decide (fewD l))) := by
  have M : Sep (fun _ => False) w0 w0 _ := Sep.nil _ w0
  have hro := ro_of hr
  obtain ⟨A, cc, rfl, hcc⟩ := hr.form
  refine enter (vs := [_]) Try.func23 rfl rfl rfl ?_
  intro a F
  refine wp_seq ?_
  refine wp_region_l [.ind] ([0]) rfl ?_
  refine s_I F rfl rfl rfl rfl rfl rfl ?_; clear F a; intro a F
  refine t_endM M ?_; (clear M; try clear w); intro w M
  refine wp_seq ?_
  refine wp_seq ?_
  refine wp_region_l [.ind, .ind, .ind] ([0, 1, 2]) rfl ?_
  refine s_I F rfl rfl rfl rfl rfl rfl ?_; clear F a; intro a F
  refine s_len F rfl rfl rfl rfl sl_56_K5 rfl ?_; clear F a; intro a F
  refine s_bin F rfl rfl rfl rfl rfl rfl rfl ?_; clear F a; intro a F
  refine t_endM M ?_; (clear M; try clear w); intro w M
  refine c_if F rfl ?_ ?_
  ·
    clear F; intro hc0 F
    try rw [hc0] at F
    replace hc0 := of_decide_eq_true hc0
    refine wp_seq ?_
    replace F := F.keep [0, 2] rfl
    refine wp_region_l [.ind] ([0]) rfl ?_
    refine s_I F rfl rfl rfl rfl rfl rfl ?_; clear F a; intro a F
    refine t_endM M ?_; (clear M; try clear w); intro w M
    refine wp_ret ?_
    refine ret1 F rfl rfl ?_
    -- end 0
    refine ⟨_, rfl, ?_, M.chg⟩
    rw [decide_eq_false (fun h => by have := h.1; omega)]
  ·
    clear F; intro hc1 F
    try rw [hc1] at F
    replace hc1 := of_decide_eq_false hc1
    refine wp_skip ?_
    refine wp_seq ?_
    refine wp_seq ?_
    replace F := F.keep [0, 2] rfl
    refine wp_region_l [.ind] ([0]) rfl ?_
    refine s_I F rfl rfl rfl rfl rfl rfl ?_; clear F a; intro a F
    refine t_endM M ?_; (clear M; try clear w); intro w M
    refine wp_block ?_
    refine loopX (X := (Int)) F [0] rfl (fun (i : Int) => (0 ≤ i) ∧ (i ≤ l.length) ∧ (∀ m ∈ l.take i.toNat, m.m.body.size ≤ 5000)) (fun (i : Int) => [(3, .int .i64 i)]) (fun (i : Int) => []) (fun (i : Int) => l.length - i.toNat) (0) M ⟨(by omega), (by omega), (by simp)⟩ (F.keep [3, 0] rfl) ?_
    clear F M; clear a; (try clear w)
    rintro i a w ⟨i0, i1, ha⟩ F M; try dsimp only at F M
    try simp only [List.cons_append, List.nil_append] at F M
    try dsimp only at i0 i1 ha
    refine wp_seq ?_
    refine wp_seq ?_
    refine wp_region_l [.ind, .ind, .ind, .ind] ([0, 1, 2, 3]) rfl ?_
    refine s_I F rfl rfl rfl rfl rfl rfl ?_; clear F a; intro a F
    refine s_I F rfl rfl rfl rfl rfl rfl ?_; clear F a; intro a F
    refine s_len F rfl rfl rfl rfl sl_56_K5 rfl ?_; clear F a; intro a F
    refine s_bin F rfl rfl rfl rfl rfl rfl rfl ?_; clear F a; intro a F
    refine t_endM M ?_; (clear M; try clear w); intro w M
    refine c_if F rfl ?_ ?_
    ·
      clear F; intro hc2 F
      try rw [hc2] at F
      replace hc2 := of_decide_eq_true hc2
      refine wp_skip ?_
      refine wp_seq ?_
      refine wp_block ?_
      refine wp_seq ?_
      replace F := F.keep [0, 3] rfl
      refine wp_region_l [.ind, .ind, .ind, .ind, .ind, .rd, .ind, .ind] ([0, 1, 2, 3, 4, 5, 6, 7]) rfl ?_
      refine s_I F rfl rfl rfl rfl rfl rfl ?_; clear F a; intro a F
      refine s_I F rfl rfl rfl rfl rfl rfl ?_; clear F a; intro a F
      refine s_ix F rfl rfl rfl rfl sl_56_K5 rfl rfl (by exact M.chg.ro hro) (by omega) (by omega) ?_; clear F a; intro e15 he15 a F
      refine s_fa F rfl rfl rfl rfl fa_70_2_K5 rfl ?_; clear F a; intro a F
      refine s_fa F rfl rfl rfl rfl fa_38_2_K5 rfl ?_; clear F a; intro a F
      refine s_ld F rfl rfl rfl rfl sc_9_K5 rfl (by exact rdX2 (M.chg.ro hro) (by intro e; rfl) he15 rfl) ?_; clear F a; intro a F
      refine s_lenS F rfl rfl rfl rfl st_9_K5 rfl ?_; clear F a; intro a F
      refine s_bin F rfl rfl rfl rfl rfl rfl rfl ?_; clear F a; intro a F
      refine t_endM M ?_; (clear M; try clear w); intro w M
      refine c_if F rfl ?_ ?_
      ·
        clear F; intro hc3 F
        try rw [hc3] at F
        replace hc3 := of_decide_eq_true hc3
        refine wp_seq ?_
        replace F := F.keep [0, 3] rfl
        refine wp_region_l [.ind] ([0]) rfl ?_
        refine s_I F rfl rfl rfl rfl rfl rfl ?_; clear F a; intro a F
        refine t_endM M ?_; (clear M; try clear w); intro w M
        refine wp_ret ?_
        refine ret1 F rfl rfl ?_
        -- end 1
        refine ⟨_, rfl, ?_, M.chg⟩
        rw [decide_eq_false (fun h => by have := h.2 e15 (List.mem_of_getElem? he15); omega)]
      ·
        clear F; intro hc4 F
        try rw [hc4] at F
        replace hc4 := of_decide_eq_false hc4
        refine wp_skip ?_
        replace F := F.keep [0, 3] rfl
        refine wp_region_l [.ind, .ind, .ind] ([0, 1, 2]) rfl ?_
        refine s_I F rfl rfl rfl rfl rfl rfl ?_; clear F a; intro a F
        refine s_add F rfl rfl rfl rfl rfl rfl (by unfold In64; omega) ?_; clear F a; intro a F
        refine s_I F rfl rfl rfl rfl rfl rfl ?_; clear F a; intro a F
        refine t_endM M ?_; (clear M; try clear w); intro w M
        refine again (i + 1) (by show _ < _; (try dsimp only); omega) ⟨(by omega), (by assumption), all_take ha i0 he15 (by omega)⟩ (F.keep [3, 0] rfl) ?_
        try dsimp only [List.cons_append, List.nil_append]
        refine M.pick ?_; repeat (exact PkG.nil)
    ·
      clear F; intro hc5 F
      try rw [hc5] at F
      replace hc5 := of_decide_eq_false hc5
      refine wp_exit ?_
      refine wp_seq ?_
      replace F := F.keep [0, 3] rfl
      refine wp_region_l [.ind] ([0]) rfl ?_
      refine s_I F rfl rfl rfl rfl rfl rfl ?_; clear F a; intro a F
      refine t_endM M ?_; (clear M; try clear w); intro w M
      refine wp_ret ?_
      refine ret1 F rfl rfl ?_
      -- end 2
      refine ⟨_, rfl, ?_, M.chg⟩
      rw [take_all (by omega)] at ha
      rw [decide_eq_true ⟨by omega, ha⟩]
set_option maxRecDepth 100000 in
set_option maxHeartbeats 400000 in
theorem c28 (l l' : List Wd) (v v' : Value) (w0 : World) (hr : RdSl w0.heap v l.length 5 (l.flatMap encD)) (hr' : RdSl w0.heap v' l'.length 5 (l'.flatMap encD)) (hl : l.length ≤ 100000) : Cl Try.prog 28 #[v, v'] w0 (RetQ w0 fun r => r = .bool (decide (l = l'))) := by
  have M : Sep (fun _ => False) w0 w0 _ := Sep.nil _ w0
  have hro := ro_of hr
  have hro' := ro_of hr'
  obtain ⟨A, cc, rfl, hcc⟩ := hr.form
  obtain ⟨A', cc', rfl, hcc'⟩ := hr'.form
  refine enter (vs := [_, _]) Try.func28 rfl rfl rfl ?_
  intro a F
  refine wp_seq ?_
  refine wp_region_l [.ind] ([0]) rfl ?_
  refine s_I F rfl rfl rfl rfl rfl rfl ?_; clear F a; intro a F
  refine t_endM M ?_; (clear M; try clear w); intro w M
  refine wp_seq ?_
  refine wp_seq ?_
  refine wp_region_l [.ind, .ind, .ind, .ind, .ind] ([0, 1, 2, 3, 4]) rfl ?_
  refine s_I F rfl rfl rfl rfl rfl rfl ?_; clear F a; intro a F
  refine s_len F rfl rfl rfl rfl sl_56_K5 rfl ?_; clear F a; intro a F
  refine s_I F rfl rfl rfl rfl rfl rfl ?_; clear F a; intro a F
  refine s_len F rfl rfl rfl rfl sl_56_K5 rfl ?_; clear F a; intro a F
  refine s_bin F rfl rfl rfl rfl rfl rfl rfl ?_; clear F a; intro a F
  refine t_endM M ?_; (clear M; try clear w); intro w M
  refine c_if F rfl ?_ ?_
  ·
    clear F; intro hc0 F
    try rw [hc0] at F
    replace hc0 := nd1 hc0
    refine wp_seq ?_
    replace F := F.keep [0, 1, 4] rfl
    refine wp_region_l [.ind] ([0]) rfl ?_
    refine s_I F rfl rfl rfl rfl rfl rfl ?_; clear F a; intro a F
    refine t_endM M ?_; (clear M; try clear w); intro w M
    refine wp_ret ?_
    refine ret1 F rfl rfl ?_
    -- end 0
    refine ⟨_, rfl, ?_, M.chg⟩
    rw [decide_eq_false (fun h => by subst h; omega)]
  ·
    clear F; intro hc1 F
    try rw [hc1] at F
    replace hc1 := nd0 hc1
    refine wp_skip ?_
    refine wp_seq ?_
    refine wp_seq ?_
    replace F := F.keep [0, 1, 4] rfl
    refine wp_region_l [.ind] ([0]) rfl ?_
    refine s_I F rfl rfl rfl rfl rfl rfl ?_; clear F a; intro a F
    refine t_endM M ?_; (clear M; try clear w); intro w M
    refine wp_block ?_
    refine loopX (X := (Int)) F [0, 1] rfl (fun (i : Int) => (0 ≤ i) ∧ (i ≤ l.length) ∧ (l.take i.toNat = l'.take i.toNat)) (fun (i : Int) => [(5, .int .i64 i)]) (fun (i : Int) => []) (fun (i : Int) => l.length - i.toNat) (0) M ⟨(by omega), (by omega), rfl⟩ (F.keep [5, 0, 1] rfl) ?_
    clear F M; clear a; (try clear w)
    rintro i a w ⟨i0, i1, ha⟩ F M; try dsimp only at F M
    try simp only [List.cons_append, List.nil_append] at F M
    try dsimp only at i0 i1 ha
    refine wp_seq ?_
    refine wp_seq ?_
    refine wp_region_l [.ind, .ind, .ind, .ind] ([0, 1, 2, 3]) rfl ?_
    refine s_I F rfl rfl rfl rfl rfl rfl ?_; clear F a; intro a F
    refine s_I F rfl rfl rfl rfl rfl rfl ?_; clear F a; intro a F
    refine s_len F rfl rfl rfl rfl sl_56_K5 rfl ?_; clear F a; intro a F
    refine s_bin F rfl rfl rfl rfl rfl rfl rfl ?_; clear F a; intro a F
    refine t_endM M ?_; (clear M; try clear w); intro w M
    refine c_if F rfl ?_ ?_
    ·
      clear F; intro hc2 F
      try rw [hc2] at F
      replace hc2 := of_decide_eq_true hc2
      refine wp_skip ?_
      refine wp_seq ?_
      refine wp_block ?_
      refine wp_seq ?_
      replace F := F.keep [0, 1, 5] rfl
      refine wp_region_t [.ind, .ind, .ind, .rd, .ind, .ind, .ind, .rd, .ind] [] (otOf [0, 1, 2, 3, 4, 5, 6, 7, 8]) mixed (by kernel_rfl) ?_
      refine s_I F rfl rfl rfl rfl rfl rfl ?_; clear F a; intro a F
      refine s_I F rfl rfl rfl rfl rfl rfl ?_; clear F a; intro a F
      refine s_ix F rfl rfl rfl rfl sl_56_K5 rfl rfl (by exact M.chg.ro hro) (by omega) (by omega) ?_; clear F a; intro e19 he19 a F
      refine s_lda F rfl rfl rfl rfl ag_70_K5 rfl rfl (rdsX (M.chg.ro hro) (by intro e; rfl) he19) ?_; clear F a; intro a F
      refine s_I F rfl rfl rfl rfl rfl rfl ?_; clear F a; intro a F
      refine s_I F rfl rfl rfl rfl rfl rfl ?_; clear F a; intro a F
      refine s_ix F rfl rfl rfl rfl sl_56_K5 rfl rfl (by exact M.chg.ro hro') (by omega) (by omega) ?_; clear F a; intro e23 he23 a F
      try (obtain rfl := Option.some.inj (he19.symm.trans he23))
      refine s_lda F rfl rfl rfl rfl ag_70_K5 rfl rfl (rdsX (M.chg.ro hro') (by intro e; rfl) he23) ?_; clear F a; intro a F
      refine s_sne eqD F rfl rfl rfl rfl rfl rfl ?_; clear F a; intro a F
      refine t_endM M ?_; (clear M; try clear w); intro w M
      refine c_if F rfl ?_ ?_
      ·
        clear F; intro hc3 F
        try rw [hc3] at F
        replace hc3 := nd1 hc3
        refine wp_seq ?_
        replace F := F.keep [0, 1, 5] rfl
        refine wp_region_l [.ind] ([0]) rfl ?_
        refine s_I F rfl rfl rfl rfl rfl rfl ?_; clear F a; intro a F
        refine t_endM M ?_; (clear M; try clear w); intro w M
        refine wp_ret ?_
        refine ret1 F rfl rfl ?_
        -- end 1
        refine ⟨_, rfl, ?_, M.chg⟩
        rw [decide_eq_false (fun h => by subst h; simp_all)]
      ·
        clear F; intro hc4 F
        try rw [hc4] at F
        replace hc4 := nd0 hc4
        refine wp_skip ?_
        replace F := F.keep [0, 1, 5] rfl
        refine wp_region_l [.ind, .ind, .ind] ([0, 1, 2]) rfl ?_
        refine s_I F rfl rfl rfl rfl rfl rfl ?_; clear F a; intro a F
        refine s_add F rfl rfl rfl rfl rfl rfl (by unfold In64; omega) ?_; clear F a; intro a F
        refine s_I F rfl rfl rfl rfl rfl rfl ?_; clear F a; intro a F
        refine t_endM M ?_; (clear M; try clear w); intro w M
        refine again (i + 1) (by show _ < _; (try dsimp only); omega) ⟨(by omega), (by assumption), (by rw [take_succ i0 he19, take_succ i0 he23, ha]; simp_all)⟩ (F.keep [5, 0, 1] rfl) ?_
        try dsimp only [List.cons_append, List.nil_append]
        refine M.pick ?_; repeat (exact PkG.nil)
    ·
      clear F; intro hc5 F
      try rw [hc5] at F
      replace hc5 := of_decide_eq_false hc5
      refine wp_exit ?_
      refine wp_seq ?_
      replace F := F.keep [0, 1, 5] rfl
      refine wp_region_l [.ind] ([0]) rfl ?_
      refine s_I F rfl rfl rfl rfl rfl rfl ?_; clear F a; intro a F
      refine t_endM M ?_; (clear M; try clear w); intro w M
      refine wp_ret ?_
      refine ret1 F rfl rfl ?_
      -- end 2
      refine ⟨_, rfl, ?_, M.chg⟩
      rw [take_all (by omega), take_all (by omega)] at ha
      rw [decide_eq_true ha]
set_option maxRecDepth 100000 in
set_option maxHeartbeats 400000 in
theorem c31 (l l' : List ByteArray) (v v' : Value) (w0 : World) (hr : RdSl w0.heap v l.length 1 (l.flatMap encS)) (hr' : RdSl w0.heap v' l'.length 1 (l'.flatMap encS)) (hl : l.length ≤ 100000) : Cl Try.prog 31 #[v, v'] w0 (RetQ w0 fun r => r = .bool (decide (l = l'))) := by
  have M : Sep (fun _ => False) w0 w0 _ := Sep.nil _ w0
  have hro := ro_of hr
  have hro' := ro_of hr'
  obtain ⟨A, cc, rfl, hcc⟩ := hr.form
  obtain ⟨A', cc', rfl, hcc'⟩ := hr'.form
  refine enter (vs := [_, _]) Try.func31 rfl rfl rfl ?_
  intro a F
  refine wp_seq ?_
  refine wp_region_l [.ind] ([0]) rfl ?_
  refine s_I F rfl rfl rfl rfl rfl rfl ?_; clear F a; intro a F
  refine t_endM M ?_; (clear M; try clear w); intro w M
  refine wp_seq ?_
  refine wp_seq ?_
  refine wp_region_l [.ind, .ind, .ind, .ind, .ind] ([0, 1, 2, 3, 4]) rfl ?_
  refine s_I F rfl rfl rfl rfl rfl rfl ?_; clear F a; intro a F
  refine s_len F rfl rfl rfl rfl sl_61_K5 rfl ?_; clear F a; intro a F
  refine s_I F rfl rfl rfl rfl rfl rfl ?_; clear F a; intro a F
  refine s_len F rfl rfl rfl rfl sl_61_K5 rfl ?_; clear F a; intro a F
  refine s_bin F rfl rfl rfl rfl rfl rfl rfl ?_; clear F a; intro a F
  refine t_endM M ?_; (clear M; try clear w); intro w M
  refine c_if F rfl ?_ ?_
  ·
    clear F; intro hc0 F
    try rw [hc0] at F
    replace hc0 := nd1 hc0
    refine wp_seq ?_
    replace F := F.keep [0, 1, 4] rfl
    refine wp_region_l [.ind] ([0]) rfl ?_
    refine s_I F rfl rfl rfl rfl rfl rfl ?_; clear F a; intro a F
    refine t_endM M ?_; (clear M; try clear w); intro w M
    refine wp_ret ?_
    refine ret1 F rfl rfl ?_
    -- end 0
    refine ⟨_, rfl, ?_, M.chg⟩
    rw [decide_eq_false (fun h => by subst h; omega)]
  ·
    clear F; intro hc1 F
    try rw [hc1] at F
    replace hc1 := nd0 hc1
    refine wp_skip ?_
    refine wp_seq ?_
    refine wp_seq ?_
    replace F := F.keep [0, 1, 4] rfl
    refine wp_region_l [.ind] ([0]) rfl ?_
    refine s_I F rfl rfl rfl rfl rfl rfl ?_; clear F a; intro a F
    refine t_endM M ?_; (clear M; try clear w); intro w M
    refine wp_block ?_
    refine loopX (X := (Int)) F [0, 1] rfl (fun (i : Int) => (0 ≤ i) ∧ (i ≤ l.length) ∧ (l.take i.toNat = l'.take i.toNat)) (fun (i : Int) => [(5, .int .i64 i)]) (fun (i : Int) => []) (fun (i : Int) => l.length - i.toNat) (0) M ⟨(by omega), (by omega), rfl⟩ (F.keep [5, 0, 1] rfl) ?_
    clear F M; clear a; (try clear w)
    rintro i a w ⟨i0, i1, ha⟩ F M; try dsimp only at F M
    try simp only [List.cons_append, List.nil_append] at F M
    try dsimp only at i0 i1 ha
    refine wp_seq ?_
    refine wp_seq ?_
    refine wp_region_l [.ind, .ind, .ind, .ind] ([0, 1, 2, 3]) rfl ?_
    refine s_I F rfl rfl rfl rfl rfl rfl ?_; clear F a; intro a F
    refine s_I F rfl rfl rfl rfl rfl rfl ?_; clear F a; intro a F
    refine s_len F rfl rfl rfl rfl sl_61_K5 rfl ?_; clear F a; intro a F
    refine s_bin F rfl rfl rfl rfl rfl rfl rfl ?_; clear F a; intro a F
    refine t_endM M ?_; (clear M; try clear w); intro w M
    refine c_if F rfl ?_ ?_
    ·
      clear F; intro hc2 F
      try rw [hc2] at F
      replace hc2 := of_decide_eq_true hc2
      refine wp_skip ?_
      refine wp_seq ?_
      refine wp_block ?_
      refine wp_seq ?_
      replace F := F.keep [0, 1, 5] rfl
      refine wp_region_t [.ind, .ind, .ind, .rd, .ind, .ind, .ind, .rd, .ind] [] (otOf [0, 1, 2, 3, 4, 5, 6, 7, 8]) mixed (by kernel_rfl) ?_
      refine s_I F rfl rfl rfl rfl rfl rfl ?_; clear F a; intro a F
      refine s_I F rfl rfl rfl rfl rfl rfl ?_; clear F a; intro a F
      refine s_ix F rfl rfl rfl rfl sl_61_K5 rfl rfl (by exact M.chg.ro hro) (by omega) (by omega) ?_; clear F a; intro e19 he19 a F
      refine s_ld F rfl rfl rfl rfl sc_9_K5 rfl (by exact rdX0 (M.chg.ro hro) (by intro e; rfl) he19 rfl) ?_; clear F a; intro a F
      refine s_I F rfl rfl rfl rfl rfl rfl ?_; clear F a; intro a F
      refine s_I F rfl rfl rfl rfl rfl rfl ?_; clear F a; intro a F
      refine s_ix F rfl rfl rfl rfl sl_61_K5 rfl rfl (by exact M.chg.ro hro') (by omega) (by omega) ?_; clear F a; intro e23 he23 a F
      try (obtain rfl := Option.some.inj (he19.symm.trans he23))
      refine s_ld F rfl rfl rfl rfl sc_9_K5 rfl (by exact rdX0 (M.chg.ro hro') (by intro e; rfl) he23 rfl) ?_; clear F a; intro a F
      refine s_bin F rfl rfl rfl rfl rfl rfl rfl ?_; clear F a; intro a F
      refine t_endM M ?_; (clear M; try clear w); intro w M
      refine c_if F rfl ?_ ?_
      ·
        clear F; intro hc3 F
        try rw [hc3] at F
        replace hc3 := nd1 hc3
        refine wp_seq ?_
        replace F := F.keep [0, 1, 5] rfl
        refine wp_region_l [.ind] ([0]) rfl ?_
        refine s_I F rfl rfl rfl rfl rfl rfl ?_; clear F a; intro a F
        refine t_endM M ?_; (clear M; try clear w); intro w M
        refine wp_ret ?_
        refine ret1 F rfl rfl ?_
        -- end 1
        refine ⟨_, rfl, ?_, M.chg⟩
        rw [decide_eq_false (fun h => by subst h; simp_all)]
      ·
        clear F; intro hc4 F
        try rw [hc4] at F
        replace hc4 := nd0 hc4
        refine wp_skip ?_
        replace F := F.keep [0, 1, 5] rfl
        refine wp_region_l [.ind, .ind, .ind] ([0, 1, 2]) rfl ?_
        refine s_I F rfl rfl rfl rfl rfl rfl ?_; clear F a; intro a F
        refine s_add F rfl rfl rfl rfl rfl rfl (by unfold In64; omega) ?_; clear F a; intro a F
        refine s_I F rfl rfl rfl rfl rfl rfl ?_; clear F a; intro a F
        refine t_endM M ?_; (clear M; try clear w); intro w M
        refine again (i + 1) (by show _ < _; (try dsimp only); omega) ⟨(by omega), (by assumption), (by rw [take_succ i0 he19, take_succ i0 he23, ha]; simp_all)⟩ (F.keep [5, 0, 1] rfl) ?_
        try dsimp only [List.cons_append, List.nil_append]
        refine M.pick ?_; repeat (exact PkG.nil)
    ·
      clear F; intro hc5 F
      try rw [hc5] at F
      replace hc5 := of_decide_eq_false hc5
      refine wp_exit ?_
      refine wp_seq ?_
      replace F := F.keep [0, 1, 5] rfl
      refine wp_region_l [.ind] ([0]) rfl ?_
      refine s_I F rfl rfl rfl rfl rfl rfl ?_; clear F a; intro a F
      refine t_endM M ?_; (clear M; try clear w); intro w M
      refine wp_ret ?_
      refine ret1 F rfl rfl ?_
      -- end 2
      refine ⟨_, rfl, ?_, M.chg⟩
      rw [take_all (by omega), take_all (by omega)] at ha
      rw [decide_eq_true ha]

/-- The reference's memory. -/
structure OE where
  k : Key
  c : CSt
  A : Option Addr
  cp : Nat
def encO (e : OE) : List Value := [.int .i64 e.k.1, .int .i64 e.k.2, .int .i64 e.c.n, .int .i64 e.c.t, .int .i64 e.c.frm, .slice e.A e.c.L.length e.cp, .bool e.c.ready, .bool e.c.done, .string e.c.body]
abbrev AC := Option Addr × Nat
def oes (K : KSt) (V : Key → AC) : List OE := K.ks.map fun k => ⟨k, K.C k, (V k).1, (V k).2⟩
structure Rg where
  A : Option Addr
  c : Nat
  V : Key → AC
  rv : Nat → AC
def tvR (K : KSt) (rv : Nat → AC) : Nat → Value := fun i => .slice (rv i).1 (K.T i).length (rv i).2
def opV (K : KSt) (h : Rg) : Value := .slice h.A (oes K h.V).length h.c
def refK (K : KSt) (h : Rg) : Value := .agg #[.int .i64 K.n, .int .i64 K.t, opV K h, tvR K h.rv 0, tvR K h.rv 1, tvR K h.rv 2, tvR K h.rv 3, tvR K h.rv 4, tvR K h.rv 5, tvR K h.rv 6, tvR K h.rv 7]
def rF (n t : Int) (s : Value) (tv : Nat → Value) : Nat → Value
  | 0 => .int .i64 n
  | 1 => .int .i64 t
  | 2 => s
  | j + 3 => tv j
def rO (n t : Int) (s : Value) (tv : Nat → Value) : Obj := .cells (cellsF 11 (rF n t s tv)) 64 (0, 0)
theorem rF_told {n t : Int} {s : Value} {tv : Nat → Value} {f : Int} : rF n t s tv (3 + f.toNat * 1) = tv f.toNat := by rw [show 3 + f.toNat * 1 = f.toNat + 3 by omega]; rfl
theorem rO_cells (n t : Int) (s : Value) (tv : Nat → Value) : Obj.cells #[.int .i64 n, .int .i64 t, s, tv 0, tv 1, tv 2, tv 3, tv 4, tv 5, tv 6, tv 7] 64 (0, 0) = rO n t s tv := rfl
def oR (A : Option Addr) (c : Nat) (K : KSt) (V : Key → AC) : Res := slR (.slice A (oes K V).length c) (oes K V).length 106 9 ((oes K V).flatMap encO)
def lR (K : KSt) (V : Key → AC) (ks : List Key) : Res := bigR (fun k => slR (.slice (V k).1 (K.C k).L.length (V k).2) (K.C k).L.length 38 3 ((K.C k).L.flatMap encM)) ks
def rR (h : Rg) (K : KSt) : Res := bigR id [oR h.A h.c K h.V, lR K h.V K.ks, kT (tvR K h.rv) K.T]
structure ROk (w : Array Obj) (h : Rg) (K : KSt) : Prop where
  o : SlOk w (opV K h) (oes K h.V).length 106 9 ((oes K h.V).flatMap encO)
  t : ∀ i, i < 8 → SlOk w (tvR K h.rv i) (K.T i).length 9 1 ((K.T i).flatMap encS)
theorem r_ok {w : Array Obj} {h : Rg} {K : KSt} (hk : (rR h K).ok w) : ROk w h K := by
  refine ⟨hk (oR h.A h.c K h.V) (by simp), fun i hi => ?_⟩
  exact hk (kT (tvR K h.rv) K.T) (by simp) i (List.mem_range.2 hi)
theorem oes_at {K : KSt} {V : Key → AC} {i : Nat} {e : OE} (h : (oes K V)[i]? = some e) : K.ks[i]? = some e.k ∧ e.c = K.C e.k ∧ e.A = (V e.k).1 ∧ e.cp = (V e.k).2 := by
  unfold oes at h
  rw [List.getElem?_map] at h
  cases hk : K.ks[i]? with
  | none => rw [hk] at h; cases h
  | some k =>
    rw [hk] at h
    simp only [Option.map_some, Option.some.injEq] at h
    subst h
    exact ⟨rfl, rfl, rfl, rfl⟩
def fnd (ks : List Key) (k : Key) : Int := if k ∈ ks then (ks.idxOf k : Nat) else -1
theorem fnd_hit {ks : List Key} {i : Nat} {k : Key} (h : ks[i]? = some k) (hn : ∀ x ∈ ks.take i, x ≠ k) : fnd ks k = i := by
  have hm : k ∈ ks := List.mem_of_getElem? h
  unfold fnd
  rw [if_pos hm]
  have : ks.idxOf k = i := by
    clear hm
    induction ks generalizing i with
    | nil => simp at h
    | cons y ks ih =>
      cases i with
      | zero => simp at h; subst h; simp
      | succ i =>
        have h1 : y ≠ k := hn y (by simp)
        have h2 := ih (by simpa using h) (fun x hx => hn x (by simp [hx]))
        rw [List.idxOf_cons, h2, beq_eq_false_iff_ne.2 h1]
        rfl
  rw [this]
theorem fnd_miss {ks : List Key} {k : Key} (h : ∀ x ∈ ks, x ≠ k) : fnd ks k = -1 := by
  unfold fnd
  rw [if_neg fun hm => h k hm rfl]
theorem oes_len {K : KSt} {V : Key → AC} : (oes K V).length = K.ks.length := by simp [oes]


theorem q_pos {n t : Int} (h : quorum n t ≠ 0) : 0 < quorum n t := by
  have := q_spec h
  unfold quorum at h ⊢
  split
  · rename_i hc; rw [if_pos hc] at h; exact absurd rfl h
  · omega

set_option maxRecDepth 100000 in
set_option maxHeartbeats 400000 in
theorem c26 (n t : Int) (hq : quorum n t ≠ 0) (w0 : World) : Cl Try.prog 26 #[.int .i64 n, .int .i64 t] w0 (RetQ w0 fun v => v = .tuple #[refK (newK n t) ⟨none, 0, fun _ => (none, 0), fun _ => (none, 0)⟩, .bool true]) := by
  have M : Sep (fun _ => False) w0 w0 _ := Sep.nil _ w0
  refine enter (vs := [_, _]) Try.func26 rfl rfl rfl ?_
  intro a F
  refine wp_seq ?_
  refine wp_region_l [.wr, .ind] ([0, 1]) rfl ?_
  refine s_alc F M rfl rfl rfl rfl zr_64_K5 rfl ?_; (clear F a M; try clear w); intro b4 w M a F
  refine s_I F rfl rfl rfl rfl rfl rfl ?_; clear F a; intro a F
  refine t_endM M ?_; (clear M; try clear w); intro w M
  refine wp_seq ?_
  refine wp_region_l [.ind, .ind, .ind, .ind, .ind, .wr, .ind, .wr, .ind] ([0, 1, 2, 3, 4, 5, 6, 7, 8]) rfl ?_
  refine s_I F rfl rfl rfl rfl rfl rfl ?_; clear F a; intro a F
  refine s_I F rfl rfl rfl rfl rfl rfl ?_; clear F a; intro a F
  refine s_bld F rfl rfl rfl rfl (parts2 F rfl rfl) (bl_64_0_1_K5 _ _) ?_; clear F a; intro a F
  refine s_I F rfl rfl rfl rfl rfl rfl ?_; clear F a; intro a F
  refine s_I F rfl rfl rfl rfl rfl rfl ?_; clear F a; intro a F
  refine s_cq F M rfl rfl rfl rfl rfl (rfl : _ = some [_, _]) cb_13_K5 (fun nd_ => c13 _ _ _) ?_; (clear F a M; try clear w); rintro v w rfl M a F
  refine s_bin F rfl rfl rfl rfl rfl rfl rfl ?_; clear F a; intro a F
  refine s_stW F M rfl rfl rfl sz_64_K5 rfl rfl rfl rfl rfl ?_; (clear M; try clear w); intro w M
  refine s_I F rfl rfl rfl rfl rfl rfl ?_; clear F a; intro a F
  refine t_endM M ?_; (clear M; try clear w); intro w M
  refine wp_ret ?_
  refine rt2 F rfl (by exact rv_a F rfl ag_64_K5 rfl (cells_whole M.h0)) (rv_t F rfl) ?_
  -- end 0
  refine ⟨_, rfl, ?_, M.chg⟩
  rw [decide_eq_true (by have := q_pos hq; omega)]
  rfl
set_option maxRecDepth 100000 in
set_option maxHeartbeats 400000 in
theorem c26n (n t : Int) (hq : quorum n t = 0) (w0 : World) : Cl Try.prog 26 #[.int .i64 n, .int .i64 t] w0 (RetQ w0 fun v => ∃ u, v = .tuple #[u, .bool false]) := by
  have M : Sep (fun _ => False) w0 w0 _ := Sep.nil _ w0
  refine enter (vs := [_, _]) Try.func26 rfl rfl rfl ?_
  intro a F
  refine wp_seq ?_
  refine wp_region_l [.wr, .ind] ([0, 1]) rfl ?_
  refine s_alc F M rfl rfl rfl rfl zr_64_K5 rfl ?_; (clear F a M; try clear w); intro b4 w M a F
  refine s_I F rfl rfl rfl rfl rfl rfl ?_; clear F a; intro a F
  refine t_endM M ?_; (clear M; try clear w); intro w M
  refine wp_seq ?_
  refine wp_region_l [.ind, .ind, .ind, .ind, .ind, .wr, .ind, .wr, .ind] ([0, 1, 2, 3, 4, 5, 6, 7, 8]) rfl ?_
  refine s_I F rfl rfl rfl rfl rfl rfl ?_; clear F a; intro a F
  refine s_I F rfl rfl rfl rfl rfl rfl ?_; clear F a; intro a F
  refine s_bld F rfl rfl rfl rfl (parts2 F rfl rfl) (bl_64_0_1_K5 _ _) ?_; clear F a; intro a F
  refine s_I F rfl rfl rfl rfl rfl rfl ?_; clear F a; intro a F
  refine s_I F rfl rfl rfl rfl rfl rfl ?_; clear F a; intro a F
  refine s_cq F M rfl rfl rfl rfl rfl (rfl : _ = some [_, _]) cb_13_K5 (fun nd_ => c13 _ _ _) ?_; (clear F a M; try clear w); rintro v w rfl M a F
  refine s_bin F rfl rfl rfl rfl rfl rfl rfl ?_; clear F a; intro a F
  refine s_stW F M rfl rfl rfl sz_64_K5 rfl rfl rfl rfl rfl ?_; (clear M; try clear w); intro w M
  refine s_I F rfl rfl rfl rfl rfl rfl ?_; clear F a; intro a F
  refine t_endM M ?_; (clear M; try clear w); intro w M
  refine wp_ret ?_
  refine rt2 F rfl (by exact rv_a F rfl ag_64_K5 rfl (cells_whole M.h0)) (rv_t F rfl) ?_
  -- end 0
  refine ⟨_, rfl, ?_, M.chg⟩
  rw [decide_eq_false (by omega)]
  exact ⟨_, rfl⟩
set_option maxRecDepth 100000 in
set_option maxHeartbeats 400000 in
theorem c39 (h : Rg) (K : KSt) (f : Int) (hn : K.n ≤ 7) (w0 : World) : Cl Try.prog 39 #[refK K h, .int .i64 f] w0 (RetQ w0 fun v => v = .int .i64 (if K.node f = true then K.len f else 0)) := by
  have M : Sep (fun _ => False) w0 w0 _ := Sep.nil _ w0
  refine enter (vs := [_, _]) Try.func39 rfl rfl rfl ?_
  intro a F
  refine wp_seq ?_
  refine wp_region_l [.wr, .ind] ([0, 1]) rfl ?_
  refine s_bxA F M rfl rfl rfl rfl rfl ?_; (clear F a M; try clear w); intro b2 w M a F
  refine s_I F rfl rfl rfl rfl rfl rfl ?_; clear F a; intro a F
  refine t_endM M ?_; (clear M; try clear w); intro w M
  refine wp_seq ?_
  refine wp_seq ?_
  have M1 : Sep _ _ _ (blk b2 _ :: _) := M; replace M := M1; clear M1
  replace M : Sep _ _ _ (blk b2 (rO K.n K.t (opV K h) (tvR K h.rv)) :: _) := M
  refine wp_region_l [.ind, .ind, .ind, .ind, .ind, .rd, .ind, .ind] ([0, 1, 2, 3, 4, 5, 6, 7]) rfl ?_
  refine s_I F rfl rfl rfl rfl rfl rfl ?_; clear F a; intro a F
  refine s_bin F rfl rfl rfl rfl rfl rfl rfl ?_; clear F a; intro a F
  refine s_I F rfl rfl rfl rfl rfl rfl ?_; clear F a; intro a F
  refine bsplit F 7 rfl ?_ ?_
  ·
    clear F; intro hc0 F
    try rw [hc0] at F
    replace hc0 := of_decide_eq_true hc0
    refine s_no F rfl rfl rfl rfl ?_; clear F a; intro a F
    refine s_no F rfl rfl rfl rfl ?_; clear F a; intro a F
    refine s_no F rfl rfl rfl rfl ?_; clear F a; intro a F
    refine s_no F rfl rfl rfl rfl ?_; clear F a; intro a F
    refine s_I F rfl rfl rfl rfl rfl rfl ?_; clear F a; intro a F
    refine t_endM M ?_; (clear M; try clear w); intro w M
    refine c_t F rfl ?_
    refine wp_seq ?_
    replace F := F.keep [0, 1, 2, 4] rfl
    refine wp_region_l [.ind] ([0]) rfl ?_
    refine s_I F rfl rfl rfl rfl rfl rfl ?_; clear F a; intro a F
    refine t_endM M ?_; (clear M; try clear w); intro w M
    refine wp_ret ?_
    refine ret1 F rfl rfl ?_
    -- end 0
    refine ⟨_, rfl, ?_, M.chg⟩
    rw [if_neg (by clear M F; grind [KSt.node])]
  ·
    clear F; intro hc1 F
    try rw [hc1] at F
    replace hc1 := of_decide_eq_false hc1
    refine s_I F rfl rfl rfl rfl rfl rfl ?_; clear F a; intro a F
    refine s_fa0 F rfl rfl rfl rfl fa_64_0_K5 rfl ?_; clear F a; intro a F
    refine s_ld F rfl rfl rfl rfl sc_3_K5 rfl (by exact cell_of_blk M.h0 (gf rfl (by decide))) ?_; clear F a; intro a F
    refine s_bin F rfl rfl rfl rfl rfl rfl rfl ?_; clear F a; intro a F
    refine s_I F rfl rfl rfl rfl rfl rfl ?_; clear F a; intro a F
    refine t_endM M ?_; (clear M; try clear w); intro w M
    refine c_if F rfl ?_ ?_
    ·
      clear F; intro hc2 F
      try rw [hc2] at F
      replace hc2 := of_decide_eq_true hc2
      refine wp_seq ?_
      replace F := F.keep [0, 1, 2, 4] rfl
      refine wp_region_l [.ind] ([0]) rfl ?_
      refine s_I F rfl rfl rfl rfl rfl rfl ?_; clear F a; intro a F
      refine t_endM M ?_; (clear M; try clear w); intro w M
      refine wp_ret ?_
      refine ret1 F rfl rfl ?_
      -- end 1
      refine ⟨_, rfl, ?_, M.chg⟩
      rw [if_neg (by clear M F; grind [KSt.node])]
    ·
      clear F; intro hc3 F
      try rw [hc3] at F
      replace hc3 := of_decide_eq_false hc3
      refine wp_skip ?_
      refine wp_seq ?_
      replace F := F.keep [0, 1, 2, 4] rfl
      refine wp_region_l [.ind, .ind, .ind, .rd, .ind, .ind] ([0, 1, 2, 3, 4, 5]) rfl ?_
      refine s_I F rfl rfl rfl rfl rfl rfl ?_; clear F a; intro a F
      refine s_fa0 F rfl rfl rfl rfl fa_64_3_K5 rfl ?_; clear F a; intro a F
      refine s_ia F rfl rfl rfl rfl ar_62_K5 rfl rfl (by omega) (by omega) ?_; clear F a; intro a F
      refine s_ld F rfl rfl rfl rfl sc_61_K5 rfl (by exact cell_of_blk M.h0 (gf (rF_told) (by omega))) ?_; clear F a; intro a F
      refine s_len F rfl rfl rfl rfl sl_61_K5 rfl ?_; clear F a; intro a F
      refine s_I F rfl rfl rfl rfl rfl rfl ?_; clear F a; intro a F
      refine t_endM M ?_; (clear M; try clear w); intro w M
      refine wp_ret ?_
      refine ret1 F rfl rfl ?_
      -- end 2
      refine ⟨_, rfl, ?_, M.chg⟩
      rw [if_pos (by clear M F; grind [KSt.node])]
      rfl
set_option maxRecDepth 100000 in
set_option maxHeartbeats 400000 in
theorem c40 (h : Rg) (K : KSt) (k : Key) (hl : K.ks.length ≤ 100000) (w0 : World) (hr : RdSl w0.heap (opV K h) (oes K h.V).length 9 ((oes K h.V).flatMap encO)) : Cl Try.prog 40 #[refK K h, .int .i64 k.1, .int .i64 k.2] w0 (RetQ w0 fun v => v = .int .i64 (fnd K.ks k)) := by
  have M : Sep (fun _ => False) w0 w0 _ := Sep.nil _ w0
  have hro := ro_of hr
  have hol := oes_len (K := K) (V := h.V)
  refine enter (vs := [_, _, _]) Try.func40 rfl rfl rfl ?_
  intro a F
  refine wp_seq ?_
  refine wp_region_l [.wr, .ind] ([0, 1]) rfl ?_
  refine s_bxA F M rfl rfl rfl rfl rfl ?_; (clear F a M; try clear w); intro b3 w M a F
  refine s_I F rfl rfl rfl rfl rfl rfl ?_; clear F a; intro a F
  refine t_endM M ?_; (clear M; try clear w); intro w M
  refine wp_seq ?_
  refine wp_seq ?_
  have M1 : Sep _ _ _ (blk b3 _ :: _) := M; replace M := M1; clear M1
  replace M : Sep _ _ _ (blk b3 (rO K.n K.t (opV K h) (tvR K h.rv)) :: _) := M
  refine wp_region_l [.ind] ([0]) rfl ?_
  refine s_I F rfl rfl rfl rfl rfl rfl ?_; clear F a; intro a F
  refine t_endM M ?_; (clear M; try clear w); intro w M
  refine wp_block ?_
  have M1 : Sep _ _ _ (blk b3 _ :: _) := M; replace M := M1; clear M1
  refine loopX (X := (Int)) F [0, 1, 2, 3] rfl (fun (i : Int) => (0 ≤ i) ∧ (i ≤ K.ks.length) ∧ (∀ x ∈ K.ks.take i.toNat, x ≠ k)) (fun (i : Int) => [(7, .int .i64 i)]) (fun (i : Int) => [blk b3 (rO K.n K.t (opV K h) (tvR K h.rv))]) (fun (i : Int) => K.ks.length - i.toNat) (0) M ⟨(by omega), (by omega), (by simp)⟩ (F.keep [7, 0, 1, 2, 3] rfl) ?_
  clear F M; clear a; (try clear w)
  rintro i a w ⟨i0, i1, ha⟩ F M; try dsimp only at F M
  try simp only [List.cons_append, List.nil_append] at F M
  try dsimp only at i0 i1 ha
  refine wp_seq ?_
  refine wp_seq ?_
  refine wp_region_l [.ind, .ind, .rd, .ind, .ind] ([0, 1, 2, 3, 4]) rfl ?_
  refine s_I F rfl rfl rfl rfl rfl rfl ?_; clear F a; intro a F
  refine s_fa0 F rfl rfl rfl rfl fa_64_2_K5 rfl ?_; clear F a; intro a F
  refine s_ld F rfl rfl rfl rfl sc_60_K5 rfl (by exact cell_of_blk M.h0 (gf rfl (by decide))) ?_; clear F a; intro a F
  refine s_len F rfl rfl rfl rfl sl_60_K5 rfl ?_; clear F a; intro a F
  refine s_bin F rfl rfl rfl rfl rfl rfl rfl ?_; clear F a; intro a F
  refine t_endM M ?_; (clear M; try clear w); intro w M
  refine c_if F rfl ?_ ?_
  ·
    clear F; intro hc0 F
    try rw [hc0] at F
    replace hc0 := of_decide_eq_true hc0
    refine wp_skip ?_
    refine wp_seq ?_
    refine wp_block ?_
    refine wp_seq ?_
    replace F := F.keep [0, 1, 2, 3, 7] rfl
    refine wp_region_l [.ind, .rd, .ind, .ind, .ind, .rd, .ind, .ind, .ind, .ind, .rd, .ind, .ind, .ind, .rd, .ind, .ind, .ind] ([0, 1, 2, 3, 4, 5, 6, 7, 8, 9, 10, 11, 12, 13, 14, 15, 16, 17]) rfl ?_
    refine s_fa0 F rfl rfl rfl rfl fa_64_2_K5 rfl ?_; clear F a; intro a F
    refine s_ld F rfl rfl rfl rfl sc_60_K5 rfl (by exact cell_of_blk M.h0 (gf rfl (by decide))) ?_; clear F a; intro a F
    refine s_I F rfl rfl rfl rfl rfl rfl ?_; clear F a; intro a F
    refine s_ix F rfl rfl rfl rfl sl_60_K5 rfl rfl (by exact M.chg.ro hro) (by omega) (by omega) ?_; clear F a; intro e18 he18 a F
    refine s_fa F rfl rfl rfl rfl fa_106_0_K5 rfl ?_; clear F a; intro a F
    refine s_ld F rfl rfl rfl rfl sc_3_K5 rfl (by exact rdX (M.chg.ro hro) (by intro e; rfl) he18 rfl) ?_; clear F a; intro a F
    refine s_I F rfl rfl rfl rfl rfl rfl ?_; clear F a; intro a F
    refine s_bin F rfl rfl rfl rfl rfl rfl rfl ?_; clear F a; intro a F
    refine s_I F rfl rfl rfl rfl rfl rfl ?_; clear F a; intro a F
    refine bsplit F 23 rfl ?_ ?_
    ·
      clear F; intro hc1 F
      try rw [hc1] at F
      replace hc1 := of_decide_eq_true hc1
      refine s_fa0 F rfl rfl rfl rfl fa_64_2_K5 rfl ?_; clear F a; intro a F
      refine s_ld F rfl rfl rfl rfl sc_60_K5 rfl (by exact cell_of_blk M.h0 (gf rfl (by decide))) ?_; clear F a; intro a F
      refine s_I F rfl rfl rfl rfl rfl rfl ?_; clear F a; intro a F
      refine s_ix F rfl rfl rfl rfl sl_60_K5 rfl rfl (by exact M.chg.ro hro) (by omega) (by omega) ?_; clear F a; intro e27 he27 a F
      try (obtain rfl := Option.some.inj (he18.symm.trans he27))
      refine s_fa F rfl rfl rfl rfl fa_106_1_K5 rfl ?_; clear F a; intro a F
      refine s_ld F rfl rfl rfl rfl sc_3_K5 rfl (by exact rdX (M.chg.ro hro) (by intro e; rfl) he27 rfl) ?_; clear F a; intro a F
      refine s_I F rfl rfl rfl rfl rfl rfl ?_; clear F a; intro a F
      refine s_bin F rfl rfl rfl rfl rfl rfl rfl ?_; clear F a; intro a F
      refine s_I F rfl rfl rfl rfl rfl rfl ?_; clear F a; intro a F
      refine t_endM M ?_; (clear M; try clear w); intro w M
      refine c_if F rfl ?_ ?_
      ·
        clear F; intro hc2 F
        try rw [hc2] at F
        replace hc2 := of_decide_eq_true hc2
        refine wp_seq ?_
        replace F := F.keep [0, 1, 2, 3, 7] rfl
        refine wp_region_l [.ind, .ind] ([0, 1]) rfl ?_
        refine s_I F rfl rfl rfl rfl rfl rfl ?_; clear F a; intro a F
        refine s_I F rfl rfl rfl rfl rfl rfl ?_; clear F a; intro a F
        refine t_endM M ?_; (clear M; try clear w); intro w M
        refine wp_ret ?_
        refine ret1 F rfl rfl ?_
        -- end 0
        refine ⟨_, rfl, ?_, M.chg⟩
        have hk : e18.k = k := by apply Prod.ext <;> assumption
        rw [fnd_hit (hk ▸ (oes_at he18).1) ha, Int.toNat_of_nonneg i0]
      ·
        clear F; intro hc3 F
        try rw [hc3] at F
        replace hc3 := of_decide_eq_false hc3
        refine wp_skip ?_
        replace F := F.keep [0, 1, 2, 3, 7] rfl
        refine wp_region_l [.ind, .ind, .ind] ([0, 1, 2]) rfl ?_
        refine s_I F rfl rfl rfl rfl rfl rfl ?_; clear F a; intro a F
        refine s_add F rfl rfl rfl rfl rfl rfl (by unfold In64; omega) ?_; clear F a; intro a F
        refine s_I F rfl rfl rfl rfl rfl rfl ?_; clear F a; intro a F
        refine t_endM M ?_; (clear M; try clear w); intro w M
        refine again (i + 1) (by show _ < _; (try dsimp only); omega) ⟨(by omega), (by omega), all_take ha i0 (oes_at he18).1 (by intro e; subst e; simp_all)⟩ (F.keep [7, 0, 1, 2, 3] rfl) ?_
        try dsimp only [List.cons_append, List.nil_append]
        refine M.pick ?_; repeat (first | exact PkG.nil | refine PkG.cons 0 rfl rfl ?_)
    ·
      clear F; intro hc4 F
      try rw [hc4] at F
      replace hc4 := of_decide_eq_false hc4
      refine s_no F rfl rfl rfl rfl ?_; clear F a; intro a F
      refine s_no F rfl rfl rfl rfl ?_; clear F a; intro a F
      refine s_no F rfl rfl rfl rfl ?_; clear F a; intro a F
      refine s_no F rfl rfl rfl rfl ?_; clear F a; intro a F
      refine s_no F rfl rfl rfl rfl ?_; clear F a; intro a F
      refine s_no F rfl rfl rfl rfl ?_; clear F a; intro a F
      refine s_no F rfl rfl rfl rfl ?_; clear F a; intro a F
      refine s_no F rfl rfl rfl rfl ?_; clear F a; intro a F
      refine s_I F rfl rfl rfl rfl rfl rfl ?_; clear F a; intro a F
      refine t_endM M ?_; (clear M; try clear w); intro w M
      refine c_f F rfl ?_
      refine wp_skip ?_
      replace F := F.keep [0, 1, 2, 3, 7] rfl
      refine wp_region_l [.ind, .ind, .ind] ([0, 1, 2]) rfl ?_
      refine s_I F rfl rfl rfl rfl rfl rfl ?_; clear F a; intro a F
      refine s_add F rfl rfl rfl rfl rfl rfl (by unfold In64; omega) ?_; clear F a; intro a F
      refine s_I F rfl rfl rfl rfl rfl rfl ?_; clear F a; intro a F
      refine t_endM M ?_; (clear M; try clear w); intro w M
      refine again (i + 1) (by show _ < _; (try dsimp only); omega) ⟨(by omega), (by omega), all_take ha i0 (oes_at he18).1 (by intro e; subst e; simp_all)⟩ (F.keep [7, 0, 1, 2, 3] rfl) ?_
      try dsimp only [List.cons_append, List.nil_append]
      refine M.pick ?_; repeat (first | exact PkG.nil | refine PkG.cons 0 rfl rfl ?_)
  ·
    clear F; intro hc5 F
    try rw [hc5] at F
    replace hc5 := of_decide_eq_false hc5
    refine wp_exit ?_
    refine wp_seq ?_
    replace F := F.keep [0, 1, 2, 3, 7] rfl
    refine wp_region_l [.ind] ([0]) rfl ?_
    refine s_I F rfl rfl rfl rfl rfl rfl ?_; clear F a; intro a F
    refine t_endM M ?_; (clear M; try clear w); intro w M
    refine wp_ret ?_
    refine ret1 F rfl rfl ?_
    -- end 1
    refine ⟨_, rfl, ?_, M.chg⟩
    rw [take_all (by omega)] at ha
    rw [fnd_miss ha]
end Go.Proofs.Ytibomfgeemhogaa
