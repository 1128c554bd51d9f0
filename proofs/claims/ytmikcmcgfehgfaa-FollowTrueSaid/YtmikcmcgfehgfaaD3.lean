/- D3 of the seat. -/
import Derived.Test.YtmikcmcgfehgfaaD2
namespace Go.Proofs.Ytmikcmcgfehgfaa
open Go Fw
theorem sl_22_D3 : slcB Try.prog 22 = some (34, 3) := by kernel_rfl
theorem fa_34_2_D3 : FA Try.prog 34 2 2 := fun _ _ _ => by kernel_rfl
theorem sc_9_D3 : scalB Try.prog 9 = true := by kernel_rfl
theorem st_9_D3 : strB Try.prog 9 = true := by kernel_rfl
theorem sl_40_D3 : slcB Try.prog 40 = some (9, 1) := by kernel_rfl
theorem sl_44_D3 : slcB Try.prog 44 = some (3, 1) := by kernel_rfl
theorem sc_3_D3 : scalB Try.prog 3 = true := by kernel_rfl
theorem cb_18_D3 : callB Try.prog 18 = true := by kernel_rfl
theorem bs_40_1_D3 : ∀ (x0 : ByteArray), News Try.prog (Instr.buildSlice 40 1 #[(0, .string x0)]) (.cells #[.string x0] 9) fun b => .slice (some ⟨b, 0, none⟩) 1 1 := by intros; intro w; kernel_rfl
theorem tl_40_D3 : SlT Try.prog 40 9 1 16 (.string { data := #[] }) := ⟨by kernel_rfl, by kernel_rfl, by kernel_rfl, by kernel_rfl, by decide⟩
theorem zr_29_D3 : zeroB Try.prog 29 = some (.agg #[.int .i64 0, .slice none 0 0]) := by kernel_rfl
theorem bl_29_0_D3 : ∀ (x0 : Int), ∀ w : World, (Instr.build 29 #[(0, .int .i64 x0)]).run Try.prog w = .ok (.agg #[.int .i64 x0, .slice none 0 0]) w := by intros; kernel_rfl
theorem sz_29_D3 : sizeB Try.prog 29 = some 2 := by kernel_rfl
theorem ag_29_D3 : aggB Try.prog 29 = some 2 := by kernel_rfl
open FlwM

def few (l : List Ans) : Prop := l.length ≤ 100 ∧ ∀ m ∈ l, m.value.size ≤ 5000
instance (l : List Ans) : Decidable (few l) := by unfold few; infer_instance
abbrev refV (t : Int) (v : Value) : Value := .agg #[.int .i64 t, v]
theorem log_take {g : Int → Option ByteArray} {out : List ByteArray} {f : Nat} (h : out ++ logF g f out.length = log g) (hf : f ≠ 0) {v : ByteArray} (hv : g out.length = some v) : (out ++ [v]) ++ logF g (f - 1) (out ++ [v]).length = log g := by
  obtain ⟨k, rfl⟩ : ∃ k, f = k + 1 := ⟨f - 1, by omega⟩
  rw [← h]
  simp only [logF, hv, List.length_append, List.length_singleton, Nat.add_sub_cancel, List.append_assoc, List.singleton_append]
theorem log_stop {g : Int → Option ByteArray} {out : List ByteArray} {f : Nat} (h : out ++ logF g f out.length = log g) (hv : g out.length = none) : out = log g := by
  rw [← h]
  cases f <;> simp [logF, hv]
theorem told_none {t : Int} {L : List Ans} {h : Int} (hh : (told t L h).isSome = false) : told t L h = none := by simpa using hh
theorem told_some {t : Int} {L : List Ans} {h : Int} (hh : (told t L h).isSome = true) : told t L h = some ((told t L h).getD empty) := by
  cases hv : told t L h with
  | none => rw [hv] at hh; cases hh
  | some v => rfl
theorem log_len {t : Int} {L : List Ans} (W : Wf L) : (log (told t L)).length ≤ 64 := by
  rcases Nat.lt_or_ge (log (told t L)).length 65 with h | h
  · omega
  · exfalso
    obtain ⟨v, hv⟩ : ∃ v, (log (told t L))[64]? = some v := ⟨_, List.getElem?_eq_getElem (by omega)⟩
    have := log_get hv
    rw [told_out W (by omega)] at this
    cases this

set_option maxRecDepth 100000 in
set_option maxHeartbeats 400000 in
theorem c12 (l : List Ans) (v : Value) (w0 : World) (hr : RdSl w0.heap v l.length 3 (l.flatMap encA)) : Cl Try.prog 12 #[v] w0 (RetQ w0 fun r => r = .bool (decide (few l))) := by
  have M : Sep (fun _ => False) w0 w0 _ := Sep.nil _ w0
  have hro := ro_of hr
  obtain ⟨A, cc, rfl, hcc⟩ := hr.form
  refine enter (vs := [_]) Try.func12 rfl rfl rfl ?_
  intro a F
  refine wp_seq ?_
  refine wp_region_l [.ind] ([0]) rfl ?_
  refine s_I F rfl rfl rfl rfl rfl rfl ?_; clear F a; intro a F
  refine t_endM M ?_; (clear M; try clear w); intro w M
  refine wp_seq ?_
  refine wp_seq ?_
  refine wp_region_l [.ind, .ind, .ind] ([0, 1, 2]) rfl ?_
  refine s_I F rfl rfl rfl rfl rfl rfl ?_; clear F a; intro a F
  refine s_len F rfl rfl rfl rfl sl_22_D3 rfl ?_; clear F a; intro a F
  refine s_bin F rfl rfl rfl rfl rfl rfl rfl ?_; clear F a; intro a F
  refine t_endM M ?_; (clear M; try clear w); intro w M
  refine c_if F rfl ?_ ?_
  ·
    clear F; intro hc0 F
    try rw [hc0] at F
    replace hc0 := of_decide_eq_true hc0
    refine wp_seq ?_
    replace F := F.keep [0, 2] rfl
    refine wp_region_l [.ind] ([0]) rfl ?_
    refine s_I F rfl rfl rfl rfl rfl rfl ?_; clear F a; intro a F
    refine t_endM M ?_; (clear M; try clear w); intro w M
    refine wp_ret ?_
    refine ret1 F rfl rfl ?_
    -- end 0
    refine ⟨_, rfl, ?_, M.chg⟩
    rw [decide_eq_false (fun h => by have := h.1; omega)]
  ·
    clear F; intro hc1 F
    try rw [hc1] at F
    replace hc1 := of_decide_eq_false hc1
    refine wp_skip ?_
    refine wp_seq ?_
    refine wp_seq ?_
    replace F := F.keep [0, 2] rfl
    refine wp_region_l [.ind] ([0]) rfl ?_
    refine s_I F rfl rfl rfl rfl rfl rfl ?_; clear F a; intro a F
    refine t_endM M ?_; (clear M; try clear w); intro w M
    refine wp_block ?_
    refine loopX (X := Int) F [0] rfl (fun (i : Int) => (0 ≤ i) ∧ (i ≤ l.length) ∧ (∀ m ∈ l.take i.toNat, m.value.size ≤ 5000)) (fun (i : Int) => [(3, .int .i64 i)]) (fun (i : Int) => []) (fun (i : Int) => l.length - i.toNat) (0) M ⟨(by omega), (by omega), (by simp)⟩ (F.keep [3, 0] rfl) ?_
    clear F M; clear a; (try clear w)
    rintro i a w ⟨i0, i1, ha⟩ F M; try dsimp only at F M
    try simp only [List.cons_append, List.nil_append] at F M
    try dsimp only at i0 i1 ha
    refine wp_seq ?_
    refine wp_seq ?_
    refine wp_region_l [.ind, .ind, .ind, .ind] ([0, 1, 2, 3]) rfl ?_
    refine s_I F rfl rfl rfl rfl rfl rfl ?_; clear F a; intro a F
    refine s_I F rfl rfl rfl rfl rfl rfl ?_; clear F a; intro a F
    refine s_len F rfl rfl rfl rfl sl_22_D3 rfl ?_; clear F a; intro a F
    refine s_bin F rfl rfl rfl rfl rfl rfl rfl ?_; clear F a; intro a F
    refine t_endM M ?_; (clear M; try clear w); intro w M
    refine c_if F rfl ?_ ?_
    ·
      clear F; intro hc2 F
      try rw [hc2] at F
      replace hc2 := of_decide_eq_true hc2
      refine wp_skip ?_
      refine wp_seq ?_
      refine wp_block ?_
      refine wp_seq ?_
      replace F := F.keep [0, 3] rfl
      refine wp_region_l [.ind, .ind, .ind, .ind, .rd, .ind, .ind] ([0, 1, 2, 3, 4, 5, 6]) rfl ?_
      refine s_I F rfl rfl rfl rfl rfl rfl ?_; clear F a; intro a F
      refine s_I F rfl rfl rfl rfl rfl rfl ?_; clear F a; intro a F
      refine s_ix F rfl rfl rfl rfl sl_22_D3 rfl rfl (by exact M.chg.ro hro) (by omega) (by omega) ?_; clear F a; intro e15 he15 a F
      refine s_fa F rfl rfl rfl rfl fa_34_2_D3 rfl ?_; clear F a; intro a F
      refine s_ld F rfl rfl rfl rfl sc_9_D3 rfl (by exact rdX (M.chg.ro hro) (by intro e; rfl) he15 rfl) ?_; clear F a; intro a F
      refine s_lenS F rfl rfl rfl rfl st_9_D3 rfl ?_; clear F a; intro a F
      refine s_bin F rfl rfl rfl rfl rfl rfl rfl ?_; clear F a; intro a F
      refine t_endM M ?_; (clear M; try clear w); intro w M
      refine c_if F rfl ?_ ?_
      ·
        clear F; intro hc3 F
        try rw [hc3] at F
        replace hc3 := of_decide_eq_true hc3
        refine wp_seq ?_
        replace F := F.keep [0, 3] rfl
        refine wp_region_l [.ind] ([0]) rfl ?_
        refine s_I F rfl rfl rfl rfl rfl rfl ?_; clear F a; intro a F
        refine t_endM M ?_; (clear M; try clear w); intro w M
        refine wp_ret ?_
        refine ret1 F rfl rfl ?_
        -- end 1
        refine ⟨_, rfl, ?_, M.chg⟩
        rw [decide_eq_false (fun h => by have := h.2 e15 (List.mem_of_getElem? he15); omega)]
      ·
        clear F; intro hc4 F
        try rw [hc4] at F
        replace hc4 := of_decide_eq_false hc4
        refine wp_skip ?_
        replace F := F.keep [0, 3] rfl
        refine wp_region_l [.ind, .ind, .ind] ([0, 1, 2]) rfl ?_
        refine s_I F rfl rfl rfl rfl rfl rfl ?_; clear F a; intro a F
        refine s_add F rfl rfl rfl rfl rfl rfl (by unfold In64; omega) ?_; clear F a; intro a F
        refine s_I F rfl rfl rfl rfl rfl rfl ?_; clear F a; intro a F
        refine t_endM M ?_; (clear M; try clear w); intro w M
        refine again (i + 1) (by show _ < _; (try dsimp only); omega) ⟨(by omega), (by assumption), all_take ha i0 he15 (by omega)⟩ (F.keep [3, 0] rfl) ?_
        try dsimp only [List.cons_append, List.nil_append]
        refine M.pick ?_; repeat (exact PkG.nil)
    ·
      clear F; intro hc5 F
      try rw [hc5] at F
      replace hc5 := of_decide_eq_false hc5
      refine wp_exit ?_
      refine wp_seq ?_
      replace F := F.keep [0, 3] rfl
      refine wp_region_l [.ind] ([0]) rfl ?_
      refine s_I F rfl rfl rfl rfl rfl rfl ?_; clear F a; intro a F
      refine t_endM M ?_; (clear M; try clear w); intro w M
      refine wp_ret ?_
      refine ret1 F rfl rfl ?_
      -- end 2
      refine ⟨_, rfl, ?_, M.chg⟩
      rw [take_all (by omega)] at ha
      rw [decide_eq_true ⟨by omega, ha⟩]
set_option maxRecDepth 100000 in
set_option maxHeartbeats 400000 in
theorem c20 (l l' : List ByteArray) (v v' : Value) (w0 : World) (hr : RdSl w0.heap v l.length 1 (l.flatMap encT)) (hr' : RdSl w0.heap v' l'.length 1 (l'.flatMap encT)) (hl : l.length ≤ maxLen) : Cl Try.prog 20 #[v, v'] w0 (RetQ w0 fun r => r = .bool (decide (l = l'))) := by
  have M : Sep (fun _ => False) w0 w0 _ := Sep.nil _ w0
  have hro := ro_of hr
  have hro' := ro_of hr'
  obtain ⟨A, cc, rfl, hcc⟩ := hr.form
  obtain ⟨A', cc', rfl, hcc'⟩ := hr'.form
  unfold maxLen at hl
  refine enter (vs := [_, _]) Try.func20 rfl rfl rfl ?_
  intro a F
  refine wp_seq ?_
  refine wp_region_l [.ind] ([0]) rfl ?_
  refine s_I F rfl rfl rfl rfl rfl rfl ?_; clear F a; intro a F
  refine t_endM M ?_; (clear M; try clear w); intro w M
  refine wp_seq ?_
  refine wp_seq ?_
  refine wp_region_l [.ind, .ind, .ind, .ind, .ind] ([0, 1, 2, 3, 4]) rfl ?_
  refine s_I F rfl rfl rfl rfl rfl rfl ?_; clear F a; intro a F
  refine s_len F rfl rfl rfl rfl sl_40_D3 rfl ?_; clear F a; intro a F
  refine s_I F rfl rfl rfl rfl rfl rfl ?_; clear F a; intro a F
  refine s_len F rfl rfl rfl rfl sl_40_D3 rfl ?_; clear F a; intro a F
  refine s_bin F rfl rfl rfl rfl rfl rfl rfl ?_; clear F a; intro a F
  refine t_endM M ?_; (clear M; try clear w); intro w M
  refine c_if F rfl ?_ ?_
  ·
    clear F; intro hc0 F
    try rw [hc0] at F
    replace hc0 := nd1 hc0
    refine wp_seq ?_
    replace F := F.keep [0, 1, 4] rfl
    refine wp_region_l [.ind] ([0]) rfl ?_
    refine s_I F rfl rfl rfl rfl rfl rfl ?_; clear F a; intro a F
    refine t_endM M ?_; (clear M; try clear w); intro w M
    refine wp_ret ?_
    refine ret1 F rfl rfl ?_
    -- end 0
    refine ⟨_, rfl, ?_, M.chg⟩
    rw [decide_eq_false (fun h => by subst h; omega)]
  ·
    clear F; intro hc1 F
    try rw [hc1] at F
    replace hc1 := nd0 hc1
    refine wp_skip ?_
    refine wp_seq ?_
    refine wp_seq ?_
    replace F := F.keep [0, 1, 4] rfl
    refine wp_region_l [.ind] ([0]) rfl ?_
    refine s_I F rfl rfl rfl rfl rfl rfl ?_; clear F a; intro a F
    refine t_endM M ?_; (clear M; try clear w); intro w M
    refine wp_block ?_
    refine loopX (X := Int) F [0, 1] rfl (fun (i : Int) => (0 ≤ i) ∧ (i ≤ l.length) ∧ (l.take i.toNat = l'.take i.toNat)) (fun (i : Int) => [(5, .int .i64 i)]) (fun (i : Int) => []) (fun (i : Int) => l.length - i.toNat) (0) M ⟨(by omega), (by omega), rfl⟩ (F.keep [5, 0, 1] rfl) ?_
    clear F M; clear a; (try clear w)
    rintro i a w ⟨i0, i1, ha⟩ F M; try dsimp only at F M
    try simp only [List.cons_append, List.nil_append] at F M
    try dsimp only at i0 i1 ha
    refine wp_seq ?_
    refine wp_seq ?_
    refine wp_region_l [.ind, .ind, .ind, .ind] ([0, 1, 2, 3]) rfl ?_
    refine s_I F rfl rfl rfl rfl rfl rfl ?_; clear F a; intro a F
    refine s_I F rfl rfl rfl rfl rfl rfl ?_; clear F a; intro a F
    refine s_len F rfl rfl rfl rfl sl_40_D3 rfl ?_; clear F a; intro a F
    refine s_bin F rfl rfl rfl rfl rfl rfl rfl ?_; clear F a; intro a F
    refine t_endM M ?_; (clear M; try clear w); intro w M
    refine c_if F rfl ?_ ?_
    ·
      clear F; intro hc2 F
      try rw [hc2] at F
      replace hc2 := of_decide_eq_true hc2
      refine wp_skip ?_
      refine wp_seq ?_
      refine wp_block ?_
      refine wp_seq ?_
      replace F := F.keep [0, 1, 5] rfl
      refine wp_region_t [.ind, .ind, .ind, .rd, .ind, .ind, .ind, .rd, .ind] [] (otOf [0, 1, 2, 3, 4, 5, 6, 7, 8]) mixed (by kernel_rfl) ?_
      refine s_I F rfl rfl rfl rfl rfl rfl ?_; clear F a; intro a F
      refine s_I F rfl rfl rfl rfl rfl rfl ?_; clear F a; intro a F
      refine s_ix F rfl rfl rfl rfl sl_40_D3 rfl rfl (by exact M.chg.ro hro) (by omega) (by omega) ?_; clear F a; intro e19 he19 a F
      refine s_ld F rfl rfl rfl rfl sc_9_D3 rfl (by exact rdX0 (M.chg.ro hro) (by intro e; rfl) he19 rfl) ?_; clear F a; intro a F
      refine s_I F rfl rfl rfl rfl rfl rfl ?_; clear F a; intro a F
      refine s_I F rfl rfl rfl rfl rfl rfl ?_; clear F a; intro a F
      refine s_ix F rfl rfl rfl rfl sl_40_D3 rfl rfl (by exact M.chg.ro hro') (by omega) (by omega) ?_; clear F a; intro e23 he23 a F
      try (obtain rfl := Option.some.inj (he19.symm.trans he23))
      refine s_ld F rfl rfl rfl rfl sc_9_D3 rfl (by exact rdX0 (M.chg.ro hro') (by intro e; rfl) he23 rfl) ?_; clear F a; intro a F
      refine s_bin F rfl rfl rfl rfl rfl rfl rfl ?_; clear F a; intro a F
      refine t_endM M ?_; (clear M; try clear w); intro w M
      refine c_if F rfl ?_ ?_
      ·
        clear F; intro hc3 F
        try rw [hc3] at F
        replace hc3 := nd1 hc3
        refine wp_seq ?_
        replace F := F.keep [0, 1, 5] rfl
        refine wp_region_l [.ind] ([0]) rfl ?_
        refine s_I F rfl rfl rfl rfl rfl rfl ?_; clear F a; intro a F
        refine t_endM M ?_; (clear M; try clear w); intro w M
        refine wp_ret ?_
        refine ret1 F rfl rfl ?_
        -- end 1
        refine ⟨_, rfl, ?_, M.chg⟩
        rw [decide_eq_false (fun h => by subst h; rw [he19] at he23; exact hc3 (Option.some.inj he23))]
      ·
        clear F; intro hc4 F
        try rw [hc4] at F
        replace hc4 := nd0 hc4
        refine wp_skip ?_
        replace F := F.keep [0, 1, 5] rfl
        refine wp_region_l [.ind, .ind, .ind] ([0, 1, 2]) rfl ?_
        refine s_I F rfl rfl rfl rfl rfl rfl ?_; clear F a; intro a F
        refine s_add F rfl rfl rfl rfl rfl rfl (by unfold In64; omega) ?_; clear F a; intro a F
        refine s_I F rfl rfl rfl rfl rfl rfl ?_; clear F a; intro a F
        refine t_endM M ?_; (clear M; try clear w); intro w M
        refine again (i + 1) (by show _ < _; (try dsimp only); omega) ⟨(by omega), (by assumption), (by rw [take_succ i0 he19, take_succ i0 he23, ha, hc4])⟩ (F.keep [5, 0, 1] rfl) ?_
        try dsimp only [List.cons_append, List.nil_append]
        refine M.pick ?_; repeat (exact PkG.nil)
    ·
      clear F; intro hc5 F
      try rw [hc5] at F
      replace hc5 := of_decide_eq_false hc5
      refine wp_exit ?_
      refine wp_seq ?_
      replace F := F.keep [0, 1, 5] rfl
      refine wp_region_l [.ind] ([0]) rfl ?_
      refine s_I F rfl rfl rfl rfl rfl rfl ?_; clear F a; intro a F
      refine t_endM M ?_; (clear M; try clear w); intro w M
      refine wp_ret ?_
      refine ret1 F rfl rfl ?_
      -- end 2
      refine ⟨_, rfl, ?_, M.chg⟩
      rw [take_all (by omega), take_all (by omega)] at ha
      rw [decide_eq_true ha]
set_option maxRecDepth 100000 in
set_option maxHeartbeats 400000 in
theorem c23 (l l' : List Int) (v v' : Value) (w0 : World) (hr : RdSl w0.heap v l.length 1 (l.flatMap encI)) (hr' : RdSl w0.heap v' l'.length 1 (l'.flatMap encI)) (hl : l.length ≤ maxLen) : Cl Try.prog 23 #[v, v'] w0 (RetQ w0 fun r => r = .bool (decide (l = l'))) := by
  have M : Sep (fun _ => False) w0 w0 _ := Sep.nil _ w0
  have hro := ro_of hr
  have hro' := ro_of hr'
  obtain ⟨A, cc, rfl, hcc⟩ := hr.form
  obtain ⟨A', cc', rfl, hcc'⟩ := hr'.form
  unfold maxLen at hl
  refine enter (vs := [_, _]) Try.func23 rfl rfl rfl ?_
  intro a F
  refine wp_seq ?_
  refine wp_region_l [.ind] ([0]) rfl ?_
  refine s_I F rfl rfl rfl rfl rfl rfl ?_; clear F a; intro a F
  refine t_endM M ?_; (clear M; try clear w); intro w M
  refine wp_seq ?_
  refine wp_seq ?_
  refine wp_region_l [.ind, .ind, .ind, .ind, .ind] ([0, 1, 2, 3, 4]) rfl ?_
  refine s_I F rfl rfl rfl rfl rfl rfl ?_; clear F a; intro a F
  refine s_len F rfl rfl rfl rfl sl_44_D3 rfl ?_; clear F a; intro a F
  refine s_I F rfl rfl rfl rfl rfl rfl ?_; clear F a; intro a F
  refine s_len F rfl rfl rfl rfl sl_44_D3 rfl ?_; clear F a; intro a F
  refine s_bin F rfl rfl rfl rfl rfl rfl rfl ?_; clear F a; intro a F
  refine t_endM M ?_; (clear M; try clear w); intro w M
  refine c_if F rfl ?_ ?_
  ·
    clear F; intro hc0 F
    try rw [hc0] at F
    replace hc0 := nd1 hc0
    refine wp_seq ?_
    replace F := F.keep [0, 1, 4] rfl
    refine wp_region_l [.ind] ([0]) rfl ?_
    refine s_I F rfl rfl rfl rfl rfl rfl ?_; clear F a; intro a F
    refine t_endM M ?_; (clear M; try clear w); intro w M
    refine wp_ret ?_
    refine ret1 F rfl rfl ?_
    -- end 0
    refine ⟨_, rfl, ?_, M.chg⟩
    rw [decide_eq_false (fun h => by subst h; omega)]
  ·
    clear F; intro hc1 F
    try rw [hc1] at F
    replace hc1 := nd0 hc1
    refine wp_skip ?_
    refine wp_seq ?_
    refine wp_seq ?_
    replace F := F.keep [0, 1, 4] rfl
    refine wp_region_l [.ind] ([0]) rfl ?_
    refine s_I F rfl rfl rfl rfl rfl rfl ?_; clear F a; intro a F
    refine t_endM M ?_; (clear M; try clear w); intro w M
    refine wp_block ?_
    refine loopX (X := Int) F [0, 1] rfl (fun (i : Int) => (0 ≤ i) ∧ (i ≤ l.length) ∧ (l.take i.toNat = l'.take i.toNat)) (fun (i : Int) => [(5, .int .i64 i)]) (fun (i : Int) => []) (fun (i : Int) => l.length - i.toNat) (0) M ⟨(by omega), (by omega), rfl⟩ (F.keep [5, 0, 1] rfl) ?_
    clear F M; clear a; (try clear w)
    rintro i a w ⟨i0, i1, ha⟩ F M; try dsimp only at F M
    try simp only [List.cons_append, List.nil_append] at F M
    try dsimp only at i0 i1 ha
    refine wp_seq ?_
    refine wp_seq ?_
    refine wp_region_l [.ind, .ind, .ind, .ind] ([0, 1, 2, 3]) rfl ?_
    refine s_I F rfl rfl rfl rfl rfl rfl ?_; clear F a; intro a F
    refine s_I F rfl rfl rfl rfl rfl rfl ?_; clear F a; intro a F
    refine s_len F rfl rfl rfl rfl sl_44_D3 rfl ?_; clear F a; intro a F
    refine s_bin F rfl rfl rfl rfl rfl rfl rfl ?_; clear F a; intro a F
    refine t_endM M ?_; (clear M; try clear w); intro w M
    refine c_if F rfl ?_ ?_
    ·
      clear F; intro hc2 F
      try rw [hc2] at F
      replace hc2 := of_decide_eq_true hc2
      refine wp_skip ?_
      refine wp_seq ?_
      refine wp_block ?_
      refine wp_seq ?_
      replace F := F.keep [0, 1, 5] rfl
      refine wp_region_t [.ind, .ind, .ind, .rd, .ind, .ind, .ind, .rd, .ind] [] (otOf [0, 1, 2, 3, 4, 5, 6, 7, 8]) mixed (by kernel_rfl) ?_
      refine s_I F rfl rfl rfl rfl rfl rfl ?_; clear F a; intro a F
      refine s_I F rfl rfl rfl rfl rfl rfl ?_; clear F a; intro a F
      refine s_ix F rfl rfl rfl rfl sl_44_D3 rfl rfl (by exact M.chg.ro hro) (by omega) (by omega) ?_; clear F a; intro e19 he19 a F
      refine s_ld F rfl rfl rfl rfl sc_3_D3 rfl (by exact rdX0 (M.chg.ro hro) (by intro e; rfl) he19 rfl) ?_; clear F a; intro a F
      refine s_I F rfl rfl rfl rfl rfl rfl ?_; clear F a; intro a F
      refine s_I F rfl rfl rfl rfl rfl rfl ?_; clear F a; intro a F
      refine s_ix F rfl rfl rfl rfl sl_44_D3 rfl rfl (by exact M.chg.ro hro') (by omega) (by omega) ?_; clear F a; intro e23 he23 a F
      try (obtain rfl := Option.some.inj (he19.symm.trans he23))
      refine s_ld F rfl rfl rfl rfl sc_3_D3 rfl (by exact rdX0 (M.chg.ro hro') (by intro e; rfl) he23 rfl) ?_; clear F a; intro a F
      refine s_bin F rfl rfl rfl rfl rfl rfl rfl ?_; clear F a; intro a F
      refine t_endM M ?_; (clear M; try clear w); intro w M
      refine c_if F rfl ?_ ?_
      ·
        clear F; intro hc3 F
        try rw [hc3] at F
        replace hc3 := nd1 hc3
        refine wp_seq ?_
        replace F := F.keep [0, 1, 5] rfl
        refine wp_region_l [.ind] ([0]) rfl ?_
        refine s_I F rfl rfl rfl rfl rfl rfl ?_; clear F a; intro a F
        refine t_endM M ?_; (clear M; try clear w); intro w M
        refine wp_ret ?_
        refine ret1 F rfl rfl ?_
        -- end 1
        refine ⟨_, rfl, ?_, M.chg⟩
        rw [decide_eq_false (fun h => by subst h; rw [he19] at he23; exact hc3 (Option.some.inj he23))]
      ·
        clear F; intro hc4 F
        try rw [hc4] at F
        replace hc4 := nd0 hc4
        refine wp_skip ?_
        replace F := F.keep [0, 1, 5] rfl
        refine wp_region_l [.ind, .ind, .ind] ([0, 1, 2]) rfl ?_
        refine s_I F rfl rfl rfl rfl rfl rfl ?_; clear F a; intro a F
        refine s_add F rfl rfl rfl rfl rfl rfl (by unfold In64; omega) ?_; clear F a; intro a F
        refine s_I F rfl rfl rfl rfl rfl rfl ?_; clear F a; intro a F
        refine t_endM M ?_; (clear M; try clear w); intro w M
        refine again (i + 1) (by show _ < _; (try dsimp only); omega) ⟨(by omega), (by assumption), (by rw [take_succ i0 he19, take_succ i0 he23, ha, hc4])⟩ (F.keep [5, 0, 1] rfl) ?_
        try dsimp only [List.cons_append, List.nil_append]
        refine M.pick ?_; repeat (exact PkG.nil)
    ·
      clear F; intro hc5 F
      try rw [hc5] at F
      replace hc5 := of_decide_eq_false hc5
      refine wp_exit ?_
      refine wp_seq ?_
      replace F := F.keep [0, 1, 5] rfl
      refine wp_region_l [.ind] ([0]) rfl ?_
      refine s_I F rfl rfl rfl rfl rfl rfl ?_; clear F a; intro a F
      refine t_endM M ?_; (clear M; try clear w); intro w M
      refine wp_ret ?_
      refine ret1 F rfl rfl ?_
      -- end 2
      refine ⟨_, rfl, ?_, M.chg⟩
      rw [take_all (by omega), take_all (by omega)] at ha
      rw [decide_eq_true ha]
set_option maxRecDepth 100000 in
set_option maxHeartbeats 400000 in
theorem c21 (b : Nat) (mp : Nat → Option Nat) (t : Int) (L : List Ans) (w0 : World) (ho : Own w0.heap [flwR b mp t L]) : Cl Try.prog 21 #[.pointer (some ⟨b, 0, none⟩)] w0 (RetS [flwR b mp t L] w0 (fun v x => v = x) fun x => [flwR b mp t L, slR x (log (told t L)).length 9 1 ((log (told t L)).flatMap encT)]) := by
  have M : Sep (fun b_ => b_ ∈ foots [flwR b mp t L]) w0 w0 _ := Sep.start ho
  obtain ⟨W, _⟩ := flw_cell M.h0
  refine enter (vs := [_]) Try.func21 rfl rfl rfl ?_
  intro a F
  refine wp_seq ?_
  refine wp_region_l [.ind] ([0]) rfl ?_
  refine s_I F rfl rfl rfl rfl rfl rfl ?_; clear F a; intro a F
  refine t_endM M ?_; (clear M; try clear w); intro w M
  refine wp_seq ?_
  refine wp_region_l [.ind] ([0]) rfl ?_
  refine s_I F rfl rfl rfl rfl rfl rfl ?_; clear F a; intro a F
  refine t_endM M ?_; (clear M; try clear w); intro w M
  refine wp_block ?_
  replace M := M.nilT encT 9 1
  have M1 : Sep _ _ _ (slR _ _ 9 _ _ :: _) := M; replace M := M1; clear M1
  refine loopX (X := List ByteArray × Option Addr × Nat × Nat) F [0] rfl (fun ((out, A, c, f) : List ByteArray × Option Addr × Nat × Nat) => (out.length + f = 65) ∧ (out ++ logF (told t L) f out.length = log (told t L))) (fun ((out, A, c, f) : List ByteArray × Option Addr × Nat × Nat) => [(3, .slice A out.length c)]) (fun ((out, A, c, f) : List ByteArray × Option Addr × Nat × Nat) => [slR (.slice A (out).length c) (out).length 9 1 ((out).flatMap encT)]) (fun ((out, A, c, f) : List ByteArray × Option Addr × Nat × Nat) => f) (([]), (none), (0), (65)) M ⟨rfl, rfl⟩ (F.keep [3, 0] rfl) ?_
  clear F M; clear a; (try clear w)
  rintro ⟨out, A, c, f⟩ a w ⟨hf, ho_⟩ F M; try dsimp only at F M
  try simp only [List.cons_append, List.nil_append] at F M
  try dsimp only at hf ho_
  have hlt : out.length ≤ 64 := by
    have h1 := log_len (t := t) W.1
    rw [← ho_, List.length_append] at h1
    omega
  refine wp_block ?_
  refine wp_seq ?_
  refine wp_region_l [.ind, .ind, .ind, .wr, .ind, .ind, .ind, .ind, .ind] ([0, 1, 2, 3, 4, 5, 6, 7, 8]) rfl ?_
  refine s_I F rfl rfl rfl rfl rfl rfl ?_; clear F a; intro a F
  refine s_I F rfl rfl rfl rfl rfl rfl ?_; clear F a; intro a F
  refine s_len F rfl rfl rfl rfl sl_40_D3 rfl ?_; clear F a; intro a F
  refine s_cq F M rfl rfl rfl rfl rfl (rfl : _ = some [_, _]) cb_18_D3 (fun nd_ => c18 b mp t L _ _ (by exact M.h1)) ?_; (clear F a M; try clear w); rintro v w rfl M a F
  refine s_I F rfl rfl rfl rfl rfl rfl ?_; clear F a; intro a F
  refine s_I F rfl rfl rfl rfl rfl rfl ?_; clear F a; intro a F
  refine s_I F rfl rfl rfl rfl rfl rfl ?_; clear F a; intro a F
  refine s_I F rfl rfl rfl rfl rfl rfl ?_; clear F a; intro a F
  refine s_I F rfl rfl rfl rfl rfl rfl ?_; clear F a; intro a F
  refine t_endM M ?_; (clear M; try clear w); intro w M
  refine wp_seq ?_
  refine wp_seq ?_
  replace F := F.keep [0, 3, 4, 5] rfl
  refine wp_region_l [.ind, .ind] ([0, 1]) rfl ?_
  refine s_I F rfl rfl rfl rfl rfl rfl ?_; clear F a; intro a F
  refine s_I F rfl rfl rfl rfl rfl rfl ?_; clear F a; intro a F
  refine t_endM M ?_; (clear M; try clear w); intro w M
  refine c_if F rfl ?_ ?_
  ·
    clear F; intro hc0 F
    try rw [hc0] at F
    replace hc0 := nt hc0
    refine wp_seq ?_
    replace F := F.keep [0, 3, 4, 5] rfl
    refine wp_region_l [.ind, .ind] ([0, 1]) rfl ?_
    refine s_I F rfl rfl rfl rfl rfl rfl ?_; clear F a; intro a F
    refine s_I F rfl rfl rfl rfl rfl rfl ?_; clear F a; intro a F
    refine t_endM M ?_; (clear M; try clear w); intro w M
    refine wp_ret ?_
    refine ret1 F rfl rfl ?_
    -- end 0
    refine ⟨_, _, rfl, rfl, ?_⟩
    rw [← log_stop ho_ (told_none (by assumption))]
    have M1 : Sep _ _ _ (slR _ _ _ _ _ :: _) := M; replace M := M1; clear M1
    have M1 : Sep _ _ _ (flwR _ _ _ _ :: _) := M.f1; replace M := M1; clear M1
    exact Sep.left (r := []) M
  ·
    clear F; intro hc1 F
    try rw [hc1] at F
    replace hc1 := nf hc1
    refine wp_skip ?_
    replace F := F.keep [0, 3, 4, 5] rfl
    refine wp_region_l [.ind, .ind, .wr, .wr, .ind] ([0, 1, 2, 3, 4]) rfl ?_
    refine s_I F rfl rfl rfl rfl rfl rfl ?_; clear F a; intro a F
    refine s_I F rfl rfl rfl rfl rfl rfl ?_; clear F a; intro a F
    refine s_bs F M rfl rfl rfl rfl (parts1 F rfl) (bs_40_1_D3 _) ?_; (clear F a M; try clear w); intro b18 w M a F
    refine s_apE (((told t L out.length).getD empty)) F M.f1 rfl rfl rfl rfl tl_40_D3 rfl rfl (by exact rd_blk M.h0 rfl) rfl (by omega) (fun _ _ _ _ => pend_nil) ?_; (clear F a M; try clear w); intro A19 c19 w M a F
    refine s_I F rfl rfl rfl rfl rfl rfl ?_; clear F a; intro a F
    refine t_endM M ?_; (clear M; try clear w); intro w M
    refine again ((out ++ [(told t L out.length).getD empty]), (_), (_), (f - 1)) (by show _ < _; (try dsimp only); omega) ⟨(by simp; omega), (log_take ho_ (by omega) (told_some (by assumption)))⟩ (F.keep [3, 0] rfl) ?_
    try dsimp only [List.cons_append, List.nil_append]
    refine M.pick ?_; repeat (first | exact PkG.nil | refine PkG.cons 0 rfl rfl ?_ | refine PkG.cons 2 rfl rfl ?_)
set_option maxRecDepth 100000 in
set_option maxHeartbeats 400000 in
theorem c21n (w0 : World) : Cl Try.prog 21 #[.pointer none] w0 (RetQ w0 fun v => v = .slice none 0 0) := by
  have M : Sep (fun _ => False) w0 w0 _ := Sep.nil _ w0
  refine enter (vs := [_]) Try.func21 rfl rfl rfl ?_
  intro a F
  refine wp_seq ?_
  refine wp_region_l [.ind] ([0]) rfl ?_
  refine s_I F rfl rfl rfl rfl rfl rfl ?_; clear F a; intro a F
  refine t_endM M ?_; (clear M; try clear w); intro w M
  refine wp_seq ?_
  refine wp_region_l [.ind] ([0]) rfl ?_
  refine s_I F rfl rfl rfl rfl rfl rfl ?_; clear F a; intro a F
  refine t_endM M ?_; (clear M; try clear w); intro w M
  refine wp_block ?_
  refine loopX (X := Unit) F [0] rfl (fun (_ : Unit) => True) (fun (_ : Unit) => [(3, .slice none 0 0)]) (fun (_ : Unit) => []) (fun (_ : Unit) => 0) () M trivial (F.keep [3, 0] rfl) ?_
  clear F M; clear a; (try clear w)
  rintro _ a w _ F M; try dsimp only at F M
  try simp only [List.cons_append, List.nil_append] at F M
  refine wp_block ?_
  refine wp_seq ?_
  refine wp_region_l [.ind, .ind, .ind, .wr, .ind, .ind, .ind, .ind, .ind] ([0, 1, 2, 3, 4, 5, 6, 7, 8]) rfl ?_
  refine s_I F rfl rfl rfl rfl rfl rfl ?_; clear F a; intro a F
  refine s_I F rfl rfl rfl rfl rfl rfl ?_; clear F a; intro a F
  refine s_len F rfl rfl rfl rfl sl_40_D3 rfl ?_; clear F a; intro a F
  refine s_cq F M rfl rfl rfl rfl rfl (rfl : _ = some [_, _]) cb_18_D3 (fun nd_ => c18n _ _) ?_; (clear F a M; try clear w); rintro v w rfl M a F
  refine s_I F rfl rfl rfl rfl rfl rfl ?_; clear F a; intro a F
  refine s_I F rfl rfl rfl rfl rfl rfl ?_; clear F a; intro a F
  refine s_I F rfl rfl rfl rfl rfl rfl ?_; clear F a; intro a F
  refine s_I F rfl rfl rfl rfl rfl rfl ?_; clear F a; intro a F
  refine s_I F rfl rfl rfl rfl rfl rfl ?_; clear F a; intro a F
  refine t_endM M ?_; (clear M; try clear w); intro w M
  refine wp_seq ?_
  refine wp_seq ?_
  replace F := F.keep [0, 3, 4, 5] rfl
  refine wp_region_l [.ind, .ind] ([0, 1]) rfl ?_
  refine s_I F rfl rfl rfl rfl rfl rfl ?_; clear F a; intro a F
  replace F : Fr _ _ ((13, Value.bool false) :: _) := F
  refine s_I F rfl rfl rfl rfl rfl rfl ?_; clear F a; intro a F
  refine t_endM M ?_; (clear M; try clear w); intro w M
  refine c_t F rfl ?_
  refine wp_seq ?_
  replace F := F.keep [0, 3, 4, 5] rfl
  refine wp_region_l [.ind, .ind] ([0, 1]) rfl ?_
  refine s_I F rfl rfl rfl rfl rfl rfl ?_; clear F a; intro a F
  refine s_I F rfl rfl rfl rfl rfl rfl ?_; clear F a; intro a F
  refine t_endM M ?_; (clear M; try clear w); intro w M
  refine wp_ret ?_
  refine ret1 F rfl rfl ?_
  -- end 0
  exact ⟨_, rfl, rfl, M.chg⟩
set_option maxRecDepth 100000 in
set_option maxHeartbeats 400000 in
theorem c15 (t : Int) (w0 : World) : Cl Try.prog 15 #[.int .i64 t] w0 (RetQ w0 fun v => v = refV (new t) (.slice none 0 0)) := by
  have M : Sep (fun _ => False) w0 w0 _ := Sep.nil _ w0
  refine enter (vs := [_]) Try.func15 rfl rfl rfl ?_
  intro a F
  refine wp_seq ?_
  refine wp_region_l [.wr] ([0]) rfl ?_
  refine s_alc F M rfl rfl rfl rfl zr_29_D3 rfl ?_; (clear F a M; try clear w); intro b2 w M a F
  refine t_endM M ?_; (clear M; try clear w); intro w M
  refine wp_seq ?_
  refine wp_region_l [.ind, .ind, .ind, .ind, .wr] ([0, 1, 2, 3, 4]) rfl ?_
  refine s_I F rfl rfl rfl rfl rfl rfl ?_; clear F a; intro a F
  refine s_max F rfl rfl rfl rfl rfl rfl ?_; clear F a; intro a F
  refine s_min F rfl rfl rfl rfl rfl rfl ?_; clear F a; intro a F
  refine s_bld F rfl rfl rfl rfl (parts1 F rfl) (bl_29_0_D3 _) ?_; clear F a; intro a F
  refine s_stW F M rfl rfl rfl sz_29_D3 rfl rfl rfl rfl rfl ?_; (clear M; try clear w); intro w M
  refine t_endM M ?_; (clear M; try clear w); intro w M
  refine wp_ret ?_
  refine rt1 F rfl (by exact rv_a F rfl ag_29_D3 rfl (cells_whole M.h0)) ?_
  -- end 0
  exact ⟨_, rfl, rfl, M.chg⟩
end Go.Proofs.Ytmikcmcgfehgfaa
