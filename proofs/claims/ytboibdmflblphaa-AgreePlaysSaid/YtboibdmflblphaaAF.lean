/- AF of the seat. -/
import Derived.Test.YtboibdmflblphaaA9
namespace Go.Proofs.Ytboibdmflblphaa
open Go Fw
theorem sl_22_AF : slcB Try.prog 22 = some (32, 5) := by kernel_rfl
theorem fa_32_4_AF : FA Try.prog 32 4 4 := fun _ _ _ => by kernel_rfl
theorem sc_9_AF : scalB Try.prog 9 = true := by kernel_rfl
theorem st_9_AF : strB Try.prog 9 = true := by kernel_rfl
open VoteM AgrM

theorem startO_len (a : ASt) : a.startO.length ≤ 1 := by
  unfold ASt.startO
  split
  · simp
  · exact beginO_len _ _

set_option maxRecDepth 100000 in
set_option maxHeartbeats 400000 in
theorem c38 (l : List Wrd) (v : Value) (w0 : World) (hr : RdSl w0.heap v l.length 5 (l.flatMap encW)) : Cl Try.prog 38 #[v] w0 (RetQ w0 fun r => r = .int .i64 (if few l then 1 else 0)) := by
  have M : Sep (fun _ => False) w0 w0 _ := Sep.nil _ w0
  have hro := (ro_of hr)
  obtain ⟨A, cc, rfl, hcc⟩ := hr.form
  refine enter (vs := [_]) Try.func38 rfl rfl rfl ?_
  intro a F
  refine wp_seq ?_
  refine wp_region_l [.ind] ([0]) rfl ?_
  refine s_I F rfl rfl rfl rfl rfl rfl ?_; clear F a; intro a F
  refine t_endM M ?_; (clear M; try clear w); intro w M
  refine wp_seq ?_
  refine wp_seq ?_
  refine wp_region_l [.ind, .ind, .ind] ([0, 1, 2]) rfl ?_
  refine s_I F rfl rfl rfl rfl rfl rfl ?_; clear F a; intro a F
  refine s_len F rfl rfl rfl rfl sl_22_AF rfl ?_; clear F a; intro a F
  refine s_bin F rfl rfl rfl rfl rfl rfl rfl ?_; clear F a; intro a F
  refine t_endM M ?_; (clear M; try clear w); intro w M
  refine c_if F rfl ?_ ?_
  ·
    clear F; intro hc0 F
    try rw [hc0] at F
    replace hc0 := of_decide_eq_true hc0
    refine wp_seq ?_
    replace F := F.keep [0, 2] rfl
    refine wp_region_l [.ind] ([0]) rfl ?_
    refine s_I F rfl rfl rfl rfl rfl rfl ?_; clear F a; intro a F
    refine t_endM M ?_; (clear M; try clear w); intro w M
    refine wp_ret ?_
    refine ret1 F rfl rfl ?_
    -- end 0
    refine ⟨_, rfl, ?_, M.chg⟩
    rw [if_neg (fun h => by have := h.1; omega)]
  ·
    clear F; intro hc1 F
    try rw [hc1] at F
    replace hc1 := of_decide_eq_false hc1
    refine wp_skip ?_
    refine wp_seq ?_
    refine wp_seq ?_
    replace F := F.keep [0, 2] rfl
    refine wp_region_l [.ind] ([0]) rfl ?_
    refine s_I F rfl rfl rfl rfl rfl rfl ?_; clear F a; intro a F
    refine t_endM M ?_; (clear M; try clear w); intro w M
    refine wp_block ?_
    refine loopX (X := (Int)) F [0] rfl (fun (i : Int) => (0 ≤ i) ∧ (i ≤ l.length) ∧ (∀ m ∈ l.take i.toNat, m.value.size ≤ 5000)) (fun (i : Int) => [(3, .int .i64 i)]) (fun (i : Int) => []) (fun (i : Int) => l.length - i.toNat) (0) M ⟨(by omega), (by omega), (by simp)⟩ (F.keep [3, 0] rfl) ?_
    clear F M; clear a; (try clear w)
    rintro i a w ⟨i0, i1, ha⟩ F M; try dsimp only at F M
    try simp only [List.cons_append, List.nil_append] at F M
    try dsimp only at i0 i1 ha
    refine wp_seq ?_
    refine wp_seq ?_
    refine wp_region_l [.ind, .ind, .ind, .ind] ([0, 1, 2, 3]) rfl ?_
    refine s_I F rfl rfl rfl rfl rfl rfl ?_; clear F a; intro a F
    refine s_I F rfl rfl rfl rfl rfl rfl ?_; clear F a; intro a F
    refine s_len F rfl rfl rfl rfl sl_22_AF rfl ?_; clear F a; intro a F
    refine s_bin F rfl rfl rfl rfl rfl rfl rfl ?_; clear F a; intro a F
    refine t_endM M ?_; (clear M; try clear w); intro w M
    refine c_if F rfl ?_ ?_
    ·
      clear F; intro hc2 F
      try rw [hc2] at F
      replace hc2 := of_decide_eq_true hc2
      refine wp_skip ?_
      refine wp_seq ?_
      refine wp_block ?_
      refine wp_seq ?_
      replace F := F.keep [0, 3] rfl
      refine wp_region_l [.ind, .ind, .ind, .ind, .rd, .ind, .ind] ([0, 1, 2, 3, 4, 5, 6]) rfl ?_
      refine s_I F rfl rfl rfl rfl rfl rfl ?_; clear F a; intro a F
      refine s_I F rfl rfl rfl rfl rfl rfl ?_; clear F a; intro a F
      refine s_ix F rfl rfl rfl rfl sl_22_AF rfl rfl (by exact M.chg.ro hro) (by omega) (by omega) ?_; clear F a; intro e15 he15 a F
      refine s_fa F rfl rfl rfl rfl fa_32_4_AF rfl ?_; clear F a; intro a F
      refine s_ld F rfl rfl rfl rfl sc_9_AF rfl (by exact rdX (M.chg.ro hro) (by intro e; rfl) he15 rfl) ?_; clear F a; intro a F
      refine s_lenS F rfl rfl rfl rfl st_9_AF rfl ?_; clear F a; intro a F
      refine s_bin F rfl rfl rfl rfl rfl rfl rfl ?_; clear F a; intro a F
      refine t_endM M ?_; (clear M; try clear w); intro w M
      refine c_if F rfl ?_ ?_
      ·
        clear F; intro hc3 F
        try rw [hc3] at F
        replace hc3 := of_decide_eq_true hc3
        refine wp_seq ?_
        replace F := F.keep [0, 3] rfl
        refine wp_region_l [.ind] ([0]) rfl ?_
        refine s_I F rfl rfl rfl rfl rfl rfl ?_; clear F a; intro a F
        refine t_endM M ?_; (clear M; try clear w); intro w M
        refine wp_ret ?_
        refine ret1 F rfl rfl ?_
        -- end 1
        refine ⟨_, rfl, ?_, M.chg⟩
        rw [if_neg (fun h => by have := h.2 e15 (List.mem_of_getElem? he15); omega)]
      ·
        clear F; intro hc4 F
        try rw [hc4] at F
        replace hc4 := of_decide_eq_false hc4
        refine wp_skip ?_
        replace F := F.keep [0, 3] rfl
        refine wp_region_l [.ind, .ind, .ind] ([0, 1, 2]) rfl ?_
        refine s_I F rfl rfl rfl rfl rfl rfl ?_; clear F a; intro a F
        refine s_add F rfl rfl rfl rfl rfl rfl (by unfold In64; omega) ?_; clear F a; intro a F
        refine s_I F rfl rfl rfl rfl rfl rfl ?_; clear F a; intro a F
        refine t_endM M ?_; (clear M; try clear w); intro w M
        refine again (i + 1) (by show _ < _; (try dsimp only); omega) ⟨(by omega), (by assumption), all_take ha i0 he15 (by omega)⟩ (F.keep [3, 0] rfl) ?_
        try dsimp only [List.cons_append, List.nil_append]
        refine M.pick ?_; repeat (exact PkG.nil)
    ·
      clear F; intro hc5 F
      try rw [hc5] at F
      replace hc5 := of_decide_eq_false hc5
      refine wp_exit ?_
      refine wp_seq ?_
      replace F := F.keep [0, 3] rfl
      refine wp_region_l [.ind] ([0]) rfl ?_
      refine s_I F rfl rfl rfl rfl rfl rfl ?_; clear F a; intro a F
      refine t_endM M ?_; (clear M; try clear w); intro w M
      refine wp_ret ?_
      refine ret1 F rfl rfl ?_
      -- end 2
      refine ⟨_, rfl, ?_, M.chg⟩
      rw [take_all (by omega)] at ha
      rw [if_pos ⟨by omega, ha⟩]

theorem c38y {l : List Wrd} {v : Value} (w0 : World) (h : few l) (hr : RdSl w0.heap v l.length 5 (l.flatMap encW)) : Cl Try.prog 38 #[v] w0 (RetQ w0 fun r => r = .int .i64 1) := (c38 l v w0 hr).monoQ fun v hv => by rw [hv, if_pos h]
theorem c38n {l : List Wrd} {v : Value} (w0 : World) (h : ¬ few l) (hr : RdSl w0.heap v l.length 5 (l.flatMap encW)) : Cl Try.prog 38 #[v] w0 (RetQ w0 fun r => r = .int .i64 0) := (c38 l v w0 hr).monoQ fun v hv => by rw [hv, if_neg h]

end Go.Proofs.Ytboibdmflblphaa
