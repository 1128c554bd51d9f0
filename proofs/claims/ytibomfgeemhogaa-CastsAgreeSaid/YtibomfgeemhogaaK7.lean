/- K7 of the seat. -/
import Derived.Test.YtibomfgeemhogaaK6
namespace Go.Proofs.Ytibomfgeemhogaa
open Go Fw
theorem zr_64_K7 : zeroB Try.prog 64 = some (.agg #[.int .i64 0, .int .i64 0, .slice none 0 0, .slice none 0 0, .slice none 0 0, .slice none 0 0, .slice none 0 0, .slice none 0 0, .slice none 0 0, .slice none 0 0, .slice none 0 0]) := by kernel_rfl
theorem fa_70_0_K7 : FA Try.prog 70 0 0 := fun _ _ _ => by kernel_rfl
theorem sc_3_K7 : scalB Try.prog 3 = true := by kernel_rfl
theorem ag_64_K7 : aggB Try.prog 64 = some 11 := by kernel_rfl
theorem sz_64_K7 : sizeB Try.prog 64 = some 11 := by kernel_rfl
theorem fa_64_0_K7 : FA Try.prog 64 0 0 := fun _ _ _ => by kernel_rfl
theorem fa_70_1_K7 : FA Try.prog 70 1 1 := fun _ _ _ => by kernel_rfl
theorem cb_39_K7 : callB Try.prog 39 = true := by kernel_rfl
open CastM CasM
set_option maxRecDepth 100000 in
set_option maxHeartbeats 400000 in
theorem c27a (h : Rg) (K : KSt) (W : K.Wf) (hT : ∀ i, (K.T i).length + K.ks.length ≤ 900) (q : Wd) (hs : q.seq < 9223372036854775808) (hs0 : -9223372036854775808 ≤ q.seq) (hm : K.may q = false) (w0 : World) (ho : Own w0.heap [rR h K]) : Cl Try.prog 27 #[refK K h, wdV q] w0 (RetS [rR h K] w0 (fun v (x : Rg × AC) => v = .tuple #[refK (K.take q).1 x.1, .slice x.2.1 (K.take q).2.length x.2.2]) fun x => [rR x.1 (K.take q).1, slR (.slice x.2.1 (K.take q).2.length x.2.2) (K.take q).2.length 70 5 ((K.take q).2.flatMap encD)]) := by
  have M : Sep (fun b_ => b_ ∈ foots [rR h K]) w0 w0 _ := Sep.start ho
  obtain ⟨q0, q1, q2, q3⟩ := q_spec W.q
  have hk0 : 0 ≤ K.len q.frm := Int.natCast_nonneg _
  have hk1 : K.len q.frm ≤ 900 := by have := hT q.frm.toNat; unfold KSt.len; omega
  have hol := oes_len (K := K) (V := h.V)
  have hT0 := hT 0
  refine enter (vs := [_, _]) Try.func27 rfl rfl rfl ?_
  intro a F
  refine wp_seq ?_
  refine wp_region_l [.wr, .wr, .wr, .ind] ([0, 1, 2, 3]) rfl ?_
  refine s_bxA F M rfl rfl rfl rfl rfl ?_; (clear F a M; try clear w); intro b2 w M a F
  refine s_bxA F M rfl rfl rfl rfl rfl ?_; (clear F a M; try clear w); intro b3 w M a F
  refine s_alc F M rfl rfl rfl rfl zr_64_K7 rfl ?_; (clear F a M; try clear w); intro b4 w M a F
  refine s_I F rfl rfl rfl rfl rfl rfl ?_; clear F a; intro a F
  refine t_endM M ?_; (clear M; try clear w); intro w M
  refine wp_seq ?_
  refine wp_seq ?_
  have M1 : Sep _ _ _ (blk b2 _ :: _) := M.f2; replace M := M1; clear M1
  replace M : Sep _ _ _ (blk b2 (rO K.n K.t (opV K h) (tvR K h.rv)) :: _) := M
  refine wp_region_t [.ind, .rd, .ind, .ind, .ind, .rd, .ind, .rd, .ind, .ind, .ind, .ind, .rd, .rd, .ind, .rd, .wr, .ind, .ind, .ind, .ind, .rd, .rd, .ind, .rd, .wr, .ind, .ind, .ind] [(12, 16), (21, 25)] (otOf [0, 1, 2, 3, 4, 5, 6, 7, 8, 9, 10, 11, 12, 13, 14, 15, 16, 17, 18, 19, 20, 21, 22, 23, 24, 25, 26, 27, 28]) mixed (by kernel_rfl) ?_
  refine s_fa0 F rfl rfl rfl rfl fa_70_0_K7 rfl ?_; clear F a; intro a F
  refine s_ldL F rfl rfl rfl rfl sc_3_K7 rfl (by exact cell_of_blk M.h2 (lit rfl)) ?_; clear F a; intro a F
  refine s_bin F rfl rfl rfl rfl rfl rfl rfl ?_; clear F a; intro a F
  refine s_I F rfl rfl rfl rfl rfl rfl ?_; clear F a; intro a F
  refine bsplit F 17 rfl ?_ ?_
  ·
    clear F; intro hc0 F
    try rw [hc0] at F
    replace hc0 := of_decide_eq_true hc0
    refine s_no F rfl rfl rfl rfl ?_; clear F a; intro a F
    refine s_no F rfl rfl rfl rfl ?_; clear F a; intro a F
    refine s_no F rfl rfl rfl rfl ?_; clear F a; intro a F
    refine s_no F rfl rfl rfl rfl ?_; clear F a; intro a F
    refine s_no F rfl rfl rfl rfl ?_; clear F a; intro a F
    refine s_I F rfl rfl rfl rfl rfl rfl ?_; clear F a; intro a F
    refine s_I F rfl rfl rfl rfl rfl rfl ?_; clear F a; intro a F
    refine s_no F rfl rfl rfl rfl ?_; clear F a; intro a F
    refine s_no F rfl rfl rfl rfl ?_; clear F a; intro a F
    refine s_no F rfl rfl rfl rfl ?_; clear F a; intro a F
    refine s_no F rfl rfl rfl rfl ?_; clear F a; intro a F
    refine s_no F rfl rfl rfl rfl ?_; clear F a; intro a F
    refine s_no F rfl rfl rfl rfl ?_; clear F a; intro a F
    refine s_no F rfl rfl rfl rfl ?_; clear F a; intro a F
    refine s_I F rfl rfl rfl rfl rfl rfl ?_; clear F a; intro a F
    refine s_I F rfl rfl rfl rfl rfl rfl ?_; clear F a; intro a F
    refine s_no F rfl rfl rfl rfl ?_; clear F a; intro a F
    refine s_no F rfl rfl rfl rfl ?_; clear F a; intro a F
    refine s_no F rfl rfl rfl rfl ?_; clear F a; intro a F
    refine s_no F rfl rfl rfl rfl ?_; clear F a; intro a F
    refine s_no F rfl rfl rfl rfl ?_; clear F a; intro a F
    refine s_no F rfl rfl rfl rfl ?_; clear F a; intro a F
    refine s_no F rfl rfl rfl rfl ?_; clear F a; intro a F
    refine s_no F rfl rfl rfl rfl ?_; clear F a; intro a F
    refine s_I F rfl rfl rfl rfl rfl rfl ?_; clear F a; intro a F
    refine t_endM M ?_; (clear M; try clear w); intro w M
    refine c_t F rfl ?_
    refine wp_seq ?_
    replace F := F.keep [0, 1, 2, 3, 4, 5] rfl
    refine wp_region_l [.rd, .wr, .ind] ([0, 1, 2]) rfl ?_
    refine s_lda F rfl rfl rfl rfl ag_64_K7 rfl rfl (cells_whole M.h0) ?_; clear F a; intro a F
    refine s_stW F M.f1 rfl rfl rfl sz_64_K7 rfl rfl rfl rfl rfl ?_; (clear M; try clear w); intro w M
    refine s_I F rfl rfl rfl rfl rfl rfl ?_; clear F a; intro a F
    refine t_endM M ?_; (clear M; try clear w); intro w M
    refine wp_ret ?_
    refine rt2 F rfl (by exact rv_a F rfl ag_64_K7 rfl (cells_whole M.h0)) (rv_t F rfl) ?_
    -- end 0
    have hno : K.take q = (K, []) := by unfold KSt.take; rw [if_neg (by clear M F; grind [KSt.may, KSt.len])]
    refine ⟨_, (h, (none, 0)), rfl, ?_, ?_⟩
    · (rw [hno]; rfl)
    rw [hno]
    replace M := M.nilS 70 5
    refine M.pick ?_; repeat (first | exact PkG.nil | refine PkG.cons 0 rfl rfl ?_ | refine PkG.cons 4 rfl rfl ?_)
  ·
    clear F; intro hc1 F
    try rw [hc1] at F
    replace hc1 := of_decide_eq_false hc1
    refine s_fa0 F rfl rfl rfl rfl fa_70_0_K7 rfl ?_; clear F a; intro a F
    refine s_ldL F rfl rfl rfl rfl sc_3_K7 rfl (by exact cell_of_blk M.h2 (lit rfl)) ?_; clear F a; intro a F
    refine s_fa0 F rfl rfl rfl rfl fa_64_0_K7 rfl ?_; clear F a; intro a F
    refine s_ldL F rfl rfl rfl rfl sc_3_K7 rfl (by exact cell_of_blk M.h0 (gf rfl (by decide))) ?_; clear F a; intro a F
    refine s_bin F rfl rfl rfl rfl rfl rfl rfl ?_; clear F a; intro a F
    refine s_I F rfl rfl rfl rfl rfl rfl ?_; clear F a; intro a F
    refine s_I F rfl rfl rfl rfl rfl rfl ?_; clear F a; intro a F
    refine bsplit F 24 rfl ?_ ?_
    ·
      clear F; intro hc2 F
      try rw [hc2] at F
      replace hc2 := of_decide_eq_true hc2
      refine s_no F rfl rfl rfl rfl ?_; clear F a; intro a F
      refine s_no F rfl rfl rfl rfl ?_; clear F a; intro a F
      refine s_no F rfl rfl rfl rfl ?_; clear F a; intro a F
      refine s_no F rfl rfl rfl rfl ?_; clear F a; intro a F
      refine s_no F rfl rfl rfl rfl ?_; clear F a; intro a F
      refine s_no F rfl rfl rfl rfl ?_; clear F a; intro a F
      refine s_no F rfl rfl rfl rfl ?_; clear F a; intro a F
      refine s_I F rfl rfl rfl rfl rfl rfl ?_; clear F a; intro a F
      refine s_I F rfl rfl rfl rfl rfl rfl ?_; clear F a; intro a F
      refine s_no F rfl rfl rfl rfl ?_; clear F a; intro a F
      refine s_no F rfl rfl rfl rfl ?_; clear F a; intro a F
      refine s_no F rfl rfl rfl rfl ?_; clear F a; intro a F
      refine s_no F rfl rfl rfl rfl ?_; clear F a; intro a F
      refine s_no F rfl rfl rfl rfl ?_; clear F a; intro a F
      refine s_no F rfl rfl rfl rfl ?_; clear F a; intro a F
      refine s_no F rfl rfl rfl rfl ?_; clear F a; intro a F
      refine s_no F rfl rfl rfl rfl ?_; clear F a; intro a F
      refine s_I F rfl rfl rfl rfl rfl rfl ?_; clear F a; intro a F
      refine t_endM M ?_; (clear M; try clear w); intro w M
      refine c_t F rfl ?_
      refine wp_seq ?_
      replace F := F.keep [0, 1, 2, 3, 4, 5] rfl
      refine wp_region_l [.rd, .wr, .ind] ([0, 1, 2]) rfl ?_
      refine s_lda F rfl rfl rfl rfl ag_64_K7 rfl rfl (cells_whole M.h0) ?_; clear F a; intro a F
      refine s_stW F M.f1 rfl rfl rfl sz_64_K7 rfl rfl rfl rfl rfl ?_; (clear M; try clear w); intro w M
      refine s_I F rfl rfl rfl rfl rfl rfl ?_; clear F a; intro a F
      refine t_endM M ?_; (clear M; try clear w); intro w M
      refine wp_ret ?_
      refine rt2 F rfl (by exact rv_a F rfl ag_64_K7 rfl (cells_whole M.h0)) (rv_t F rfl) ?_
      -- end 1
      have hno : K.take q = (K, []) := by unfold KSt.take; rw [if_neg (by clear M F; grind [KSt.may, KSt.len])]
      refine ⟨_, (h, (none, 0)), rfl, ?_, ?_⟩
      · (rw [hno]; rfl)
      rw [hno]
      replace M := M.nilS 70 5
      refine M.pick ?_; repeat (first | exact PkG.nil | refine PkG.cons 0 rfl rfl ?_ | refine PkG.cons 4 rfl rfl ?_)
    ·
      clear F; intro hc3 F
      try rw [hc3] at F
      replace hc3 := of_decide_eq_false hc3
      refine s_fa0 F rfl rfl rfl rfl fa_70_1_K7 rfl ?_; clear F a; intro a F
      refine s_ldL F rfl rfl rfl rfl sc_3_K7 rfl (by exact cell_of_blk M.h2 (lit rfl)) ?_; clear F a; intro a F
      refine s_ldaL F rfl rfl rfl rfl ag_64_K7 rfl rfl (cells_whole M.h0) ?_; clear F a; intro a F
      refine s_fa0 F rfl rfl rfl rfl fa_70_0_K7 rfl ?_; clear F a; intro a F
      refine s_ldL F rfl rfl rfl rfl sc_3_K7 rfl (by exact cell_of_blk M.h2 (lit rfl)) ?_; clear F a; intro a F
      refine s_cqL F M rfl rfl rfl rfl rfl (rfl : _ = some [_, _]) cb_39_K7 (fun nd_ => c39 h K q.frm q3 _) (fun _ w _ M => (by (refine pend_skip rfl ?_); (refine pend_skip rfl ?_); (refine pend_take (by exact cell_of_blk M.h2 (lit rfl)) ?_); (refine pend_skip rfl ?_); (refine pend_skip rfl ?_); (refine pend_skip rfl ?_); exact pend_none)) ?_; (clear F a M; try clear w); rintro v w rfl M a F
      try rw [if_pos (by clear M; grind [KSt.node])] at F
      refine s_bin F rfl rfl rfl rfl rfl rfl rfl ?_; clear F a; intro a F
      refine s_I F rfl rfl rfl rfl rfl rfl ?_; clear F a; intro a F
      refine s_I F rfl rfl rfl rfl rfl rfl ?_; clear F a; intro a F
      refine bsplit F 33 rfl ?_ ?_
      ·
        clear F; intro hc4 F
        try rw [hc4] at F
        replace hc4 := of_decide_eq_true hc4
        refine s_no F rfl rfl rfl rfl ?_; clear F a; intro a F
        refine s_no F rfl rfl rfl rfl ?_; clear F a; intro a F
        refine s_no F rfl rfl rfl rfl ?_; clear F a; intro a F
        refine s_no F rfl rfl rfl rfl ?_; clear F a; intro a F
        refine s_no F rfl rfl rfl rfl ?_; clear F a; intro a F
        refine s_no F rfl rfl rfl rfl ?_; clear F a; intro a F
        refine s_no F rfl rfl rfl rfl ?_; clear F a; intro a F
        refine s_no F rfl rfl rfl rfl ?_; clear F a; intro a F
        refine s_I F rfl rfl rfl rfl rfl rfl ?_; clear F a; intro a F
        refine t_endM M ?_; (clear M; try clear w); intro w M
        refine c_t F rfl ?_
        refine wp_seq ?_
        replace F := F.keep [0, 1, 2, 3, 4, 5] rfl
        refine wp_region_l [.rd, .wr, .ind] ([0, 1, 2]) rfl ?_
        refine s_lda F rfl rfl rfl rfl ag_64_K7 rfl rfl (cells_whole M.h0) ?_; clear F a; intro a F
        refine s_stW F M.f1 rfl rfl rfl sz_64_K7 rfl rfl rfl rfl rfl ?_; (clear M; try clear w); intro w M
        refine s_I F rfl rfl rfl rfl rfl rfl ?_; clear F a; intro a F
        refine t_endM M ?_; (clear M; try clear w); intro w M
        refine wp_ret ?_
        refine rt2 F rfl (by exact rv_a F rfl ag_64_K7 rfl (cells_whole M.h0)) (rv_t F rfl) ?_
        -- end 2
        have hno : K.take q = (K, []) := by unfold KSt.take; rw [if_neg (by clear M F; grind [KSt.may, KSt.len])]
        refine ⟨_, (h, (none, 0)), rfl, ?_, ?_⟩
        · (rw [hno]; rfl)
        rw [hno]
        replace M := M.nilS 70 5
        refine M.pick ?_; repeat (first | exact PkG.nil | refine PkG.cons 0 rfl rfl ?_ | refine PkG.cons 4 rfl rfl ?_)
      ·
        clear F; intro hc5 F
        try rw [hc5] at F
        replace hc5 := of_decide_eq_false hc5
        refine s_fa0 F rfl rfl rfl rfl fa_70_1_K7 rfl ?_; clear F a; intro a F
        refine s_ldL F rfl rfl rfl rfl sc_3_K7 rfl (by exact cell_of_blk M.h2 (lit rfl)) ?_; clear F a; intro a F
        refine s_ldaL F rfl rfl rfl rfl ag_64_K7 rfl rfl (cells_whole M.h0) ?_; clear F a; intro a F
        refine s_fa0 F rfl rfl rfl rfl fa_70_0_K7 rfl ?_; clear F a; intro a F
        refine s_ldL F rfl rfl rfl rfl sc_3_K7 rfl (by exact cell_of_blk M.h2 (lit rfl)) ?_; clear F a; intro a F
        refine s_cqL F M rfl rfl rfl rfl rfl (rfl : _ = some [_, _]) cb_39_K7 (fun nd_ => c39 h K q.frm q3 _) (fun _ w _ M => (by (refine pend_skip rfl ?_); (refine pend_skip rfl ?_); (refine pend_take (by exact cell_of_blk M.h2 (lit rfl)) ?_); (refine pend_skip rfl ?_); (refine pend_skip rfl ?_); (refine pend_skip rfl ?_); (refine pend_skip rfl ?_); (refine pend_skip rfl ?_); (refine pend_skip rfl ?_); exact pend_none)) ?_; (clear F a M; try clear w); rintro v w rfl M a F
        try rw [if_pos (by clear M; grind [KSt.node])] at F
        refine s_sub F rfl rfl rfl rfl rfl rfl (by unfold In64; omega) ?_; clear F a; intro a F
        refine s_bin F rfl rfl rfl rfl rfl rfl rfl ?_; clear F a; intro a F
        refine s_I F rfl rfl rfl rfl rfl rfl ?_; clear F a; intro a F
        refine t_endM M ?_; (clear M; try clear w); intro w M
        refine c_if F rfl ?_ ?_
        ·
          clear F; intro hc6 F
          try rw [hc6] at F
          replace hc6 := of_decide_eq_true hc6
          refine wp_seq ?_
          replace F := F.keep [0, 1, 2, 3, 4, 5] rfl
          refine wp_region_l [.rd, .wr, .ind] ([0, 1, 2]) rfl ?_
          refine s_lda F rfl rfl rfl rfl ag_64_K7 rfl rfl (cells_whole M.h0) ?_; clear F a; intro a F
          refine s_stW F M.f1 rfl rfl rfl sz_64_K7 rfl rfl rfl rfl rfl ?_; (clear M; try clear w); intro w M
          refine s_I F rfl rfl rfl rfl rfl rfl ?_; clear F a; intro a F
          refine t_endM M ?_; (clear M; try clear w); intro w M
          refine wp_ret ?_
          refine rt2 F rfl (by exact rv_a F rfl ag_64_K7 rfl (cells_whole M.h0)) (rv_t F rfl) ?_
          -- end 3
          have hno : K.take q = (K, []) := by unfold KSt.take; rw [if_neg (by clear M F; grind [KSt.may, KSt.len])]
          refine ⟨_, (h, (none, 0)), rfl, ?_, ?_⟩
          · (rw [hno]; rfl)
          rw [hno]
          replace M := M.nilS 70 5
          refine M.pick ?_; repeat (first | exact PkG.nil | refine PkG.cons 0 rfl rfl ?_ | refine PkG.cons 4 rfl rfl ?_)
        ·
          clear F; intro hc7 F
          try rw [hc7] at F
          replace hc7 := of_decide_eq_false hc7
          exfalso
          have hm1 : K.may q = true := by clear M F; grind [KSt.may, KSt.node, KSt.len]
          rw [hm] at hm1
          cases hm1
end Go.Proofs.Ytibomfgeemhogaa
