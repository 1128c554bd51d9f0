/- K8 of the seat. -/
import Derived.Test.YtibomfgeemhogaaK7
namespace Go.Proofs.Ytibomfgeemhogaa
open Go Fw
theorem sz_32_K8 : sizeB Try.prog 32 = some 7 := by kernel_rfl
theorem zr_64_K8 : zeroB Try.prog 64 = some (.agg #[.int .i64 0, .int .i64 0, .slice none 0 0, .slice none 0 0, .slice none 0 0, .slice none 0 0, .slice none 0 0, .slice none 0 0, .slice none 0 0, .slice none 0 0, .slice none 0 0]) := by kernel_rfl
theorem fa_70_0_K8 : FA Try.prog 70 0 0 := fun _ _ _ => by kernel_rfl
theorem sc_3_K8 : scalB Try.prog 3 = true := by kernel_rfl
theorem ag_64_K8 : aggB Try.prog 64 = some 11 := by kernel_rfl
theorem sz_64_K8 : sizeB Try.prog 64 = some 11 := by kernel_rfl
theorem fa_64_0_K8 : FA Try.prog 64 0 0 := fun _ _ _ => by kernel_rfl
theorem fa_70_1_K8 : FA Try.prog 70 1 1 := fun _ _ _ => by kernel_rfl
theorem cb_39_K8 : callB Try.prog 39 = true := by kernel_rfl
theorem fa_64_2_K8 : FA Try.prog 64 2 2 := fun _ _ _ => by kernel_rfl
theorem sc_60_K8 : scalB Try.prog 60 = true := by kernel_rfl
theorem tl_60_K8 : SlT Try.prog 60 106 9 88 (.agg #[.int .i64 0, .int .i64 0, .int .i64 0, .int .i64 0, .int .i64 0, .slice none 0 0, .bool false, .bool false, .string { data := #[] }]) := ⟨by kernel_rfl, by kernel_rfl, by kernel_rfl, by kernel_rfl, by decide⟩
theorem cb_40_K8 : callB Try.prog 40 = true := by kernel_rfl
theorem fa_64_1_K8 : FA Try.prog 64 1 1 := fun _ _ _ => by kernel_rfl
theorem cb_17_K8 : callB Try.prog 17 = true := by kernel_rfl
theorem zr_32_K8 : zeroB Try.prog 32 = some (.agg #[.int .i64 0, .int .i64 0, .int .i64 0, .slice none 0 0, .bool false, .bool false, .string { data := #[] }]) := by kernel_rfl
theorem sl_60_K8 : slcB Try.prog 60 = some (106, 9) := by kernel_rfl
theorem ag_32_K8 : aggB Try.prog 32 = some 7 := by kernel_rfl
theorem bl_106_0_1_2_K8 : ∀ (x0 : Int) (x1 : Int) (x2_0 : Int) (x2_1 : Int) (x2_2 : Int) (x2_3 : Option Addr) (n2_3 c2_3 : Nat) (x2_4 : Bool) (x2_5 : Bool) (x2_6 : ByteArray), ∀ w : World, (Instr.build 106 #[(0, .int .i64 x0), (1, .int .i64 x1), (2, .agg #[.int .i64 x2_0, .int .i64 x2_1, .int .i64 x2_2, .slice x2_3 n2_3 c2_3, .bool x2_4, .bool x2_5, .string x2_6])]).run Try.prog w = .ok (.agg #[.int .i64 x0, .int .i64 x1, .int .i64 x2_0, .int .i64 x2_1, .int .i64 x2_2, .slice x2_3 n2_3 c2_3, .bool x2_4, .bool x2_5, .string x2_6]) w := by intros; kernel_rfl
theorem bs_60_1_K8 : ∀ (x0_0 : Int) (x0_1 : Int) (x0_2_0 : Int) (x0_2_1 : Int) (x0_2_2 : Int) (x0_2_3 : Option Addr) (n0_2_3 c0_2_3 : Nat) (x0_2_4 : Bool) (x0_2_5 : Bool) (x0_2_6 : ByteArray), News Try.prog (Instr.buildSlice 60 1 #[(0, .agg #[.int .i64 x0_0, .int .i64 x0_1, .int .i64 x0_2_0, .int .i64 x0_2_1, .int .i64 x0_2_2, .slice x0_2_3 n0_2_3 c0_2_3, .bool x0_2_4, .bool x0_2_5, .string x0_2_6])]) (.cells #[.int .i64 x0_0, .int .i64 x0_1, .int .i64 x0_2_0, .int .i64 x0_2_1, .int .i64 x0_2_2, .slice x0_2_3 n0_2_3 c0_2_3, .bool x0_2_4, .bool x0_2_5, .string x0_2_6] 106) fun b => .slice (some ⟨b, 0, none⟩) 1 1 := by intros; intro w; kernel_rfl
theorem fa_106_2_K8 : FA Try.prog 106 2 2 := fun _ _ _ => by kernel_rfl
theorem fa_70_2_K8 : FA Try.prog 70 2 2 := fun _ _ _ => by kernel_rfl
theorem ag_38_K8 : aggB Try.prog 38 = some 3 := by kernel_rfl
theorem cb_18_K8 : callB Try.prog 18 = true := by kernel_rfl
theorem sz_60_K8 : sizeB Try.prog 60 = some 1 := by kernel_rfl
theorem sl_27_K8 : slcB Try.prog 27 = some (38, 3) := by kernel_rfl
theorem bl_70_0_1_2_K8 : ∀ (x0 : Int) (x1 : Int) (x2_0 : Int) (x2_1 : Int) (x2_2 : ByteArray), ∀ w : World, (Instr.build 70 #[(0, .int .i64 x0), (1, .int .i64 x1), (2, .agg #[.int .i64 x2_0, .int .i64 x2_1, .string x2_2])]).run Try.prog w = .ok (.agg #[.int .i64 x0, .int .i64 x1, .int .i64 x2_0, .int .i64 x2_1, .string x2_2]) w := by intros; kernel_rfl
theorem bs_56_1_K8 : ∀ (x0_0 : Int) (x0_1 : Int) (x0_2_0 : Int) (x0_2_1 : Int) (x0_2_2 : ByteArray), News Try.prog (Instr.buildSlice 56 1 #[(0, .agg #[.int .i64 x0_0, .int .i64 x0_1, .int .i64 x0_2_0, .int .i64 x0_2_1, .string x0_2_2])]) (.cells #[.int .i64 x0_0, .int .i64 x0_1, .int .i64 x0_2_0, .int .i64 x0_2_1, .string x0_2_2] 70) fun b => .slice (some ⟨b, 0, none⟩) 1 1 := by intros; intro w; kernel_rfl
theorem tl_56_K8 : SlT Try.prog 56 70 5 48 (.agg #[.int .i64 0, .int .i64 0, .int .i64 0, .int .i64 0, .string { data := #[] }]) := ⟨by kernel_rfl, by kernel_rfl, by kernel_rfl, by kernel_rfl, by decide⟩
theorem fa_32_5_K8 : FA Try.prog 32 5 5 := fun _ _ _ => by kernel_rfl
theorem sc_4_K8 : scalB Try.prog 4 = true := by kernel_rfl
theorem fa_64_3_K8 : FA Try.prog 64 3 3 := fun _ _ _ => by kernel_rfl
theorem ar_62_K8 : arrB Try.prog 62 = some (8, 1) := by kernel_rfl
theorem sc_61_K8 : scalB Try.prog 61 = true := by kernel_rfl
theorem fa_32_6_K8 : FA Try.prog 32 6 6 := fun _ _ _ => by kernel_rfl
theorem sc_9_K8 : scalB Try.prog 9 = true := by kernel_rfl
theorem tl_61_K8 : SlT Try.prog 61 9 1 16 (.string { data := #[] }) := ⟨by kernel_rfl, by kernel_rfl, by kernel_rfl, by kernel_rfl, by decide⟩
theorem bs_61_1_K8 : ∀ (x0 : ByteArray), News Try.prog (Instr.buildSlice 61 1 #[(0, .string x0)]) (.cells #[.string x0] 9) fun b => .slice (some ⟨b, 0, none⟩) 1 1 := by intros; intro w; kernel_rfl
theorem sz_61_K8 : sizeB Try.prog 61 = some 1 := by kernel_rfl
open CastM CasM
set_option maxRecDepth 100000 in
set_option maxHeartbeats 4000000 in
theorem c27b (h : Rg) (K : KSt) (W : K.Wf) (hT : ∀ i, (K.T i).length + K.ks.length ≤ 900) (q : Wd) (hs : q.seq < 9223372036854775808) (hs0 : -9223372036854775808 ≤ q.seq) (hm : K.may q = true) (w0 : World) (ho : Own w0.heap [rR h K]) : Cl Try.prog 27 #[refK K h, wdV q] w0 (RetS [rR h K] w0 (fun v (x : Rg × AC) => v = .tuple #[refK (K.take q).1 x.1, .slice x.2.1 (K.take q).2.length x.2.2]) fun x => [rR x.1 (K.take q).1, slR (.slice x.2.1 (K.take q).2.length x.2.2) (K.take q).2.length 70 5 ((K.take q).2.flatMap encD)]) := by
  have M : Sep (fun b_ => b_ ∈ foots [rR h K]) w0 w0 _ := Sep.start ho
  obtain ⟨q0, q1, q2, q3⟩ := q_spec W.q
  have hk0 : 0 ≤ K.len q.frm := Int.natCast_nonneg _
  have hk1 : K.len q.frm ≤ 900 := by have := hT q.frm.toNat; unfold KSt.len; omega
  have hol := oes_len (K := K) (V := h.V)
  have hT0 := hT 0
  obtain ⟨hn1, hn2, hn3, hn4⟩ := may_spec hm
  replace M := Fw.Sep.unjoin (L := [oR h.A h.c K h.V, lR K h.V K.ks, kT (tvR K h.rv) K.T]) M
  replace M : Sep _ w0 w0 [slR (opV K h) (oes K h.V).length 106 9 ((oes K h.V).flatMap encO), lR K h.V K.ks, kT (tvR K h.rv) K.T] := M
  refine enter (vs := [_, _]) Try.func27 rfl rfl rfl ?_
  intro a F
  refine wp_seq ?_
  refine wp_region_l [.wr, .wr, .wr, .ind] ([0, 1, 2, 3]) rfl ?_
  refine s_bxA F M rfl rfl rfl rfl rfl ?_; (clear F a M; try clear w); intro b2 w M a F
  refine s_bxA F M rfl rfl rfl rfl rfl ?_; (clear F a M; try clear w); intro b3 w M a F
  refine s_alc F M rfl rfl rfl rfl zr_64_K8 rfl ?_; (clear F a M; try clear w); intro b4 w M a F
  refine s_I F rfl rfl rfl rfl rfl rfl ?_; clear F a; intro a F
  refine t_endM M ?_; (clear M; try clear w); intro w M
  refine wp_seq ?_
  refine wp_seq ?_
  have M1 : Sep _ _ _ (blk b2 _ :: _) := M.f2; replace M := M1; clear M1
  replace M : Sep _ _ _ (blk b2 (rO K.n K.t (opV K h) (tvR K h.rv)) :: _) := M
  refine wp_region_t [.ind, .rd, .ind, .ind, .ind, .rd, .ind, .rd, .ind, .ind, .ind, .ind, .rd, .rd, .ind, .rd, .wr, .ind, .ind, .ind, .ind, .rd, .rd, .ind, .rd, .wr, .ind, .ind, .ind] [(12, 16), (21, 25)] (otOf [0, 1, 2, 3, 4, 5, 6, 7, 8, 9, 10, 11, 12, 13, 14, 15, 16, 17, 18, 19, 20, 21, 22, 23, 24, 25, 26, 27, 28]) mixed (by kernel_rfl) ?_
  refine s_fa0 F rfl rfl rfl rfl fa_70_0_K8 rfl ?_; clear F a; intro a F
  refine s_ldL F rfl rfl rfl rfl sc_3_K8 rfl (by exact cell_of_blk M.h2 (lit rfl)) ?_; clear F a; intro a F
  refine s_bin F rfl rfl rfl rfl rfl rfl rfl ?_; clear F a; intro a F
  refine s_I F rfl rfl rfl rfl rfl rfl ?_; clear F a; intro a F
  refine bsplit F 17 rfl ?_ ?_
  ·
    clear F; intro hc0 F
    try rw [hc0] at F
    replace hc0 := of_decide_eq_true hc0
    refine s_no F rfl rfl rfl rfl ?_; clear F a; intro a F
    refine s_no F rfl rfl rfl rfl ?_; clear F a; intro a F
    refine s_no F rfl rfl rfl rfl ?_; clear F a; intro a F
    refine s_no F rfl rfl rfl rfl ?_; clear F a; intro a F
    refine s_no F rfl rfl rfl rfl ?_; clear F a; intro a F
    refine s_I F rfl rfl rfl rfl rfl rfl ?_; clear F a; intro a F
    refine s_I F rfl rfl rfl rfl rfl rfl ?_; clear F a; intro a F
    refine s_no F rfl rfl rfl rfl ?_; clear F a; intro a F
    refine s_no F rfl rfl rfl rfl ?_; clear F a; intro a F
    refine s_no F rfl rfl rfl rfl ?_; clear F a; intro a F
    refine s_no F rfl rfl rfl rfl ?_; clear F a; intro a F
    refine s_no F rfl rfl rfl rfl ?_; clear F a; intro a F
    refine s_no F rfl rfl rfl rfl ?_; clear F a; intro a F
    refine s_no F rfl rfl rfl rfl ?_; clear F a; intro a F
    refine s_I F rfl rfl rfl rfl rfl rfl ?_; clear F a; intro a F
    refine s_I F rfl rfl rfl rfl rfl rfl ?_; clear F a; intro a F
    refine s_no F rfl rfl rfl rfl ?_; clear F a; intro a F
    refine s_no F rfl rfl rfl rfl ?_; clear F a; intro a F
    refine s_no F rfl rfl rfl rfl ?_; clear F a; intro a F
    refine s_no F rfl rfl rfl rfl ?_; clear F a; intro a F
    refine s_no F rfl rfl rfl rfl ?_; clear F a; intro a F
    refine s_no F rfl rfl rfl rfl ?_; clear F a; intro a F
    refine s_no F rfl rfl rfl rfl ?_; clear F a; intro a F
    refine s_no F rfl rfl rfl rfl ?_; clear F a; intro a F
    refine s_I F rfl rfl rfl rfl rfl rfl ?_; clear F a; intro a F
    refine t_endM M ?_; (clear M; try clear w); intro w M
    refine c_t F rfl ?_
    refine wp_seq ?_
    replace F := F.keep [0, 1, 2, 3, 4, 5] rfl
    refine wp_region_l [.rd, .wr, .ind] ([0, 1, 2]) rfl ?_
    refine s_lda F rfl rfl rfl rfl ag_64_K8 rfl rfl (cells_whole M.h0) ?_; clear F a; intro a F
    refine s_stW F M.f1 rfl rfl rfl sz_64_K8 rfl rfl rfl rfl rfl ?_; (clear M; try clear w); intro w M
    refine s_I F rfl rfl rfl rfl rfl rfl ?_; clear F a; intro a F
    refine t_endM M ?_; (clear M; try clear w); intro w M
    refine wp_ret ?_
    refine rt2 F rfl (by exact rv_a F rfl ag_64_K8 rfl (cells_whole M.h0)) (rv_t F rfl) ?_
    -- end 0
    exfalso
    omega
  ·
    clear F; intro hc1 F
    try rw [hc1] at F
    replace hc1 := of_decide_eq_false hc1
    refine s_fa0 F rfl rfl rfl rfl fa_70_0_K8 rfl ?_; clear F a; intro a F
    refine s_ldL F rfl rfl rfl rfl sc_3_K8 rfl (by exact cell_of_blk M.h2 (lit rfl)) ?_; clear F a; intro a F
    refine s_fa0 F rfl rfl rfl rfl fa_64_0_K8 rfl ?_; clear F a; intro a F
    refine s_ldL F rfl rfl rfl rfl sc_3_K8 rfl (by exact cell_of_blk M.h0 (gf rfl (by decide))) ?_; clear F a; intro a F
    refine s_bin F rfl rfl rfl rfl rfl rfl rfl ?_; clear F a; intro a F
    refine s_I F rfl rfl rfl rfl rfl rfl ?_; clear F a; intro a F
    refine s_I F rfl rfl rfl rfl rfl rfl ?_; clear F a; intro a F
    refine bsplit F 24 rfl ?_ ?_
    ·
      clear F; intro hc2 F
      try rw [hc2] at F
      replace hc2 := of_decide_eq_true hc2
      refine s_no F rfl rfl rfl rfl ?_; clear F a; intro a F
      refine s_no F rfl rfl rfl rfl ?_; clear F a; intro a F
      refine s_no F rfl rfl rfl rfl ?_; clear F a; intro a F
      refine s_no F rfl rfl rfl rfl ?_; clear F a; intro a F
      refine s_no F rfl rfl rfl rfl ?_; clear F a; intro a F
      refine s_no F rfl rfl rfl rfl ?_; clear F a; intro a F
      refine s_no F rfl rfl rfl rfl ?_; clear F a; intro a F
      refine s_I F rfl rfl rfl rfl rfl rfl ?_; clear F a; intro a F
      refine s_I F rfl rfl rfl rfl rfl rfl ?_; clear F a; intro a F
      refine s_no F rfl rfl rfl rfl ?_; clear F a; intro a F
      refine s_no F rfl rfl rfl rfl ?_; clear F a; intro a F
      refine s_no F rfl rfl rfl rfl ?_; clear F a; intro a F
      refine s_no F rfl rfl rfl rfl ?_; clear F a; intro a F
      refine s_no F rfl rfl rfl rfl ?_; clear F a; intro a F
      refine s_no F rfl rfl rfl rfl ?_; clear F a; intro a F
      refine s_no F rfl rfl rfl rfl ?_; clear F a; intro a F
      refine s_no F rfl rfl rfl rfl ?_; clear F a; intro a F
      refine s_I F rfl rfl rfl rfl rfl rfl ?_; clear F a; intro a F
      refine t_endM M ?_; (clear M; try clear w); intro w M
      refine c_t F rfl ?_
      refine wp_seq ?_
      replace F := F.keep [0, 1, 2, 3, 4, 5] rfl
      refine wp_region_l [.rd, .wr, .ind] ([0, 1, 2]) rfl ?_
      refine s_lda F rfl rfl rfl rfl ag_64_K8 rfl rfl (cells_whole M.h0) ?_; clear F a; intro a F
      refine s_stW F M.f1 rfl rfl rfl sz_64_K8 rfl rfl rfl rfl rfl ?_; (clear M; try clear w); intro w M
      refine s_I F rfl rfl rfl rfl rfl rfl ?_; clear F a; intro a F
      refine t_endM M ?_; (clear M; try clear w); intro w M
      refine wp_ret ?_
      refine rt2 F rfl (by exact rv_a F rfl ag_64_K8 rfl (cells_whole M.h0)) (rv_t F rfl) ?_
      -- end 1
      exfalso
      omega
    ·
      clear F; intro hc3 F
      try rw [hc3] at F
      replace hc3 := of_decide_eq_false hc3
      refine s_fa0 F rfl rfl rfl rfl fa_70_1_K8 rfl ?_; clear F a; intro a F
      refine s_ldL F rfl rfl rfl rfl sc_3_K8 rfl (by exact cell_of_blk M.h2 (lit rfl)) ?_; clear F a; intro a F
      refine s_ldaL F rfl rfl rfl rfl ag_64_K8 rfl rfl (cells_whole M.h0) ?_; clear F a; intro a F
      refine s_fa0 F rfl rfl rfl rfl fa_70_0_K8 rfl ?_; clear F a; intro a F
      refine s_ldL F rfl rfl rfl rfl sc_3_K8 rfl (by exact cell_of_blk M.h2 (lit rfl)) ?_; clear F a; intro a F
      refine s_cqL F M rfl rfl rfl rfl rfl (rfl : _ = some [_, _]) cb_39_K8 (fun nd_ => c39 h K q.frm q3 _) (fun _ w _ M => (by (refine pend_skip rfl ?_); (refine pend_skip rfl ?_); (refine pend_take (by exact cell_of_blk M.h2 (lit rfl)) ?_); (refine pend_skip rfl ?_); (refine pend_skip rfl ?_); (refine pend_skip rfl ?_); exact pend_none)) ?_; (clear F a M; try clear w); rintro v w rfl M a F
      try rw [if_pos (by clear M; grind [KSt.node])] at F
      refine s_bin F rfl rfl rfl rfl rfl rfl rfl ?_; clear F a; intro a F
      refine s_I F rfl rfl rfl rfl rfl rfl ?_; clear F a; intro a F
      refine s_I F rfl rfl rfl rfl rfl rfl ?_; clear F a; intro a F
      refine bsplit F 33 rfl ?_ ?_
      ·
        clear F; intro hc4 F
        try rw [hc4] at F
        replace hc4 := of_decide_eq_true hc4
        refine s_no F rfl rfl rfl rfl ?_; clear F a; intro a F
        refine s_no F rfl rfl rfl rfl ?_; clear F a; intro a F
        refine s_no F rfl rfl rfl rfl ?_; clear F a; intro a F
        refine s_no F rfl rfl rfl rfl ?_; clear F a; intro a F
        refine s_no F rfl rfl rfl rfl ?_; clear F a; intro a F
        refine s_no F rfl rfl rfl rfl ?_; clear F a; intro a F
        refine s_no F rfl rfl rfl rfl ?_; clear F a; intro a F
        refine s_no F rfl rfl rfl rfl ?_; clear F a; intro a F
        refine s_I F rfl rfl rfl rfl rfl rfl ?_; clear F a; intro a F
        refine t_endM M ?_; (clear M; try clear w); intro w M
        refine c_t F rfl ?_
        refine wp_seq ?_
        replace F := F.keep [0, 1, 2, 3, 4, 5] rfl
        refine wp_region_l [.rd, .wr, .ind] ([0, 1, 2]) rfl ?_
        refine s_lda F rfl rfl rfl rfl ag_64_K8 rfl rfl (cells_whole M.h0) ?_; clear F a; intro a F
        refine s_stW F M.f1 rfl rfl rfl sz_64_K8 rfl rfl rfl rfl rfl ?_; (clear M; try clear w); intro w M
        refine s_I F rfl rfl rfl rfl rfl rfl ?_; clear F a; intro a F
        refine t_endM M ?_; (clear M; try clear w); intro w M
        refine wp_ret ?_
        refine rt2 F rfl (by exact rv_a F rfl ag_64_K8 rfl (cells_whole M.h0)) (rv_t F rfl) ?_
        -- end 2
        exfalso
        omega
      ·
        clear F; intro hc5 F
        try rw [hc5] at F
        replace hc5 := of_decide_eq_false hc5
        refine s_fa0 F rfl rfl rfl rfl fa_70_1_K8 rfl ?_; clear F a; intro a F
        refine s_ldL F rfl rfl rfl rfl sc_3_K8 rfl (by exact cell_of_blk M.h2 (lit rfl)) ?_; clear F a; intro a F
        refine s_ldaL F rfl rfl rfl rfl ag_64_K8 rfl rfl (cells_whole M.h0) ?_; clear F a; intro a F
        refine s_fa0 F rfl rfl rfl rfl fa_70_0_K8 rfl ?_; clear F a; intro a F
        refine s_ldL F rfl rfl rfl rfl sc_3_K8 rfl (by exact cell_of_blk M.h2 (lit rfl)) ?_; clear F a; intro a F
        refine s_cqL F M rfl rfl rfl rfl rfl (rfl : _ = some [_, _]) cb_39_K8 (fun nd_ => c39 h K q.frm q3 _) (fun _ w _ M => (by (refine pend_skip rfl ?_); (refine pend_skip rfl ?_); (refine pend_take (by exact cell_of_blk M.h2 (lit rfl)) ?_); (refine pend_skip rfl ?_); (refine pend_skip rfl ?_); (refine pend_skip rfl ?_); (refine pend_skip rfl ?_); (refine pend_skip rfl ?_); (refine pend_skip rfl ?_); exact pend_none)) ?_; (clear F a M; try clear w); rintro v w rfl M a F
        try rw [if_pos (by clear M; grind [KSt.node])] at F
        refine s_sub F rfl rfl rfl rfl rfl rfl (by unfold In64; omega) ?_; clear F a; intro a F
        refine s_bin F rfl rfl rfl rfl rfl rfl rfl ?_; clear F a; intro a F
        refine s_I F rfl rfl rfl rfl rfl rfl ?_; clear F a; intro a F
        refine t_endM M ?_; (clear M; try clear w); intro w M
        refine c_if F rfl ?_ ?_
        ·
          clear F; intro hc6 F
          try rw [hc6] at F
          replace hc6 := of_decide_eq_true hc6
          refine wp_seq ?_
          replace F := F.keep [0, 1, 2, 3, 4, 5] rfl
          refine wp_region_l [.rd, .wr, .ind] ([0, 1, 2]) rfl ?_
          refine s_lda F rfl rfl rfl rfl ag_64_K8 rfl rfl (cells_whole M.h0) ?_; clear F a; intro a F
          refine s_stW F M.f1 rfl rfl rfl sz_64_K8 rfl rfl rfl rfl rfl ?_; (clear M; try clear w); intro w M
          refine s_I F rfl rfl rfl rfl rfl rfl ?_; clear F a; intro a F
          refine t_endM M ?_; (clear M; try clear w); intro w M
          refine wp_ret ?_
          refine rt2 F rfl (by exact rv_a F rfl ag_64_K8 rfl (cells_whole M.h0)) (rv_t F rfl) ?_
          -- end 3
          exfalso
          omega
        ·
          clear F; intro hc7 F
          try rw [hc7] at F
          replace hc7 := of_decide_eq_false hc7
          refine wp_skip ?_
          refine wp_seq ?_
          replace F := F.keep [0, 1, 2, 3, 4, 5] rfl
          refine wp_region_l [.ind, .rd, .wr, .ind] ([0, 1, 2, 3]) rfl ?_
          refine s_fa0 F rfl rfl rfl rfl fa_64_2_K8 rfl ?_; clear F a; intro a F
          refine s_ld F rfl rfl rfl rfl sc_60_K8 rfl (by exact cell_of_blk M.h0 (gf rfl (by decide))) ?_; clear F a; intro a F
          replace M := M.nilT encO 106 9
          refine s_apM (oes K h.V) F M rfl rfl rfl rfl tl_60_K8 rfl rfl (by exact SlOk.rd M.h4) (by intro e; rfl) (by simp; omega) (fun _ _ _ _ => pend_nil) ?_; (clear F a M; try clear w); intro A46 c46 w M a F
          refine s_I F rfl rfl rfl rfl rfl rfl ?_; clear F a; intro a F
          refine t_endM M ?_; (clear M; try clear w); intro w M
          refine wp_seq ?_
          replace F := F.keep [0, 1, 2, 3, 4, 5, 6] rfl
          refine wp_region_l [.rd, .ind, .rd, .ind, .rd, .wr, .ind] ([0, 1, 2, 3, 4, 5, 6]) rfl ?_
          refine s_lda F rfl rfl rfl rfl ag_64_K8 rfl rfl (cells_whole M.h1) ?_; clear F a; intro a F
          refine s_fa0 F rfl rfl rfl rfl fa_70_0_K8 rfl ?_; clear F a; intro a F
          refine s_ld F rfl rfl rfl rfl sc_3_K8 rfl (by exact cell_of_blk M.h3 (lit rfl)) ?_; clear F a; intro a F
          refine s_fa0 F rfl rfl rfl rfl fa_70_1_K8 rfl ?_; clear F a; intro a F
          refine s_ld F rfl rfl rfl rfl sc_3_K8 rfl (by exact cell_of_blk M.h3 (lit rfl)) ?_; clear F a; intro a F
          refine s_cq F M rfl rfl rfl rfl rfl (rfl : _ = some [_, _, _]) cb_40_K8 (fun nd_ => c40 h K (q.frm, q.seq) (by omega) _ (by exact SlOk.rd M.h4)) ?_; (clear F a M; try clear w); rintro v w rfl M a F
          refine s_I F rfl rfl rfl rfl rfl rfl ?_; clear F a; intro a F
          refine t_endM M ?_; (clear M; try clear w); intro w M
          refine wp_seq ?_
          refine wp_seq ?_
          have M1 : Sep _ _ _ (slR (opV K h) _ _ _ _ :: _) := M.f4; replace M := M1; clear M1
          replace M := M.tl
          replace F := F.keep [0, 1, 2, 3, 4, 5, 6, 7] rfl
          refine wp_region_l [.ind, .ind] ([0, 1]) rfl ?_
          refine s_I F rfl rfl rfl rfl rfl rfl ?_; clear F a; intro a F
          refine s_bin F rfl rfl rfl rfl rfl rfl rfl ?_; clear F a; intro a F
          refine t_endM M ?_; (clear M; try clear w); intro w M
          have M1 : Sep _ _ _ (lR _ _ _ :: _) := M.f4; replace M := M1; clear M1
          have M1 : Sep _ _ _ (slR (.slice A46 _ _) _ _ _ _ :: _) := M.f1; replace M := M1; clear M1
          refine cutX (X := (Option Addr) × (Nat) × (Key → AC)) (m0 := [_, _]) F [0, 1, 2, 3, 4, 5] rfl M (fun ((A6, c6, V1) : (Option Addr) × (Nat) × (Key → AC)) => True) (fun ((A6, c6, V1) : (Option Addr) × (Nat) × (Key → AC)) => [(6, .slice A6 (oes (K.open1 (q.frm, q.seq)) V1).length c6), (7, .int .i64 (fnd (K.open1 (q.frm, q.seq)).ks (q.frm, q.seq)))]) (fun ((A6, c6, V1) : (Option Addr) × (Nat) × (Key → AC)) => [oR A6 c6 (K.open1 (q.frm, q.seq)) V1, lR (K.open1 (q.frm, q.seq)) V1 (K.open1 (q.frm, q.seq)).ks]) ?_ ?_
          ·
            refine c_if F rfl ?_ ?_
            ·
              clear F; intro hc8 F
              try rw [hc8] at F
              replace hc8 := of_decide_eq_true hc8
              refine wp_seq ?_
              replace F := F.keep [0, 1, 2, 3, 4, 5, 6, 7] rfl
              refine wp_region_l [.ind, .rd, .ind, .rd, .ind, .rd, .wr, .ind, .ind, .ind, .wr, .wr, .ind] ([0, 1, 2, 3, 4, 5, 6, 7, 8, 9, 10, 11, 12]) rfl ?_
              refine s_fa0 F rfl rfl rfl rfl fa_64_0_K8 rfl ?_; clear F a; intro a F
              refine s_ld F rfl rfl rfl rfl sc_3_K8 rfl (by exact cell_of_blk M.h2 (gf rfl (by decide))) ?_; clear F a; intro a F
              refine s_fa0 F rfl rfl rfl rfl fa_64_1_K8 rfl ?_; clear F a; intro a F
              refine s_ld F rfl rfl rfl rfl sc_3_K8 rfl (by exact cell_of_blk M.h2 (gf rfl (by decide))) ?_; clear F a; intro a F
              refine s_fa0 F rfl rfl rfl rfl fa_70_0_K8 rfl ?_; clear F a; intro a F
              refine s_ld F rfl rfl rfl rfl sc_3_K8 rfl (by exact cell_of_blk M.h4 (lit rfl)) ?_; clear F a; intro a F
              refine s_cq F M rfl rfl rfl rfl rfl (rfl : _ = some [_, _, _]) cb_17_K8 (fun nd_ => c17 _ _ _ W.q hn1 hn2 _) ?_; (clear F a M; try clear w); rintro v w rfl M a F
              refine s_I F rfl rfl rfl rfl rfl rfl ?_; clear F a; intro a F
              refine s_I F rfl rfl rfl rfl rfl rfl ?_; clear F a; intro a F
              refine s_I F rfl rfl rfl rfl rfl rfl ?_; clear F a; intro a F
              refine s_alc F M rfl rfl rfl rfl zr_32_K8 rfl ?_; (clear F a M; try clear w); intro b8 w M a F
              refine s_stW F M rfl rfl rfl sz_32_K8 rfl rfl rfl rfl rfl ?_; (clear M; try clear w); intro w M
              refine s_I F rfl rfl rfl rfl rfl rfl ?_; clear F a; intro a F
              refine t_endM M ?_; (clear M; try clear w); intro w M
              refine wp_seq ?_
              replace F := F.keep [0, 1, 2, 3, 4, 5, 6, 7, 8] rfl
              refine wp_region_l [.ind, .ind, .ind] ([0, 1, 2]) rfl ?_
              refine s_I F rfl rfl rfl rfl rfl rfl ?_; clear F a; intro a F
              refine s_len F rfl rfl rfl rfl sl_60_K8 rfl ?_; clear F a; intro a F
              refine s_I F rfl rfl rfl rfl rfl rfl ?_; clear F a; intro a F
              refine t_endM M ?_; (clear M; try clear w); intro w M
              replace F := F.keep [0, 1, 2, 3, 4, 5, 6, 7, 8] rfl
              refine wp_region_l [.ind, .ind, .rd, .ind, .rd, .rd, .ind, .wr, .wr, .ind] ([0, 1, 2, 3, 4, 5, 6, 7, 8, 9]) rfl ?_
              refine s_I F rfl rfl rfl rfl rfl rfl ?_; clear F a; intro a F
              refine s_fa0 F rfl rfl rfl rfl fa_70_0_K8 rfl ?_; clear F a; intro a F
              refine s_ld F rfl rfl rfl rfl sc_3_K8 rfl (by exact cell_of_blk M.h5 (lit rfl)) ?_; clear F a; intro a F
              refine s_fa0 F rfl rfl rfl rfl fa_70_1_K8 rfl ?_; clear F a; intro a F
              refine s_ld F rfl rfl rfl rfl sc_3_K8 rfl (by exact cell_of_blk M.h5 (lit rfl)) ?_; clear F a; intro a F
              refine s_lda F rfl rfl rfl rfl ag_32_K8 rfl rfl (cells_whole M.h0) ?_; clear F a; intro a F
              refine s_bld F rfl rfl rfl rfl (parts3 F rfl rfl rfl) (bl_106_0_1_2_K8 _ _ _ _ _ _ _ _ _ _ _) ?_; clear F a; intro a F
              refine s_bs F M rfl rfl rfl rfl (parts1 F rfl) (bs_60_1_K8 _ _ _ _ _ _ _ _ _ _ _) ?_; (clear F a M; try clear w); intro b74 w M a F
              refine s_apE (OE.mk (q.frm, q.seq) (CastM.new K.n K.t q.frm) none 0) F M.f2 rfl rfl rfl rfl tl_60_K8 rfl rfl (by exact rd_blk M.h0 rfl) rfl (by simp; omega) (fun _ _ _ _ => pend_nil) ?_; (clear F a M; try clear w); intro A75 c75 w M a F
              refine s_I F rfl rfl rfl rfl rfl rfl ?_; clear F a; intro a F
              refine t_endM M ?_; (clear M; try clear w); intro w M
              have hnk := fnd_neg hc8
              have e1 : ([] ++ oes K h.V) ++ [OE.mk (q.frm, q.seq) (CastM.new K.n K.t q.frm) none 0] = oes (K.open1 (q.frm, q.seq)) (upd1 h.V (q.frm, q.seq) (none, 0)) := oes_new hnk
              have e0 : (((([] : List OE) ++ oes K h.V).length : Nat) : Int) = fnd (K.open1 (q.frm, q.seq)).ks (q.frm, q.seq) := fnd_new hnk
              rw [e0] at F
              have M1 : Sep _ _ _ (lR _ _ _ :: _) := M.f3; replace M := M1; clear M1
              replace M := lR_new M hnk
              have M1 : Sep _ _ _ (slR (.slice A75 _ _) _ _ _ _ :: _) := M.f1; replace M := M1; clear M1
              rw [e1] at F M
              replace M : Sep _ _ _ (oR A75 c75 (K.open1 (q.frm, q.seq)) (upd1 h.V (q.frm, q.seq) (none, 0)) :: _) := M
              refine joined ((A75), (c75), (upd1 h.V (q.frm, q.seq) (none, 0))) trivial (F.keep [6, 7, 0, 1, 2, 3, 4, 5] rfl) ?_
              try dsimp only [List.cons_append, List.nil_append]
              refine M.pick ?_; repeat (first | exact PkG.nil | refine PkG.cons 0 rfl rfl ?_ | refine PkG.cons 1 rfl rfl ?_ | refine PkG.cons 4 rfl rfl ?_ | refine PkG.cons 5 rfl rfl ?_ | refine PkG.cons 6 rfl rfl ?_ | refine PkG.cons 7 rfl rfl ?_)
            ·
              clear F; intro hc9 F
              try rw [hc9] at F
              replace hc9 := of_decide_eq_false hc9
              refine wp_skip ?_
              have hnk := fnd_pos hc9
              have ho1 : K.open1 (q.frm, q.seq) = K := if_pos hnk
              have M1 : Sep _ _ _ (lR _ _ _ :: _) := M.f1; replace M := M1; clear M1
              have M1 : Sep _ _ _ (slR (.slice A46 _ _) _ _ _ _ :: _) := M.f1; replace M := M1; clear M1
              replace M := same_in M ho1
              rw [show (([] : List OE) ++ oes K h.V).length = (oes (K.open1 (q.frm, q.seq)) h.V).length by rw [ho1]; rfl, show fnd K.ks (q.frm, q.seq) = fnd (K.open1 (q.frm, q.seq)).ks (q.frm, q.seq) by rw [ho1]] at F
              refine joined ((A46), (c46), (h.V)) trivial (F.keep [6, 7, 0, 1, 2, 3, 4, 5] rfl) ?_
              try dsimp only [List.cons_append, List.nil_append]
              refine M.pick ?_; repeat (first | exact PkG.nil | refine PkG.cons 0 rfl rfl ?_ | refine PkG.cons 1 rfl rfl ?_ | refine PkG.cons 2 rfl rfl ?_ | refine PkG.cons 3 rfl rfl ?_ | refine PkG.cons 4 rfl rfl ?_ | refine PkG.cons 5 rfl rfl ?_)
          ·
            clear F M; clear a; (try clear w)
            rintro ⟨A6, c6, V1⟩ a w _ F M; try dsimp only at F M
            try simp only [List.cons_append, List.nil_append] at F M
            refine wp_seq ?_
            have W1 : (K.open1 (q.frm, q.seq)).Wf := W.open1 (k := (q.frm, q.seq)) hn1 hn2 hn3 hn4 fun f f1 f2 => new_wf W.q f1 f2
            have hkm : (q.frm, q.seq) ∈ (K.open1 (q.frm, q.seq)).ks := open1_mem
            obtain ⟨hf0, hf1, hf2⟩ := fnd_spec hkm
            have hol1 := oes_len (K := K.open1 (q.frm, q.seq)) (V := V1)
            have hou := out_le ((K.open1 (q.frm, q.seq)).C (q.frm, q.seq)) q.m
            have M1 : Sep _ _ _ (lR _ _ _ :: _) := M.f1; replace M := M1; clear M1
            replace M := lOut M hkm
            have M1 : Sep _ _ _ (slR (.slice (V1 _).1 _ _) _ _ _ _ :: _) := M; replace M := M1; clear M1
            refine cutX (X := (Option Addr) × (Nat) × (Option Addr) × (Nat) × (Nat)) (m0 := [_]) F [0, 1, 2, 3, 4, 5, 6, 7] rfl M (fun ((xA, xC, XA, XC, b10) : (Option Addr) × (Nat) × (Option Addr) × (Nat) × (Nat)) => True) (fun ((xA, xC, XA, XC, b10) : (Option Addr) × (Nat) × (Option Addr) × (Nat) × (Nat)) => [(10, .pointer (some ⟨b10, 0, none⟩)), (11, .slice XA (((K.open1 (q.frm, q.seq)).C (q.frm, q.seq)).take q.m).2.length XC)]) (fun ((xA, xC, XA, XC, b10) : (Option Addr) × (Nat) × (Option Addr) × (Nat) × (Nat)) => [slR (.slice xA (((K.open1 (q.frm, q.seq)).C (q.frm, q.seq)).take q.m).1.L.length xC) (((K.open1 (q.frm, q.seq)).C (q.frm, q.seq)).take q.m).1.L.length 38 3 ((((K.open1 (q.frm, q.seq)).C (q.frm, q.seq)).take q.m).1.L.flatMap encM), slR (.slice XA (((K.open1 (q.frm, q.seq)).C (q.frm, q.seq)).take q.m).2.length XC) (((K.open1 (q.frm, q.seq)).C (q.frm, q.seq)).take q.m).2.length 38 3 ((((K.open1 (q.frm, q.seq)).C (q.frm, q.seq)).take q.m).2.flatMap encM), blk b10 (.cells #[.int .i64 (((K.open1 (q.frm, q.seq)).C (q.frm, q.seq)).take q.m).1.n, .int .i64 (((K.open1 (q.frm, q.seq)).C (q.frm, q.seq)).take q.m).1.t, .int .i64 (((K.open1 (q.frm, q.seq)).C (q.frm, q.seq)).take q.m).1.frm, .slice xA (((K.open1 (q.frm, q.seq)).C (q.frm, q.seq)).take q.m).1.L.length xC, .bool (((K.open1 (q.frm, q.seq)).C (q.frm, q.seq)).take q.m).1.ready, .bool (((K.open1 (q.frm, q.seq)).C (q.frm, q.seq)).take q.m).1.done, .string (((K.open1 (q.frm, q.seq)).C (q.frm, q.seq)).take q.m).1.body] 32 (0, 0))]) ?_ ?_
            ·
              refine wp_region_t [.ind, .ind, .ind, .ind, .rd, .ind, .rd, .wr, .ind, .ind, .ind, .wr, .wr, .ind] [(4, 11), (6, 11)] (.one 0 (.one 1 (.one 2 (.one 3 (.one 4 (.one 5 (.one 6 (.two 7 11 (otOf [8, 9, 10, 11, 12, 13]) (otOf [7, 8, 9, 10, 12, 13]))))))))) mixed (by kernel_rfl) ?_
              refine s_I F rfl rfl rfl rfl rfl rfl ?_; clear F a; intro a F
              refine s_I F rfl rfl rfl rfl rfl rfl ?_; clear F a; intro a F
              refine s_ix F rfl rfl rfl rfl sl_60_K8 rfl rfl (by exact SlOk.rd M.h2) (by omega) (by omega) ?_; clear F a; intro e79 he79 a F
              obtain ⟨ek, ec, eA, ecp⟩ := e79
              obtain ⟨hk79, hc79_, hA79, hcp79⟩ := oes_at he79
              obtain rfl : (q.frm, q.seq) = ek := Option.some.inj (hf2.symm.trans hk79)
              dsimp only at hc79_ hA79 hcp79
              subst hc79_ hA79 hcp79
              refine s_fa F rfl rfl rfl rfl fa_106_2_K8 rfl ?_; clear F a; intro a F
              refine s_ldaL F rfl rfl rfl rfl ag_32_K8 rfl rfl (rdsQ (m := 7) (SlOk.rd M.h2) (by intro e; rfl) he79) ?_; clear F a; intro a F
              refine s_fa0 F rfl rfl rfl rfl fa_70_2_K8 rfl ?_; clear F a; intro a F
              refine s_ldaL F rfl rfl rfl rfl ag_38_K8 rfl rfl (cells_part (off := 2) (cs := #[.int .i64 q.m.kind, .int .i64 q.m.frm, .string q.m.body]) M.h5 (by intro j v hv; rcases j with _ | _ | _ | j <;> simp_all)) ?_; clear F a; intro a F
              refine t_two ?_ ?_
              ·
                have M1 : Sep _ _ _ (slR (.slice (V1 _).1 _ _) _ _ _ _ :: _) := M; replace M := M1; clear M1
                refine s_callP (m := [_]) F M rfl rfl rfl rfl rfl (rfl : _ = some [_, _]) cb_18_K8 (fun nd_ => c18 ((K.open1 (q.frm, q.seq)).C (q.frm, q.seq)) (.slice (V1 (q.frm, q.seq)).1 ((K.open1 (q.frm, q.seq)).C (q.frm, q.seq)).L.length (V1 (q.frm, q.seq)).2) q.m _ (W1.cw _ hkm) (M.drewN nd_).own.one) (fun _ x w _ M => by (try simp only [List.cons_append, List.nil_append] at M); exact (by (refine pend_skip rfl ?_); (refine pend_skip rfl ?_); exact pend_none)) ?_; (clear F a M; try clear w); rintro v x w rfl M a F; (try simp only [List.cons_append, List.nil_append] at M)
                obtain ⟨xv, xo⟩ := x
                dsimp only at M F
                obtain ⟨xA, xC, rfl⟩ := SlOk.form M.h0
                obtain ⟨XA, XC, rfl⟩ := SlOk.form M.h1
                refine s_I F rfl rfl rfl rfl rfl rfl ?_; clear F a; intro a F
                refine s_I F rfl rfl rfl rfl rfl rfl ?_; clear F a; intro a F
                refine s_I F rfl rfl rfl rfl rfl rfl ?_; clear F a; intro a F
                refine s_alcL F M rfl rfl rfl rfl zr_32_K8 rfl (fun b w M => (by (refine pend_take (by exact cells_part (off := 2) (cs := #[.int .i64 q.m.kind, .int .i64 q.m.frm, .string q.m.body]) M.h7 (by intro j v hv; rcases j with _ | _ | _ | j <;> simp_all)) ?_); (refine pend_take (by exact rdsQ (SlOk.rd M.h4) (by intro e; rfl) he79) ?_); exact pend_none)) ?_; (clear F a M; try clear w); intro b10 w M a F
                refine s_stWL F M rfl rfl rfl sz_32_K8 rfl rfl rfl rfl rfl (fun w M => (by (refine pend_skip rfl ?_); (refine pend_skip rfl ?_); exact pend_none)) ?_; (clear M; try clear w); intro w M
                refine s_I F rfl rfl rfl rfl rfl rfl ?_; clear F a; intro a F
                refine t_endM M ?_; (clear M; try clear w); intro w M
                refine joined ((xA), (xC), (XA), (XC), (b10)) trivial (F.keep [10, 11, 0, 1, 2, 3, 4, 5, 6, 7] rfl) ?_
                try dsimp only [List.cons_append, List.nil_append]
                refine M.pick ?_; repeat (first | exact PkG.nil | refine PkG.cons 0 rfl rfl ?_ | refine PkG.cons 1 rfl rfl ?_ | refine PkG.cons 2 rfl rfl ?_ | refine PkG.cons 3 rfl rfl ?_ | refine PkG.cons 4 rfl rfl ?_ | refine PkG.cons 5 rfl rfl ?_ | refine PkG.cons 6 rfl rfl ?_ | refine PkG.cons 7 rfl rfl ?_ | refine PkG.cons 8 rfl rfl ?_)
              ·
                refine s_alcL F M rfl rfl rfl rfl zr_32_K8 rfl (fun b w M => (by (refine pend_take (by exact cells_part (off := 2) (cs := #[.int .i64 q.m.kind, .int .i64 q.m.frm, .string q.m.body]) M.h6 (by intro j v hv; rcases j with _ | _ | _ | j <;> simp_all)) ?_); (refine pend_take (by exact rdsQ (SlOk.rd M.h3) (by intro e; rfl) he79) ?_); exact pend_none)) ?_; (clear F a M; try clear w); intro b10 w M a F
                have M1 : Sep _ _ _ (slR (.slice (V1 _).1 _ _) _ _ _ _ :: _) := M.f1; replace M := M1; clear M1
                refine s_callP (m := [_]) F M rfl rfl rfl rfl rfl (rfl : _ = some [_, _]) cb_18_K8 (fun nd_ => c18 ((K.open1 (q.frm, q.seq)).C (q.frm, q.seq)) (.slice (V1 (q.frm, q.seq)).1 ((K.open1 (q.frm, q.seq)).C (q.frm, q.seq)).L.length (V1 (q.frm, q.seq)).2) q.m _ (W1.cw _ hkm) (M.drewN nd_).own.one) (fun _ x w _ M => by (try simp only [List.cons_append, List.nil_append] at M); exact (by (refine pend_skip rfl ?_); (refine pend_skip rfl ?_); exact pend_none)) ?_; (clear F a M; try clear w); rintro v x w rfl M a F; (try simp only [List.cons_append, List.nil_append] at M)
                obtain ⟨xv, xo⟩ := x
                dsimp only at M F
                obtain ⟨xA, xC, rfl⟩ := SlOk.form M.h0
                obtain ⟨XA, XC, rfl⟩ := SlOk.form M.h1
                refine s_I F rfl rfl rfl rfl rfl rfl ?_; clear F a; intro a F
                refine s_I F rfl rfl rfl rfl rfl rfl ?_; clear F a; intro a F
                refine s_I F rfl rfl rfl rfl rfl rfl ?_; clear F a; intro a F
                refine s_stWL F M.f2 rfl rfl rfl sz_32_K8 rfl rfl rfl rfl rfl (fun w M => (by (refine pend_skip rfl ?_); (refine pend_skip rfl ?_); exact pend_none)) ?_; (clear M; try clear w); intro w M
                refine s_I F rfl rfl rfl rfl rfl rfl ?_; clear F a; intro a F
                refine t_endM M ?_; (clear M; try clear w); intro w M
                refine joined ((xA), (xC), (XA), (XC), (b10)) trivial (F.keep [10, 11, 0, 1, 2, 3, 4, 5, 6, 7] rfl) ?_
                try dsimp only [List.cons_append, List.nil_append]
                refine M.pick ?_; repeat (first | exact PkG.nil | refine PkG.cons 0 rfl rfl ?_ | refine PkG.cons 1 rfl rfl ?_ | refine PkG.cons 2 rfl rfl ?_ | refine PkG.cons 3 rfl rfl ?_ | refine PkG.cons 4 rfl rfl ?_ | refine PkG.cons 5 rfl rfl ?_ | refine PkG.cons 6 rfl rfl ?_ | refine PkG.cons 7 rfl rfl ?_ | refine PkG.cons 8 rfl rfl ?_)
            ·
              clear F M; clear a; (try clear w)
              rintro ⟨xA, xC, XA, XC, b10⟩ a w _ F M; try dsimp only at F M
              try simp only [List.cons_append, List.nil_append] at F M
              refine wp_seq ?_
              refine wp_region_l [.ind, .ind, .rd, .ind, .ind, .wr] ([0, 1, 2, 3, 4, 5]) rfl ?_
              refine s_I F rfl rfl rfl rfl rfl rfl ?_; clear F a; intro a F
              refine s_I F rfl rfl rfl rfl rfl rfl ?_; clear F a; intro a F
              refine s_lda F rfl rfl rfl rfl ag_32_K8 rfl rfl (cells_whole M.h2) ?_; clear F a; intro a F
              refine s_ix F rfl rfl rfl rfl sl_60_K8 rfl rfl (by exact SlOk.rd M.h4) (by omega) (by omega) ?_; clear F a; intro e90 he90 a F
              obtain ⟨ek, ec, eA, ecp⟩ := e90
              obtain ⟨hk90, hc90_, hA90, hcp90⟩ := oes_at he90
              obtain rfl : (q.frm, q.seq) = ek := Option.some.inj (hf2.symm.trans hk90)
              dsimp only at hc90_ hA90 hcp90
              subst hc90_ hA90 hcp90
              refine s_fa F rfl rfl rfl rfl fa_106_2_K8 rfl ?_; clear F a; intro a F
              have M1 : Sep _ _ _ (oR A6 _ _ _ :: _) := M.f4; replace M := M1; clear M1
              replace M : Sep _ _ _ (slR (.slice A6 (oes (K.open1 (q.frm, q.seq)) V1).length c6) (oes (K.open1 (q.frm, q.seq)) V1).length 106 9 ((oes (K.open1 (q.frm, q.seq)) V1).flatMap encO) :: _) := M
              refine s_stS (OE.mk (q.frm, q.seq) (((K.open1 (q.frm, q.seq)).C (q.frm, q.seq)).take q.m).1 xA xC) F M rfl rfl rfl sz_32_K8 rfl rfl rfl rfl (by intro e; rfl) he90 (by decide) rfl ?_; (clear M; try clear w); intro w M
              have e9 := oes_set (K := K.open1 (q.frm, q.seq)) (V := V1) (c := (((K.open1 (q.frm, q.seq)).C (q.frm, q.seq)).take q.m).1) (x := (xA, xC)) hkm W1.nd
              dsimp only at e9
              rw [e9] at M
              have eL : (oes (K.open1 (q.frm, q.seq)) V1).length = (oes (K.mid q) (upd1 V1 (q.frm, q.seq) (xA, xC))).length := by rw [oes_len, oes_len]; rfl
              rw [eL] at F M
              replace M : Sep _ _ _ (oR A6 c6 (K.mid q) (upd1 V1 (q.frm, q.seq) (xA, xC)) :: _) := M
              refine t_endM M ?_; (clear M; try clear w); intro w M
              refine wp_seq ?_
              replace F := F.keep [0, 1, 2, 3, 4, 5, 6, 7, 10, 11] rfl
              refine wp_region_l [.ind, .ind, .wr] ([0, 1, 2]) rfl ?_
              refine s_I F rfl rfl rfl rfl rfl rfl ?_; clear F a; intro a F
              refine s_fa0 F rfl rfl rfl rfl fa_64_2_K8 rfl ?_; clear F a; intro a F
              refine s_sf F M.f5 rfl rfl rfl sz_60_K8 rfl rfl rfl (by exact Nat.le_of_ble_eq_true rfl) ?_; (clear M; try clear w); intro w M
              refine t_endM M ?_; (clear M; try clear w); intro w M
              refine wp_seq ?_
              have M1 : Sep _ _ _ (blk b10 _ :: _) := M.f4; replace M := M1; clear M1
              replace M := M.tl
              have M1 : Sep _ _ _ (blk b2 _ :: _) := M; replace M := M1; clear M1
              rw [rF_upd2] at M
              replace M := M.blkEq (o' := rO (K.mid q).n (K.mid q).t (opV (K.mid q) (⟨A6, c6, upd1 V1 (q.frm, q.seq) (xA, xC), h.rv⟩ : Rg)) (tvR (K.mid q) (Rg.rv (⟨A6, c6, upd1 V1 (q.frm, q.seq) (xA, xC), h.rv⟩ : Rg)))) (by rw [mid_n, mid_t, tv_mid]; rfl)
              have M1 : Sep _ _ _ (kT _ _ :: _) := M.f7; replace M := M1; clear M1
              have M1 : Sep _ _ _ (oR A6 _ _ _ :: _) := M.f2; replace M := M1; clear M1
              have M1 : Sep _ _ _ (lR _ _ _ :: _) := M.f5; replace M := M1; clear M1
              have M1 : Sep _ _ _ (slR (.slice xA _ _) _ _ _ _ :: _) := M.f4; replace M := M1; clear M1
              replace M := mid_in M W1.nd
              have hnd : (K.mid q).node q.frm = true := by unfold KSt.node; rw [mid_n]; simp; omega
              have hn7 : (K.mid q).n ≤ 7 := by rw [mid_n]; exact q3
              have hlm := mid_le K q
              replace F := F.keep [0, 1, 2, 3, 4, 5, 6, 7, 10, 11] rfl
              refine wp_region_l [.ind] ([0]) rfl ?_
              refine s_I F rfl rfl rfl rfl rfl rfl ?_; clear F a; intro a F
              refine t_endM M ?_; (clear M; try clear w); intro w M
              refine wp_seq ?_
              refine wp_seq ?_
              refine wp_region_l [.ind] ([0]) rfl ?_
              refine s_I F rfl rfl rfl rfl rfl rfl ?_; clear F a; intro a F
              refine t_endM M ?_; (clear M; try clear w); intro w M
              refine wp_block ?_
              replace M := M.nilT encD 70 5
              have M1 : Sep _ _ _ (slR _ _ 70 _ _ :: _) := M; replace M := M1; clear M1
              have M1 : Sep _ _ _ (slR (.slice XA _ _) _ _ _ _ :: _) := M.f3; replace M := M1; clear M1
              have M1 : Sep _ _ _ (rR _ _ :: _) := M.f2; replace M := M1; clear M1
              have M1 : Sep _ _ _ (blk b4 _ :: _) := M.f4; replace M := M1; clear M1
              have M1 : Sep _ _ _ (blk b3 _ :: _) := M.f5; replace M := M1; clear M1
              have M1 : Sep _ _ _ (blk b2 _ :: _) := M.f5; replace M := M1; clear M1
              refine loopX (X := (Int) × (Option Addr) × (Nat)) F [0, 1, 2, 3, 4, 5, 6, 7, 10, 11] rfl (fun ((i, v7, u7) : (Int) × (Option Addr) × (Nat)) => (0 ≤ i) ∧ (i ≤ (((K.open1 (q.frm, q.seq)).C (q.frm, q.seq)).take q.m).2.length)) (fun ((i, v7, u7) : (Int) × (Option Addr) × (Nat)) => [(13, .int .i64 i), (12, .slice v7 (outsD q ((((K.open1 (q.frm, q.seq)).C (q.frm, q.seq)).take q.m).2.take i.toNat)).length u7)]) (fun ((i, v7, u7) : (Int) × (Option Addr) × (Nat)) => [blk b2 (rO (K.mid q).n (K.mid q).t (opV (K.mid q) (⟨A6, c6, upd1 V1 (q.frm, q.seq) (xA, xC), h.rv⟩ : Rg)) (tvR (K.mid q) (Rg.rv (⟨A6, c6, upd1 V1 (q.frm, q.seq) (xA, xC), h.rv⟩ : Rg)))), blk b3 (.cells #[.int .i64 q.frm, .int .i64 q.seq, .int .i64 q.m.kind, .int .i64 q.m.frm, .string q.m.body] 70 (0, 0)), blk b4 (.cells #[.int .i64 0, .int .i64 0, .slice none 0 0, .slice none 0 0, .slice none 0 0, .slice none 0 0, .slice none 0 0, .slice none 0 0, .slice none 0 0, .slice none 0 0, .slice none 0 0] 64 (0, 0)), rR (⟨A6, c6, upd1 V1 (q.frm, q.seq) (xA, xC), h.rv⟩ : Rg) (K.mid q), slR (.slice XA (((K.open1 (q.frm, q.seq)).C (q.frm, q.seq)).take q.m).2.length XC) (((K.open1 (q.frm, q.seq)).C (q.frm, q.seq)).take q.m).2.length 38 3 ((((K.open1 (q.frm, q.seq)).C (q.frm, q.seq)).take q.m).2.flatMap encM), slR (.slice v7 (outsD q ((((K.open1 (q.frm, q.seq)).C (q.frm, q.seq)).take q.m).2.take i.toNat)).length u7) (outsD q ((((K.open1 (q.frm, q.seq)).C (q.frm, q.seq)).take q.m).2.take i.toNat)).length 70 5 ((outsD q ((((K.open1 (q.frm, q.seq)).C (q.frm, q.seq)).take q.m).2.take i.toNat)).flatMap encD)]) (fun ((i, v7, u7) : (Int) × (Option Addr) × (Nat)) => (((K.open1 (q.frm, q.seq)).C (q.frm, q.seq)).take q.m).2.length - i.toNat) ((0), (none), (0)) M ⟨(by omega), (by omega)⟩ (F.keep [13, 12, 0, 1, 2, 3, 4, 5, 6, 7, 10, 11] rfl) ?_
              clear F M; clear a; (try clear w)
              rintro ⟨i, v7, u7⟩ a w ⟨i0, i1⟩ F M; try dsimp only at F M
              try simp only [List.cons_append, List.nil_append] at F M
              try dsimp only at i0 i1
              refine wp_seq ?_
              refine wp_seq ?_
              refine wp_region_l [.ind, .ind, .ind, .ind] ([0, 1, 2, 3]) rfl ?_
              refine s_I F rfl rfl rfl rfl rfl rfl ?_; clear F a; intro a F
              refine s_I F rfl rfl rfl rfl rfl rfl ?_; clear F a; intro a F
              refine s_len F rfl rfl rfl rfl sl_27_K8 rfl ?_; clear F a; intro a F
              refine s_bin F rfl rfl rfl rfl rfl rfl rfl ?_; clear F a; intro a F
              refine t_endM M ?_; (clear M; try clear w); intro w M
              refine c_if F rfl ?_ ?_
              ·
                clear F; intro hc10 F
                try rw [hc10] at F
                replace hc10 := of_decide_eq_true hc10
                refine wp_skip ?_
                refine wp_seq ?_
                refine wp_block ?_
                replace F := F.keep [0, 1, 2, 3, 4, 5, 6, 7, 10, 11, 12, 13] rfl
                refine wp_region_t [.ind, .ind, .rd, .ind, .rd, .ind, .ind, .ind, .rd, .ind, .wr, .wr, .ind] [] (otOf [0, 1, 2, 3, 4, 5, 6, 7, 8, 9, 10, 11, 12]) mixed (by kernel_rfl) ?_
                refine s_I F rfl rfl rfl rfl rfl rfl ?_; clear F a; intro a F
                refine s_fa0 F rfl rfl rfl rfl fa_70_0_K8 rfl ?_; clear F a; intro a F
                refine s_ld F rfl rfl rfl rfl sc_3_K8 rfl (by exact cell_of_blk M.h1 (lit rfl)) ?_; clear F a; intro a F
                refine s_fa0 F rfl rfl rfl rfl fa_70_1_K8 rfl ?_; clear F a; intro a F
                refine s_ld F rfl rfl rfl rfl sc_3_K8 rfl (by exact cell_of_blk M.h1 (lit rfl)) ?_; clear F a; intro a F
                refine s_I F rfl rfl rfl rfl rfl rfl ?_; clear F a; intro a F
                refine s_I F rfl rfl rfl rfl rfl rfl ?_; clear F a; intro a F
                refine s_ix F rfl rfl rfl rfl sl_27_K8 rfl rfl (by exact SlOk.rd M.h4) (by omega) (by omega) ?_; clear F a; intro e107 he107 a F
                try (obtain rfl := Option.some.inj (he90.symm.trans he107))
                refine s_lda F rfl rfl rfl rfl ag_38_K8 rfl rfl (rdsX (SlOk.rd M.h4) (by intro e; rfl) he107) ?_; clear F a; intro a F
                refine s_bld F rfl rfl rfl rfl (parts3 F rfl rfl rfl) (bl_70_0_1_2_K8 _ _ _ _ _) ?_; clear F a; intro a F
                refine s_bs F M rfl rfl rfl rfl (parts1 F rfl) (bs_56_1_K8 _ _ _ _ _) ?_; (clear F a M; try clear w); intro b110 w M a F
                refine s_apE (Wd.mk q.frm q.seq e107) F M.f6 rfl rfl rfl rfl tl_56_K8 rfl rfl (by exact rd_blk M.h0 rfl) rfl (by show ((outsD q _).length + 1) * 48 ≤ 140737488355328; simp only [outsD, List.length_map, List.length_take]; omega) (fun _ _ _ _ => pend_nil) ?_; (clear F a M; try clear w); intro A111 c111 w M a F
                refine s_I F rfl rfl rfl rfl rfl rfl ?_; clear F a; intro a F
                refine t_endM M ?_; (clear M; try clear w); intro w M
                replace F := F.keep [0, 1, 2, 3, 4, 5, 6, 7, 10, 11, 12, 13] rfl
                refine wp_region_l [.ind, .ind, .ind] ([0, 1, 2]) rfl ?_
                refine s_I F rfl rfl rfl rfl rfl rfl ?_; clear F a; intro a F
                refine s_add F rfl rfl rfl rfl rfl rfl (by unfold In64; omega) ?_; clear F a; intro a F
                refine s_I F rfl rfl rfl rfl rfl rfl ?_; clear F a; intro a F
                refine t_endM M ?_; (clear M; try clear w); intro w M
                have eo : outsD q (List.take i.toNat (((K.open1 (q.frm, q.seq)).C (q.frm, q.seq)).take q.m).2) ++ [Wd.mk q.frm q.seq e107] = outsD q (List.take (i + 1).toNat (((K.open1 (q.frm, q.seq)).C (q.frm, q.seq)).take q.m).2) := by rw [take_succ i0 he107]; unfold outsD; rw [List.map_append]; rfl
                rw [eo] at F M
                refine again ((i + 1), (A111), (c111)) (by show _ < _; (try dsimp only); omega) ⟨(by omega), (by assumption)⟩ (F.keep [13, 12, 0, 1, 2, 3, 4, 5, 6, 7, 10, 11] rfl) ?_
                try dsimp only [List.cons_append, List.nil_append]
                refine M.pick ?_; repeat (first | exact PkG.nil | refine PkG.cons 0 rfl rfl ?_ | refine PkG.cons 2 rfl rfl ?_ | refine PkG.cons 3 rfl rfl ?_ | refine PkG.cons 4 rfl rfl ?_ | refine PkG.cons 5 rfl rfl ?_ | refine PkG.cons 6 rfl rfl ?_)
              ·
                clear F; intro hc11 F
                try rw [hc11] at F
                replace hc11 := of_decide_eq_false hc11
                refine wp_exit ?_
                refine wp_seq ?_
                refine wp_seq ?_
                rw [take_all (by omega)] at F M
                replace F : Fr _ _ _ := F
                replace F := F.keep [0, 1, 2, 3, 4, 5, 6, 7, 10, 11, 12, 13] rfl
                refine wp_region_t [.rd, .ind, .rd, .rd, .ind, .rd, .wr, .wr, .ind] [(0, 6), (2, 6)] (otOf [0, 1, 2, 3, 4, 5, 6, 7, 8]) mixed (by kernel_rfl) ?_
                refine s_ldaL F rfl rfl rfl rfl ag_64_K8 rfl rfl (cells_whole M.h0) ?_; clear F a; intro a F
                refine s_fa0 F rfl rfl rfl rfl fa_70_0_K8 rfl ?_; clear F a; intro a F
                refine s_ldL F rfl rfl rfl rfl sc_3_K8 rfl (by exact cell_of_blk M.h1 (lit rfl)) ?_; clear F a; intro a F
                refine s_ldaL F rfl rfl rfl rfl ag_64_K8 rfl rfl (cells_whole M.h0) ?_; clear F a; intro a F
                refine s_fa0 F rfl rfl rfl rfl fa_70_0_K8 rfl ?_; clear F a; intro a F
                refine s_ldL F rfl rfl rfl rfl sc_3_K8 rfl (by exact cell_of_blk M.h1 (lit rfl)) ?_; clear F a; intro a F
                refine s_cqL F M rfl rfl rfl rfl rfl (rfl : _ = some [_, _]) cb_39_K8 (fun nd_ => c39 (⟨A6, c6, upd1 V1 (q.frm, q.seq) (xA, xC), h.rv⟩ : Rg) (K.mid q) q.frm hn7 _) (fun _ w _ M => (by (refine pend_skip rfl ?_); (refine pend_skip rfl ?_); (refine pend_take (by exact cell_of_blk M.h1 (lit rfl)) ?_); (refine pend_take (by exact cells_whole M.h0) ?_); exact pend_none)) ?_; (clear F a M; try clear w); rintro v w rfl M a F
                rw [if_pos hnd] at F
                refine s_cqL F M rfl rfl rfl rfl rfl (rfl : _ = some [_, _, _]) cb_40_K8 (fun nd_ => c40 (⟨A6, c6, upd1 V1 (q.frm, q.seq) (xA, xC), h.rv⟩ : Rg) (K.mid q) (q.frm, KSt.len (K.mid q) q.frm) (by omega) _ (by exact (r_ok M.h3).o.rd)) (fun _ w _ M => (by (refine pend_skip rfl ?_); (refine pend_skip rfl ?_); (refine pend_skip rfl ?_); (refine pend_skip rfl ?_); exact pend_none)) ?_; (clear F a M; try clear w); rintro v w rfl M a F
                refine s_I F rfl rfl rfl rfl rfl rfl ?_; clear F a; intro a F
                refine t_endM M ?_; (clear M; try clear w); intro w M
                refine wp_block ?_
                have M1 : Sep _ _ _ (slR _ _ 70 _ _ :: _) := M.f5; replace M := M1; clear M1
                have M1 : Sep _ _ _ (slR (.slice XA _ _) _ _ _ _ :: _) := M.f5; replace M := M1; clear M1
                have M1 : Sep _ _ _ (rR _ _ :: _) := M.f5; replace M := M1; clear M1
                have M1 : Sep _ _ _ (blk b4 _ :: _) := M.f5; replace M := M1; clear M1
                have M1 : Sep _ _ _ (blk b3 _ :: _) := M.f5; replace M := M1; clear M1
                have M1 : Sep _ _ _ (blk b2 _ :: _) := M.f5; replace M := M1; clear M1
                refine loopX (X := (KSt) × (Rg)) F [0, 1, 2, 3, 4, 5, 6, 10, 11, 13] rfl (fun ((K2, g2) : (KSt) × (Rg)) => (K2.Wf) ∧ (∀ i, (K2.T i).length + K2.ks.length ≤ 901) ∧ ((K.mid q).tells q.frm = K2.tells q.frm) ∧ (K2.node q.frm = true) ∧ (K2.n ≤ 7)) (fun ((K2, g2) : (KSt) × (Rg)) => [(7, .int .i64 (fnd K2.ks (q.frm, K2.len q.frm))), (12, .slice v7 (K.out q).length u7)]) (fun ((K2, g2) : (KSt) × (Rg)) => [blk b2 (rO (K2).n (K2).t (opV (K2) g2) (tvR (K2) (Rg.rv g2))), blk b3 (.cells #[.int .i64 q.frm, .int .i64 q.seq, .int .i64 q.m.kind, .int .i64 q.m.frm, .string q.m.body] 70 (0, 0)), blk b4 (.cells #[.int .i64 0, .int .i64 0, .slice none 0 0, .slice none 0 0, .slice none 0 0, .slice none 0 0, .slice none 0 0, .slice none 0 0, .slice none 0 0, .slice none 0 0, .slice none 0 0] 64 (0, 0)), rR g2 K2, slR (.slice XA (((K.open1 (q.frm, q.seq)).C (q.frm, q.seq)).take q.m).2.length XC) (((K.open1 (q.frm, q.seq)).C (q.frm, q.seq)).take q.m).2.length 38 3 ((((K.open1 (q.frm, q.seq)).C (q.frm, q.seq)).take q.m).2.flatMap encM), slR (.slice v7 (K.out q).length u7) (K.out q).length 70 5 ((K.out q).flatMap encD)]) (fun ((K2, g2) : (KSt) × (Rg)) => K2.ks.length) ((K.mid q), ((⟨A6, c6, upd1 V1 (q.frm, q.seq) (xA, xC), h.rv⟩ : Rg))) M ⟨(wf_mid W hm), (fun i => by rw [mid_T]; have := hT i; omega), rfl, hnd, hn7⟩ (F.keep [7, 12, 0, 1, 2, 3, 4, 5, 6, 10, 11, 13] rfl) ?_
                clear F M; clear a; (try clear w)
                rintro ⟨K2, g2⟩ a w ⟨W2, hb2, heq, hnd2, hn72⟩ F M; try dsimp only at F M
                try simp only [List.cons_append, List.nil_append] at F M
                try dsimp only at W2 hb2 heq hnd2 hn72
                refine wp_seq ?_
                refine wp_seq ?_
                refine wp_region_l [.ind, .ind, .ind, .ind, .rd, .ind, .ind, .ind, .ind, .rd, .ind] ([0, 1, 2, 3, 4, 5, 6, 7, 8, 9, 10]) rfl ?_
                refine s_I F rfl rfl rfl rfl rfl rfl ?_; clear F a; intro a F
                refine s_bin F rfl rfl rfl rfl rfl rfl rfl ?_; clear F a; intro a F
                refine s_I F rfl rfl rfl rfl rfl rfl ?_; clear F a; intro a F
                refine bsplit F 122 rfl ?_ ?_
                ·
                  clear F; intro hc12 F
                  try rw [hc12] at F
                  replace hc12 := of_decide_eq_true hc12
                  have hk2 := fnd_pos (ks := K2.ks) (k := (q.frm, K2.len q.frm)) (by omega)
                  obtain ⟨hf0, hf1, hf2⟩ := fnd_spec hk2
                  have hol2 := oes_len (K := K2) (V := g2.V)
                  refine s_fa0 F rfl rfl rfl rfl fa_64_2_K8 rfl ?_; clear F a; intro a F
                  refine s_ld F rfl rfl rfl rfl sc_60_K8 rfl (by exact cell_of_blk M.h0 (gf rfl (by decide))) ?_; clear F a; intro a F
                  refine s_I F rfl rfl rfl rfl rfl rfl ?_; clear F a; intro a F
                  refine s_ix F rfl rfl rfl rfl sl_60_K8 rfl rfl (by exact (r_ok M.h3).o.rd) (by omega) (by omega) ?_; clear F a; intro e126 he126 a F
                  try (obtain rfl := Option.some.inj (he90.symm.trans he126))
                  obtain ⟨ek, ec, eA, ecp⟩ := e126
                  obtain ⟨hk126, hc126_, hA126, hcp126⟩ := oes_at he126
                  obtain rfl : (q.frm, K2.len q.frm) = ek := Option.some.inj (hf2.symm.trans hk126)
                  dsimp only at hc126_ hA126 hcp126
                  subst hc126_ hA126 hcp126
                  refine s_fa F rfl rfl rfl rfl fa_106_2_K8 rfl ?_; clear F a; intro a F
                  refine s_fa F rfl rfl rfl rfl fa_32_5_K8 rfl ?_; clear F a; intro a F
                  refine s_ld F rfl rfl rfl rfl sc_4_K8 rfl (by exact rdX2 ((r_ok M.h3).o.rd) (by intro e; rfl) he126 rfl) ?_; clear F a; intro a F
                  refine s_I F rfl rfl rfl rfl rfl rfl ?_; clear F a; intro a F
                  refine t_endM M ?_; (clear M; try clear w); intro w M
                  refine c_if F rfl ?_ ?_
                  ·
                    clear F; intro hc13 F
                    try rw [hc13] at F
                    skip
                    have hdu : K2.due q.frm = true := by unfold KSt.due; rw [decide_eq_true hk2, show (K2.C (q.frm, K2.len q.frm)).done = true from by assumption]; rfl
                    refine wp_skip ?_
                    refine wp_seq ?_
                    refine wp_block ?_
                    refine wp_seq ?_
                    have M1 : Sep _ _ _ (rR _ _ :: _) := M.f3; replace M := M1; clear M1
                    replace M := Fw.Sep.unjoin (L := [oR g2.A g2.c K2 g2.V, lR K2 g2.V K2.ks, kT (tvR K2 g2.rv) K2.T]) M
                    simp only [List.cons_append, List.nil_append] at M
                    replace M := M.f2.bigOut (i := q.frm.toNat) (x := q.frm.toNat) (List.getElem?_range (by omega))
                    replace M : Sep _ _ _ (slR (.slice (g2.rv q.frm.toNat).1 (K2.T q.frm.toNat).length (g2.rv q.frm.toNat).2) (K2.T q.frm.toNat).length 9 1 ((K2.T q.frm.toNat).flatMap encS) :: _) := M
                    have hTq := hb2 q.frm.toNat
                    replace F := F.keep [0, 1, 2, 3, 4, 5, 6, 7, 10, 11, 12, 13] rfl
                    refine wp_region_t [.ind, .rd, .ind, .rd, .ind, .ind, .rd, .wr, .ind, .rd, .ind, .ind, .ind, .ind, .rd, .wr, .wr, .ind, .ind, .wr] [(1, 7), (1, 15), (1, 16), (3, 15), (6, 15), (9, 7), (14, 7)] (.one 0 (.one 1 (.one 2 (.one 3 (.one 4 (.one 5 (.one 6 (.one 8 (.one 9 (.one 10 (.one 11 (.one 12 (.one 13 (.one 14 (.one 17 (.two 7 15 (otOf [15, 16, 18, 19]) (otOf [7, 16, 18, 19]))))))))))))))))) mixed (by kernel_rfl) ?_
                    refine s_fa0 F rfl rfl rfl rfl fa_70_0_K8 rfl ?_; clear F a; intro a F
                    refine s_ldL F rfl rfl rfl rfl sc_3_K8 rfl (by exact cell_of_blk M.h5 (lit rfl)) ?_; clear F a; intro a F
                    refine s_fa0 F rfl rfl rfl rfl fa_70_0_K8 rfl ?_; clear F a; intro a F
                    refine s_ldL F rfl rfl rfl rfl sc_3_K8 rfl (by exact cell_of_blk M.h5 (lit rfl)) ?_; clear F a; intro a F
                    refine s_fa0 F rfl rfl rfl rfl fa_64_3_K8 rfl ?_; clear F a; intro a F
                    refine s_ia F rfl rfl rfl rfl ar_62_K8 rfl rfl (by omega) (by omega) ?_; clear F a; intro a F
                    refine s_ldL F rfl rfl rfl rfl sc_61_K8 rfl (by exact cell_of_blk M.h4 (gf (rF_told) (by omega))) ?_; clear F a; intro a F
                    refine s_fa0 F rfl rfl rfl rfl fa_64_2_K8 rfl ?_; clear F a; intro a F
                    refine s_ldL F rfl rfl rfl rfl sc_60_K8 rfl (by exact cell_of_blk M.h4 (gf rfl (by decide))) ?_; clear F a; intro a F
                    refine s_I F rfl rfl rfl rfl rfl rfl ?_; clear F a; intro a F
                    refine s_ix F rfl rfl rfl rfl sl_60_K8 rfl rfl (by exact SlOk.rd M.h2) (by omega) (by omega) ?_; clear F a; intro e150 he150 a F
                    try (obtain rfl := Option.some.inj (he90.symm.trans he150))
                    try (obtain rfl := Option.some.inj (he126.symm.trans he150))
                    refine s_fa F rfl rfl rfl rfl fa_106_2_K8 rfl ?_; clear F a; intro a F
                    refine s_fa F rfl rfl rfl rfl fa_32_6_K8 rfl ?_; clear F a; intro a F
                    refine s_ldL F rfl rfl rfl rfl sc_9_K8 rfl (by exact rdX2 (SlOk.rd M.h2) (by intro e; rfl) he150 rfl) ?_; clear F a; intro a F
                    refine s_fa0 F rfl rfl rfl rfl fa_64_3_K8 rfl ?_; clear F a; intro a F
                    refine t_two ?_ ?_
                    ·
                      replace M := M.nilT encS 9 1
                      refine s_apM (K2.T q.frm.toNat) F M rfl rfl rfl rfl tl_61_K8 rfl rfl (by exact SlOk.rd M.h1) (by intro e; rfl) (by simp; omega) (fun A c w M => (by (refine pend_take (by exact rdX2 (SlOk.rd M.h3) (by intro e; rfl) he150 rfl) ?_); (refine pend_take (by exact cell_of_blk M.h5 (gf rfl (by decide))) ?_); (refine pend_skip rfl ?_); (refine pend_skip rfl ?_); (refine pend_take (by exact cell_of_blk M.h6 (lit rfl)) ?_); exact pend_none)) ?_; (clear F a M; try clear w); intro A146 c146 w M a F
                      refine s_bsL F M rfl rfl rfl rfl (parts1 F rfl) (bs_61_1_K8 _) (fun b w M => (by (refine pend_skip rfl ?_); (refine pend_skip rfl ?_); (refine pend_take (by exact cell_of_blk M.h6 (gf (rF_told) (by omega))) ?_); (refine pend_take (by exact cell_of_blk M.h7 (lit rfl)) ?_); (refine pend_take (by exact cell_of_blk M.h7 (lit rfl)) ?_); exact pend_none)) ?_; (clear F a M; try clear w); intro b154 w M a F
                      refine s_apE ((K2.C (q.frm, K2.len q.frm)).body) F M.f1 rfl rfl rfl rfl tl_61_K8 rfl rfl (by exact rd_blk M.h0 rfl) rfl (by simp; omega) (fun A c w M => (by (refine pend_skip rfl ?_); (refine pend_skip rfl ?_); (refine pend_skip rfl ?_); (refine pend_skip rfl ?_); (refine pend_take (by exact cell_of_blk M.h7 (lit rfl)) ?_); exact pend_none)) ?_; (clear F a M; try clear w); intro A155 c155 w M a F
                      refine s_ia F rfl rfl rfl rfl ar_62_K8 rfl rfl (by omega) (by omega) ?_; clear F a; intro a F
                      refine s_sfL F M.f6 rfl rfl rfl sz_61_K8 rfl rfl rfl (by omega) (fun w M => (by (refine pend_skip rfl ?_); (refine pend_skip rfl ?_); (refine pend_skip rfl ?_); (refine pend_skip rfl ?_); (refine pend_skip rfl ?_); exact pend_none)) ?_; (clear M; try clear w); intro w M
                      refine t_endM M ?_; (clear M; try clear w); intro w M
                      have M1 : Sep _ _ _ (blk b2 _ :: _) := M; replace M := M1; clear M1
                      rw [rF_updT] at M
                      replace M : Sep _ _ _ (blk b2 (rO K2.n K2.t (opV K2 g2) (upd1 (tvR K2 g2.rv) q.frm.toNat _)) :: _) := M
                      replace F := F.keep [0, 1, 2, 3, 4, 5, 6, 7, 10, 11, 12, 13] rfl
                      refine wp_region_t [.ind, .rd, .ind, .ind, .wr, .ind, .rd, .ind, .ind, .ind, .wr, .ind, .wr] [(6, 4)] (otOf [0, 1, 2, 3, 5, 6, 7, 8, 9, 4, 10, 11, 12]) mixed (by kernel_rfl) ?_
                      refine s_fa0 F rfl rfl rfl rfl fa_64_2_K8 rfl ?_; clear F a; intro a F
                      refine s_ldL F rfl rfl rfl rfl sc_60_K8 rfl (by exact cell_of_blk M.h0 (gf rfl (by decide))) ?_; clear F a; intro a F
                      refine s_I F rfl rfl rfl rfl rfl rfl ?_; clear F a; intro a F
                      refine s_slc F rfl rfl rfl rfl sl_60_K8 rfl rfl rfl (by exact SlOk.rd M.h5) (by omega) (by omega) (by omega) ?_; clear F a; intro a F
                      refine s_fa0 F rfl rfl rfl rfl fa_64_2_K8 rfl ?_; clear F a; intro a F
                      refine s_ldL F rfl rfl rfl rfl sc_60_K8 rfl (by exact cell_of_blk M.h0 (gf rfl (by decide))) ?_; clear F a; intro a F
                      refine s_I F rfl rfl rfl rfl rfl rfl ?_; clear F a; intro a F
                      refine s_add F rfl rfl rfl rfl rfl rfl (by unfold In64; omega) ?_; clear F a; intro a F
                      refine s_slc F rfl rfl rfl rfl sl_60_K8 rfl rfl rfl (by exact SlOk.rd M.h5) (by omega) (by omega) (by omega) ?_; clear F a; intro a F
                      replace M := M.nilT encO 106 9
                      refine s_apM ((oes K2 g2.V).take (fnd K2.ks (q.frm, K2.len q.frm)).toNat) F M rfl rfl rfl rfl tl_60_K8 rfl rfl (by exact RdSl.pre (SlOk.rd M.h6) (by intro e; rfl) _ (by omega)) (by intro e; rfl) (by simp; omega) (fun A c w M => (by (refine pend_take (by exact cell_of_blk M.h1 (gf rfl (by decide))) ?_); (refine pend_skip rfl ?_); exact pend_none)) ?_; (clear F a M; try clear w); intro A162 c162 w M a F
                      refine s_apM ((oes K2 g2.V).drop (fnd K2.ks (q.frm, K2.len q.frm) + 1).toNat) F M rfl rfl rfl rfl tl_60_K8 rfl rfl (by exact RdSl.suf (SlOk.rd M.h6) (by intro e; rfl) _ (by omega)) (by intro e; rfl) (by simp; omega) (fun A c w M => (by (refine pend_skip rfl ?_); (refine pend_skip rfl ?_); exact pend_none)) ?_; (clear F a M; try clear w); intro A168 c168 w M a F
                      refine s_fa0 F rfl rfl rfl rfl fa_64_2_K8 rfl ?_; clear F a; intro a F
                      refine s_sfL F M.f1 rfl rfl rfl sz_60_K8 rfl rfl rfl (by exact Nat.le_of_ble_eq_true rfl) (fun w M => (by (refine pend_skip rfl ?_); (refine pend_skip rfl ?_); exact pend_none)) ?_; (clear M; try clear w); intro w M
                      refine t_endM M ?_; (clear M; try clear w); intro w M
                      have M1 : Sep _ _ _ (blk b2 _ :: _) := M; replace M := M1; clear M1
                      rw [rF_upd2] at M
                      have e2 := oes_tell (K := K2) (V := g2.V) (f := q.frm) hk2
                      rw [show (fnd K2.ks (q.frm, K2.len q.frm) + 1).toNat = (fnd K2.ks (q.frm, K2.len q.frm)).toNat + 1 by omega] at F M
                      rw [e2] at F M
                      replace M := M.blkEq (o' := rO (K2.tell q.frm).n (K2.tell q.frm).t (opV (K2.tell q.frm) (⟨A168, c168, g2.V, upd1 g2.rv q.frm.toNat (A155, c155)⟩ : Rg)) (tvR (K2.tell q.frm) (Rg.rv (⟨A168, c168, g2.V, upd1 g2.rv q.frm.toNat (A155, c155)⟩ : Rg)))) (by rw [← tv_tell (v := (A155, c155))]; rfl)
                      have M1 : Sep _ _ _ (bigR _ _ :: _) := M.f5; replace M := M1; clear M1
                      have M1 : Sep _ _ _ (slR (.slice A155 _ _) _ _ _ _ :: _) := M.f3; replace M := M1; clear M1
                      have M1 : Sep _ _ _ (lR _ _ _ :: _) := M.f7; replace M := M1; clear M1
                      have M1 : Sep _ _ _ (slR (.slice A168 _ _) _ _ _ _ :: _) := M.f4; replace M := M1; clear M1
                      replace M := tell_in' (v := (A155, c155)) M hk2 (by omega)
                      have W3 := W2.tell hdu
                      have hb3 := tell_le hb2 hdu
                      have hn73 : (K2.tell q.frm).n ≤ 7 := hn72
                      have hnd3 : (K2.tell q.frm).node q.frm = true := hnd2
                      have hb30 := hb3 0
                      replace F := F.keep [0, 1, 2, 3, 4, 5, 6, 7, 10, 11, 12, 13] rfl
                      refine wp_region_t [.rd, .ind, .rd, .rd, .ind, .rd, .wr, .wr, .ind] [(0, 6), (2, 6)] (otOf [0, 1, 2, 3, 4, 5, 6, 7, 8]) mixed (by kernel_rfl) ?_
                      refine s_ldaL F rfl rfl rfl rfl ag_64_K8 rfl rfl (cells_whole M.h1) ?_; clear F a; intro a F
                      refine s_fa0 F rfl rfl rfl rfl fa_70_0_K8 rfl ?_; clear F a; intro a F
                      refine s_ldL F rfl rfl rfl rfl sc_3_K8 rfl (by exact cell_of_blk M.h5 (lit rfl)) ?_; clear F a; intro a F
                      refine s_ldaL F rfl rfl rfl rfl ag_64_K8 rfl rfl (cells_whole M.h1) ?_; clear F a; intro a F
                      refine s_fa0 F rfl rfl rfl rfl fa_70_0_K8 rfl ?_; clear F a; intro a F
                      refine s_ldL F rfl rfl rfl rfl sc_3_K8 rfl (by exact cell_of_blk M.h5 (lit rfl)) ?_; clear F a; intro a F
                      refine s_cqL F M rfl rfl rfl rfl rfl (rfl : _ = some [_, _]) cb_39_K8 (fun nd_ => c39 (⟨A168, c168, g2.V, upd1 g2.rv q.frm.toNat (A155, c155)⟩ : Rg) (K2.tell q.frm) q.frm hn73 _) (fun _ w _ M => (by (refine pend_skip rfl ?_); (refine pend_skip rfl ?_); (refine pend_take (by exact cell_of_blk M.h5 (lit rfl)) ?_); (refine pend_take (by exact cells_whole M.h1) ?_); exact pend_none)) ?_; (clear F a M; try clear w); rintro v w rfl M a F
                      rw [if_pos hnd3] at F
                      refine s_cqL F M rfl rfl rfl rfl rfl (rfl : _ = some [_, _, _]) cb_40_K8 (fun nd_ => c40 (⟨A168, c168, g2.V, upd1 g2.rv q.frm.toNat (A155, c155)⟩ : Rg) (K2.tell q.frm) (q.frm, KSt.len (K2.tell q.frm) q.frm) (by omega) _ (by exact (r_ok M.h0).o.rd)) (fun _ w _ M => (by (refine pend_skip rfl ?_); (refine pend_skip rfl ?_); (refine pend_skip rfl ?_); (refine pend_skip rfl ?_); exact pend_none)) ?_; (clear F a M; try clear w); rintro v w rfl M a F
                      refine s_I F rfl rfl rfl rfl rfl rfl ?_; clear F a; intro a F
                      refine t_endM M ?_; (clear M; try clear w); intro w M
                      refine again ((K2.tell q.frm), ((⟨A168, c168, g2.V, upd1 g2.rv q.frm.toNat (A155, c155)⟩ : Rg))) (tell_lt hdu) ⟨W3, hb3, (heq.trans (tells_step hdu)), hnd3, hn73⟩ (F.keep [7, 12, 0, 1, 2, 3, 4, 5, 6, 10, 11, 13] rfl) ?_
                      try dsimp only [List.cons_append, List.nil_append]
                      refine M.pick ?_; repeat (first | exact PkG.nil | refine PkG.cons 0 rfl rfl ?_ | refine PkG.cons 1 rfl rfl ?_ | refine PkG.cons 5 rfl rfl ?_ | refine PkG.cons 6 rfl rfl ?_ | refine PkG.cons 7 rfl rfl ?_ | refine PkG.cons 8 rfl rfl ?_)
                    ·
                      refine s_bsL F M rfl rfl rfl rfl (parts1 F rfl) (bs_61_1_K8 _) (fun b w M => (by (refine pend_skip rfl ?_); (refine pend_skip rfl ?_); (refine pend_take (by exact cell_of_blk M.h5 (gf (rF_told) (by omega))) ?_); (refine pend_take (by exact cell_of_blk M.h6 (lit rfl)) ?_); (refine pend_take (by exact cell_of_blk M.h6 (lit rfl)) ?_); exact pend_none)) ?_; (clear F a M; try clear w); intro b154 w M a F
                      replace M := M.nilT encS 9 1
                      refine s_apM (K2.T q.frm.toNat) F M rfl rfl rfl rfl tl_61_K8 rfl rfl (by exact SlOk.rd M.h2) (by intro e; rfl) (by simp; omega) (fun A c w M => (by (refine pend_take (by exact rdX2 (SlOk.rd M.h4) (by intro e; rfl) he150 rfl) ?_); (refine pend_take (by exact cell_of_blk M.h6 (gf rfl (by decide))) ?_); (refine pend_skip rfl ?_); (refine pend_skip rfl ?_); (refine pend_take (by exact cell_of_blk M.h7 (lit rfl)) ?_); exact pend_none)) ?_; (clear F a M; try clear w); intro A146 c146 w M a F
                      refine s_apE ((K2.C (q.frm, K2.len q.frm)).body) F M rfl rfl rfl rfl tl_61_K8 rfl rfl (by exact rd_blk M.h1 rfl) rfl (by simp; omega) (fun A c w M => (by (refine pend_skip rfl ?_); (refine pend_skip rfl ?_); (refine pend_skip rfl ?_); (refine pend_skip rfl ?_); (refine pend_take (by exact cell_of_blk M.h7 (lit rfl)) ?_); exact pend_none)) ?_; (clear F a M; try clear w); intro A155 c155 w M a F
                      refine s_ia F rfl rfl rfl rfl ar_62_K8 rfl rfl (by omega) (by omega) ?_; clear F a; intro a F
                      refine s_sfL F M.f6 rfl rfl rfl sz_61_K8 rfl rfl rfl (by omega) (fun w M => (by (refine pend_skip rfl ?_); (refine pend_skip rfl ?_); (refine pend_skip rfl ?_); (refine pend_skip rfl ?_); (refine pend_skip rfl ?_); exact pend_none)) ?_; (clear M; try clear w); intro w M
                      refine t_endM M ?_; (clear M; try clear w); intro w M
                      have M1 : Sep _ _ _ (blk b2 _ :: _) := M; replace M := M1; clear M1
                      rw [rF_updT] at M
                      replace M : Sep _ _ _ (blk b2 (rO K2.n K2.t (opV K2 g2) (upd1 (tvR K2 g2.rv) q.frm.toNat _)) :: _) := M
                      replace F := F.keep [0, 1, 2, 3, 4, 5, 6, 7, 10, 11, 12, 13] rfl
                      refine wp_region_t [.ind, .rd, .ind, .ind, .wr, .ind, .rd, .ind, .ind, .ind, .wr, .ind, .wr] [(6, 4)] (otOf [0, 1, 2, 3, 5, 6, 7, 8, 9, 4, 10, 11, 12]) mixed (by kernel_rfl) ?_
                      refine s_fa0 F rfl rfl rfl rfl fa_64_2_K8 rfl ?_; clear F a; intro a F
                      refine s_ldL F rfl rfl rfl rfl sc_60_K8 rfl (by exact cell_of_blk M.h0 (gf rfl (by decide))) ?_; clear F a; intro a F
                      refine s_I F rfl rfl rfl rfl rfl rfl ?_; clear F a; intro a F
                      refine s_slc F rfl rfl rfl rfl sl_60_K8 rfl rfl rfl (by exact SlOk.rd M.h5) (by omega) (by omega) (by omega) ?_; clear F a; intro a F
                      refine s_fa0 F rfl rfl rfl rfl fa_64_2_K8 rfl ?_; clear F a; intro a F
                      refine s_ldL F rfl rfl rfl rfl sc_60_K8 rfl (by exact cell_of_blk M.h0 (gf rfl (by decide))) ?_; clear F a; intro a F
                      refine s_I F rfl rfl rfl rfl rfl rfl ?_; clear F a; intro a F
                      refine s_add F rfl rfl rfl rfl rfl rfl (by unfold In64; omega) ?_; clear F a; intro a F
                      refine s_slc F rfl rfl rfl rfl sl_60_K8 rfl rfl rfl (by exact SlOk.rd M.h5) (by omega) (by omega) (by omega) ?_; clear F a; intro a F
                      replace M := M.nilT encO 106 9
                      refine s_apM ((oes K2 g2.V).take (fnd K2.ks (q.frm, K2.len q.frm)).toNat) F M rfl rfl rfl rfl tl_60_K8 rfl rfl (by exact RdSl.pre (SlOk.rd M.h6) (by intro e; rfl) _ (by omega)) (by intro e; rfl) (by simp; omega) (fun A c w M => (by (refine pend_take (by exact cell_of_blk M.h1 (gf rfl (by decide))) ?_); (refine pend_skip rfl ?_); exact pend_none)) ?_; (clear F a M; try clear w); intro A162 c162 w M a F
                      refine s_apM ((oes K2 g2.V).drop (fnd K2.ks (q.frm, K2.len q.frm) + 1).toNat) F M rfl rfl rfl rfl tl_60_K8 rfl rfl (by exact RdSl.suf (SlOk.rd M.h6) (by intro e; rfl) _ (by omega)) (by intro e; rfl) (by simp; omega) (fun A c w M => (by (refine pend_skip rfl ?_); (refine pend_skip rfl ?_); exact pend_none)) ?_; (clear F a M; try clear w); intro A168 c168 w M a F
                      refine s_fa0 F rfl rfl rfl rfl fa_64_2_K8 rfl ?_; clear F a; intro a F
                      refine s_sfL F M.f1 rfl rfl rfl sz_60_K8 rfl rfl rfl (by exact Nat.le_of_ble_eq_true rfl) (fun w M => (by (refine pend_skip rfl ?_); (refine pend_skip rfl ?_); exact pend_none)) ?_; (clear M; try clear w); intro w M
                      refine t_endM M ?_; (clear M; try clear w); intro w M
                      have M1 : Sep _ _ _ (blk b2 _ :: _) := M; replace M := M1; clear M1
                      rw [rF_upd2] at M
                      have e2 := oes_tell (K := K2) (V := g2.V) (f := q.frm) hk2
                      rw [show (fnd K2.ks (q.frm, K2.len q.frm) + 1).toNat = (fnd K2.ks (q.frm, K2.len q.frm)).toNat + 1 by omega] at F M
                      rw [e2] at F M
                      replace M := M.blkEq (o' := rO (K2.tell q.frm).n (K2.tell q.frm).t (opV (K2.tell q.frm) (⟨A168, c168, g2.V, upd1 g2.rv q.frm.toNat (A155, c155)⟩ : Rg)) (tvR (K2.tell q.frm) (Rg.rv (⟨A168, c168, g2.V, upd1 g2.rv q.frm.toNat (A155, c155)⟩ : Rg)))) (by rw [← tv_tell (v := (A155, c155))]; rfl)
                      have M1 : Sep _ _ _ (bigR _ _ :: _) := M.f5; replace M := M1; clear M1
                      have M1 : Sep _ _ _ (slR (.slice A155 _ _) _ _ _ _ :: _) := M.f3; replace M := M1; clear M1
                      have M1 : Sep _ _ _ (lR _ _ _ :: _) := M.f7; replace M := M1; clear M1
                      have M1 : Sep _ _ _ (slR (.slice A168 _ _) _ _ _ _ :: _) := M.f4; replace M := M1; clear M1
                      replace M := tell_in' (v := (A155, c155)) M hk2 (by omega)
                      have W3 := W2.tell hdu
                      have hb3 := tell_le hb2 hdu
                      have hn73 : (K2.tell q.frm).n ≤ 7 := hn72
                      have hnd3 : (K2.tell q.frm).node q.frm = true := hnd2
                      have hb30 := hb3 0
                      replace F := F.keep [0, 1, 2, 3, 4, 5, 6, 7, 10, 11, 12, 13] rfl
                      refine wp_region_t [.rd, .ind, .rd, .rd, .ind, .rd, .wr, .wr, .ind] [(0, 6), (2, 6)] (otOf [0, 1, 2, 3, 4, 5, 6, 7, 8]) mixed (by kernel_rfl) ?_
                      refine s_ldaL F rfl rfl rfl rfl ag_64_K8 rfl rfl (cells_whole M.h1) ?_; clear F a; intro a F
                      refine s_fa0 F rfl rfl rfl rfl fa_70_0_K8 rfl ?_; clear F a; intro a F
                      refine s_ldL F rfl rfl rfl rfl sc_3_K8 rfl (by exact cell_of_blk M.h5 (lit rfl)) ?_; clear F a; intro a F
                      refine s_ldaL F rfl rfl rfl rfl ag_64_K8 rfl rfl (cells_whole M.h1) ?_; clear F a; intro a F
                      refine s_fa0 F rfl rfl rfl rfl fa_70_0_K8 rfl ?_; clear F a; intro a F
                      refine s_ldL F rfl rfl rfl rfl sc_3_K8 rfl (by exact cell_of_blk M.h5 (lit rfl)) ?_; clear F a; intro a F
                      refine s_cqL F M rfl rfl rfl rfl rfl (rfl : _ = some [_, _]) cb_39_K8 (fun nd_ => c39 (⟨A168, c168, g2.V, upd1 g2.rv q.frm.toNat (A155, c155)⟩ : Rg) (K2.tell q.frm) q.frm hn73 _) (fun _ w _ M => (by (refine pend_skip rfl ?_); (refine pend_skip rfl ?_); (refine pend_take (by exact cell_of_blk M.h5 (lit rfl)) ?_); (refine pend_take (by exact cells_whole M.h1) ?_); exact pend_none)) ?_; (clear F a M; try clear w); rintro v w rfl M a F
                      rw [if_pos hnd3] at F
                      refine s_cqL F M rfl rfl rfl rfl rfl (rfl : _ = some [_, _, _]) cb_40_K8 (fun nd_ => c40 (⟨A168, c168, g2.V, upd1 g2.rv q.frm.toNat (A155, c155)⟩ : Rg) (K2.tell q.frm) (q.frm, KSt.len (K2.tell q.frm) q.frm) (by omega) _ (by exact (r_ok M.h0).o.rd)) (fun _ w _ M => (by (refine pend_skip rfl ?_); (refine pend_skip rfl ?_); (refine pend_skip rfl ?_); (refine pend_skip rfl ?_); exact pend_none)) ?_; (clear F a M; try clear w); rintro v w rfl M a F
                      refine s_I F rfl rfl rfl rfl rfl rfl ?_; clear F a; intro a F
                      refine t_endM M ?_; (clear M; try clear w); intro w M
                      refine again ((K2.tell q.frm), ((⟨A168, c168, g2.V, upd1 g2.rv q.frm.toNat (A155, c155)⟩ : Rg))) (tell_lt hdu) ⟨W3, hb3, (heq.trans (tells_step hdu)), hnd3, hn73⟩ (F.keep [7, 12, 0, 1, 2, 3, 4, 5, 6, 10, 11, 13] rfl) ?_
                      try dsimp only [List.cons_append, List.nil_append]
                      refine M.pick ?_; repeat (first | exact PkG.nil | refine PkG.cons 0 rfl rfl ?_ | refine PkG.cons 1 rfl rfl ?_ | refine PkG.cons 5 rfl rfl ?_ | refine PkG.cons 6 rfl rfl ?_ | refine PkG.cons 7 rfl rfl ?_ | refine PkG.cons 8 rfl rfl ?_)
                  ·
                    clear F; intro hc14 F
                    try rw [hc14] at F
                    skip
                    have hdu : K2.due q.frm = false := by
                      unfold KSt.due
                      first
                        | (rw [show (K2.C (q.frm, K2.len q.frm)).done = false from by assumption]; simp)
                        | (rw [decide_eq_false (fnd_neg (by omega))]; rfl)
                    refine wp_exit ?_
                    refine wp_seq ?_
                    replace F := F.keep [0, 1, 2, 3, 4, 5, 6, 7, 10, 11, 12, 13] rfl
                    refine wp_region_l [.rd, .ind, .wr, .ind] ([0, 1, 2, 3]) rfl ?_
                    refine s_lda F rfl rfl rfl rfl ag_64_K8 rfl rfl (cells_whole M.h0) ?_; clear F a; intro a F
                    refine s_I F rfl rfl rfl rfl rfl rfl ?_; clear F a; intro a F
                    refine s_stW F M.f2 rfl rfl rfl sz_64_K8 rfl rfl rfl rfl rfl ?_; (clear M; try clear w); intro w M
                    refine s_I F rfl rfl rfl rfl rfl rfl ?_; clear F a; intro a F
                    refine t_endM M ?_; (clear M; try clear w); intro w M
                    refine wp_ret ?_
                    refine rt2 F rfl (by exact rv_a F rfl ag_64_K8 rfl (cells_whole M.h0)) (rv_t F rfl) ?_
                    -- end 4
                    have ht : K.take q = (K2, K.out q) := by unfold KSt.take; rw [if_pos hm, heq, tells_stop hdu]
                    refine ⟨_, (g2, (v7, u7)), rfl, ?_, ?_⟩
                    · (rw [ht]; rfl)
                    rw [ht]
                    refine M.pick ?_; repeat (first | exact PkG.nil | refine PkG.cons 3 rfl rfl ?_ | refine PkG.cons 5 rfl rfl ?_)
                ·
                  clear F; intro hc15 F
                  try rw [hc15] at F
                  replace hc15 := of_decide_eq_false hc15
                  have hdu : K2.due q.frm = false := by unfold KSt.due; rw [decide_eq_false (fnd_neg (by omega))]; rfl
                  refine s_no F rfl rfl rfl rfl ?_; clear F a; intro a F
                  refine s_no F rfl rfl rfl rfl ?_; clear F a; intro a F
                  refine s_no F rfl rfl rfl rfl ?_; clear F a; intro a F
                  refine s_no F rfl rfl rfl rfl ?_; clear F a; intro a F
                  refine s_no F rfl rfl rfl rfl ?_; clear F a; intro a F
                  refine s_no F rfl rfl rfl rfl ?_; clear F a; intro a F
                  refine s_no F rfl rfl rfl rfl ?_; clear F a; intro a F
                  refine s_I F rfl rfl rfl rfl rfl rfl ?_; clear F a; intro a F
                  refine t_endM M ?_; (clear M; try clear w); intro w M
                  refine c_f F rfl ?_
                  refine wp_exit ?_
                  refine wp_seq ?_
                  replace F := F.keep [0, 1, 2, 3, 4, 5, 6, 7, 10, 11, 12, 13] rfl
                  refine wp_region_l [.rd, .ind, .wr, .ind] ([0, 1, 2, 3]) rfl ?_
                  refine s_lda F rfl rfl rfl rfl ag_64_K8 rfl rfl (cells_whole M.h0) ?_; clear F a; intro a F
                  refine s_I F rfl rfl rfl rfl rfl rfl ?_; clear F a; intro a F
                  refine s_stW F M.f2 rfl rfl rfl sz_64_K8 rfl rfl rfl rfl rfl ?_; (clear M; try clear w); intro w M
                  refine s_I F rfl rfl rfl rfl rfl rfl ?_; clear F a; intro a F
                  refine t_endM M ?_; (clear M; try clear w); intro w M
                  refine wp_ret ?_
                  refine rt2 F rfl (by exact rv_a F rfl ag_64_K8 rfl (cells_whole M.h0)) (rv_t F rfl) ?_
                  -- end 5
                  have ht : K.take q = (K2, K.out q) := by unfold KSt.take; rw [if_pos hm, heq, tells_stop hdu]
                  refine ⟨_, (g2, (v7, u7)), rfl, ?_, ?_⟩
                  · (rw [ht]; rfl)
                  rw [ht]
                  refine M.pick ?_; repeat (first | exact PkG.nil | refine PkG.cons 3 rfl rfl ?_ | refine PkG.cons 5 rfl rfl ?_)
end Go.Proofs.Ytibomfgeemhogaa
