/- V5 of the seat. -/
import Derived.Test.YtboibdmflblphaaV4
namespace Go.Proofs.Ytboibdmflblphaa
open Go Fw
theorem cb_20_V5 : callB Try.prog 20 = true := by kernel_rfl
theorem cb_34_V5 : callB Try.prog 34 = true := by kernel_rfl
theorem cb_22_V5 : callB Try.prog 22 = true := by kernel_rfl
theorem sl_22_V5 : slcB Try.prog 22 = some (32, 5) := by kernel_rfl
theorem ag_32_V5 : aggB Try.prog 32 = some 5 := by kernel_rfl
theorem zr_32_V5 : zeroB Try.prog 32 = some (.agg #[.int .i64 0, .int .i64 0, .int .i64 0, .int .i64 0, .string { data := #[] }]) := by kernel_rfl
theorem sz_32_V5 : sizeB Try.prog 32 = some 5 := by kernel_rfl
theorem fa_32_0_V5 : FA Try.prog 32 0 0 := fun _ _ _ => by kernel_rfl
theorem sc_3_V5 : scalB Try.prog 3 = true := by kernel_rfl
theorem fa_32_2_V5 : FA Try.prog 32 2 2 := fun _ _ _ => by kernel_rfl
theorem cb_26_V5 : callB Try.prog 26 = true := by kernel_rfl
theorem cb_25_V5 : callB Try.prog 25 = true := by kernel_rfl
theorem cb_28_V5 : callB Try.prog 28 = true := by kernel_rfl
theorem fa_32_4_V5 : FA Try.prog 32 4 4 := fun _ _ _ => by kernel_rfl
theorem sc_9_V5 : scalB Try.prog 9 = true := by kernel_rfl
theorem cb_21_V5 : callB Try.prog 21 = true := by kernel_rfl
open VoteM
set_option maxRecDepth 100000 in
set_option maxHeartbeats 4000000 in
theorem law5c (n t : Int) (l : List Wrd) (v : Value) (w0 : World) (hr : RdSl w0.heap v l.length 5 (l.flatMap encW)) (h : few l) (hq : quorum n t ≠ 0) : Cl Try.prog 5 #[.int .i64 n, .int .i64 t, v] w0 (RetQ w0 fun v => v = .bool true) := by
  have M : Sep (fun _ => False) w0 w0 _ := Sep.nil _ w0
  have hro := (ro_of hr)
  obtain ⟨A, cc, rfl, hcc⟩ := hr.form
  have hl60 := h.1
  refine enter (vs := [_, _, _]) Try.func5 rfl rfl rfl ?_
  intro a F
  refine wp_seq ?_
  refine wp_region_l [.ind] ([0]) rfl ?_
  refine s_I F rfl rfl rfl rfl rfl rfl ?_; clear F a; intro a F
  refine t_endM M ?_; (clear M; try clear w); intro w M
  refine wp_seq ?_
  refine wp_seq ?_
  refine wp_region_l [.ind, .wr, .ind, .ind, .ind, .ind, .wr, .ind, .ind] ([0, 1, 2, 3, 4, 5, 6, 7, 8]) rfl ?_
  refine s_I F rfl rfl rfl rfl rfl rfl ?_; clear F a; intro a F
  refine s_cq F M rfl rfl rfl rfl rfl (rfl : _ = some [_]) cb_20_V5 (fun nd_ => c20y _ h (M.chg.ro hro)) ?_; (clear F a M; try clear w); rintro v w rfl M a F
  refine s_I F rfl rfl rfl rfl rfl rfl ?_; clear F a; intro a F
  replace F : Fr _ _ ((16, Value.bool false) :: _) := F
  refine s_I F rfl rfl rfl rfl rfl rfl ?_; clear F a; intro a F
  refine s_I F rfl rfl rfl rfl rfl rfl ?_; clear F a; intro a F
  refine s_I F rfl rfl rfl rfl rfl rfl ?_; clear F a; intro a F
  refine s_cq F M rfl rfl rfl rfl rfl (rfl : _ = some [_, _]) cb_34_V5 (fun nd_ => c34 _ _ _) ?_; (clear F a M; try clear w); rintro v w rfl M a F
  refine s_bin F rfl rfl rfl rfl rfl rfl rfl ?_; clear F a; intro a F
  refine s_I F rfl rfl rfl rfl rfl rfl ?_; clear F a; intro a F
  refine t_endM M ?_; (clear M; try clear w); intro w M
  refine c_if F rfl ?_ ?_
  ·
    clear F; intro hc0 F
    try rw [hc0] at F
    replace hc0 := of_decide_eq_true hc0
    exact absurd hc0 hq
  ·
    clear F; intro hc1 F
    try rw [hc1] at F
    replace hc1 := of_decide_eq_false hc1
    refine wp_skip ?_
    refine wp_seq ?_
    replace F := F.keep [0, 1, 2, 6] rfl
    refine wp_region_l [.ind, .ind, .wr, .ind] ([0, 1, 2, 3]) rfl ?_
    refine s_I F rfl rfl rfl rfl rfl rfl ?_; clear F a; intro a F
    refine s_I F rfl rfl rfl rfl rfl rfl ?_; clear F a; intro a F
    refine s_call (m := []) F M rfl rfl rfl rfl rfl (rfl : _ = some [_, _]) cb_22_V5 (fun nd_ => c22v hq _) ?_; (clear F a M; try clear w); rintro v b w rfl M a F; (try simp only [List.cons_append, List.nil_append] at M)
    refine s_I F rfl rfl rfl rfl rfl rfl ?_; clear F a; intro a F
    refine t_endM M ?_; (clear M; try clear w); intro w M
    refine wp_seq ?_
    refine wp_seq ?_
    replace F := F.keep [0, 1, 2, 6, 7] rfl
    refine wp_region_l [.ind] ([0]) rfl ?_
    refine s_I F rfl rfl rfl rfl rfl rfl ?_; clear F a; intro a F
    refine t_endM M ?_; (clear M; try clear w); intro w M
    refine wp_block ?_
    have M1 : Sep _ _ _ (votR b _ _ _ _ :: _) := M; replace M := M1; clear M1
    refine loopX (X := (Int) × (List Wrd) × (Value)) F [0, 1, 2, 7] rfl (fun ((i, L, vv) : (Int) × (List Wrd) × (Value)) => (0 ≤ i) ∧ (i ≤ l.length) ∧ (VoteM.Wf n t L)) (fun ((i, L, vv) : (Int) × (List Wrd) × (Value)) => [(8, .int .i64 i)]) (fun ((i, L, vv) : (Int) × (List Wrd) × (Value)) => [votR b vv n t L]) (fun ((i, L, vv) : (Int) × (List Wrd) × (Value)) => l.length - i.toNat) ((0), ([]), (_)) M ⟨(by omega), (by omega), (.nil hq)⟩ (F.keep [8, 0, 1, 2, 7] rfl) ?_
    clear F M; clear a; (try clear w)
    rintro ⟨i, L, vv⟩ a w ⟨i0, i1, W⟩ F M; try dsimp only at F M
    try simp only [List.cons_append, List.nil_append] at F M
    try dsimp only at i0 i1 W
    have hln := W.len
    have hn7 := W.n7
    refine wp_seq ?_
    refine wp_seq ?_
    refine wp_region_l [.ind, .ind, .ind, .ind] ([0, 1, 2, 3]) rfl ?_
    refine s_I F rfl rfl rfl rfl rfl rfl ?_; clear F a; intro a F
    refine s_I F rfl rfl rfl rfl rfl rfl ?_; clear F a; intro a F
    refine s_len F rfl rfl rfl rfl sl_22_V5 rfl ?_; clear F a; intro a F
    refine s_bin F rfl rfl rfl rfl rfl rfl rfl ?_; clear F a; intro a F
    refine t_endM M ?_; (clear M; try clear w); intro w M
    refine c_if F rfl ?_ ?_
    ·
      clear F; intro hc2 F
      try rw [hc2] at F
      replace hc2 := of_decide_eq_true hc2
      refine wp_skip ?_
      refine wp_seq ?_
      refine wp_block ?_
      refine wp_seq ?_
      replace F := F.keep [0, 1, 2, 7, 8] rfl
      refine wp_region_l [.ind, .ind, .ind, .rd, .wr, .wr] ([0, 1, 2, 3, 4, 5]) rfl ?_
      refine s_I F rfl rfl rfl rfl rfl rfl ?_; clear F a; intro a F
      refine s_I F rfl rfl rfl rfl rfl rfl ?_; clear F a; intro a F
      refine s_ix F rfl rfl rfl rfl sl_22_V5 rfl rfl (by exact M.chg.ro hro) (by omega) (by omega) ?_; clear F a; intro e35 he35 a F
      refine s_lda F rfl rfl rfl rfl ag_32_V5 rfl rfl (rdsX (M.chg.ro hro) (by intro e; rfl) he35) ?_; clear F a; intro a F
      refine s_alc F M rfl rfl rfl rfl zr_32_V5 rfl ?_; (clear F a M; try clear w); intro b9 w M a F
      refine s_stW F M rfl rfl rfl sz_32_V5 rfl rfl rfl rfl rfl ?_; (clear M; try clear w); intro w M
      refine t_endM M ?_; (clear M; try clear w); intro w M
      refine wp_seq ?_
      replace F := F.keep [0, 1, 2, 7, 8, 9] rfl
      refine wp_region_l [.ind, .ind, .rd, .ind, .rd, .wr, .ind, .ind, .ind, .ind, .ind] ([0, 1, 2, 3, 4, 5, 6, 7, 8, 9, 10]) rfl ?_
      refine s_I F rfl rfl rfl rfl rfl rfl ?_; clear F a; intro a F
      refine s_fa0 F rfl rfl rfl rfl fa_32_0_V5 rfl ?_; clear F a; intro a F
      refine s_ld F rfl rfl rfl rfl sc_3_V5 rfl (by exact cell_of_blk M.h0 (lit rfl)) ?_; clear F a; intro a F
      refine s_fa0 F rfl rfl rfl rfl fa_32_2_V5 rfl ?_; clear F a; intro a F
      refine s_ld F rfl rfl rfl rfl sc_3_V5 rfl (by exact cell_of_blk M.h0 (lit rfl)) ?_; clear F a; intro a F
      refine s_cq F M rfl rfl rfl rfl rfl (rfl : _ = some [_, _, _]) cb_26_V5 (fun nd_ => c26v _ _ _ (by exact M.h1)) ?_; (clear F a M; try clear w); rintro v w rfl M a F
      refine s_I F rfl rfl rfl rfl rfl rfl ?_; clear F a; intro a F
      refine s_I F rfl rfl rfl rfl rfl rfl ?_; clear F a; intro a F
      refine s_I F rfl rfl rfl rfl rfl rfl ?_; clear F a; intro a F
      refine s_I F rfl rfl rfl rfl rfl rfl ?_; clear F a; intro a F
      refine s_I F rfl rfl rfl rfl rfl rfl ?_; clear F a; intro a F
      refine t_endM M ?_; (clear M; try clear w); intro w M
      refine wp_seq ?_
      replace F := F.keep [0, 1, 2, 7, 8, 9, 10, 11] rfl
      refine wp_region_l [.ind, .rd, .wr] ([0, 1, 2]) rfl ?_
      refine s_I F rfl rfl rfl rfl rfl rfl ?_; clear F a; intro a F
      refine s_lda F rfl rfl rfl rfl ag_32_V5 rfl rfl (cells_whole M.h0) ?_; clear F a; intro a F
      have M1 : Sep _ _ _ (votR b _ _ _ _ :: _) := M.f1; replace M := M1; clear M1
      refine s_call (m := [_]) F M rfl rfl rfl rfl rfl (rfl : _ = some [_, _]) cb_25_V5 (fun nd_ => c25v (b := b) (n := n) (t := t) (L := L) e35 _ (M.drewN nd_).own.one) ?_; (clear F a M; try clear w); rintro v v5 w rfl M a F; (try simp only [List.cons_append, List.nil_append] at M)
      have W2 := W.put e35
      have hln2 := W2.len
      refine t_endM M ?_; (clear M; try clear w); intro w M
      refine wp_seq ?_
      replace F := F.keep [0, 1, 2, 7, 8, 9, 10, 11] rfl
      refine wp_region_l [.ind, .ind, .rd, .ind, .rd, .wr, .ind, .ind, .ind, .ind, .ind] ([0, 1, 2, 3, 4, 5, 6, 7, 8, 9, 10]) rfl ?_
      refine s_I F rfl rfl rfl rfl rfl rfl ?_; clear F a; intro a F
      refine s_fa0 F rfl rfl rfl rfl fa_32_0_V5 rfl ?_; clear F a; intro a F
      refine s_ld F rfl rfl rfl rfl sc_3_V5 rfl (by exact cell_of_blk M.h1 (lit rfl)) ?_; clear F a; intro a F
      refine s_fa0 F rfl rfl rfl rfl fa_32_2_V5 rfl ?_; clear F a; intro a F
      refine s_ld F rfl rfl rfl rfl sc_3_V5 rfl (by exact cell_of_blk M.h1 (lit rfl)) ?_; clear F a; intro a F
      refine s_cq F M rfl rfl rfl rfl rfl (rfl : _ = some [_, _, _]) cb_26_V5 (fun nd_ => c26v _ _ _ (by exact M.h0)) ?_; (clear F a M; try clear w); rintro v w rfl M a F
      refine s_I F rfl rfl rfl rfl rfl rfl ?_; clear F a; intro a F
      refine s_I F rfl rfl rfl rfl rfl rfl ?_; clear F a; intro a F
      refine s_I F rfl rfl rfl rfl rfl rfl ?_; clear F a; intro a F
      refine s_I F rfl rfl rfl rfl rfl rfl ?_; clear F a; intro a F
      refine s_I F rfl rfl rfl rfl rfl rfl ?_; clear F a; intro a F
      refine t_endM M ?_; (clear M; try clear w); intro w M
      refine wp_seq ?_
      replace F := F.keep [0, 1, 2, 7, 8, 9, 10, 11, 12, 13] rfl
      refine wp_region_l [.ind, .ind, .ind, .ind, .ind, .ind, .ind, .ind, .ind, .ind, .ind, .ind, .ind, .ind, .ind, .rd, .ind, .rd, .ind, .wr, .ind, .ind, .wr, .ind, .ind, .ind, .ind, .ind, .ind, .ind, .ind, .ind, .rd, .ind, .rd, .ind, .rd, .wr, .ind, .ind, .wr, .ind, .ind, .ind] ([0, 1, 2, 3, 4, 5, 6, 7, 8, 9, 10, 11, 12, 13, 14, 15, 16, 17, 18, 19, 20, 21, 22, 23, 24, 25, 26, 27, 28, 29, 30, 31, 32, 33, 34, 35, 36, 37, 38, 39, 40, 41, 42, 43]) rfl ?_
      refine s_I F rfl rfl rfl rfl rfl rfl ?_; clear F a; intro a F
      refine s_I F rfl rfl rfl rfl rfl rfl ?_; clear F a; intro a F
      refine bsplit F 59 rfl ?_ ?_
      ·
        clear F; intro hc3 F
        try rw [hc3] at F
        skip
        refine s_I F rfl rfl rfl rfl rfl rfl ?_; clear F a; intro a F
        refine s_I F rfl rfl rfl rfl rfl rfl ?_; clear F a; intro a F
        refine s_I F rfl rfl rfl rfl rfl rfl ?_; clear F a; intro a F
        refine bsplit F 62 rfl ?_ ?_
        ·
          clear F; intro hc4 F
          try rw [hc4] at F
          replace hc4 := nt hc4
          exfalso
          have h9 := most_keep W (w := e35) (k := e35.kind) (r := e35.round) (by assumption)
          simp_all
        ·
          clear F; intro hc5 F
          try rw [hc5] at F
          replace hc5 := nf hc5
          rw [hc5] at F
          refine s_I F rfl rfl rfl rfl rfl rfl ?_; clear F a; intro a F
          refine s_I F rfl rfl rfl rfl rfl rfl ?_; clear F a; intro a F
          refine s_bin F rfl rfl rfl rfl rfl rfl rfl ?_; clear F a; intro a F
          refine s_I F rfl rfl rfl rfl rfl rfl ?_; clear F a; intro a F
          refine s_I F rfl rfl rfl rfl rfl rfl ?_; clear F a; intro a F
          refine s_I F rfl rfl rfl rfl rfl rfl ?_; clear F a; intro a F
          refine bsplit F 68 rfl ?_ ?_
          ·
            clear F; intro hc6 F
            try rw [hc6] at F
            replace hc6 := nd1 hc6
            exfalso
            have h9 := most_keep W (w := e35) (k := e35.kind) (r := e35.round) (by assumption)
            simp_all
          ·
            clear F; intro hc7 F
            try rw [hc7] at F
            replace hc7 := nd0 hc7
            refine s_I F rfl rfl rfl rfl rfl rfl ?_; clear F a; intro a F
            refine s_I F rfl rfl rfl rfl rfl rfl ?_; clear F a; intro a F
            refine s_I F rfl rfl rfl rfl rfl rfl ?_; clear F a; intro a F
            refine s_fa0 F rfl rfl rfl rfl fa_32_0_V5 rfl ?_; clear F a; intro a F
            refine s_ld F rfl rfl rfl rfl sc_3_V5 rfl (by exact cell_of_blk M.h1 (lit rfl)) ?_; clear F a; intro a F
            refine s_fa0 F rfl rfl rfl rfl fa_32_2_V5 rfl ?_; clear F a; intro a F
            refine s_ld F rfl rfl rfl rfl sc_3_V5 rfl (by exact cell_of_blk M.h1 (lit rfl)) ?_; clear F a; intro a F
            refine s_I F rfl rfl rfl rfl rfl rfl ?_; clear F a; intro a F
            refine s_cq F M rfl rfl rfl rfl rfl (rfl : _ = some [_, _, _, _]) cb_28_V5 (fun nd_ => c28v _ _ _ _ (by exact M.h0)) ?_; (clear F a M; try clear w); rintro v w rfl M a F
            refine s_I F rfl rfl rfl rfl rfl rfl ?_; clear F a; intro a F
            refine s_I F rfl rfl rfl rfl rfl rfl ?_; clear F a; intro a F
            refine s_cq F M rfl rfl rfl rfl rfl (rfl : _ = some [_, _]) cb_34_V5 (fun nd_ => c34 _ _ _) ?_; (clear F a M; try clear w); rintro v w rfl M a F
            refine s_bin F rfl rfl rfl rfl rfl rfl rfl ?_; clear F a; intro a F
            refine s_I F rfl rfl rfl rfl rfl rfl ?_; clear F a; intro a F
            refine s_I F rfl rfl rfl rfl rfl rfl ?_; clear F a; intro a F
            refine s_I F rfl rfl rfl rfl rfl rfl ?_; clear F a; intro a F
            refine bsplit F 84 rfl ?_ ?_
            ·
              clear F; intro hc8 F
              try rw [hc8] at F
              replace hc8 := of_decide_eq_true hc8
              exfalso
              have h9 := most_ge (n := n) (t := t) (L := putV n L e35) (k := e35.kind) (r := e35.round) (by assumption)
              omega
            ·
              clear F; intro hc9 F
              try rw [hc9] at F
              replace hc9 := of_decide_eq_false hc9
              refine s_I F rfl rfl rfl rfl rfl rfl ?_; clear F a; intro a F
              refine s_I F rfl rfl rfl rfl rfl rfl ?_; clear F a; intro a F
              refine s_I F rfl rfl rfl rfl rfl rfl ?_; clear F a; intro a F
              refine s_no F rfl rfl rfl rfl ?_; clear F a; intro a F
              refine s_no F rfl rfl rfl rfl ?_; clear F a; intro a F
              refine s_no F rfl rfl rfl rfl ?_; clear F a; intro a F
              refine s_no F rfl rfl rfl rfl ?_; clear F a; intro a F
              refine s_no F rfl rfl rfl rfl ?_; clear F a; intro a F
              refine s_no F rfl rfl rfl rfl ?_; clear F a; intro a F
              refine s_no F rfl rfl rfl rfl ?_; clear F a; intro a F
              refine s_no F rfl rfl rfl rfl ?_; clear F a; intro a F
              refine s_no F rfl rfl rfl rfl ?_; clear F a; intro a F
              refine s_no F rfl rfl rfl rfl ?_; clear F a; intro a F
              refine s_no F rfl rfl rfl rfl ?_; clear F a; intro a F
              refine s_no F rfl rfl rfl rfl ?_; clear F a; intro a F
              refine s_I F rfl rfl rfl rfl rfl rfl ?_; clear F a; intro a F
              refine s_I F rfl rfl rfl rfl rfl rfl ?_; clear F a; intro a F
              refine t_endM M ?_; (clear M; try clear w); intro w M
              refine c_f F rfl ?_
              refine wp_skip ?_
              replace F := F.keep [0, 1, 2, 7, 8, 9, 10, 11, 12, 13] rfl
              refine wp_region_l [.ind, .ind, .ind] ([0, 1, 2]) rfl ?_
              refine s_I F rfl rfl rfl rfl rfl rfl ?_; clear F a; intro a F
              refine s_add F rfl rfl rfl rfl rfl rfl (by unfold In64; omega) ?_; clear F a; intro a F
              refine s_I F rfl rfl rfl rfl rfl rfl ?_; clear F a; intro a F
              refine t_endM M ?_; (clear M; try clear w); intro w M
              refine again ((i + 1), (putV n L e35), (v5)) (by show _ < _; (try dsimp only); omega) ⟨(by omega), (by assumption), (W.put _)⟩ (F.keep [8, 0, 1, 2, 7] rfl) ?_
              try dsimp only [List.cons_append, List.nil_append]
              refine M.pick ?_; repeat (first | exact PkG.nil | refine PkG.cons 0 rfl rfl ?_)
      ·
        clear F; intro hc10 F
        try rw [hc10] at F
        skip
        refine s_no F rfl rfl rfl rfl ?_; clear F a; intro a F
        refine s_no F rfl rfl rfl rfl ?_; clear F a; intro a F
        refine s_no F rfl rfl rfl rfl ?_; clear F a; intro a F
        refine s_no F rfl rfl rfl rfl ?_; clear F a; intro a F
        refine s_no F rfl rfl rfl rfl ?_; clear F a; intro a F
        refine s_no F rfl rfl rfl rfl ?_; clear F a; intro a F
        refine s_no F rfl rfl rfl rfl ?_; clear F a; intro a F
        refine s_I F rfl rfl rfl rfl rfl rfl ?_; clear F a; intro a F
        refine s_I F rfl rfl rfl rfl rfl rfl ?_; clear F a; intro a F
        refine s_I F rfl rfl rfl rfl rfl rfl ?_; clear F a; intro a F
        refine s_I F rfl rfl rfl rfl rfl rfl ?_; clear F a; intro a F
        refine bsplit F 70 rfl ?_ ?_
        ·
          clear F; intro hc11 F
          try rw [hc11] at F
          skip
          refine s_I F rfl rfl rfl rfl rfl rfl ?_; clear F a; intro a F
          refine s_fa0 F rfl rfl rfl rfl fa_32_0_V5 rfl ?_; clear F a; intro a F
          refine s_ld F rfl rfl rfl rfl sc_3_V5 rfl (by exact cell_of_blk M.h1 (lit rfl)) ?_; clear F a; intro a F
          refine s_fa0 F rfl rfl rfl rfl fa_32_2_V5 rfl ?_; clear F a; intro a F
          refine s_ld F rfl rfl rfl rfl sc_3_V5 rfl (by exact cell_of_blk M.h1 (lit rfl)) ?_; clear F a; intro a F
          refine s_I F rfl rfl rfl rfl rfl rfl ?_; clear F a; intro a F
          refine s_cq F M rfl rfl rfl rfl rfl (rfl : _ = some [_, _, _, _]) cb_28_V5 (fun nd_ => c28v _ _ _ _ (by exact M.h0)) ?_; (clear F a M; try clear w); rintro v w rfl M a F
          refine s_I F rfl rfl rfl rfl rfl rfl ?_; clear F a; intro a F
          refine s_I F rfl rfl rfl rfl rfl rfl ?_; clear F a; intro a F
          refine s_cq F M rfl rfl rfl rfl rfl (rfl : _ = some [_, _]) cb_34_V5 (fun nd_ => c34 _ _ _) ?_; (clear F a M; try clear w); rintro v w rfl M a F
          refine s_bin F rfl rfl rfl rfl rfl rfl rfl ?_; clear F a; intro a F
          refine s_I F rfl rfl rfl rfl rfl rfl ?_; clear F a; intro a F
          refine s_I F rfl rfl rfl rfl rfl rfl ?_; clear F a; intro a F
          refine s_I F rfl rfl rfl rfl rfl rfl ?_; clear F a; intro a F
          refine bsplit F 84 rfl ?_ ?_
          ·
            clear F; intro hc12 F
            try rw [hc12] at F
            replace hc12 := of_decide_eq_true hc12
            exfalso
            have h9 := most_ge (n := n) (t := t) (L := putV n L e35) (k := e35.kind) (r := e35.round) (by assumption)
            omega
          ·
            clear F; intro hc13 F
            try rw [hc13] at F
            replace hc13 := of_decide_eq_false hc13
            refine s_I F rfl rfl rfl rfl rfl rfl ?_; clear F a; intro a F
            refine s_I F rfl rfl rfl rfl rfl rfl ?_; clear F a; intro a F
            refine s_I F rfl rfl rfl rfl rfl rfl ?_; clear F a; intro a F
            refine s_no F rfl rfl rfl rfl ?_; clear F a; intro a F
            refine s_no F rfl rfl rfl rfl ?_; clear F a; intro a F
            refine s_no F rfl rfl rfl rfl ?_; clear F a; intro a F
            refine s_no F rfl rfl rfl rfl ?_; clear F a; intro a F
            refine s_no F rfl rfl rfl rfl ?_; clear F a; intro a F
            refine s_no F rfl rfl rfl rfl ?_; clear F a; intro a F
            refine s_no F rfl rfl rfl rfl ?_; clear F a; intro a F
            refine s_no F rfl rfl rfl rfl ?_; clear F a; intro a F
            refine s_no F rfl rfl rfl rfl ?_; clear F a; intro a F
            refine s_no F rfl rfl rfl rfl ?_; clear F a; intro a F
            refine s_no F rfl rfl rfl rfl ?_; clear F a; intro a F
            refine s_no F rfl rfl rfl rfl ?_; clear F a; intro a F
            refine s_I F rfl rfl rfl rfl rfl rfl ?_; clear F a; intro a F
            refine s_I F rfl rfl rfl rfl rfl rfl ?_; clear F a; intro a F
            refine t_endM M ?_; (clear M; try clear w); intro w M
            refine c_f F rfl ?_
            refine wp_skip ?_
            replace F := F.keep [0, 1, 2, 7, 8, 9, 10, 11, 12, 13] rfl
            refine wp_region_l [.ind, .ind, .ind] ([0, 1, 2]) rfl ?_
            refine s_I F rfl rfl rfl rfl rfl rfl ?_; clear F a; intro a F
            refine s_add F rfl rfl rfl rfl rfl rfl (by unfold In64; omega) ?_; clear F a; intro a F
            refine s_I F rfl rfl rfl rfl rfl rfl ?_; clear F a; intro a F
            refine t_endM M ?_; (clear M; try clear w); intro w M
            refine again ((i + 1), (putV n L e35), (v5)) (by show _ < _; (try dsimp only); omega) ⟨(by omega), (by assumption), (W.put _)⟩ (F.keep [8, 0, 1, 2, 7] rfl) ?_
            try dsimp only [List.cons_append, List.nil_append]
            refine M.pick ?_; repeat (first | exact PkG.nil | refine PkG.cons 0 rfl rfl ?_)
        ·
          clear F; intro hc14 F
          try rw [hc14] at F
          skip
          refine s_no F rfl rfl rfl rfl ?_; clear F a; intro a F
          refine s_no F rfl rfl rfl rfl ?_; clear F a; intro a F
          refine s_no F rfl rfl rfl rfl ?_; clear F a; intro a F
          refine s_no F rfl rfl rfl rfl ?_; clear F a; intro a F
          refine s_no F rfl rfl rfl rfl ?_; clear F a; intro a F
          refine s_no F rfl rfl rfl rfl ?_; clear F a; intro a F
          refine s_no F rfl rfl rfl rfl ?_; clear F a; intro a F
          refine s_no F rfl rfl rfl rfl ?_; clear F a; intro a F
          refine s_no F rfl rfl rfl rfl ?_; clear F a; intro a F
          refine s_no F rfl rfl rfl rfl ?_; clear F a; intro a F
          refine s_no F rfl rfl rfl rfl ?_; clear F a; intro a F
          refine s_I F rfl rfl rfl rfl rfl rfl ?_; clear F a; intro a F
          refine s_I F rfl rfl rfl rfl rfl rfl ?_; clear F a; intro a F
          refine s_I F rfl rfl rfl rfl rfl rfl ?_; clear F a; intro a F
          refine s_I F rfl rfl rfl rfl rfl rfl ?_; clear F a; intro a F
          refine s_I F rfl rfl rfl rfl rfl rfl ?_; clear F a; intro a F
          refine s_I F rfl rfl rfl rfl rfl rfl ?_; clear F a; intro a F
          refine s_I F rfl rfl rfl rfl rfl rfl ?_; clear F a; intro a F
          refine s_fa0 F rfl rfl rfl rfl fa_32_0_V5 rfl ?_; clear F a; intro a F
          refine s_ld F rfl rfl rfl rfl sc_3_V5 rfl (by exact cell_of_blk M.h1 (lit rfl)) ?_; clear F a; intro a F
          refine s_fa0 F rfl rfl rfl rfl fa_32_2_V5 rfl ?_; clear F a; intro a F
          refine s_ld F rfl rfl rfl rfl sc_3_V5 rfl (by exact cell_of_blk M.h1 (lit rfl)) ?_; clear F a; intro a F
          refine s_fa0 F rfl rfl rfl rfl fa_32_4_V5 rfl ?_; clear F a; intro a F
          refine s_ld F rfl rfl rfl rfl sc_9_V5 rfl (by exact cell_of_blk M.h1 (lit rfl)) ?_; clear F a; intro a F
          refine s_cq F M rfl rfl rfl rfl rfl (rfl : _ = some [_, _, _, _]) cb_28_V5 (fun nd_ => c28v _ _ _ _ (by exact M.h0)) ?_; (clear F a M; try clear w); rintro v w rfl M a F
          refine s_I F rfl rfl rfl rfl rfl rfl ?_; clear F a; intro a F
          refine s_I F rfl rfl rfl rfl rfl rfl ?_; clear F a; intro a F
          refine s_cq F M rfl rfl rfl rfl rfl (rfl : _ = some [_, _]) cb_34_V5 (fun nd_ => c34 _ _ _) ?_; (clear F a M; try clear w); rintro v w rfl M a F
          refine s_bin F rfl rfl rfl rfl rfl rfl rfl ?_; clear F a; intro a F
          refine s_I F rfl rfl rfl rfl rfl rfl ?_; clear F a; intro a F
          refine s_I F rfl rfl rfl rfl rfl rfl ?_; clear F a; intro a F
          refine t_endM M ?_; (clear M; try clear w); intro w M
          refine c_if F rfl ?_ ?_
          ·
            clear F; intro hc15 F
            try rw [hc15] at F
            replace hc15 := of_decide_eq_true hc15
            exfalso
            have h9 := most_lt W2 (k := e35.kind) (r := e35.round) (by simp_all) e35.value
            omega
          ·
            clear F; intro hc16 F
            try rw [hc16] at F
            replace hc16 := of_decide_eq_false hc16
            refine wp_skip ?_
            replace F := F.keep [0, 1, 2, 7, 8, 9, 10, 11, 12, 13] rfl
            refine wp_region_l [.ind, .ind, .ind] ([0, 1, 2]) rfl ?_
            refine s_I F rfl rfl rfl rfl rfl rfl ?_; clear F a; intro a F
            refine s_add F rfl rfl rfl rfl rfl rfl (by unfold In64; omega) ?_; clear F a; intro a F
            refine s_I F rfl rfl rfl rfl rfl rfl ?_; clear F a; intro a F
            refine t_endM M ?_; (clear M; try clear w); intro w M
            refine again ((i + 1), (putV n L e35), (v5)) (by show _ < _; (try dsimp only); omega) ⟨(by omega), (by assumption), (W.put _)⟩ (F.keep [8, 0, 1, 2, 7] rfl) ?_
            try dsimp only [List.cons_append, List.nil_append]
            refine M.pick ?_; repeat (first | exact PkG.nil | refine PkG.cons 0 rfl rfl ?_)
    ·
      clear F; intro hc17 F
      try rw [hc17] at F
      replace hc17 := of_decide_eq_false hc17
      refine wp_exit ?_
      refine wp_seq ?_
      replace F := F.keep [0, 1, 2, 7, 8] rfl
      refine wp_region_l [.wr, .ind] ([0, 1]) rfl ?_
      refine s_cq F M rfl rfl rfl rfl rfl (rfl : _ = some []) cb_21_V5 (fun nd_ => c21 _) ?_; (clear F a M; try clear w); rintro v w rfl M a F
      refine s_I F rfl rfl rfl rfl rfl rfl ?_; clear F a; intro a F
      refine t_endM M ?_; (clear M; try clear w); intro w M
      refine wp_ret ?_
      refine ret1 F rfl rfl ?_
      -- end 0
      exact ⟨_, rfl, rfl, M.chg⟩
end Go.Proofs.Ytboibdmflblphaa
