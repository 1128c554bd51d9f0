/- B3 of the seat. -/
import Derived.Test.YtboibdmflblphaaB2
namespace Go.Proofs.Ytboibdmflblphaa
open Go Fw
theorem sl_22_B3 : slcB Try.prog 22 = some (32, 5) := by kernel_rfl
theorem ag_32_B3 : aggB Try.prog 32 = some 5 := by kernel_rfl
theorem zr_32_B3 : zeroB Try.prog 32 = some (.agg #[.int .i64 0, .int .i64 0, .int .i64 0, .int .i64 0, .string { data := #[] }]) := by kernel_rfl
theorem sz_32_B3 : sizeB Try.prog 32 = some 5 := by kernel_rfl
theorem fa_157_0_B3 : FA Try.prog 157 0 0 := fun _ _ _ => by kernel_rfl
theorem sc_154_B3 : scalB Try.prog 154 = true := by kernel_rfl
theorem sl_154_B3 : slcB Try.prog 154 = some (50, 1) := by kernel_rfl
theorem fa_157_2_B3 : FA Try.prog 157 2 2 := fun _ _ _ => by kernel_rfl
theorem sc_155_B3 : scalB Try.prog 155 = true := by kernel_rfl
theorem sl_155_B3 : slcB Try.prog 155 = some (160, 6) := by kernel_rfl
theorem bl_160_0_1_B3 : ∀ (x0 : Int) (x1_0 : Int) (x1_1 : Int) (x1_2 : Int) (x1_3 : Int) (x1_4 : ByteArray), ∀ w : World, (Instr.build 160 #[(0, .int .i64 x0), (1, .agg #[.int .i64 x1_0, .int .i64 x1_1, .int .i64 x1_2, .int .i64 x1_3, .string x1_4])]).run Try.prog w = .ok (.agg #[.int .i64 x0, .int .i64 x1_0, .int .i64 x1_1, .int .i64 x1_2, .int .i64 x1_3, .string x1_4]) w := by intros; kernel_rfl
theorem bs_155_1_B3 : ∀ (x0_0 : Int) (x0_1_0 : Int) (x0_1_1 : Int) (x0_1_2 : Int) (x0_1_3 : Int) (x0_1_4 : ByteArray), News Try.prog (Instr.buildSlice 155 1 #[(0, .agg #[.int .i64 x0_0, .int .i64 x0_1_0, .int .i64 x0_1_1, .int .i64 x0_1_2, .int .i64 x0_1_3, .string x0_1_4])]) (.cells #[.int .i64 x0_0, .int .i64 x0_1_0, .int .i64 x0_1_1, .int .i64 x0_1_2, .int .i64 x0_1_3, .string x0_1_4] 160) fun b => .slice (some ⟨b, 0, none⟩) 1 1 := by intros; intro w; kernel_rfl
theorem tl_155_B3 : SlT Try.prog 155 160 6 56 (.agg #[.int .i64 0, .int .i64 0, .int .i64 0, .int .i64 0, .int .i64 0, .string { data := #[] }]) := ⟨by kernel_rfl, by kernel_rfl, by kernel_rfl, by kernel_rfl, by decide⟩
theorem sz_155_B3 : sizeB Try.prog 155 = some 1 := by kernel_rfl
theorem fa_157_1_B3 : FA Try.prog 157 1 1 := fun _ _ _ => by kernel_rfl
theorem sc_153_B3 : scalB Try.prog 153 = true := by kernel_rfl
theorem mp_153_B3 : mapB Try.prog 153 = some (3, 4) := by kernel_rfl
theorem zr_4_B3 : zeroB Try.prog 4 = some (.bool false) := by kernel_rfl
theorem sc_50_B3 : scalB Try.prog 50 = true := by kernel_rfl
theorem cb_41_B3 : callB Try.prog 41 = true := by kernel_rfl
theorem cb_92_B3 : callB Try.prog 92 = true := by kernel_rfl
theorem cb_48_B3 : callB Try.prog 48 = true := by kernel_rfl
open VoteM AgrM CouM
theorem opnD_del (o : Int → Bool) (nd k : Int) : (if k = nd then none else opnD o k) = opnD (updB o nd false) k := by
  unfold opnD updB
  by_cases e : k = nd
  · rw [if_pos e, if_pos e]; rfl
  · rw [if_neg e, if_neg e]
theorem nq_spec {n t : Int} (h : quorum n t ≠ 0) : 0 ≤ t ∧ t ≤ 2 ∧ 3 * t + 1 ≤ n ∧ n ≤ 7 := by
  unfold quorum at h
  split at h
  · exact absurd rfl h
  · omega
set_option maxRecDepth 100000 in
set_option maxHeartbeats 2000000 in
theorem c92 (γ : Gc) (h : Nat) (hh : γ.bs.length = h) (h7 : h ≤ 7) (v lv : Value) (way : List To) (l : List Wrd) (hl : l.length ≤ 100000) (hw : way.length ≤ 4096) (w0 : World) (ho : Own w0.heap [blk γ.b (cOv γ (v)), toR (v) (way), wsR lv l]) : Cl Try.prog 92 #[.pointer (some ⟨γ.b, 0, none⟩), lv] w0 (RetS [blk γ.b (cOv γ (v)), toR (v) (way), wsR lv l] w0 (fun r (_ : Value) => r = .tuple #[]) fun x => [blk γ.b (cOv γ (x)), toR (x) (say h way l), wsR lv l]) := by
  obtain ⟨VA, VC, rfl⟩ := SlOk.form (ho.ok (toR v way) (by simp))
  obtain ⟨LA, LC, rfl⟩ := SlOk.form (ho.ok (wsR lv l) (by simp))
  have M : Sep (fun b_ => b_ ∈ foots [blk γ.b (cOv γ (.slice VA way.length VC)), toR (.slice VA way.length VC) (way), wsR (.slice LA l.length LC) l]) w0 w0 _ := Sep.start ho
  refine enter (vs := [_, _]) Try.func92 rfl rfl rfl ?_
  intro a F
  refine wp_seq ?_
  refine wp_region_l [.ind, .ind, .ind] ([0, 1, 2]) rfl ?_
  refine s_I F rfl rfl rfl rfl rfl rfl ?_; clear F a; intro a F
  refine s_len F rfl rfl rfl rfl sl_22_B3 rfl ?_; clear F a; intro a F
  refine s_I F rfl rfl rfl rfl rfl rfl ?_; clear F a; intro a F
  refine t_endM M ?_; (clear M; try clear w); intro w M
  refine wp_block ?_
  have M1 : Sep _ _ _ (slR _ _ 160 _ _ :: _) := M.f1; replace M := M1; clear M1
  have M1 : Sep _ _ _ (blk γ.b _ :: _) := M.f1; replace M := M1; clear M1
  refine loopX (X := (Int) × (Option Addr) × (Nat)) F [0, 1, 7, 8] rfl (fun ((i, A, c) : (Int) × (Option Addr) × (Nat)) => (0 ≤ i) ∧ (i ≤ l.length)) (fun ((i, A, c) : (Int) × (Option Addr) × (Nat)) => [(9, .int .i64 i)]) (fun ((i, A, c) : (Int) × (Option Addr) × (Nat)) => [blk γ.b (cOv γ (.slice A (say h way (l.take i.toNat)).length c)), toR (.slice A (say h way (l.take i.toNat)).length c) (say h way (l.take i.toNat))]) (fun ((i, A, c) : (Int) × (Option Addr) × (Nat)) => l.length - i.toNat) ((0), (VA), (VC)) M ⟨(by omega), (by omega)⟩ (F.keep [9, 0, 1, 7, 8] rfl) ?_
  clear F M; clear a; (try clear w)
  rintro ⟨i, A, c⟩ a w ⟨i0, i1⟩ F M; try dsimp only at F M
  try simp only [List.cons_append, List.nil_append] at F M
  try dsimp only at i0 i1
  have hwl := say_len (h := h) (l := l.take i.toNat) hw
  refine wp_seq ?_
  skip
  refine wp_region_l [.ind] ([0]) rfl ?_
  refine s_bin F rfl rfl rfl rfl rfl rfl rfl ?_; clear F a; intro a F
  refine t_endM M ?_; (clear M; try clear w); intro w M
  refine wp_seq ?_
  refine c_if F rfl ?_ ?_
  ·
    clear F; intro hc0 F
    try rw [hc0] at F
    replace hc0 := of_decide_eq_true hc0
    refine wp_skip ?_
    refine wp_seq ?_
    refine wp_block ?_
    refine wp_seq ?_
    replace F := F.keep [0, 1, 7, 8, 9] rfl
    refine wp_region_l [.ind, .rd, .wr, .wr] ([0, 1, 2, 3]) rfl ?_
    refine s_ix F rfl rfl rfl rfl sl_22_B3 rfl rfl (by exact SlOk.rd M.h2) (by omega) (by omega) ?_; clear F a; intro e11 he11 a F
    refine s_lda F rfl rfl rfl rfl ag_32_B3 rfl rfl (rdsX (SlOk.rd M.h2) (by intro e; rfl) he11) ?_; clear F a; intro a F
    refine s_alc F M rfl rfl rfl rfl zr_32_B3 rfl ?_; (clear F a M; try clear w); intro b5 w M a F
    refine s_stW F M rfl rfl rfl sz_32_B3 rfl rfl rfl rfl rfl ?_; (clear M; try clear w); intro w M
    refine t_endM M ?_; (clear M; try clear w); intro w M
    refine wp_seq ?_
    replace F := F.keep [0, 1, 5, 7, 8, 9] rfl
    refine wp_region_l [.ind, .ind, .ind, .rd, .ind, .ind] ([0, 1, 2, 3, 4, 5]) rfl ?_
    refine s_I F rfl rfl rfl rfl rfl rfl ?_; clear F a; intro a F
    refine s_I F rfl rfl rfl rfl rfl rfl ?_; clear F a; intro a F
    refine s_fa0 F rfl rfl rfl rfl fa_157_0_B3 rfl ?_; clear F a; intro a F
    refine s_ld F rfl rfl rfl rfl sc_154_B3 rfl (by exact cell_of_blk M.h1 (lit rfl)) ?_; clear F a; intro a F
    refine s_len F rfl rfl rfl rfl sl_154_B3 rfl ?_; clear F a; intro a F
    rw [hh] at F
    refine s_I F rfl rfl rfl rfl rfl rfl ?_; clear F a; intro a F
    refine t_endM M ?_; (clear M; try clear w); intro w M
    refine wp_block ?_
    have M1 : Sep _ _ _ (slR _ _ 160 _ _ :: _) := M.f2; replace M := M1; clear M1
    have M1 : Sep _ _ _ (blk γ.b _ :: _) := M.f2; replace M := M1; clear M1
    refine loopX (X := (Nat) × (Option Addr) × (Nat)) F [0, 1, 5, 7, 8, 9, 17] rfl (fun ((j, A, c) : (Nat) × (Option Addr) × (Nat)) => (j ≤ h)) (fun ((j, A, c) : (Nat) × (Option Addr) × (Nat)) => [(18, .int .i64 (j : Int))]) (fun ((j, A, c) : (Nat) × (Option Addr) × (Nat)) => [blk γ.b (cOv γ (.slice A (sayF (say h way (l.take i.toNat)) e11 j).length c)), toR (.slice A (sayF (say h way (l.take i.toNat)) e11 j).length c) (sayF (say h way (l.take i.toNat)) e11 j)]) (fun ((j, A, c) : (Nat) × (Option Addr) × (Nat)) => h - j) ((0), (A), (c)) M (by omega) (F.keep [18, 0, 1, 5, 7, 8, 9, 17] rfl) ?_
    clear F M; clear a; (try clear w)
    rintro ⟨j, A, c⟩ a w j1 F M; try dsimp only at F M
    try simp only [List.cons_append, List.nil_append] at F M
    try dsimp only at j1
    have hwl2 := sayF_len (w := e11) hwl (i := j)
    refine wp_seq ?_
    skip
    refine wp_region_l [.ind] ([0]) rfl ?_
    refine s_bin F rfl rfl rfl rfl rfl rfl rfl ?_; clear F a; intro a F
    refine t_endM M ?_; (clear M; try clear w); intro w M
    refine wp_seq ?_
    refine c_if F rfl ?_ ?_
    ·
      clear F; intro hc1 F
      try rw [hc1] at F
      replace hc1 := of_decide_eq_true hc1
      refine wp_skip ?_
      refine wp_seq ?_
      refine wp_block ?_
      refine wp_seq ?_
      replace F := F.keep [0, 1, 5, 7, 8, 9, 17, 18] rfl
      refine wp_region_l [.ind, .ind] ([0, 1]) rfl ?_
      refine s_I F rfl rfl rfl rfl rfl rfl ?_; clear F a; intro a F
      refine s_I F rfl rfl rfl rfl rfl rfl ?_; clear F a; intro a F
      refine t_endM M ?_; (clear M; try clear w); intro w M
      refine wp_seq ?_
      replace F := F.keep [0, 1, 5, 6, 7, 8, 9, 17, 18] rfl
      refine wp_region_l [.ind, .ind, .ind, .rd, .ind, .ind] ([0, 1, 2, 3, 4, 5]) rfl ?_
      refine s_I F rfl rfl rfl rfl rfl rfl ?_; clear F a; intro a F
      refine s_I F rfl rfl rfl rfl rfl rfl ?_; clear F a; intro a F
      refine s_fa0 F rfl rfl rfl rfl fa_157_2_B3 rfl ?_; clear F a; intro a F
      refine s_ld F rfl rfl rfl rfl sc_155_B3 rfl (by exact cell_of_blk M.h0 (lit rfl)) ?_; clear F a; intro a F
      refine s_len F rfl rfl rfl rfl sl_155_B3 rfl ?_; clear F a; intro a F
      refine s_bin F rfl rfl rfl rfl rfl rfl rfl ?_; clear F a; intro a F
      refine t_endM M ?_; (clear M; try clear w); intro w M
      have M1 : Sep _ _ _ (slR _ _ 160 _ _ :: _) := M.f1; replace M := M1; clear M1
      have M1 : Sep _ _ _ (blk γ.b _ :: _) := M.f1; replace M := M1; clear M1
      refine cutX (X := (Option Addr) × (Nat)) (m0 := [_, _]) F [0, 1, 5, 6, 7, 8, 9, 17, 18] rfl M (fun ((A, c) : (Option Addr) × (Nat)) => True) (fun ((A, c) : (Option Addr) × (Nat)) => []) (fun ((A, c) : (Option Addr) × (Nat)) => [blk γ.b (cOv γ (.slice A (pushT (sayF (say h way (l.take i.toNat)) e11 j) ⟨(j : Int) + 1, e11⟩).length c)), toR (.slice A (pushT (sayF (say h way (l.take i.toNat)) e11 j) ⟨(j : Int) + 1, e11⟩).length c) (pushT (sayF (say h way (l.take i.toNat)) e11 j) ⟨(j : Int) + 1, e11⟩)]) ?_ ?_
      ·
        refine c_if F rfl ?_ ?_
        ·
          clear F; intro hc2 F
          try rw [hc2] at F
          replace hc2 := of_decide_eq_true hc2
          replace F := F.keep [0, 1, 5, 6, 7, 8, 9, 17, 18] rfl
          refine wp_region_t [.ind, .ind, .ind, .ind, .rd, .ind, .ind, .rd, .ind, .wr, .wr, .ind, .ind, .wr] [(4, 9)] (otOf [0, 1, 2, 3, 4, 5, 6, 7, 8, 9, 10, 11, 12, 13]) mixed (by kernel_rfl) ?_
          refine s_I F rfl rfl rfl rfl rfl rfl ?_; clear F a; intro a F
          refine s_I F rfl rfl rfl rfl rfl rfl ?_; clear F a; intro a F
          refine s_I F rfl rfl rfl rfl rfl rfl ?_; clear F a; intro a F
          refine s_fa0 F rfl rfl rfl rfl fa_157_2_B3 rfl ?_; clear F a; intro a F
          refine s_ldL F rfl rfl rfl rfl sc_155_B3 rfl (by exact cell_of_blk M.h0 (lit rfl)) ?_; clear F a; intro a F
          refine s_I F rfl rfl rfl rfl rfl rfl ?_; clear F a; intro a F
          refine s_add F rfl rfl rfl rfl rfl rfl (by unfold In64; omega) ?_; clear F a; intro a F
          refine s_ldaL F rfl rfl rfl rfl ag_32_B3 rfl rfl (cells_whole M.h2) ?_; clear F a; intro a F
          refine s_bld F rfl rfl rfl rfl (parts2 F rfl rfl) (bl_160_0_1_B3 _ _ _ _ _ _) ?_; clear F a; intro a F
          refine s_bsL F M rfl rfl rfl rfl (parts1 F rfl) (bs_155_1_B3 _ _ _ _ _ _) (fun b w M => (by (refine pend_skip rfl ?_); (refine pend_take (by exact cell_of_blk M.h1 (lit rfl)) ?_); exact pend_none)) ?_; (clear F a M; try clear w); intro b36 w M a F
          refine s_apE ((⟨(j : Int) + 1, e11⟩ : To)) F M.f2 rfl rfl rfl rfl tl_155_B3 rfl rfl (by exact rd_blk M.h0 rfl) rfl (by omega) (fun A c w M => (by (refine pend_skip rfl ?_); (refine pend_skip rfl ?_); exact pend_none)) ?_; (clear F a M; try clear w); intro A37 c37 w M a F
          refine s_I F rfl rfl rfl rfl rfl rfl ?_; clear F a; intro a F
          refine s_fa0 F rfl rfl rfl rfl fa_157_2_B3 rfl ?_; clear F a; intro a F
          refine s_stL F M.f2 rfl rfl rfl sz_155_B3 rfl rfl rfl (by exact Nat.le_of_ble_eq_true rfl) (fun w M => (by (refine pend_skip rfl ?_); (refine pend_skip rfl ?_); exact pend_none)) ?_; (clear M; try clear w); intro w M
          refine t_endM M ?_; (clear M; try clear w); intro w M
          rw [show sayF (say h way (l.take i.toNat)) e11 j ++ [⟨(j : Int) + 1, e11⟩] = pushT (sayF (say h way (l.take i.toNat)) e11 j) ⟨(j : Int) + 1, e11⟩ from (if_pos (by omega)).symm] at M
          refine joined ((A37), (c37)) trivial (F.keep [0, 1, 5, 6, 7, 8, 9, 17, 18] rfl) ?_
          try dsimp only [List.cons_append, List.nil_append]
          refine M.pick ?_; repeat (first | exact PkG.nil | refine PkG.cons 0 rfl rfl ?_ | refine PkG.cons 1 rfl rfl ?_ | refine PkG.cons 3 rfl rfl ?_ | refine PkG.cons 4 rfl rfl ?_)
        ·
          clear F; intro hc3 F
          try rw [hc3] at F
          replace hc3 := of_decide_eq_false hc3
          refine wp_skip ?_
          rw [show sayF (say h way (l.take i.toNat)) e11 j = pushT (sayF (say h way (l.take i.toNat)) e11 j) ⟨(j : Int) + 1, e11⟩ from (if_neg (by omega)).symm] at M
          refine joined ((A), (c)) trivial (F.keep [0, 1, 5, 6, 7, 8, 9, 17, 18] rfl) ?_
          try dsimp only [List.cons_append, List.nil_append]
          refine M.pick ?_; repeat (first | exact PkG.nil | refine PkG.cons 0 rfl rfl ?_ | refine PkG.cons 1 rfl rfl ?_ | refine PkG.cons 2 rfl rfl ?_ | refine PkG.cons 3 rfl rfl ?_)
      ·
        clear F M; clear a; (try clear w)
        rintro ⟨A, c⟩ a w _ F M; try dsimp only at F M
        try simp only [List.cons_append, List.nil_append] at F M
        refine wp_region_l [.ind, .ind] ([0, 1]) rfl ?_
        refine s_add F rfl rfl rfl rfl rfl rfl (by unfold In64; omega) ?_; clear F a; intro a F
        refine s_I F rfl rfl rfl rfl rfl rfl ?_; clear F a; intro a F
        refine t_endM M ?_; (clear M; try clear w); intro w M
        have e8 : pushT (sayF (say h way (l.take i.toNat)) e11 j) ⟨(j : Int) + 1, e11⟩ = sayF (say h way (l.take i.toNat)) e11 (j + 1) := rfl
        rw [e8] at M
        refine again ((j + 1), (A), (c)) (by show _ < _; (try dsimp only); omega) (by omega) (F.keep [18, 0, 1, 5, 7, 8, 9, 17] rfl) ?_
        try dsimp only [List.cons_append, List.nil_append]
        refine M.pick ?_; repeat (first | exact PkG.nil | refine PkG.cons 0 rfl rfl ?_ | refine PkG.cons 1 rfl rfl ?_ | refine PkG.cons 2 rfl rfl ?_ | refine PkG.cons 3 rfl rfl ?_)
    ·
      clear F; intro hc4 F
      try rw [hc4] at F
      replace hc4 := of_decide_eq_false hc4
      refine wp_exit ?_
      replace F := F.keep [0, 1, 5, 7, 8, 9, 17, 18] rfl
      refine wp_region_l [.ind, .ind] ([0, 1]) rfl ?_
      refine s_add F rfl rfl rfl rfl rfl rfl (by unfold In64; omega) ?_; clear F a; intro a F
      refine s_I F rfl rfl rfl rfl rfl rfl ?_; clear F a; intro a F
      refine t_endM M ?_; (clear M; try clear w); intro w M
      have e9 : sayF (say h way (l.take i.toNat)) e11 j = say h way (l.take (i + 1).toNat) := by rw [take_succ i0 he11, say_snoc, show j = h by omega]
      rw [e9] at M
      refine again ((i + 1), (A), (c)) (by show _ < _; (try dsimp only); omega) ⟨(by omega), (by assumption)⟩ (F.keep [9, 0, 1, 7, 8] rfl) ?_
      try dsimp only [List.cons_append, List.nil_append]
      refine M.pick ?_; repeat (first | exact PkG.nil | refine PkG.cons 0 rfl rfl ?_ | refine PkG.cons 1 rfl rfl ?_ | refine PkG.cons 3 rfl rfl ?_)
  ·
    clear F; intro hc5 F
    try rw [hc5] at F
    replace hc5 := of_decide_eq_false hc5
    refine wp_exit ?_
    refine (ret0 F rfl ?_).2
    -- end 0
    rw [take_all (by omega)] at M
    refine ⟨_, .slice A (say h way l).length c, rfl, rfl, ?_⟩
    refine M.pick ?_; repeat (first | exact PkG.nil | refine PkG.cons 0 rfl rfl ?_ | refine PkG.cons 1 rfl rfl ?_ | refine PkG.cons 2 rfl rfl ?_)
set_option maxRecDepth 100000 in
set_option maxHeartbeats 2000000 in
theorem c94 {n t : Int} (γ : Gc) (C : Cou) (W : C.Wf n t) (nd : Int) (q : Wrd) (w0 : World) (ho : Own w0.heap [couR γ C]) : Cl Try.prog 94 #[.pointer (some ⟨γ.b, 0, none⟩), .int .i64 nd, wrdV q] w0 (RetS [couR γ C] w0 (fun v (γ2 : Gc) => v = .tuple #[] ∧ γ2.b = γ.b) fun γ2 => [couR γ2 (C.take nd q)]) := by
  obtain ⟨cb, mb, bs, gs, GA, gc, vw⟩ := γ
  obtain ⟨VA, VC, rfl⟩ : ∃ A c, vw = .slice A C.way.length c := by
    have h9 := ho.ok _ List.mem_cons_self
    exact SlOk.form (h9 (toR vw C.way) (by simp [couL]))
  have M : Sep (fun b_ => b_ ∈ foots [couR (⟨cb, mb, bs, gs, GA, gc, .slice VA C.way.length VC⟩ : Gc) C]) w0 w0 _ := Sep.start ho
  obtain ⟨⟨hgs, hgl⟩, M⟩ := Fw.Sep.couOpen M
  dsimp only at hgs hgl M
  have hbl : bs.length = C.As.length := by rw [← hgs, List.length_map]; exact hgl
  have hbl5 : (⟨cb, mb, bs, gs, GA, gc, .slice VA C.way.length VC⟩ : Gc).bs.length = C.As.length := hbl
  have h7 := W.l7
  refine enter (vs := [_, _, _]) Try.func94 rfl rfl rfl ?_
  intro a F
  refine wp_seq ?_
  refine wp_region_l [.wr] ([0]) rfl ?_
  refine s_bxA F M rfl rfl rfl rfl rfl ?_; (clear F a M; try clear w); intro b5 w M a F
  refine t_endM M ?_; (clear M; try clear w); intro w M
  refine wp_seq ?_
  refine wp_seq ?_
  have M1 : Sep _ _ _ (mapX _ _ _ :: _) := M.f3; replace M := M1; clear M1
  obtain ⟨N, M⟩ := M.mapOpen
  refine wp_region_l [.ind, .ind, .ind, .rd, .ind, .rd, .ind] ([0, 1, 2, 3, 4, 5, 6]) rfl ?_
  refine s_I F rfl rfl rfl rfl rfl rfl ?_; clear F a; intro a F
  refine s_I F rfl rfl rfl rfl rfl rfl ?_; clear F a; intro a F
  refine s_fa0 F rfl rfl rfl rfl fa_157_1_B3 rfl ?_; clear F a; intro a F
  refine s_ld F rfl rfl rfl rfl sc_153_B3 rfl (by exact cell_of_blk M.h2 (lit rfl)) ?_; clear F a; intro a F
  refine s_I F rfl rfl rfl rfl rfl rfl ?_; clear F a; intro a F
  refine s_lk keI (nd) F rfl rfl rfl rfl mp_153_B3 zr_4_B3 rfl rfl (by exact M.h0) ?_; clear F a; intro a F
  rw [opnD_get] at F
  refine s_I F rfl rfl rfl rfl rfl rfl ?_; clear F a; intro a F
  refine t_endM M ?_; (clear M; try clear w); intro w M
  refine c_if F rfl ?_ ?_
  ·
    clear F; intro hc0 F
    try rw [hc0] at F
    replace hc0 := nt hc0
    have hop : C.opn nd = false := by assumption
    refine wp_ret ?_
    refine (ret0 F rfl ?_).1
    -- end 0
    rw [take_closed hop]
    have M1 : Sep _ _ _ (mapR _ _ _ _ :: _) := M; replace M := M1; clear M1
    replace M := M.mapShut (D' := opnD C.opn) (fun _ => rfl)
    refine ⟨_, (⟨cb, mb, bs, gs, GA, gc, .slice VA C.way.length VC⟩ : Gc), rfl, ⟨rfl, rfl⟩, ?_⟩
    have M1 : Sep _ _ _ (slR _ _ 160 _ _ :: _) := M.f5; replace M := M1; clear M1
    have M1 : Sep _ _ _ (bigR agZ _ :: _) := M.f5; replace M := M1; clear M1
    have M1 : Sep _ _ _ (mapX _ _ _ :: _) := M.f2; replace M := M1; clear M1
    have M1 : Sep _ _ _ (slR _ _ 50 _ _ :: _) := M.f5; replace M := M1; clear M1
    have M1 : Sep _ _ _ (blk cb _ :: _) := M.f5; replace M := M1; clear M1
    exact Sep.left (m := [couR ((⟨cb, mb, bs, gs, GA, gc, .slice VA C.way.length VC⟩ : Gc)) (C)]) (Fw.Sep.couShut (γ := ((⟨cb, mb, bs, gs, GA, gc, .slice VA C.way.length VC⟩ : Gc))) (C := (C)) M ⟨hgs, hgl⟩)
  ·
    clear F; intro hc1 F
    try rw [hc1] at F
    replace hc1 := nf hc1
    have hop : C.opn nd = true := by assumption
    obtain ⟨hn1, hn2⟩ := W.op nd hop
    obtain ⟨a_, ha⟩ := node_at hn1 hn2
    have NW := W.nd _ a_ ha
    have ei : (nd - 1).toNat = nd.toNat - 1 := by omega
    refine wp_skip ?_
    refine wp_seq ?_
    replace F := F.keep [0, 1, 2, 5] rfl
    refine wp_region_l [.ind, .ind, .ind, .rd, .ind, .ind, .ind, .rd, .ind] ([0, 1, 2, 3, 4, 5, 6, 7, 8]) rfl ?_
    refine s_I F rfl rfl rfl rfl rfl rfl ?_; clear F a; intro a F
    refine s_I F rfl rfl rfl rfl rfl rfl ?_; clear F a; intro a F
    refine s_fa0 F rfl rfl rfl rfl fa_157_0_B3 rfl ?_; clear F a; intro a F
    refine s_ld F rfl rfl rfl rfl sc_154_B3 rfl (by exact cell_of_blk M.h2 (lit rfl)) ?_; clear F a; intro a F
    refine s_I F rfl rfl rfl rfl rfl rfl ?_; clear F a; intro a F
    refine s_sub F rfl rfl rfl rfl rfl rfl (by unfold In64; omega) ?_; clear F a; intro a F
    refine s_ix F rfl rfl rfl rfl sl_154_B3 rfl rfl (by exact SlOk.rd M.h3) (by omega) (by omega) ?_; clear F a; intro e22 he22 a F
    have he22b := he22
    rw [ei] at he22b
    obtain ⟨g, hg, hgb⟩ := g_at hgs he22b
    have M1 : Sep _ _ _ (bigR agZ _ :: _) := M.f4; replace M := M1; clear M1
    replace M := M.bigOut (zip_at hg ha)
    refine s_ld F rfl rfl rfl rfl sc_50_B3 rfl (by exact rdX0 (SlOk.rd M.h5) (by intro e; rfl) he22 rfl) ?_; clear F a; intro a F
    refine s_I F rfl rfl rfl rfl rfl rfl ?_; clear F a; intro a F
    refine t_endM M ?_; (clear M; try clear w); intro w M
    refine wp_seq ?_
    rw [← hgb] at F
    replace F := F.keep [0, 1, 2, 5, 6] rfl
    refine wp_region_l [.ind, .ind, .rd, .wr, .wr] ([0, 1, 2, 3, 4]) rfl ?_
    refine s_I F rfl rfl rfl rfl rfl rfl ?_; clear F a; intro a F
    refine s_I F rfl rfl rfl rfl rfl rfl ?_; clear F a; intro a F
    refine s_lda F rfl rfl rfl rfl ag_32_B3 rfl rfl (cells_whole M.h3) ?_; clear F a; intro a F
    have M1 : Sep _ _ _ (agR g a_ :: _) := M; replace M := M1; clear M1
    refine s_call (m := [_]) F M rfl rfl rfl rfl rfl (rfl : _ = some [_, _]) cb_41_B3 (fun nd_ => c41r g a_ q NW.W _ (M.drewN nd_).own.one) ?_; (clear F a M; try clear w); rintro v x w rfl M a F; (try simp only [List.cons_append, List.nil_append] at M)
    have htl := take_len NW.W q
    have M1 : Sep _ _ _ (slR _ _ 32 _ _ :: _) := M.f1; replace M := M1; clear M1
    have M1 : Sep _ _ _ (slR _ _ 160 _ _ :: _) := M.f7; replace M := M1; clear M1
    have M1 : Sep _ _ _ (blk cb _ :: _) := M.f6; replace M := M1; clear M1
    refine s_call (m := [_, _, _]) F M rfl rfl rfl rfl rfl (rfl : _ = some [_, _]) cb_92_B3 (fun nd_ => c92 (⟨cb, mb, bs, gs, GA, gc, .slice VA C.way.length VC⟩ : Gc) C.As.length hbl h7 _ _ C.way (a_.take q).2 (by omega) W.wl _ (Own.left (m := [_, _, _]) (M.drewN nd_).own)) ?_; (clear F a M; try clear w); rintro v y w rfl M a F; (try simp only [List.cons_append, List.nil_append] at M)
    refine t_endM M ?_; (clear M; try clear w); intro w M
    refine wp_seq ?_
    replace F := F.keep [0, 1, 2, 5, 6] rfl
    refine wp_region_l [.ind, .wr, .ind, .ind, .ind, .ind, .ind] ([0, 1, 2, 3, 4, 5, 6]) rfl ?_
    refine s_I F rfl rfl rfl rfl rfl rfl ?_; clear F a; intro a F
    refine s_cq F M rfl rfl rfl rfl rfl (rfl : _ = some [_]) cb_48_B3 (fun nd_ => c48r (⟨g.b, g.vb, x.1⟩ : Ga) (a_.take q).1 _ (by exact M.h3)) ?_; (clear F a M; try clear w); rintro v w rfl M a F
    refine s_I F rfl rfl rfl rfl rfl rfl ?_; clear F a; intro a F
    refine s_I F rfl rfl rfl rfl rfl rfl ?_; clear F a; intro a F
    refine s_I F rfl rfl rfl rfl rfl rfl ?_; clear F a; intro a F
    refine s_I F rfl rfl rfl rfl rfl rfl ?_; clear F a; intro a F
    refine s_I F rfl rfl rfl rfl rfl rfl ?_; clear F a; intro a F
    refine t_endM M ?_; (clear M; try clear w); intro w M
    refine wp_seq ?_
    replace F := F.keep [0, 1, 2, 5, 6, 8] rfl
    refine wp_region_l [.ind] ([0]) rfl ?_
    refine s_I F rfl rfl rfl rfl rfl rfl ?_; clear F a; intro a F
    refine t_endM M ?_; (clear M; try clear w); intro w M
    refine c_if F rfl ?_ ?_
    ·
      clear F; intro hc2 F
      try rw [hc2] at F
      skip
      have hopn : (C.act nd a_ q).opn = updB C.opn nd false := if_pos (by assumption)
      replace F := F.keep [0, 1, 2, 5, 6, 8] rfl
      refine wp_region_l [.ind, .ind, .ind, .rd, .ind, .wr] ([0, 1, 2, 3, 4, 5]) rfl ?_
      refine s_I F rfl rfl rfl rfl rfl rfl ?_; clear F a; intro a F
      refine s_I F rfl rfl rfl rfl rfl rfl ?_; clear F a; intro a F
      refine s_fa0 F rfl rfl rfl rfl fa_157_1_B3 rfl ?_; clear F a; intro a F
      refine s_ld F rfl rfl rfl rfl sc_153_B3 rfl (by exact cell_of_blk M.h0 (lit rfl)) ?_; clear F a; intro a F
      refine s_I F rfl rfl rfl rfl rfl rfl ?_; clear F a; intro a F
      have M1 : Sep _ _ _ (mapR _ _ _ _ :: _) := M.f5; replace M := M1; clear M1
      refine s_del0 keI (nd) F M rfl rfl rfl mp_153_B3 rfl rfl (fun _ _ => pend_nil) ?_; (clear M; try clear w); intro w M
      refine t_endM M ?_; (clear M; try clear w); intro w M
      refine (ret0 F rfl ?_).2
      -- end 1
      rw [take_open hop ha]
      have M1 : Sep _ _ _ (bigR agZ _ :: _) := M.f5; replace M := M1; clear M1
      have M1 : Sep _ _ _ (agR _ _ :: _) := M.f5; replace M := M1; clear M1
      replace M := Sep.bigIn (f := agZ) (xs := gs.zip C.As) (i := nd.toNat - 1) (y := ((⟨g.b, g.vb, x.1⟩ : Ga), (a_.take q).1)) M (by rw [List.length_zip]; omega)
      rw [zip_set] at M
      have M1 : Sep _ _ _ (mapR _ _ _ _ :: _) := M.f1; replace M := M1; clear M1
      replace M := M.mapShut (D' := opnD (C.act nd a_ q).opn) (fun k => by rw [hopn]; exact opnD_del _ _ _)
      refine ⟨_, ⟨cb, mb, bs, gs.set (nd.toNat - 1) (⟨g.b, g.vb, x.1⟩ : Ga), GA, gc, y⟩, rfl, ⟨rfl, rfl⟩, ?_⟩
      have M1 : Sep _ _ _ (slR _ _ 160 _ _ :: _) := M.f3; replace M := M1; clear M1
      have M1 : Sep _ _ _ (bigR agZ _ :: _) := M.f2; replace M := M1; clear M1
      have M1 : Sep _ _ _ (mapX _ _ _ :: _) := M.f2; replace M := M1; clear M1
      have M1 : Sep _ _ _ (slR _ _ 50 _ _ :: _) := M.f6; replace M := M1; clear M1
      have M1 : Sep _ _ _ (blk cb _ :: _) := M.f4; replace M := M1; clear M1
      exact Sep.left (m := [couR (⟨cb, mb, bs, gs.set (nd.toNat - 1) (⟨g.b, g.vb, x.1⟩ : Ga), GA, gc, y⟩) (C.act nd a_ q)]) (Fw.Sep.couShut (γ := (⟨cb, mb, bs, gs.set (nd.toNat - 1) (⟨g.b, g.vb, x.1⟩ : Ga), GA, gc, y⟩)) (C := (C.act nd a_ q)) M ⟨map_set_b hgs hg rfl, (by rw [List.length_set]; exact hgl.trans List.length_set.symm)⟩)
    ·
      clear F; intro hc3 F
      try rw [hc3] at F
      skip
      have hopn : (C.act nd a_ q).opn = C.opn := if_neg (by rw [show (a_.take q).1.done = false by assumption]; decide)
      refine wp_skip ?_
      refine (ret0 F rfl ?_).2
      -- end 2
      rw [take_open hop ha]
      have M1 : Sep _ _ _ (bigR agZ _ :: _) := M.f4; replace M := M1; clear M1
      have M1 : Sep _ _ _ (agR _ _ :: _) := M.f4; replace M := M1; clear M1
      replace M := Sep.bigIn (f := agZ) (xs := gs.zip C.As) (i := nd.toNat - 1) (y := ((⟨g.b, g.vb, x.1⟩ : Ga), (a_.take q).1)) M (by rw [List.length_zip]; omega)
      rw [zip_set] at M
      have M1 : Sep _ _ _ (mapR _ _ _ _ :: _) := M.f4; replace M := M1; clear M1
      replace M := M.mapShut (D' := opnD (C.act nd a_ q).opn) (fun k => by rw [hopn]; done)
      refine ⟨_, ⟨cb, mb, bs, gs.set (nd.toNat - 1) (⟨g.b, g.vb, x.1⟩ : Ga), GA, gc, y⟩, rfl, ⟨rfl, rfl⟩, ?_⟩
      have M1 : Sep _ _ _ (slR _ _ 160 _ _ :: _) := M.f3; replace M := M1; clear M1
      have M1 : Sep _ _ _ (bigR agZ _ :: _) := M.f2; replace M := M1; clear M1
      have M1 : Sep _ _ _ (mapX _ _ _ :: _) := M.f2; replace M := M1; clear M1
      have M1 : Sep _ _ _ (slR _ _ 50 _ _ :: _) := M.f6; replace M := M1; clear M1
      have M1 : Sep _ _ _ (blk cb _ :: _) := M.f4; replace M := M1; clear M1
      exact Sep.left (m := [couR (⟨cb, mb, bs, gs.set (nd.toNat - 1) (⟨g.b, g.vb, x.1⟩ : Ga), GA, gc, y⟩) (C.act nd a_ q)]) (Fw.Sep.couShut (γ := (⟨cb, mb, bs, gs.set (nd.toNat - 1) (⟨g.b, g.vb, x.1⟩ : Ga), GA, gc, y⟩)) (C := (C.act nd a_ q)) M ⟨map_set_b hgs hg rfl, (by rw [List.length_set]; exact hgl.trans List.length_set.symm)⟩)
end Go.Proofs.Ytboibdmflblphaa
