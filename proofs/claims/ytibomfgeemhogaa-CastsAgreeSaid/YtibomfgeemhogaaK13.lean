/- K13 of the seat. -/
import Derived.Test.YtibomfgeemhogaaK12
import Derived.Test.YtibomfgeemhogaaCasA
namespace Go.Proofs.Ytibomfgeemhogaa
open Go Fw
theorem tl_82_K13 : SlT Try.prog 82 87 6 56 (.agg #[.int .i64 0, .int .i64 0, .int .i64 0, .int .i64 0, .int .i64 0, .string { data := #[] }]) := ⟨by kernel_rfl, by kernel_rfl, by kernel_rfl, by kernel_rfl, by decide⟩
theorem sl_56_K13 : slcB Try.prog 56 = some (70, 5) := by kernel_rfl
theorem ag_70_K13 : aggB Try.prog 70 = some 5 := by kernel_rfl
theorem zr_70_K13 : zeroB Try.prog 70 = some (.agg #[.int .i64 0, .int .i64 0, .int .i64 0, .int .i64 0, .string { data := #[] }]) := by kernel_rfl
theorem sz_70_K13 : sizeB Try.prog 70 = some 5 := by kernel_rfl
theorem fa_70_2_K13 : FA Try.prog 70 2 2 := fun _ _ _ => by kernel_rfl
theorem fa_38_1_K13 : FA Try.prog 38 1 1 := fun _ _ _ => by kernel_rfl
theorem sz_3_K13 : sizeB Try.prog 3 = some 1 := by kernel_rfl
theorem bl_87_0_1_K13 : ∀ (x0 : Int) (x1_0 : Int) (x1_1 : Int) (x1_2_0 : Int) (x1_2_1 : Int) (x1_2_2 : ByteArray), ∀ w : World, (Instr.build 87 #[(0, .int .i64 x0), (1, .agg #[.int .i64 x1_0, .int .i64 x1_1, .int .i64 x1_2_0, .int .i64 x1_2_1, .string x1_2_2])]).run Try.prog w = .ok (.agg #[.int .i64 x0, .int .i64 x1_0, .int .i64 x1_1, .int .i64 x1_2_0, .int .i64 x1_2_1, .string x1_2_2]) w := by intros; kernel_rfl
theorem bs_82_1_K13 : ∀ (x0_0 : Int) (x0_1_0 : Int) (x0_1_1 : Int) (x0_1_2_0 : Int) (x0_1_2_1 : Int) (x0_1_2_2 : ByteArray), News Try.prog (Instr.buildSlice 82 1 #[(0, .agg #[.int .i64 x0_0, .int .i64 x0_1_0, .int .i64 x0_1_1, .int .i64 x0_1_2_0, .int .i64 x0_1_2_1, .string x0_1_2_2])]) (.cells #[.int .i64 x0_0, .int .i64 x0_1_0, .int .i64 x0_1_1, .int .i64 x0_1_2_0, .int .i64 x0_1_2_1, .string x0_1_2_2] 87) fun b => .slice (some ⟨b, 0, none⟩) 1 1 := by intros; intro w; kernel_rfl
open CastM CasM

def encTW (y : ToW) : List Value := [.int .i64 (y.node : Int), .int .i64 y.w.frm, .int .i64 y.w.seq, .int .i64 y.w.m.kind, .int .i64 y.w.m.frm, .string y.w.m.body]
theorem ontoW_succ {way : List ToW} {h : Nat} {frm : Int} {l : List Wd} {i : Int} {e : Wd} (h0 : 0 ≤ i) (he : l[i.toNat]? = some e) :
    ontoW way h frm (l.take (i + 1).toNat) = ontoW way h frm (l.take i.toNat) ++ (List.range h).map fun k => ⟨k, { e with m := { e.m with frm := frm } }⟩ := by
  rw [take_succ h0 he]
  simp [ontoW]
theorem ontoW_len {way : List ToW} {h : Nat} {frm : Int} {l : List Wd} : (ontoW way h frm l).length = way.length + l.length * h := by
  have : (l.flatMap fun d => (List.range h).map fun k => (⟨k, { d with m := { d.m with frm := frm } }⟩ : ToW)).length = l.length * h := by
    induction l with
    | nil => simp
    | cons m l ih => simp [List.flatMap_cons, ih, Nat.add_mul]; omega
  simp [ontoW, this]

set_option maxRecDepth 100000 in
set_option maxHeartbeats 400000 in
theorem c34 (way : List ToW) (h : Nat) (frm : Int) (l : List Wd) (v v2 : Value) (w0 : World) (hr : RdSl w0.heap v way.length 6 (way.flatMap encTW)) (hr2 : RdSl w0.heap v2 l.length 5 (l.flatMap encD)) (hl : l.length ≤ 2) (hh : h ≤ 7) (hw : way.length ≤ 100000) :
    Cl Try.prog 34 #[v, .int .i64 h, .int .i64 frm, v2] w0 (RetS [] w0 (fun u x => u = x) fun x => [slR x (ontoW way h frm l).length 87 6 ((ontoW way h frm l).flatMap encTW)]) := by
  have M : Sep (fun b => b ∈ foots ([] : List Res)) w0 w0 _ := Sep.nil _ w0
  have hro := (ro_of hr).nil
  have hro2 := (ro_of hr2).nil
  obtain ⟨A, cc, rfl, hcc⟩ := hr.form
  obtain ⟨A2, cc2, rfl, hcc2⟩ := hr2.form
  refine enter (vs := [_, _, _, _]) Try.func34 rfl rfl rfl ?_
  intro a F
  refine wp_seq ?_
  refine wp_region_l [.ind] ([0]) rfl ?_
  refine s_I F rfl rfl rfl rfl rfl rfl ?_; clear F a; intro a F
  refine t_endM M ?_; (clear M; try clear w); intro w M
  refine wp_seq ?_
  refine wp_region_l [.ind, .wr, .ind] ([0, 1, 2]) rfl ?_
  refine s_I F rfl rfl rfl rfl rfl rfl ?_; clear F a; intro a F
  replace M := M.nilT encTW 87 6
  refine s_apM (way) F M rfl rfl rfl rfl tl_82_K13 rfl rfl (by exact M.chg.ro hro) (by intro e; rfl) (by simp; omega) (fun _ _ _ _ => pend_nil) ?_; (clear F a M; try clear w); intro A14 c14 w M a F
  refine s_I F rfl rfl rfl rfl rfl rfl ?_; clear F a; intro a F
  refine t_endM M ?_; (clear M; try clear w); intro w M
  refine wp_seq ?_
  refine wp_seq ?_
  replace F := F.keep [0, 1, 2, 3, 8, 9] rfl
  refine wp_region_l [.ind] ([0]) rfl ?_
  refine s_I F rfl rfl rfl rfl rfl rfl ?_; clear F a; intro a F
  refine t_endM M ?_; (clear M; try clear w); intro w M
  refine wp_block ?_
  have h0 : [] ++ way = ontoW way h frm (l.take (0 : Int).toNat) := by simp [ontoW]
  rw [h0] at F M
  have M1 : Sep _ _ _ (slR (.slice _ (List.length _) _) _ 87 _ _ :: _) := M; replace M := M1; clear M1
  refine loopX (X := (Int) × (Option Addr) × (Nat)) F [0, 1, 2, 3, 8] rfl (fun ((i, A, c) : (Int) × (Option Addr) × (Nat)) => (0 ≤ i) ∧ (i ≤ l.length)) (fun ((i, A, c) : (Int) × (Option Addr) × (Nat)) => [(9, .slice A (ontoW way h frm (l.take i.toNat)).length c), (10, .int .i64 i)]) (fun ((i, A, c) : (Int) × (Option Addr) × (Nat)) => [slR (.slice A (ontoW way h frm (l.take i.toNat)).length c) (ontoW way h frm (l.take i.toNat)).length 87 6 ((ontoW way h frm (l.take i.toNat)).flatMap encTW)]) (fun ((i, A, c) : (Int) × (Option Addr) × (Nat)) => l.length - i.toNat) ((0), (A14), (c14)) M ⟨(by omega), (by omega)⟩ (F.keep [9, 10, 0, 1, 2, 3, 8] rfl) ?_
  clear F M; clear a; (try clear w)
  rintro ⟨i, A, c⟩ a w ⟨i0, i1⟩ F M; try dsimp only at F M
  try simp only [List.cons_append, List.nil_append] at F M
  try dsimp only at i0 i1
  refine wp_seq ?_
  refine wp_seq ?_
  refine wp_region_l [.ind, .ind, .ind, .ind] ([0, 1, 2, 3]) rfl ?_
  refine s_I F rfl rfl rfl rfl rfl rfl ?_; clear F a; intro a F
  refine s_I F rfl rfl rfl rfl rfl rfl ?_; clear F a; intro a F
  refine s_len F rfl rfl rfl rfl sl_56_K13 rfl ?_; clear F a; intro a F
  refine s_bin F rfl rfl rfl rfl rfl rfl rfl ?_; clear F a; intro a F
  refine t_endM M ?_; (clear M; try clear w); intro w M
  refine c_if F rfl ?_ ?_
  ·
    clear F; intro hc0 F
    try rw [hc0] at F
    replace hc0 := of_decide_eq_true hc0
    refine wp_skip ?_
    refine wp_seq ?_
    refine wp_block ?_
    refine wp_seq ?_
    replace F := F.keep [0, 1, 2, 3, 8, 9, 10] rfl
    refine wp_region_l [.ind, .ind, .ind, .rd, .wr, .wr] ([0, 1, 2, 3, 4, 5]) rfl ?_
    refine s_I F rfl rfl rfl rfl rfl rfl ?_; clear F a; intro a F
    refine s_I F rfl rfl rfl rfl rfl rfl ?_; clear F a; intro a F
    refine s_ix F rfl rfl rfl rfl sl_56_K13 rfl rfl (by exact M.chg.ro hro2) (by omega) (by omega) ?_; clear F a; intro e23 he23 a F
    refine s_lda F rfl rfl rfl rfl ag_70_K13 rfl rfl (rdsX (M.chg.ro hro2) (by intro e; rfl) he23) ?_; clear F a; intro a F
    refine s_alc F M rfl rfl rfl rfl zr_70_K13 rfl ?_; (clear F a M; try clear w); intro b11 w M a F
    refine s_stW F M rfl rfl rfl sz_70_K13 rfl rfl rfl rfl rfl ?_; (clear M; try clear w); intro w M
    refine t_endM M ?_; (clear M; try clear w); intro w M
    refine wp_seq ?_
    replace F := F.keep [0, 1, 2, 3, 8, 9, 10, 11] rfl
    refine wp_region_l [.ind, .ind, .ind, .wr] ([0, 1, 2, 3]) rfl ?_
    refine s_I F rfl rfl rfl rfl rfl rfl ?_; clear F a; intro a F
    refine s_fa0 F rfl rfl rfl rfl fa_70_2_K13 rfl ?_; clear F a; intro a F
    refine s_fa F rfl rfl rfl rfl fa_38_1_K13 rfl ?_; clear F a; intro a F
    refine s_st F M rfl rfl rfl sz_3_K13 rfl rfl rfl (by exact Nat.le_of_ble_eq_true rfl) ?_; (clear M; try clear w); intro w M
    refine t_endM M ?_; (clear M; try clear w); intro w M
    refine wp_seq ?_
    replace F := F.keep [0, 1, 2, 3, 8, 9, 10, 11] rfl
    refine wp_region_l [.ind] ([0]) rfl ?_
    refine s_I F rfl rfl rfl rfl rfl rfl ?_; clear F a; intro a F
    refine t_endM M ?_; (clear M; try clear w); intro w M
    refine wp_block ?_
    have h0 : ontoW way h frm (l.take i.toNat) = ontoW way h frm (l.take i.toNat) ++ ((List.range (0)).map fun k => (⟨k, { e23 with m := { e23.m with frm := frm } }⟩ : ToW)) := by simp
    rw [h0] at F M
    have M1 : Sep _ _ _ (slR (.slice _ (List.length _) _) _ 87 _ _ :: _) := M.f1; replace M := M1; clear M1
    refine loopX (X := (Nat) × (Option Addr) × (Nat)) F [0, 1, 2, 3, 8, 10, 11] rfl (fun ((k, A, c) : (Nat) × (Option Addr) × (Nat)) => (k ≤ h)) (fun ((k, A, c) : (Nat) × (Option Addr) × (Nat)) => [(9, .slice A (ontoW way h frm (l.take i.toNat) ++ ((List.range (k)).map fun k => (⟨k, { e23 with m := { e23.m with frm := frm } }⟩ : ToW))).length c), (12, .int .i64 (k : Int))]) (fun ((k, A, c) : (Nat) × (Option Addr) × (Nat)) => [slR (.slice A (ontoW way h frm (l.take i.toNat) ++ ((List.range (k)).map fun k => (⟨k, { e23 with m := { e23.m with frm := frm } }⟩ : ToW))).length c) (ontoW way h frm (l.take i.toNat) ++ ((List.range (k)).map fun k => (⟨k, { e23 with m := { e23.m with frm := frm } }⟩ : ToW))).length 87 6 ((ontoW way h frm (l.take i.toNat) ++ ((List.range (k)).map fun k => (⟨k, { e23 with m := { e23.m with frm := frm } }⟩ : ToW))).flatMap encTW)]) (fun ((k, A, c) : (Nat) × (Option Addr) × (Nat)) => h - k) ((0), (A), (c)) M (by omega) (F.keep [9, 12, 0, 1, 2, 3, 8, 10, 11] rfl) ?_
    clear F M; clear a; (try clear w)
    rintro ⟨k, A, c⟩ a w k1 F M; try dsimp only at F M
    try simp only [List.cons_append, List.nil_append] at F M
    try dsimp only at k1
    have hle := ontoW_len (way := way) (h := h) (frm := frm) (l := l.take i.toNat)
    rw [List.length_take, Nat.min_eq_left (by omega)] at hle
    have hle2 := Nat.mul_le_mul (show i.toNat ≤ 2 by omega) hh
    refine wp_seq ?_
    refine wp_seq ?_
    refine wp_region_l [.ind, .ind, .ind] ([0, 1, 2]) rfl ?_
    refine s_I F rfl rfl rfl rfl rfl rfl ?_; clear F a; intro a F
    refine s_I F rfl rfl rfl rfl rfl rfl ?_; clear F a; intro a F
    refine s_bin F rfl rfl rfl rfl rfl rfl rfl ?_; clear F a; intro a F
    refine t_endM M ?_; (clear M; try clear w); intro w M
    refine c_if F rfl ?_ ?_
    ·
      clear F; intro hc1 F
      try rw [hc1] at F
      replace hc1 := of_decide_eq_true hc1
      refine wp_skip ?_
      refine wp_seq ?_
      refine wp_block ?_
      replace F := F.keep [0, 1, 2, 3, 8, 9, 10, 11, 12] rfl
      refine wp_region_l [.ind, .ind, .rd, .ind, .wr, .wr, .ind] ([0, 1, 2, 3, 4, 5, 6]) rfl ?_
      refine s_I F rfl rfl rfl rfl rfl rfl ?_; clear F a; intro a F
      refine s_I F rfl rfl rfl rfl rfl rfl ?_; clear F a; intro a F
      refine s_lda F rfl rfl rfl rfl ag_70_K13 rfl rfl (cells_whole M.h1) ?_; clear F a; intro a F
      refine s_bld F rfl rfl rfl rfl (parts2 F rfl rfl) (bl_87_0_1_K13 _ _ _ _ _ _) ?_; clear F a; intro a F
      refine s_bs F M rfl rfl rfl rfl (parts1 F rfl) (bs_82_1_K13 _ _ _ _ _ _) ?_; (clear F a M; try clear w); intro b37 w M a F
      refine s_apE ((⟨k, { e23 with m := { e23.m with frm := frm } }⟩ : ToW)) F M.f1 rfl rfl rfl rfl tl_82_K13 rfl rfl (by exact rd_blk M.h0 rfl) rfl (by rw [List.length_append, List.length_map, List.length_range]; omega) (fun _ _ _ _ => pend_nil) ?_; (clear F a M; try clear w); intro A38 c38 w M a F
      refine s_I F rfl rfl rfl rfl rfl rfl ?_; clear F a; intro a F
      refine t_endM M ?_; (clear M; try clear w); intro w M
      replace F := F.keep [0, 1, 2, 3, 8, 9, 10, 11, 12] rfl
      refine wp_region_l [.ind, .ind, .ind] ([0, 1, 2]) rfl ?_
      refine s_I F rfl rfl rfl rfl rfl rfl ?_; clear F a; intro a F
      refine s_add F rfl rfl rfl rfl rfl rfl (by unfold In64; omega) ?_; clear F a; intro a F
      refine s_I F rfl rfl rfl rfl rfl rfl ?_; clear F a; intro a F
      refine t_endM M ?_; (clear M; try clear w); intro w M
      have h1 : (ontoW way h frm (l.take i.toNat) ++ ((List.range (k)).map fun k => (⟨k, { e23 with m := { e23.m with frm := frm } }⟩ : ToW))) ++ [⟨k, { e23 with m := { e23.m with frm := frm } }⟩] = ontoW way h frm (l.take i.toNat) ++ ((List.range (k + 1)).map fun k => (⟨k, { e23 with m := { e23.m with frm := frm } }⟩ : ToW)) := by rw [List.range_succ, List.map_append, List.append_assoc]; rfl
      rw [h1] at F M
      refine again ((k + 1), (A38), (c38)) (by show _ < _; (try dsimp only); omega) (by omega) (F.keep [9, 12, 0, 1, 2, 3, 8, 10, 11] rfl) ?_
      try dsimp only [List.cons_append, List.nil_append]
      refine M.pick ?_; repeat (first | exact PkG.nil | refine PkG.cons 0 rfl rfl ?_ | refine PkG.cons 2 rfl rfl ?_)
    ·
      clear F; intro hc2 F
      try rw [hc2] at F
      replace hc2 := of_decide_eq_false hc2
      refine wp_exit ?_
      replace F := F.keep [0, 1, 2, 3, 8, 9, 10, 11, 12] rfl
      refine wp_region_l [.ind, .ind, .ind] ([0, 1, 2]) rfl ?_
      refine s_I F rfl rfl rfl rfl rfl rfl ?_; clear F a; intro a F
      refine s_add F rfl rfl rfl rfl rfl rfl (by unfold In64; omega) ?_; clear F a; intro a F
      refine s_I F rfl rfl rfl rfl rfl rfl ?_; clear F a; intro a F
      refine t_endM M ?_; (clear M; try clear w); intro w M
      have h1 : ontoW way h frm (l.take i.toNat) ++ ((List.range (k)).map fun k => (⟨k, { e23 with m := { e23.m with frm := frm } }⟩ : ToW)) = ontoW way h frm (l.take (i + 1).toNat) := by rw [ontoW_succ i0 he23, show k = h by omega]
      rw [h1] at F M
      refine again ((i + 1), (A), (c)) (by show _ < _; (try dsimp only); omega) ⟨(by omega), (by assumption)⟩ (F.keep [9, 10, 0, 1, 2, 3, 8] rfl) ?_
      try dsimp only [List.cons_append, List.nil_append]
      refine M.pick ?_; repeat (first | exact PkG.nil | refine PkG.cons 0 rfl rfl ?_)
  ·
    clear F; intro hc3 F
    try rw [hc3] at F
    replace hc3 := of_decide_eq_false hc3
    refine wp_exit ?_
    refine wp_seq ?_
    replace F := F.keep [0, 1, 2, 3, 8, 9, 10] rfl
    refine wp_region_l [.ind, .ind] ([0, 1]) rfl ?_
    refine s_I F rfl rfl rfl rfl rfl rfl ?_; clear F a; intro a F
    refine s_I F rfl rfl rfl rfl rfl rfl ?_; clear F a; intro a F
    refine t_endM M ?_; (clear M; try clear w); intro w M
    refine wp_ret ?_
    refine ret1 F rfl rfl ?_
    -- end 0
    refine ⟨_, _, rfl, rfl, ?_⟩
    rw [take_all (by omega)] at F M ⊢
    exact Sep.left (r := []) M
end Go.Proofs.Ytibomfgeemhogaa
