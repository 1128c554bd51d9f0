/- C10 of the seat. -/
import Derived.Test.YtibomfgeemhogaaC9
namespace Go.Proofs.Ytibomfgeemhogaa
open Go Fw
theorem sl_45_C10 : slcB Try.prog 45 = some (47, 4) := by kernel_rfl
theorem cb_14_C10 : callB Try.prog 14 = true := by kernel_rfl
theorem fa_26_0_C10 : FA Try.prog 26 0 0 := fun _ _ _ => by kernel_rfl
theorem sc_3_C10 : scalB Try.prog 3 = true := by kernel_rfl
theorem fa_26_1_C10 : FA Try.prog 26 1 1 := fun _ _ _ => by kernel_rfl
theorem cb_13_C10 : callB Try.prog 13 = true := by kernel_rfl
theorem fa_26_2_C10 : FA Try.prog 26 2 2 := fun _ _ _ => by kernel_rfl
theorem fa_47_1_C10 : FA Try.prog 47 1 1 := fun _ _ _ => by kernel_rfl
theorem fa_38_2_C10 : FA Try.prog 38 2 2 := fun _ _ _ => by kernel_rfl
theorem sc_9_C10 : scalB Try.prog 9 = true := by kernel_rfl
theorem st_9_C10 : strB Try.prog 9 = true := by kernel_rfl
theorem cb_16_C10 : callB Try.prog 16 = true := by kernel_rfl
theorem bs_48_1_C10 : ∀ (x0 : Option Addr), News Try.prog (Instr.buildSlice 48 1 #[(0, .pointer x0)]) (.cells #[.pointer x0] 29) fun b => .slice (some ⟨b, 0, none⟩) 1 1 := by intros; intro w; kernel_rfl
theorem tl_48_C10 : SlT Try.prog 48 29 1 8 (.pointer none) := ⟨by kernel_rfl, by kernel_rfl, by kernel_rfl, by kernel_rfl, by decide⟩
theorem bl_38_0_2_C10 : ∀ (x0 : Int) (x2 : ByteArray), ∀ w : World, (Instr.build 38 #[(0, .int .i64 x0), (2, .string x2)]).run Try.prog w = .ok (.agg #[.int .i64 x0, .int .i64 0, .string x2]) w := by intros; kernel_rfl
theorem bs_27_1_C10 : ∀ (x0_0 : Int) (x0_1 : Int) (x0_2 : ByteArray), News Try.prog (Instr.buildSlice 27 1 #[(0, .agg #[.int .i64 x0_0, .int .i64 x0_1, .string x0_2])]) (.cells #[.int .i64 x0_0, .int .i64 x0_1, .string x0_2] 38) fun b => .slice (some ⟨b, 0, none⟩) 1 1 := by intros; intro w; kernel_rfl
theorem cb_22_C10 : callB Try.prog 22 = true := by kernel_rfl
theorem bl_38__C10 : ∀ w : World, (Instr.build 38 #[]).run Try.prog w = .ok (.agg #[.int .i64 0, .int .i64 0, .string { data := #[] }]) w := by intros; kernel_rfl
theorem zr_38_C10 : zeroB Try.prog 38 = some (.agg #[.int .i64 0, .int .i64 0, .string { data := #[] }]) := by kernel_rfl
theorem sz_38_C10 : sizeB Try.prog 38 = some 3 := by kernel_rfl
theorem ag_38_C10 : aggB Try.prog 38 = some 3 := by kernel_rfl
theorem fa_38_1_C10 : FA Try.prog 38 1 1 := fun _ _ _ => by kernel_rfl
theorem fa_47_0_C10 : FA Try.prog 47 0 0 := fun _ _ _ => by kernel_rfl
theorem ik_3_C10 : intB Try.prog 3 = some .i64 := by kernel_rfl
theorem ik_51_C10 : intB Try.prog 51 = some .u64 := by kernel_rfl
theorem sl_49_C10 : slcB Try.prog 49 = some (53, 4) := by kernel_rfl
theorem fa_53_0_C10 : FA Try.prog 53 0 0 := fun _ _ _ => by kernel_rfl
theorem fa_53_1_C10 : FA Try.prog 53 1 1 := fun _ _ _ => by kernel_rfl
theorem tl_49_C10 : SlT Try.prog 49 53 4 40 (.agg #[.int .i64 0, .int .i64 0, .int .i64 0, .string { data := #[] }]) := ⟨by kernel_rfl, by kernel_rfl, by kernel_rfl, by kernel_rfl, by decide⟩
theorem sl_48_C10 : slcB Try.prog 48 = some (29, 1) := by kernel_rfl
theorem sc_29_C10 : scalB Try.prog 29 = true := by kernel_rfl
theorem cb_21_C10 : callB Try.prog 21 = true := by kernel_rfl
theorem cb_20_C10 : callB Try.prog 20 = true := by kernel_rfl
open CastM

structure Br where
  at_ : Int
  msg : Msg
def encB (b : Br) : List Value := [.int .i64 b.at_, .int .i64 b.msg.kind, .int .i64 b.msg.frm, .string b.msg.body]
def encP (p : Nat × Nat) : List Value := [.pointer (some ⟨p.1, 0, none⟩)]
abbrev castZ : (Nat × Nat) × CSt → Res := fun p => castR p.1.1 p.1.2 p.2
theorem zip_at {α β : Type} {l : List α} {m : List β} {i : Nat} {a : α} {b : β} (h1 : l[i]? = some a) (h2 : m[i]? = some b) : (l.zip m)[i]? = some (a, b) := by
  simp [List.getElem?_zip_eq_some, h1, h2]
theorem zip_set {α β : Type} : ∀ {l : List α} {m : List β} {i : Nat} {a : α} {b : β}, l[i]? = some a → (l.zip m).set i (a, b) = l.zip (m.set i b)
  | [], m, i, a, b, h => by simp at h
  | x :: l, [], i, a, b, h => by simp
  | x :: l, y :: m, 0, a, b, h => by simp at h; subst h; simp
  | x :: l, y :: m, i + 1, a, b, h => by simp at h; simp [zip_set h]
theorem zip_snoc {α β : Type} {l : List α} {m : List β} {a : α} {b : β} (h : l.length = m.length) : l.zip m ++ [(a, b)] = (l ++ [a]).zip (m ++ [b]) := by
  rw [List.zip_append h]; rfl
theorem onto_le {way : List To} {h : Nat} {frm : Int} {l : List Msg} (h1 : l.length ≤ 2) (h2 : h ≤ 7) : (onto way h frm l).length ≤ way.length + 14 := by
  rw [onto_len]
  have := Nat.mul_le_mul h1 h2
  omega
def way0 (h : Nat) (frm : Int) : List To := if frm ≤ h then onto [] h frm [⟨1, 0, xS⟩] else []
theorem way0_le {h : Nat} {frm : Int} (hh : h ≤ 7) : (way0 h frm).length ≤ 14 := by
  unfold way0
  split
  · have := onto_le (way := []) (h := h) (frm := frm) (l := [⟨1, 0, xS⟩]) (by simp) hh
    simpa using this
  · simp
theorem mem_cut {α : Type} {l : List α} {i : Nat} {y : α} (h : y ∈ l.take i ++ l.drop (i + 1)) : y ∈ l := by
  rcases List.mem_append.1 h with h | h
  · exact List.mem_of_mem_take h
  · exact List.mem_of_mem_drop h
theorem rem_nat (a : Int) {h : Nat} (h0 : 0 < h) : ∃ k : Nat, (k : Int) = (a % 18446744073709551616) % ((h : Int) % 18446744073709551616) ∧ ((h : Int) < 18446744073709551616 → k < h) := by
  refine ⟨((a % 18446744073709551616) % ((h : Int) % 18446744073709551616)).toNat, ?_, fun hlt => ?_⟩ <;>
  have h1 : 0 ≤ (a % 18446744073709551616) % ((h : Int) % 18446744073709551616) := by
    rcases Int.lt_or_le 0 ((h : Int) % 18446744073709551616) with h1 | h1
    · exact Int.emod_nonneg _ (by omega)
    · have : (h : Int) % 18446744073709551616 = 0 := by omega
      rw [this]; omega
  · omega
  · have e : (h : Int) % 18446744073709551616 = h := by omega
    rw [e] at h1 ⊢
    have := Int.emod_lt_of_pos (a % 18446744073709551616) (show (0 : Int) < h by omega)
    omega

set_option maxRecDepth 100000 in
set_option maxHeartbeats 400000 in
theorem law6a (n t frm : Int) (l : List Br) (v : Value) (w0 : World) (hr : RdSl w0.heap v l.length 4 (l.flatMap encB)) (h : 200 < l.length ∨ quorum n t = 0 ∨ frm < 1 ∨ n < frm) : Cl Try.prog 6 #[.agg #[.int .i64 n, .int .i64 t, .int .i64 frm], v] w0 (RetQ w0 fun v => v = .bool true) := by
  have M : Sep (fun _ => False) w0 w0 _ := Sep.nil _ w0
  have hro := (ro_of hr)
  obtain ⟨A, cc, rfl, hcc⟩ := hr.form
  refine enter (vs := [_, _]) Try.func6 rfl rfl rfl ?_
  intro a F
  refine wp_seq ?_
  refine wp_region_l [.wr, .ind] ([0, 1]) rfl ?_
  refine s_bxA F M rfl rfl rfl rfl rfl ?_; (clear F a M; try clear w); intro b2 w M a F
  refine s_I F rfl rfl rfl rfl rfl rfl ?_; clear F a; intro a F
  refine t_endM M ?_; (clear M; try clear w); intro w M
  refine wp_seq ?_
  refine wp_seq ?_
  refine wp_region_l [.ind, .ind, .ind, .ind, .ind, .rd, .ind, .rd, .wr, .ind, .ind, .ind, .ind, .rd, .ind, .ind, .ind, .ind, .rd, .ind, .rd, .ind, .ind] ([0, 1, 2, 3, 4, 5, 6, 7, 8, 9, 10, 11, 12, 13, 14, 15, 16, 17, 18, 19, 20, 21, 22]) rfl ?_
  refine s_I F rfl rfl rfl rfl rfl rfl ?_; clear F a; intro a F
  refine s_len F rfl rfl rfl rfl sl_45_C10 rfl ?_; clear F a; intro a F
  refine s_bin F rfl rfl rfl rfl rfl rfl rfl ?_; clear F a; intro a F
  refine s_I F rfl rfl rfl rfl rfl rfl ?_; clear F a; intro a F
  refine bsplit F 23 rfl ?_ ?_
  ·
    clear F; intro hc0 F
    try rw [hc0] at F
    replace hc0 := of_decide_eq_true hc0
    refine s_no F rfl rfl rfl rfl ?_; clear F a; intro a F
    refine s_no F rfl rfl rfl rfl ?_; clear F a; intro a F
    refine s_no F rfl rfl rfl rfl ?_; clear F a; intro a F
    refine s_no F rfl rfl rfl rfl ?_; clear F a; intro a F
    refine s_no F rfl rfl rfl rfl ?_; clear F a; intro a F
    refine s_no F rfl rfl rfl rfl ?_; clear F a; intro a F
    refine s_I F rfl rfl rfl rfl rfl rfl ?_; clear F a; intro a F
    refine s_I F rfl rfl rfl rfl rfl rfl ?_; clear F a; intro a F
    refine s_no F rfl rfl rfl rfl ?_; clear F a; intro a F
    refine s_no F rfl rfl rfl rfl ?_; clear F a; intro a F
    refine s_no F rfl rfl rfl rfl ?_; clear F a; intro a F
    refine s_I F rfl rfl rfl rfl rfl rfl ?_; clear F a; intro a F
    refine s_I F rfl rfl rfl rfl rfl rfl ?_; clear F a; intro a F
    refine s_no F rfl rfl rfl rfl ?_; clear F a; intro a F
    refine s_no F rfl rfl rfl rfl ?_; clear F a; intro a F
    refine s_no F rfl rfl rfl rfl ?_; clear F a; intro a F
    refine s_no F rfl rfl rfl rfl ?_; clear F a; intro a F
    refine s_no F rfl rfl rfl rfl ?_; clear F a; intro a F
    refine s_I F rfl rfl rfl rfl rfl rfl ?_; clear F a; intro a F
    refine t_endM M ?_; (clear M; try clear w); intro w M
    refine c_t F rfl ?_
    refine wp_seq ?_
    replace F := F.keep [0, 1, 2, 4] rfl
    refine wp_region_l [.wr, .ind] ([0, 1]) rfl ?_
    refine s_cq F M rfl rfl rfl rfl rfl (rfl : _ = some []) cb_14_C10 (fun nd_ => c14 _) ?_; (clear F a M; try clear w); rintro v w rfl M a F
    refine s_I F rfl rfl rfl rfl rfl rfl ?_; clear F a; intro a F
    refine t_endM M ?_; (clear M; try clear w); intro w M
    refine wp_ret ?_
    refine ret1 F rfl rfl ?_
    -- end 0
    exact ⟨_, rfl, rfl, M.chg⟩
  ·
    clear F; intro hc1 F
    try rw [hc1] at F
    replace hc1 := of_decide_eq_false hc1
    refine s_fa0 F rfl rfl rfl rfl fa_26_0_C10 rfl ?_; clear F a; intro a F
    refine s_ld F rfl rfl rfl rfl sc_3_C10 rfl (by exact cell_of_blk M.h0 (lit rfl)) ?_; clear F a; intro a F
    refine s_fa0 F rfl rfl rfl rfl fa_26_1_C10 rfl ?_; clear F a; intro a F
    refine s_ld F rfl rfl rfl rfl sc_3_C10 rfl (by exact cell_of_blk M.h0 (lit rfl)) ?_; clear F a; intro a F
    refine s_cq F M rfl rfl rfl rfl rfl (rfl : _ = some [_, _]) cb_13_C10 (fun nd_ => c13 _ _ _) ?_; (clear F a M; try clear w); rintro v w rfl M a F
    refine s_bin F rfl rfl rfl rfl rfl rfl rfl ?_; clear F a; intro a F
    refine s_I F rfl rfl rfl rfl rfl rfl ?_; clear F a; intro a F
    refine s_I F rfl rfl rfl rfl rfl rfl ?_; clear F a; intro a F
    refine bsplit F 31 rfl ?_ ?_
    ·
      clear F; intro hc2 F
      try rw [hc2] at F
      replace hc2 := of_decide_eq_true hc2
      refine s_no F rfl rfl rfl rfl ?_; clear F a; intro a F
      refine s_no F rfl rfl rfl rfl ?_; clear F a; intro a F
      refine s_no F rfl rfl rfl rfl ?_; clear F a; intro a F
      refine s_I F rfl rfl rfl rfl rfl rfl ?_; clear F a; intro a F
      refine s_I F rfl rfl rfl rfl rfl rfl ?_; clear F a; intro a F
      refine s_no F rfl rfl rfl rfl ?_; clear F a; intro a F
      refine s_no F rfl rfl rfl rfl ?_; clear F a; intro a F
      refine s_no F rfl rfl rfl rfl ?_; clear F a; intro a F
      refine s_no F rfl rfl rfl rfl ?_; clear F a; intro a F
      refine s_no F rfl rfl rfl rfl ?_; clear F a; intro a F
      refine s_I F rfl rfl rfl rfl rfl rfl ?_; clear F a; intro a F
      refine t_endM M ?_; (clear M; try clear w); intro w M
      refine c_t F rfl ?_
      refine wp_seq ?_
      replace F := F.keep [0, 1, 2, 4] rfl
      refine wp_region_l [.wr, .ind] ([0, 1]) rfl ?_
      refine s_cq F M rfl rfl rfl rfl rfl (rfl : _ = some []) cb_14_C10 (fun nd_ => c14 _) ?_; (clear F a M; try clear w); rintro v w rfl M a F
      refine s_I F rfl rfl rfl rfl rfl rfl ?_; clear F a; intro a F
      refine t_endM M ?_; (clear M; try clear w); intro w M
      refine wp_ret ?_
      refine ret1 F rfl rfl ?_
      -- end 1
      exact ⟨_, rfl, rfl, M.chg⟩
    ·
      clear F; intro hc3 F
      try rw [hc3] at F
      replace hc3 := of_decide_eq_false hc3
      refine s_fa0 F rfl rfl rfl rfl fa_26_2_C10 rfl ?_; clear F a; intro a F
      refine s_ld F rfl rfl rfl rfl sc_3_C10 rfl (by exact cell_of_blk M.h0 (lit rfl)) ?_; clear F a; intro a F
      refine s_bin F rfl rfl rfl rfl rfl rfl rfl ?_; clear F a; intro a F
      refine s_I F rfl rfl rfl rfl rfl rfl ?_; clear F a; intro a F
      refine s_I F rfl rfl rfl rfl rfl rfl ?_; clear F a; intro a F
      refine bsplit F 36 rfl ?_ ?_
      ·
        clear F; intro hc4 F
        try rw [hc4] at F
        replace hc4 := of_decide_eq_true hc4
        refine s_no F rfl rfl rfl rfl ?_; clear F a; intro a F
        refine s_no F rfl rfl rfl rfl ?_; clear F a; intro a F
        refine s_no F rfl rfl rfl rfl ?_; clear F a; intro a F
        refine s_no F rfl rfl rfl rfl ?_; clear F a; intro a F
        refine s_no F rfl rfl rfl rfl ?_; clear F a; intro a F
        refine s_I F rfl rfl rfl rfl rfl rfl ?_; clear F a; intro a F
        refine t_endM M ?_; (clear M; try clear w); intro w M
        refine c_t F rfl ?_
        refine wp_seq ?_
        replace F := F.keep [0, 1, 2, 4] rfl
        refine wp_region_l [.wr, .ind] ([0, 1]) rfl ?_
        refine s_cq F M rfl rfl rfl rfl rfl (rfl : _ = some []) cb_14_C10 (fun nd_ => c14 _) ?_; (clear F a M; try clear w); rintro v w rfl M a F
        refine s_I F rfl rfl rfl rfl rfl rfl ?_; clear F a; intro a F
        refine t_endM M ?_; (clear M; try clear w); intro w M
        refine wp_ret ?_
        refine ret1 F rfl rfl ?_
        -- end 2
        exact ⟨_, rfl, rfl, M.chg⟩
      ·
        clear F; intro hc5 F
        try rw [hc5] at F
        replace hc5 := of_decide_eq_false hc5
        refine s_fa0 F rfl rfl rfl rfl fa_26_2_C10 rfl ?_; clear F a; intro a F
        refine s_ld F rfl rfl rfl rfl sc_3_C10 rfl (by exact cell_of_blk M.h0 (lit rfl)) ?_; clear F a; intro a F
        refine s_fa0 F rfl rfl rfl rfl fa_26_0_C10 rfl ?_; clear F a; intro a F
        refine s_ld F rfl rfl rfl rfl sc_3_C10 rfl (by exact cell_of_blk M.h0 (lit rfl)) ?_; clear F a; intro a F
        refine s_bin F rfl rfl rfl rfl rfl rfl rfl ?_; clear F a; intro a F
        refine s_I F rfl rfl rfl rfl rfl rfl ?_; clear F a; intro a F
        refine t_endM M ?_; (clear M; try clear w); intro w M
        refine c_if F rfl ?_ ?_
        ·
          clear F; intro hc6 F
          try rw [hc6] at F
          replace hc6 := of_decide_eq_true hc6
          refine wp_seq ?_
          replace F := F.keep [0, 1, 2, 4] rfl
          refine wp_region_l [.wr, .ind] ([0, 1]) rfl ?_
          refine s_cq F M rfl rfl rfl rfl rfl (rfl : _ = some []) cb_14_C10 (fun nd_ => c14 _) ?_; (clear F a M; try clear w); rintro v w rfl M a F
          refine s_I F rfl rfl rfl rfl rfl rfl ?_; clear F a; intro a F
          refine t_endM M ?_; (clear M; try clear w); intro w M
          refine wp_ret ?_
          refine ret1 F rfl rfl ?_
          -- end 3
          exact ⟨_, rfl, rfl, M.chg⟩
        ·
          clear F; intro hc7 F
          try rw [hc7] at F
          replace hc7 := of_decide_eq_false hc7
          exfalso; omega
set_option maxRecDepth 100000 in
set_option maxHeartbeats 6000000 in
theorem law6b (n t frm : Int) (l : List Br) (v : Value) (w0 : World) (hr : RdSl w0.heap v l.length 4 (l.flatMap encB)) (hl : l.length ≤ 200) (hq : quorum n t ≠ 0) (h1 : 1 ≤ frm) (h2 : frm ≤ n) : Cl Try.prog 6 #[.agg #[.int .i64 n, .int .i64 t, .int .i64 frm], v] w0 (RetQ w0 fun v => v = .bool true) := by
  have M : Sep (fun _ => False) w0 w0 _ := Sep.nil _ w0
  have hro := (ro_of hr)
  obtain ⟨A, cc, rfl, hcc⟩ := hr.form
  have hn : 0 ≤ t ∧ t ≤ 2 ∧ 3 * t + 1 ≤ n ∧ n ≤ 7 := by
    have hb := new_wf hq h1 h2
    exact ⟨hb.t0, hb.t2, hb.n0, hb.n7⟩
  obtain ⟨h, hh⟩ : ∃ h : Nat, (h : Int) = n - t := ⟨(n - t).toNat, by omega⟩
  have hh7 : h ≤ 7 := by omega
  refine enter (vs := [_, _]) Try.func6 rfl rfl rfl ?_
  intro a F
  refine wp_seq ?_
  refine wp_region_l [.wr, .ind] ([0, 1]) rfl ?_
  refine s_bxA F M rfl rfl rfl rfl rfl ?_; (clear F a M; try clear w); intro b2 w M a F
  refine s_I F rfl rfl rfl rfl rfl rfl ?_; clear F a; intro a F
  refine t_endM M ?_; (clear M; try clear w); intro w M
  refine wp_seq ?_
  refine wp_seq ?_
  refine wp_region_l [.ind, .ind, .ind, .ind, .ind, .rd, .ind, .rd, .wr, .ind, .ind, .ind, .ind, .rd, .ind, .ind, .ind, .ind, .rd, .ind, .rd, .ind, .ind] ([0, 1, 2, 3, 4, 5, 6, 7, 8, 9, 10, 11, 12, 13, 14, 15, 16, 17, 18, 19, 20, 21, 22]) rfl ?_
  refine s_I F rfl rfl rfl rfl rfl rfl ?_; clear F a; intro a F
  refine s_len F rfl rfl rfl rfl sl_45_C10 rfl ?_; clear F a; intro a F
  refine s_bin F rfl rfl rfl rfl rfl rfl rfl ?_; clear F a; intro a F
  refine s_I F rfl rfl rfl rfl rfl rfl ?_; clear F a; intro a F
  refine bsplit F 23 rfl ?_ ?_
  ·
    clear F; intro hc0 F
    try rw [hc0] at F
    replace hc0 := of_decide_eq_true hc0
    refine s_no F rfl rfl rfl rfl ?_; clear F a; intro a F
    refine s_no F rfl rfl rfl rfl ?_; clear F a; intro a F
    refine s_no F rfl rfl rfl rfl ?_; clear F a; intro a F
    refine s_no F rfl rfl rfl rfl ?_; clear F a; intro a F
    refine s_no F rfl rfl rfl rfl ?_; clear F a; intro a F
    refine s_no F rfl rfl rfl rfl ?_; clear F a; intro a F
    refine s_I F rfl rfl rfl rfl rfl rfl ?_; clear F a; intro a F
    refine s_I F rfl rfl rfl rfl rfl rfl ?_; clear F a; intro a F
    refine s_no F rfl rfl rfl rfl ?_; clear F a; intro a F
    refine s_no F rfl rfl rfl rfl ?_; clear F a; intro a F
    refine s_no F rfl rfl rfl rfl ?_; clear F a; intro a F
    refine s_I F rfl rfl rfl rfl rfl rfl ?_; clear F a; intro a F
    refine s_I F rfl rfl rfl rfl rfl rfl ?_; clear F a; intro a F
    refine s_no F rfl rfl rfl rfl ?_; clear F a; intro a F
    refine s_no F rfl rfl rfl rfl ?_; clear F a; intro a F
    refine s_no F rfl rfl rfl rfl ?_; clear F a; intro a F
    refine s_no F rfl rfl rfl rfl ?_; clear F a; intro a F
    refine s_no F rfl rfl rfl rfl ?_; clear F a; intro a F
    refine s_I F rfl rfl rfl rfl rfl rfl ?_; clear F a; intro a F
    refine t_endM M ?_; (clear M; try clear w); intro w M
    refine c_t F rfl ?_
    refine wp_seq ?_
    replace F := F.keep [0, 1, 2, 4] rfl
    refine wp_region_l [.wr, .ind] ([0, 1]) rfl ?_
    refine s_cq F M rfl rfl rfl rfl rfl (rfl : _ = some []) cb_14_C10 (fun nd_ => c14 _) ?_; (clear F a M; try clear w); rintro v w rfl M a F
    refine s_I F rfl rfl rfl rfl rfl rfl ?_; clear F a; intro a F
    refine t_endM M ?_; (clear M; try clear w); intro w M
    refine wp_ret ?_
    refine ret1 F rfl rfl ?_
    -- end 0
    exact ⟨_, rfl, rfl, M.chg⟩
  ·
    clear F; intro hc1 F
    try rw [hc1] at F
    replace hc1 := of_decide_eq_false hc1
    refine s_fa0 F rfl rfl rfl rfl fa_26_0_C10 rfl ?_; clear F a; intro a F
    refine s_ld F rfl rfl rfl rfl sc_3_C10 rfl (by exact cell_of_blk M.h0 (lit rfl)) ?_; clear F a; intro a F
    refine s_fa0 F rfl rfl rfl rfl fa_26_1_C10 rfl ?_; clear F a; intro a F
    refine s_ld F rfl rfl rfl rfl sc_3_C10 rfl (by exact cell_of_blk M.h0 (lit rfl)) ?_; clear F a; intro a F
    refine s_cq F M rfl rfl rfl rfl rfl (rfl : _ = some [_, _]) cb_13_C10 (fun nd_ => c13 _ _ _) ?_; (clear F a M; try clear w); rintro v w rfl M a F
    refine s_bin F rfl rfl rfl rfl rfl rfl rfl ?_; clear F a; intro a F
    refine s_I F rfl rfl rfl rfl rfl rfl ?_; clear F a; intro a F
    refine s_I F rfl rfl rfl rfl rfl rfl ?_; clear F a; intro a F
    refine bsplit F 31 rfl ?_ ?_
    ·
      clear F; intro hc2 F
      try rw [hc2] at F
      replace hc2 := of_decide_eq_true hc2
      refine s_no F rfl rfl rfl rfl ?_; clear F a; intro a F
      refine s_no F rfl rfl rfl rfl ?_; clear F a; intro a F
      refine s_no F rfl rfl rfl rfl ?_; clear F a; intro a F
      refine s_I F rfl rfl rfl rfl rfl rfl ?_; clear F a; intro a F
      refine s_I F rfl rfl rfl rfl rfl rfl ?_; clear F a; intro a F
      refine s_no F rfl rfl rfl rfl ?_; clear F a; intro a F
      refine s_no F rfl rfl rfl rfl ?_; clear F a; intro a F
      refine s_no F rfl rfl rfl rfl ?_; clear F a; intro a F
      refine s_no F rfl rfl rfl rfl ?_; clear F a; intro a F
      refine s_no F rfl rfl rfl rfl ?_; clear F a; intro a F
      refine s_I F rfl rfl rfl rfl rfl rfl ?_; clear F a; intro a F
      refine t_endM M ?_; (clear M; try clear w); intro w M
      refine c_t F rfl ?_
      refine wp_seq ?_
      replace F := F.keep [0, 1, 2, 4] rfl
      refine wp_region_l [.wr, .ind] ([0, 1]) rfl ?_
      refine s_cq F M rfl rfl rfl rfl rfl (rfl : _ = some []) cb_14_C10 (fun nd_ => c14 _) ?_; (clear F a M; try clear w); rintro v w rfl M a F
      refine s_I F rfl rfl rfl rfl rfl rfl ?_; clear F a; intro a F
      refine t_endM M ?_; (clear M; try clear w); intro w M
      refine wp_ret ?_
      refine ret1 F rfl rfl ?_
      -- end 1
      exact ⟨_, rfl, rfl, M.chg⟩
    ·
      clear F; intro hc3 F
      try rw [hc3] at F
      replace hc3 := of_decide_eq_false hc3
      refine s_fa0 F rfl rfl rfl rfl fa_26_2_C10 rfl ?_; clear F a; intro a F
      refine s_ld F rfl rfl rfl rfl sc_3_C10 rfl (by exact cell_of_blk M.h0 (lit rfl)) ?_; clear F a; intro a F
      refine s_bin F rfl rfl rfl rfl rfl rfl rfl ?_; clear F a; intro a F
      refine s_I F rfl rfl rfl rfl rfl rfl ?_; clear F a; intro a F
      refine s_I F rfl rfl rfl rfl rfl rfl ?_; clear F a; intro a F
      refine bsplit F 36 rfl ?_ ?_
      ·
        clear F; intro hc4 F
        try rw [hc4] at F
        replace hc4 := of_decide_eq_true hc4
        refine s_no F rfl rfl rfl rfl ?_; clear F a; intro a F
        refine s_no F rfl rfl rfl rfl ?_; clear F a; intro a F
        refine s_no F rfl rfl rfl rfl ?_; clear F a; intro a F
        refine s_no F rfl rfl rfl rfl ?_; clear F a; intro a F
        refine s_no F rfl rfl rfl rfl ?_; clear F a; intro a F
        refine s_I F rfl rfl rfl rfl rfl rfl ?_; clear F a; intro a F
        refine t_endM M ?_; (clear M; try clear w); intro w M
        refine c_t F rfl ?_
        refine wp_seq ?_
        replace F := F.keep [0, 1, 2, 4] rfl
        refine wp_region_l [.wr, .ind] ([0, 1]) rfl ?_
        refine s_cq F M rfl rfl rfl rfl rfl (rfl : _ = some []) cb_14_C10 (fun nd_ => c14 _) ?_; (clear F a M; try clear w); rintro v w rfl M a F
        refine s_I F rfl rfl rfl rfl rfl rfl ?_; clear F a; intro a F
        refine t_endM M ?_; (clear M; try clear w); intro w M
        refine wp_ret ?_
        refine ret1 F rfl rfl ?_
        -- end 2
        exact ⟨_, rfl, rfl, M.chg⟩
      ·
        clear F; intro hc5 F
        try rw [hc5] at F
        replace hc5 := of_decide_eq_false hc5
        refine s_fa0 F rfl rfl rfl rfl fa_26_2_C10 rfl ?_; clear F a; intro a F
        refine s_ld F rfl rfl rfl rfl sc_3_C10 rfl (by exact cell_of_blk M.h0 (lit rfl)) ?_; clear F a; intro a F
        refine s_fa0 F rfl rfl rfl rfl fa_26_0_C10 rfl ?_; clear F a; intro a F
        refine s_ld F rfl rfl rfl rfl sc_3_C10 rfl (by exact cell_of_blk M.h0 (lit rfl)) ?_; clear F a; intro a F
        refine s_bin F rfl rfl rfl rfl rfl rfl rfl ?_; clear F a; intro a F
        refine s_I F rfl rfl rfl rfl rfl rfl ?_; clear F a; intro a F
        refine t_endM M ?_; (clear M; try clear w); intro w M
        refine c_if F rfl ?_ ?_
        ·
          clear F; intro hc6 F
          try rw [hc6] at F
          replace hc6 := of_decide_eq_true hc6
          exfalso; omega
        ·
          clear F; intro hc7 F
          try rw [hc7] at F
          replace hc7 := of_decide_eq_false hc7
          refine wp_skip ?_
          refine wp_seq ?_
          refine wp_seq ?_
          replace F := F.keep [0, 1, 2, 4] rfl
          refine wp_region_l [.ind] ([0]) rfl ?_
          refine s_I F rfl rfl rfl rfl rfl rfl ?_; clear F a; intro a F
          refine t_endM M ?_; (clear M; try clear w); intro w M
          refine wp_block ?_
          refine loopX (X := Int) F [0, 1, 2] rfl (fun (i : Int) => (0 ≤ i) ∧ (i ≤ l.length)) (fun (i : Int) => [(5, .int .i64 i)]) (fun (i : Int) => []) (fun (i : Int) => l.length - i.toNat) (0) M ⟨(by omega), (by omega)⟩ (F.keep [5, 0, 1, 2] rfl) ?_
          clear F M; clear a; (try clear w)
          rintro i a w ⟨i0, i1⟩ F M; try dsimp only at F M
          try simp only [List.cons_append, List.nil_append] at F M
          try dsimp only at i0 i1
          refine wp_seq ?_
          refine wp_seq ?_
          refine wp_region_l [.ind, .ind, .ind, .ind] ([0, 1, 2, 3]) rfl ?_
          refine s_I F rfl rfl rfl rfl rfl rfl ?_; clear F a; intro a F
          refine s_I F rfl rfl rfl rfl rfl rfl ?_; clear F a; intro a F
          refine s_len F rfl rfl rfl rfl sl_45_C10 rfl ?_; clear F a; intro a F
          refine s_bin F rfl rfl rfl rfl rfl rfl rfl ?_; clear F a; intro a F
          refine t_endM M ?_; (clear M; try clear w); intro w M
          refine c_if F rfl ?_ ?_
          ·
            clear F; intro hc8 F
            try rw [hc8] at F
            replace hc8 := of_decide_eq_true hc8
            refine wp_skip ?_
            refine wp_seq ?_
            refine wp_block ?_
            refine wp_seq ?_
            replace F := F.keep [0, 1, 2, 5] rfl
            refine wp_region_l [.ind, .ind, .ind, .ind, .ind, .rd, .ind, .ind] ([0, 1, 2, 3, 4, 5, 6, 7]) rfl ?_
            refine s_I F rfl rfl rfl rfl rfl rfl ?_; clear F a; intro a F
            refine s_I F rfl rfl rfl rfl rfl rfl ?_; clear F a; intro a F
            refine s_ix F rfl rfl rfl rfl sl_45_C10 rfl rfl (by exact M.chg.ro hro) (by omega) (by omega) ?_; clear F a; intro e52 he52 a F
            refine s_fa F rfl rfl rfl rfl fa_47_1_C10 rfl ?_; clear F a; intro a F
            refine s_fa F rfl rfl rfl rfl fa_38_2_C10 rfl ?_; clear F a; intro a F
            refine s_ld F rfl rfl rfl rfl sc_9_C10 rfl (by exact rdX2 (M.chg.ro hro) (by intro e; rfl) he52 rfl) ?_; clear F a; intro a F
            refine s_lenS F rfl rfl rfl rfl st_9_C10 rfl ?_; clear F a; intro a F
            refine s_bin F rfl rfl rfl rfl rfl rfl rfl ?_; clear F a; intro a F
            refine t_endM M ?_; (clear M; try clear w); intro w M
            refine c_if F rfl ?_ ?_
            ·
              clear F; intro hc9 F
              try rw [hc9] at F
              replace hc9 := of_decide_eq_true hc9
              refine wp_seq ?_
              replace F := F.keep [0, 1, 2, 5] rfl
              refine wp_region_l [.wr, .ind] ([0, 1]) rfl ?_
              refine s_cq F M rfl rfl rfl rfl rfl (rfl : _ = some []) cb_14_C10 (fun nd_ => c14 _) ?_; (clear F a M; try clear w); rintro v w rfl M a F
              refine s_I F rfl rfl rfl rfl rfl rfl ?_; clear F a; intro a F
              refine t_endM M ?_; (clear M; try clear w); intro w M
              refine wp_ret ?_
              refine ret1 F rfl rfl ?_
              -- end 3
              exact ⟨_, rfl, rfl, M.chg⟩
            ·
              clear F; intro hc10 F
              try rw [hc10] at F
              replace hc10 := of_decide_eq_false hc10
              refine wp_skip ?_
              replace F := F.keep [0, 1, 2, 5] rfl
              refine wp_region_l [.ind, .ind, .ind] ([0, 1, 2]) rfl ?_
              refine s_I F rfl rfl rfl rfl rfl rfl ?_; clear F a; intro a F
              refine s_add F rfl rfl rfl rfl rfl rfl (by unfold In64; omega) ?_; clear F a; intro a F
              refine s_I F rfl rfl rfl rfl rfl rfl ?_; clear F a; intro a F
              refine t_endM M ?_; (clear M; try clear w); intro w M
              refine again (i + 1) (by show _ < _; (try dsimp only); omega) ⟨(by omega), (by assumption)⟩ (F.keep [5, 0, 1, 2] rfl) ?_
              try dsimp only [List.cons_append, List.nil_append]
              refine M.pick ?_; repeat (first | exact PkG.nil | refine PkG.cons 0 rfl rfl ?_)
          ·
            clear F; intro hc11 F
            try rw [hc11] at F
            replace hc11 := of_decide_eq_false hc11
            refine wp_exit ?_
            refine wp_seq ?_
            replace F := F.keep [0, 1, 2, 5] rfl
            refine wp_region_l [.ind, .rd, .ind, .rd, .ind, .ind] ([0, 1, 2, 3, 4, 5]) rfl ?_
            refine s_fa0 F rfl rfl rfl rfl fa_26_0_C10 rfl ?_; clear F a; intro a F
            refine s_ld F rfl rfl rfl rfl sc_3_C10 rfl (by exact cell_of_blk M.h0 (lit rfl)) ?_; clear F a; intro a F
            refine s_fa0 F rfl rfl rfl rfl fa_26_1_C10 rfl ?_; clear F a; intro a F
            refine s_ld F rfl rfl rfl rfl sc_3_C10 rfl (by exact cell_of_blk M.h0 (lit rfl)) ?_; clear F a; intro a F
            refine s_sub F rfl rfl rfl rfl rfl rfl (by unfold In64; omega) ?_; clear F a; intro a F
            refine s_I F rfl rfl rfl rfl rfl rfl ?_; clear F a; intro a F
            refine t_endM M ?_; (clear M; try clear w); intro w M
            refine wp_seq ?_
            rw [← hh] at F
            replace F := F.keep [0, 1, 2, 5, 6] rfl
            refine wp_region_l [.ind] ([0]) rfl ?_
            refine s_I F rfl rfl rfl rfl rfl rfl ?_; clear F a; intro a F
            refine t_endM M ?_; (clear M; try clear w); intro w M
            refine wp_seq ?_
            refine wp_seq ?_
            refine wp_region_l [.ind] ([0]) rfl ?_
            refine s_I F rfl rfl rfl rfl rfl rfl ?_; clear F a; intro a F
            refine t_endM M ?_; (clear M; try clear w); intro w M
            refine wp_block ?_
            replace M := (M.bigNil (f := castZ)).nilT encP 29 1
            have M1 : Sep _ _ _ (bigR _ _ :: _) := M.f1; replace M := M1; clear M1
            have M1 : Sep _ _ _ (slR _ _ 29 _ _ :: _) := M.f1; replace M := M1; clear M1
            refine loopX (X := Nat × List (Nat × Nat) × Option Addr × Nat) F [0, 1, 2, 5, 6] rfl (fun ((k, ads, A, c) : Nat × List (Nat × Nat) × Option Addr × Nat) => (k ≤ h) ∧ (ads.length = k)) (fun ((k, ads, A, c) : Nat × List (Nat × Nat) × Option Addr × Nat) => [(7, .slice A ads.length c), (8, .int .i64 (k : Int))]) (fun ((k, ads, A, c) : Nat × List (Nat × Nat) × Option Addr × Nat) => [slR (.slice A ads.length c) ads.length 29 1 (ads.flatMap encP), bigR castZ (ads.zip (List.replicate k (new n t frm)))]) (fun ((k, ads, A, c) : Nat × List (Nat × Nat) × Option Addr × Nat) => h - k) ((0), ([]), (none), (0)) M ⟨(by omega), rfl⟩ (F.keep [7, 8, 0, 1, 2, 5, 6] rfl) ?_
            clear F M; clear a; (try clear w)
            rintro ⟨k, ads, A, c⟩ a w ⟨k1, hads⟩ F M; try dsimp only at F M
            try simp only [List.cons_append, List.nil_append] at F M
            try dsimp only at k1 hads
            refine wp_seq ?_
            refine wp_seq ?_
            refine wp_region_l [.ind, .ind, .ind] ([0, 1, 2]) rfl ?_
            refine s_I F rfl rfl rfl rfl rfl rfl ?_; clear F a; intro a F
            refine s_I F rfl rfl rfl rfl rfl rfl ?_; clear F a; intro a F
            refine s_bin F rfl rfl rfl rfl rfl rfl rfl ?_; clear F a; intro a F
            refine t_endM M ?_; (clear M; try clear w); intro w M
            refine c_if F rfl ?_ ?_
            ·
              clear F; intro hc12 F
              try rw [hc12] at F
              replace hc12 := of_decide_eq_true hc12
              refine wp_skip ?_
              refine wp_seq ?_
              refine wp_block ?_
              replace F := F.keep [0, 1, 2, 5, 6, 7, 8] rfl
              refine wp_region_l [.ind, .ind, .rd, .ind, .rd, .ind, .rd, .wr, .wr, .wr, .ind] ([0, 1, 2, 3, 4, 5, 6, 7, 8, 9, 10]) rfl ?_
              refine s_I F rfl rfl rfl rfl rfl rfl ?_; clear F a; intro a F
              refine s_fa0 F rfl rfl rfl rfl fa_26_0_C10 rfl ?_; clear F a; intro a F
              refine s_ld F rfl rfl rfl rfl sc_3_C10 rfl (by exact cell_of_blk M.h2 (lit rfl)) ?_; clear F a; intro a F
              refine s_fa0 F rfl rfl rfl rfl fa_26_1_C10 rfl ?_; clear F a; intro a F
              refine s_ld F rfl rfl rfl rfl sc_3_C10 rfl (by exact cell_of_blk M.h2 (lit rfl)) ?_; clear F a; intro a F
              refine s_fa0 F rfl rfl rfl rfl fa_26_2_C10 rfl ?_; clear F a; intro a F
              refine s_ld F rfl rfl rfl rfl sc_3_C10 rfl (by exact cell_of_blk M.h2 (lit rfl)) ?_; clear F a; intro a F
              refine s_call (m := []) F M rfl rfl rfl rfl rfl (rfl : _ = some [_, _, _]) cb_16_C10 (fun nd_ => c16 n t frm hq h1 h2 _) ?_; (clear F a M; try clear w); rintro v x w rfl M a F; (try simp only [List.cons_append, List.nil_append] at M)
              obtain ⟨b, vb⟩ := x
              refine s_bs F M rfl rfl rfl rfl (parts1 F rfl) (bs_48_1_C10 _) ?_; (clear F a M; try clear w); intro b77 w M a F
              refine s_apE (((b, vb) : Nat × Nat)) F M.f2 rfl rfl rfl rfl tl_48_C10 rfl rfl (by exact rd_blk M.h0 rfl) rfl (by omega) (fun _ _ _ _ => pend_nil) ?_; (clear F a M; try clear w); intro A78 c78 w M a F
              refine s_I F rfl rfl rfl rfl rfl rfl ?_; clear F a; intro a F
              refine t_endM M ?_; (clear M; try clear w); intro w M
              replace F := F.keep [0, 1, 2, 5, 6, 7, 8] rfl
              refine wp_region_l [.ind, .ind, .ind] ([0, 1, 2]) rfl ?_
              refine s_I F rfl rfl rfl rfl rfl rfl ?_; clear F a; intro a F
              refine s_add F rfl rfl rfl rfl rfl rfl (by unfold In64; omega) ?_; clear F a; intro a F
              refine s_I F rfl rfl rfl rfl rfl rfl ?_; clear F a; intro a F
              refine t_endM M ?_; (clear M; try clear w); intro w M
              have M1 : Sep _ _ _ (bigR _ _ :: _) := M.f3; replace M := M1; clear M1
              have M1 : Sep _ _ _ (castR _ _ _ :: _) := M.f3; replace M := M1; clear M1
              replace M := Sep.bigSnoc (f := castZ) (y := ((b, vb), new n t frm)) M
              have hz : (ads.zip (List.replicate k (new n t frm))) ++ [((b, vb), new n t frm)] = (ads ++ [(b, vb)]).zip (List.replicate (k + 1) (new n t frm)) := by rw [zip_snoc (by simp [hads]), List.replicate_succ']
              rw [hz] at M
              refine again ((k + 1), (ads ++ [(b, vb)]), (A78), (c78)) (by show _ < _; (try dsimp only); omega) ⟨(by omega), (by simp [hads])⟩ (F.keep [7, 8, 0, 1, 2, 5, 6] rfl) ?_
              try dsimp only [List.cons_append, List.nil_append]
              refine M.pick ?_; repeat (first | exact PkG.nil | refine PkG.cons 0 rfl rfl ?_ | refine PkG.cons 1 rfl rfl ?_ | refine PkG.cons 3 rfl rfl ?_)
            ·
              clear F; intro hc13 F
              try rw [hc13] at F
              replace hc13 := of_decide_eq_false hc13
              refine wp_exit ?_
              refine wp_seq ?_
              obtain rfl : h = k := by omega
              replace F := F.keep [0, 1, 2, 5, 6, 7, 8] rfl
              refine wp_region_l [.ind] ([0]) rfl ?_
              refine s_I F rfl rfl rfl rfl rfl rfl ?_; clear F a; intro a F
              refine t_endM M ?_; (clear M; try clear w); intro w M
              refine wp_seq ?_
              refine wp_seq ?_
              refine wp_region_l [.ind, .rd, .ind, .ind] ([0, 1, 2, 3]) rfl ?_
              refine s_fa0 F rfl rfl rfl rfl fa_26_2_C10 rfl ?_; clear F a; intro a F
              refine s_ld F rfl rfl rfl rfl sc_3_C10 rfl (by exact cell_of_blk M.h2 (lit rfl)) ?_; clear F a; intro a F
              refine s_I F rfl rfl rfl rfl rfl rfl ?_; clear F a; intro a F
              refine s_bin F rfl rfl rfl rfl rfl rfl rfl ?_; clear F a; intro a F
              refine t_endM M ?_; (clear M; try clear w); intro w M
              refine cutX (X := Value) (m0 := []) F [0, 1, 2, 5, 6, 7, 8] rfl M (fun (v : Value) => True) (fun (v : Value) => [(9, v)]) (fun (v : Value) => [slR v (way0 h frm).length 53 4 ((way0 h frm).flatMap encT)]) ?_ ?_
              ·
                refine c_if F rfl ?_ ?_
                ·
                  clear F; intro hc14 F
                  try rw [hc14] at F
                  replace hc14 := of_decide_eq_true hc14
                  replace F := F.keep [0, 1, 2, 5, 6, 7, 8, 9] rfl
                  refine wp_region_l [.ind, .ind, .ind, .rd, .ind, .wr, .wr, .ind] ([0, 1, 2, 3, 4, 5, 6, 7]) rfl ?_
                  refine s_I F rfl rfl rfl rfl rfl rfl ?_; clear F a; intro a F
                  refine s_I F rfl rfl rfl rfl rfl rfl ?_; clear F a; intro a F
                  refine s_fa0 F rfl rfl rfl rfl fa_26_2_C10 rfl ?_; clear F a; intro a F
                  refine s_ld F rfl rfl rfl rfl sc_3_C10 rfl (by exact cell_of_blk M.h2 (lit rfl)) ?_; clear F a; intro a F
                  refine s_bld F rfl rfl rfl rfl (parts2 F rfl rfl) (bl_38_0_2_C10 _ _) ?_; clear F a; intro a F
                  refine s_bs F M rfl rfl rfl rfl (parts1 F rfl) (bs_27_1_C10 _ _ _) ?_; (clear F a M; try clear w); intro b88 w M a F
                  refine s_call (m := []) F M rfl rfl rfl rfl rfl (rfl : _ = some [_, _, _, _]) cb_22_C10 (fun nd_ => c22 [] h frm [⟨1, 0, xS⟩] _ _ _ RdSl.nil (by exact rd_blk M.h0 rfl) (by decide) hh7 (by decide)) ?_; (clear F a M; try clear w); rintro v x w rfl M a F; (try simp only [List.cons_append, List.nil_append] at M)
                  refine s_I F rfl rfl rfl rfl rfl rfl ?_; clear F a; intro a F
                  refine t_endM M ?_; (clear M; try clear w); intro w M
                  have e0 : onto [] h frm [⟨1, 0, xS⟩] = way0 h frm := by unfold way0; rw [if_pos hc14]
                  rw [e0] at M
                  refine joined (_) trivial (F.keep [9, 0, 1, 2, 5, 6, 7, 8] rfl) ?_
                  try dsimp only [List.cons_append, List.nil_append]
                  refine M.pick ?_; repeat (first | exact PkG.nil | refine PkG.cons 0 rfl rfl ?_ | refine PkG.cons 2 rfl rfl ?_ | refine PkG.cons 3 rfl rfl ?_ | refine PkG.cons 4 rfl rfl ?_)
                ·
                  clear F; intro hc15 F
                  try rw [hc15] at F
                  replace hc15 := of_decide_eq_false hc15
                  refine wp_skip ?_
                  replace M := M.nilT encT 53 4
                  have e0 : ([] : List To) = way0 h frm := by unfold way0; rw [if_neg hc15]
                  rw [e0] at M
                  refine joined (_) trivial (F.keep [9, 0, 1, 2, 5, 6, 7, 8] rfl) ?_
                  try dsimp only [List.cons_append, List.nil_append]
                  refine M.pick ?_; repeat (first | exact PkG.nil | refine PkG.cons 0 rfl rfl ?_ | refine PkG.cons 1 rfl rfl ?_ | refine PkG.cons 2 rfl rfl ?_ | refine PkG.cons 3 rfl rfl ?_)
              ·
                clear F M; clear a; (try clear w)
                rintro v a w _ F M; try dsimp only at F M
                try simp only [List.cons_append, List.nil_append] at F M
                obtain ⟨A, c, rfl⟩ := SlOk.form M.h0
                refine wp_seq ?_
                refine wp_seq ?_
                refine wp_region_l [.ind] ([0]) rfl ?_
                refine s_I F rfl rfl rfl rfl rfl rfl ?_; clear F a; intro a F
                refine t_endM M ?_; (clear M; try clear w); intro w M
                refine wp_block ?_
                have M1 : Sep _ _ _ (slR (.slice _ (List.length _) _) _ 53 _ _ :: _) := M; replace M := M1; clear M1
                have M1 : Sep _ _ _ (bigR _ _ :: _) := M.f2; replace M := M1; clear M1
                refine loopX (X := Int × List CSt × List To × Option Addr × Nat) F [0, 1, 2, 5, 6, 7, 8] rfl (fun ((i, cs, way, A, c) : Int × List CSt × List To × Option Addr × Nat) => (0 ≤ i) ∧ (i ≤ l.length) ∧ (way.length ≤ 14 + 14 * i.toNat) ∧ (∃ R, Inv n t frm xS cs way R)) (fun ((i, cs, way, A, c) : Int × List CSt × List To × Option Addr × Nat) => [(9, .slice A way.length c), (10, .int .i64 i)]) (fun ((i, cs, way, A, c) : Int × List CSt × List To × Option Addr × Nat) => [bigR castZ (ads.zip cs), slR (.slice A (way).length c) (way).length 53 4 ((way).flatMap encT)]) (fun ((i, cs, way, A, c) : Int × List CSt × List To × Option Addr × Nat) => l.length - i.toNat) ((0), (List.replicate h (new n t frm)), (way0 h frm), (_), (_)) M ⟨(by omega), (by omega), (by have := way0_le (h := h) (frm := frm) hh7; omega), ⟨_, Inv.begin hq h1 h2 hh rfl⟩⟩ (F.keep [9, 10, 0, 1, 2, 5, 6, 7, 8] rfl) ?_
                clear F M; clear a; (try clear w)
                rintro ⟨i, cs, way, A, c⟩ a w ⟨i0, i1, hw, hI⟩ F M; try dsimp only at F M
                try simp only [List.cons_append, List.nil_append] at F M
                try dsimp only at i0 i1 hw hI
                obtain ⟨R, hR⟩ := hI
                have hlen : cs.length = h := by have := hR.len; omega
                refine wp_seq ?_
                refine wp_seq ?_
                refine wp_region_l [.ind, .ind, .ind, .ind] ([0, 1, 2, 3]) rfl ?_
                refine s_I F rfl rfl rfl rfl rfl rfl ?_; clear F a; intro a F
                refine s_I F rfl rfl rfl rfl rfl rfl ?_; clear F a; intro a F
                refine s_len F rfl rfl rfl rfl sl_45_C10 rfl ?_; clear F a; intro a F
                refine s_bin F rfl rfl rfl rfl rfl rfl rfl ?_; clear F a; intro a F
                refine t_endM M ?_; (clear M; try clear w); intro w M
                refine c_if F rfl ?_ ?_
                ·
                  clear F; intro hc16 F
                  try rw [hc16] at F
                  replace hc16 := of_decide_eq_true hc16
                  refine wp_skip ?_
                  refine wp_seq ?_
                  refine wp_block ?_
                  refine wp_seq ?_
                  replace F := F.keep [0, 1, 2, 5, 6, 7, 8, 9, 10] rfl
                  refine wp_region_l [.ind, .wr, .ind, .wr] ([0, 1, 2, 3]) rfl ?_
                  refine s_bld F rfl rfl rfl rfl (parts0 F ) (bl_38__C10) ?_; clear F a; intro a F
                  refine s_alc F M rfl rfl rfl rfl zr_38_C10 rfl ?_; (clear F a M; try clear w); intro b12 w M a F
                  refine s_I F rfl rfl rfl rfl rfl rfl ?_; clear F a; intro a F
                  refine s_stW F M rfl rfl rfl sz_38_C10 rfl rfl rfl rfl rfl ?_; (clear M; try clear w); intro w M
                  refine t_endM M ?_; (clear M; try clear w); intro w M
                  refine wp_seq ?_
                  refine wp_seq ?_
                  replace F := F.keep [0, 1, 2, 5, 6, 7, 8, 9, 10, 11, 12] rfl
                  refine wp_region_l [.ind, .ind, .ind, .ind, .rd, .wr, .wr] ([0, 1, 2, 3, 4, 5, 6]) rfl ?_
                  refine s_I F rfl rfl rfl rfl rfl rfl ?_; clear F a; intro a F
                  refine s_I F rfl rfl rfl rfl rfl rfl ?_; clear F a; intro a F
                  refine s_ix F rfl rfl rfl rfl sl_45_C10 rfl rfl (by exact M.chg.ro hro) (by omega) (by omega) ?_; clear F a; intro e99 he99 a F
                  refine s_fa F rfl rfl rfl rfl fa_47_1_C10 rfl ?_; clear F a; intro a F
                  refine s_lda F rfl rfl rfl rfl ag_38_C10 rfl rfl (rdsQ (m := 3) (M.chg.ro hro) (by intro e; rfl) he99) ?_; clear F a; intro a F
                  refine s_alc F M rfl rfl rfl rfl zr_38_C10 rfl ?_; (clear F a M; try clear w); intro b13 w M a F
                  refine s_stW F M rfl rfl rfl sz_38_C10 rfl rfl rfl rfl rfl ?_; (clear M; try clear w); intro w M
                  refine t_endM M ?_; (clear M; try clear w); intro w M
                  refine wp_seq ?_
                  replace F := F.keep [0, 1, 2, 5, 6, 7, 8, 9, 10, 11, 12, 13] rfl
                  refine wp_region_l [.ind, .rd, .ind, .ind] ([0, 1, 2, 3]) rfl ?_
                  refine s_fa0 F rfl rfl rfl rfl fa_38_1_C10 rfl ?_; clear F a; intro a F
                  refine s_ld F rfl rfl rfl rfl sc_3_C10 rfl (by exact cell_of_blk M.h0 (lit rfl)) ?_; clear F a; intro a F
                  refine s_I F rfl rfl rfl rfl rfl rfl ?_; clear F a; intro a F
                  refine s_bin F rfl rfl rfl rfl rfl rfl rfl ?_; clear F a; intro a F
                  refine t_endM M ?_; (clear M; try clear w); intro w M
                  have M1 : Sep _ _ _ (slR (.slice _ (List.length way) _) _ 53 _ _ :: _) := M.f3; replace M := M1; clear M1
                  have M1 : Sep _ _ _ (blk b12 _ :: _) := M.f2; replace M := M1; clear M1
                  refine cutX (X := Nat × Msg × List To × Value) (m0 := [_, _]) F [0, 1, 2, 5, 6, 7, 8, 10, 12, 13] rfl M (fun ((nd, m, way2, v) : Nat × Msg × List To × Value) => (nd < h) ∧ (MsgOk h xS cs R m) ∧ (way2.length ≤ way.length) ∧ (∀ y ∈ way2, y ∈ way)) (fun ((nd, m, way2, v) : Nat × Msg × List To × Value) => [(9, v), (11, .int .i64 (nd : Int))]) (fun ((nd, m, way2, v) : Nat × Msg × List To × Value) => [blk b12 (.cells (encM m).toArray 38 (0, 0)), slR v (way2).length 53 4 ((way2).flatMap encT)]) ?_ ?_
                  ·
                    refine c_if F rfl ?_ ?_
                    ·
                      clear F; intro hc17 F
                      try rw [hc17] at F
                      replace hc17 := of_decide_eq_true hc17
                      replace F := F.keep [0, 1, 2, 5, 6, 7, 8, 9, 10, 11, 12, 13] rfl
                      refine wp_region_t [.ind, .ind, .ind, .ind, .rd, .ind, .ind, .ind, .ind, .ind, .rd, .ind, .wr] [] (otOf [0, 1, 2, 3, 4, 5, 6, 7, 8, 9, 10, 11, 12]) mixed (by kernel_rfl) ?_
                      refine s_I F rfl rfl rfl rfl rfl rfl ?_; clear F a; intro a F
                      refine s_I F rfl rfl rfl rfl rfl rfl ?_; clear F a; intro a F
                      refine s_ix F rfl rfl rfl rfl sl_45_C10 rfl rfl (by exact M.chg.ro hro) (by omega) (by omega) ?_; clear F a; intro e108 he108 a F
                      try (obtain rfl := Option.some.inj (he99.symm.trans he108))
                      refine s_fa F rfl rfl rfl rfl fa_47_0_C10 rfl ?_; clear F a; intro a F
                      refine s_ld F rfl rfl rfl rfl sc_3_C10 rfl (by exact rdX (M.chg.ro hro) (by intro e; rfl) he108 rfl) ?_; clear F a; intro a F
                      refine s_cu F rfl rfl rfl rfl ik_3_C10 ik_51_C10 rfl ?_; clear F a; intro a F
                      refine s_I F rfl rfl rfl rfl rfl rfl ?_; clear F a; intro a F
                      refine s_cu F rfl rfl rfl rfl ik_3_C10 ik_51_C10 rfl ?_; clear F a; intro a F
                      refine s_remU F rfl rfl rfl rfl rfl rfl (by omega) (by omega) ?_; clear F a; intro a F
                      obtain ⟨k, hk, hk2⟩ := rem_nat e99.at_ (h := h) (by omega)
                      replace hk2 := hk2 (by omega)
                      rw [← hk] at F
                      refine s_ci F rfl rfl rfl rfl ik_51_C10 ik_3_C10 rfl (by omega) (by omega) ?_; clear F a; intro a F
                      refine s_lda F rfl rfl rfl rfl ag_38_C10 rfl rfl (cells_whole M.h2) ?_; clear F a; intro a F
                      refine s_I F rfl rfl rfl rfl rfl rfl ?_; clear F a; intro a F
                      refine s_stW F M rfl rfl rfl sz_38_C10 rfl rfl rfl rfl rfl ?_; (clear M; try clear w); intro w M
                      refine t_endM M ?_; (clear M; try clear w); intro w M
                      refine joined ((k), (e99.msg), (way), (_)) ⟨(by assumption), (fun _ hle => by omega), (by omega), (fun _ h => h)⟩ (F.keep [9, 11, 0, 1, 2, 5, 6, 7, 8, 10, 12, 13] rfl) ?_
                      try dsimp only [List.cons_append, List.nil_append]
                      refine M.pick ?_; repeat (first | exact PkG.nil | refine PkG.cons 0 rfl rfl ?_ | refine PkG.cons 1 rfl rfl ?_ | refine PkG.cons 2 rfl rfl ?_ | refine PkG.cons 3 rfl rfl ?_ | refine PkG.cons 4 rfl rfl ?_ | refine PkG.cons 5 rfl rfl ?_)
                    ·
                      clear F; intro hc18 F
                      try rw [hc18] at F
                      replace hc18 := of_decide_eq_false hc18
                      refine wp_seq ?_
                      replace F := F.keep [0, 1, 2, 5, 6, 7, 8, 9, 10, 11, 12, 13] rfl
                      refine wp_region_l [.ind, .ind, .ind] ([0, 1, 2]) rfl ?_
                      refine s_I F rfl rfl rfl rfl rfl rfl ?_; clear F a; intro a F
                      refine s_len F rfl rfl rfl rfl sl_49_C10 rfl ?_; clear F a; intro a F
                      refine s_bin F rfl rfl rfl rfl rfl rfl rfl ?_; clear F a; intro a F
                      refine t_endM M ?_; (clear M; try clear w); intro w M
                      refine c_if F rfl ?_ ?_
                      ·
                        clear F; intro hc19 F
                        try rw [hc19] at F
                        replace hc19 := of_decide_eq_true hc19
                        refine wp_seq ?_
                        replace F := F.keep [0, 1, 2, 5, 6, 7, 8, 9, 10, 11, 12, 13] rfl
                        refine wp_region_l [.ind, .ind, .ind, .ind, .rd, .ind, .ind, .ind, .ind, .ind, .ind, .ind] ([0, 1, 2, 3, 4, 5, 6, 7, 8, 9, 10, 11]) rfl ?_
                        refine s_I F rfl rfl rfl rfl rfl rfl ?_; clear F a; intro a F
                        refine s_I F rfl rfl rfl rfl rfl rfl ?_; clear F a; intro a F
                        refine s_ix F rfl rfl rfl rfl sl_45_C10 rfl rfl (by exact M.chg.ro hro) (by omega) (by omega) ?_; clear F a; intro e122 he122 a F
                        try (obtain rfl := Option.some.inj (he99.symm.trans he122))
                        refine s_fa F rfl rfl rfl rfl fa_47_0_C10 rfl ?_; clear F a; intro a F
                        refine s_ld F rfl rfl rfl rfl sc_3_C10 rfl (by exact rdX (M.chg.ro hro) (by intro e; rfl) he122 rfl) ?_; clear F a; intro a F
                        refine s_cu F rfl rfl rfl rfl ik_3_C10 ik_51_C10 rfl ?_; clear F a; intro a F
                        refine s_I F rfl rfl rfl rfl rfl rfl ?_; clear F a; intro a F
                        refine s_len F rfl rfl rfl rfl sl_49_C10 rfl ?_; clear F a; intro a F
                        refine s_cu F rfl rfl rfl rfl ik_3_C10 ik_51_C10 rfl ?_; clear F a; intro a F
                        refine s_remU F rfl rfl rfl rfl rfl rfl (by omega) (by omega) ?_; clear F a; intro a F
                        obtain ⟨k, hk, hk2⟩ := rem_nat e99.at_ (h := way.length) (by omega)
                        replace hk2 := hk2 (by omega)
                        rw [← hk] at F
                        refine s_ci F rfl rfl rfl rfl ik_51_C10 ik_3_C10 rfl (by omega) (by omega) ?_; clear F a; intro a F
                        refine s_I F rfl rfl rfl rfl rfl rfl ?_; clear F a; intro a F
                        refine t_endM M ?_; (clear M; try clear w); intro w M
                        refine wp_seq ?_
                        replace F := F.keep [0, 1, 2, 5, 6, 7, 8, 9, 10, 11, 12, 13, 14] rfl
                        refine wp_region_t [.ind, .ind, .ind, .ind, .rd, .ind, .ind, .ind, .ind, .rd, .ind, .wr] [] (otOf [0, 1, 2, 3, 4, 5, 6, 7, 8, 9, 10, 11]) mixed (by kernel_rfl) ?_
                        refine s_I F rfl rfl rfl rfl rfl rfl ?_; clear F a; intro a F
                        refine s_I F rfl rfl rfl rfl rfl rfl ?_; clear F a; intro a F
                        refine s_ix F rfl rfl rfl rfl sl_49_C10 rfl rfl (by exact SlOk.rd M.h1) (by omega) (by omega) ?_; clear F a; intro e133 he133 a F
                        try (obtain rfl := Option.some.inj (he99.symm.trans he133))
                        try (obtain rfl := Option.some.inj (he122.symm.trans he133))
                        refine s_fa F rfl rfl rfl rfl fa_53_0_C10 rfl ?_; clear F a; intro a F
                        refine s_ld F rfl rfl rfl rfl sc_3_C10 rfl (by exact rdX (SlOk.rd M.h1) (by intro e; rfl) he133 rfl) ?_; clear F a; intro a F
                        refine s_I F rfl rfl rfl rfl rfl rfl ?_; clear F a; intro a F
                        refine s_I F rfl rfl rfl rfl rfl rfl ?_; clear F a; intro a F
                        refine s_ix F rfl rfl rfl rfl sl_49_C10 rfl rfl (by exact SlOk.rd M.h1) (by omega) (by omega) ?_; clear F a; intro e138 he138 a F
                        try (obtain rfl := Option.some.inj (he99.symm.trans he138))
                        try (obtain rfl := Option.some.inj (he122.symm.trans he138))
                        try (obtain rfl := Option.some.inj (he133.symm.trans he138))
                        refine s_fa F rfl rfl rfl rfl fa_53_1_C10 rfl ?_; clear F a; intro a F
                        refine s_lda F rfl rfl rfl rfl ag_38_C10 rfl rfl (rdsQ (m := 3) (SlOk.rd M.h1) (by intro e; rfl) he138) ?_; clear F a; intro a F
                        refine s_I F rfl rfl rfl rfl rfl rfl ?_; clear F a; intro a F
                        refine s_stW F M rfl rfl rfl sz_38_C10 rfl rfl rfl rfl rfl ?_; (clear M; try clear w); intro w M
                        refine t_endM M ?_; (clear M; try clear w); intro w M
                        replace F := F.keep [0, 1, 2, 5, 6, 7, 8, 9, 10, 11, 12, 13, 14] rfl
                        refine wp_region_t [.ind, .ind, .ind, .wr, .ind, .ind, .ind, .ind, .wr, .ind] [] (otOf [0, 1, 2, 3, 4, 5, 6, 7, 8, 9]) mixed (by kernel_rfl) ?_
                        refine s_I F rfl rfl rfl rfl rfl rfl ?_; clear F a; intro a F
                        refine s_I F rfl rfl rfl rfl rfl rfl ?_; clear F a; intro a F
                        refine s_slc F rfl rfl rfl rfl sl_49_C10 rfl rfl rfl (by exact SlOk.rd M.h1) (by omega) (by omega) (by omega) ?_; clear F a; intro a F
                        replace M := M.nilT encT 53 4
                        refine s_apM (way.take (k : Int).toNat) F M rfl rfl rfl rfl tl_49_C10 rfl rfl (by exact RdSl.pre (SlOk.rd M.h2) (by intro e; rfl) _ (by omega)) (by intro e; rfl) (by simp; omega) (fun _ _ _ _ => pend_nil) ?_; (clear F a M; try clear w); intro A144 c144 w M a F
                        refine s_I F rfl rfl rfl rfl rfl rfl ?_; clear F a; intro a F
                        refine s_I F rfl rfl rfl rfl rfl rfl ?_; clear F a; intro a F
                        refine s_add F rfl rfl rfl rfl rfl rfl (by unfold In64; omega) ?_; clear F a; intro a F
                        refine s_slc F rfl rfl rfl rfl sl_49_C10 rfl rfl rfl (by exact SlOk.rd M.h2) (by omega) (by omega) (by omega) ?_; clear F a; intro a F
                        refine s_apM (way.drop ((k : Int) + 1).toNat) F M rfl rfl rfl rfl tl_49_C10 rfl rfl (by exact RdSl.suf (SlOk.rd M.h2) (by intro e; rfl) _ (by omega)) (by intro e; rfl) (by simp; omega) (fun _ _ _ _ => pend_nil) ?_; (clear F a M; try clear w); intro A149 c149 w M a F
                        refine s_I F rfl rfl rfl rfl rfl rfl ?_; clear F a; intro a F
                        refine t_endM M ?_; (clear M; try clear w); intro w M
                        refine joined ((e133.node), (e133.msg), (way.take (k : Int).toNat ++ way.drop ((k : Int) + 1).toNat), (_)) ⟨(by have := hR.node e133 (List.mem_of_getElem? he133); omega), (by have := hR.wmsg e133 (List.mem_of_getElem? he133); rwa [hlen] at this), (by simp; omega), (fun y hy => mem_cut hy)⟩ (F.keep [9, 11, 0, 1, 2, 5, 6, 7, 8, 10, 12, 13] rfl) ?_
                        try dsimp only [List.cons_append, List.nil_append]
                        refine M.pick ?_; repeat (first | exact PkG.nil | refine PkG.cons 0 rfl rfl ?_ | refine PkG.cons 1 rfl rfl ?_ | refine PkG.cons 3 rfl rfl ?_ | refine PkG.cons 4 rfl rfl ?_ | refine PkG.cons 5 rfl rfl ?_ | refine PkG.cons 6 rfl rfl ?_)
                      ·
                        clear F; intro hc20 F
                        try rw [hc20] at F
                        replace hc20 := of_decide_eq_false hc20
                        refine wp_exit ?_
                        replace F := F.keep [0, 1, 2, 5, 6, 7, 8, 9, 10, 11, 12, 13] rfl
                        refine wp_region_l [.ind, .ind, .ind] ([0, 1, 2]) rfl ?_
                        refine s_I F rfl rfl rfl rfl rfl rfl ?_; clear F a; intro a F
                        refine s_add F rfl rfl rfl rfl rfl rfl (by unfold In64; omega) ?_; clear F a; intro a F
                        refine s_I F rfl rfl rfl rfl rfl rfl ?_; clear F a; intro a F
                        refine t_endM M ?_; (clear M; try clear w); intro w M
                        refine again ((i + 1), (cs), (way), (_), (_)) (by show _ < _; (try dsimp only); omega) ⟨(by omega), (by assumption), (by omega), ⟨R, hR⟩⟩ (F.keep [9, 10, 0, 1, 2, 5, 6, 7, 8] rfl) ?_
                        try dsimp only [List.cons_append, List.nil_append]
                        refine M.pick ?_; repeat (first | exact PkG.nil | refine PkG.cons 1 rfl rfl ?_ | refine PkG.cons 3 rfl rfl ?_ | refine PkG.cons 4 rfl rfl ?_ | refine PkG.cons 5 rfl rfl ?_)
                  ·
                    clear F M; clear a; (try clear w)
                    rintro ⟨nd, m, way2, v⟩ a w ⟨hnd, hm, hw2, hsub⟩ F M; try dsimp only at F M
                    try simp only [List.cons_append, List.nil_append] at F M
                    try dsimp only at hnd hm hw2 hsub
                    obtain ⟨A, c, rfl⟩ := SlOk.form M.h1
                    refine wp_region_t [.ind, .ind, .ind, .ind, .ind, .ind, .ind, .rd, .rd, .wr, .wr, .ind] [] (otOf [0, 1, 2, 3, 4, 5, 6, 7, 8, 9, 10, 11]) mixed (by kernel_rfl) ?_
                    refine s_I F rfl rfl rfl rfl rfl rfl ?_; clear F a; intro a F
                    refine s_I F rfl rfl rfl rfl rfl rfl ?_; clear F a; intro a F
                    refine s_I F rfl rfl rfl rfl rfl rfl ?_; clear F a; intro a F
                    refine s_add F rfl rfl rfl rfl rfl rfl (by unfold In64; omega) ?_; clear F a; intro a F
                    refine s_I F rfl rfl rfl rfl rfl rfl ?_; clear F a; intro a F
                    refine s_I F rfl rfl rfl rfl rfl rfl ?_; clear F a; intro a F
                    refine s_ix F rfl rfl rfl rfl sl_48_C10 rfl rfl (by exact SlOk.rd M.h4) (by omega) (by omega) ?_; clear F a; intro e156 he156 a F
                    try (obtain rfl := Option.some.inj (he99.symm.trans he156))
                    refine s_ld F rfl rfl rfl rfl sc_29_C10 rfl (by exact rdX0 (SlOk.rd M.h4) (by intro e; rfl) he156 rfl) ?_; clear F a; intro a F
                    refine s_lda F rfl rfl rfl rfl ag_38_C10 rfl rfl (cells_whole M.h0) ?_; clear F a; intro a F
                    obtain ⟨cc0, hcc⟩ : ∃ c0, cs[nd]? = some c0 := ⟨cs[nd]'(by omega), List.getElem?_eq_getElem _⟩
                    have he : ads[nd]? = some e156 := he156
                    have M1 : Sep _ _ _ (bigR _ _ :: _) := M.f3; replace M := M1; clear M1
                    replace M := M.bigOut (zip_at he hcc)
                    have M1 : Sep _ _ _ (castR e156.1 e156.2 _ :: _) := M; replace M := M1; clear M1
                    refine s_call (m := [_]) F M rfl rfl rfl rfl rfl (rfl : _ = some [_, _]) cb_21_C10 (fun nd_ => c21 e156.1 e156.2 cc0 m _ (M.drewN nd_).own.one) ?_; (clear F a M; try clear w); rintro v x w rfl M a F; (try simp only [List.cons_append, List.nil_append] at M)
                    obtain ⟨oA, oc, rfl⟩ := SlOk.form M.h1
                    have M1 : Sep _ _ _ (bigR _ _ :: _) := M.f2; replace M := M1; clear M1
                    have M1 : Sep _ _ _ (castR _ _ _ :: _) := M.f1; replace M := M1; clear M1
                    replace M := Sep.bigIn (f := castZ) (y := (e156, (cc0.take m).1)) M (by simp [hads, hlen]; omega)
                    rw [zip_set he] at M
                    refine s_call (m := []) F M rfl rfl rfl rfl rfl (rfl : _ = some [_, _, _, _]) cb_22_C10 (fun nd_ => c22 way2 h ((nd : Int) + 1) (cc0.take m).2 _ _ _ (by exact SlOk.rd M.h3) (by exact SlOk.rd M.h1) (out_len _ _) hh7 (by omega)) ?_; (clear F a M; try clear w); rintro v x w rfl M a F; (try simp only [List.cons_append, List.nil_append] at M)
                    obtain ⟨Aw, cw, rfl⟩ := SlOk.form M.h0
                    refine s_I F rfl rfl rfl rfl rfl rfl ?_; clear F a; intro a F
                    refine t_endM M ?_; (clear M; try clear w); intro w M
                    replace F := F.keep [0, 1, 2, 5, 6, 7, 8, 9, 10, 11, 12, 13] rfl
                    refine wp_region_l [.ind, .ind, .ind] ([0, 1, 2]) rfl ?_
                    refine s_I F rfl rfl rfl rfl rfl rfl ?_; clear F a; intro a F
                    refine s_add F rfl rfl rfl rfl rfl rfl (by unfold In64; omega) ?_; clear F a; intro a F
                    refine s_I F rfl rfl rfl rfl rfl rfl ?_; clear F a; intro a F
                    refine t_endM M ?_; (clear M; try clear w); intro w M
                    refine again ((i + 1), (cs.set nd (cc0.take m).1), (onto way2 h ((nd : Int) + 1) (cc0.take m).2), (_), (_)) (by show _ < _; (try dsimp only); omega) ⟨(by omega), (by assumption), (by have := onto_le (way := way2) (h := h) (frm := (nd : Int) + 1) (out_len cc0 m) hh7; omega), (by have hT := hR.take (m := m) hcc (by rw [hlen]; exact hm) hsub; rw [hlen] at hT; exact hT)⟩ (F.keep [9, 10, 0, 1, 2, 5, 6, 7, 8] rfl) ?_
                    try dsimp only [List.cons_append, List.nil_append]
                    refine M.pick ?_; repeat (first | exact PkG.nil | refine PkG.cons 0 rfl rfl ?_ | refine PkG.cons 1 rfl rfl ?_ | refine PkG.cons 6 rfl rfl ?_ | refine PkG.cons 7 rfl rfl ?_)
                ·
                  clear F; intro hc21 F
                  try rw [hc21] at F
                  replace hc21 := of_decide_eq_false hc21
                  refine wp_exit ?_
                  refine wp_seq ?_
                  replace F := F.keep [0, 1, 2, 5, 6, 7, 8, 9, 10] rfl
                  refine wp_region_l [.ind, .ind] ([0, 1]) rfl ?_
                  refine s_I F rfl rfl rfl rfl rfl rfl ?_; clear F a; intro a F
                  refine s_I F rfl rfl rfl rfl rfl rfl ?_; clear F a; intro a F
                  refine t_endM M ?_; (clear M; try clear w); intro w M
                  refine wp_seq ?_
                  refine wp_seq ?_
                  refine wp_region_l [.ind] ([0]) rfl ?_
                  refine s_I F rfl rfl rfl rfl rfl rfl ?_; clear F a; intro a F
                  refine t_endM M ?_; (clear M; try clear w); intro w M
                  refine wp_block ?_
                  refine loopX (X := Int × ByteArray × Bool) F [0, 1, 2, 5, 6, 7, 8, 9, 10] rfl (fun ((i, first, any) : Int × ByteArray × Bool) => (0 ≤ i) ∧ (i ≤ h) ∧ (any = true → ∃ c ∈ cs, c.done = true ∧ c.body = first)) (fun ((i, first, any) : Int × ByteArray × Bool) => [(15, .string first), (16, .bool any), (17, .int .i64 i)]) (fun ((i, first, any) : Int × ByteArray × Bool) => []) (fun ((i, first, any) : Int × ByteArray × Bool) => h - i.toNat) ((0), (_), (false)) M ⟨(by omega), (by omega), (by intro h; cases h)⟩ (F.keep [15, 16, 17, 0, 1, 2, 5, 6, 7, 8, 9, 10] rfl) ?_
                  clear F M; clear a; (try clear w)
                  rintro ⟨i, first, any⟩ a w ⟨i0, i1, ha⟩ F M; try dsimp only at F M
                  try simp only [List.cons_append, List.nil_append] at F M
                  try dsimp only at i0 i1 ha
                  refine wp_seq ?_
                  refine wp_seq ?_
                  refine wp_region_l [.ind, .ind, .ind] ([0, 1, 2]) rfl ?_
                  refine s_I F rfl rfl rfl rfl rfl rfl ?_; clear F a; intro a F
                  refine s_I F rfl rfl rfl rfl rfl rfl ?_; clear F a; intro a F
                  refine s_bin F rfl rfl rfl rfl rfl rfl rfl ?_; clear F a; intro a F
                  refine t_endM M ?_; (clear M; try clear w); intro w M
                  refine c_if F rfl ?_ ?_
                  ·
                    clear F; intro hc22 F
                    try rw [hc22] at F
                    replace hc22 := of_decide_eq_true hc22
                    refine wp_skip ?_
                    refine wp_seq ?_
                    refine wp_block ?_
                    refine wp_seq ?_
                    replace F := F.keep [0, 1, 2, 5, 6, 7, 8, 9, 10, 15, 16, 17] rfl
                    refine wp_region_l [.ind, .ind, .ind, .rd, .wr, .ind, .ind, .ind, .ind, .ind] ([0, 1, 2, 3, 4, 5, 6, 7, 8, 9]) rfl ?_
                    refine s_I F rfl rfl rfl rfl rfl rfl ?_; clear F a; intro a F
                    refine s_I F rfl rfl rfl rfl rfl rfl ?_; clear F a; intro a F
                    refine s_ix F rfl rfl rfl rfl sl_48_C10 rfl rfl (by exact SlOk.rd M.h2) (by omega) (by omega) ?_; clear F a; intro e169 he169 a F
                    refine s_ld F rfl rfl rfl rfl sc_29_C10 rfl (by exact rdX0 (SlOk.rd M.h2) (by intro e; rfl) he169 rfl) ?_; clear F a; intro a F
                    obtain ⟨cc0, hcc⟩ : ∃ c0, cs[i.toNat]? = some c0 := ⟨cs[i.toNat]'(by omega), List.getElem?_eq_getElem _⟩
                    refine s_cq F M rfl rfl rfl rfl rfl (rfl : _ = some [_]) cb_20_C10 (fun nd_ => c20 e169.1 e169.2 cc0 _ (by exact M.h0 (e169, cc0) (List.mem_of_getElem? (zip_at he169 hcc)))) ?_; (clear F a M; try clear w); rintro v w rfl M a F
                    refine s_I F rfl rfl rfl rfl rfl rfl ?_; clear F a; intro a F
                    refine s_I F rfl rfl rfl rfl rfl rfl ?_; clear F a; intro a F
                    refine s_I F rfl rfl rfl rfl rfl rfl ?_; clear F a; intro a F
                    refine s_I F rfl rfl rfl rfl rfl rfl ?_; clear F a; intro a F
                    refine s_I F rfl rfl rfl rfl rfl rfl ?_; clear F a; intro a F
                    refine t_endM M ?_; (clear M; try clear w); intro w M
                    refine wp_seq ?_
                    refine wp_seq ?_
                    replace F := F.keep [0, 1, 2, 5, 6, 7, 8, 9, 10, 15, 16, 17, 18, 19] rfl
                    refine wp_region_l [.ind, .ind, .ind, .ind, .ind, .ind, .ind, .ind, .ind] ([0, 1, 2, 3, 4, 5, 6, 7, 8]) rfl ?_
                    refine s_I F rfl rfl rfl rfl rfl rfl ?_; clear F a; intro a F
                    refine s_I F rfl rfl rfl rfl rfl rfl ?_; clear F a; intro a F
                    refine bsplit F 175 rfl ?_ ?_
                    ·
                      clear F; intro hc23 F
                      try rw [hc23] at F
                      skip
                      refine s_I F rfl rfl rfl rfl rfl rfl ?_; clear F a; intro a F
                      refine s_I F rfl rfl rfl rfl rfl rfl ?_; clear F a; intro a F
                      refine s_I F rfl rfl rfl rfl rfl rfl ?_; clear F a; intro a F
                      refine bsplit F 178 rfl ?_ ?_
                      ·
                        clear F; intro hc24 F
                        try rw [hc24] at F
                        skip
                        refine s_I F rfl rfl rfl rfl rfl rfl ?_; clear F a; intro a F
                        refine s_I F rfl rfl rfl rfl rfl rfl ?_; clear F a; intro a F
                        refine s_bin F rfl rfl rfl rfl rfl rfl rfl ?_; clear F a; intro a F
                        refine s_I F rfl rfl rfl rfl rfl rfl ?_; clear F a; intro a F
                        refine t_endM M ?_; (clear M; try clear w); intro w M
                        refine c_if F rfl ?_ ?_
                        ·
                          clear F; intro hc25 F
                          try rw [hc25] at F
                          replace hc25 := nd1 hc25
                          refine wp_seq ?_
                          replace F := F.keep [0, 1, 2, 5, 6, 7, 8, 9, 10, 15, 16, 17, 18, 19] rfl
                          refine wp_region_l [.ind] ([0]) rfl ?_
                          refine s_I F rfl rfl rfl rfl rfl rfl ?_; clear F a; intro a F
                          refine t_endM M ?_; (clear M; try clear w); intro w M
                          refine wp_ret ?_
                          refine ret1 F rfl rfl ?_
                          -- end 4
                          exfalso
                          obtain ⟨c1, k1, k2, k3⟩ := ha (by assumption)
                          have := hR.agree (List.mem_of_getElem? hcc) k1 (by assumption) k2
                          simp_all
                        ·
                          clear F; intro hc26 F
                          try rw [hc26] at F
                          replace hc26 := nd0 hc26
                          refine wp_skip ?_
                          refine wp_seq ?_
                          refine wp_seq ?_
                          replace F := F.keep [0, 1, 2, 5, 6, 7, 8, 9, 10, 15, 16, 17, 18, 19] rfl
                          refine wp_region_l [.ind, .ind, .ind, .rd, .ind, .ind, .ind, .ind, .ind, .ind, .ind] ([0, 1, 2, 3, 4, 5, 6, 7, 8, 9, 10]) rfl ?_
                          refine s_I F rfl rfl rfl rfl rfl rfl ?_; clear F a; intro a F
                          refine s_I F rfl rfl rfl rfl rfl rfl ?_; clear F a; intro a F
                          refine s_fa0 F rfl rfl rfl rfl fa_26_2_C10 rfl ?_; clear F a; intro a F
                          refine s_ld F rfl rfl rfl rfl sc_3_C10 rfl (by exact cell_of_blk M.h3 (lit rfl)) ?_; clear F a; intro a F
                          refine s_I F rfl rfl rfl rfl rfl rfl ?_; clear F a; intro a F
                          refine s_bin F rfl rfl rfl rfl rfl rfl rfl ?_; clear F a; intro a F
                          refine s_I F rfl rfl rfl rfl rfl rfl ?_; clear F a; intro a F
                          refine s_I F rfl rfl rfl rfl rfl rfl ?_; clear F a; intro a F
                          refine bsplit F 190 rfl ?_ ?_
                          ·
                            clear F; intro hc27 F
                            try rw [hc27] at F
                            replace hc27 := of_decide_eq_true hc27
                            refine s_I F rfl rfl rfl rfl rfl rfl ?_; clear F a; intro a F
                            refine s_bin F rfl rfl rfl rfl rfl rfl rfl ?_; clear F a; intro a F
                            refine s_I F rfl rfl rfl rfl rfl rfl ?_; clear F a; intro a F
                            refine t_endM M ?_; (clear M; try clear w); intro w M
                            refine c_if F rfl ?_ ?_
                            ·
                              clear F; intro hc28 F
                              try rw [hc28] at F
                              replace hc28 := nd1 hc28
                              refine wp_seq ?_
                              replace F := F.keep [0, 1, 2, 5, 6, 7, 8, 9, 10, 15, 16, 17, 18, 19] rfl
                              refine wp_region_l [.ind] ([0]) rfl ?_
                              refine s_I F rfl rfl rfl rfl rfl rfl ?_; clear F a; intro a F
                              refine t_endM M ?_; (clear M; try clear w); intro w M
                              refine wp_ret ?_
                              refine ret1 F rfl rfl ?_
                              -- end 5
                              exfalso
                              have := hR.valid (List.mem_of_getElem? hcc) (by assumption) (by omega)
                              unfold xS at this
                              simp_all
                            ·
                              clear F; intro hc29 F
                              try rw [hc29] at F
                              replace hc29 := nd0 hc29
                              refine wp_skip ?_
                              refine wp_seq ?_
                              replace F := F.keep [0, 1, 2, 5, 6, 7, 8, 9, 10, 15, 16, 17, 18, 19] rfl
                              refine wp_region_l [.ind] ([0]) rfl ?_
                              refine s_I F rfl rfl rfl rfl rfl rfl ?_; clear F a; intro a F
                              refine t_endM M ?_; (clear M; try clear w); intro w M
                              refine c_t F rfl ?_
                              replace F := F.keep [0, 1, 2, 5, 6, 7, 8, 9, 10, 15, 16, 17, 18, 19] rfl
                              refine wp_region_l [.ind, .ind, .ind] ([0, 1, 2]) rfl ?_
                              refine s_I F rfl rfl rfl rfl rfl rfl ?_; clear F a; intro a F
                              refine s_I F rfl rfl rfl rfl rfl rfl ?_; clear F a; intro a F
                              refine s_I F rfl rfl rfl rfl rfl rfl ?_; clear F a; intro a F
                              refine t_endM M ?_; (clear M; try clear w); intro w M
                              replace F := F.keep [0, 1, 2, 5, 6, 7, 8, 9, 10, 15, 16, 17, 18, 19] rfl
                              refine wp_region_l [.ind, .ind, .ind] ([0, 1, 2]) rfl ?_
                              refine s_I F rfl rfl rfl rfl rfl rfl ?_; clear F a; intro a F
                              refine s_add F rfl rfl rfl rfl rfl rfl (by unfold In64; omega) ?_; clear F a; intro a F
                              refine s_I F rfl rfl rfl rfl rfl rfl ?_; clear F a; intro a F
                              refine t_endM M ?_; (clear M; try clear w); intro w M
                              refine again ((i + 1), (_), (_)) (by show _ < _; (try dsimp only); omega) ⟨(by omega), (by assumption), (by exact fun _ => ⟨cc0, List.mem_of_getElem? hcc, by assumption, rfl⟩)⟩ (F.keep [15, 16, 17, 0, 1, 2, 5, 6, 7, 8, 9, 10] rfl) ?_
                              try dsimp only [List.cons_append, List.nil_append]
                              refine M.pick ?_; repeat (first | exact PkG.nil | refine PkG.cons 0 rfl rfl ?_ | refine PkG.cons 1 rfl rfl ?_ | refine PkG.cons 2 rfl rfl ?_ | refine PkG.cons 3 rfl rfl ?_)
                          ·
                            clear F; intro hc30 F
                            try rw [hc30] at F
                            replace hc30 := of_decide_eq_false hc30
                            refine s_no F rfl rfl rfl rfl ?_; clear F a; intro a F
                            refine s_no F rfl rfl rfl rfl ?_; clear F a; intro a F
                            refine s_I F rfl rfl rfl rfl rfl rfl ?_; clear F a; intro a F
                            refine t_endM M ?_; (clear M; try clear w); intro w M
                            refine c_f F rfl ?_
                            refine wp_skip ?_
                            refine wp_seq ?_
                            replace F := F.keep [0, 1, 2, 5, 6, 7, 8, 9, 10, 15, 16, 17, 18, 19] rfl
                            refine wp_region_l [.ind] ([0]) rfl ?_
                            refine s_I F rfl rfl rfl rfl rfl rfl ?_; clear F a; intro a F
                            refine t_endM M ?_; (clear M; try clear w); intro w M
                            refine c_t F rfl ?_
                            replace F := F.keep [0, 1, 2, 5, 6, 7, 8, 9, 10, 15, 16, 17, 18, 19] rfl
                            refine wp_region_l [.ind, .ind, .ind] ([0, 1, 2]) rfl ?_
                            refine s_I F rfl rfl rfl rfl rfl rfl ?_; clear F a; intro a F
                            refine s_I F rfl rfl rfl rfl rfl rfl ?_; clear F a; intro a F
                            refine s_I F rfl rfl rfl rfl rfl rfl ?_; clear F a; intro a F
                            refine t_endM M ?_; (clear M; try clear w); intro w M
                            replace F := F.keep [0, 1, 2, 5, 6, 7, 8, 9, 10, 15, 16, 17, 18, 19] rfl
                            refine wp_region_l [.ind, .ind, .ind] ([0, 1, 2]) rfl ?_
                            refine s_I F rfl rfl rfl rfl rfl rfl ?_; clear F a; intro a F
                            refine s_add F rfl rfl rfl rfl rfl rfl (by unfold In64; omega) ?_; clear F a; intro a F
                            refine s_I F rfl rfl rfl rfl rfl rfl ?_; clear F a; intro a F
                            refine t_endM M ?_; (clear M; try clear w); intro w M
                            refine again ((i + 1), (_), (_)) (by show _ < _; (try dsimp only); omega) ⟨(by omega), (by assumption), (by exact fun _ => ⟨cc0, List.mem_of_getElem? hcc, by assumption, rfl⟩)⟩ (F.keep [15, 16, 17, 0, 1, 2, 5, 6, 7, 8, 9, 10] rfl) ?_
                            try dsimp only [List.cons_append, List.nil_append]
                            refine M.pick ?_; repeat (first | exact PkG.nil | refine PkG.cons 0 rfl rfl ?_ | refine PkG.cons 1 rfl rfl ?_ | refine PkG.cons 2 rfl rfl ?_ | refine PkG.cons 3 rfl rfl ?_)
                      ·
                        clear F; intro hc31 F
                        try rw [hc31] at F
                        skip
                        refine s_no F rfl rfl rfl rfl ?_; clear F a; intro a F
                        refine s_no F rfl rfl rfl rfl ?_; clear F a; intro a F
                        refine s_no F rfl rfl rfl rfl ?_; clear F a; intro a F
                        refine s_I F rfl rfl rfl rfl rfl rfl ?_; clear F a; intro a F
                        refine t_endM M ?_; (clear M; try clear w); intro w M
                        refine c_f F rfl ?_
                        refine wp_skip ?_
                        refine wp_seq ?_
                        refine wp_seq ?_
                        replace F := F.keep [0, 1, 2, 5, 6, 7, 8, 9, 10, 15, 16, 17, 18, 19] rfl
                        refine wp_region_l [.ind, .ind, .ind, .rd, .ind, .ind, .ind, .ind, .ind, .ind, .ind] ([0, 1, 2, 3, 4, 5, 6, 7, 8, 9, 10]) rfl ?_
                        refine s_I F rfl rfl rfl rfl rfl rfl ?_; clear F a; intro a F
                        refine s_I F rfl rfl rfl rfl rfl rfl ?_; clear F a; intro a F
                        refine s_fa0 F rfl rfl rfl rfl fa_26_2_C10 rfl ?_; clear F a; intro a F
                        refine s_ld F rfl rfl rfl rfl sc_3_C10 rfl (by exact cell_of_blk M.h3 (lit rfl)) ?_; clear F a; intro a F
                        refine s_I F rfl rfl rfl rfl rfl rfl ?_; clear F a; intro a F
                        refine s_bin F rfl rfl rfl rfl rfl rfl rfl ?_; clear F a; intro a F
                        refine s_I F rfl rfl rfl rfl rfl rfl ?_; clear F a; intro a F
                        refine s_I F rfl rfl rfl rfl rfl rfl ?_; clear F a; intro a F
                        refine bsplit F 190 rfl ?_ ?_
                        ·
                          clear F; intro hc32 F
                          try rw [hc32] at F
                          replace hc32 := of_decide_eq_true hc32
                          refine s_I F rfl rfl rfl rfl rfl rfl ?_; clear F a; intro a F
                          refine s_bin F rfl rfl rfl rfl rfl rfl rfl ?_; clear F a; intro a F
                          refine s_I F rfl rfl rfl rfl rfl rfl ?_; clear F a; intro a F
                          refine t_endM M ?_; (clear M; try clear w); intro w M
                          refine c_if F rfl ?_ ?_
                          ·
                            clear F; intro hc33 F
                            try rw [hc33] at F
                            replace hc33 := nd1 hc33
                            refine wp_seq ?_
                            replace F := F.keep [0, 1, 2, 5, 6, 7, 8, 9, 10, 15, 16, 17, 18, 19] rfl
                            refine wp_region_l [.ind] ([0]) rfl ?_
                            refine s_I F rfl rfl rfl rfl rfl rfl ?_; clear F a; intro a F
                            refine t_endM M ?_; (clear M; try clear w); intro w M
                            refine wp_ret ?_
                            refine ret1 F rfl rfl ?_
                            -- end 6
                            exfalso
                            have := hR.valid (List.mem_of_getElem? hcc) (by assumption) (by omega)
                            unfold xS at this
                            simp_all
                          ·
                            clear F; intro hc34 F
                            try rw [hc34] at F
                            replace hc34 := nd0 hc34
                            refine wp_skip ?_
                            refine wp_seq ?_
                            replace F := F.keep [0, 1, 2, 5, 6, 7, 8, 9, 10, 15, 16, 17, 18, 19] rfl
                            refine wp_region_l [.ind] ([0]) rfl ?_
                            refine s_I F rfl rfl rfl rfl rfl rfl ?_; clear F a; intro a F
                            refine t_endM M ?_; (clear M; try clear w); intro w M
                            refine c_t F rfl ?_
                            replace F := F.keep [0, 1, 2, 5, 6, 7, 8, 9, 10, 15, 16, 17, 18, 19] rfl
                            refine wp_region_l [.ind, .ind, .ind] ([0, 1, 2]) rfl ?_
                            refine s_I F rfl rfl rfl rfl rfl rfl ?_; clear F a; intro a F
                            refine s_I F rfl rfl rfl rfl rfl rfl ?_; clear F a; intro a F
                            refine s_I F rfl rfl rfl rfl rfl rfl ?_; clear F a; intro a F
                            refine t_endM M ?_; (clear M; try clear w); intro w M
                            replace F := F.keep [0, 1, 2, 5, 6, 7, 8, 9, 10, 15, 16, 17, 18, 19] rfl
                            refine wp_region_l [.ind, .ind, .ind] ([0, 1, 2]) rfl ?_
                            refine s_I F rfl rfl rfl rfl rfl rfl ?_; clear F a; intro a F
                            refine s_add F rfl rfl rfl rfl rfl rfl (by unfold In64; omega) ?_; clear F a; intro a F
                            refine s_I F rfl rfl rfl rfl rfl rfl ?_; clear F a; intro a F
                            refine t_endM M ?_; (clear M; try clear w); intro w M
                            refine again ((i + 1), (_), (_)) (by show _ < _; (try dsimp only); omega) ⟨(by omega), (by assumption), (by exact fun _ => ⟨cc0, List.mem_of_getElem? hcc, by assumption, rfl⟩)⟩ (F.keep [15, 16, 17, 0, 1, 2, 5, 6, 7, 8, 9, 10] rfl) ?_
                            try dsimp only [List.cons_append, List.nil_append]
                            refine M.pick ?_; repeat (first | exact PkG.nil | refine PkG.cons 0 rfl rfl ?_ | refine PkG.cons 1 rfl rfl ?_ | refine PkG.cons 2 rfl rfl ?_ | refine PkG.cons 3 rfl rfl ?_)
                        ·
                          clear F; intro hc35 F
                          try rw [hc35] at F
                          replace hc35 := of_decide_eq_false hc35
                          refine s_no F rfl rfl rfl rfl ?_; clear F a; intro a F
                          refine s_no F rfl rfl rfl rfl ?_; clear F a; intro a F
                          refine s_I F rfl rfl rfl rfl rfl rfl ?_; clear F a; intro a F
                          refine t_endM M ?_; (clear M; try clear w); intro w M
                          refine c_f F rfl ?_
                          refine wp_skip ?_
                          refine wp_seq ?_
                          replace F := F.keep [0, 1, 2, 5, 6, 7, 8, 9, 10, 15, 16, 17, 18, 19] rfl
                          refine wp_region_l [.ind] ([0]) rfl ?_
                          refine s_I F rfl rfl rfl rfl rfl rfl ?_; clear F a; intro a F
                          refine t_endM M ?_; (clear M; try clear w); intro w M
                          refine c_t F rfl ?_
                          replace F := F.keep [0, 1, 2, 5, 6, 7, 8, 9, 10, 15, 16, 17, 18, 19] rfl
                          refine wp_region_l [.ind, .ind, .ind] ([0, 1, 2]) rfl ?_
                          refine s_I F rfl rfl rfl rfl rfl rfl ?_; clear F a; intro a F
                          refine s_I F rfl rfl rfl rfl rfl rfl ?_; clear F a; intro a F
                          refine s_I F rfl rfl rfl rfl rfl rfl ?_; clear F a; intro a F
                          refine t_endM M ?_; (clear M; try clear w); intro w M
                          replace F := F.keep [0, 1, 2, 5, 6, 7, 8, 9, 10, 15, 16, 17, 18, 19] rfl
                          refine wp_region_l [.ind, .ind, .ind] ([0, 1, 2]) rfl ?_
                          refine s_I F rfl rfl rfl rfl rfl rfl ?_; clear F a; intro a F
                          refine s_add F rfl rfl rfl rfl rfl rfl (by unfold In64; omega) ?_; clear F a; intro a F
                          refine s_I F rfl rfl rfl rfl rfl rfl ?_; clear F a; intro a F
                          refine t_endM M ?_; (clear M; try clear w); intro w M
                          refine again ((i + 1), (_), (_)) (by show _ < _; (try dsimp only); omega) ⟨(by omega), (by assumption), (by exact fun _ => ⟨cc0, List.mem_of_getElem? hcc, by assumption, rfl⟩)⟩ (F.keep [15, 16, 17, 0, 1, 2, 5, 6, 7, 8, 9, 10] rfl) ?_
                          try dsimp only [List.cons_append, List.nil_append]
                          refine M.pick ?_; repeat (first | exact PkG.nil | refine PkG.cons 0 rfl rfl ?_ | refine PkG.cons 1 rfl rfl ?_ | refine PkG.cons 2 rfl rfl ?_ | refine PkG.cons 3 rfl rfl ?_)
                    ·
                      clear F; intro hc36 F
                      try rw [hc36] at F
                      skip
                      refine s_no F rfl rfl rfl rfl ?_; clear F a; intro a F
                      refine s_I F rfl rfl rfl rfl rfl rfl ?_; clear F a; intro a F
                      refine s_I F rfl rfl rfl rfl rfl rfl ?_; clear F a; intro a F
                      refine s_no F rfl rfl rfl rfl ?_; clear F a; intro a F
                      refine s_no F rfl rfl rfl rfl ?_; clear F a; intro a F
                      refine s_no F rfl rfl rfl rfl ?_; clear F a; intro a F
                      refine s_I F rfl rfl rfl rfl rfl rfl ?_; clear F a; intro a F
                      refine t_endM M ?_; (clear M; try clear w); intro w M
                      refine c_f F rfl ?_
                      refine wp_skip ?_
                      refine wp_seq ?_
                      refine wp_seq ?_
                      replace F := F.keep [0, 1, 2, 5, 6, 7, 8, 9, 10, 15, 16, 17, 18, 19] rfl
                      refine wp_region_l [.ind, .ind, .ind, .rd, .ind, .ind, .ind, .ind, .ind, .ind, .ind] ([0, 1, 2, 3, 4, 5, 6, 7, 8, 9, 10]) rfl ?_
                      refine s_I F rfl rfl rfl rfl rfl rfl ?_; clear F a; intro a F
                      refine s_I F rfl rfl rfl rfl rfl rfl ?_; clear F a; intro a F
                      refine s_no F rfl rfl rfl rfl ?_; clear F a; intro a F
                      refine s_no F rfl rfl rfl rfl ?_; clear F a; intro a F
                      refine s_no F rfl rfl rfl rfl ?_; clear F a; intro a F
                      refine s_no F rfl rfl rfl rfl ?_; clear F a; intro a F
                      refine s_I F rfl rfl rfl rfl rfl rfl ?_; clear F a; intro a F
                      refine s_I F rfl rfl rfl rfl rfl rfl ?_; clear F a; intro a F
                      refine s_no F rfl rfl rfl rfl ?_; clear F a; intro a F
                      refine s_no F rfl rfl rfl rfl ?_; clear F a; intro a F
                      refine s_I F rfl rfl rfl rfl rfl rfl ?_; clear F a; intro a F
                      refine t_endM M ?_; (clear M; try clear w); intro w M
                      refine c_f F rfl ?_
                      refine wp_skip ?_
                      refine wp_seq ?_
                      replace F := F.keep [0, 1, 2, 5, 6, 7, 8, 9, 10, 15, 16, 17, 18, 19] rfl
                      refine wp_region_l [.ind] ([0]) rfl ?_
                      refine s_I F rfl rfl rfl rfl rfl rfl ?_; clear F a; intro a F
                      refine t_endM M ?_; (clear M; try clear w); intro w M
                      refine c_f F rfl ?_
                      refine wp_skip ?_
                      replace F := F.keep [0, 1, 2, 5, 6, 7, 8, 9, 10, 15, 16, 17, 18, 19] rfl
                      refine wp_region_l [.ind, .ind, .ind] ([0, 1, 2]) rfl ?_
                      refine s_I F rfl rfl rfl rfl rfl rfl ?_; clear F a; intro a F
                      refine s_add F rfl rfl rfl rfl rfl rfl (by unfold In64; omega) ?_; clear F a; intro a F
                      refine s_I F rfl rfl rfl rfl rfl rfl ?_; clear F a; intro a F
                      refine t_endM M ?_; (clear M; try clear w); intro w M
                      refine again ((i + 1), (_), (_)) (by show _ < _; (try dsimp only); omega) ⟨(by omega), (by assumption), (by exact ha)⟩ (F.keep [15, 16, 17, 0, 1, 2, 5, 6, 7, 8, 9, 10] rfl) ?_
                      try dsimp only [List.cons_append, List.nil_append]
                      refine M.pick ?_; repeat (first | exact PkG.nil | refine PkG.cons 0 rfl rfl ?_ | refine PkG.cons 1 rfl rfl ?_ | refine PkG.cons 2 rfl rfl ?_ | refine PkG.cons 3 rfl rfl ?_)
                  ·
                    clear F; intro hc37 F
                    try rw [hc37] at F
                    replace hc37 := of_decide_eq_false hc37
                    refine wp_exit ?_
                    refine wp_seq ?_
                    replace F := F.keep [0, 1, 2, 5, 6, 7, 8, 9, 10, 15, 16, 17] rfl
                    refine wp_region_l [.wr, .ind] ([0, 1]) rfl ?_
                    refine s_cq F M rfl rfl rfl rfl rfl (rfl : _ = some []) cb_14_C10 (fun nd_ => c14 _) ?_; (clear F a M; try clear w); rintro v w rfl M a F
                    refine s_I F rfl rfl rfl rfl rfl rfl ?_; clear F a; intro a F
                    refine t_endM M ?_; (clear M; try clear w); intro w M
                    refine wp_ret ?_
                    refine ret1 F rfl rfl ?_
                    -- end 7
                    exact ⟨_, rfl, rfl, M.chg⟩
end Go.Proofs.Ytibomfgeemhogaa
