/- D4 of the seat. -/
import Derived.Test.YtmikcmcgfehgfaaD3
namespace Go.Proofs.Ytmikcmcgfehgfaa
open Go Fw
theorem fa_29_1_D4 : FA Try.prog 29 1 1 := fun _ _ _ => by kernel_rfl
theorem sc_27_D4 : scalB Try.prog 27 = true := by kernel_rfl
theorem sl_27_D4 : slcB Try.prog 27 = some (78, 3) := by kernel_rfl
theorem fa_78_1_D4 : FA Try.prog 78 1 1 := fun _ _ _ => by kernel_rfl
theorem sc_3_D4 : scalB Try.prog 3 = true := by kernel_rfl
theorem fa_78_2_D4 : FA Try.prog 78 2 2 := fun _ _ _ => by kernel_rfl
theorem sc_9_D4 : scalB Try.prog 9 = true := by kernel_rfl
theorem fa_29_0_D4 : FA Try.prog 29 0 0 := fun _ _ _ => by kernel_rfl
theorem zr_29_D4 : zeroB Try.prog 29 = some (.agg #[.int .i64 0, .slice none 0 0]) := by kernel_rfl
theorem ag_29_D4 : aggB Try.prog 29 = some 2 := by kernel_rfl
theorem sz_29_D4 : sizeB Try.prog 29 = some 2 := by kernel_rfl
theorem st_9_D4 : strB Try.prog 9 = true := by kernel_rfl
theorem fa_78_0_D4 : FA Try.prog 78 0 0 := fun _ _ _ => by kernel_rfl
theorem tl_27_D4 : SlT Try.prog 27 78 3 32 (.agg #[.int .i64 0, .int .i64 0, .string { data := #[] }]) := ⟨by kernel_rfl, by kernel_rfl, by kernel_rfl, by kernel_rfl, by decide⟩
theorem bl_78_0_1_2_D4 : ∀ (x0 : Int) (x1 : Int) (x2 : ByteArray), ∀ w : World, (Instr.build 78 #[(0, .int .i64 x0), (1, .int .i64 x1), (2, .string x2)]).run Try.prog w = .ok (.agg #[.int .i64 x0, .int .i64 x1, .string x2]) w := by intros; kernel_rfl
theorem bs_27_1_D4 : ∀ (x0_0 : Int) (x0_1 : Int) (x0_2 : ByteArray), News Try.prog (Instr.buildSlice 27 1 #[(0, .agg #[.int .i64 x0_0, .int .i64 x0_1, .string x0_2])]) (.cells #[.int .i64 x0_0, .int .i64 x0_1, .string x0_2] 78) fun b => .slice (some ⟨b, 0, none⟩) 1 1 := by intros; intro w; kernel_rfl
theorem sz_27_D4 : sizeB Try.prog 27 = some 1 := by kernel_rfl
theorem sl_40_D4 : slcB Try.prog 40 = some (9, 1) := by kernel_rfl
theorem cb_19_D4 : callB Try.prog 19 = true := by kernel_rfl
theorem bs_40_1_D4 : ∀ (x0 : ByteArray), News Try.prog (Instr.buildSlice 40 1 #[(0, .string x0)]) (.cells #[.string x0] 9) fun b => .slice (some ⟨b, 0, none⟩) 1 1 := by intros; intro w; kernel_rfl
theorem tl_40_D4 : SlT Try.prog 40 9 1 16 (.string { data := #[] }) := ⟨by kernel_rfl, by kernel_rfl, by kernel_rfl, by kernel_rfl, by decide⟩
theorem cb_21_D4 : callB Try.prog 21 = true := by kernel_rfl
theorem cb_38_D4 : callB Try.prog 38 = true := by kernel_rfl
theorem sl_44_D4 : slcB Try.prog 44 = some (3, 1) := by kernel_rfl
theorem cb_18_D4 : callB Try.prog 18 = true := by kernel_rfl
theorem bs_44_1_D4 : ∀ (x0 : Int), News Try.prog (Instr.buildSlice 44 1 #[(0, .int .i64 x0)]) (.cells #[.int .i64 x0] 3) fun b => .slice (some ⟨b, 0, none⟩) 1 1 := by intros; intro w; kernel_rfl
theorem tl_44_D4 : SlT Try.prog 44 3 1 8 (.int .i64 0) := ⟨by kernel_rfl, by kernel_rfl, by kernel_rfl, by kernel_rfl, by decide⟩
theorem cb_22_D4 : callB Try.prog 22 = true := by kernel_rfl
open FlwM

theorem drop_succ {α : Type} {l : List α} {i : Int} {e : α} (h0 : 0 ≤ i) (he : l[i.toNat]? = some e) : l.drop i.toNat = e :: l.drop (i + 1).toNat := by
  have hlt : i.toNat < l.length := (List.getElem?_eq_some_iff.1 he).1
  rw [List.drop_eq_getElem_cons hlt, (List.getElem?_eq_some_iff.1 he).2, show (i + 1).toNat = i.toNat + 1 by omega]
theorem told_step {t h : Int} {L : List Ans} {i : Int} {e : Ans} (h0 : 0 ≤ i) (he : L[i.toNat]? = some e) (H : told t L h = toldR t h (L.take i.toNat) (L.drop i.toNat)) {n : Int} (hn : n = if e.height = h then ((cnt (L.take (i + 1).toNat) h e.value : Nat) : Int) else 0) (t0 : 0 ≤ t) :
    told t L h = if t < n then some e.value else toldR t h (L.take (i + 1).toNat) (L.drop (i + 1).toNat) := by
  rw [H, drop_succ h0 he]
  simp only [toldR]
  rw [← take_succ h0 he]
  subst hn
  by_cases h1 : e.height = h
  · simp only [h1, true_and, if_true]
  · simp only [h1, false_and, if_false]
    rw [if_neg (by omega)]
theorem ask_step {g : Int → Option ByteArray} {most h : Int} {out : List Int} (h1 : h < 64) (h2 : (out.length : Int) < most) : askF g most (64 - h).toNat h out = askF g most (64 - (h + 1)).toNat (h + 1) (if (g h).isNone then out ++ [h] else out) := by
  rw [show (64 - h).toNat = (64 - (h + 1)).toNat + 1 by omega]
  simp only [askF, if_pos h2]
theorem put_no {L : List Ans} {a : Ans} (h : okA L a = false) : put L a = L := by unfold put; rw [if_neg (by rw [h]; simp)]
theorem put_yes {L : List Ans} {a : Ans} (h : okA L a = true) : put L a = L ++ [a] := by unfold put; rw [if_pos h]

set_option maxRecDepth 100000 in
set_option maxHeartbeats 400000 in
theorem c19 (t : Int) (L : List Ans) (v : Value) (h : Int) (w0 : World) (hr : RdSl w0.heap v L.length 3 (L.flatMap encA)) (hl : L.length ≤ 512) (t0 : 0 ≤ t) : Cl Try.prog 19 #[refV t v, .int .i64 h] w0 (RetQ w0 fun r => r = .tuple #[.string ((told t L h).getD empty), .bool (told t L h).isSome]) := by
  have M : Sep (fun _ => False) w0 w0 _ := Sep.nil _ w0
  have hro := ro_of hr
  obtain ⟨A, cc, rfl, hcc⟩ := hr.form
  refine enter (vs := [_, _]) Try.func19 rfl rfl rfl ?_
  intro a F
  refine wp_seq ?_
  refine wp_region_l [.wr, .ind, .ind] ([0, 1, 2]) rfl ?_
  refine s_bxA F M rfl rfl rfl rfl rfl ?_; (clear F a M; try clear w); intro b2 w M a F
  refine s_I F rfl rfl rfl rfl rfl rfl ?_; clear F a; intro a F
  refine s_I F rfl rfl rfl rfl rfl rfl ?_; clear F a; intro a F
  refine t_endM M ?_; (clear M; try clear w); intro w M
  refine wp_seq ?_
  refine wp_seq ?_
  refine wp_region_l [.ind] ([0]) rfl ?_
  refine s_I F rfl rfl rfl rfl rfl rfl ?_; clear F a; intro a F
  refine t_endM M ?_; (clear M; try clear w); intro w M
  refine wp_block ?_
  refine loopX (X := Int) F [0, 1, 2] rfl (fun (i : Int) => (0 ≤ i) ∧ (i ≤ L.length) ∧ (told t L h = toldR t h (L.take i.toNat) (L.drop i.toNat))) (fun (i : Int) => [(6, .int .i64 i)]) (fun (i : Int) => []) (fun (i : Int) => L.length - i.toNat) (0) M ⟨(by omega), (by omega), rfl⟩ (F.keep [6, 0, 1, 2] rfl) ?_
  clear F M; clear a; (try clear w)
  rintro i a w ⟨i0, i1, H⟩ F M; try dsimp only at F M
  try simp only [List.cons_append, List.nil_append] at F M
  try dsimp only at i0 i1 H
  refine wp_seq ?_
  refine wp_seq ?_
  refine wp_region_l [.ind, .ind, .rd, .ind, .ind] ([0, 1, 2, 3, 4]) rfl ?_
  refine s_I F rfl rfl rfl rfl rfl rfl ?_; clear F a; intro a F
  refine s_fa0 F rfl rfl rfl rfl fa_29_1_D4 rfl ?_; clear F a; intro a F
  refine s_ld F rfl rfl rfl rfl sc_27_D4 rfl (by exact cell_of_blk M.h0 (lit rfl)) ?_; clear F a; intro a F
  refine s_len F rfl rfl rfl rfl sl_27_D4 rfl ?_; clear F a; intro a F
  refine s_bin F rfl rfl rfl rfl rfl rfl rfl ?_; clear F a; intro a F
  refine t_endM M ?_; (clear M; try clear w); intro w M
  refine c_if F rfl ?_ ?_
  ·
    clear F; intro hc0 F
    try rw [hc0] at F
    replace hc0 := of_decide_eq_true hc0
    obtain ⟨e, he⟩ := get_of i0 hc0
    refine wp_skip ?_
    refine wp_seq ?_
    refine wp_block ?_
    refine wp_seq ?_
    replace F := F.keep [0, 1, 2, 6] rfl
    refine wp_region_l [.ind] ([0]) rfl ?_
    refine s_I F rfl rfl rfl rfl rfl rfl ?_; clear F a; intro a F
    refine t_endM M ?_; (clear M; try clear w); intro w M
    refine wp_seq ?_
    refine wp_seq ?_
    refine wp_region_l [.ind] ([0]) rfl ?_
    refine s_I F rfl rfl rfl rfl rfl rfl ?_; clear F a; intro a F
    refine t_endM M ?_; (clear M; try clear w); intro w M
    refine wp_block ?_
    refine loopX (X := Int × Int) F [0, 1, 2, 6] rfl (fun ((k, n) : Int × Int) => (0 ≤ k) ∧ (k ≤ i + 1) ∧ (n = if e.height = h then ((cnt (L.take k.toNat) h e.value : Nat) : Int) else 0)) (fun ((k, n) : Int × Int) => [(7, .int .i64 n), (8, .int .i64 k)]) (fun ((k, n) : Int × Int) => []) (fun ((k, n) : Int × Int) => (i + 1 - k).toNat) ((0), (0)) M ⟨(by omega), (by omega), (by simp [cnt])⟩ (F.keep [7, 8, 0, 1, 2, 6] rfl) ?_
    clear F M; clear a; (try clear w)
    rintro ⟨k, n⟩ a w ⟨k0, k1, hn⟩ F M; try dsimp only at F M
    try simp only [List.cons_append, List.nil_append] at F M
    try dsimp only at k0 k1 hn
    have hnb : 0 ≤ n ∧ n ≤ L.length := by
      have h1 := cnt_le (L.take k.toNat) h e.value
      have h2 := List.length_take_le k.toNat L
      subst hn; split <;> omega
    refine wp_seq ?_
    refine wp_seq ?_
    refine wp_region_l [.ind, .ind, .ind] ([0, 1, 2]) rfl ?_
    refine s_I F rfl rfl rfl rfl rfl rfl ?_; clear F a; intro a F
    refine s_I F rfl rfl rfl rfl rfl rfl ?_; clear F a; intro a F
    refine s_bin F rfl rfl rfl rfl rfl rfl rfl ?_; clear F a; intro a F
    refine t_endM M ?_; (clear M; try clear w); intro w M
    refine c_if F rfl ?_ ?_
    ·
      clear F; intro hc1 F
      try rw [hc1] at F
      replace hc1 := of_decide_eq_true hc1
      refine wp_skip ?_
      refine wp_seq ?_
      refine wp_block ?_
      refine wp_seq ?_
      replace F := F.keep [0, 1, 2, 6, 7, 8] rfl
      refine wp_region_t [.ind, .rd, .ind, .ind, .ind, .rd, .ind, .ind, .ind, .ind, .rd, .ind, .ind, .ind, .rd, .ind, .ind, .ind, .ind, .ind, .rd, .ind, .ind, .ind, .rd, .ind, .rd, .ind, .ind, .ind, .rd, .ind, .ind] [] (otOf [0, 1, 2, 3, 4, 5, 6, 7, 8, 9, 10, 11, 12, 13, 14, 15, 16, 17, 18, 19, 20, 21, 22, 23, 24, 25, 26, 27, 28, 29, 30, 31, 32]) mixed (by kernel_rfl) ?_
      refine s_fa0 F rfl rfl rfl rfl fa_29_1_D4 rfl ?_; clear F a; intro a F
      refine s_ld F rfl rfl rfl rfl sc_27_D4 rfl (by exact cell_of_blk M.h0 (lit rfl)) ?_; clear F a; intro a F
      refine s_I F rfl rfl rfl rfl rfl rfl ?_; clear F a; intro a F
      refine s_ix F rfl rfl rfl rfl sl_27_D4 rfl rfl (by exact M.chg.ro hro) (by omega) (by omega) ?_; clear F a; intro e24 he24 a F
      try (obtain rfl := Option.some.inj (he.symm.trans he24))
      refine s_fa F rfl rfl rfl rfl fa_78_1_D4 rfl ?_; clear F a; intro a F
      refine s_ld F rfl rfl rfl rfl sc_3_D4 rfl (by exact rdX (M.chg.ro hro) (by intro e; rfl) he24 rfl) ?_; clear F a; intro a F
      refine s_I F rfl rfl rfl rfl rfl rfl ?_; clear F a; intro a F
      refine s_bin F rfl rfl rfl rfl rfl rfl rfl ?_; clear F a; intro a F
      refine s_I F rfl rfl rfl rfl rfl rfl ?_; clear F a; intro a F
      refine bsplit F 29 rfl ?_ ?_
      ·
        clear F; intro hc2 F
        try rw [hc2] at F
        replace hc2 := of_decide_eq_true hc2
        refine s_fa0 F rfl rfl rfl rfl fa_29_1_D4 rfl ?_; clear F a; intro a F
        refine s_ld F rfl rfl rfl rfl sc_27_D4 rfl (by exact cell_of_blk M.h0 (lit rfl)) ?_; clear F a; intro a F
        refine s_I F rfl rfl rfl rfl rfl rfl ?_; clear F a; intro a F
        refine s_ix F rfl rfl rfl rfl sl_27_D4 rfl rfl (by exact M.chg.ro hro) (by omega) (by omega) ?_; clear F a; intro e33 he33 a F
        try (obtain rfl := Option.some.inj (he.symm.trans he33))
        try (obtain rfl := Option.some.inj (he24.symm.trans he33))
        refine s_fa F rfl rfl rfl rfl fa_78_1_D4 rfl ?_; clear F a; intro a F
        refine s_ld F rfl rfl rfl rfl sc_3_D4 rfl (by exact rdX (M.chg.ro hro) (by intro e; rfl) he33 rfl) ?_; clear F a; intro a F
        refine s_I F rfl rfl rfl rfl rfl rfl ?_; clear F a; intro a F
        refine s_bin F rfl rfl rfl rfl rfl rfl rfl ?_; clear F a; intro a F
        refine s_I F rfl rfl rfl rfl rfl rfl ?_; clear F a; intro a F
        refine s_I F rfl rfl rfl rfl rfl rfl ?_; clear F a; intro a F
        refine bsplit F 39 rfl ?_ ?_
        ·
          clear F; intro hc3 F
          try rw [hc3] at F
          replace hc3 := of_decide_eq_true hc3
          refine s_fa0 F rfl rfl rfl rfl fa_29_1_D4 rfl ?_; clear F a; intro a F
          refine s_ld F rfl rfl rfl rfl sc_27_D4 rfl (by exact cell_of_blk M.h0 (lit rfl)) ?_; clear F a; intro a F
          refine s_I F rfl rfl rfl rfl rfl rfl ?_; clear F a; intro a F
          refine s_ix F rfl rfl rfl rfl sl_27_D4 rfl rfl (by exact M.chg.ro hro) (by omega) (by omega) ?_; clear F a; intro e43 he43 a F
          try (obtain rfl := Option.some.inj (he.symm.trans he43))
          try (obtain rfl := Option.some.inj (he24.symm.trans he43))
          try (obtain rfl := Option.some.inj (he33.symm.trans he43))
          refine s_fa F rfl rfl rfl rfl fa_78_2_D4 rfl ?_; clear F a; intro a F
          refine s_ld F rfl rfl rfl rfl sc_9_D4 rfl (by exact rdX (M.chg.ro hro) (by intro e; rfl) he43 rfl) ?_; clear F a; intro a F
          refine s_fa0 F rfl rfl rfl rfl fa_29_1_D4 rfl ?_; clear F a; intro a F
          refine s_ld F rfl rfl rfl rfl sc_27_D4 rfl (by exact cell_of_blk M.h0 (lit rfl)) ?_; clear F a; intro a F
          refine s_I F rfl rfl rfl rfl rfl rfl ?_; clear F a; intro a F
          refine s_ix F rfl rfl rfl rfl sl_27_D4 rfl rfl (by exact M.chg.ro hro) (by omega) (by omega) ?_; clear F a; intro e49 he49 a F
          try (obtain rfl := Option.some.inj (he.symm.trans he49))
          try (obtain rfl := Option.some.inj (he24.symm.trans he49))
          try (obtain rfl := Option.some.inj (he33.symm.trans he49))
          try (obtain rfl := Option.some.inj (he43.symm.trans he49))
          refine s_fa F rfl rfl rfl rfl fa_78_2_D4 rfl ?_; clear F a; intro a F
          refine s_ld F rfl rfl rfl rfl sc_9_D4 rfl (by exact rdX (M.chg.ro hro) (by intro e; rfl) he49 rfl) ?_; clear F a; intro a F
          refine s_bin F rfl rfl rfl rfl rfl rfl rfl ?_; clear F a; intro a F
          refine s_I F rfl rfl rfl rfl rfl rfl ?_; clear F a; intro a F
          refine t_endM M ?_; (clear M; try clear w); intro w M
          refine c_if F rfl ?_ ?_
          ·
            clear F; intro hc4 F
            try rw [hc4] at F
            replace hc4 := of_decide_eq_true hc4
            replace F := F.keep [0, 1, 2, 6, 7, 8] rfl
            refine wp_region_l [.ind, .ind, .ind] ([0, 1, 2]) rfl ?_
            refine s_I F rfl rfl rfl rfl rfl rfl ?_; clear F a; intro a F
            refine s_add F rfl rfl rfl rfl rfl rfl (by unfold In64; omega) ?_; clear F a; intro a F
            refine s_I F rfl rfl rfl rfl rfl rfl ?_; clear F a; intro a F
            refine t_endM M ?_; (clear M; try clear w); intro w M
            replace F := F.keep [0, 1, 2, 6, 7, 8] rfl
            refine wp_region_l [.ind, .ind, .ind] ([0, 1, 2]) rfl ?_
            refine s_I F rfl rfl rfl rfl rfl rfl ?_; clear F a; intro a F
            refine s_add F rfl rfl rfl rfl rfl rfl (by unfold In64; omega) ?_; clear F a; intro a F
            refine s_I F rfl rfl rfl rfl rfl rfl ?_; clear F a; intro a F
            refine t_endM M ?_; (clear M; try clear w); intro w M
            refine again ((k + 1), (_)) (by show _ < _; (try dsimp only); omega) ⟨(by omega), (by omega), (by rw [take_succ k0 he24, cnt_snoc]; clear F M H hro hr; grind)⟩ (F.keep [7, 8, 0, 1, 2, 6] rfl) ?_
            try dsimp only [List.cons_append, List.nil_append]
            refine M.pick ?_; repeat (first | exact PkG.nil | refine PkG.cons 0 rfl rfl ?_)
          ·
            clear F; intro hc5 F
            try rw [hc5] at F
            replace hc5 := of_decide_eq_false hc5
            refine wp_skip ?_
            replace F := F.keep [0, 1, 2, 6, 7, 8] rfl
            refine wp_region_l [.ind, .ind, .ind] ([0, 1, 2]) rfl ?_
            refine s_I F rfl rfl rfl rfl rfl rfl ?_; clear F a; intro a F
            refine s_add F rfl rfl rfl rfl rfl rfl (by unfold In64; omega) ?_; clear F a; intro a F
            refine s_I F rfl rfl rfl rfl rfl rfl ?_; clear F a; intro a F
            refine t_endM M ?_; (clear M; try clear w); intro w M
            refine again ((k + 1), (_)) (by show _ < _; (try dsimp only); omega) ⟨(by omega), (by omega), (by rw [take_succ k0 he24, cnt_snoc]; clear F M H hro hr; grind)⟩ (F.keep [7, 8, 0, 1, 2, 6] rfl) ?_
            try dsimp only [List.cons_append, List.nil_append]
            refine M.pick ?_; repeat (first | exact PkG.nil | refine PkG.cons 0 rfl rfl ?_)
        ·
          clear F; intro hc6 F
          try rw [hc6] at F
          replace hc6 := of_decide_eq_false hc6
          refine s_no F rfl rfl rfl rfl ?_; clear F a; intro a F
          refine s_no F rfl rfl rfl rfl ?_; clear F a; intro a F
          refine s_no F rfl rfl rfl rfl ?_; clear F a; intro a F
          refine s_no F rfl rfl rfl rfl ?_; clear F a; intro a F
          refine s_no F rfl rfl rfl rfl ?_; clear F a; intro a F
          refine s_no F rfl rfl rfl rfl ?_; clear F a; intro a F
          refine s_no F rfl rfl rfl rfl ?_; clear F a; intro a F
          refine s_no F rfl rfl rfl rfl ?_; clear F a; intro a F
          refine s_no F rfl rfl rfl rfl ?_; clear F a; intro a F
          refine s_no F rfl rfl rfl rfl ?_; clear F a; intro a F
          refine s_no F rfl rfl rfl rfl ?_; clear F a; intro a F
          refine s_no F rfl rfl rfl rfl ?_; clear F a; intro a F
          refine s_no F rfl rfl rfl rfl ?_; clear F a; intro a F
          refine s_I F rfl rfl rfl rfl rfl rfl ?_; clear F a; intro a F
          refine t_endM M ?_; (clear M; try clear w); intro w M
          refine c_f F rfl ?_
          refine wp_skip ?_
          replace F := F.keep [0, 1, 2, 6, 7, 8] rfl
          refine wp_region_l [.ind, .ind, .ind] ([0, 1, 2]) rfl ?_
          refine s_I F rfl rfl rfl rfl rfl rfl ?_; clear F a; intro a F
          refine s_add F rfl rfl rfl rfl rfl rfl (by unfold In64; omega) ?_; clear F a; intro a F
          refine s_I F rfl rfl rfl rfl rfl rfl ?_; clear F a; intro a F
          refine t_endM M ?_; (clear M; try clear w); intro w M
          refine again ((k + 1), (_)) (by show _ < _; (try dsimp only); omega) ⟨(by omega), (by omega), (by rw [take_succ k0 he24, cnt_snoc]; clear F M H hro hr; grind)⟩ (F.keep [7, 8, 0, 1, 2, 6] rfl) ?_
          try dsimp only [List.cons_append, List.nil_append]
          refine M.pick ?_; repeat (first | exact PkG.nil | refine PkG.cons 0 rfl rfl ?_)
      ·
        clear F; intro hc7 F
        try rw [hc7] at F
        replace hc7 := of_decide_eq_false hc7
        refine s_no F rfl rfl rfl rfl ?_; clear F a; intro a F
        refine s_no F rfl rfl rfl rfl ?_; clear F a; intro a F
        refine s_no F rfl rfl rfl rfl ?_; clear F a; intro a F
        refine s_no F rfl rfl rfl rfl ?_; clear F a; intro a F
        refine s_no F rfl rfl rfl rfl ?_; clear F a; intro a F
        refine s_no F rfl rfl rfl rfl ?_; clear F a; intro a F
        refine s_no F rfl rfl rfl rfl ?_; clear F a; intro a F
        refine s_no F rfl rfl rfl rfl ?_; clear F a; intro a F
        refine s_I F rfl rfl rfl rfl rfl rfl ?_; clear F a; intro a F
        refine s_I F rfl rfl rfl rfl rfl rfl ?_; clear F a; intro a F
        refine s_no F rfl rfl rfl rfl ?_; clear F a; intro a F
        refine s_no F rfl rfl rfl rfl ?_; clear F a; intro a F
        refine s_no F rfl rfl rfl rfl ?_; clear F a; intro a F
        refine s_no F rfl rfl rfl rfl ?_; clear F a; intro a F
        refine s_no F rfl rfl rfl rfl ?_; clear F a; intro a F
        refine s_no F rfl rfl rfl rfl ?_; clear F a; intro a F
        refine s_no F rfl rfl rfl rfl ?_; clear F a; intro a F
        refine s_no F rfl rfl rfl rfl ?_; clear F a; intro a F
        refine s_no F rfl rfl rfl rfl ?_; clear F a; intro a F
        refine s_no F rfl rfl rfl rfl ?_; clear F a; intro a F
        refine s_no F rfl rfl rfl rfl ?_; clear F a; intro a F
        refine s_no F rfl rfl rfl rfl ?_; clear F a; intro a F
        refine s_no F rfl rfl rfl rfl ?_; clear F a; intro a F
        refine s_I F rfl rfl rfl rfl rfl rfl ?_; clear F a; intro a F
        refine t_endM M ?_; (clear M; try clear w); intro w M
        refine c_f F rfl ?_
        refine wp_skip ?_
        replace F := F.keep [0, 1, 2, 6, 7, 8] rfl
        refine wp_region_l [.ind, .ind, .ind] ([0, 1, 2]) rfl ?_
        refine s_I F rfl rfl rfl rfl rfl rfl ?_; clear F a; intro a F
        refine s_add F rfl rfl rfl rfl rfl rfl (by unfold In64; omega) ?_; clear F a; intro a F
        refine s_I F rfl rfl rfl rfl rfl rfl ?_; clear F a; intro a F
        refine t_endM M ?_; (clear M; try clear w); intro w M
        refine again ((k + 1), (_)) (by show _ < _; (try dsimp only); omega) ⟨(by omega), (by omega), (by rw [take_succ k0 he24, cnt_snoc]; clear F M H hro hr; grind)⟩ (F.keep [7, 8, 0, 1, 2, 6] rfl) ?_
        try dsimp only [List.cons_append, List.nil_append]
        refine M.pick ?_; repeat (first | exact PkG.nil | refine PkG.cons 0 rfl rfl ?_)
    ·
      clear F; intro hc8 F
      try rw [hc8] at F
      replace hc8 := of_decide_eq_false hc8
      obtain rfl : k = i + 1 := by omega
      refine wp_exit ?_
      refine wp_seq ?_
      replace F := F.keep [0, 1, 2, 6, 7, 8] rfl
      refine wp_region_l [.ind, .ind, .rd, .ind] ([0, 1, 2, 3]) rfl ?_
      refine s_I F rfl rfl rfl rfl rfl rfl ?_; clear F a; intro a F
      refine s_fa0 F rfl rfl rfl rfl fa_29_0_D4 rfl ?_; clear F a; intro a F
      refine s_ld F rfl rfl rfl rfl sc_3_D4 rfl (by exact cell_of_blk M.h0 (lit rfl)) ?_; clear F a; intro a F
      refine s_bin F rfl rfl rfl rfl rfl rfl rfl ?_; clear F a; intro a F
      refine t_endM M ?_; (clear M; try clear w); intro w M
      refine c_if F rfl ?_ ?_
      ·
        clear F; intro hc9 F
        try rw [hc9] at F
        replace hc9 := of_decide_eq_true hc9
        refine wp_seq ?_
        replace F := F.keep [0, 1, 2, 6, 7, 8] rfl
        refine wp_region_l [.ind, .rd, .ind, .ind, .ind, .rd, .ind, .ind] ([0, 1, 2, 3, 4, 5, 6, 7]) rfl ?_
        refine s_fa0 F rfl rfl rfl rfl fa_29_1_D4 rfl ?_; clear F a; intro a F
        refine s_ld F rfl rfl rfl rfl sc_27_D4 rfl (by exact cell_of_blk M.h0 (lit rfl)) ?_; clear F a; intro a F
        refine s_I F rfl rfl rfl rfl rfl rfl ?_; clear F a; intro a F
        refine s_ix F rfl rfl rfl rfl sl_27_D4 rfl rfl (by exact M.chg.ro hro) (by omega) (by omega) ?_; clear F a; intro e63 he63 a F
        try (obtain rfl := Option.some.inj (he.symm.trans he63))
        refine s_fa F rfl rfl rfl rfl fa_78_2_D4 rfl ?_; clear F a; intro a F
        refine s_ld F rfl rfl rfl rfl sc_9_D4 rfl (by exact rdX (M.chg.ro hro) (by intro e; rfl) he63 rfl) ?_; clear F a; intro a F
        refine s_I F rfl rfl rfl rfl rfl rfl ?_; clear F a; intro a F
        refine s_I F rfl rfl rfl rfl rfl rfl ?_; clear F a; intro a F
        refine t_endM M ?_; (clear M; try clear w); intro w M
        refine wp_ret ?_
        refine ret2 F rfl rfl rfl ?_
        -- end 0
        refine ⟨_, rfl, ?_, M.chg⟩
        rw [told_step i0 he H hn t0, if_pos (by omega)]
        rfl
      ·
        clear F; intro hc10 F
        try rw [hc10] at F
        replace hc10 := of_decide_eq_false hc10
        refine wp_skip ?_
        replace F := F.keep [0, 1, 2, 6, 7, 8] rfl
        refine wp_region_l [.ind, .ind, .ind] ([0, 1, 2]) rfl ?_
        refine s_I F rfl rfl rfl rfl rfl rfl ?_; clear F a; intro a F
        refine s_add F rfl rfl rfl rfl rfl rfl (by unfold In64; omega) ?_; clear F a; intro a F
        refine s_I F rfl rfl rfl rfl rfl rfl ?_; clear F a; intro a F
        refine t_endM M ?_; (clear M; try clear w); intro w M
        refine again (i + 1) (by show _ < _; (try dsimp only); omega) ⟨(by assumption), (by assumption), (by rw [told_step i0 he H hn t0, if_neg (by omega)])⟩ (F.keep [6, 0, 1, 2] rfl) ?_
        try dsimp only [List.cons_append, List.nil_append]
        refine M.pick ?_; repeat (first | exact PkG.nil | refine PkG.cons 0 rfl rfl ?_)
  ·
    clear F; intro hc11 F
    try rw [hc11] at F
    replace hc11 := of_decide_eq_false hc11
    refine wp_exit ?_
    refine wp_seq ?_
    replace F := F.keep [0, 1, 2, 6] rfl
    refine wp_region_l [.ind, .ind] ([0, 1]) rfl ?_
    refine s_I F rfl rfl rfl rfl rfl rfl ?_; clear F a; intro a F
    refine s_I F rfl rfl rfl rfl rfl rfl ?_; clear F a; intro a F
    refine t_endM M ?_; (clear M; try clear w); intro w M
    refine wp_ret ?_
    refine ret2 F rfl rfl rfl ?_
    -- end 1
    refine ⟨_, rfl, ?_, M.chg⟩
    rw [H, show L.drop i.toNat = [] from List.drop_of_length_le (by omega)]
    rfl
set_option maxRecDepth 100000 in
set_option maxHeartbeats 2000000 in
theorem c16 (t : Int) (L : List Ans) (v : Value) (q : Ans) (w0 : World) (hl : L.length ≤ 512) (ho : Own w0.heap [slR v L.length 78 3 (L.flatMap encA)]) : Cl Try.prog 16 #[refV t v, .int .i64 q.frm, .int .i64 q.height, .string q.value] w0 (RetS [slR v L.length 78 3 (L.flatMap encA)] w0 (fun r (x : Value) => r = .tuple #[refV t x, .bool (okA L q)]) fun x => [slR x (put L q).length 78 3 ((put L q).flatMap encA)]) := by
  obtain ⟨A, cc, rfl⟩ := (ho.ok _ List.mem_cons_self).form
  have M : Sep (fun b_ => b_ ∈ foots [slR (.slice A L.length cc) L.length 78 3 (L.flatMap encA)]) w0 w0 _ := Sep.start ho
  refine enter (vs := [_, _, _, _]) Try.func16 rfl rfl rfl ?_
  intro a F
  refine wp_seq ?_
  refine wp_region_l [.wr, .wr, .ind] ([0, 1, 2]) rfl ?_
  refine s_bxA F M rfl rfl rfl rfl rfl ?_; (clear F a M; try clear w); intro b4 w M a F
  refine s_alc F M rfl rfl rfl rfl zr_29_D4 rfl ?_; (clear F a M; try clear w); intro b8 w M a F
  refine s_I F rfl rfl rfl rfl rfl rfl ?_; clear F a; intro a F
  refine t_endM M ?_; (clear M; try clear w); intro w M
  refine wp_seq ?_
  refine wp_seq ?_
  refine wp_region_l [.ind, .ind, .ind, .ind, .ind, .ind, .ind, .ind, .ind, .ind, .ind, .ind, .ind, .ind, .ind, .ind, .ind, .ind, .ind, .ind, .ind, .ind, .ind] ([0, 1, 2, 3, 4, 5, 6, 7, 8, 9, 10, 11, 12, 13, 14, 15, 16, 17, 18, 19, 20, 21, 22]) rfl ?_
  refine s_I F rfl rfl rfl rfl rfl rfl ?_; clear F a; intro a F
  refine s_bin F rfl rfl rfl rfl rfl rfl rfl ?_; clear F a; intro a F
  refine s_I F rfl rfl rfl rfl rfl rfl ?_; clear F a; intro a F
  refine bsplit F 13 rfl ?_ ?_
  ·
    clear F; intro hc0 F
    try rw [hc0] at F
    replace hc0 := of_decide_eq_true hc0
    refine s_no F rfl rfl rfl rfl ?_; clear F a; intro a F
    refine s_no F rfl rfl rfl rfl ?_; clear F a; intro a F
    refine s_I F rfl rfl rfl rfl rfl rfl ?_; clear F a; intro a F
    refine s_I F rfl rfl rfl rfl rfl rfl ?_; clear F a; intro a F
    refine s_no F rfl rfl rfl rfl ?_; clear F a; intro a F
    refine s_no F rfl rfl rfl rfl ?_; clear F a; intro a F
    refine s_I F rfl rfl rfl rfl rfl rfl ?_; clear F a; intro a F
    refine s_I F rfl rfl rfl rfl rfl rfl ?_; clear F a; intro a F
    refine s_no F rfl rfl rfl rfl ?_; clear F a; intro a F
    refine s_no F rfl rfl rfl rfl ?_; clear F a; intro a F
    refine s_I F rfl rfl rfl rfl rfl rfl ?_; clear F a; intro a F
    refine s_I F rfl rfl rfl rfl rfl rfl ?_; clear F a; intro a F
    refine s_no F rfl rfl rfl rfl ?_; clear F a; intro a F
    refine s_no F rfl rfl rfl rfl ?_; clear F a; intro a F
    refine s_I F rfl rfl rfl rfl rfl rfl ?_; clear F a; intro a F
    refine s_I F rfl rfl rfl rfl rfl rfl ?_; clear F a; intro a F
    refine s_no F rfl rfl rfl rfl ?_; clear F a; intro a F
    refine s_no F rfl rfl rfl rfl ?_; clear F a; intro a F
    refine s_no F rfl rfl rfl rfl ?_; clear F a; intro a F
    refine s_I F rfl rfl rfl rfl rfl rfl ?_; clear F a; intro a F
    refine t_endM M ?_; (clear M; try clear w); intro w M
    refine c_t F rfl ?_
    refine wp_seq ?_
    replace F := F.keep [0, 1, 2, 3, 4, 8, 9] rfl
    refine wp_region_l [.rd, .wr, .ind] ([0, 1, 2]) rfl ?_
    refine s_lda F rfl rfl rfl rfl ag_29_D4 rfl rfl (cells_whole M.h1) ?_; clear F a; intro a F
    refine s_stW F M rfl rfl rfl sz_29_D4 rfl rfl rfl rfl rfl ?_; (clear M; try clear w); intro w M
    refine s_I F rfl rfl rfl rfl rfl rfl ?_; clear F a; intro a F
    refine t_endM M ?_; (clear M; try clear w); intro w M
    refine wp_ret ?_
    refine rt2 F rfl (by exact rv_a F rfl ag_29_D4 rfl (cells_whole M.h0)) (rv_t F rfl) ?_
    -- end 0
    have hno : okA L q = false := by clear M F ho; grind [okA, valid, empty]
    refine ⟨_, .slice A L.length cc, rfl, by rw [hno], ?_⟩
    rw [put_no hno]
    have M1 : Sep _ _ _ (slR _ _ _ _ _ :: _) := M.f2; replace M := M1; clear M1
    exact Sep.left (r := _) M
  ·
    clear F; intro hc1 F
    try rw [hc1] at F
    replace hc1 := of_decide_eq_false hc1
    refine s_I F rfl rfl rfl rfl rfl rfl ?_; clear F a; intro a F
    refine s_bin F rfl rfl rfl rfl rfl rfl rfl ?_; clear F a; intro a F
    refine s_I F rfl rfl rfl rfl rfl rfl ?_; clear F a; intro a F
    refine s_I F rfl rfl rfl rfl rfl rfl ?_; clear F a; intro a F
    refine bsplit F 17 rfl ?_ ?_
    ·
      clear F; intro hc2 F
      try rw [hc2] at F
      replace hc2 := of_decide_eq_true hc2
      refine s_no F rfl rfl rfl rfl ?_; clear F a; intro a F
      refine s_no F rfl rfl rfl rfl ?_; clear F a; intro a F
      refine s_I F rfl rfl rfl rfl rfl rfl ?_; clear F a; intro a F
      refine s_I F rfl rfl rfl rfl rfl rfl ?_; clear F a; intro a F
      refine s_no F rfl rfl rfl rfl ?_; clear F a; intro a F
      refine s_no F rfl rfl rfl rfl ?_; clear F a; intro a F
      refine s_I F rfl rfl rfl rfl rfl rfl ?_; clear F a; intro a F
      refine s_I F rfl rfl rfl rfl rfl rfl ?_; clear F a; intro a F
      refine s_no F rfl rfl rfl rfl ?_; clear F a; intro a F
      refine s_no F rfl rfl rfl rfl ?_; clear F a; intro a F
      refine s_I F rfl rfl rfl rfl rfl rfl ?_; clear F a; intro a F
      refine s_I F rfl rfl rfl rfl rfl rfl ?_; clear F a; intro a F
      refine s_no F rfl rfl rfl rfl ?_; clear F a; intro a F
      refine s_no F rfl rfl rfl rfl ?_; clear F a; intro a F
      refine s_no F rfl rfl rfl rfl ?_; clear F a; intro a F
      refine s_I F rfl rfl rfl rfl rfl rfl ?_; clear F a; intro a F
      refine t_endM M ?_; (clear M; try clear w); intro w M
      refine c_t F rfl ?_
      refine wp_seq ?_
      replace F := F.keep [0, 1, 2, 3, 4, 8, 9] rfl
      refine wp_region_l [.rd, .wr, .ind] ([0, 1, 2]) rfl ?_
      refine s_lda F rfl rfl rfl rfl ag_29_D4 rfl rfl (cells_whole M.h1) ?_; clear F a; intro a F
      refine s_stW F M rfl rfl rfl sz_29_D4 rfl rfl rfl rfl rfl ?_; (clear M; try clear w); intro w M
      refine s_I F rfl rfl rfl rfl rfl rfl ?_; clear F a; intro a F
      refine t_endM M ?_; (clear M; try clear w); intro w M
      refine wp_ret ?_
      refine rt2 F rfl (by exact rv_a F rfl ag_29_D4 rfl (cells_whole M.h0)) (rv_t F rfl) ?_
      -- end 1
      have hno : okA L q = false := by clear M F ho; grind [okA, valid, empty]
      refine ⟨_, .slice A L.length cc, rfl, by rw [hno], ?_⟩
      rw [put_no hno]
      have M1 : Sep _ _ _ (slR _ _ _ _ _ :: _) := M.f2; replace M := M1; clear M1
      exact Sep.left (r := _) M
    ·
      clear F; intro hc3 F
      try rw [hc3] at F
      replace hc3 := of_decide_eq_false hc3
      refine s_I F rfl rfl rfl rfl rfl rfl ?_; clear F a; intro a F
      refine s_bin F rfl rfl rfl rfl rfl rfl rfl ?_; clear F a; intro a F
      refine s_I F rfl rfl rfl rfl rfl rfl ?_; clear F a; intro a F
      refine s_I F rfl rfl rfl rfl rfl rfl ?_; clear F a; intro a F
      refine bsplit F 21 rfl ?_ ?_
      ·
        clear F; intro hc4 F
        try rw [hc4] at F
        replace hc4 := of_decide_eq_true hc4
        refine s_no F rfl rfl rfl rfl ?_; clear F a; intro a F
        refine s_no F rfl rfl rfl rfl ?_; clear F a; intro a F
        refine s_I F rfl rfl rfl rfl rfl rfl ?_; clear F a; intro a F
        refine s_I F rfl rfl rfl rfl rfl rfl ?_; clear F a; intro a F
        refine s_no F rfl rfl rfl rfl ?_; clear F a; intro a F
        refine s_no F rfl rfl rfl rfl ?_; clear F a; intro a F
        refine s_I F rfl rfl rfl rfl rfl rfl ?_; clear F a; intro a F
        refine s_I F rfl rfl rfl rfl rfl rfl ?_; clear F a; intro a F
        refine s_no F rfl rfl rfl rfl ?_; clear F a; intro a F
        refine s_no F rfl rfl rfl rfl ?_; clear F a; intro a F
        refine s_no F rfl rfl rfl rfl ?_; clear F a; intro a F
        refine s_I F rfl rfl rfl rfl rfl rfl ?_; clear F a; intro a F
        refine t_endM M ?_; (clear M; try clear w); intro w M
        refine c_t F rfl ?_
        refine wp_seq ?_
        replace F := F.keep [0, 1, 2, 3, 4, 8, 9] rfl
        refine wp_region_l [.rd, .wr, .ind] ([0, 1, 2]) rfl ?_
        refine s_lda F rfl rfl rfl rfl ag_29_D4 rfl rfl (cells_whole M.h1) ?_; clear F a; intro a F
        refine s_stW F M rfl rfl rfl sz_29_D4 rfl rfl rfl rfl rfl ?_; (clear M; try clear w); intro w M
        refine s_I F rfl rfl rfl rfl rfl rfl ?_; clear F a; intro a F
        refine t_endM M ?_; (clear M; try clear w); intro w M
        refine wp_ret ?_
        refine rt2 F rfl (by exact rv_a F rfl ag_29_D4 rfl (cells_whole M.h0)) (rv_t F rfl) ?_
        -- end 2
        have hno : okA L q = false := by clear M F ho; grind [okA, valid, empty]
        refine ⟨_, .slice A L.length cc, rfl, by rw [hno], ?_⟩
        rw [put_no hno]
        have M1 : Sep _ _ _ (slR _ _ _ _ _ :: _) := M.f2; replace M := M1; clear M1
        exact Sep.left (r := _) M
      ·
        clear F; intro hc5 F
        try rw [hc5] at F
        replace hc5 := of_decide_eq_false hc5
        refine s_I F rfl rfl rfl rfl rfl rfl ?_; clear F a; intro a F
        refine s_bin F rfl rfl rfl rfl rfl rfl rfl ?_; clear F a; intro a F
        refine s_I F rfl rfl rfl rfl rfl rfl ?_; clear F a; intro a F
        refine s_I F rfl rfl rfl rfl rfl rfl ?_; clear F a; intro a F
        refine bsplit F 25 rfl ?_ ?_
        ·
          clear F; intro hc6 F
          try rw [hc6] at F
          replace hc6 := of_decide_eq_true hc6
          refine s_no F rfl rfl rfl rfl ?_; clear F a; intro a F
          refine s_no F rfl rfl rfl rfl ?_; clear F a; intro a F
          refine s_I F rfl rfl rfl rfl rfl rfl ?_; clear F a; intro a F
          refine s_I F rfl rfl rfl rfl rfl rfl ?_; clear F a; intro a F
          refine s_no F rfl rfl rfl rfl ?_; clear F a; intro a F
          refine s_no F rfl rfl rfl rfl ?_; clear F a; intro a F
          refine s_no F rfl rfl rfl rfl ?_; clear F a; intro a F
          refine s_I F rfl rfl rfl rfl rfl rfl ?_; clear F a; intro a F
          refine t_endM M ?_; (clear M; try clear w); intro w M
          refine c_t F rfl ?_
          refine wp_seq ?_
          replace F := F.keep [0, 1, 2, 3, 4, 8, 9] rfl
          refine wp_region_l [.rd, .wr, .ind] ([0, 1, 2]) rfl ?_
          refine s_lda F rfl rfl rfl rfl ag_29_D4 rfl rfl (cells_whole M.h1) ?_; clear F a; intro a F
          refine s_stW F M rfl rfl rfl sz_29_D4 rfl rfl rfl rfl rfl ?_; (clear M; try clear w); intro w M
          refine s_I F rfl rfl rfl rfl rfl rfl ?_; clear F a; intro a F
          refine t_endM M ?_; (clear M; try clear w); intro w M
          refine wp_ret ?_
          refine rt2 F rfl (by exact rv_a F rfl ag_29_D4 rfl (cells_whole M.h0)) (rv_t F rfl) ?_
          -- end 3
          have hno : okA L q = false := by clear M F ho; grind [okA, valid, empty]
          refine ⟨_, .slice A L.length cc, rfl, by rw [hno], ?_⟩
          rw [put_no hno]
          have M1 : Sep _ _ _ (slR _ _ _ _ _ :: _) := M.f2; replace M := M1; clear M1
          exact Sep.left (r := _) M
        ·
          clear F; intro hc7 F
          try rw [hc7] at F
          replace hc7 := of_decide_eq_false hc7
          refine s_I F rfl rfl rfl rfl rfl rfl ?_; clear F a; intro a F
          refine s_bin F rfl rfl rfl rfl rfl rfl rfl ?_; clear F a; intro a F
          refine s_I F rfl rfl rfl rfl rfl rfl ?_; clear F a; intro a F
          refine s_I F rfl rfl rfl rfl rfl rfl ?_; clear F a; intro a F
          refine bsplit F 29 rfl ?_ ?_
          ·
            clear F; intro hc8 F
            try rw [hc8] at F
            replace hc8 := of_decide_eq_true hc8
            refine s_no F rfl rfl rfl rfl ?_; clear F a; intro a F
            refine s_no F rfl rfl rfl rfl ?_; clear F a; intro a F
            refine s_no F rfl rfl rfl rfl ?_; clear F a; intro a F
            refine s_I F rfl rfl rfl rfl rfl rfl ?_; clear F a; intro a F
            refine t_endM M ?_; (clear M; try clear w); intro w M
            refine c_t F rfl ?_
            refine wp_seq ?_
            replace F := F.keep [0, 1, 2, 3, 4, 8, 9] rfl
            refine wp_region_l [.rd, .wr, .ind] ([0, 1, 2]) rfl ?_
            refine s_lda F rfl rfl rfl rfl ag_29_D4 rfl rfl (cells_whole M.h1) ?_; clear F a; intro a F
            refine s_stW F M rfl rfl rfl sz_29_D4 rfl rfl rfl rfl rfl ?_; (clear M; try clear w); intro w M
            refine s_I F rfl rfl rfl rfl rfl rfl ?_; clear F a; intro a F
            refine t_endM M ?_; (clear M; try clear w); intro w M
            refine wp_ret ?_
            refine rt2 F rfl (by exact rv_a F rfl ag_29_D4 rfl (cells_whole M.h0)) (rv_t F rfl) ?_
            -- end 4
            have hno : okA L q = false := by clear M F ho; grind [okA, valid, empty]
            refine ⟨_, .slice A L.length cc, rfl, by rw [hno], ?_⟩
            rw [put_no hno]
            have M1 : Sep _ _ _ (slR _ _ _ _ _ :: _) := M.f2; replace M := M1; clear M1
            exact Sep.left (r := _) M
          ·
            clear F; intro hc9 F
            try rw [hc9] at F
            replace hc9 := of_decide_eq_false hc9
            refine s_I F rfl rfl rfl rfl rfl rfl ?_; clear F a; intro a F
            refine s_lenS F rfl rfl rfl rfl st_9_D4 rfl ?_; clear F a; intro a F
            refine s_bin F rfl rfl rfl rfl rfl rfl rfl ?_; clear F a; intro a F
            refine s_I F rfl rfl rfl rfl rfl rfl ?_; clear F a; intro a F
            refine t_endM M ?_; (clear M; try clear w); intro w M
            refine c_if F rfl ?_ ?_
            ·
              clear F; intro hc10 F
              try rw [hc10] at F
              replace hc10 := of_decide_eq_true hc10
              refine wp_seq ?_
              replace F := F.keep [0, 1, 2, 3, 4, 8, 9] rfl
              refine wp_region_l [.rd, .wr, .ind] ([0, 1, 2]) rfl ?_
              refine s_lda F rfl rfl rfl rfl ag_29_D4 rfl rfl (cells_whole M.h1) ?_; clear F a; intro a F
              refine s_stW F M rfl rfl rfl sz_29_D4 rfl rfl rfl rfl rfl ?_; (clear M; try clear w); intro w M
              refine s_I F rfl rfl rfl rfl rfl rfl ?_; clear F a; intro a F
              refine t_endM M ?_; (clear M; try clear w); intro w M
              refine wp_ret ?_
              refine rt2 F rfl (by exact rv_a F rfl ag_29_D4 rfl (cells_whole M.h0)) (rv_t F rfl) ?_
              -- end 5
              have hno : okA L q = false := by clear M F ho; grind [okA, valid, empty]
              refine ⟨_, .slice A L.length cc, rfl, by rw [hno], ?_⟩
              rw [put_no hno]
              have M1 : Sep _ _ _ (slR _ _ _ _ _ :: _) := M.f2; replace M := M1; clear M1
              exact Sep.left (r := _) M
            ·
              clear F; intro hc11 F
              try rw [hc11] at F
              replace hc11 := of_decide_eq_false hc11
              refine wp_skip ?_
              refine wp_seq ?_
              refine wp_seq ?_
              replace F := F.keep [0, 1, 2, 3, 4, 8, 9] rfl
              refine wp_region_l [.ind] ([0]) rfl ?_
              refine s_I F rfl rfl rfl rfl rfl rfl ?_; clear F a; intro a F
              refine t_endM M ?_; (clear M; try clear w); intro w M
              refine wp_block ?_
              refine loopX (X := Int) F [0, 1, 2, 3, 4, 8] rfl (fun (i : Int) => (0 ≤ i) ∧ (i ≤ L.length) ∧ (∀ e ∈ L.take i.toNat, ¬ (e.frm = q.frm ∧ e.height = q.height))) (fun (i : Int) => [(10, .int .i64 i)]) (fun (i : Int) => []) (fun (i : Int) => L.length - i.toNat) (0) M ⟨(by omega), (by omega), (by simp)⟩ (F.keep [10, 0, 1, 2, 3, 4, 8] rfl) ?_
              clear F M; clear a; (try clear w)
              rintro i a w ⟨i0, i1, ha⟩ F M; try dsimp only at F M
              try simp only [List.cons_append, List.nil_append] at F M
              try dsimp only at i0 i1 ha
              refine wp_seq ?_
              refine wp_seq ?_
              refine wp_region_l [.ind, .ind, .rd, .ind, .ind] ([0, 1, 2, 3, 4]) rfl ?_
              refine s_I F rfl rfl rfl rfl rfl rfl ?_; clear F a; intro a F
              refine s_fa0 F rfl rfl rfl rfl fa_29_1_D4 rfl ?_; clear F a; intro a F
              refine s_ld F rfl rfl rfl rfl sc_27_D4 rfl (by exact cell_of_blk M.h1 (lit rfl)) ?_; clear F a; intro a F
              refine s_len F rfl rfl rfl rfl sl_27_D4 rfl ?_; clear F a; intro a F
              refine s_bin F rfl rfl rfl rfl rfl rfl rfl ?_; clear F a; intro a F
              refine t_endM M ?_; (clear M; try clear w); intro w M
              refine c_if F rfl ?_ ?_
              ·
                clear F; intro hc12 F
                try rw [hc12] at F
                replace hc12 := of_decide_eq_true hc12
                refine wp_skip ?_
                refine wp_seq ?_
                refine wp_block ?_
                refine wp_seq ?_
                replace F := F.keep [0, 1, 2, 3, 4, 8, 10] rfl
                refine wp_region_l [.ind, .rd, .ind, .ind, .ind, .rd, .ind, .ind, .ind, .ind, .rd, .ind, .ind, .ind, .rd, .ind, .ind, .ind] ([0, 1, 2, 3, 4, 5, 6, 7, 8, 9, 10, 11, 12, 13, 14, 15, 16, 17]) rfl ?_
                refine s_fa0 F rfl rfl rfl rfl fa_29_1_D4 rfl ?_; clear F a; intro a F
                refine s_ld F rfl rfl rfl rfl sc_27_D4 rfl (by exact cell_of_blk M.h1 (lit rfl)) ?_; clear F a; intro a F
                refine s_I F rfl rfl rfl rfl rfl rfl ?_; clear F a; intro a F
                refine s_ix F rfl rfl rfl rfl sl_27_D4 rfl rfl (by exact SlOk.rd M.h2) (by omega) (by omega) ?_; clear F a; intro e45 he45 a F
                refine s_fa F rfl rfl rfl rfl fa_78_0_D4 rfl ?_; clear F a; intro a F
                refine s_ld F rfl rfl rfl rfl sc_3_D4 rfl (by exact rdX (SlOk.rd M.h2) (by intro e; rfl) he45 rfl) ?_; clear F a; intro a F
                refine s_I F rfl rfl rfl rfl rfl rfl ?_; clear F a; intro a F
                refine s_bin F rfl rfl rfl rfl rfl rfl rfl ?_; clear F a; intro a F
                refine s_I F rfl rfl rfl rfl rfl rfl ?_; clear F a; intro a F
                refine bsplit F 50 rfl ?_ ?_
                ·
                  clear F; intro hc13 F
                  try rw [hc13] at F
                  replace hc13 := of_decide_eq_true hc13
                  refine s_fa0 F rfl rfl rfl rfl fa_29_1_D4 rfl ?_; clear F a; intro a F
                  refine s_ld F rfl rfl rfl rfl sc_27_D4 rfl (by exact cell_of_blk M.h1 (lit rfl)) ?_; clear F a; intro a F
                  refine s_I F rfl rfl rfl rfl rfl rfl ?_; clear F a; intro a F
                  refine s_ix F rfl rfl rfl rfl sl_27_D4 rfl rfl (by exact SlOk.rd M.h2) (by omega) (by omega) ?_; clear F a; intro e54 he54 a F
                  try (obtain rfl := Option.some.inj (he45.symm.trans he54))
                  refine s_fa F rfl rfl rfl rfl fa_78_1_D4 rfl ?_; clear F a; intro a F
                  refine s_ld F rfl rfl rfl rfl sc_3_D4 rfl (by exact rdX (SlOk.rd M.h2) (by intro e; rfl) he54 rfl) ?_; clear F a; intro a F
                  refine s_I F rfl rfl rfl rfl rfl rfl ?_; clear F a; intro a F
                  refine s_bin F rfl rfl rfl rfl rfl rfl rfl ?_; clear F a; intro a F
                  refine s_I F rfl rfl rfl rfl rfl rfl ?_; clear F a; intro a F
                  refine t_endM M ?_; (clear M; try clear w); intro w M
                  refine c_if F rfl ?_ ?_
                  ·
                    clear F; intro hc14 F
                    try rw [hc14] at F
                    replace hc14 := of_decide_eq_true hc14
                    refine wp_seq ?_
                    replace F := F.keep [0, 1, 2, 3, 4, 8, 10] rfl
                    refine wp_region_l [.rd, .wr, .ind] ([0, 1, 2]) rfl ?_
                    refine s_lda F rfl rfl rfl rfl ag_29_D4 rfl rfl (cells_whole M.h1) ?_; clear F a; intro a F
                    refine s_stW F M rfl rfl rfl sz_29_D4 rfl rfl rfl rfl rfl ?_; (clear M; try clear w); intro w M
                    refine s_I F rfl rfl rfl rfl rfl rfl ?_; clear F a; intro a F
                    refine t_endM M ?_; (clear M; try clear w); intro w M
                    refine wp_ret ?_
                    refine rt2 F rfl (by exact rv_a F rfl ag_29_D4 rfl (cells_whole M.h0)) (rv_t F rfl) ?_
                    -- end 6
                    have hno : okA L q = false := by
                      have := heard_of (h := q.height) (f := q.frm) he45 (by assumption) (by assumption)
                      clear M F ho; simp [okA, this]
                    refine ⟨_, .slice A L.length cc, rfl, by rw [hno], ?_⟩
                    rw [put_no hno]
                    have M1 : Sep _ _ _ (slR _ _ _ _ _ :: _) := M.f2; replace M := M1; clear M1
                    exact Sep.left (r := _) M
                  ·
                    clear F; intro hc15 F
                    try rw [hc15] at F
                    replace hc15 := of_decide_eq_false hc15
                    refine wp_skip ?_
                    replace F := F.keep [0, 1, 2, 3, 4, 8, 10] rfl
                    refine wp_region_l [.ind, .ind, .ind] ([0, 1, 2]) rfl ?_
                    refine s_I F rfl rfl rfl rfl rfl rfl ?_; clear F a; intro a F
                    refine s_add F rfl rfl rfl rfl rfl rfl (by unfold In64; omega) ?_; clear F a; intro a F
                    refine s_I F rfl rfl rfl rfl rfl rfl ?_; clear F a; intro a F
                    refine t_endM M ?_; (clear M; try clear w); intro w M
                    refine again (i + 1) (by show _ < _; (try dsimp only); omega) ⟨(by omega), (by assumption), (all_take ha i0 he45 (fun h => by exact hc15 h.2))⟩ (F.keep [10, 0, 1, 2, 3, 4, 8] rfl) ?_
                    try dsimp only [List.cons_append, List.nil_append]
                    refine M.pick ?_; repeat (first | exact PkG.nil | refine PkG.cons 0 rfl rfl ?_ | refine PkG.cons 1 rfl rfl ?_ | refine PkG.cons 2 rfl rfl ?_)
                ·
                  clear F; intro hc16 F
                  try rw [hc16] at F
                  replace hc16 := of_decide_eq_false hc16
                  refine s_no F rfl rfl rfl rfl ?_; clear F a; intro a F
                  refine s_no F rfl rfl rfl rfl ?_; clear F a; intro a F
                  refine s_no F rfl rfl rfl rfl ?_; clear F a; intro a F
                  refine s_no F rfl rfl rfl rfl ?_; clear F a; intro a F
                  refine s_no F rfl rfl rfl rfl ?_; clear F a; intro a F
                  refine s_no F rfl rfl rfl rfl ?_; clear F a; intro a F
                  refine s_no F rfl rfl rfl rfl ?_; clear F a; intro a F
                  refine s_no F rfl rfl rfl rfl ?_; clear F a; intro a F
                  refine s_I F rfl rfl rfl rfl rfl rfl ?_; clear F a; intro a F
                  refine t_endM M ?_; (clear M; try clear w); intro w M
                  refine c_f F rfl ?_
                  refine wp_skip ?_
                  replace F := F.keep [0, 1, 2, 3, 4, 8, 10] rfl
                  refine wp_region_l [.ind, .ind, .ind] ([0, 1, 2]) rfl ?_
                  refine s_I F rfl rfl rfl rfl rfl rfl ?_; clear F a; intro a F
                  refine s_add F rfl rfl rfl rfl rfl rfl (by unfold In64; omega) ?_; clear F a; intro a F
                  refine s_I F rfl rfl rfl rfl rfl rfl ?_; clear F a; intro a F
                  refine t_endM M ?_; (clear M; try clear w); intro w M
                  refine again (i + 1) (by show _ < _; (try dsimp only); omega) ⟨(by omega), (by assumption), (all_take ha i0 he45 (fun h => by exact hc16 h.1))⟩ (F.keep [10, 0, 1, 2, 3, 4, 8] rfl) ?_
                  try dsimp only [List.cons_append, List.nil_append]
                  refine M.pick ?_; repeat (first | exact PkG.nil | refine PkG.cons 0 rfl rfl ?_ | refine PkG.cons 1 rfl rfl ?_ | refine PkG.cons 2 rfl rfl ?_)
              ·
                clear F; intro hc17 F
                try rw [hc17] at F
                replace hc17 := of_decide_eq_false hc17
                refine wp_exit ?_
                refine wp_seq ?_
                rw [take_all (by omega)] at ha
                have hok : okA L q = true := by
                  have := heard_no ha
                  clear M F ho; grind [okA, valid, empty]
                replace F := F.keep [0, 1, 2, 3, 4, 8, 10] rfl
                refine wp_region_l [.ind, .rd, .wr, .ind, .ind, .ind, .ind, .wr, .wr, .ind, .wr] ([0, 1, 2, 3, 4, 5, 6, 7, 8, 9, 10]) rfl ?_
                refine s_fa0 F rfl rfl rfl rfl fa_29_1_D4 rfl ?_; clear F a; intro a F
                refine s_ld F rfl rfl rfl rfl sc_27_D4 rfl (by exact cell_of_blk M.h1 (lit rfl)) ?_; clear F a; intro a F
                replace M := M.nilT encA 78 3
                refine s_apM (L) F M rfl rfl rfl rfl tl_27_D4 rfl rfl (by exact SlOk.rd M.h3) (by intro e; rfl) (by simp; omega) (fun _ _ _ _ => pend_nil) ?_; (clear F a M; try clear w); intro A63 c63 w M a F
                refine s_I F rfl rfl rfl rfl rfl rfl ?_; clear F a; intro a F
                refine s_I F rfl rfl rfl rfl rfl rfl ?_; clear F a; intro a F
                refine s_I F rfl rfl rfl rfl rfl rfl ?_; clear F a; intro a F
                refine s_bld F rfl rfl rfl rfl (parts3 F rfl rfl rfl) (bl_78_0_1_2_D4 _ _ _) ?_; clear F a; intro a F
                refine s_bs F M rfl rfl rfl rfl (parts1 F rfl) (bs_27_1_D4 _ _ _) ?_; (clear F a M; try clear w); intro b68 w M a F
                refine s_apE (q) F M.f1 rfl rfl rfl rfl tl_27_D4 rfl rfl (by exact rd_blk M.h0 rfl) rfl (by simp; omega) (fun _ _ _ _ => pend_nil) ?_; (clear F a M; try clear w); intro A69 c69 w M a F
                refine s_fa0 F rfl rfl rfl rfl fa_29_1_D4 rfl ?_; clear F a; intro a F
                refine s_st F M.f3 rfl rfl rfl sz_27_D4 rfl rfl rfl (by exact Nat.le_of_ble_eq_true rfl) ?_; (clear M; try clear w); intro w M
                refine t_endM M ?_; (clear M; try clear w); intro w M
                refine wp_seq ?_
                replace F := F.keep [0, 1, 2, 3, 4, 8, 10] rfl
                refine wp_region_l [.rd, .wr, .ind] ([0, 1, 2]) rfl ?_
                refine s_lda F rfl rfl rfl rfl ag_29_D4 rfl rfl (cells_whole M.h0) ?_; clear F a; intro a F
                refine s_stW F M.f3 rfl rfl rfl sz_29_D4 rfl rfl rfl rfl rfl ?_; (clear M; try clear w); intro w M
                refine s_I F rfl rfl rfl rfl rfl rfl ?_; clear F a; intro a F
                refine t_endM M ?_; (clear M; try clear w); intro w M
                refine wp_ret ?_
                refine rt2 F rfl (by exact rv_a F rfl ag_29_D4 rfl (cells_whole M.h0)) (rv_t F rfl) ?_
                -- end 7
                refine ⟨_, .slice A69 (([] ++ L) ++ [q]).length c69, rfl, (by rw [hok]; try rfl), ?_⟩
                rw [put_yes hok]
                have M1 : Sep _ _ _ (slR (.slice A69 _ _) _ _ _ _ :: _) := M.f2; replace M := M1; clear M1
                exact Sep.left (r := _) M
set_option maxRecDepth 100000 in
set_option maxHeartbeats 400000 in
theorem c22 (t : Int) (L : List Ans) (v : Value) (w0 : World) (hr : RdSl w0.heap v L.length 3 (L.flatMap encA)) (W : Wf L) (t0 : 0 ≤ t) : Cl Try.prog 22 #[refV t v] w0 (RetS [] w0 (fun r x => r = x) fun x => [slR x (log (told t L)).length 9 1 ((log (told t L)).flatMap encT)]) := by
  have M : Sep (fun b_ => b_ ∈ foots ([] : List Res)) w0 w0 _ := Sep.nil _ w0
  have hro := (ro_of hr).nil
  obtain ⟨A, cc, rfl, hcc⟩ := hr.form
  refine enter (vs := [_]) Try.func22 rfl rfl rfl ?_
  intro a F
  refine wp_seq ?_
  refine wp_region_l [.wr, .ind] ([0, 1]) rfl ?_
  refine s_bxA F M rfl rfl rfl rfl rfl ?_; (clear F a M; try clear w); intro b1 w M a F
  refine s_I F rfl rfl rfl rfl rfl rfl ?_; clear F a; intro a F
  refine t_endM M ?_; (clear M; try clear w); intro w M
  refine wp_seq ?_
  refine wp_region_l [.ind] ([0]) rfl ?_
  refine s_I F rfl rfl rfl rfl rfl rfl ?_; clear F a; intro a F
  refine t_endM M ?_; (clear M; try clear w); intro w M
  refine wp_block ?_
  replace M := M.nilT encT 9 1
  have M1 : Sep _ _ _ (slR _ _ 9 _ _ :: _) := M; replace M := M1; clear M1
  refine loopX (X := List ByteArray × Option Addr × Nat × Nat) F [0, 1] rfl (fun ((out, A, c, f) : List ByteArray × Option Addr × Nat × Nat) => (out.length + f = 65) ∧ (out ++ logF (told t L) f out.length = log (told t L))) (fun ((out, A, c, f) : List ByteArray × Option Addr × Nat × Nat) => [(3, .slice A out.length c)]) (fun ((out, A, c, f) : List ByteArray × Option Addr × Nat × Nat) => [slR (.slice A (out).length c) (out).length 9 1 ((out).flatMap encT)]) (fun ((out, A, c, f) : List ByteArray × Option Addr × Nat × Nat) => f) (([]), (none), (0), (65)) M ⟨rfl, rfl⟩ (F.keep [3, 0, 1] rfl) ?_
  clear F M; clear a; (try clear w)
  rintro ⟨out, A, c, f⟩ a w ⟨hf, ho_⟩ F M; try dsimp only at F M
  try simp only [List.cons_append, List.nil_append] at F M
  try dsimp only at hf ho_
  have hlt : out.length ≤ 64 := by
    have h1 := log_len (t := t) W
    rw [← ho_, List.length_append] at h1
    omega
  refine wp_block ?_
  refine wp_seq ?_
  refine wp_region_l [.rd, .ind, .ind, .wr, .ind, .ind, .ind, .ind, .ind] ([0, 1, 2, 3, 4, 5, 6, 7, 8]) rfl ?_
  refine s_lda F rfl rfl rfl rfl ag_29_D4 rfl rfl (cells_whole M.h1) ?_; clear F a; intro a F
  refine s_I F rfl rfl rfl rfl rfl rfl ?_; clear F a; intro a F
  refine s_len F rfl rfl rfl rfl sl_40_D4 rfl ?_; clear F a; intro a F
  refine s_cq F M rfl rfl rfl rfl rfl (rfl : _ = some [_, _]) cb_19_D4 (fun nd_ => c19 t L _ _ _ (M.chg.ro hro) W.len t0) ?_; (clear F a M; try clear w); rintro v w rfl M a F
  refine s_I F rfl rfl rfl rfl rfl rfl ?_; clear F a; intro a F
  refine s_I F rfl rfl rfl rfl rfl rfl ?_; clear F a; intro a F
  refine s_I F rfl rfl rfl rfl rfl rfl ?_; clear F a; intro a F
  refine s_I F rfl rfl rfl rfl rfl rfl ?_; clear F a; intro a F
  refine s_I F rfl rfl rfl rfl rfl rfl ?_; clear F a; intro a F
  refine t_endM M ?_; (clear M; try clear w); intro w M
  refine wp_seq ?_
  refine wp_seq ?_
  replace F := F.keep [0, 1, 3, 4, 5] rfl
  refine wp_region_l [.ind, .ind] ([0, 1]) rfl ?_
  refine s_I F rfl rfl rfl rfl rfl rfl ?_; clear F a; intro a F
  refine s_I F rfl rfl rfl rfl rfl rfl ?_; clear F a; intro a F
  refine t_endM M ?_; (clear M; try clear w); intro w M
  refine c_if F rfl ?_ ?_
  ·
    clear F; intro hc0 F
    try rw [hc0] at F
    replace hc0 := nt hc0
    refine wp_seq ?_
    replace F := F.keep [0, 1, 3, 4, 5] rfl
    refine wp_region_l [.ind, .ind] ([0, 1]) rfl ?_
    refine s_I F rfl rfl rfl rfl rfl rfl ?_; clear F a; intro a F
    refine s_I F rfl rfl rfl rfl rfl rfl ?_; clear F a; intro a F
    refine t_endM M ?_; (clear M; try clear w); intro w M
    refine wp_ret ?_
    refine ret1 F rfl rfl ?_
    -- end 0
    refine ⟨_, _, rfl, rfl, ?_⟩
    rw [← log_stop ho_ (told_none (by assumption))]
    have M1 : Sep _ _ _ (slR _ _ _ _ _ :: _) := M; replace M := M1; clear M1
    exact Sep.left (r := _) M
  ·
    clear F; intro hc1 F
    try rw [hc1] at F
    replace hc1 := nf hc1
    refine wp_skip ?_
    replace F := F.keep [0, 1, 3, 4, 5] rfl
    refine wp_region_l [.ind, .ind, .wr, .wr, .ind] ([0, 1, 2, 3, 4]) rfl ?_
    refine s_I F rfl rfl rfl rfl rfl rfl ?_; clear F a; intro a F
    refine s_I F rfl rfl rfl rfl rfl rfl ?_; clear F a; intro a F
    refine s_bs F M rfl rfl rfl rfl (parts1 F rfl) (bs_40_1_D4 _) ?_; (clear F a M; try clear w); intro b18 w M a F
    refine s_apE (((told t L out.length).getD empty)) F M.f1 rfl rfl rfl rfl tl_40_D4 rfl rfl (by exact rd_blk M.h0 rfl) rfl (by omega) (fun _ _ _ _ => pend_nil) ?_; (clear F a M; try clear w); intro A19 c19 w M a F
    refine s_I F rfl rfl rfl rfl rfl rfl ?_; clear F a; intro a F
    refine t_endM M ?_; (clear M; try clear w); intro w M
    refine again ((out ++ [(told t L out.length).getD empty]), (_), (_), (f - 1)) (by show _ < _; (try dsimp only); omega) ⟨(by simp; omega), (log_take ho_ (by omega) (told_some (by assumption)))⟩ (F.keep [3, 0, 1] rfl) ?_
    try dsimp only [List.cons_append, List.nil_append]
    refine M.pick ?_; repeat (first | exact PkG.nil | refine PkG.cons 0 rfl rfl ?_ | refine PkG.cons 2 rfl rfl ?_)
set_option maxRecDepth 100000 in
set_option maxHeartbeats 400000 in
theorem c24 (b : Nat) (mp : Nat → Option Nat) (t : Int) (L : List Ans) (most : Int) (w0 : World) (ho : Own w0.heap [flwR b mp t L]) : Cl Try.prog 24 #[.pointer (some ⟨b, 0, none⟩), .int .i64 most] w0 (RetS [flwR b mp t L] w0 (fun v x => v = x) fun x => [flwR b mp t L, slR x (FlwM.ask (told t L) most).length 3 1 ((FlwM.ask (told t L) most).flatMap encI)]) := by
  have M : Sep (fun b_ => b_ ∈ foots [flwR b mp t L]) w0 w0 _ := Sep.start ho
  obtain ⟨⟨W, _⟩, _⟩ := flw_cell M.h0
  refine enter (vs := [_, _]) Try.func24 rfl rfl rfl ?_
  intro a F
  refine wp_seq ?_
  refine wp_region_l [.ind] ([0]) rfl ?_
  refine s_I F rfl rfl rfl rfl rfl rfl ?_; clear F a; intro a F
  refine t_endM M ?_; (clear M; try clear w); intro w M
  refine wp_seq ?_
  refine wp_region_l [.ind] ([0]) rfl ?_
  refine s_I F rfl rfl rfl rfl rfl rfl ?_; clear F a; intro a F
  refine t_endM M ?_; (clear M; try clear w); intro w M
  refine wp_seq ?_
  refine wp_seq ?_
  refine wp_region_l [.ind, .wr, .ind, .ind] ([0, 1, 2, 3]) rfl ?_
  refine s_I F rfl rfl rfl rfl rfl rfl ?_; clear F a; intro a F
  have M1 : Sep _ _ _ (flwR _ _ _ _ :: _) := M; replace M := M1; clear M1
  refine s_call (m := [_]) F M rfl rfl rfl rfl rfl (rfl : _ = some [_]) cb_21_D4 (fun nd_ => c21 b mp t L _ (M.drewN nd_).own.one) ?_; (clear F a M; try clear w); rintro v x w rfl M a F; (try simp only [List.cons_append, List.nil_append] at M)
  obtain ⟨Al, cl, rfl⟩ := SlOk.form M.h1
  refine s_len F rfl rfl rfl rfl sl_40_D4 rfl ?_; clear F a; intro a F
  refine s_I F rfl rfl rfl rfl rfl rfl ?_; clear F a; intro a F
  refine t_endM M ?_; (clear M; try clear w); intro w M
  refine wp_block ?_
  replace M := M.nilT encI 3 1
  have M1 : Sep _ _ _ (slR (.slice none 0 0) _ _ _ _ :: _) := M; replace M := M1; clear M1
  refine loopX (X := Int × List Int × Option Addr × Nat) F [0, 1, 4] rfl (fun ((h, out, A, c) : Int × List Int × Option Addr × Nat) => (0 ≤ h) ∧ (h ≤ 64) ∧ ((out.length : Int) ≤ h) ∧ (askF (told t L) most (64 - h).toNat h out = FlwM.ask (told t L) most)) (fun ((h, out, A, c) : Int × List Int × Option Addr × Nat) => [(5, .slice A out.length c), (6, .int .i64 h)]) (fun ((h, out, A, c) : Int × List Int × Option Addr × Nat) => [slR (.slice A out.length c) out.length 3 1 (out.flatMap encI)]) (fun ((h, out, A, c) : Int × List Int × Option Addr × Nat) => (64 - h).toNat) (((log (told t L)).length), ([]), (none), (0)) M ⟨(by omega), (by have := log_len (t := t) W; omega), (by simp), (by unfold FlwM.ask; rw [show (64 - ((log (told t L)).length : Int)).toNat = 64 - (log (told t L)).length by omega])⟩ (F.keep [5, 6, 0, 1, 4] rfl) ?_
  clear F M; clear a; (try clear w)
  rintro ⟨h, out, A, c⟩ a w ⟨h0, h1, hl_, ho_⟩ F M; try dsimp only at F M
  try simp only [List.cons_append, List.nil_append] at F M
  try dsimp only at h0 h1 hl_ ho_
  refine wp_seq ?_
  refine wp_seq ?_
  refine wp_region_l [.ind, .ind, .wr, .ind, .ind, .ind, .ind, .ind, .ind] ([0, 1, 2, 3, 4, 5, 6, 7, 8]) rfl ?_
  refine s_I F rfl rfl rfl rfl rfl rfl ?_; clear F a; intro a F
  refine s_I F rfl rfl rfl rfl rfl rfl ?_; clear F a; intro a F
  refine s_cq F M rfl rfl rfl rfl rfl (rfl : _ = some [_, _]) cb_38_D4 (fun nd_ => c38 b _ _) ?_; (clear F a M; try clear w); rintro v w rfl M a F
  refine s_I F rfl rfl rfl rfl rfl rfl ?_; clear F a; intro a F
  refine bsplit F 15 rfl ?_ ?_
  ·
    clear F; intro hc0 F
    try rw [hc0] at F
    replace hc0 := of_decide_eq_true hc0
    refine s_I F rfl rfl rfl rfl rfl rfl ?_; clear F a; intro a F
    refine s_len F rfl rfl rfl rfl sl_44_D4 rfl ?_; clear F a; intro a F
    refine s_I F rfl rfl rfl rfl rfl rfl ?_; clear F a; intro a F
    refine s_bin F rfl rfl rfl rfl rfl rfl rfl ?_; clear F a; intro a F
    refine s_I F rfl rfl rfl rfl rfl rfl ?_; clear F a; intro a F
    refine t_endM M ?_; (clear M; try clear w); intro w M
    refine c_if F rfl ?_ ?_
    ·
      clear F; intro hc1 F
      try rw [hc1] at F
      replace hc1 := of_decide_eq_true hc1
      refine wp_skip ?_
      refine wp_seq ?_
      refine wp_block ?_
      refine wp_seq ?_
      replace F := F.keep [0, 1, 4, 5, 6] rfl
      refine wp_region_l [.ind, .ind, .wr, .ind, .ind, .ind, .ind, .ind] ([0, 1, 2, 3, 4, 5, 6, 7]) rfl ?_
      refine s_I F rfl rfl rfl rfl rfl rfl ?_; clear F a; intro a F
      refine s_I F rfl rfl rfl rfl rfl rfl ?_; clear F a; intro a F
      refine s_cq F M rfl rfl rfl rfl rfl (rfl : _ = some [_, _]) cb_18_D4 (fun nd_ => c18 b mp t L _ _ (by exact M.h1)) ?_; (clear F a M; try clear w); rintro v w rfl M a F
      refine s_I F rfl rfl rfl rfl rfl rfl ?_; clear F a; intro a F
      refine s_I F rfl rfl rfl rfl rfl rfl ?_; clear F a; intro a F
      refine s_I F rfl rfl rfl rfl rfl rfl ?_; clear F a; intro a F
      refine s_I F rfl rfl rfl rfl rfl rfl ?_; clear F a; intro a F
      refine s_I F rfl rfl rfl rfl rfl rfl ?_; clear F a; intro a F
      refine t_endM M ?_; (clear M; try clear w); intro w M
      refine wp_seq ?_
      replace F := F.keep [0, 1, 4, 5, 6, 8] rfl
      refine wp_region_l [.ind, .ind] ([0, 1]) rfl ?_
      refine s_I F rfl rfl rfl rfl rfl rfl ?_; clear F a; intro a F
      refine s_I F rfl rfl rfl rfl rfl rfl ?_; clear F a; intro a F
      refine t_endM M ?_; (clear M; try clear w); intro w M
      refine c_if F rfl ?_ ?_
      ·
        clear F; intro hc2 F
        try rw [hc2] at F
        replace hc2 := nt hc2
        replace F := F.keep [0, 1, 4, 5, 6, 8] rfl
        refine wp_region_l [.ind, .ind, .wr, .wr, .ind] ([0, 1, 2, 3, 4]) rfl ?_
        refine s_I F rfl rfl rfl rfl rfl rfl ?_; clear F a; intro a F
        refine s_I F rfl rfl rfl rfl rfl rfl ?_; clear F a; intro a F
        refine s_bs F M rfl rfl rfl rfl (parts1 F rfl) (bs_44_1_D4 _) ?_; (clear F a M; try clear w); intro b33 w M a F
        refine s_apE (h) F M.f1 rfl rfl rfl rfl tl_44_D4 rfl rfl (by exact rd_blk M.h0 rfl) rfl (by omega) (fun _ _ _ _ => pend_nil) ?_; (clear F a M; try clear w); intro A34 c34 w M a F
        refine s_I F rfl rfl rfl rfl rfl rfl ?_; clear F a; intro a F
        refine t_endM M ?_; (clear M; try clear w); intro w M
        replace F := F.keep [0, 1, 4, 5, 6, 8] rfl
        refine wp_region_l [.ind, .ind, .ind] ([0, 1, 2]) rfl ?_
        refine s_I F rfl rfl rfl rfl rfl rfl ?_; clear F a; intro a F
        refine s_add F rfl rfl rfl rfl rfl rfl (by unfold In64; omega) ?_; clear F a; intro a F
        refine s_I F rfl rfl rfl rfl rfl rfl ?_; clear F a; intro a F
        refine t_endM M ?_; (clear M; try clear w); intro w M
        refine again ((h + 1), (out ++ [h]), (_), (_)) (by show _ < _; (try dsimp only); omega) ⟨(by omega), (by omega), (by simp; omega), (by rw [ask_step (by omega) (by omega)] at ho_; rw [told_none (by assumption)] at ho_; exact ho_)⟩ (F.keep [5, 6, 0, 1, 4] rfl) ?_
        try dsimp only [List.cons_append, List.nil_append]
        refine M.pick ?_; repeat (first | exact PkG.nil | refine PkG.cons 0 rfl rfl ?_ | refine PkG.cons 2 rfl rfl ?_ | refine PkG.cons 3 rfl rfl ?_)
      ·
        clear F; intro hc3 F
        try rw [hc3] at F
        replace hc3 := nf hc3
        refine wp_skip ?_
        replace F := F.keep [0, 1, 4, 5, 6, 8] rfl
        refine wp_region_l [.ind, .ind, .ind] ([0, 1, 2]) rfl ?_
        refine s_I F rfl rfl rfl rfl rfl rfl ?_; clear F a; intro a F
        refine s_add F rfl rfl rfl rfl rfl rfl (by unfold In64; omega) ?_; clear F a; intro a F
        refine s_I F rfl rfl rfl rfl rfl rfl ?_; clear F a; intro a F
        refine t_endM M ?_; (clear M; try clear w); intro w M
        refine again ((h + 1), (out), (_), (_)) (by show _ < _; (try dsimp only); omega) ⟨(by omega), (by omega), (by omega), (by rw [ask_step (by omega) (by omega)] at ho_; rw [told_some (by assumption)] at ho_; exact ho_)⟩ (F.keep [5, 6, 0, 1, 4] rfl) ?_
        try dsimp only [List.cons_append, List.nil_append]
        refine M.pick ?_; repeat (first | exact PkG.nil | refine PkG.cons 0 rfl rfl ?_ | refine PkG.cons 1 rfl rfl ?_ | refine PkG.cons 2 rfl rfl ?_)
    ·
      clear F; intro hc4 F
      try rw [hc4] at F
      replace hc4 := of_decide_eq_false hc4
      refine wp_exit ?_
      refine wp_seq ?_
      replace F := F.keep [0, 1, 4, 5, 6] rfl
      refine wp_region_l [.ind, .ind] ([0, 1]) rfl ?_
      refine s_I F rfl rfl rfl rfl rfl rfl ?_; clear F a; intro a F
      refine s_I F rfl rfl rfl rfl rfl rfl ?_; clear F a; intro a F
      refine t_endM M ?_; (clear M; try clear w); intro w M
      refine wp_ret ?_
      refine ret1 F rfl rfl ?_
      -- end 0
      have hout : out = FlwM.ask (told t L) most := by rw [← ho_]; rw [askF_stop (by omega)]
      refine ⟨_, _, rfl, rfl, ?_⟩
      rw [← hout]
      have M1 : Sep _ _ _ (slR (.slice A (List.length out) c) _ _ _ _ :: _) := M; replace M := M1; clear M1
      have M1 : Sep _ _ _ (flwR _ _ _ _ :: _) := M.f1; replace M := M1; clear M1
      exact Sep.left (r := _) M
  ·
    clear F; intro hc5 F
    try rw [hc5] at F
    replace hc5 := of_decide_eq_false hc5
    refine s_no F rfl rfl rfl rfl ?_; clear F a; intro a F
    refine s_no F rfl rfl rfl rfl ?_; clear F a; intro a F
    refine s_no F rfl rfl rfl rfl ?_; clear F a; intro a F
    refine s_no F rfl rfl rfl rfl ?_; clear F a; intro a F
    refine s_I F rfl rfl rfl rfl rfl rfl ?_; clear F a; intro a F
    refine t_endM M ?_; (clear M; try clear w); intro w M
    refine c_f F rfl ?_
    refine wp_exit ?_
    refine wp_seq ?_
    replace F := F.keep [0, 1, 4, 5, 6] rfl
    refine wp_region_l [.ind, .ind] ([0, 1]) rfl ?_
    refine s_I F rfl rfl rfl rfl rfl rfl ?_; clear F a; intro a F
    refine s_I F rfl rfl rfl rfl rfl rfl ?_; clear F a; intro a F
    refine t_endM M ?_; (clear M; try clear w); intro w M
    refine wp_ret ?_
    refine ret1 F rfl rfl ?_
    -- end 1
    have hout : out = FlwM.ask (told t L) most := by rw [← ho_]; rw [show (64 - h).toNat = 0 by omega]; rfl
    refine ⟨_, _, rfl, rfl, ?_⟩
    rw [← hout]
    have M1 : Sep _ _ _ (slR (.slice A (List.length out) c) _ _ _ _ :: _) := M; replace M := M1; clear M1
    have M1 : Sep _ _ _ (flwR _ _ _ _ :: _) := M.f1; replace M := M1; clear M1
    exact Sep.left (r := _) M
set_option maxRecDepth 100000 in
set_option maxHeartbeats 400000 in
theorem c24n (most : Int) (w0 : World) : Cl Try.prog 24 #[.pointer none, .int .i64 most] w0 (RetQ w0 fun v => v = .slice none 0 0) := by
  have M : Sep (fun _ => False) w0 w0 _ := Sep.nil _ w0
  refine enter (vs := [_, _]) Try.func24 rfl rfl rfl ?_
  intro a F
  refine wp_seq ?_
  refine wp_region_l [.ind] ([0]) rfl ?_
  refine s_I F rfl rfl rfl rfl rfl rfl ?_; clear F a; intro a F
  refine t_endM M ?_; (clear M; try clear w); intro w M
  refine wp_seq ?_
  refine wp_region_l [.ind] ([0]) rfl ?_
  refine s_I F rfl rfl rfl rfl rfl rfl ?_; clear F a; intro a F
  refine t_endM M ?_; (clear M; try clear w); intro w M
  refine wp_seq ?_
  refine wp_seq ?_
  refine wp_region_l [.ind, .wr, .ind, .ind] ([0, 1, 2, 3]) rfl ?_
  refine s_I F rfl rfl rfl rfl rfl rfl ?_; clear F a; intro a F
  refine s_cq F M rfl rfl rfl rfl rfl (rfl : _ = some [_]) cb_21_D4 (fun nd_ => c21n _) ?_; (clear F a M; try clear w); rintro v w rfl M a F
  refine s_len F rfl rfl rfl rfl sl_40_D4 rfl ?_; clear F a; intro a F
  refine s_I F rfl rfl rfl rfl rfl rfl ?_; clear F a; intro a F
  refine t_endM M ?_; (clear M; try clear w); intro w M
  refine wp_block ?_
  refine loopX (X := Unit) F [0, 1, 4] rfl (fun (_ : Unit) => True) (fun (_ : Unit) => [(5, .slice none 0 0), (6, .int .i64 0)]) (fun (_ : Unit) => []) (fun (_ : Unit) => 0) () M trivial (F.keep [5, 6, 0, 1, 4] rfl) ?_
  clear F M; clear a; (try clear w)
  rintro _ a w _ F M; try dsimp only at F M
  try simp only [List.cons_append, List.nil_append] at F M
  refine wp_seq ?_
  refine wp_seq ?_
  refine wp_region_l [.ind, .ind, .wr, .ind, .ind, .ind, .ind, .ind, .ind] ([0, 1, 2, 3, 4, 5, 6, 7, 8]) rfl ?_
  refine s_I F rfl rfl rfl rfl rfl rfl ?_; clear F a; intro a F
  refine s_I F rfl rfl rfl rfl rfl rfl ?_; clear F a; intro a F
  refine s_cq F M rfl rfl rfl rfl rfl (rfl : _ = some [_, _]) cb_38_D4 (fun nd_ => c38n _ _) ?_; (clear F a M; try clear w); rintro v w rfl M a F
  refine s_I F rfl rfl rfl rfl rfl rfl ?_; clear F a; intro a F
  replace F : Fr _ _ ((15, Value.bool false) :: _) := F
  refine s_no F rfl rfl rfl rfl ?_; clear F a; intro a F
  refine s_no F rfl rfl rfl rfl ?_; clear F a; intro a F
  refine s_no F rfl rfl rfl rfl ?_; clear F a; intro a F
  refine s_no F rfl rfl rfl rfl ?_; clear F a; intro a F
  refine s_I F rfl rfl rfl rfl rfl rfl ?_; clear F a; intro a F
  refine t_endM M ?_; (clear M; try clear w); intro w M
  refine c_f F rfl ?_
  refine wp_exit ?_
  refine wp_seq ?_
  replace F := F.keep [0, 1, 4, 5, 6] rfl
  refine wp_region_l [.ind, .ind] ([0, 1]) rfl ?_
  refine s_I F rfl rfl rfl rfl rfl rfl ?_; clear F a; intro a F
  refine s_I F rfl rfl rfl rfl rfl rfl ?_; clear F a; intro a F
  refine t_endM M ?_; (clear M; try clear w); intro w M
  refine wp_ret ?_
  refine ret1 F rfl rfl ?_
  -- end 0
  exact ⟨_, rfl, rfl, M.chg⟩
set_option maxRecDepth 100000 in
set_option maxHeartbeats 400000 in
theorem c25 (t : Int) (L : List Ans) (v : Value) (most : Int) (w0 : World) (hr : RdSl w0.heap v L.length 3 (L.flatMap encA)) (W : Wf L) (t0 : 0 ≤ t) : Cl Try.prog 25 #[refV t v, .int .i64 most] w0 (RetS [] w0 (fun r x => r = x) fun x => [slR x (FlwM.ask (told t L) most).length 3 1 ((FlwM.ask (told t L) most).flatMap encI)]) := by
  have M : Sep (fun b_ => b_ ∈ foots ([] : List Res)) w0 w0 _ := Sep.nil _ w0
  have hro := (ro_of hr).nil
  obtain ⟨A, cc, rfl, hcc⟩ := hr.form
  refine enter (vs := [_, _]) Try.func25 rfl rfl rfl ?_
  intro a F
  refine wp_seq ?_
  refine wp_region_l [.wr, .ind] ([0, 1]) rfl ?_
  refine s_bxA F M rfl rfl rfl rfl rfl ?_; (clear F a M; try clear w); intro b2 w M a F
  refine s_I F rfl rfl rfl rfl rfl rfl ?_; clear F a; intro a F
  refine t_endM M ?_; (clear M; try clear w); intro w M
  refine wp_seq ?_
  refine wp_region_l [.ind] ([0]) rfl ?_
  refine s_I F rfl rfl rfl rfl rfl rfl ?_; clear F a; intro a F
  refine t_endM M ?_; (clear M; try clear w); intro w M
  refine wp_seq ?_
  refine wp_seq ?_
  refine wp_region_l [.rd, .wr, .ind, .ind] ([0, 1, 2, 3]) rfl ?_
  refine s_lda F rfl rfl rfl rfl ag_29_D4 rfl rfl (cells_whole M.h0) ?_; clear F a; intro a F
  refine s_call (m := []) F M rfl rfl rfl rfl rfl (rfl : _ = some [_]) cb_22_D4 (fun nd_ => c22 t L _ _ (M.chg.ro hro) W t0) ?_; (clear F a M; try clear w); rintro v x w rfl M a F; (try simp only [List.cons_append, List.nil_append] at M)
  obtain ⟨Al, cl, rfl⟩ := SlOk.form M.h0
  refine s_len F rfl rfl rfl rfl sl_40_D4 rfl ?_; clear F a; intro a F
  refine s_I F rfl rfl rfl rfl rfl rfl ?_; clear F a; intro a F
  refine t_endM M ?_; (clear M; try clear w); intro w M
  refine wp_block ?_
  replace M := M.nilT encI 3 1
  have M1 : Sep _ _ _ (slR (.slice none 0 0) _ _ _ _ :: _) := M; replace M := M1; clear M1
  refine loopX (X := Int × List Int × Option Addr × Nat) F [0, 1, 2, 4] rfl (fun ((h, out, A, c) : Int × List Int × Option Addr × Nat) => (0 ≤ h) ∧ (h ≤ 64) ∧ ((out.length : Int) ≤ h) ∧ (askF (told t L) most (64 - h).toNat h out = FlwM.ask (told t L) most)) (fun ((h, out, A, c) : Int × List Int × Option Addr × Nat) => [(5, .slice A out.length c), (6, .int .i64 h)]) (fun ((h, out, A, c) : Int × List Int × Option Addr × Nat) => [slR (.slice A out.length c) out.length 3 1 (out.flatMap encI)]) (fun ((h, out, A, c) : Int × List Int × Option Addr × Nat) => (64 - h).toNat) (((log (told t L)).length), ([]), (none), (0)) M ⟨(by omega), (by have := log_len (t := t) W; omega), (by simp), (by unfold FlwM.ask; rw [show (64 - ((log (told t L)).length : Int)).toNat = 64 - (log (told t L)).length by omega])⟩ (F.keep [5, 6, 0, 1, 2, 4] rfl) ?_
  clear F M; clear a; (try clear w)
  rintro ⟨h, out, A, c⟩ a w ⟨h0, h1, hl_, ho_⟩ F M; try dsimp only at F M
  try simp only [List.cons_append, List.nil_append] at F M
  try dsimp only at h0 h1 hl_ ho_
  refine wp_seq ?_
  refine wp_seq ?_
  refine wp_region_l [.ind, .ind, .ind, .ind, .ind, .ind, .ind, .ind] ([0, 1, 2, 3, 4, 5, 6, 7]) rfl ?_
  refine s_I F rfl rfl rfl rfl rfl rfl ?_; clear F a; intro a F
  refine s_bin F rfl rfl rfl rfl rfl rfl rfl ?_; clear F a; intro a F
  refine s_I F rfl rfl rfl rfl rfl rfl ?_; clear F a; intro a F
  refine bsplit F 14 rfl ?_ ?_
  ·
    clear F; intro hc0 F
    try rw [hc0] at F
    replace hc0 := of_decide_eq_true hc0
    refine s_I F rfl rfl rfl rfl rfl rfl ?_; clear F a; intro a F
    refine s_len F rfl rfl rfl rfl sl_44_D4 rfl ?_; clear F a; intro a F
    refine s_I F rfl rfl rfl rfl rfl rfl ?_; clear F a; intro a F
    refine s_bin F rfl rfl rfl rfl rfl rfl rfl ?_; clear F a; intro a F
    refine s_I F rfl rfl rfl rfl rfl rfl ?_; clear F a; intro a F
    refine t_endM M ?_; (clear M; try clear w); intro w M
    refine c_if F rfl ?_ ?_
    ·
      clear F; intro hc1 F
      try rw [hc1] at F
      replace hc1 := of_decide_eq_true hc1
      refine wp_skip ?_
      refine wp_seq ?_
      refine wp_block ?_
      refine wp_seq ?_
      replace F := F.keep [0, 1, 2, 4, 5, 6] rfl
      refine wp_region_l [.rd, .ind, .wr, .ind, .ind, .ind, .ind, .ind] ([0, 1, 2, 3, 4, 5, 6, 7]) rfl ?_
      refine s_lda F rfl rfl rfl rfl ag_29_D4 rfl rfl (cells_whole M.h2) ?_; clear F a; intro a F
      refine s_I F rfl rfl rfl rfl rfl rfl ?_; clear F a; intro a F
      refine s_cq F M rfl rfl rfl rfl rfl (rfl : _ = some [_, _]) cb_19_D4 (fun nd_ => c19 t L _ _ _ (M.chg.ro hro) W.len t0) ?_; (clear F a M; try clear w); rintro v w rfl M a F
      refine s_I F rfl rfl rfl rfl rfl rfl ?_; clear F a; intro a F
      refine s_I F rfl rfl rfl rfl rfl rfl ?_; clear F a; intro a F
      refine s_I F rfl rfl rfl rfl rfl rfl ?_; clear F a; intro a F
      refine s_I F rfl rfl rfl rfl rfl rfl ?_; clear F a; intro a F
      refine s_I F rfl rfl rfl rfl rfl rfl ?_; clear F a; intro a F
      refine t_endM M ?_; (clear M; try clear w); intro w M
      refine wp_seq ?_
      replace F := F.keep [0, 1, 2, 4, 5, 6, 8] rfl
      refine wp_region_l [.ind, .ind] ([0, 1]) rfl ?_
      refine s_I F rfl rfl rfl rfl rfl rfl ?_; clear F a; intro a F
      refine s_I F rfl rfl rfl rfl rfl rfl ?_; clear F a; intro a F
      refine t_endM M ?_; (clear M; try clear w); intro w M
      refine c_if F rfl ?_ ?_
      ·
        clear F; intro hc2 F
        try rw [hc2] at F
        replace hc2 := nt hc2
        replace F := F.keep [0, 1, 2, 4, 5, 6, 8] rfl
        refine wp_region_l [.ind, .ind, .wr, .wr, .ind] ([0, 1, 2, 3, 4]) rfl ?_
        refine s_I F rfl rfl rfl rfl rfl rfl ?_; clear F a; intro a F
        refine s_I F rfl rfl rfl rfl rfl rfl ?_; clear F a; intro a F
        refine s_bs F M rfl rfl rfl rfl (parts1 F rfl) (bs_44_1_D4 _) ?_; (clear F a M; try clear w); intro b32 w M a F
        refine s_apE (h) F M.f1 rfl rfl rfl rfl tl_44_D4 rfl rfl (by exact rd_blk M.h0 rfl) rfl (by omega) (fun _ _ _ _ => pend_nil) ?_; (clear F a M; try clear w); intro A33 c33 w M a F
        refine s_I F rfl rfl rfl rfl rfl rfl ?_; clear F a; intro a F
        refine t_endM M ?_; (clear M; try clear w); intro w M
        replace F := F.keep [0, 1, 2, 4, 5, 6, 8] rfl
        refine wp_region_l [.ind, .ind, .ind] ([0, 1, 2]) rfl ?_
        refine s_I F rfl rfl rfl rfl rfl rfl ?_; clear F a; intro a F
        refine s_add F rfl rfl rfl rfl rfl rfl (by unfold In64; omega) ?_; clear F a; intro a F
        refine s_I F rfl rfl rfl rfl rfl rfl ?_; clear F a; intro a F
        refine t_endM M ?_; (clear M; try clear w); intro w M
        refine again ((h + 1), (out ++ [h]), (_), (_)) (by show _ < _; (try dsimp only); omega) ⟨(by omega), (by assumption), (by simp; omega), (by rw [ask_step (by omega) (by omega)] at ho_; rw [told_none (by assumption)] at ho_; exact ho_)⟩ (F.keep [5, 6, 0, 1, 2, 4] rfl) ?_
        try dsimp only [List.cons_append, List.nil_append]
        refine M.pick ?_; repeat (first | exact PkG.nil | refine PkG.cons 0 rfl rfl ?_ | refine PkG.cons 2 rfl rfl ?_ | refine PkG.cons 3 rfl rfl ?_)
      ·
        clear F; intro hc3 F
        try rw [hc3] at F
        replace hc3 := nf hc3
        refine wp_skip ?_
        replace F := F.keep [0, 1, 2, 4, 5, 6, 8] rfl
        refine wp_region_l [.ind, .ind, .ind] ([0, 1, 2]) rfl ?_
        refine s_I F rfl rfl rfl rfl rfl rfl ?_; clear F a; intro a F
        refine s_add F rfl rfl rfl rfl rfl rfl (by unfold In64; omega) ?_; clear F a; intro a F
        refine s_I F rfl rfl rfl rfl rfl rfl ?_; clear F a; intro a F
        refine t_endM M ?_; (clear M; try clear w); intro w M
        refine again ((h + 1), (out), (_), (_)) (by show _ < _; (try dsimp only); omega) ⟨(by omega), (by assumption), (by omega), (by rw [ask_step (by omega) (by omega)] at ho_; rw [told_some (by assumption)] at ho_; exact ho_)⟩ (F.keep [5, 6, 0, 1, 2, 4] rfl) ?_
        try dsimp only [List.cons_append, List.nil_append]
        refine M.pick ?_; repeat (first | exact PkG.nil | refine PkG.cons 0 rfl rfl ?_ | refine PkG.cons 1 rfl rfl ?_ | refine PkG.cons 2 rfl rfl ?_)
    ·
      clear F; intro hc4 F
      try rw [hc4] at F
      replace hc4 := of_decide_eq_false hc4
      refine wp_exit ?_
      refine wp_seq ?_
      replace F := F.keep [0, 1, 2, 4, 5, 6] rfl
      refine wp_region_l [.ind, .ind] ([0, 1]) rfl ?_
      refine s_I F rfl rfl rfl rfl rfl rfl ?_; clear F a; intro a F
      refine s_I F rfl rfl rfl rfl rfl rfl ?_; clear F a; intro a F
      refine t_endM M ?_; (clear M; try clear w); intro w M
      refine wp_ret ?_
      refine ret1 F rfl rfl ?_
      -- end 0
      have hout : out = FlwM.ask (told t L) most := by rw [← ho_]; rw [askF_stop (by omega)]
      refine ⟨_, _, rfl, rfl, ?_⟩
      rw [← hout]
      have M1 : Sep _ _ _ (slR (.slice A (List.length out) c) _ _ _ _ :: _) := M; replace M := M1; clear M1
      exact Sep.left (r := _) M
  ·
    clear F; intro hc5 F
    try rw [hc5] at F
    replace hc5 := of_decide_eq_false hc5
    refine s_no F rfl rfl rfl rfl ?_; clear F a; intro a F
    refine s_no F rfl rfl rfl rfl ?_; clear F a; intro a F
    refine s_no F rfl rfl rfl rfl ?_; clear F a; intro a F
    refine s_no F rfl rfl rfl rfl ?_; clear F a; intro a F
    refine s_I F rfl rfl rfl rfl rfl rfl ?_; clear F a; intro a F
    refine t_endM M ?_; (clear M; try clear w); intro w M
    refine c_f F rfl ?_
    refine wp_exit ?_
    refine wp_seq ?_
    replace F := F.keep [0, 1, 2, 4, 5, 6] rfl
    refine wp_region_l [.ind, .ind] ([0, 1]) rfl ?_
    refine s_I F rfl rfl rfl rfl rfl rfl ?_; clear F a; intro a F
    refine s_I F rfl rfl rfl rfl rfl rfl ?_; clear F a; intro a F
    refine t_endM M ?_; (clear M; try clear w); intro w M
    refine wp_ret ?_
    refine ret1 F rfl rfl ?_
    -- end 1
    have hout : out = FlwM.ask (told t L) most := by rw [← ho_]; rw [show (64 - h).toNat = 0 by omega]; rfl
    refine ⟨_, _, rfl, rfl, ?_⟩
    rw [← hout]
    have M1 : Sep _ _ _ (slR (.slice A (List.length out) c) _ _ _ _ :: _) := M; replace M := M1; clear M1
    exact Sep.left (r := _) M
end Go.Proofs.Ytmikcmcgfehgfaa
