/- C6 of the seat. -/
import Derived.Test.YtibomfgeemhogaaC5
namespace Go.Proofs.Ytibomfgeemhogaa
open Go Fw
theorem zr_32_C6 : zeroB Try.prog 32 = some (.agg #[.int .i64 0, .int .i64 0, .int .i64 0, .slice none 0 0, .bool false, .bool false, .string { data := #[] }]) := by kernel_rfl
theorem fa_38_1_C6 : FA Try.prog 38 1 1 := fun _ _ _ => by kernel_rfl
theorem sc_3_C6 : scalB Try.prog 3 = true := by kernel_rfl
theorem fa_32_0_C6 : FA Try.prog 32 0 0 := fun _ _ _ => by kernel_rfl
theorem fa_38_0_C6 : FA Try.prog 38 0 0 := fun _ _ _ => by kernel_rfl
theorem fa_38_2_C6 : FA Try.prog 38 2 2 := fun _ _ _ => by kernel_rfl
theorem sc_9_C6 : scalB Try.prog 9 = true := by kernel_rfl
theorem st_9_C6 : strB Try.prog 9 = true := by kernel_rfl
theorem fa_32_2_C6 : FA Try.prog 32 2 2 := fun _ _ _ => by kernel_rfl
theorem ag_32_C6 : aggB Try.prog 32 = some 7 := by kernel_rfl
theorem sz_32_C6 : sizeB Try.prog 32 = some 7 := by kernel_rfl
theorem fa_32_3_C6 : FA Try.prog 32 3 3 := fun _ _ _ => by kernel_rfl
theorem sc_27_C6 : scalB Try.prog 27 = true := by kernel_rfl
theorem sl_27_C6 : slcB Try.prog 27 = some (38, 3) := by kernel_rfl
theorem ag_38_C6 : aggB Try.prog 38 = some 3 := by kernel_rfl
theorem tl_27_C6 : SlT Try.prog 27 38 3 32 (.agg #[.int .i64 0, .int .i64 0, .string { data := #[] }]) := ⟨by kernel_rfl, by kernel_rfl, by kernel_rfl, by kernel_rfl, by decide⟩
theorem bs_27_1_C6 : ∀ (x0_0 : Int) (x0_1 : Int) (x0_2 : ByteArray), News Try.prog (Instr.buildSlice 27 1 #[(0, .agg #[.int .i64 x0_0, .int .i64 x0_1, .string x0_2])]) (.cells #[.int .i64 x0_0, .int .i64 x0_1, .string x0_2] 38) fun b => .slice (some ⟨b, 0, none⟩) 1 1 := by intros; intro w; kernel_rfl
theorem sz_27_C6 : sizeB Try.prog 27 = some 1 := by kernel_rfl
theorem bl_38_0_2_C6 : ∀ (x0 : Int) (x2 : ByteArray), ∀ w : World, (Instr.build 38 #[(0, .int .i64 x0), (2, .string x2)]).run Try.prog w = .ok (.agg #[.int .i64 x0, .int .i64 0, .string x2]) w := by intros; kernel_rfl
theorem fa_32_4_C6 : FA Try.prog 32 4 4 := fun _ _ _ => by kernel_rfl
theorem sc_4_C6 : scalB Try.prog 4 = true := by kernel_rfl
theorem fa_32_1_C6 : FA Try.prog 32 1 1 := fun _ _ _ => by kernel_rfl
theorem cb_35_C6 : callB Try.prog 35 = true := by kernel_rfl
theorem cb_13_C6 : callB Try.prog 13 = true := by kernel_rfl
theorem sz_4_C6 : sizeB Try.prog 4 = some 1 := by kernel_rfl
theorem fa_32_5_C6 : FA Try.prog 32 5 5 := fun _ _ _ => by kernel_rfl
theorem fa_32_6_C6 : FA Try.prog 32 6 6 := fun _ _ _ => by kernel_rfl
theorem sz_9_C6 : sizeB Try.prog 9 = some 1 := by kernel_rfl
open CastM

def valid (c : CSt) (m : Msg) : Bool := decide (1 ≤ m.frm ∧ m.frm ≤ c.n ∧ 1 ≤ m.kind ∧ m.kind ≤ 3 ∧ m.body.size ≤ 4096) && decide (m.kind ≠ 1 ∨ m.frm = c.frm)
theorem counts_valid (c : CSt) (m : Msg) : c.counts m = (valid c m && !heardL c.L m.kind m.frm) := by
  unfold CSt.counts valid
  cases decide (1 ≤ m.frm ∧ m.frm ≤ c.n ∧ 1 ≤ m.kind ∧ m.kind ≤ 3 ∧ m.body.size ≤ 4096) <;> cases decide (m.kind ≠ 1 ∨ m.frm = c.frm) <;> cases heardL c.L m.kind m.frm <;> rfl
theorem take_no {c : CSt} {m : Msg} (h : c.counts m = false) : c.take m = (c, []) := by unfold CSt.take; rw [if_neg (by rw [h]; simp)]
theorem take_yes {c : CSt} {m : Msg} (h : c.counts m = true) : c.take m = (stp c m, out1 m ++ out2 c m) := by unfold CSt.take; rw [if_pos h]
theorem heard_of {L : List Msg} {e : Msg} {i : Nat} {k f : Int} (he : L[i]? = some e) (h1 : e.kind = k) (h2 : e.frm = f) : heardL L k f = true := List.any_eq_true.2 ⟨e, List.mem_of_getElem? he, by simp [h1, h2]⟩
theorem heard_no {L : List Msg} {k f : Int} (h : ∀ e ∈ L, ¬ (e.kind = k ∧ e.frm = f)) : heardL L k f = false := List.any_eq_false.2 fun e he => by simpa using h e he

set_option maxRecDepth 100000 in
set_option maxHeartbeats 4000000 in
theorem c18 (c : CSt) (s : Value) (m : Msg) (w0 : World) (W : c.Wf) (ho : Own w0.heap [slR s c.L.length 38 3 (c.L.flatMap encM)]) : Cl Try.prog 18 #[refV c s, msgV m] w0 (RetS [slR s c.L.length 38 3 (c.L.flatMap encM)] w0 (fun v (x : Value × Value) => v = .tuple #[refV (c.take m).1 x.1, x.2]) fun x => [slR x.1 (c.take m).1.L.length 38 3 ((c.take m).1.L.flatMap encM), slR x.2 (c.take m).2.length 38 3 ((c.take m).2.flatMap encM)]) := by
  obtain ⟨A, cc, rfl⟩ := (ho.ok _ List.mem_cons_self).form
  have M : Sep (fun b_ => b_ ∈ foots [slR (.slice A c.L.length cc) c.L.length 38 3 (c.L.flatMap encM)]) w0 w0 _ := Sep.start ho
  have ho1 : (out1 m).length ≤ 1 := by unfold out1; split <;> simp
  have ho2 : (out2 c m).length ≤ 1 := by unfold out2; split <;> simp
  have hlen := W.len
  have t0 := W.t0
  have t2 := W.t2
  have hcl := cnt_le (c.L ++ [m])
  have hcl2 := hcl 2 m.body
  have hcl3 := hcl 3 m.body
  rw [List.length_append, List.length_singleton] at hcl2 hcl3
  refine enter (vs := [_, _]) Try.func18 rfl rfl rfl ?_
  intro a F
  refine wp_seq ?_
  refine wp_region_l [.wr, .wr, .wr, .ind] ([0, 1, 2, 3]) rfl ?_
  refine s_bxA F M rfl rfl rfl rfl rfl ?_; (clear F a M; try clear w); intro b2 w M a F
  refine s_bxA F M rfl rfl rfl rfl rfl ?_; (clear F a M; try clear w); intro b3 w M a F
  refine s_alc F M rfl rfl rfl rfl zr_32_C6 rfl ?_; (clear F a M; try clear w); intro b4 w M a F
  refine s_I F rfl rfl rfl rfl rfl rfl ?_; clear F a; intro a F
  refine t_endM M ?_; (clear M; try clear w); intro w M
  refine wp_seq ?_
  refine wp_seq ?_
  refine wp_cut (fun a w => ∃ (q : Bool), (q = !valid c m) ∧ Fr 141 a [(2, .pointer (some ⟨b2, 0, none⟩)), (3, .pointer (some ⟨b3, 0, none⟩)), (4, .pointer (some ⟨b4, 0, none⟩)), (45, .bool q)] ∧ Sep (fun b_ => b_ ∈ foots [slR (.slice A c.L.length cc) c.L.length 38 3 (c.L.flatMap encM)]) w0 w [blk b2 (.cells #[.int .i64 c.n, .int .i64 c.t, .int .i64 c.frm, .slice A c.L.length cc, .bool (c.ready), .bool (c.done), .string (c.body)] 32 (0, 0)), blk b3 (.cells #[.int .i64 m.kind, .int .i64 m.frm, .string m.body] 38 (0, 0)), blk b4 (.cells #[.int .i64 0, .int .i64 0, .int .i64 0, .slice none 0 0, .bool false, .bool false, .string { data := #[] }] 32 (0, 0)), slR (.slice A c.L.length cc) c.L.length 38 3 (c.L.flatMap encM)]) ?_ ?_
  ·
    refine wp_region_l [.ind, .rd, .ind, .ind, .ind, .rd, .ind, .rd, .ind, .ind, .ind, .ind, .rd, .ind, .ind, .ind, .ind, .rd, .ind, .ind, .ind, .ind, .rd, .ind, .ind, .ind, .ind, .ind, .rd, .ind, .ind, .ind, .rd, .ind, .rd, .ind, .ind, .ind] ([0, 1, 2, 3, 4, 5, 6, 7, 8, 9, 10, 11, 12, 13, 14, 15, 16, 17, 18, 19, 20, 21, 22, 23, 24, 25, 26, 27, 28, 29, 30, 31, 32, 33, 34, 35, 36, 37]) rfl ?_
    refine s_fa0 F rfl rfl rfl rfl fa_38_1_C6 rfl ?_; clear F a; intro a F
    refine s_ld F rfl rfl rfl rfl sc_3_C6 rfl (by exact cell_of_blk M.h1 (lit rfl)) ?_; clear F a; intro a F
    refine s_bin F rfl rfl rfl rfl rfl rfl rfl ?_; clear F a; intro a F
    refine s_I F rfl rfl rfl rfl rfl rfl ?_; clear F a; intro a F
    refine bsplit F 11 rfl ?_ ?_
    ·
      clear F; intro hc0 F
      try rw [hc0] at F
      replace hc0 := of_decide_eq_true hc0
      refine s_no F rfl rfl rfl rfl ?_; clear F a; intro a F
      refine s_no F rfl rfl rfl rfl ?_; clear F a; intro a F
      refine s_no F rfl rfl rfl rfl ?_; clear F a; intro a F
      refine s_no F rfl rfl rfl rfl ?_; clear F a; intro a F
      refine s_no F rfl rfl rfl rfl ?_; clear F a; intro a F
      refine s_I F rfl rfl rfl rfl rfl rfl ?_; clear F a; intro a F
      refine s_I F rfl rfl rfl rfl rfl rfl ?_; clear F a; intro a F
      refine s_no F rfl rfl rfl rfl ?_; clear F a; intro a F
      refine s_no F rfl rfl rfl rfl ?_; clear F a; intro a F
      refine s_no F rfl rfl rfl rfl ?_; clear F a; intro a F
      refine s_I F rfl rfl rfl rfl rfl rfl ?_; clear F a; intro a F
      refine s_I F rfl rfl rfl rfl rfl rfl ?_; clear F a; intro a F
      refine s_no F rfl rfl rfl rfl ?_; clear F a; intro a F
      refine s_no F rfl rfl rfl rfl ?_; clear F a; intro a F
      refine s_no F rfl rfl rfl rfl ?_; clear F a; intro a F
      refine s_I F rfl rfl rfl rfl rfl rfl ?_; clear F a; intro a F
      refine s_I F rfl rfl rfl rfl rfl rfl ?_; clear F a; intro a F
      refine s_no F rfl rfl rfl rfl ?_; clear F a; intro a F
      refine s_no F rfl rfl rfl rfl ?_; clear F a; intro a F
      refine s_no F rfl rfl rfl rfl ?_; clear F a; intro a F
      refine s_no F rfl rfl rfl rfl ?_; clear F a; intro a F
      refine s_I F rfl rfl rfl rfl rfl rfl ?_; clear F a; intro a F
      refine s_I F rfl rfl rfl rfl rfl rfl ?_; clear F a; intro a F
      refine s_no F rfl rfl rfl rfl ?_; clear F a; intro a F
      refine s_no F rfl rfl rfl rfl ?_; clear F a; intro a F
      refine s_no F rfl rfl rfl rfl ?_; clear F a; intro a F
      refine s_no F rfl rfl rfl rfl ?_; clear F a; intro a F
      refine s_no F rfl rfl rfl rfl ?_; clear F a; intro a F
      refine s_no F rfl rfl rfl rfl ?_; clear F a; intro a F
      refine s_no F rfl rfl rfl rfl ?_; clear F a; intro a F
      refine s_no F rfl rfl rfl rfl ?_; clear F a; intro a F
      refine s_no F rfl rfl rfl rfl ?_; clear F a; intro a F
      refine s_no F rfl rfl rfl rfl ?_; clear F a; intro a F
      refine s_I F rfl rfl rfl rfl rfl rfl ?_; clear F a; intro a F
      refine t_endM M ?_; (clear M; try clear w); intro w M
      have M1 : Sep _ _ _ (slR (.slice A c.L.length cc) _ _ _ _ :: _) := M.f3; replace M := M1; clear M1
      have M1 : Sep _ _ _ (blk b4 _ :: _) := M.f1; replace M := M1; clear M1
      have M1 : Sep _ _ _ (blk b3 _ :: _) := M.f2; replace M := M1; clear M1
      have M1 : Sep _ _ _ (blk b2 _ :: _) := M.f3; replace M := M1; clear M1
      exact cut_end ⟨_, (by clear M F ho; grind [valid]), F.keep [2, 3, 4, 45] rfl, Sep.left M⟩
    ·
      clear F; intro hc1 F
      try rw [hc1] at F
      replace hc1 := of_decide_eq_false hc1
      refine s_fa0 F rfl rfl rfl rfl fa_38_1_C6 rfl ?_; clear F a; intro a F
      refine s_ld F rfl rfl rfl rfl sc_3_C6 rfl (by exact cell_of_blk M.h1 (lit rfl)) ?_; clear F a; intro a F
      refine s_fa0 F rfl rfl rfl rfl fa_32_0_C6 rfl ?_; clear F a; intro a F
      refine s_ld F rfl rfl rfl rfl sc_3_C6 rfl (by exact cell_of_blk M.h2 (lit rfl)) ?_; clear F a; intro a F
      refine s_bin F rfl rfl rfl rfl rfl rfl rfl ?_; clear F a; intro a F
      refine s_I F rfl rfl rfl rfl rfl rfl ?_; clear F a; intro a F
      refine s_I F rfl rfl rfl rfl rfl rfl ?_; clear F a; intro a F
      refine bsplit F 18 rfl ?_ ?_
      ·
        clear F; intro hc2 F
        try rw [hc2] at F
        replace hc2 := of_decide_eq_true hc2
        refine s_no F rfl rfl rfl rfl ?_; clear F a; intro a F
        refine s_no F rfl rfl rfl rfl ?_; clear F a; intro a F
        refine s_no F rfl rfl rfl rfl ?_; clear F a; intro a F
        refine s_I F rfl rfl rfl rfl rfl rfl ?_; clear F a; intro a F
        refine s_I F rfl rfl rfl rfl rfl rfl ?_; clear F a; intro a F
        refine s_no F rfl rfl rfl rfl ?_; clear F a; intro a F
        refine s_no F rfl rfl rfl rfl ?_; clear F a; intro a F
        refine s_no F rfl rfl rfl rfl ?_; clear F a; intro a F
        refine s_I F rfl rfl rfl rfl rfl rfl ?_; clear F a; intro a F
        refine s_I F rfl rfl rfl rfl rfl rfl ?_; clear F a; intro a F
        refine s_no F rfl rfl rfl rfl ?_; clear F a; intro a F
        refine s_no F rfl rfl rfl rfl ?_; clear F a; intro a F
        refine s_no F rfl rfl rfl rfl ?_; clear F a; intro a F
        refine s_no F rfl rfl rfl rfl ?_; clear F a; intro a F
        refine s_I F rfl rfl rfl rfl rfl rfl ?_; clear F a; intro a F
        refine s_I F rfl rfl rfl rfl rfl rfl ?_; clear F a; intro a F
        refine s_no F rfl rfl rfl rfl ?_; clear F a; intro a F
        refine s_no F rfl rfl rfl rfl ?_; clear F a; intro a F
        refine s_no F rfl rfl rfl rfl ?_; clear F a; intro a F
        refine s_no F rfl rfl rfl rfl ?_; clear F a; intro a F
        refine s_no F rfl rfl rfl rfl ?_; clear F a; intro a F
        refine s_no F rfl rfl rfl rfl ?_; clear F a; intro a F
        refine s_no F rfl rfl rfl rfl ?_; clear F a; intro a F
        refine s_no F rfl rfl rfl rfl ?_; clear F a; intro a F
        refine s_no F rfl rfl rfl rfl ?_; clear F a; intro a F
        refine s_no F rfl rfl rfl rfl ?_; clear F a; intro a F
        refine s_I F rfl rfl rfl rfl rfl rfl ?_; clear F a; intro a F
        refine t_endM M ?_; (clear M; try clear w); intro w M
        have M1 : Sep _ _ _ (slR (.slice A c.L.length cc) _ _ _ _ :: _) := M.f3; replace M := M1; clear M1
        have M1 : Sep _ _ _ (blk b4 _ :: _) := M.f1; replace M := M1; clear M1
        have M1 : Sep _ _ _ (blk b3 _ :: _) := M.f2; replace M := M1; clear M1
        have M1 : Sep _ _ _ (blk b2 _ :: _) := M.f3; replace M := M1; clear M1
        exact cut_end ⟨_, (by clear M F ho; grind [valid]), F.keep [2, 3, 4, 45] rfl, Sep.left M⟩
      ·
        clear F; intro hc3 F
        try rw [hc3] at F
        replace hc3 := of_decide_eq_false hc3
        refine s_fa0 F rfl rfl rfl rfl fa_38_0_C6 rfl ?_; clear F a; intro a F
        refine s_ld F rfl rfl rfl rfl sc_3_C6 rfl (by exact cell_of_blk M.h1 (lit rfl)) ?_; clear F a; intro a F
        refine s_bin F rfl rfl rfl rfl rfl rfl rfl ?_; clear F a; intro a F
        refine s_I F rfl rfl rfl rfl rfl rfl ?_; clear F a; intro a F
        refine s_I F rfl rfl rfl rfl rfl rfl ?_; clear F a; intro a F
        refine bsplit F 23 rfl ?_ ?_
        ·
          clear F; intro hc4 F
          try rw [hc4] at F
          replace hc4 := of_decide_eq_true hc4
          refine s_no F rfl rfl rfl rfl ?_; clear F a; intro a F
          refine s_no F rfl rfl rfl rfl ?_; clear F a; intro a F
          refine s_no F rfl rfl rfl rfl ?_; clear F a; intro a F
          refine s_I F rfl rfl rfl rfl rfl rfl ?_; clear F a; intro a F
          refine s_I F rfl rfl rfl rfl rfl rfl ?_; clear F a; intro a F
          refine s_no F rfl rfl rfl rfl ?_; clear F a; intro a F
          refine s_no F rfl rfl rfl rfl ?_; clear F a; intro a F
          refine s_no F rfl rfl rfl rfl ?_; clear F a; intro a F
          refine s_no F rfl rfl rfl rfl ?_; clear F a; intro a F
          refine s_I F rfl rfl rfl rfl rfl rfl ?_; clear F a; intro a F
          refine s_I F rfl rfl rfl rfl rfl rfl ?_; clear F a; intro a F
          refine s_no F rfl rfl rfl rfl ?_; clear F a; intro a F
          refine s_no F rfl rfl rfl rfl ?_; clear F a; intro a F
          refine s_no F rfl rfl rfl rfl ?_; clear F a; intro a F
          refine s_no F rfl rfl rfl rfl ?_; clear F a; intro a F
          refine s_no F rfl rfl rfl rfl ?_; clear F a; intro a F
          refine s_no F rfl rfl rfl rfl ?_; clear F a; intro a F
          refine s_no F rfl rfl rfl rfl ?_; clear F a; intro a F
          refine s_no F rfl rfl rfl rfl ?_; clear F a; intro a F
          refine s_no F rfl rfl rfl rfl ?_; clear F a; intro a F
          refine s_no F rfl rfl rfl rfl ?_; clear F a; intro a F
          refine s_I F rfl rfl rfl rfl rfl rfl ?_; clear F a; intro a F
          refine t_endM M ?_; (clear M; try clear w); intro w M
          have M1 : Sep _ _ _ (slR (.slice A c.L.length cc) _ _ _ _ :: _) := M.f3; replace M := M1; clear M1
          have M1 : Sep _ _ _ (blk b4 _ :: _) := M.f1; replace M := M1; clear M1
          have M1 : Sep _ _ _ (blk b3 _ :: _) := M.f2; replace M := M1; clear M1
          have M1 : Sep _ _ _ (blk b2 _ :: _) := M.f3; replace M := M1; clear M1
          exact cut_end ⟨_, (by clear M F ho; grind [valid]), F.keep [2, 3, 4, 45] rfl, Sep.left M⟩
        ·
          clear F; intro hc5 F
          try rw [hc5] at F
          replace hc5 := of_decide_eq_false hc5
          refine s_fa0 F rfl rfl rfl rfl fa_38_0_C6 rfl ?_; clear F a; intro a F
          refine s_ld F rfl rfl rfl rfl sc_3_C6 rfl (by exact cell_of_blk M.h1 (lit rfl)) ?_; clear F a; intro a F
          refine s_bin F rfl rfl rfl rfl rfl rfl rfl ?_; clear F a; intro a F
          refine s_I F rfl rfl rfl rfl rfl rfl ?_; clear F a; intro a F
          refine s_I F rfl rfl rfl rfl rfl rfl ?_; clear F a; intro a F
          refine bsplit F 28 rfl ?_ ?_
          ·
            clear F; intro hc6 F
            try rw [hc6] at F
            replace hc6 := of_decide_eq_true hc6
            refine s_no F rfl rfl rfl rfl ?_; clear F a; intro a F
            refine s_no F rfl rfl rfl rfl ?_; clear F a; intro a F
            refine s_no F rfl rfl rfl rfl ?_; clear F a; intro a F
            refine s_no F rfl rfl rfl rfl ?_; clear F a; intro a F
            refine s_I F rfl rfl rfl rfl rfl rfl ?_; clear F a; intro a F
            refine s_I F rfl rfl rfl rfl rfl rfl ?_; clear F a; intro a F
            refine s_no F rfl rfl rfl rfl ?_; clear F a; intro a F
            refine s_no F rfl rfl rfl rfl ?_; clear F a; intro a F
            refine s_no F rfl rfl rfl rfl ?_; clear F a; intro a F
            refine s_no F rfl rfl rfl rfl ?_; clear F a; intro a F
            refine s_no F rfl rfl rfl rfl ?_; clear F a; intro a F
            refine s_no F rfl rfl rfl rfl ?_; clear F a; intro a F
            refine s_no F rfl rfl rfl rfl ?_; clear F a; intro a F
            refine s_no F rfl rfl rfl rfl ?_; clear F a; intro a F
            refine s_no F rfl rfl rfl rfl ?_; clear F a; intro a F
            refine s_no F rfl rfl rfl rfl ?_; clear F a; intro a F
            refine s_I F rfl rfl rfl rfl rfl rfl ?_; clear F a; intro a F
            refine t_endM M ?_; (clear M; try clear w); intro w M
            have M1 : Sep _ _ _ (slR (.slice A c.L.length cc) _ _ _ _ :: _) := M.f3; replace M := M1; clear M1
            have M1 : Sep _ _ _ (blk b4 _ :: _) := M.f1; replace M := M1; clear M1
            have M1 : Sep _ _ _ (blk b3 _ :: _) := M.f2; replace M := M1; clear M1
            have M1 : Sep _ _ _ (blk b2 _ :: _) := M.f3; replace M := M1; clear M1
            exact cut_end ⟨_, (by clear M F ho; grind [valid]), F.keep [2, 3, 4, 45] rfl, Sep.left M⟩
          ·
            clear F; intro hc7 F
            try rw [hc7] at F
            replace hc7 := of_decide_eq_false hc7
            refine s_fa0 F rfl rfl rfl rfl fa_38_2_C6 rfl ?_; clear F a; intro a F
            refine s_ld F rfl rfl rfl rfl sc_9_C6 rfl (by exact cell_of_blk M.h1 (lit rfl)) ?_; clear F a; intro a F
            refine s_lenS F rfl rfl rfl rfl st_9_C6 rfl ?_; clear F a; intro a F
            refine s_bin F rfl rfl rfl rfl rfl rfl rfl ?_; clear F a; intro a F
            refine s_I F rfl rfl rfl rfl rfl rfl ?_; clear F a; intro a F
            refine s_I F rfl rfl rfl rfl rfl rfl ?_; clear F a; intro a F
            refine bsplit F 34 rfl ?_ ?_
            ·
              clear F; intro hc8 F
              try rw [hc8] at F
              replace hc8 := of_decide_eq_true hc8
              refine s_no F rfl rfl rfl rfl ?_; clear F a; intro a F
              refine s_no F rfl rfl rfl rfl ?_; clear F a; intro a F
              refine s_no F rfl rfl rfl rfl ?_; clear F a; intro a F
              refine s_no F rfl rfl rfl rfl ?_; clear F a; intro a F
              refine s_no F rfl rfl rfl rfl ?_; clear F a; intro a F
              refine s_no F rfl rfl rfl rfl ?_; clear F a; intro a F
              refine s_no F rfl rfl rfl rfl ?_; clear F a; intro a F
              refine s_no F rfl rfl rfl rfl ?_; clear F a; intro a F
              refine s_no F rfl rfl rfl rfl ?_; clear F a; intro a F
              refine s_no F rfl rfl rfl rfl ?_; clear F a; intro a F
              refine s_I F rfl rfl rfl rfl rfl rfl ?_; clear F a; intro a F
              refine t_endM M ?_; (clear M; try clear w); intro w M
              have M1 : Sep _ _ _ (slR (.slice A c.L.length cc) _ _ _ _ :: _) := M.f3; replace M := M1; clear M1
              have M1 : Sep _ _ _ (blk b4 _ :: _) := M.f1; replace M := M1; clear M1
              have M1 : Sep _ _ _ (blk b3 _ :: _) := M.f2; replace M := M1; clear M1
              have M1 : Sep _ _ _ (blk b2 _ :: _) := M.f3; replace M := M1; clear M1
              exact cut_end ⟨_, (by clear M F ho; grind [valid]), F.keep [2, 3, 4, 45] rfl, Sep.left M⟩
            ·
              clear F; intro hc9 F
              try rw [hc9] at F
              replace hc9 := of_decide_eq_false hc9
              refine s_fa0 F rfl rfl rfl rfl fa_38_0_C6 rfl ?_; clear F a; intro a F
              refine s_ld F rfl rfl rfl rfl sc_3_C6 rfl (by exact cell_of_blk M.h1 (lit rfl)) ?_; clear F a; intro a F
              refine s_bin F rfl rfl rfl rfl rfl rfl rfl ?_; clear F a; intro a F
              refine s_I F rfl rfl rfl rfl rfl rfl ?_; clear F a; intro a F
              refine bsplit F 38 rfl ?_ ?_
              ·
                clear F; intro hc10 F
                try rw [hc10] at F
                replace hc10 := of_decide_eq_true hc10
                refine s_fa0 F rfl rfl rfl rfl fa_38_1_C6 rfl ?_; clear F a; intro a F
                refine s_ld F rfl rfl rfl rfl sc_3_C6 rfl (by exact cell_of_blk M.h1 (lit rfl)) ?_; clear F a; intro a F
                refine s_fa0 F rfl rfl rfl rfl fa_32_2_C6 rfl ?_; clear F a; intro a F
                refine s_ld F rfl rfl rfl rfl sc_3_C6 rfl (by exact cell_of_blk M.h2 (lit rfl)) ?_; clear F a; intro a F
                refine s_bin F rfl rfl rfl rfl rfl rfl rfl ?_; clear F a; intro a F
                refine s_I F rfl rfl rfl rfl rfl rfl ?_; clear F a; intro a F
                refine s_I F rfl rfl rfl rfl rfl rfl ?_; clear F a; intro a F
                refine t_endM M ?_; (clear M; try clear w); intro w M
                have M1 : Sep _ _ _ (slR (.slice A c.L.length cc) _ _ _ _ :: _) := M.f3; replace M := M1; clear M1
                have M1 : Sep _ _ _ (blk b4 _ :: _) := M.f1; replace M := M1; clear M1
                have M1 : Sep _ _ _ (blk b3 _ :: _) := M.f2; replace M := M1; clear M1
                have M1 : Sep _ _ _ (blk b2 _ :: _) := M.f3; replace M := M1; clear M1
                exact cut_end ⟨_, (by clear M F ho; grind [valid]), F.keep [2, 3, 4, 45] rfl, Sep.left M⟩
              ·
                clear F; intro hc11 F
                try rw [hc11] at F
                replace hc11 := of_decide_eq_false hc11
                refine s_no F rfl rfl rfl rfl ?_; clear F a; intro a F
                refine s_no F rfl rfl rfl rfl ?_; clear F a; intro a F
                refine s_no F rfl rfl rfl rfl ?_; clear F a; intro a F
                refine s_no F rfl rfl rfl rfl ?_; clear F a; intro a F
                refine s_no F rfl rfl rfl rfl ?_; clear F a; intro a F
                refine s_I F rfl rfl rfl rfl rfl rfl ?_; clear F a; intro a F
                refine s_I F rfl rfl rfl rfl rfl rfl ?_; clear F a; intro a F
                refine t_endM M ?_; (clear M; try clear w); intro w M
                have M1 : Sep _ _ _ (slR (.slice A c.L.length cc) _ _ _ _ :: _) := M.f3; replace M := M1; clear M1
                have M1 : Sep _ _ _ (blk b4 _ :: _) := M.f1; replace M := M1; clear M1
                have M1 : Sep _ _ _ (blk b3 _ :: _) := M.f2; replace M := M1; clear M1
                have M1 : Sep _ _ _ (blk b2 _ :: _) := M.f3; replace M := M1; clear M1
                exact cut_end ⟨_, (by clear M F ho; grind [valid]), F.keep [2, 3, 4, 45] rfl, Sep.left M⟩
  ·
    clear F M; clear a; (try clear w); intro a w hC
    obtain ⟨q, hq, F, M⟩ := hC
    refine c_if F rfl ?_ ?_
    ·
      clear F; intro hc12 F
      try rw [hc12] at F
      skip
      refine wp_seq ?_
      replace F := F.keep [2, 3, 4] rfl
      refine wp_region_l [.rd, .wr, .ind] ([0, 1, 2]) rfl ?_
      refine s_lda F rfl rfl rfl rfl ag_32_C6 rfl rfl (cells_whole M.h0) ?_; clear F a; intro a F
      refine s_stW F M.f2 rfl rfl rfl sz_32_C6 rfl rfl rfl rfl rfl ?_; (clear M; try clear w); intro w M
      refine s_I F rfl rfl rfl rfl rfl rfl ?_; clear F a; intro a F
      refine t_endM M ?_; (clear M; try clear w); intro w M
      refine wp_ret ?_
      refine rt2 F rfl (by exact rv_a F rfl ag_32_C6 rfl (cells_whole M.h0)) (rv_t F rfl) ?_
      -- end 0
      have hno : c.counts m = false := by rw [counts_valid]; subst hc12; simp_all
      refine ⟨_, (.slice A c.L.length cc, .slice none 0 0), rfl, ?_, ?_⟩
      · (rw [take_no hno]; try rfl)
      rw [take_no hno]
      have M1 : Sep _ _ _ (slR (.slice A c.L.length cc) _ _ _ _ :: _) := M.f3; replace M := M1; clear M1
      exact Sep.left (r := _) ((M.nilS 38 3).f1)
    ·
      clear F; intro hc13 F
      try rw [hc13] at F
      skip
      refine wp_skip ?_
      refine wp_seq ?_
      refine wp_seq ?_
      replace F := F.keep [2, 3, 4] rfl
      refine wp_region_l [.ind] ([0]) rfl ?_
      refine s_I F rfl rfl rfl rfl rfl rfl ?_; clear F a; intro a F
      refine t_endM M ?_; (clear M; try clear w); intro w M
      refine wp_block ?_
      refine wp_loop_ghost (fun n_ a w => ∃ (i : Int), n_ = c.L.length - i.toNat ∧ (0 ≤ i) ∧ (i ≤ c.L.length) ∧ (∀ e ∈ c.L.take i.toNat, ¬ (e.kind = m.kind ∧ e.frm = m.frm)) ∧ Fr 141 a [(2, .pointer (some ⟨b2, 0, none⟩)), (3, .pointer (some ⟨b3, 0, none⟩)), (4, .pointer (some ⟨b4, 0, none⟩)), (6, .int .i64 i)] ∧ Sep (fun b_ => b_ ∈ foots [slR (.slice A c.L.length cc) c.L.length 38 3 (c.L.flatMap encM)]) w0 w [blk b2 (.cells #[.int .i64 c.n, .int .i64 c.t, .int .i64 c.frm, .slice A c.L.length cc, .bool (c.ready), .bool (c.done), .string (c.body)] 32 (0, 0)), blk b3 (.cells #[.int .i64 m.kind, .int .i64 m.frm, .string m.body] 38 (0, 0)), blk b4 (.cells #[.int .i64 0, .int .i64 0, .int .i64 0, .slice none 0 0, .bool false, .bool false, .string { data := #[] }] 32 (0, 0)), slR (.slice A c.L.length cc) c.L.length 38 3 (c.L.flatMap encM)]) ((fun (i : Int) => c.L.length - i.toNat) (0)) ?_ ?_
      ·
        have M1 : Sep _ _ _ (slR (.slice A c.L.length cc) _ _ _ _ :: _) := M.f3; replace M := M1; clear M1
        have M1 : Sep _ _ _ (blk b4 _ :: _) := M.f3; replace M := M1; clear M1
        have M1 : Sep _ _ _ (blk b3 _ :: _) := M.f3; replace M := M1; clear M1
        have M1 : Sep _ _ _ (blk b2 _ :: _) := M.f3; replace M := M1; clear M1
        exact ⟨0, rfl, (by omega), (by omega), (by simp), F.keep [2, 3, 4, 6] rfl, Sep.left M⟩
      ·
        clear F M; clear a; (try clear w); intro n_ a w hI
        obtain ⟨i, rfl, i0, i1, ha, F, M⟩ := hI
        refine wp_seq ?_
        refine wp_seq ?_
        refine wp_region_l [.ind, .ind, .rd, .ind, .ind] ([0, 1, 2, 3, 4]) rfl ?_
        refine s_I F rfl rfl rfl rfl rfl rfl ?_; clear F a; intro a F
        refine s_fa0 F rfl rfl rfl rfl fa_32_3_C6 rfl ?_; clear F a; intro a F
        refine s_ld F rfl rfl rfl rfl sc_27_C6 rfl (by exact cell_of_blk M.h0 (lit rfl)) ?_; clear F a; intro a F
        refine s_len F rfl rfl rfl rfl sl_27_C6 rfl ?_; clear F a; intro a F
        refine s_bin F rfl rfl rfl rfl rfl rfl rfl ?_; clear F a; intro a F
        refine t_endM M ?_; (clear M; try clear w); intro w M
        refine c_if F rfl ?_ ?_
        ·
          clear F; intro hc14 F
          try rw [hc14] at F
          replace hc14 := of_decide_eq_true hc14
          obtain ⟨e, he⟩ := get_of i0 hc14
          obtain ⟨b, off, hA⟩ : ∃ b off, A = some ⟨b, off, none⟩ := by
            exact (SlOk.rd M.h3).ptr (by omega)
          refine wp_skip ?_
          refine wp_seq ?_
          refine wp_block ?_
          refine wp_seq ?_
          replace F := F.keep [2, 3, 4, 6] rfl
          refine wp_region_t [.ind, .rd, .ind, .ind, .ind, .rd, .ind, .rd, .ind, .ind, .ind, .rd, .ind, .ind, .ind, .rd, .ind, .rd, .ind, .ind] [] (otOf [0, 1, 2, 3, 4, 5, 6, 7, 8, 9, 10, 11, 12, 13, 14, 15, 16, 17, 18, 19]) mixed (by kernel_rfl) ?_
          refine s_fa0 F rfl rfl rfl rfl fa_32_3_C6 rfl ?_; clear F a; intro a F
          refine s_ld F rfl rfl rfl rfl sc_27_C6 rfl (by exact cell_of_blk M.h0 (lit rfl)) ?_; clear F a; intro a F
          refine s_I F rfl rfl rfl rfl rfl rfl ?_; clear F a; intro a F
          refine s_isA hA F rfl rfl rfl rfl sl_27_C6 rfl rfl (by omega) (by omega) ?_; clear F a; intro a F
          refine s_fa F rfl rfl rfl rfl fa_38_0_C6 rfl ?_; clear F a; intro a F
          refine s_ld F rfl rfl rfl rfl sc_3_C6 rfl (by exact rd_el hA (SlOk.rd M.h3) encM_len he rfl) ?_; clear F a; intro a F
          refine s_fa0 F rfl rfl rfl rfl fa_38_0_C6 rfl ?_; clear F a; intro a F
          refine s_ld F rfl rfl rfl rfl sc_3_C6 rfl (by exact cell_of_blk M.h1 (lit rfl)) ?_; clear F a; intro a F
          refine s_bin F rfl rfl rfl rfl rfl rfl rfl ?_; clear F a; intro a F
          refine s_I F rfl rfl rfl rfl rfl rfl ?_; clear F a; intro a F
          refine bsplit F 63 rfl ?_ ?_
          ·
            clear F; intro hc15 F
            try rw [hc15] at F
            replace hc15 := of_decide_eq_true hc15
            refine s_fa0 F rfl rfl rfl rfl fa_32_3_C6 rfl ?_; clear F a; intro a F
            refine s_ld F rfl rfl rfl rfl sc_27_C6 rfl (by exact cell_of_blk M.h0 (lit rfl)) ?_; clear F a; intro a F
            refine s_I F rfl rfl rfl rfl rfl rfl ?_; clear F a; intro a F
            refine s_isA hA F rfl rfl rfl rfl sl_27_C6 rfl rfl (by omega) (by omega) ?_; clear F a; intro a F
            refine s_fa F rfl rfl rfl rfl fa_38_1_C6 rfl ?_; clear F a; intro a F
            refine s_ld F rfl rfl rfl rfl sc_3_C6 rfl (by exact rd_el hA (SlOk.rd M.h3) encM_len he rfl) ?_; clear F a; intro a F
            refine s_fa0 F rfl rfl rfl rfl fa_38_1_C6 rfl ?_; clear F a; intro a F
            refine s_ld F rfl rfl rfl rfl sc_3_C6 rfl (by exact cell_of_blk M.h1 (lit rfl)) ?_; clear F a; intro a F
            refine s_bin F rfl rfl rfl rfl rfl rfl rfl ?_; clear F a; intro a F
            refine s_I F rfl rfl rfl rfl rfl rfl ?_; clear F a; intro a F
            refine t_endM M ?_; (clear M; try clear w); intro w M
            refine c_if F rfl ?_ ?_
            ·
              clear F; intro hc16 F
              try rw [hc16] at F
              replace hc16 := of_decide_eq_true hc16
              refine wp_seq ?_
              replace F := F.keep [2, 3, 4, 6] rfl
              refine wp_region_l [.rd, .wr, .ind] ([0, 1, 2]) rfl ?_
              refine s_lda F rfl rfl rfl rfl ag_32_C6 rfl rfl (cells_whole M.h0) ?_; clear F a; intro a F
              refine s_stW F M.f2 rfl rfl rfl sz_32_C6 rfl rfl rfl rfl rfl ?_; (clear M; try clear w); intro w M
              refine s_I F rfl rfl rfl rfl rfl rfl ?_; clear F a; intro a F
              refine t_endM M ?_; (clear M; try clear w); intro w M
              refine wp_ret ?_
              refine rt2 F rfl (by exact rv_a F rfl ag_32_C6 rfl (cells_whole M.h0)) (rv_t F rfl) ?_
              -- end 1
              have hno : c.counts m = false := by rw [counts_valid, heard_of he (by assumption) (by assumption)]; simp
              refine ⟨_, (.slice A c.L.length cc, .slice none 0 0), rfl, ?_, ?_⟩
              · (rw [take_no hno]; try rfl)
              rw [take_no hno]
              have M1 : Sep _ _ _ (slR (.slice A c.L.length cc) _ _ _ _ :: _) := M.f3; replace M := M1; clear M1
              exact Sep.left (r := _) ((M.nilS 38 3).f1)
            ·
              clear F; intro hc17 F
              try rw [hc17] at F
              replace hc17 := of_decide_eq_false hc17
              refine wp_skip ?_
              replace F := F.keep [2, 3, 4, 6] rfl
              refine wp_region_l [.ind, .ind, .ind] ([0, 1, 2]) rfl ?_
              refine s_I F rfl rfl rfl rfl rfl rfl ?_; clear F a; intro a F
              refine s_add F rfl rfl rfl rfl rfl rfl (by unfold In64; omega) ?_; clear F a; intro a F
              refine s_I F rfl rfl rfl rfl rfl rfl ?_; clear F a; intro a F
              refine t_endM M ?_; (clear M; try clear w); intro w M
              have M1 : Sep _ _ _ (slR (.slice A c.L.length cc) _ _ _ _ :: _) := M.f3; replace M := M1; clear M1
              have M1 : Sep _ _ _ (blk b4 _ :: _) := M.f3; replace M := M1; clear M1
              have M1 : Sep _ _ _ (blk b3 _ :: _) := M.f3; replace M := M1; clear M1
              have M1 : Sep _ _ _ (blk b2 _ :: _) := M.f3; replace M := M1; clear M1
              exact lp_again ((fun (i : Int) => c.L.length - i.toNat) (i + 1)) (by show _ < _; dsimp only; omega) ⟨i + 1, rfl, (by omega), (by assumption), (all_take ha i0 he (fun h => by exact hc17 h.2)), F.keep [2, 3, 4, 6] rfl, Sep.left M⟩
          ·
            clear F; intro hc18 F
            try rw [hc18] at F
            replace hc18 := of_decide_eq_false hc18
            refine s_no F rfl rfl rfl rfl ?_; clear F a; intro a F
            refine s_no F rfl rfl rfl rfl ?_; clear F a; intro a F
            refine s_no F rfl rfl rfl rfl ?_; clear F a; intro a F
            refine s_no F rfl rfl rfl rfl ?_; clear F a; intro a F
            refine s_no F rfl rfl rfl rfl ?_; clear F a; intro a F
            refine s_no F rfl rfl rfl rfl ?_; clear F a; intro a F
            refine s_no F rfl rfl rfl rfl ?_; clear F a; intro a F
            refine s_no F rfl rfl rfl rfl ?_; clear F a; intro a F
            refine s_no F rfl rfl rfl rfl ?_; clear F a; intro a F
            refine s_I F rfl rfl rfl rfl rfl rfl ?_; clear F a; intro a F
            refine t_endM M ?_; (clear M; try clear w); intro w M
            refine c_f F rfl ?_
            refine wp_skip ?_
            replace F := F.keep [2, 3, 4, 6] rfl
            refine wp_region_l [.ind, .ind, .ind] ([0, 1, 2]) rfl ?_
            refine s_I F rfl rfl rfl rfl rfl rfl ?_; clear F a; intro a F
            refine s_add F rfl rfl rfl rfl rfl rfl (by unfold In64; omega) ?_; clear F a; intro a F
            refine s_I F rfl rfl rfl rfl rfl rfl ?_; clear F a; intro a F
            refine t_endM M ?_; (clear M; try clear w); intro w M
            have M1 : Sep _ _ _ (slR (.slice A c.L.length cc) _ _ _ _ :: _) := M.f3; replace M := M1; clear M1
            have M1 : Sep _ _ _ (blk b4 _ :: _) := M.f3; replace M := M1; clear M1
            have M1 : Sep _ _ _ (blk b3 _ :: _) := M.f3; replace M := M1; clear M1
            have M1 : Sep _ _ _ (blk b2 _ :: _) := M.f3; replace M := M1; clear M1
            exact lp_again ((fun (i : Int) => c.L.length - i.toNat) (i + 1)) (by show _ < _; dsimp only; omega) ⟨i + 1, rfl, (by omega), (by assumption), (all_take ha i0 he (fun h => by exact hc18 h.1)), F.keep [2, 3, 4, 6] rfl, Sep.left M⟩
        ·
          clear F; intro hc19 F
          try rw [hc19] at F
          replace hc19 := of_decide_eq_false hc19
          refine wp_exit ?_
          refine wp_seq ?_
          refine wp_cut (fun a w => ∃ (x : Value), (c.counts m = true) ∧ Fr 141 a [(2, .pointer (some ⟨b2, 0, none⟩)), (3, .pointer (some ⟨b3, 0, none⟩)), (4, .pointer (some ⟨b4, 0, none⟩))] ∧ Sep (fun b_ => b_ ∈ foots [slR (.slice A c.L.length cc) c.L.length 38 3 (c.L.flatMap encM)]) w0 w [blk b2 (.cells #[.int .i64 c.n, .int .i64 c.t, .int .i64 c.frm, x, .bool (c.ready), .bool (c.done), .string (c.body)] 32 (0, 0)), blk b3 (.cells #[.int .i64 m.kind, .int .i64 m.frm, .string m.body] 38 (0, 0)), blk b4 (.cells #[.int .i64 0, .int .i64 0, .int .i64 0, .slice none 0 0, .bool false, .bool false, .string { data := #[] }] 32 (0, 0)), slR x (c.L ++ [m]).length 38 3 ((c.L ++ [m]).flatMap encM)]) ?_ ?_
          ·
            rw [take_all (by omega)] at ha
            have hno := heard_no ha
            have hcnt : c.counts m = true := by rw [counts_valid, hno]; cases hv : valid c m <;> simp_all
            replace M := M.nilS 38 3
            replace F := F.keep [2, 3, 4, 6] rfl
            refine wp_region_t [.ind, .rd, .wr, .rd, .wr, .wr, .ind, .wr] [(1, 4), (3, 2)] (.one 0 (.one 1 (.one 3 (.two 2 4 (otOf [4, 5, 6, 7]) (otOf [2, 5, 6, 7]))))) mixed (by kernel_rfl) ?_
            refine s_fa0 F rfl rfl rfl rfl fa_32_3_C6 rfl ?_; clear F a; intro a F
            refine s_ldL F rfl rfl rfl rfl sc_27_C6 rfl (by exact cell_of_blk M.h1 (lit rfl)) ?_; clear F a; intro a F
            refine s_ldaL F rfl rfl rfl rfl ag_38_C6 rfl rfl (cells_whole M.h2) ?_; clear F a; intro a F
            refine t_two ?_ ?_
            ·
              refine s_apL F M rfl rfl rfl rfl tl_27_C6 rfl rfl (by exact SlOk.rd M.h4) (by exact flat_one (fun _ => rfl) _) (by omega) (fun A c w M => (by repeat first | exact pend_none | refine pend_skip rfl ?_ | refine pend_take (by exact cells_whole M.h2) ?_)) ?_; (clear F a M; try clear w); intro A77 c77 w M a F
              refine s_bsL F M rfl rfl rfl rfl (parts1 F rfl) (bs_27_1_C6 _ _ _) (fun b w M => (by repeat first | exact pend_none | refine pend_skip rfl ?_ | refine pend_take (by exact cell_of_blk M.h2 (lit rfl)) ?_)) ?_; (clear F a M; try clear w); intro b79 w M a F
              refine s_apL F M.f1 rfl rfl rfl rfl tl_27_C6 rfl rfl (by exact rd_blk M.h0 rfl) (by rfl) (by omega) (fun A c w M => (by repeat first | exact pend_none | refine pend_skip rfl ?_)) ?_; (clear F a M; try clear w); intro A80 c80 w M a F
              refine s_fa0 F rfl rfl rfl rfl fa_32_3_C6 rfl ?_; clear F a; intro a F
              refine s_stL F M.f2 rfl rfl rfl sz_27_C6 rfl rfl rfl (by exact Nat.le_of_ble_eq_true rfl) (fun w M => (by repeat first | exact pend_none | refine pend_skip rfl ?_)) ?_; (clear M; try clear w); intro w M
              refine t_endM M ?_; (clear M; try clear w); intro w M
              have M1 : Sep _ _ _ (slR (.slice A80 _ _) _ _ _ _ :: _) := M.f1; replace M := M1; clear M1
              replace M := M.slEq (m' := (c.L ++ [m]).length) (xs' := (c.L ++ [m]).flatMap encM) (by simp) (by simp [encM])
              have M1 : Sep _ _ _ (slR (.slice A80 _ _) _ _ _ _ :: _) := M; replace M := M1; clear M1
              have M1 : Sep _ _ _ (blk b4 _ :: _) := M.f4; replace M := M1; clear M1
              have M1 : Sep _ _ _ (blk b3 _ :: _) := M.f4; replace M := M1; clear M1
              have M1 : Sep _ _ _ (blk b2 _ :: _) := M.f3; replace M := M1; clear M1
              exact cut_end ⟨.slice A80 _ c80, (by assumption), F.keep [2, 3, 4] rfl, Sep.left M⟩
            ·
              refine s_bsL F M rfl rfl rfl rfl (parts1 F rfl) (bs_27_1_C6 _ _ _) (fun b w M => (by repeat first | exact pend_none | refine pend_skip rfl ?_ | refine pend_take (by exact cell_of_blk M.h2 (lit rfl)) ?_)) ?_; (clear F a M; try clear w); intro b79 w M a F
              refine s_apL F M.f1 rfl rfl rfl rfl tl_27_C6 rfl rfl (by exact SlOk.rd M.h5) (by exact flat_one (fun _ => rfl) _) (by omega) (fun A c w M => (by repeat first | exact pend_none | refine pend_skip rfl ?_ | refine pend_take (by exact cells_whole M.h3) ?_)) ?_; (clear F a M; try clear w); intro A77 c77 w M a F
              refine s_apL F M rfl rfl rfl rfl tl_27_C6 rfl rfl (by exact rd_blk M.h1 rfl) (by rfl) (by omega) (fun A c w M => (by repeat first | exact pend_none | refine pend_skip rfl ?_)) ?_; (clear F a M; try clear w); intro A80 c80 w M a F
              refine s_fa0 F rfl rfl rfl rfl fa_32_3_C6 rfl ?_; clear F a; intro a F
              refine s_stL F M.f2 rfl rfl rfl sz_27_C6 rfl rfl rfl (by exact Nat.le_of_ble_eq_true rfl) (fun w M => (by repeat first | exact pend_none | refine pend_skip rfl ?_)) ?_; (clear M; try clear w); intro w M
              refine t_endM M ?_; (clear M; try clear w); intro w M
              have M1 : Sep _ _ _ (slR (.slice A80 _ _) _ _ _ _ :: _) := M.f1; replace M := M1; clear M1
              replace M := M.slEq (m' := (c.L ++ [m]).length) (xs' := (c.L ++ [m]).flatMap encM) (by simp) (by simp [encM])
              have M1 : Sep _ _ _ (slR (.slice A80 _ _) _ _ _ _ :: _) := M; replace M := M1; clear M1
              have M1 : Sep _ _ _ (blk b4 _ :: _) := M.f4; replace M := M1; clear M1
              have M1 : Sep _ _ _ (blk b3 _ :: _) := M.f4; replace M := M1; clear M1
              have M1 : Sep _ _ _ (blk b2 _ :: _) := M.f3; replace M := M1; clear M1
              exact cut_end ⟨.slice A80 _ c80, (by assumption), F.keep [2, 3, 4] rfl, Sep.left M⟩
          ·
            clear F M; clear a; (try clear w); intro a w hC
            obtain ⟨x, hcnt, F, M⟩ := hC
            obtain ⟨xA, xc, rfl⟩ := SlOk.form M.h3
            refine wp_seq ?_
            refine wp_region_l [.ind] ([0]) rfl ?_
            refine s_I F rfl rfl rfl rfl rfl rfl ?_; clear F a; intro a F
            refine t_endM M ?_; (clear M; try clear w); intro w M
            refine wp_seq ?_
            refine wp_seq ?_
            replace M := M.nilS 38 3
            refine wp_region_l [.ind, .rd, .ind] ([0, 1, 2]) rfl ?_
            refine s_fa0 F rfl rfl rfl rfl fa_38_0_C6 rfl ?_; clear F a; intro a F
            refine s_ld F rfl rfl rfl rfl sc_3_C6 rfl (by exact cell_of_blk M.h2 (lit rfl)) ?_; clear F a; intro a F
            refine s_bin F rfl rfl rfl rfl rfl rfl rfl ?_; clear F a; intro a F
            refine t_endM M ?_; (clear M; try clear w); intro w M
            refine wp_cut (fun a w => ∃ (o : Value), Fr 141 a [(2, .pointer (some ⟨b2, 0, none⟩)), (3, .pointer (some ⟨b3, 0, none⟩)), (4, .pointer (some ⟨b4, 0, none⟩)), (7, o)] ∧ Sep (fun b_ => b_ ∈ foots [slR (.slice A c.L.length cc) c.L.length 38 3 (c.L.flatMap encM)]) w0 w [blk b2 (.cells #[.int .i64 c.n, .int .i64 c.t, .int .i64 c.frm, (.slice xA (c.L ++ [m]).length xc), .bool (c.ready), .bool (c.done), .string (c.body)] 32 (0, 0)), blk b3 (.cells #[.int .i64 m.kind, .int .i64 m.frm, .string m.body] 38 (0, 0)), blk b4 (.cells #[.int .i64 0, .int .i64 0, .int .i64 0, .slice none 0 0, .bool false, .bool false, .string { data := #[] }] 32 (0, 0)), slR (.slice xA (c.L ++ [m]).length xc) (c.L ++ [m]).length 38 3 ((c.L ++ [m]).flatMap encM), slR o (out1 m).length 38 3 ((out1 m).flatMap encM)]) ?_ ?_
            ·
              refine c_if F rfl ?_ ?_
              ·
                clear F; intro hc20 F
                try rw [hc20] at F
                replace hc20 := of_decide_eq_true hc20
                replace F := F.keep [2, 3, 4, 7] rfl
                refine wp_region_l [.ind, .ind, .rd, .ind, .wr, .wr, .ind] ([0, 1, 2, 3, 4, 5, 6]) rfl ?_
                refine s_I F rfl rfl rfl rfl rfl rfl ?_; clear F a; intro a F
                refine s_fa0 F rfl rfl rfl rfl fa_38_2_C6 rfl ?_; clear F a; intro a F
                refine s_ld F rfl rfl rfl rfl sc_9_C6 rfl (by exact cell_of_blk M.h2 (lit rfl)) ?_; clear F a; intro a F
                refine s_bld F rfl rfl rfl rfl (parts2 F rfl rfl) (bl_38_0_2_C6 _ _) ?_; clear F a; intro a F
                refine s_bs F M rfl rfl rfl rfl (parts1 F rfl) (bs_27_1_C6 _ _ _) ?_; (clear F a M; try clear w); intro b89 w M a F
                refine s_ap F M.f1 rfl rfl rfl rfl tl_27_C6 rfl rfl (by exact rd_blk M.h0 rfl) (by rfl) (by decide) ?_; (clear F a M; try clear w); intro A90 c90 w M a F
                refine s_I F rfl rfl rfl rfl rfl rfl ?_; clear F a; intro a F
                refine t_endM M ?_; (clear M; try clear w); intro w M
                have M1 : Sep _ _ _ (slR (.slice A90 _ _) _ _ _ _ :: _) := M; replace M := M1; clear M1
                replace M := M.slEq (m' := (out1 m).length) (xs' := (out1 m).flatMap encM) (by simp [out1, hc20]) (by simp [out1, hc20, encM])
                have M1 : Sep _ _ _ (slR (.slice _ _ _) _ _ _ _ :: _) := M; replace M := M1; clear M1
                have M1 : Sep _ _ _ (slR (.slice xA _ _) _ _ _ _ :: _) := M.f5; replace M := M1; clear M1
                have M1 : Sep _ _ _ (blk b4 _ :: _) := M.f5; replace M := M1; clear M1
                have M1 : Sep _ _ _ (blk b3 _ :: _) := M.f5; replace M := M1; clear M1
                have M1 : Sep _ _ _ (blk b2 _ :: _) := M.f5; replace M := M1; clear M1
                exact cut_end ⟨_, F.keep [2, 3, 4, 7] rfl, Sep.left M⟩
              ·
                clear F; intro hc21 F
                try rw [hc21] at F
                replace hc21 := of_decide_eq_false hc21
                refine wp_skip ?_
                have M1 : Sep _ _ _ (slR (.slice none _ _) _ _ _ _ :: _) := M; replace M := M1; clear M1
                replace M := M.slEq (m' := (out1 m).length) (xs' := (out1 m).flatMap encM) (by simp [out1, hc21]) (by simp [out1, hc21, encM])
                have M1 : Sep _ _ _ (slR (.slice _ _ _) _ _ _ _ :: _) := M; replace M := M1; clear M1
                have M1 : Sep _ _ _ (slR (.slice xA _ _) _ _ _ _ :: _) := M.f4; replace M := M1; clear M1
                have M1 : Sep _ _ _ (blk b4 _ :: _) := M.f4; replace M := M1; clear M1
                have M1 : Sep _ _ _ (blk b3 _ :: _) := M.f4; replace M := M1; clear M1
                have M1 : Sep _ _ _ (blk b2 _ :: _) := M.f4; replace M := M1; clear M1
                exact cut_end ⟨_, F.keep [2, 3, 4, 7] rfl, Sep.left M⟩
            ·
              clear F M; clear a; (try clear w); intro a w hC
              obtain ⟨o, F, M⟩ := hC
              obtain ⟨oA, oc, rfl⟩ := SlOk.form M.h4
              
              refine wp_seq ?_
              refine wp_seq ?_
              refine wp_cut (fun a w => ∃ (q : Bool), (q = rd c m) ∧ Fr 141 a [(2, .pointer (some ⟨b2, 0, none⟩)), (3, .pointer (some ⟨b3, 0, none⟩)), (4, .pointer (some ⟨b4, 0, none⟩)), (7, .slice oA (out1 m).length oc), (114, .bool q)] ∧ Sep (fun b_ => b_ ∈ foots [slR (.slice A c.L.length cc) c.L.length 38 3 (c.L.flatMap encM)]) w0 w [blk b2 (.cells #[.int .i64 c.n, .int .i64 c.t, .int .i64 c.frm, (.slice xA (c.L ++ [m]).length xc), .bool (c.ready), .bool (c.done), .string (c.body)] 32 (0, 0)), blk b3 (.cells #[.int .i64 m.kind, .int .i64 m.frm, .string m.body] 38 (0, 0)), blk b4 (.cells #[.int .i64 0, .int .i64 0, .int .i64 0, .slice none 0 0, .bool false, .bool false, .string { data := #[] }] 32 (0, 0)), slR (.slice xA (c.L ++ [m]).length xc) (c.L ++ [m]).length 38 3 ((c.L ++ [m]).flatMap encM), slR (.slice oA (out1 m).length oc) (out1 m).length 38 3 ((out1 m).flatMap encM)]) ?_ ?_
              ·
                refine wp_region_t [.ind, .rd, .ind, .ind, .rd, .ind, .rd, .wr, .ind, .rd, .ind, .rd, .wr, .ind, .ind, .rd, .ind, .rd, .wr, .ind, .rd, .ind, .ind, .ind] [(9, 7), (11, 7), (20, 18)] (otOf [0, 1, 2, 3, 4, 5, 6, 8, 9, 10, 11, 7, 12, 13, 14, 15, 16, 17, 19, 20, 18, 21, 22, 23]) mixed (by kernel_rfl) ?_
                refine s_fa0 F rfl rfl rfl rfl fa_32_4_C6 rfl ?_; clear F a; intro a F
                refine s_ldL F rfl rfl rfl rfl sc_4_C6 rfl (by exact cell_of_blk M.h0 (lit rfl)) ?_; clear F a; intro a F
                refine s_I F rfl rfl rfl rfl rfl rfl ?_; clear F a; intro a F
                refine s_I F rfl rfl rfl rfl rfl rfl ?_; clear F a; intro a F
                refine bsplit F 94 rfl ?_ ?_
                ·
                  clear F; intro hc22 F
                  try rw [hc22] at F
                  replace hc22 := nt hc22
                  refine s_ldaL F rfl rfl rfl rfl ag_32_C6 rfl rfl (cells_whole M.h0) ?_; clear F a; intro a F
                  refine s_fa0 F rfl rfl rfl rfl fa_38_2_C6 rfl ?_; clear F a; intro a F
                  refine s_ldL F rfl rfl rfl rfl sc_9_C6 rfl (by exact cell_of_blk M.h1 (lit rfl)) ?_; clear F a; intro a F
                  refine s_fa0 F rfl rfl rfl rfl fa_32_0_C6 rfl ?_; clear F a; intro a F
                  refine s_ldL F rfl rfl rfl rfl sc_3_C6 rfl (by exact cell_of_blk M.h0 (lit rfl)) ?_; clear F a; intro a F
                  refine s_fa0 F rfl rfl rfl rfl fa_32_1_C6 rfl ?_; clear F a; intro a F
                  refine s_ldL F rfl rfl rfl rfl sc_3_C6 rfl (by exact cell_of_blk M.h0 (lit rfl)) ?_; clear F a; intro a F
                  refine s_cqL F M rfl rfl rfl rfl rfl (rfl : _ = some [_, _, _]) cb_35_C6 (fun nd_ => c35 { c with L := c.L ++ [m] } _ _ _ _ (by exact SlOk.rd M.h3) (by simp; omega)) (fun _ w _ M => (by repeat first | exact pend_none | refine pend_skip rfl ?_ | refine pend_take (by exact cell_of_blk M.h0 (lit rfl)) ?_)) ?_; (clear F a M; try clear w); rintro v w rfl M a F
                  refine s_cqL F M rfl rfl rfl rfl rfl (rfl : _ = some [_, _]) cb_13_C6 (fun nd_ => c13 _ _ _) (fun _ w _ M => (by repeat first | exact pend_none | refine pend_skip rfl ?_)) ?_; (clear F a M; try clear w); rintro v w rfl M a F
                  refine s_bin F rfl rfl rfl rfl rfl rfl rfl ?_; clear F a; intro a F
                  refine s_I F rfl rfl rfl rfl rfl rfl ?_; clear F a; intro a F
                  refine bsplit F 105 rfl ?_ ?_
                  ·
                    clear F; intro hc23 F
                    try rw [hc23] at F
                    replace hc23 := of_decide_eq_true hc23
                    refine s_no F rfl rfl rfl rfl ?_; clear F a; intro a F
                    refine s_no F rfl rfl rfl rfl ?_; clear F a; intro a F
                    refine s_no F rfl rfl rfl rfl ?_; clear F a; intro a F
                    refine s_no F rfl rfl rfl rfl ?_; clear F a; intro a F
                    refine s_no F rfl rfl rfl rfl ?_; clear F a; intro a F
                    refine s_no F rfl rfl rfl rfl ?_; clear F a; intro a F
                    refine s_no F rfl rfl rfl rfl ?_; clear F a; intro a F
                    refine s_I F rfl rfl rfl rfl rfl rfl ?_; clear F a; intro a F
                    refine s_I F rfl rfl rfl rfl rfl rfl ?_; clear F a; intro a F
                    refine t_endM M ?_; (clear M; try clear w); intro w M
                    have M1 : Sep _ _ _ (slR (.slice oA _ _) _ _ _ _ :: _) := M.f4; replace M := M1; clear M1
                    have M1 : Sep _ _ _ (slR (.slice xA _ _) _ _ _ _ :: _) := M.f4; replace M := M1; clear M1
                    have M1 : Sep _ _ _ (blk b4 _ :: _) := M.f4; replace M := M1; clear M1
                    have M1 : Sep _ _ _ (blk b3 _ :: _) := M.f4; replace M := M1; clear M1
                    have M1 : Sep _ _ _ (blk b2 _ :: _) := M.f4; replace M := M1; clear M1
                    exact cut_end ⟨_, (by clear M F ho; grind [rd]), F.keep [2, 3, 4, 7, 114] rfl, Sep.left M⟩
                  ·
                    clear F; intro hc24 F
                    try rw [hc24] at F
                    replace hc24 := of_decide_eq_false hc24
                    refine s_ldaL F rfl rfl rfl rfl ag_32_C6 rfl rfl (cells_whole M.h0) ?_; clear F a; intro a F
                    refine s_fa0 F rfl rfl rfl rfl fa_38_2_C6 rfl ?_; clear F a; intro a F
                    refine s_ldL F rfl rfl rfl rfl sc_9_C6 rfl (by exact cell_of_blk M.h1 (lit rfl)) ?_; clear F a; intro a F
                    refine s_fa0 F rfl rfl rfl rfl fa_32_1_C6 rfl ?_; clear F a; intro a F
                    refine s_ldL F rfl rfl rfl rfl sc_3_C6 rfl (by exact cell_of_blk M.h0 (lit rfl)) ?_; clear F a; intro a F
                    refine s_cqL F M rfl rfl rfl rfl rfl (rfl : _ = some [_, _, _]) cb_35_C6 (fun nd_ => c35 { c with L := c.L ++ [m] } _ _ _ _ (by exact SlOk.rd M.h3) (by simp; omega)) (fun _ w _ M => (by repeat first | exact pend_none | refine pend_skip rfl ?_ | refine pend_take (by exact cell_of_blk M.h0 (lit rfl)) ?_)) ?_; (clear F a M; try clear w); rintro v w rfl M a F
                    refine s_bin F rfl rfl rfl rfl rfl rfl rfl ?_; clear F a; intro a F
                    refine s_I F rfl rfl rfl rfl rfl rfl ?_; clear F a; intro a F
                    refine s_I F rfl rfl rfl rfl rfl rfl ?_; clear F a; intro a F
                    refine t_endM M ?_; (clear M; try clear w); intro w M
                    have M1 : Sep _ _ _ (slR (.slice oA _ _) _ _ _ _ :: _) := M.f4; replace M := M1; clear M1
                    have M1 : Sep _ _ _ (slR (.slice xA _ _) _ _ _ _ :: _) := M.f4; replace M := M1; clear M1
                    have M1 : Sep _ _ _ (blk b4 _ :: _) := M.f4; replace M := M1; clear M1
                    have M1 : Sep _ _ _ (blk b3 _ :: _) := M.f4; replace M := M1; clear M1
                    have M1 : Sep _ _ _ (blk b2 _ :: _) := M.f4; replace M := M1; clear M1
                    exact cut_end ⟨_, (by clear M F ho; grind [rd]), F.keep [2, 3, 4, 7, 114] rfl, Sep.left M⟩
                ·
                  clear F; intro hc25 F
                  try rw [hc25] at F
                  replace hc25 := nf hc25
                  refine s_no F rfl rfl rfl rfl ?_; clear F a; intro a F
                  refine s_no F rfl rfl rfl rfl ?_; clear F a; intro a F
                  refine s_no F rfl rfl rfl rfl ?_; clear F a; intro a F
                  refine s_no F rfl rfl rfl rfl ?_; clear F a; intro a F
                  refine s_no F rfl rfl rfl rfl ?_; clear F a; intro a F
                  refine s_no F rfl rfl rfl rfl ?_; clear F a; intro a F
                  refine s_no F rfl rfl rfl rfl ?_; clear F a; intro a F
                  refine s_no F rfl rfl rfl rfl ?_; clear F a; intro a F
                  refine s_no F rfl rfl rfl rfl ?_; clear F a; intro a F
                  refine s_no F rfl rfl rfl rfl ?_; clear F a; intro a F
                  refine s_no F rfl rfl rfl rfl ?_; clear F a; intro a F
                  refine s_no F rfl rfl rfl rfl ?_; clear F a; intro a F
                  refine s_no F rfl rfl rfl rfl ?_; clear F a; intro a F
                  refine s_no F rfl rfl rfl rfl ?_; clear F a; intro a F
                  refine s_no F rfl rfl rfl rfl ?_; clear F a; intro a F
                  refine s_no F rfl rfl rfl rfl ?_; clear F a; intro a F
                  refine s_no F rfl rfl rfl rfl ?_; clear F a; intro a F
                  refine s_no F rfl rfl rfl rfl ?_; clear F a; intro a F
                  refine s_no F rfl rfl rfl rfl ?_; clear F a; intro a F
                  refine s_I F rfl rfl rfl rfl rfl rfl ?_; clear F a; intro a F
                  refine t_endM M ?_; (clear M; try clear w); intro w M
                  have M1 : Sep _ _ _ (slR (.slice oA _ _) _ _ _ _ :: _) := M.f4; replace M := M1; clear M1
                  have M1 : Sep _ _ _ (slR (.slice xA _ _) _ _ _ _ :: _) := M.f4; replace M := M1; clear M1
                  have M1 : Sep _ _ _ (blk b4 _ :: _) := M.f4; replace M := M1; clear M1
                  have M1 : Sep _ _ _ (blk b3 _ :: _) := M.f4; replace M := M1; clear M1
                  have M1 : Sep _ _ _ (blk b2 _ :: _) := M.f4; replace M := M1; clear M1
                  exact cut_end ⟨_, (by clear M F ho; grind [rd]), F.keep [2, 3, 4, 7, 114] rfl, Sep.left M⟩
              ·
                clear F M; clear a; (try clear w); intro a w hC
                obtain ⟨q, hq2, F, M⟩ := hC
                refine wp_cut (fun a w => ∃ (o2 : Value), Fr 141 a [(2, .pointer (some ⟨b2, 0, none⟩)), (3, .pointer (some ⟨b3, 0, none⟩)), (4, .pointer (some ⟨b4, 0, none⟩)), (7, o2)] ∧ Sep (fun b_ => b_ ∈ foots [slR (.slice A c.L.length cc) c.L.length 38 3 (c.L.flatMap encM)]) w0 w [blk b2 (.cells #[.int .i64 c.n, .int .i64 c.t, .int .i64 c.frm, (.slice xA (c.L ++ [m]).length xc), .bool (c.ready || rd c m), .bool (c.done), .string (c.body)] 32 (0, 0)), blk b3 (.cells #[.int .i64 m.kind, .int .i64 m.frm, .string m.body] 38 (0, 0)), blk b4 (.cells #[.int .i64 0, .int .i64 0, .int .i64 0, .slice none 0 0, .bool false, .bool false, .string { data := #[] }] 32 (0, 0)), slR (.slice xA (c.L ++ [m]).length xc) (c.L ++ [m]).length 38 3 ((c.L ++ [m]).flatMap encM), slR o2 (out1 m ++ out2 c m).length 38 3 ((out1 m ++ out2 c m).flatMap encM)]) ?_ ?_
                ·
                  refine c_if F rfl ?_ ?_
                  ·
                    clear F; intro hc26 F
                    try rw [hc26] at F
                    skip
                    refine wp_seq ?_
                    replace F := F.keep [2, 3, 4, 7] rfl
                    refine wp_region_l [.ind, .wr] ([0, 1]) rfl ?_
                    refine s_fa0 F rfl rfl rfl rfl fa_32_4_C6 rfl ?_; clear F a; intro a F
                    refine s_st F M rfl rfl rfl sz_4_C6 rfl rfl rfl (by exact Nat.le_of_ble_eq_true rfl) ?_; (clear M; try clear w); intro w M
                    refine t_endM M ?_; (clear M; try clear w); intro w M
                    replace F := F.keep [2, 3, 4, 7] rfl
                    refine wp_region_l [.ind, .ind, .rd, .ind, .wr, .wr, .ind] ([0, 1, 2, 3, 4, 5, 6]) rfl ?_
                    refine s_I F rfl rfl rfl rfl rfl rfl ?_; clear F a; intro a F
                    refine s_fa0 F rfl rfl rfl rfl fa_38_2_C6 rfl ?_; clear F a; intro a F
                    refine s_ld F rfl rfl rfl rfl sc_9_C6 rfl (by exact cell_of_blk M.h1 (lit rfl)) ?_; clear F a; intro a F
                    refine s_bld F rfl rfl rfl rfl (parts2 F rfl rfl) (bl_38_0_2_C6 _ _) ?_; clear F a; intro a F
                    refine s_bs F M rfl rfl rfl rfl (parts1 F rfl) (bs_27_1_C6 _ _ _) ?_; (clear F a M; try clear w); intro b120 w M a F
                    refine s_ap F M.f5 rfl rfl rfl rfl tl_27_C6 rfl rfl (by exact rd_blk M.h0 rfl) (by rfl) (by omega) ?_; (clear F a M; try clear w); intro A121 c121 w M a F
                    refine s_I F rfl rfl rfl rfl rfl rfl ?_; clear F a; intro a F
                    refine t_endM M ?_; (clear M; try clear w); intro w M
                    have hr : rd c m = true := by rw [← hq2, hc26]
                    have M1 : Sep _ _ _ (blk b2 _ :: _) := M.f2; replace M := M1; clear M1
                    replace M := M.blkEq (o' := .cells #[.int .i64 c.n, .int .i64 c.t, .int .i64 c.frm, (.slice xA (c.L ++ [m]).length xc), .bool (c.ready || rd c m), .bool (c.done), .string (c.body)] 32 (0, 0)) (by rw [hr]; simp)
                    have M1 : Sep _ _ _ (slR (.slice A121 _ _) _ _ _ _ :: _) := M.f1; replace M := M1; clear M1
                    replace M := M.slEq (m' := (out1 m ++ out2 c m).length) (xs' := (out1 m ++ out2 c m).flatMap encM) (by simp [out2, hr]) (by simp [out2, hr, encM])
                    have M1 : Sep _ _ _ (slR (.slice _ _ _) _ _ _ _ :: _) := M; replace M := M1; clear M1
                    have M1 : Sep _ _ _ (slR (.slice xA _ _) _ _ _ _ :: _) := M.f5; replace M := M1; clear M1
                    have M1 : Sep _ _ _ (blk b4 _ :: _) := M.f5; replace M := M1; clear M1
                    have M1 : Sep _ _ _ (blk b3 _ :: _) := M.f5; replace M := M1; clear M1
                    have M1 : Sep _ _ _ (blk b2 _ :: _) := M.f4; replace M := M1; clear M1
                    exact cut_end ⟨_, F.keep [2, 3, 4, 7] rfl, Sep.left M⟩
                  ·
                    clear F; intro hc27 F
                    try rw [hc27] at F
                    skip
                    refine wp_skip ?_
                    have hr : rd c m = false := by rw [← hq2, hc27]
                    have M1 : Sep _ _ _ (blk b2 _ :: _) := M; replace M := M1; clear M1
                    replace M := M.blkEq (o' := .cells #[.int .i64 c.n, .int .i64 c.t, .int .i64 c.frm, (.slice xA (c.L ++ [m]).length xc), .bool (c.ready || rd c m), .bool (c.done), .string (c.body)] 32 (0, 0)) (by rw [hr]; simp)
                    have M1 : Sep _ _ _ (slR (.slice oA _ _) _ _ _ _ :: _) := M.f4; replace M := M1; clear M1
                    replace M := M.slEq (m' := (out1 m ++ out2 c m).length) (xs' := (out1 m ++ out2 c m).flatMap encM) (by simp [out2, hr]) (by simp [out2, hr, encM])
                    have M1 : Sep _ _ _ (slR (.slice _ _ _) _ _ _ _ :: _) := M; replace M := M1; clear M1
                    have M1 : Sep _ _ _ (slR (.slice xA _ _) _ _ _ _ :: _) := M.f4; replace M := M1; clear M1
                    have M1 : Sep _ _ _ (blk b4 _ :: _) := M.f4; replace M := M1; clear M1
                    have M1 : Sep _ _ _ (blk b3 _ :: _) := M.f4; replace M := M1; clear M1
                    have M1 : Sep _ _ _ (blk b2 _ :: _) := M.f4; replace M := M1; clear M1
                    exact cut_end ⟨_, F.keep [2, 3, 4, 7] rfl, Sep.left M⟩
                ·
                  clear F M; clear a; (try clear w); intro a w hC
                  obtain ⟨o2, F, M⟩ := hC
                  obtain ⟨oA2, oc2, rfl⟩ := SlOk.form M.h4
                  
                  refine wp_seq ?_
                  refine wp_seq ?_
                  refine wp_cut (fun a w => ∃ (q : Bool), (q = dn c m) ∧ Fr 141 a [(2, .pointer (some ⟨b2, 0, none⟩)), (3, .pointer (some ⟨b3, 0, none⟩)), (4, .pointer (some ⟨b4, 0, none⟩)), (7, .slice oA2 (out1 m ++ out2 c m).length oc2), (134, .bool q)] ∧ Sep (fun b_ => b_ ∈ foots [slR (.slice A c.L.length cc) c.L.length 38 3 (c.L.flatMap encM)]) w0 w [blk b2 (.cells #[.int .i64 c.n, .int .i64 c.t, .int .i64 c.frm, (.slice xA (c.L ++ [m]).length xc), .bool (c.ready || rd c m), .bool (c.done), .string (c.body)] 32 (0, 0)), blk b3 (.cells #[.int .i64 m.kind, .int .i64 m.frm, .string m.body] 38 (0, 0)), blk b4 (.cells #[.int .i64 0, .int .i64 0, .int .i64 0, .slice none 0 0, .bool false, .bool false, .string { data := #[] }] 32 (0, 0)), slR (.slice xA (c.L ++ [m]).length xc) (c.L ++ [m]).length 38 3 ((c.L ++ [m]).flatMap encM), slR (.slice oA2 (out1 m ++ out2 c m).length oc2) (out1 m ++ out2 c m).length 38 3 ((out1 m ++ out2 c m).flatMap encM)]) ?_ ?_
                  ·
                    refine wp_region_t [.ind, .rd, .ind, .ind, .rd, .ind, .rd, .wr, .ind, .rd, .ind, .ind, .ind] [(9, 7)] (otOf [0, 1, 2, 3, 4, 5, 6, 8, 9, 7, 10, 11, 12]) mixed (by kernel_rfl) ?_
                    refine s_fa0 F rfl rfl rfl rfl fa_32_5_C6 rfl ?_; clear F a; intro a F
                    refine s_ldL F rfl rfl rfl rfl sc_4_C6 rfl (by exact cell_of_blk M.h0 (lit rfl)) ?_; clear F a; intro a F
                    refine s_I F rfl rfl rfl rfl rfl rfl ?_; clear F a; intro a F
                    refine s_I F rfl rfl rfl rfl rfl rfl ?_; clear F a; intro a F
                    refine bsplit F 125 rfl ?_ ?_
                    ·
                      clear F; intro hc28 F
                      try rw [hc28] at F
                      replace hc28 := nt hc28
                      refine s_ldaL F rfl rfl rfl rfl ag_32_C6 rfl rfl (cells_whole M.h0) ?_; clear F a; intro a F
                      refine s_fa0 F rfl rfl rfl rfl fa_38_2_C6 rfl ?_; clear F a; intro a F
                      refine s_ldL F rfl rfl rfl rfl sc_9_C6 rfl (by exact cell_of_blk M.h1 (lit rfl)) ?_; clear F a; intro a F
                      refine s_fa0 F rfl rfl rfl rfl fa_32_1_C6 rfl ?_; clear F a; intro a F
                      refine s_ldL F rfl rfl rfl rfl sc_3_C6 rfl (by exact cell_of_blk M.h0 (lit rfl)) ?_; clear F a; intro a F
                      refine s_cqL F M rfl rfl rfl rfl rfl (rfl : _ = some [_, _, _]) cb_35_C6 (fun nd_ => c35 { c with L := c.L ++ [m], ready := c.ready || rd c m } _ _ _ _ (by exact SlOk.rd M.h3) (by simp; omega)) (fun _ w _ M => (by repeat first | exact pend_none | refine pend_skip rfl ?_ | refine pend_take (by exact cell_of_blk M.h0 (lit rfl)) ?_)) ?_; (clear F a M; try clear w); rintro v w rfl M a F
                      refine s_mul F rfl rfl rfl rfl rfl rfl (by unfold In64; omega) ?_; clear F a; intro a F
                      refine s_bin F rfl rfl rfl rfl rfl rfl rfl ?_; clear F a; intro a F
                      refine s_I F rfl rfl rfl rfl rfl rfl ?_; clear F a; intro a F
                      refine t_endM M ?_; (clear M; try clear w); intro w M
                      have M1 : Sep _ _ _ (slR (.slice oA2 _ _) _ _ _ _ :: _) := M.f4; replace M := M1; clear M1
                      have M1 : Sep _ _ _ (slR (.slice xA _ _) _ _ _ _ :: _) := M.f4; replace M := M1; clear M1
                      have M1 : Sep _ _ _ (blk b4 _ :: _) := M.f4; replace M := M1; clear M1
                      have M1 : Sep _ _ _ (blk b3 _ :: _) := M.f4; replace M := M1; clear M1
                      have M1 : Sep _ _ _ (blk b2 _ :: _) := M.f4; replace M := M1; clear M1
                      exact cut_end ⟨_, (by clear M F ho; grind [dn]), F.keep [2, 3, 4, 7, 134] rfl, Sep.left M⟩
                    ·
                      clear F; intro hc29 F
                      try rw [hc29] at F
                      replace hc29 := nf hc29
                      refine s_no F rfl rfl rfl rfl ?_; clear F a; intro a F
                      refine s_no F rfl rfl rfl rfl ?_; clear F a; intro a F
                      refine s_no F rfl rfl rfl rfl ?_; clear F a; intro a F
                      refine s_no F rfl rfl rfl rfl ?_; clear F a; intro a F
                      refine s_no F rfl rfl rfl rfl ?_; clear F a; intro a F
                      refine s_no F rfl rfl rfl rfl ?_; clear F a; intro a F
                      refine s_no F rfl rfl rfl rfl ?_; clear F a; intro a F
                      refine s_no F rfl rfl rfl rfl ?_; clear F a; intro a F
                      refine s_I F rfl rfl rfl rfl rfl rfl ?_; clear F a; intro a F
                      refine t_endM M ?_; (clear M; try clear w); intro w M
                      have M1 : Sep _ _ _ (slR (.slice oA2 _ _) _ _ _ _ :: _) := M.f4; replace M := M1; clear M1
                      have M1 : Sep _ _ _ (slR (.slice xA _ _) _ _ _ _ :: _) := M.f4; replace M := M1; clear M1
                      have M1 : Sep _ _ _ (blk b4 _ :: _) := M.f4; replace M := M1; clear M1
                      have M1 : Sep _ _ _ (blk b3 _ :: _) := M.f4; replace M := M1; clear M1
                      have M1 : Sep _ _ _ (blk b2 _ :: _) := M.f4; replace M := M1; clear M1
                      exact cut_end ⟨_, (by clear M F ho; grind [dn]), F.keep [2, 3, 4, 7, 134] rfl, Sep.left M⟩
                  ·
                    clear F M; clear a; (try clear w); intro a w hC
                    obtain ⟨q, hq3, F, M⟩ := hC
                    refine c_if F rfl ?_ ?_
                    ·
                      clear F; intro hc30 F
                      try rw [hc30] at F
                      skip
                      refine wp_seq ?_
                      replace F := F.keep [2, 3, 4, 7] rfl
                      refine wp_region_l [.ind, .wr] ([0, 1]) rfl ?_
                      refine s_fa0 F rfl rfl rfl rfl fa_32_5_C6 rfl ?_; clear F a; intro a F
                      refine s_st F M rfl rfl rfl sz_4_C6 rfl rfl rfl (by exact Nat.le_of_ble_eq_true rfl) ?_; (clear M; try clear w); intro w M
                      refine t_endM M ?_; (clear M; try clear w); intro w M
                      replace F := F.keep [2, 3, 4, 7] rfl
                      refine wp_region_l [.ind, .rd, .ind, .wr] ([0, 1, 2, 3]) rfl ?_
                      refine s_fa0 F rfl rfl rfl rfl fa_38_2_C6 rfl ?_; clear F a; intro a F
                      refine s_ld F rfl rfl rfl rfl sc_9_C6 rfl (by exact cell_of_blk M.h1 (lit rfl)) ?_; clear F a; intro a F
                      refine s_fa0 F rfl rfl rfl rfl fa_32_6_C6 rfl ?_; clear F a; intro a F
                      refine s_st F M rfl rfl rfl sz_9_C6 rfl rfl rfl (by exact Nat.le_of_ble_eq_true rfl) ?_; (clear M; try clear w); intro w M
                      refine t_endM M ?_; (clear M; try clear w); intro w M
                      refine wp_seq ?_
                      replace F := F.keep [2, 3, 4, 7] rfl
                      refine wp_region_l [.rd, .ind, .wr, .ind] ([0, 1, 2, 3]) rfl ?_
                      refine s_lda F rfl rfl rfl rfl ag_32_C6 rfl rfl (cells_whole M.h0) ?_; clear F a; intro a F
                      refine s_I F rfl rfl rfl rfl rfl rfl ?_; clear F a; intro a F
                      refine s_stW F M.f2 rfl rfl rfl sz_32_C6 rfl rfl rfl rfl rfl ?_; (clear M; try clear w); intro w M
                      refine s_I F rfl rfl rfl rfl rfl rfl ?_; clear F a; intro a F
                      refine t_endM M ?_; (clear M; try clear w); intro w M
                      refine wp_ret ?_
                      refine rt2 F rfl (by exact rv_a F rfl ag_32_C6 rfl (cells_whole M.h0)) (rv_t F rfl) ?_
                      -- end 2
                      have hd : dn c m = _ := hq3.symm.trans hc30
                      refine ⟨_, (.slice xA (c.L ++ [m]).length xc, .slice oA2 (out1 m ++ out2 c m).length oc2), rfl, ?_, ?_⟩
                      · rw [take_yes hcnt]; simp [stp, hd]
                      rw [take_yes hcnt]
                      have M1 : Sep _ _ _ (slR (.slice oA2 _ _) _ _ _ _ :: _) := M.f4; replace M := M1; clear M1
                      have M1 : Sep _ _ _ (slR (.slice xA _ _) _ _ _ _ :: _) := M.f4; replace M := M1; clear M1
                      exact Sep.left (r := _) M
                    ·
                      clear F; intro hc31 F
                      try rw [hc31] at F
                      skip
                      refine wp_skip ?_
                      refine wp_seq ?_
                      replace F := F.keep [2, 3, 4, 7] rfl
                      refine wp_region_l [.rd, .ind, .wr, .ind] ([0, 1, 2, 3]) rfl ?_
                      refine s_lda F rfl rfl rfl rfl ag_32_C6 rfl rfl (cells_whole M.h0) ?_; clear F a; intro a F
                      refine s_I F rfl rfl rfl rfl rfl rfl ?_; clear F a; intro a F
                      refine s_stW F M.f2 rfl rfl rfl sz_32_C6 rfl rfl rfl rfl rfl ?_; (clear M; try clear w); intro w M
                      refine s_I F rfl rfl rfl rfl rfl rfl ?_; clear F a; intro a F
                      refine t_endM M ?_; (clear M; try clear w); intro w M
                      refine wp_ret ?_
                      refine rt2 F rfl (by exact rv_a F rfl ag_32_C6 rfl (cells_whole M.h0)) (rv_t F rfl) ?_
                      -- end 3
                      have hd : dn c m = _ := hq3.symm.trans hc31
                      refine ⟨_, (.slice xA (c.L ++ [m]).length xc, .slice oA2 (out1 m ++ out2 c m).length oc2), rfl, ?_, ?_⟩
                      · rw [take_yes hcnt]; simp [stp, hd]
                      rw [take_yes hcnt]
                      have M1 : Sep _ _ _ (slR (.slice oA2 _ _) _ _ _ _ :: _) := M.f4; replace M := M1; clear M1
                      have M1 : Sep _ _ _ (slR (.slice xA _ _) _ _ _ _ :: _) := M.f4; replace M := M1; clear M1
                      exact Sep.left (r := _) M
end Go.Proofs.Ytibomfgeemhogaa
