/- B5 of the seat. -/
import Derived.Test.YtboibdmflblphaaB4
namespace Go.Proofs.Ytboibdmflblphaa
open Go Fw
theorem fa_82_0_B5 : FA Try.prog 82 0 0 := fun _ _ _ => by kernel_rfl
theorem sc_3_B5 : scalB Try.prog 3 = true := by kernel_rfl
theorem fa_82_2_B5 : FA Try.prog 82 2 2 := fun _ _ _ => by kernel_rfl
theorem cb_53_B5 : callB Try.prog 53 = true := by kernel_rfl
theorem cb_90_B5 : callB Try.prog 90 = true := by kernel_rfl
theorem fa_82_1_B5 : FA Try.prog 82 1 1 := fun _ _ _ => by kernel_rfl
theorem fa_82_3_B5 : FA Try.prog 82 3 3 := fun _ _ _ => by kernel_rfl
theorem ag_32_B5 : aggB Try.prog 32 = some 5 := by kernel_rfl
theorem cb_91_B5 : callB Try.prog 91 = true := by kernel_rfl
theorem cb_96_B5 : callB Try.prog 96 = true := by kernel_rfl
theorem sl_69_B5 : slcB Try.prog 69 = some (9, 1) := by kernel_rfl
theorem bl_157_1_B5 : ∀ (x1 : Option Nat), ∀ w : World, (Instr.build 157 #[(1, .map x1)]).run Try.prog w = .ok (.agg #[.slice none 0 0, .map x1, .slice none 0 0]) w := by intros; kernel_rfl
theorem sc_9_B5 : scalB Try.prog 9 = true := by kernel_rfl
theorem cb_39_B5 : callB Try.prog 39 = true := by kernel_rfl
theorem pt_50_B5 : ptrB Try.prog 50 = true := by kernel_rfl
theorem fa_157_0_B5 : FA Try.prog 157 0 0 := fun _ _ _ => by kernel_rfl
theorem sc_154_B5 : scalB Try.prog 154 = true := by kernel_rfl
theorem bs_154_1_B5 : ∀ (x0 : Option Addr), News Try.prog (Instr.buildSlice 154 1 #[(0, .pointer x0)]) (.cells #[.pointer x0] 50) fun b => .slice (some ⟨b, 0, none⟩) 1 1 := by intros; intro w; kernel_rfl
theorem tl_154_B5 : SlT Try.prog 154 50 1 8 (.pointer none) := ⟨by kernel_rfl, by kernel_rfl, by kernel_rfl, by kernel_rfl, by decide⟩
theorem sz_154_B5 : sizeB Try.prog 154 = some 1 := by kernel_rfl
theorem fa_157_1_B5 : FA Try.prog 157 1 1 := fun _ _ _ => by kernel_rfl
theorem sc_153_B5 : scalB Try.prog 153 = true := by kernel_rfl
theorem mp_153_B5 : mapB Try.prog 153 = some (3, 4) := by kernel_rfl
theorem sl_154_B5 : slcB Try.prog 154 = some (50, 1) := by kernel_rfl
theorem sc_50_B5 : scalB Try.prog 50 = true := by kernel_rfl
theorem cb_44_B5 : callB Try.prog 44 = true := by kernel_rfl
theorem cb_92_B5 : callB Try.prog 92 = true := by kernel_rfl
open VoteM AgrM CouM

def encDd (d : Deed) : List Value := [.int .i64 d.kind, .int .i64 d.node, .int .i64 d.at_, .int .i64 d.w.kind, .int .i64 d.w.frm, .int .i64 d.w.round, .int .i64 d.w.valid, .string d.w.value]
theorem dd_word {w : World} {b : Nat} {x : Deed} {T : TypeId} {fz : Nat × Nat} (hb : w.heap[b]? = some (.cells (encDd x).toArray T fz)) : ∀ j v, (encW x.w).toArray[j]? = some v → w.cell? ((⟨b, 3, none⟩ : Addr).add j) = some v := by
  refine cells_part hb fun j v hv => ?_
  have hj : j < 5 := (Array.getElem?_eq_some_iff.1 hv).1
  have : j = 0 ∨ j = 1 ∨ j = 2 ∨ j = 3 ∨ j = 4 := by omega
  rcases this with rfl | rfl | rfl | rfl | rfl <;> exact hv
theorem doit1 {C : Cou} {d : Deed} (h : d.kind = 1) : C.doit d = C.deliver d.at_ := if_pos h
theorem doit2 {C : Cou} {d : Deed} (h : d.kind = 2) : C.doit d = C.lose d.at_ := by unfold Cou.doit; rw [if_neg (by omega), if_pos h]
theorem doit3 {C : Cou} {d : Deed} (h : d.kind = 3) : C.doit d = C.forge d.node d.w := by unfold Cou.doit; rw [if_neg (by omega), if_neg (by omega), if_pos h]
theorem doit4 {C : Cou} {d : Deed} (h : d.kind = 4) : C.doit d = C.timeout d.node d.at_ := by unfold Cou.doit; rw [if_neg (by omega), if_neg (by omega), if_neg (by omega), if_pos h]
theorem doit0 {C : Cou} {d : Deed} (h1 : ¬ d.kind = 1) (h2 : ¬ d.kind = 2) (h3 : ¬ d.kind = 3) (h4 : ¬ d.kind = 4) : C.doit d = (C, false) := by unfold Cou.doit; rw [if_neg h1, if_neg h2, if_neg h3, if_neg h4]
theorem okC_of {n t h : Int} {vs : List ByteArray} (h1 : 1 ≤ n) (h2 : 0 ≤ t) (h3 : (vs.length : Int) = n - t) (h4 : ∀ i, i < vs.length → okA n t ((i : Int) + 1) h ((vs[i]?).getD VoteM.empty) = true) : okC n t h vs = true := by
  simp only [okC, Bool.and_eq_true, decide_eq_true_eq, List.all_eq_true, List.mem_range]
  exact ⟨⟨h1, h2, h3⟩, h4⟩
theorem c39e (n t me h : Int) (s : ByteArray) (w0 : World) : Cl Try.prog 39 #[.int .i64 n, .int .i64 t, .int .i64 me, .int .i64 h, .string s] w0 (RetS [] w0 (fun v (x : Option Nat) => v = .pointer (x.map fun b => ⟨b, 0, none⟩) ∧ x.isNone = !okA n t me h s) fun _ => []) := by
  cases hk : okA n t me h s
  · refine ⟨(c39n n t me h s hk w0).out.mono ?_⟩
    rintro _ w' ⟨v, e, hp, hc⟩
    exact ⟨v, none, e, ⟨hp, rfl⟩, (Sep.nil (fun b => b ∈ foots ([] : List Res)) w0).quiet hc⟩
  · refine ⟨(c39r n t me h s hk w0).out.mono ?_⟩
    rintro _ w' ⟨v, g, e, hp, hc⟩
    exact ⟨v, some g.b, e, ⟨hp, rfl⟩, hc.tl⟩
theorem opnN_zero (k : Int) : (none : Option Value) = opnD (opnN 0) k := by
  unfold opnD opnN
  rw [if_neg (by simp; omega)]
theorem opnN_succ (m : Nat) (k : Int) : (if k = (m : Int) + 1 then some (Value.bool true) else opnD (opnN m) k) = opnD (opnN (m + 1)) k := by
  unfold opnD opnN
  by_cases e : k = (m : Int) + 1
  · rw [if_pos e, if_pos (by simp; omega)]
  · rw [if_neg e]
    by_cases e2 : 1 ≤ k ∧ k ≤ (m : Int)
    · rw [if_pos (by simp; omega), if_pos (by simp; omega)]
    · rw [if_neg (by simp; omega), if_neg (by simp; omega)]
theorem startO_le (a : ASt) : a.startO.length ≤ 1 := by
  unfold ASt.startO
  split
  · simp
  · exact beginO_len _ _
theorem set_same {α : Type} {l : List α} {i : Nat} {x : α} (h : l[i]? = some x) : l.set i x = l := by
  obtain ⟨h1, h2⟩ := List.getElem?_eq_some_iff.1 h
  rw [← h2]; exact List.set_getElem_self h1
theorem midA0 {n t h : Int} {vs : List ByteArray} : (List.range vs.length).map (fA n t h vs) = midA n t h vs 0 := by
  unfold midA
  exact List.map_congr_left fun i _ => by rw [if_neg (by omega)]
theorem zip_snoc {α β : Type} {l : List α} {m : List β} {a : α} {b : β} (h : l.length = m.length) : l.zip m ++ [(a, b)] = (l ++ [a]).zip (m ++ [b]) := by
  rw [List.zip_append h]; rfl

def encS (s : ByteArray) : List Value := [.string s]
set_option maxRecDepth 100000 in
set_option maxHeartbeats 400000 in
theorem c56 {n t : Int} (γ : Gc) (C : Cou) (W : C.Wf n t) (d : Deed) (w0 : World) (ho : Own w0.heap [couR γ C]) : Cl Try.prog 56 #[.pointer (some ⟨γ.b, 0, none⟩), .agg (encDd d).toArray] w0 (RetS [couR γ C] w0 (fun v (γ2 : Gc) => v = .bool (C.doit d).2 ∧ γ2.b = γ.b) fun γ2 => [couR γ2 (C.doit d).1]) := by
  have M : Sep (fun b_ => b_ ∈ foots [couR γ C]) w0 w0 _ := Sep.start ho
  refine enter (vs := [_, _]) Try.func56 rfl rfl rfl ?_
  intro a F
  refine wp_seq ?_
  refine wp_region_l [.wr, .ind] ([0, 1]) rfl ?_
  refine s_bxA F M rfl rfl rfl rfl rfl ?_; (clear F a M; try clear w); intro b3 w M a F
  refine s_I F rfl rfl rfl rfl rfl rfl ?_; clear F a; intro a F
  refine t_endM M ?_; (clear M; try clear w); intro w M
  refine wp_seq ?_
  refine wp_seq ?_
  refine wp_region_l [.ind, .rd] ([0, 1]) rfl ?_
  refine s_fa0 F rfl rfl rfl rfl fa_82_0_B5 rfl ?_; clear F a; intro a F
  refine s_ld F rfl rfl rfl rfl sc_3_B5 rfl (by exact cell_of_blk M.h0 (lit rfl)) ?_; clear F a; intro a F
  refine t_endM M ?_; (clear M; try clear w); intro w M
  refine wp_block ?_
  refine wp_seq ?_
  replace F := F.keep [0, 1, 3, 4, 6] rfl
  refine wp_region_l [.ind, .ind] ([0, 1]) rfl ?_
  refine s_bin F rfl rfl rfl rfl rfl rfl rfl ?_; clear F a; intro a F
  refine s_I F rfl rfl rfl rfl rfl rfl ?_; clear F a; intro a F
  refine t_endM M ?_; (clear M; try clear w); intro w M
  refine c_if F rfl ?_ ?_
  ·
    clear F; intro hc0 F
    try rw [hc0] at F
    replace hc0 := of_decide_eq_true hc0
    refine wp_seq ?_
    replace F := F.keep [0, 1, 3, 4, 6] rfl
    refine wp_region_l [.ind, .ind, .rd, .wr, .ind] ([0, 1, 2, 3, 4]) rfl ?_
    refine s_I F rfl rfl rfl rfl rfl rfl ?_; clear F a; intro a F
    refine s_fa0 F rfl rfl rfl rfl fa_82_2_B5 rfl ?_; clear F a; intro a F
    refine s_ld F rfl rfl rfl rfl sc_3_B5 rfl (by exact cell_of_blk M.h0 (lit rfl)) ?_; clear F a; intro a F
    have M1 : Sep _ _ _ (couR _ _ :: _) := M.f1; replace M := M1; clear M1
    refine s_call (m := [_]) F M rfl rfl rfl rfl rfl (rfl : _ = some [_, _]) cb_53_B5 (fun nd_ => c53 γ C W d.at_ _ (M.drewN nd_).own.one) ?_; (clear F a M; try clear w); rintro v γ2 w ⟨rfl, hb2⟩ M a F; (try simp only [List.cons_append, List.nil_append] at M)
    refine s_I F rfl rfl rfl rfl rfl rfl ?_; clear F a; intro a F
    refine t_endM M ?_; (clear M; try clear w); intro w M
    refine wp_ret ?_
    refine ret1 F rfl rfl ?_
    -- end 0
    rw [doit1 (by assumption)]
    refine ⟨_, γ2, rfl, ⟨rfl, hb2⟩, ?_⟩
    refine M.pick ?_; repeat (first | exact PkG.nil | refine PkG.cons 0 rfl rfl ?_)
  ·
    clear F; intro hc1 F
    try rw [hc1] at F
    replace hc1 := of_decide_eq_false hc1
    refine wp_seq ?_
    replace F := F.keep [0, 1, 3, 4, 6] rfl
    refine wp_region_l [.ind, .ind] ([0, 1]) rfl ?_
    refine s_bin F rfl rfl rfl rfl rfl rfl rfl ?_; clear F a; intro a F
    refine s_I F rfl rfl rfl rfl rfl rfl ?_; clear F a; intro a F
    refine t_endM M ?_; (clear M; try clear w); intro w M
    refine c_if F rfl ?_ ?_
    ·
      clear F; intro hc2 F
      try rw [hc2] at F
      replace hc2 := of_decide_eq_true hc2
      refine wp_seq ?_
      replace F := F.keep [0, 1, 3, 4, 6] rfl
      refine wp_region_l [.ind, .ind, .rd, .wr, .ind] ([0, 1, 2, 3, 4]) rfl ?_
      refine s_I F rfl rfl rfl rfl rfl rfl ?_; clear F a; intro a F
      refine s_fa0 F rfl rfl rfl rfl fa_82_2_B5 rfl ?_; clear F a; intro a F
      refine s_ld F rfl rfl rfl rfl sc_3_B5 rfl (by exact cell_of_blk M.h0 (lit rfl)) ?_; clear F a; intro a F
      have M1 : Sep _ _ _ (couR _ _ :: _) := M.f1; replace M := M1; clear M1
      refine s_call (m := [_]) F M rfl rfl rfl rfl rfl (rfl : _ = some [_, _]) cb_90_B5 (fun nd_ => c90 γ C W d.at_ _ (M.drewN nd_).own.one) ?_; (clear F a M; try clear w); rintro v γ2 w ⟨rfl, hb2⟩ M a F; (try simp only [List.cons_append, List.nil_append] at M)
      refine s_I F rfl rfl rfl rfl rfl rfl ?_; clear F a; intro a F
      refine t_endM M ?_; (clear M; try clear w); intro w M
      refine wp_ret ?_
      refine ret1 F rfl rfl ?_
      -- end 1
      rw [doit2 (by assumption)]
      refine ⟨_, γ2, rfl, ⟨rfl, hb2⟩, ?_⟩
      refine M.pick ?_; repeat (first | exact PkG.nil | refine PkG.cons 0 rfl rfl ?_)
    ·
      clear F; intro hc3 F
      try rw [hc3] at F
      replace hc3 := of_decide_eq_false hc3
      refine wp_seq ?_
      replace F := F.keep [0, 1, 3, 4, 6] rfl
      refine wp_region_l [.ind, .ind] ([0, 1]) rfl ?_
      refine s_bin F rfl rfl rfl rfl rfl rfl rfl ?_; clear F a; intro a F
      refine s_I F rfl rfl rfl rfl rfl rfl ?_; clear F a; intro a F
      refine t_endM M ?_; (clear M; try clear w); intro w M
      refine c_if F rfl ?_ ?_
      ·
        clear F; intro hc4 F
        try rw [hc4] at F
        replace hc4 := of_decide_eq_true hc4
        refine wp_seq ?_
        replace F := F.keep [0, 1, 3, 4, 6] rfl
        refine wp_region_l [.ind, .ind, .rd, .ind, .rd, .wr, .ind] ([0, 1, 2, 3, 4, 5, 6]) rfl ?_
        refine s_I F rfl rfl rfl rfl rfl rfl ?_; clear F a; intro a F
        refine s_fa0 F rfl rfl rfl rfl fa_82_1_B5 rfl ?_; clear F a; intro a F
        refine s_ld F rfl rfl rfl rfl sc_3_B5 rfl (by exact cell_of_blk M.h0 (lit rfl)) ?_; clear F a; intro a F
        refine s_fa0 F rfl rfl rfl rfl fa_82_3_B5 rfl ?_; clear F a; intro a F
        refine s_lda F rfl rfl rfl rfl ag_32_B5 rfl rfl (dd_word M.h0) ?_; clear F a; intro a F
        have M1 : Sep _ _ _ (couR _ _ :: _) := M.f1; replace M := M1; clear M1
        refine s_call (m := [_]) F M rfl rfl rfl rfl rfl (rfl : _ = some [_, _, _]) cb_91_B5 (fun nd_ => c91 γ C W d.node d.w _ (M.drewN nd_).own.one) ?_; (clear F a M; try clear w); rintro v γ2 w ⟨rfl, hb2⟩ M a F; (try simp only [List.cons_append, List.nil_append] at M)
        refine s_I F rfl rfl rfl rfl rfl rfl ?_; clear F a; intro a F
        refine t_endM M ?_; (clear M; try clear w); intro w M
        refine wp_ret ?_
        refine ret1 F rfl rfl ?_
        -- end 2
        rw [doit3 (by assumption)]
        refine ⟨_, γ2, rfl, ⟨rfl, hb2⟩, ?_⟩
        refine M.pick ?_; repeat (first | exact PkG.nil | refine PkG.cons 0 rfl rfl ?_)
      ·
        clear F; intro hc5 F
        try rw [hc5] at F
        replace hc5 := of_decide_eq_false hc5
        refine wp_seq ?_
        replace F := F.keep [0, 1, 3, 4, 6] rfl
        refine wp_region_l [.ind, .ind] ([0, 1]) rfl ?_
        refine s_bin F rfl rfl rfl rfl rfl rfl rfl ?_; clear F a; intro a F
        refine s_I F rfl rfl rfl rfl rfl rfl ?_; clear F a; intro a F
        refine t_endM M ?_; (clear M; try clear w); intro w M
        refine c_if F rfl ?_ ?_
        ·
          clear F; intro hc6 F
          try rw [hc6] at F
          replace hc6 := of_decide_eq_true hc6
          refine wp_seq ?_
          replace F := F.keep [0, 1, 3, 4, 6] rfl
          refine wp_region_l [.ind, .ind, .rd, .ind, .rd, .wr, .ind] ([0, 1, 2, 3, 4, 5, 6]) rfl ?_
          refine s_I F rfl rfl rfl rfl rfl rfl ?_; clear F a; intro a F
          refine s_fa0 F rfl rfl rfl rfl fa_82_1_B5 rfl ?_; clear F a; intro a F
          refine s_ld F rfl rfl rfl rfl sc_3_B5 rfl (by exact cell_of_blk M.h0 (lit rfl)) ?_; clear F a; intro a F
          refine s_fa0 F rfl rfl rfl rfl fa_82_2_B5 rfl ?_; clear F a; intro a F
          refine s_ld F rfl rfl rfl rfl sc_3_B5 rfl (by exact cell_of_blk M.h0 (lit rfl)) ?_; clear F a; intro a F
          have M1 : Sep _ _ _ (couR _ _ :: _) := M.f1; replace M := M1; clear M1
          refine s_call (m := [_]) F M rfl rfl rfl rfl rfl (rfl : _ = some [_, _, _]) cb_96_B5 (fun nd_ => c96 γ C W d.node d.at_ _ (M.drewN nd_).own.one) ?_; (clear F a M; try clear w); rintro v γ2 w ⟨rfl, hb2⟩ M a F; (try simp only [List.cons_append, List.nil_append] at M)
          refine s_I F rfl rfl rfl rfl rfl rfl ?_; clear F a; intro a F
          refine t_endM M ?_; (clear M; try clear w); intro w M
          refine wp_ret ?_
          refine ret1 F rfl rfl ?_
          -- end 3
          rw [doit4 (by assumption)]
          refine ⟨_, γ2, rfl, ⟨rfl, hb2⟩, ?_⟩
          refine M.pick ?_; repeat (first | exact PkG.nil | refine PkG.cons 0 rfl rfl ?_)
        ·
          clear F; intro hc7 F
          try rw [hc7] at F
          replace hc7 := of_decide_eq_false hc7
          refine wp_skip ?_
          refine wp_seq ?_
          replace F := F.keep [0, 1, 3, 4, 6] rfl
          refine wp_region_l [.ind] ([0]) rfl ?_
          refine s_I F rfl rfl rfl rfl rfl rfl ?_; clear F a; intro a F
          refine t_endM M ?_; (clear M; try clear w); intro w M
          refine wp_ret ?_
          refine ret1 F rfl rfl ?_
          -- end 4
          rw [doit0 (by assumption) (by assumption) (by assumption) (by assumption)]
          refine ⟨_, γ, rfl, ⟨rfl, rfl⟩, ?_⟩
          refine M.pick ?_; repeat (first | exact PkG.nil | refine PkG.cons 1 rfl rfl ?_)
set_option maxRecDepth 100000 in
set_option maxHeartbeats 400000 in
theorem c56n (d : Deed) (w0 : World) : Cl Try.prog 56 #[.pointer none, .agg (encDd d).toArray] w0 (RetQ w0 fun v => v = .bool false) := by
  have M : Sep (fun _ => False) w0 w0 _ := Sep.nil _ w0
  refine enter (vs := [_, _]) Try.func56 rfl rfl rfl ?_
  intro a F
  refine wp_seq ?_
  refine wp_region_l [.wr, .ind] ([0, 1]) rfl ?_
  refine s_bxA F M rfl rfl rfl rfl rfl ?_; (clear F a M; try clear w); intro b3 w M a F
  refine s_I F rfl rfl rfl rfl rfl rfl ?_; clear F a; intro a F
  refine t_endM M ?_; (clear M; try clear w); intro w M
  refine wp_seq ?_
  refine wp_seq ?_
  refine wp_region_l [.ind, .rd] ([0, 1]) rfl ?_
  refine s_fa0 F rfl rfl rfl rfl fa_82_0_B5 rfl ?_; clear F a; intro a F
  refine s_ld F rfl rfl rfl rfl sc_3_B5 rfl (by exact cell_of_blk M.h0 (lit rfl)) ?_; clear F a; intro a F
  refine t_endM M ?_; (clear M; try clear w); intro w M
  refine wp_block ?_
  refine wp_seq ?_
  replace F := F.keep [0, 1, 3, 4, 6] rfl
  refine wp_region_l [.ind, .ind] ([0, 1]) rfl ?_
  refine s_bin F rfl rfl rfl rfl rfl rfl rfl ?_; clear F a; intro a F
  refine s_I F rfl rfl rfl rfl rfl rfl ?_; clear F a; intro a F
  refine t_endM M ?_; (clear M; try clear w); intro w M
  refine c_if F rfl ?_ ?_
  ·
    clear F; intro hc0 F
    try rw [hc0] at F
    replace hc0 := of_decide_eq_true hc0
    refine wp_seq ?_
    replace F := F.keep [0, 1, 3, 4, 6] rfl
    refine wp_region_l [.ind, .ind, .rd, .wr, .ind] ([0, 1, 2, 3, 4]) rfl ?_
    refine s_I F rfl rfl rfl rfl rfl rfl ?_; clear F a; intro a F
    refine s_fa0 F rfl rfl rfl rfl fa_82_2_B5 rfl ?_; clear F a; intro a F
    refine s_ld F rfl rfl rfl rfl sc_3_B5 rfl (by exact cell_of_blk M.h0 (lit rfl)) ?_; clear F a; intro a F
    refine s_cq F M rfl rfl rfl rfl rfl (rfl : _ = some [_, _]) cb_53_B5 (fun nd_ => c53n d.at_ _) ?_; (clear F a M; try clear w); rintro v w rfl M a F
    refine s_I F rfl rfl rfl rfl rfl rfl ?_; clear F a; intro a F
    refine t_endM M ?_; (clear M; try clear w); intro w M
    refine wp_ret ?_
    refine ret1 F rfl rfl ?_
    -- end 0
    exact ⟨_, rfl, rfl, M.chg⟩
  ·
    clear F; intro hc1 F
    try rw [hc1] at F
    replace hc1 := of_decide_eq_false hc1
    refine wp_seq ?_
    replace F := F.keep [0, 1, 3, 4, 6] rfl
    refine wp_region_l [.ind, .ind] ([0, 1]) rfl ?_
    refine s_bin F rfl rfl rfl rfl rfl rfl rfl ?_; clear F a; intro a F
    refine s_I F rfl rfl rfl rfl rfl rfl ?_; clear F a; intro a F
    refine t_endM M ?_; (clear M; try clear w); intro w M
    refine c_if F rfl ?_ ?_
    ·
      clear F; intro hc2 F
      try rw [hc2] at F
      replace hc2 := of_decide_eq_true hc2
      refine wp_seq ?_
      replace F := F.keep [0, 1, 3, 4, 6] rfl
      refine wp_region_l [.ind, .ind, .rd, .wr, .ind] ([0, 1, 2, 3, 4]) rfl ?_
      refine s_I F rfl rfl rfl rfl rfl rfl ?_; clear F a; intro a F
      refine s_fa0 F rfl rfl rfl rfl fa_82_2_B5 rfl ?_; clear F a; intro a F
      refine s_ld F rfl rfl rfl rfl sc_3_B5 rfl (by exact cell_of_blk M.h0 (lit rfl)) ?_; clear F a; intro a F
      refine s_cq F M rfl rfl rfl rfl rfl (rfl : _ = some [_, _]) cb_90_B5 (fun nd_ => c90n d.at_ _) ?_; (clear F a M; try clear w); rintro v w rfl M a F
      refine s_I F rfl rfl rfl rfl rfl rfl ?_; clear F a; intro a F
      refine t_endM M ?_; (clear M; try clear w); intro w M
      refine wp_ret ?_
      refine ret1 F rfl rfl ?_
      -- end 1
      exact ⟨_, rfl, rfl, M.chg⟩
    ·
      clear F; intro hc3 F
      try rw [hc3] at F
      replace hc3 := of_decide_eq_false hc3
      refine wp_seq ?_
      replace F := F.keep [0, 1, 3, 4, 6] rfl
      refine wp_region_l [.ind, .ind] ([0, 1]) rfl ?_
      refine s_bin F rfl rfl rfl rfl rfl rfl rfl ?_; clear F a; intro a F
      refine s_I F rfl rfl rfl rfl rfl rfl ?_; clear F a; intro a F
      refine t_endM M ?_; (clear M; try clear w); intro w M
      refine c_if F rfl ?_ ?_
      ·
        clear F; intro hc4 F
        try rw [hc4] at F
        replace hc4 := of_decide_eq_true hc4
        refine wp_seq ?_
        replace F := F.keep [0, 1, 3, 4, 6] rfl
        refine wp_region_l [.ind, .ind, .rd, .ind, .rd, .wr, .ind] ([0, 1, 2, 3, 4, 5, 6]) rfl ?_
        refine s_I F rfl rfl rfl rfl rfl rfl ?_; clear F a; intro a F
        refine s_fa0 F rfl rfl rfl rfl fa_82_1_B5 rfl ?_; clear F a; intro a F
        refine s_ld F rfl rfl rfl rfl sc_3_B5 rfl (by exact cell_of_blk M.h0 (lit rfl)) ?_; clear F a; intro a F
        refine s_fa0 F rfl rfl rfl rfl fa_82_3_B5 rfl ?_; clear F a; intro a F
        refine s_lda F rfl rfl rfl rfl ag_32_B5 rfl rfl (dd_word M.h0) ?_; clear F a; intro a F
        refine s_cq F M rfl rfl rfl rfl rfl (rfl : _ = some [_, _, _]) cb_91_B5 (fun nd_ => c91n d.node d.w _) ?_; (clear F a M; try clear w); rintro v w rfl M a F
        refine s_I F rfl rfl rfl rfl rfl rfl ?_; clear F a; intro a F
        refine t_endM M ?_; (clear M; try clear w); intro w M
        refine wp_ret ?_
        refine ret1 F rfl rfl ?_
        -- end 2
        exact ⟨_, rfl, rfl, M.chg⟩
      ·
        clear F; intro hc5 F
        try rw [hc5] at F
        replace hc5 := of_decide_eq_false hc5
        refine wp_seq ?_
        replace F := F.keep [0, 1, 3, 4, 6] rfl
        refine wp_region_l [.ind, .ind] ([0, 1]) rfl ?_
        refine s_bin F rfl rfl rfl rfl rfl rfl rfl ?_; clear F a; intro a F
        refine s_I F rfl rfl rfl rfl rfl rfl ?_; clear F a; intro a F
        refine t_endM M ?_; (clear M; try clear w); intro w M
        refine c_if F rfl ?_ ?_
        ·
          clear F; intro hc6 F
          try rw [hc6] at F
          replace hc6 := of_decide_eq_true hc6
          refine wp_seq ?_
          replace F := F.keep [0, 1, 3, 4, 6] rfl
          refine wp_region_l [.ind, .ind, .rd, .ind, .rd, .wr, .ind] ([0, 1, 2, 3, 4, 5, 6]) rfl ?_
          refine s_I F rfl rfl rfl rfl rfl rfl ?_; clear F a; intro a F
          refine s_fa0 F rfl rfl rfl rfl fa_82_1_B5 rfl ?_; clear F a; intro a F
          refine s_ld F rfl rfl rfl rfl sc_3_B5 rfl (by exact cell_of_blk M.h0 (lit rfl)) ?_; clear F a; intro a F
          refine s_fa0 F rfl rfl rfl rfl fa_82_2_B5 rfl ?_; clear F a; intro a F
          refine s_ld F rfl rfl rfl rfl sc_3_B5 rfl (by exact cell_of_blk M.h0 (lit rfl)) ?_; clear F a; intro a F
          refine s_cq F M rfl rfl rfl rfl rfl (rfl : _ = some [_, _, _]) cb_96_B5 (fun nd_ => c96n d.node d.at_ _) ?_; (clear F a M; try clear w); rintro v w rfl M a F
          refine s_I F rfl rfl rfl rfl rfl rfl ?_; clear F a; intro a F
          refine t_endM M ?_; (clear M; try clear w); intro w M
          refine wp_ret ?_
          refine ret1 F rfl rfl ?_
          -- end 3
          exact ⟨_, rfl, rfl, M.chg⟩
        ·
          clear F; intro hc7 F
          try rw [hc7] at F
          replace hc7 := of_decide_eq_false hc7
          refine wp_skip ?_
          refine wp_seq ?_
          replace F := F.keep [0, 1, 3, 4, 6] rfl
          refine wp_region_l [.ind] ([0]) rfl ?_
          refine s_I F rfl rfl rfl rfl rfl rfl ?_; clear F a; intro a F
          refine t_endM M ?_; (clear M; try clear w); intro w M
          refine wp_ret ?_
          refine ret1 F rfl rfl ?_
          -- end 4
          exact ⟨_, rfl, rfl, M.chg⟩
set_option maxRecDepth 100000 in
set_option maxHeartbeats 400000 in
theorem c52a (n t h : Int) (hn : In64 n) (ht : In64 t) (vs : List ByteArray) (vv : Value) (hk : ¬ (1 ≤ n ∧ 0 ≤ t ∧ (vs.length : Int) = n - t)) (w0 : World) (hr : RdSl w0.heap vv vs.length 1 (vs.flatMap encS)) : Cl Try.prog 52 #[.int .i64 n, .int .i64 t, .int .i64 h, vv] w0 (RetQ w0 fun v => v = .pointer none) := by
  have M : Sep (fun _ => False) w0 w0 _ := Sep.nil _ w0
  have hro := ro_of hr
  obtain ⟨VA, VC, rfl, hcc⟩ := hr.form
  obtain ⟨hn1, hn2⟩ := hn
  obtain ⟨ht1, ht2⟩ := ht
  refine enter (vs := [_, _, _, _]) Try.func52 rfl rfl rfl ?_
  intro a F
  refine wp_seq ?_
  refine wp_region_l [.ind] ([0]) rfl ?_
  refine s_I F rfl rfl rfl rfl rfl rfl ?_; clear F a; intro a F
  refine t_endM M ?_; (clear M; try clear w); intro w M
  refine wp_seq ?_
  refine wp_seq ?_
  refine wp_region_l [.ind, .ind, .ind, .ind, .ind, .ind, .ind, .ind, .ind, .ind, .ind, .ind, .ind, .ind] ([0, 1, 2, 3, 4, 5, 6, 7, 8, 9, 10, 11, 12, 13]) rfl ?_
  refine s_I F rfl rfl rfl rfl rfl rfl ?_; clear F a; intro a F
  refine s_bin F rfl rfl rfl rfl rfl rfl rfl ?_; clear F a; intro a F
  refine s_I F rfl rfl rfl rfl rfl rfl ?_; clear F a; intro a F
  refine bsplit F 17 rfl ?_ ?_
  ·
    clear F; intro hc0 F
    try rw [hc0] at F
    replace hc0 := of_decide_eq_true hc0
    refine s_no F rfl rfl rfl rfl ?_; clear F a; intro a F
    refine s_no F rfl rfl rfl rfl ?_; clear F a; intro a F
    refine s_I F rfl rfl rfl rfl rfl rfl ?_; clear F a; intro a F
    refine s_I F rfl rfl rfl rfl rfl rfl ?_; clear F a; intro a F
    refine s_no F rfl rfl rfl rfl ?_; clear F a; intro a F
    refine s_no F rfl rfl rfl rfl ?_; clear F a; intro a F
    refine s_no F rfl rfl rfl rfl ?_; clear F a; intro a F
    refine s_no F rfl rfl rfl rfl ?_; clear F a; intro a F
    refine s_no F rfl rfl rfl rfl ?_; clear F a; intro a F
    refine s_no F rfl rfl rfl rfl ?_; clear F a; intro a F
    refine s_I F rfl rfl rfl rfl rfl rfl ?_; clear F a; intro a F
    refine t_endM M ?_; (clear M; try clear w); intro w M
    refine c_t F rfl ?_
    refine wp_seq ?_
    replace F := F.keep [0, 1, 2, 3, 8] rfl
    refine wp_region_l [.ind] ([0]) rfl ?_
    refine s_I F rfl rfl rfl rfl rfl rfl ?_; clear F a; intro a F
    refine t_endM M ?_; (clear M; try clear w); intro w M
    refine wp_ret ?_
    refine ret1 F rfl rfl ?_
    -- end 0
    exact ⟨_, rfl, rfl, M.chg⟩
  ·
    clear F; intro hc1 F
    try rw [hc1] at F
    replace hc1 := of_decide_eq_false hc1
    refine s_I F rfl rfl rfl rfl rfl rfl ?_; clear F a; intro a F
    refine s_bin F rfl rfl rfl rfl rfl rfl rfl ?_; clear F a; intro a F
    refine s_I F rfl rfl rfl rfl rfl rfl ?_; clear F a; intro a F
    refine s_I F rfl rfl rfl rfl rfl rfl ?_; clear F a; intro a F
    refine bsplit F 21 rfl ?_ ?_
    ·
      clear F; intro hc2 F
      try rw [hc2] at F
      replace hc2 := of_decide_eq_true hc2
      refine s_no F rfl rfl rfl rfl ?_; clear F a; intro a F
      refine s_no F rfl rfl rfl rfl ?_; clear F a; intro a F
      refine s_no F rfl rfl rfl rfl ?_; clear F a; intro a F
      refine s_no F rfl rfl rfl rfl ?_; clear F a; intro a F
      refine s_no F rfl rfl rfl rfl ?_; clear F a; intro a F
      refine s_no F rfl rfl rfl rfl ?_; clear F a; intro a F
      refine s_I F rfl rfl rfl rfl rfl rfl ?_; clear F a; intro a F
      refine t_endM M ?_; (clear M; try clear w); intro w M
      refine c_t F rfl ?_
      refine wp_seq ?_
      replace F := F.keep [0, 1, 2, 3, 8] rfl
      refine wp_region_l [.ind] ([0]) rfl ?_
      refine s_I F rfl rfl rfl rfl rfl rfl ?_; clear F a; intro a F
      refine t_endM M ?_; (clear M; try clear w); intro w M
      refine wp_ret ?_
      refine ret1 F rfl rfl ?_
      -- end 1
      exact ⟨_, rfl, rfl, M.chg⟩
    ·
      clear F; intro hc3 F
      try rw [hc3] at F
      replace hc3 := of_decide_eq_false hc3
      refine s_I F rfl rfl rfl rfl rfl rfl ?_; clear F a; intro a F
      refine s_len F rfl rfl rfl rfl sl_69_B5 rfl ?_; clear F a; intro a F
      refine s_I F rfl rfl rfl rfl rfl rfl ?_; clear F a; intro a F
      refine s_I F rfl rfl rfl rfl rfl rfl ?_; clear F a; intro a F
      refine s_sub F rfl rfl rfl rfl rfl rfl (by unfold In64; omega) ?_; clear F a; intro a F
      refine s_bin F rfl rfl rfl rfl rfl rfl rfl ?_; clear F a; intro a F
      refine s_I F rfl rfl rfl rfl rfl rfl ?_; clear F a; intro a F
      refine t_endM M ?_; (clear M; try clear w); intro w M
      refine c_if F rfl ?_ ?_
      ·
        clear F; intro hc4 F
        try rw [hc4] at F
        replace hc4 := nd1 hc4
        refine wp_seq ?_
        replace F := F.keep [0, 1, 2, 3, 8] rfl
        refine wp_region_l [.ind] ([0]) rfl ?_
        refine s_I F rfl rfl rfl rfl rfl rfl ?_; clear F a; intro a F
        refine t_endM M ?_; (clear M; try clear w); intro w M
        refine wp_ret ?_
        refine ret1 F rfl rfl ?_
        -- end 2
        exact ⟨_, rfl, rfl, M.chg⟩
      ·
        clear F; intro hc5 F
        try rw [hc5] at F
        replace hc5 := nd0 hc5
        exact absurd ⟨by omega, by omega, by omega⟩ hk
set_option maxRecDepth 100000 in
set_option maxHeartbeats 2000000 in
theorem c52b (n t h : Int) (hn : In64 n) (ht : In64 t) (vs : List ByteArray) (vv : Value) (hl : vs.length ≤ 1000) (h1 : 1 ≤ n) (h2 : 0 ≤ t) (h3 : (vs.length : Int) = n - t) (hk : okC n t h vs = false) (w0 : World) (hr : RdSl w0.heap vv vs.length 1 (vs.flatMap encS)) : Cl Try.prog 52 #[.int .i64 n, .int .i64 t, .int .i64 h, vv] w0 (RetQ w0 fun v => v = .pointer none) := by
  have M : Sep (fun _ => False) w0 w0 _ := Sep.nil _ w0
  have hro := ro_of hr
  obtain ⟨VA, VC, rfl, hcc⟩ := hr.form
  obtain ⟨hn1, hn2⟩ := hn
  obtain ⟨ht1, ht2⟩ := ht
  refine enter (vs := [_, _, _, _]) Try.func52 rfl rfl rfl ?_
  intro a F
  refine wp_seq ?_
  refine wp_region_l [.ind] ([0]) rfl ?_
  refine s_I F rfl rfl rfl rfl rfl rfl ?_; clear F a; intro a F
  refine t_endM M ?_; (clear M; try clear w); intro w M
  refine wp_seq ?_
  refine wp_seq ?_
  refine wp_region_l [.ind, .ind, .ind, .ind, .ind, .ind, .ind, .ind, .ind, .ind, .ind, .ind, .ind, .ind] ([0, 1, 2, 3, 4, 5, 6, 7, 8, 9, 10, 11, 12, 13]) rfl ?_
  refine s_I F rfl rfl rfl rfl rfl rfl ?_; clear F a; intro a F
  refine s_bin F rfl rfl rfl rfl rfl rfl rfl ?_; clear F a; intro a F
  refine s_I F rfl rfl rfl rfl rfl rfl ?_; clear F a; intro a F
  refine bsplit F 17 rfl ?_ ?_
  ·
    clear F; intro hc0 F
    try rw [hc0] at F
    replace hc0 := of_decide_eq_true hc0
    refine s_no F rfl rfl rfl rfl ?_; clear F a; intro a F
    refine s_no F rfl rfl rfl rfl ?_; clear F a; intro a F
    refine s_I F rfl rfl rfl rfl rfl rfl ?_; clear F a; intro a F
    refine s_I F rfl rfl rfl rfl rfl rfl ?_; clear F a; intro a F
    refine s_no F rfl rfl rfl rfl ?_; clear F a; intro a F
    refine s_no F rfl rfl rfl rfl ?_; clear F a; intro a F
    refine s_no F rfl rfl rfl rfl ?_; clear F a; intro a F
    refine s_no F rfl rfl rfl rfl ?_; clear F a; intro a F
    refine s_no F rfl rfl rfl rfl ?_; clear F a; intro a F
    refine s_no F rfl rfl rfl rfl ?_; clear F a; intro a F
    refine s_I F rfl rfl rfl rfl rfl rfl ?_; clear F a; intro a F
    refine t_endM M ?_; (clear M; try clear w); intro w M
    refine c_t F rfl ?_
    refine wp_seq ?_
    replace F := F.keep [0, 1, 2, 3, 8] rfl
    refine wp_region_l [.ind] ([0]) rfl ?_
    refine s_I F rfl rfl rfl rfl rfl rfl ?_; clear F a; intro a F
    refine t_endM M ?_; (clear M; try clear w); intro w M
    refine wp_ret ?_
    refine ret1 F rfl rfl ?_
    -- end 0
    exact ⟨_, rfl, rfl, M.chg⟩
  ·
    clear F; intro hc1 F
    try rw [hc1] at F
    replace hc1 := of_decide_eq_false hc1
    refine s_I F rfl rfl rfl rfl rfl rfl ?_; clear F a; intro a F
    refine s_bin F rfl rfl rfl rfl rfl rfl rfl ?_; clear F a; intro a F
    refine s_I F rfl rfl rfl rfl rfl rfl ?_; clear F a; intro a F
    refine s_I F rfl rfl rfl rfl rfl rfl ?_; clear F a; intro a F
    refine bsplit F 21 rfl ?_ ?_
    ·
      clear F; intro hc2 F
      try rw [hc2] at F
      replace hc2 := of_decide_eq_true hc2
      refine s_no F rfl rfl rfl rfl ?_; clear F a; intro a F
      refine s_no F rfl rfl rfl rfl ?_; clear F a; intro a F
      refine s_no F rfl rfl rfl rfl ?_; clear F a; intro a F
      refine s_no F rfl rfl rfl rfl ?_; clear F a; intro a F
      refine s_no F rfl rfl rfl rfl ?_; clear F a; intro a F
      refine s_no F rfl rfl rfl rfl ?_; clear F a; intro a F
      refine s_I F rfl rfl rfl rfl rfl rfl ?_; clear F a; intro a F
      refine t_endM M ?_; (clear M; try clear w); intro w M
      refine c_t F rfl ?_
      refine wp_seq ?_
      replace F := F.keep [0, 1, 2, 3, 8] rfl
      refine wp_region_l [.ind] ([0]) rfl ?_
      refine s_I F rfl rfl rfl rfl rfl rfl ?_; clear F a; intro a F
      refine t_endM M ?_; (clear M; try clear w); intro w M
      refine wp_ret ?_
      refine ret1 F rfl rfl ?_
      -- end 1
      exact ⟨_, rfl, rfl, M.chg⟩
    ·
      clear F; intro hc3 F
      try rw [hc3] at F
      replace hc3 := of_decide_eq_false hc3
      refine s_I F rfl rfl rfl rfl rfl rfl ?_; clear F a; intro a F
      refine s_len F rfl rfl rfl rfl sl_69_B5 rfl ?_; clear F a; intro a F
      refine s_I F rfl rfl rfl rfl rfl rfl ?_; clear F a; intro a F
      refine s_I F rfl rfl rfl rfl rfl rfl ?_; clear F a; intro a F
      refine s_sub F rfl rfl rfl rfl rfl rfl (by unfold In64; omega) ?_; clear F a; intro a F
      refine s_bin F rfl rfl rfl rfl rfl rfl rfl ?_; clear F a; intro a F
      refine s_I F rfl rfl rfl rfl rfl rfl ?_; clear F a; intro a F
      refine t_endM M ?_; (clear M; try clear w); intro w M
      refine c_if F rfl ?_ ?_
      ·
        clear F; intro hc4 F
        try rw [hc4] at F
        replace hc4 := nd1 hc4
        exfalso
        omega
      ·
        clear F; intro hc5 F
        try rw [hc5] at F
        replace hc5 := nd0 hc5
        refine wp_skip ?_
        refine wp_seq ?_
        replace F := F.keep [0, 1, 2, 3, 8] rfl
        refine wp_region_l [.wr, .ind, .wr, .ind] ([0, 1, 2, 3]) rfl ?_
        refine s_mm F M rfl rfl rfl rfl ?_; (clear F a M; try clear w); intro b29 w M a F
        refine s_bld F rfl rfl rfl rfl (parts1 F rfl) (bl_157_1_B5 _) ?_; clear F a; intro a F
        refine s_bxA F M rfl rfl rfl rfl rfl ?_; (clear F a M; try clear w); intro b31 w M a F
        refine s_I F rfl rfl rfl rfl rfl rfl ?_; clear F a; intro a F
        refine t_endM M ?_; (clear M; try clear w); intro w M
        refine wp_seq ?_
        refine wp_seq ?_
        replace F := F.keep [0, 1, 2, 3, 8, 9] rfl
        refine wp_region_l [.ind, .ind, .ind] ([0, 1, 2]) rfl ?_
        refine s_I F rfl rfl rfl rfl rfl rfl ?_; clear F a; intro a F
        refine s_len F rfl rfl rfl rfl sl_69_B5 rfl ?_; clear F a; intro a F
        refine s_I F rfl rfl rfl rfl rfl rfl ?_; clear F a; intro a F
        refine t_endM M ?_; (clear M; try clear w); intro w M
        refine wp_block ?_
        have M1 : Sep _ _ _ (blk b29 _ :: _) := M.f1; replace M := M1; clear M1
        replace M := M.mapNew (fun i : Int => Value.int .i64 i)
        replace M := M.mapShut (D' := opnD (opnN 0)) opnN_zero
        replace M := M.nilT encN 50 1
        have M1 : Sep _ _ _ (mapX _ _ _ :: _) := M.f1; replace M := M1; clear M1
        have M1 : Sep _ _ _ (slR _ _ 50 _ _ :: _) := M.f1; replace M := M1; clear M1
        have M1 : Sep _ _ _ (blk b31 _ :: _) := M.f2; replace M := M1; clear M1
        refine loopX (X := (Nat) × (List Nat) × (Option Addr) × (Nat)) F [0, 1, 2, 3, 9, 32, 33] rfl (fun ((k, bs, A, c) : (Nat) × (List Nat) × (Option Addr) × (Nat)) => (k ≤ vs.length) ∧ (bs.length = k) ∧ (∀ i, i < k → okA n t ((i : Int) + 1) h ((vs[i]?).getD VoteM.empty) = true)) (fun ((k, bs, A, c) : (Nat) × (List Nat) × (Option Addr) × (Nat)) => [(34, .int .i64 (k : Int))]) (fun ((k, bs, A, c) : (Nat) × (List Nat) × (Option Addr) × (Nat)) => [blk b31 (.cells #[.slice A bs.length c, .map (some b29), .slice none 0 0] 157 (0, 0)), slR (.slice A bs.length c) bs.length 50 1 (bs.flatMap encN), mapX (fun i : Int => .int .i64 i) b29 (opnD (opnN k))]) (fun ((k, bs, A, c) : (Nat) × (List Nat) × (Option Addr) × (Nat)) => vs.length - k) ((0), ([]), (none), (0)) M ⟨(by omega), rfl, (fun i hi => by omega)⟩ (F.keep [34, 0, 1, 2, 3, 9, 32, 33] rfl) ?_
        clear F M; clear a; (try clear w)
        rintro ⟨k, bs, A, c⟩ a w ⟨k1, hbl, hall⟩ F M; try dsimp only at F M
        try simp only [List.cons_append, List.nil_append] at F M
        try dsimp only at k1 hbl hall
        refine wp_seq ?_
        refine wp_region_l [.ind] ([0]) rfl ?_
        refine s_bin F rfl rfl rfl rfl rfl rfl rfl ?_; clear F a; intro a F
        refine t_endM M ?_; (clear M; try clear w); intro w M
        refine wp_seq ?_
        refine c_if F rfl ?_ ?_
        ·
          clear F; intro hc6 F
          try rw [hc6] at F
          replace hc6 := of_decide_eq_true hc6
          refine wp_skip ?_
          refine wp_seq ?_
          refine wp_block ?_
          refine wp_seq ?_
          replace F := F.keep [0, 1, 2, 3, 9, 32, 33, 34] rfl
          refine wp_region_l [.ind, .ind, .rd, .ind, .ind] ([0, 1, 2, 3, 4]) rfl ?_
          refine s_I F rfl rfl rfl rfl rfl rfl ?_; clear F a; intro a F
          refine s_ix F rfl rfl rfl rfl sl_69_B5 rfl rfl (by exact M.chg.ro hro) (by omega) (by omega) ?_; clear F a; intro e37 he37 a F
          refine s_ld F rfl rfl rfl rfl sc_9_B5 rfl (by exact rdX0 (M.chg.ro hro) (by intro e; rfl) he37 rfl) ?_; clear F a; intro a F
          refine s_I F rfl rfl rfl rfl rfl rfl ?_; clear F a; intro a F
          refine s_I F rfl rfl rfl rfl rfl rfl ?_; clear F a; intro a F
          refine t_endM M ?_; (clear M; try clear w); intro w M
          refine wp_seq ?_
          replace F := F.keep [0, 1, 2, 3, 9, 10, 11, 32, 33, 34] rfl
          refine wp_region_l [.ind, .ind, .ind, .ind, .ind, .ind, .wr, .ind] ([0, 1, 2, 3, 4, 5, 6, 7]) rfl ?_
          refine s_I F rfl rfl rfl rfl rfl rfl ?_; clear F a; intro a F
          refine s_I F rfl rfl rfl rfl rfl rfl ?_; clear F a; intro a F
          refine s_I F rfl rfl rfl rfl rfl rfl ?_; clear F a; intro a F
          refine s_add F rfl rfl rfl rfl rfl rfl (by unfold In64; omega) ?_; clear F a; intro a F
          refine s_I F rfl rfl rfl rfl rfl rfl ?_; clear F a; intro a F
          refine s_I F rfl rfl rfl rfl rfl rfl ?_; clear F a; intro a F
          refine s_call (m := []) F M rfl rfl rfl rfl rfl (rfl : _ = some [_, _, _, _, _]) cb_39_B5 (fun nd_ => c39e n t ((k : Int) + 1) h e37 _) ?_; (clear F a M; try clear w); rintro v x9 w ⟨rfl, hno⟩ M a F; (try simp only [List.cons_append, List.nil_append] at M)
          refine s_I F rfl rfl rfl rfl rfl rfl ?_; clear F a; intro a F
          refine t_endM M ?_; (clear M; try clear w); intro w M
          refine wp_seq ?_
          refine wp_seq ?_
          replace F := F.keep [0, 1, 2, 3, 9, 10, 11, 12, 32, 33, 34] rfl
          refine wp_region_l [.ind, .ind] ([0, 1]) rfl ?_
          refine s_I F rfl rfl rfl rfl rfl rfl ?_; clear F a; intro a F
          refine s_pn F rfl rfl rfl rfl pt_50_B5 rfl ?_; clear F a; intro a F
          refine t_endM M ?_; (clear M; try clear w); intro w M
          refine c_if F rfl ?_ ?_
          ·
            clear F; intro hc7 F
            try rw [hc7] at F
            skip
            refine wp_seq ?_
            replace F := F.keep [0, 1, 2, 3, 9, 10, 11, 12, 32, 33, 34] rfl
            refine wp_region_l [.ind] ([0]) rfl ?_
            refine s_I F rfl rfl rfl rfl rfl rfl ?_; clear F a; intro a F
            refine t_endM M ?_; (clear M; try clear w); intro w M
            refine wp_ret ?_
            refine ret1 F rfl rfl ?_
            -- end 2
            exact ⟨_, rfl, rfl, M.chg⟩
          ·
            clear F; intro hc8 F
            try rw [hc8] at F
            skip
            have he37b := he37
            rw [Int.toNat_natCast] at he37b
            obtain ⟨b9, rfl⟩ : ∃ b9, x9 = some b9 := (by cases x9 <;> simp_all)
            have hok : okA n t ((k : Int) + 1) h e37 = true := (by simpa using hno.symm)
            refine wp_skip ?_
            refine wp_seq ?_
            replace F := F.keep [0, 1, 2, 3, 9, 10, 11, 12, 32, 33, 34] rfl
            refine wp_region_l [.ind, .ind, .ind, .ind, .rd, .ind, .wr, .wr, .ind, .ind, .wr] ([0, 1, 2, 3, 4, 5, 6, 7, 8, 9, 10]) rfl ?_
            refine s_I F rfl rfl rfl rfl rfl rfl ?_; clear F a; intro a F
            refine s_I F rfl rfl rfl rfl rfl rfl ?_; clear F a; intro a F
            refine s_I F rfl rfl rfl rfl rfl rfl ?_; clear F a; intro a F
            refine s_fa0 F rfl rfl rfl rfl fa_157_0_B5 rfl ?_; clear F a; intro a F
            refine s_ld F rfl rfl rfl rfl sc_154_B5 rfl (by exact cell_of_blk M.h0 (lit rfl)) ?_; clear F a; intro a F
            refine s_I F rfl rfl rfl rfl rfl rfl ?_; clear F a; intro a F
            refine s_bs F M rfl rfl rfl rfl (parts1 F rfl) (bs_154_1_B5 _) ?_; (clear F a M; try clear w); intro b54 w M a F
            refine s_apE ((b9 : Nat)) F M.f2 rfl rfl rfl rfl tl_154_B5 rfl rfl (by exact rd_blk M.h0 rfl) rfl (by omega) (fun _ _ _ _ => pend_nil) ?_; (clear F a M; try clear w); intro A55 c55 w M a F
            refine s_I F rfl rfl rfl rfl rfl rfl ?_; clear F a; intro a F
            refine s_fa0 F rfl rfl rfl rfl fa_157_0_B5 rfl ?_; clear F a; intro a F
            refine s_st F M.f2 rfl rfl rfl sz_154_B5 rfl rfl rfl (by exact Nat.le_of_ble_eq_true rfl) ?_; (clear M; try clear w); intro w M
            refine t_endM M ?_; (clear M; try clear w); intro w M
            have M1 : Sep _ _ _ (mapX _ _ _ :: _) := M.f3; replace M := M1; clear M1
            obtain ⟨N9, M⟩ := M.mapOpen
            replace F := F.keep [0, 1, 2, 3, 9, 10, 11, 12, 32, 33, 34] rfl
            refine wp_region_l [.ind, .ind, .ind, .rd, .ind, .ind, .wr] ([0, 1, 2, 3, 4, 5, 6]) rfl ?_
            refine s_I F rfl rfl rfl rfl rfl rfl ?_; clear F a; intro a F
            refine s_I F rfl rfl rfl rfl rfl rfl ?_; clear F a; intro a F
            refine s_fa0 F rfl rfl rfl rfl fa_157_1_B5 rfl ?_; clear F a; intro a F
            refine s_ld F rfl rfl rfl rfl sc_153_B5 rfl (by exact cell_of_blk M.h1 (lit rfl)) ?_; clear F a; intro a F
            refine s_I F rfl rfl rfl rfl rfl rfl ?_; clear F a; intro a F
            refine s_add F rfl rfl rfl rfl rfl rfl (by unfold In64; omega) ?_; clear F a; intro a F
            have M1 : Sep _ _ _ (mapR _ _ _ _ :: _) := M; replace M := M1; clear M1
            refine s_mu keI (((k : Int) + 1)) F M rfl rfl rfl mp_153_B5 rfl rfl rfl (fun _ _ => pend_nil) ?_; (clear M; try clear w); intro w M
            refine t_endM M ?_; (clear M; try clear w); intro w M
            replace F := F.keep [0, 1, 2, 3, 9, 10, 11, 12, 32, 33, 34] rfl
            refine wp_region_l [.ind, .ind] ([0, 1]) rfl ?_
            refine s_add F rfl rfl rfl rfl rfl rfl (by unfold In64; omega) ?_; clear F a; intro a F
            refine s_I F rfl rfl rfl rfl rfl rfl ?_; clear F a; intro a F
            refine t_endM M ?_; (clear M; try clear w); intro w M
            have M1 : Sep _ _ _ (mapR _ _ _ _ :: _) := M; replace M := M1; clear M1
            replace M := M.mapShut (D' := opnD (opnN (k + 1))) (opnN_succ k)
            refine again ((k + 1), (bs ++ [b9]), (A55), (c55)) (by show _ < _; (try dsimp only); omega) ⟨(by omega), (by simp [hbl]), (fun i hi => by rcases Nat.lt_or_ge i k with e | e; exact hall i e; obtain rfl : i = k := (by omega); rw [he37b, Option.getD_some]; exact hok)⟩ (F.keep [34, 0, 1, 2, 3, 9, 32, 33] rfl) ?_
            try dsimp only [List.cons_append, List.nil_append]
            refine M.pick ?_; repeat (first | exact PkG.nil | refine PkG.cons 0 rfl rfl ?_ | refine PkG.cons 1 rfl rfl ?_ | refine PkG.cons 2 rfl rfl ?_)
        ·
          clear F; intro hc9 F
          try rw [hc9] at F
          replace hc9 := of_decide_eq_false hc9
          exfalso
          rw [okC_of h1 h2 h3 (fun i hi => hall i (by omega))] at hk
          cases hk
set_option maxRecDepth 100000 in
set_option maxHeartbeats 4000000 in
theorem c52 (n t h : Int) (hn : In64 n) (ht : In64 t) (vs : List ByteArray) (vv : Value) (hk : okC n t h vs = true) (w0 : World) (hr : RdSl w0.heap vv vs.length 1 (vs.flatMap encS)) : Cl Try.prog 52 #[.int .i64 n, .int .i64 t, .int .i64 h, vv] w0 (RetS [] w0 (fun v (γ : Gc) => v = .pointer (some ⟨γ.b, 0, none⟩)) fun γ => [couR γ (newC n t h vs)]) := by
  have M : Sep (fun b => b ∈ foots ([] : List Res)) w0 w0 _ := Sep.nil _ w0
  have hro := (ro_of hr).nil
  obtain ⟨VA, VC, rfl, hcc⟩ := hr.form
  obtain ⟨hn1, hn2⟩ := hn
  obtain ⟨ht1, ht2⟩ := ht
  obtain ⟨k1_, k2_, k3_, k4⟩ := okC_spec hk
  have h7 := okC_len hk
  refine enter (vs := [_, _, _, _]) Try.func52 rfl rfl rfl ?_
  intro a F
  refine wp_seq ?_
  refine wp_region_l [.ind] ([0]) rfl ?_
  refine s_I F rfl rfl rfl rfl rfl rfl ?_; clear F a; intro a F
  refine t_endM M ?_; (clear M; try clear w); intro w M
  refine wp_seq ?_
  refine wp_seq ?_
  refine wp_region_l [.ind, .ind, .ind, .ind, .ind, .ind, .ind, .ind, .ind, .ind, .ind, .ind, .ind, .ind] ([0, 1, 2, 3, 4, 5, 6, 7, 8, 9, 10, 11, 12, 13]) rfl ?_
  refine s_I F rfl rfl rfl rfl rfl rfl ?_; clear F a; intro a F
  refine s_bin F rfl rfl rfl rfl rfl rfl rfl ?_; clear F a; intro a F
  refine s_I F rfl rfl rfl rfl rfl rfl ?_; clear F a; intro a F
  refine bsplit F 17 rfl ?_ ?_
  ·
    clear F; intro hc0 F
    try rw [hc0] at F
    replace hc0 := of_decide_eq_true hc0
    refine s_no F rfl rfl rfl rfl ?_; clear F a; intro a F
    refine s_no F rfl rfl rfl rfl ?_; clear F a; intro a F
    refine s_I F rfl rfl rfl rfl rfl rfl ?_; clear F a; intro a F
    refine s_I F rfl rfl rfl rfl rfl rfl ?_; clear F a; intro a F
    refine s_no F rfl rfl rfl rfl ?_; clear F a; intro a F
    refine s_no F rfl rfl rfl rfl ?_; clear F a; intro a F
    refine s_no F rfl rfl rfl rfl ?_; clear F a; intro a F
    refine s_no F rfl rfl rfl rfl ?_; clear F a; intro a F
    refine s_no F rfl rfl rfl rfl ?_; clear F a; intro a F
    refine s_no F rfl rfl rfl rfl ?_; clear F a; intro a F
    refine s_I F rfl rfl rfl rfl rfl rfl ?_; clear F a; intro a F
    refine t_endM M ?_; (clear M; try clear w); intro w M
    refine c_t F rfl ?_
    refine wp_seq ?_
    replace F := F.keep [0, 1, 2, 3, 8] rfl
    refine wp_region_l [.ind] ([0]) rfl ?_
    refine s_I F rfl rfl rfl rfl rfl rfl ?_; clear F a; intro a F
    refine t_endM M ?_; (clear M; try clear w); intro w M
    refine wp_ret ?_
    refine ret1 F rfl rfl ?_
    -- end 0
    exfalso
    omega
  ·
    clear F; intro hc1 F
    try rw [hc1] at F
    replace hc1 := of_decide_eq_false hc1
    refine s_I F rfl rfl rfl rfl rfl rfl ?_; clear F a; intro a F
    refine s_bin F rfl rfl rfl rfl rfl rfl rfl ?_; clear F a; intro a F
    refine s_I F rfl rfl rfl rfl rfl rfl ?_; clear F a; intro a F
    refine s_I F rfl rfl rfl rfl rfl rfl ?_; clear F a; intro a F
    refine bsplit F 21 rfl ?_ ?_
    ·
      clear F; intro hc2 F
      try rw [hc2] at F
      replace hc2 := of_decide_eq_true hc2
      refine s_no F rfl rfl rfl rfl ?_; clear F a; intro a F
      refine s_no F rfl rfl rfl rfl ?_; clear F a; intro a F
      refine s_no F rfl rfl rfl rfl ?_; clear F a; intro a F
      refine s_no F rfl rfl rfl rfl ?_; clear F a; intro a F
      refine s_no F rfl rfl rfl rfl ?_; clear F a; intro a F
      refine s_no F rfl rfl rfl rfl ?_; clear F a; intro a F
      refine s_I F rfl rfl rfl rfl rfl rfl ?_; clear F a; intro a F
      refine t_endM M ?_; (clear M; try clear w); intro w M
      refine c_t F rfl ?_
      refine wp_seq ?_
      replace F := F.keep [0, 1, 2, 3, 8] rfl
      refine wp_region_l [.ind] ([0]) rfl ?_
      refine s_I F rfl rfl rfl rfl rfl rfl ?_; clear F a; intro a F
      refine t_endM M ?_; (clear M; try clear w); intro w M
      refine wp_ret ?_
      refine ret1 F rfl rfl ?_
      -- end 1
      exfalso
      omega
    ·
      clear F; intro hc3 F
      try rw [hc3] at F
      replace hc3 := of_decide_eq_false hc3
      refine s_I F rfl rfl rfl rfl rfl rfl ?_; clear F a; intro a F
      refine s_len F rfl rfl rfl rfl sl_69_B5 rfl ?_; clear F a; intro a F
      refine s_I F rfl rfl rfl rfl rfl rfl ?_; clear F a; intro a F
      refine s_I F rfl rfl rfl rfl rfl rfl ?_; clear F a; intro a F
      refine s_sub F rfl rfl rfl rfl rfl rfl (by unfold In64; omega) ?_; clear F a; intro a F
      refine s_bin F rfl rfl rfl rfl rfl rfl rfl ?_; clear F a; intro a F
      refine s_I F rfl rfl rfl rfl rfl rfl ?_; clear F a; intro a F
      refine t_endM M ?_; (clear M; try clear w); intro w M
      refine c_if F rfl ?_ ?_
      ·
        clear F; intro hc4 F
        try rw [hc4] at F
        replace hc4 := nd1 hc4
        refine wp_seq ?_
        replace F := F.keep [0, 1, 2, 3, 8] rfl
        refine wp_region_l [.ind] ([0]) rfl ?_
        refine s_I F rfl rfl rfl rfl rfl rfl ?_; clear F a; intro a F
        refine t_endM M ?_; (clear M; try clear w); intro w M
        refine wp_ret ?_
        refine ret1 F rfl rfl ?_
        -- end 2
        exfalso
        omega
      ·
        clear F; intro hc5 F
        try rw [hc5] at F
        replace hc5 := nd0 hc5
        refine wp_skip ?_
        refine wp_seq ?_
        replace F := F.keep [0, 1, 2, 3, 8] rfl
        refine wp_region_l [.wr, .ind, .wr, .ind] ([0, 1, 2, 3]) rfl ?_
        refine s_mm F M rfl rfl rfl rfl ?_; (clear F a M; try clear w); intro b29 w M a F
        refine s_bld F rfl rfl rfl rfl (parts1 F rfl) (bl_157_1_B5 _) ?_; clear F a; intro a F
        refine s_bxA F M rfl rfl rfl rfl rfl ?_; (clear F a M; try clear w); intro b31 w M a F
        refine s_I F rfl rfl rfl rfl rfl rfl ?_; clear F a; intro a F
        refine t_endM M ?_; (clear M; try clear w); intro w M
        refine wp_seq ?_
        refine wp_seq ?_
        replace F := F.keep [0, 1, 2, 3, 8, 9] rfl
        refine wp_region_l [.ind, .ind, .ind] ([0, 1, 2]) rfl ?_
        refine s_I F rfl rfl rfl rfl rfl rfl ?_; clear F a; intro a F
        refine s_len F rfl rfl rfl rfl sl_69_B5 rfl ?_; clear F a; intro a F
        refine s_I F rfl rfl rfl rfl rfl rfl ?_; clear F a; intro a F
        refine t_endM M ?_; (clear M; try clear w); intro w M
        refine wp_block ?_
        have M1 : Sep _ _ _ (blk b29 _ :: _) := M.f1; replace M := M1; clear M1
        replace M := M.mapNew (fun i : Int => Value.int .i64 i)
        replace M := M.mapShut (D' := opnD (opnN 0)) opnN_zero
        replace M := (M.bigNil (f := agZ)).nilT encN 50 1
        have M1 : Sep _ _ _ (bigR agZ _ :: _) := M.f1; replace M := M1; clear M1
        have M1 : Sep _ _ _ (mapX _ _ _ :: _) := M.f2; replace M := M1; clear M1
        have M1 : Sep _ _ _ (slR _ _ 50 _ _ :: _) := M.f2; replace M := M1; clear M1
        have M1 : Sep _ _ _ (blk b31 _ :: _) := M.f3; replace M := M1; clear M1
        refine loopX (X := (Nat) × (List Nat) × (List Ga) × (Option Addr) × (Nat)) F [0, 1, 2, 3, 9, 32, 33] rfl (fun ((k, bs, gs, A, c) : (Nat) × (List Nat) × (List Ga) × (Option Addr) × (Nat)) => (k ≤ vs.length) ∧ (bs.length = k) ∧ (gs.map (·.b) = bs)) (fun ((k, bs, gs, A, c) : (Nat) × (List Nat) × (List Ga) × (Option Addr) × (Nat)) => [(34, .int .i64 (k : Int))]) (fun ((k, bs, gs, A, c) : (Nat) × (List Nat) × (List Ga) × (Option Addr) × (Nat)) => [blk b31 (.cells #[.slice A bs.length c, .map (some b29), .slice none 0 0] 157 (0, 0)), slR (.slice A bs.length c) bs.length 50 1 (bs.flatMap encN), mapX (fun i : Int => .int .i64 i) b29 (opnD (opnN k)), bigR agZ (gs.zip ((List.range k).map (fA n t h vs)))]) (fun ((k, bs, gs, A, c) : (Nat) × (List Nat) × (List Ga) × (Option Addr) × (Nat)) => vs.length - k) ((0), ([]), ([]), (none), (0)) M ⟨(by omega), rfl, rfl⟩ (F.keep [34, 0, 1, 2, 3, 9, 32, 33] rfl) ?_
        clear F M; clear a; (try clear w)
        rintro ⟨k, bs, gs, A, c⟩ a w ⟨k1, hbl, hgs⟩ F M; try dsimp only at F M
        try simp only [List.cons_append, List.nil_append] at F M
        try dsimp only at k1 hbl hgs
        refine wp_seq ?_
        refine wp_region_l [.ind] ([0]) rfl ?_
        refine s_bin F rfl rfl rfl rfl rfl rfl rfl ?_; clear F a; intro a F
        refine t_endM M ?_; (clear M; try clear w); intro w M
        refine wp_seq ?_
        refine c_if F rfl ?_ ?_
        ·
          clear F; intro hc6 F
          try rw [hc6] at F
          replace hc6 := of_decide_eq_true hc6
          refine wp_skip ?_
          refine wp_seq ?_
          refine wp_block ?_
          refine wp_seq ?_
          replace F := F.keep [0, 1, 2, 3, 9, 32, 33, 34] rfl
          refine wp_region_l [.ind, .ind, .rd, .ind, .ind] ([0, 1, 2, 3, 4]) rfl ?_
          refine s_I F rfl rfl rfl rfl rfl rfl ?_; clear F a; intro a F
          refine s_ix F rfl rfl rfl rfl sl_69_B5 rfl rfl (by exact M.chg.ro hro) (by omega) (by omega) ?_; clear F a; intro e37 he37 a F
          refine s_ld F rfl rfl rfl rfl sc_9_B5 rfl (by exact rdX0 (M.chg.ro hro) (by intro e; rfl) he37 rfl) ?_; clear F a; intro a F
          refine s_I F rfl rfl rfl rfl rfl rfl ?_; clear F a; intro a F
          refine s_I F rfl rfl rfl rfl rfl rfl ?_; clear F a; intro a F
          refine t_endM M ?_; (clear M; try clear w); intro w M
          refine wp_seq ?_
          replace F := F.keep [0, 1, 2, 3, 9, 10, 11, 32, 33, 34] rfl
          refine wp_region_l [.ind, .ind, .ind, .ind, .ind, .ind, .wr, .ind] ([0, 1, 2, 3, 4, 5, 6, 7]) rfl ?_
          refine s_I F rfl rfl rfl rfl rfl rfl ?_; clear F a; intro a F
          refine s_I F rfl rfl rfl rfl rfl rfl ?_; clear F a; intro a F
          refine s_I F rfl rfl rfl rfl rfl rfl ?_; clear F a; intro a F
          refine s_add F rfl rfl rfl rfl rfl rfl (by unfold In64; omega) ?_; clear F a; intro a F
          refine s_I F rfl rfl rfl rfl rfl rfl ?_; clear F a; intro a F
          refine s_I F rfl rfl rfl rfl rfl rfl ?_; clear F a; intro a F
          have he37b := he37
          rw [Int.toNat_natCast] at he37b
          have hok := k4 k (by omega)
          rw [he37b, Option.getD_some] at hok
          refine s_call (m := []) F M rfl rfl rfl rfl rfl (rfl : _ = some [_, _, _, _, _]) cb_39_B5 (fun nd_ => c39r n t ((k : Int) + 1) h e37 hok _) ?_; (clear F a M; try clear w); rintro v g0 w rfl M a F; (try simp only [List.cons_append, List.nil_append] at M)
          refine s_I F rfl rfl rfl rfl rfl rfl ?_; clear F a; intro a F
          refine t_endM M ?_; (clear M; try clear w); intro w M
          refine wp_seq ?_
          refine wp_seq ?_
          replace F := F.keep [0, 1, 2, 3, 9, 10, 11, 12, 32, 33, 34] rfl
          refine wp_region_l [.ind, .ind] ([0, 1]) rfl ?_
          refine s_I F rfl rfl rfl rfl rfl rfl ?_; clear F a; intro a F
          refine s_pn F rfl rfl rfl rfl pt_50_B5 rfl ?_; clear F a; intro a F
          refine t_endM M ?_; (clear M; try clear w); intro w M
          refine c_f F rfl ?_
          refine wp_skip ?_
          refine wp_seq ?_
          replace F := F.keep [0, 1, 2, 3, 9, 10, 11, 12, 32, 33, 34] rfl
          refine wp_region_l [.ind, .ind, .ind, .ind, .rd, .ind, .wr, .wr, .ind, .ind, .wr] ([0, 1, 2, 3, 4, 5, 6, 7, 8, 9, 10]) rfl ?_
          refine s_I F rfl rfl rfl rfl rfl rfl ?_; clear F a; intro a F
          refine s_I F rfl rfl rfl rfl rfl rfl ?_; clear F a; intro a F
          refine s_I F rfl rfl rfl rfl rfl rfl ?_; clear F a; intro a F
          refine s_fa0 F rfl rfl rfl rfl fa_157_0_B5 rfl ?_; clear F a; intro a F
          refine s_ld F rfl rfl rfl rfl sc_154_B5 rfl (by exact cell_of_blk M.h1 (lit rfl)) ?_; clear F a; intro a F
          refine s_I F rfl rfl rfl rfl rfl rfl ?_; clear F a; intro a F
          refine s_bs F M rfl rfl rfl rfl (parts1 F rfl) (bs_154_1_B5 _) ?_; (clear F a M; try clear w); intro b54 w M a F
          refine s_apE ((g0.b : Nat)) F M.f3 rfl rfl rfl rfl tl_154_B5 rfl rfl (by exact rd_blk M.h0 rfl) rfl (by omega) (fun _ _ _ _ => pend_nil) ?_; (clear F a M; try clear w); intro A55 c55 w M a F
          refine s_I F rfl rfl rfl rfl rfl rfl ?_; clear F a; intro a F
          refine s_fa0 F rfl rfl rfl rfl fa_157_0_B5 rfl ?_; clear F a; intro a F
          refine s_st F M.f3 rfl rfl rfl sz_154_B5 rfl rfl rfl (by exact Nat.le_of_ble_eq_true rfl) ?_; (clear M; try clear w); intro w M
          refine t_endM M ?_; (clear M; try clear w); intro w M
          have M1 : Sep _ _ _ (mapX _ _ _ :: _) := M.f4; replace M := M1; clear M1
          obtain ⟨N9, M⟩ := M.mapOpen
          replace F := F.keep [0, 1, 2, 3, 9, 10, 11, 12, 32, 33, 34] rfl
          refine wp_region_l [.ind, .ind, .ind, .rd, .ind, .ind, .wr] ([0, 1, 2, 3, 4, 5, 6]) rfl ?_
          refine s_I F rfl rfl rfl rfl rfl rfl ?_; clear F a; intro a F
          refine s_I F rfl rfl rfl rfl rfl rfl ?_; clear F a; intro a F
          refine s_fa0 F rfl rfl rfl rfl fa_157_1_B5 rfl ?_; clear F a; intro a F
          refine s_ld F rfl rfl rfl rfl sc_153_B5 rfl (by exact cell_of_blk M.h1 (lit rfl)) ?_; clear F a; intro a F
          refine s_I F rfl rfl rfl rfl rfl rfl ?_; clear F a; intro a F
          refine s_add F rfl rfl rfl rfl rfl rfl (by unfold In64; omega) ?_; clear F a; intro a F
          have M1 : Sep _ _ _ (mapR _ _ _ _ :: _) := M; replace M := M1; clear M1
          refine s_mu keI (((k : Int) + 1)) F M rfl rfl rfl mp_153_B5 rfl rfl rfl (fun _ _ => pend_nil) ?_; (clear M; try clear w); intro w M
          refine t_endM M ?_; (clear M; try clear w); intro w M
          replace F := F.keep [0, 1, 2, 3, 9, 10, 11, 12, 32, 33, 34] rfl
          refine wp_region_l [.ind, .ind] ([0, 1]) rfl ?_
          refine s_add F rfl rfl rfl rfl rfl rfl (by unfold In64; omega) ?_; clear F a; intro a F
          refine s_I F rfl rfl rfl rfl rfl rfl ?_; clear F a; intro a F
          refine t_endM M ?_; (clear M; try clear w); intro w M
          have M1 : Sep _ _ _ (mapR _ _ _ _ :: _) := M; replace M := M1; clear M1
          replace M := M.mapShut (D' := opnD (opnN (k + 1))) (opnN_succ k)
          have M1 : Sep _ _ _ (bigR agZ _ :: _) := M.f5; replace M := M1; clear M1
          have M1 : Sep _ _ _ (agR _ _ :: _) := M.f5; replace M := M1; clear M1
          have hfa : newA n t ((k : Int) + 1) h e37 = fA n t h vs k := by unfold fA; rw [he37b]; rfl
          rw [hfa] at M
          replace M := Sep.bigSnoc (f := agZ) (y := (g0, fA n t h vs k)) M
          have hgl : gs.length = k := by rw [← hbl, ← hgs, List.length_map]
          rw [zip_snoc (by rw [hgl]; simp), show (List.range k).map (fA n t h vs) ++ [fA n t h vs k] = (List.range (k + 1)).map (fA n t h vs) by rw [List.range_succ, List.map_append]; rfl] at M
          refine again ((k + 1), (bs ++ [g0.b]), (gs ++ [g0]), (A55), (c55)) (by show _ < _; (try dsimp only); omega) ⟨(by omega), (by simp [hbl]), (by simp [hgs])⟩ (F.keep [34, 0, 1, 2, 3, 9, 32, 33] rfl) ?_
          try dsimp only [List.cons_append, List.nil_append]
          refine M.pick ?_; repeat (first | exact PkG.nil | refine PkG.cons 0 rfl rfl ?_ | refine PkG.cons 1 rfl rfl ?_ | refine PkG.cons 2 rfl rfl ?_ | refine PkG.cons 3 rfl rfl ?_)
        ·
          clear F; intro hc7 F
          try rw [hc7] at F
          replace hc7 := of_decide_eq_false hc7
          refine wp_exit ?_
          refine wp_seq ?_
          refine wp_seq ?_
          obtain rfl : k = vs.length := by omega
          have hgl : gs.length = vs.length := by rw [← hbl, ← hgs, List.length_map]
          replace F := F.keep [0, 1, 2, 3, 9, 32, 33, 34] rfl
          refine wp_region_l [.ind, .ind, .ind, .rd, .ind, .ind] ([0, 1, 2, 3, 4, 5]) rfl ?_
          refine s_I F rfl rfl rfl rfl rfl rfl ?_; clear F a; intro a F
          refine s_I F rfl rfl rfl rfl rfl rfl ?_; clear F a; intro a F
          refine s_fa0 F rfl rfl rfl rfl fa_157_0_B5 rfl ?_; clear F a; intro a F
          refine s_ld F rfl rfl rfl rfl sc_154_B5 rfl (by exact cell_of_blk M.h0 (lit rfl)) ?_; clear F a; intro a F
          refine s_len F rfl rfl rfl rfl sl_154_B5 rfl ?_; clear F a; intro a F
          refine s_I F rfl rfl rfl rfl rfl rfl ?_; clear F a; intro a F
          refine t_endM M ?_; (clear M; try clear w); intro w M
          refine wp_block ?_
          rw [midA0] at M
          replace M := M.nilT encTo 160 6
          have M1 : Sep _ _ _ (slR _ _ 160 _ _ :: _) := M; replace M := M1; clear M1
          have M1 : Sep _ _ _ (bigR agZ _ :: _) := M.f4; replace M := M1; clear M1
          have M1 : Sep _ _ _ (blk b31 _ :: _) := M.f2; replace M := M1; clear M1
          refine loopX (X := (Nat) × (Value)) F [0, 1, 2, 3, 9, 32, 33, 34, 68, 69] rfl (fun ((m, v) : (Nat) × (Value)) => (m ≤ vs.length)) (fun ((m, v) : (Nat) × (Value)) => [(70, .int .i64 (m : Int))]) (fun ((m, v) : (Nat) × (Value)) => [blk b31 (cOv (⟨b31, b29, bs, gs, A, c, v⟩ : Gc) v), bigR agZ (gs.zip (midA n t h vs m)), toR v (wayN n t h vs m)]) (fun ((m, v) : (Nat) × (Value)) => vs.length - m) ((0), (.slice none 0 0)) M (by omega) (F.keep [70, 0, 1, 2, 3, 9, 32, 33, 34, 68, 69] rfl) ?_
          clear F M; clear a; (try clear w)
          rintro ⟨m, v⟩ a w m1 F M; try dsimp only at F M
          try simp only [List.cons_append, List.nil_append] at F M
          try dsimp only at m1
          refine wp_seq ?_
          refine wp_region_l [.ind] ([0]) rfl ?_
          refine s_bin F rfl rfl rfl rfl rfl rfl rfl ?_; clear F a; intro a F
          refine t_endM M ?_; (clear M; try clear w); intro w M
          refine wp_seq ?_
          refine c_if F rfl ?_ ?_
          ·
            clear F; intro hc8 F
            try rw [hc8] at F
            replace hc8 := of_decide_eq_true hc8
            refine wp_skip ?_
            refine wp_seq ?_
            refine wp_block ?_
            refine wp_seq ?_
            replace F := F.keep [0, 1, 2, 3, 9, 32, 33, 34, 68, 69, 70] rfl
            refine wp_region_l [.ind, .rd, .ind] ([0, 1, 2]) rfl ?_
            refine s_ix F rfl rfl rfl rfl sl_154_B5 rfl rfl (by exact SlOk.rd M.h3) (by omega) (by omega) ?_; clear F a; intro e72 he72 a F
            refine s_ld F rfl rfl rfl rfl sc_50_B5 rfl (by exact rdX0 (SlOk.rd M.h3) (by intro e; rfl) he72 rfl) ?_; clear F a; intro a F
            refine s_I F rfl rfl rfl rfl rfl rfl ?_; clear F a; intro a F
            refine t_endM M ?_; (clear M; try clear w); intro w M
            replace F := F.keep [0, 1, 2, 3, 9, 14, 32, 33, 34, 68, 69, 70] rfl
            refine wp_region_l [.ind, .ind, .wr, .wr] ([0, 1, 2, 3]) rfl ?_
            refine s_I F rfl rfl rfl rfl rfl rfl ?_; clear F a; intro a F
            refine s_I F rfl rfl rfl rfl rfl rfl ?_; clear F a; intro a F
            have he72b := he72
            rw [Int.toNat_natCast] at he72b
            obtain ⟨g, hg, hgb⟩ := g_at hgs he72b
            have hma : (midA n t h vs m)[m]? = some (fA n t h vs m) := by rw [midA_at (by omega), if_neg (by omega)]
            have M1 : Sep _ _ _ (bigR agZ _ :: _) := M.f1; replace M := M1; clear M1
            replace M := M.bigOut (zip_at hg hma)
            rw [← hgb] at F
            have M1 : Sep _ _ _ (agR g _ :: _) := M; replace M := M1; clear M1
            refine s_call (m := [_]) F M rfl rfl rfl rfl rfl (rfl : _ = some [_]) cb_44_B5 (fun nd_ => c44r g (fA n t h vs m) _ (M.drewN nd_).own.one) ?_; (clear F a M; try clear w); rintro v lv w rfl M a F; (try simp only [List.cons_append, List.nil_append] at M)
            have hsl := startO_le (fA n t h vs m)
            have M1 : Sep _ _ _ (slR _ _ 32 _ _ :: _) := M.f1; replace M := M1; clear M1
            have M1 : Sep _ _ _ (slR _ _ 160 _ _ :: _) := M.f4; replace M := M1; clear M1
            have M1 : Sep _ _ _ (blk b31 _ :: _) := M.f4; replace M := M1; clear M1
            refine s_call (m := [_, _, _]) F M rfl rfl rfl rfl rfl (rfl : _ = some [_, _]) cb_92_B5 (fun nd_ => c92 (⟨b31, b29, bs, gs, A, c, v⟩ : Gc) vs.length hbl h7 _ _ (wayN n t h vs m) (fA n t h vs m).startO (by omega) wayN_len _ (Own.left (m := [_, _, _]) (M.drewN nd_).own)) ?_; (clear F a M; try clear w); rintro v v2 w rfl M a F; (try simp only [List.cons_append, List.nil_append] at M)
            refine t_endM M ?_; (clear M; try clear w); intro w M
            replace F := F.keep [0, 1, 2, 3, 9, 14, 32, 33, 34, 68, 69, 70] rfl
            refine wp_region_l [.ind, .ind] ([0, 1]) rfl ?_
            refine s_add F rfl rfl rfl rfl rfl rfl (by unfold In64; omega) ?_; clear F a; intro a F
            refine s_I F rfl rfl rfl rfl rfl rfl ?_; clear F a; intro a F
            refine t_endM M ?_; (clear M; try clear w); intro w M
            have M1 : Sep _ _ _ (bigR agZ _ :: _) := M.f4; replace M := M1; clear M1
            have M1 : Sep _ _ _ (agR _ _ :: _) := M.f4; replace M := M1; clear M1
            replace M := Sep.bigIn (f := agZ) (xs := gs.zip (midA n t h vs m)) (i := m) (y := (g, (fA n t h vs m).start)) M (by rw [List.length_zip, midA_len]; omega)
            rw [zip_set, set_same hg, midA_set (by omega)] at M
            refine again ((m + 1), (v2)) (by show _ < _; (try dsimp only); omega) (by omega) (F.keep [70, 0, 1, 2, 3, 9, 32, 33, 34, 68, 69] rfl) ?_
            try dsimp only [List.cons_append, List.nil_append]
            refine M.pick ?_; repeat (first | exact PkG.nil | refine PkG.cons 0 rfl rfl ?_ | refine PkG.cons 1 rfl rfl ?_ | refine PkG.cons 2 rfl rfl ?_ | refine PkG.cons 4 rfl rfl ?_ | refine PkG.cons 5 rfl rfl ?_)
          ·
            clear F; intro hc9 F
            try rw [hc9] at F
            replace hc9 := of_decide_eq_false hc9
            refine wp_exit ?_
            refine wp_seq ?_
            replace F := F.keep [0, 1, 2, 3, 9, 32, 33, 34, 68, 69, 70] rfl
            refine wp_region_l [.ind, .ind] ([0, 1]) rfl ?_
            refine s_I F rfl rfl rfl rfl rfl rfl ?_; clear F a; intro a F
            refine s_I F rfl rfl rfl rfl rfl rfl ?_; clear F a; intro a F
            refine t_endM M ?_; (clear M; try clear w); intro w M
            refine wp_ret ?_
            refine ret1 F rfl rfl ?_
            -- end 3
            obtain rfl : m = vs.length := by omega
            refine ⟨_, (⟨b31, b29, bs, gs, A, c, v⟩ : Gc), rfl, rfl, ?_⟩
            have M1 : Sep _ _ _ (slR _ _ 160 _ _ :: _) := M.f2; replace M := M1; clear M1
            have M1 : Sep _ _ _ (bigR agZ _ :: _) := M.f2; replace M := M1; clear M1
            have M1 : Sep _ _ _ (mapX _ _ _ :: _) := M.f4; replace M := M1; clear M1
            have M1 : Sep _ _ _ (slR _ _ 50 _ _ :: _) := M.f4; replace M := M1; clear M1
            have M1 : Sep _ _ _ (blk b31 _ :: _) := M.f4; replace M := M1; clear M1
            exact Sep.left (m := [couR ((⟨b31, b29, bs, gs, A, c, v⟩ : Gc)) (newC n t h vs)]) (Fw.Sep.couShut (γ := ((⟨b31, b29, bs, gs, A, c, v⟩ : Gc))) (C := (newC n t h vs)) M ⟨hgs, hgl.trans midA_len.symm⟩)
end Go.Proofs.Ytboibdmflblphaa
