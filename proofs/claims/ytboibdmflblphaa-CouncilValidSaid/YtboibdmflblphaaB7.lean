/- B7 of the seat. -/
import Derived.Test.YtboibdmflblphaaB6
namespace Go.Proofs.Ytboibdmflblphaa
open Go Fw
theorem ag_71_B7 : aggB Try.prog 71 = some 4 := by kernel_rfl
theorem cb_50_B7 : callB Try.prog 50 = true := by kernel_rfl
theorem cb_51_B7 : callB Try.prog 51 = true := by kernel_rfl
theorem fa_71_0_B7 : FA Try.prog 71 0 0 := fun _ _ _ => by kernel_rfl
theorem sc_3_B7 : scalB Try.prog 3 = true := by kernel_rfl
theorem fa_71_1_B7 : FA Try.prog 71 1 1 := fun _ _ _ => by kernel_rfl
theorem fa_71_2_B7 : FA Try.prog 71 2 2 := fun _ _ _ => by kernel_rfl
theorem fa_71_3_B7 : FA Try.prog 71 3 3 := fun _ _ _ => by kernel_rfl
theorem sc_69_B7 : scalB Try.prog 69 = true := by kernel_rfl
theorem cb_52_B7 : callB Try.prog 52 = true := by kernel_rfl
theorem pt_73_B7 : ptrB Try.prog 73 = true := by kernel_rfl
theorem sl_79_B7 : slcB Try.prog 79 = some (82, 8) := by kernel_rfl
theorem ag_82_B7 : aggB Try.prog 82 = some 8 := by kernel_rfl
theorem cb_56_B7 : callB Try.prog 56 = true := by kernel_rfl
theorem sl_69_B7 : slcB Try.prog 69 = some (9, 1) := by kernel_rfl
theorem cb_54_B7 : callB Try.prog 54 = true := by kernel_rfl
theorem fa_82_1_B7 : FA Try.prog 82 1 1 := fun _ _ _ => by kernel_rfl
theorem cb_55_B7 : callB Try.prog 55 = true := by kernel_rfl
theorem fa_82_0_B7 : FA Try.prog 82 0 0 := fun _ _ _ => by kernel_rfl
theorem sc_9_B7 : scalB Try.prog 9 = true := by kernel_rfl
open VoteM AgrM CouM

theorem decd_spec {C : Cou} {k : Int} (h : (decd C k).2 = true) : ∃ a ∈ C.As, a.done = true ∧ (decd C k).1 = a.dec := by
  unfold decd at h ⊢
  by_cases h1 : hon C k = true
  · rw [if_pos h1] at h ⊢
    cases ha : C.As[k.toNat - 1]? with
    | none => rw [ha] at h; cases h
    | some a =>
      rw [ha] at h
      exact ⟨a, List.mem_of_getElem? ha, h, rfl⟩
  · rw [if_neg h1] at h; cases h
def Dn (C : Cou) (s : ByteArray) : Prop := ∃ a ∈ C.As, a.done = true ∧ a.dec = s
theorem Dn.act {n t : Int} {C : Cou} {s : ByteArray} (D : Dn C s) (W : C.Wf n t) {nd : Int} {w : Wrd} : Dn (C.take nd w) s := by
  cases ho : C.opn nd
  · rw [take_closed ho]; exact D
  · obtain ⟨h1, h2⟩ := W.op nd ho
    obtain ⟨a, ha⟩ := node_at h1 h2
    rw [take_open ho ha]
    have hod := W.od nd a h1 ha
    obtain ⟨x, hx, hd, hs⟩ := D
    obtain ⟨j, hj⟩ := List.mem_iff_getElem?.1 hx
    have hne : nd.toNat - 1 ≠ j := fun e => by
      rw [e] at ha
      obtain rfl := Option.some.inj (ha.symm.trans hj)
      rw [ho, hd] at hod
      cases hod
    exact ⟨x, List.mem_of_getElem? (i := j) (by show (C.As.set _ _)[j]? = _; rw [List.getElem?_set, if_neg hne]; exact hj), hd, hs⟩
theorem Dn.doit {n t : Int} {C : Cou} {s : ByteArray} (D : Dn C s) (W : C.Wf n t) (d : Deed) : Dn (C.doit d).1 s := by
  unfold Cou.doit
  split
  · unfold Cou.deliver
    rcases Nat.eq_zero_or_pos C.way.length with h | h
    · rw [out_none (List.eq_nil_of_length_eq_zero h)]; exact D
    · obtain ⟨x, _, e⟩ := out_some (i := d.at_) h
      rw [e]
      have D2 : Dn (C.cut (outAt C.way.length d.at_)) s := D
      exact D2.act (W.cut _)
  · split
    · unfold Cou.lose
      rcases Nat.eq_zero_or_pos C.way.length with h | h
      · rw [out_none (List.eq_nil_of_length_eq_zero h)]; exact D
      · obtain ⟨x, _, e⟩ := out_some (i := d.at_) h
        rw [e]
        exact D
    · split
      · unfold Cou.forge
        split
        · exact D
        · exact D
      · split
        · unfold Cou.timeout
          split
          · split
            · exact D.act W
            · exact D
          · exact D
        · exact D
theorem take_alen {C : Cou} {nd : Int} {w : Wrd} : (C.take nd w).As.length = C.As.length := by
  unfold Cou.take
  split
  · split
    · exact List.length_set
    · rfl
  · rfl
theorem doit_alen {C : Cou} {d : Deed} : (C.doit d).1.As.length = C.As.length := by
  unfold Cou.doit
  split
  · unfold Cou.deliver
    split
    · rename_i D x e
      have : D.As.length = C.As.length := by
        unfold Cou.out at e
        split at e
        · simp only [Option.some.injEq, Prod.mk.injEq] at e
          rw [← e.1]; rfl
        · cases e
      rw [← this]; exact take_alen
    · rfl
  · split
    · unfold Cou.lose
      split
      · rename_i D x e
        unfold Cou.out at e
        split at e
        · simp only [Option.some.injEq, Prod.mk.injEq] at e
          rw [← e.1]; rfl
        · cases e
      · rfl
    · split
      · unfold Cou.forge
        split <;> rfl
      · split
        · unfold Cou.timeout
          split
          · split
            · exact take_alen
            · rfl
          · rfl
        · rfl
theorem agr_bad {n t : Int} {C : Cou} {k : Int} {any : Bool} {first : ByteArray} (Y : CouM.Safe n t C) (D : any = true → Dn C first) (h : (decd C k).2 = true) (hb : (any = true ∧ ¬ (decd C k).1 = first) ∨ (decd C k).1 = VoteM.empty) : False := by
  obtain ⟨H, Y, _⟩ := Y
  obtain ⟨a, ha, hd, e⟩ := decd_spec h
  rcases hb with ⟨h1, h2⟩ | h2
  · obtain ⟨b, hb, hd2, e2⟩ := D h1
    exact h2 (by rw [e, ← e2]; exact Y.agree ha hb hd hd2)
  · exact Y.some ha hd (e.symm.trans h2)
theorem decd_dn {C : Cou} {k : Int} (h : (decd C k).2 = true) : Dn C (decd C k).1 := by
  obtain ⟨a, ha, hd, e⟩ := decd_spec h
  exact ⟨a, ha, hd, e.symm⟩
theorem vld_in {vs : List ByteArray} {C : Cou} {k : Int} (V : CVld vs C) (h : (decd C k).2 = true) : (decd C k).1 ∈ vs := by
  obtain ⟨a, ha, hd, e⟩ := decd_spec h
  rw [e]; exact (V.a a ha).d hd
theorem in_next {vs : List ByteArray} {m : Int} {s e : ByteArray} {u : Bool} (hu : ∀ v ∈ vs.take m.toNat, v = s → u = true) (hf : u = false) (m0 : 0 ≤ m) (he : vs[m.toNat]? = some e) : ∀ v ∈ vs.take (m + 1).toNat, v = s → decide (e = s) = true :=
  all_take (p := fun v => v = s → decide (e = s) = true) (fun v hv h => by have := hu v hv h; rw [hf] at this; cases this) m0 he (fun h => decide_eq_true h)
theorem newC_alen {n t h : Int} {vs : List ByteArray} : (newC n t h vs).As.length = vs.length := midA_len


theorem c52n (n t h : Int) (hn : In64 n) (ht : In64 t) (vs : List ByteArray) (vv : Value) (hl : vs.length ≤ 1000) (hk : okC n t h vs = false) (w0 : World) (hr : RdSl w0.heap vv vs.length 1 (vs.flatMap encS)) : Cl Try.prog 52 #[.int .i64 n, .int .i64 t, .int .i64 h, vv] w0 (RetQ w0 fun v => v = .pointer none) := by
  by_cases hc : 1 ≤ n ∧ 0 ≤ t ∧ (vs.length : Int) = n - t
  · exact c52b n t h hn ht vs vv hl hc.1 hc.2.1 hc.2.2 hk w0 hr
  · exact c52a n t h hn ht vs vv hc w0 hr
theorem c50y {n t h : Int} {vs : List ByteArray} {vv : Value} {l : List Deed} {v : Value} (w0 : World) (hf : fewC vs l) (hr2 : RdSl w0.heap vv vs.length 1 (vs.flatMap encS)) (hr : RdSl w0.heap v l.length 8 (l.flatMap encDd)) : Cl Try.prog 50 #[.agg #[.int .i64 n, .int .i64 t, .int .i64 h, vv], v] w0 (RetQ w0 fun r => r = .int .i64 1) := (c50 n t h vs vv l v w0 hr2 hr).monoQ fun v hv => by rw [hv, if_pos hf]
theorem c50n {n t h : Int} {vs : List ByteArray} {vv : Value} {l : List Deed} {v : Value} (w0 : World) (hf : ¬ fewC vs l) (hr2 : RdSl w0.heap vv vs.length 1 (vs.flatMap encS)) (hr : RdSl w0.heap v l.length 8 (l.flatMap encDd)) : Cl Try.prog 50 #[.agg #[.int .i64 n, .int .i64 t, .int .i64 h, vv], v] w0 (RetQ w0 fun r => r = .int .i64 0) := (c50 n t h vs vv l v w0 hr2 hr).monoQ fun v hv => by rw [hv, if_neg hf]

set_option maxRecDepth 100000 in
set_option maxHeartbeats 400000 in
theorem law13a (n t h : Int) (hn : In64 n) (ht : In64 t) (vs : List ByteArray) (vv : Value) (l : List Deed) (v : Value) (w0 : World) (hr2 : RdSl w0.heap vv vs.length 1 (vs.flatMap encS)) (hr : RdSl w0.heap v l.length 8 (l.flatMap encDd)) (hf : ¬ fewC vs l) : Cl Try.prog 13 #[.agg #[.int .i64 n, .int .i64 t, .int .i64 h, vv], v] w0 (RetQ w0 fun v => v = .bool true) := by
  have M : Sep (fun _ => False) w0 w0 _ := Sep.nil _ w0
  have hro := ro_of hr
  have hrv := ro_of hr2
  obtain ⟨A, cc, rfl, hcc⟩ := hr.form
  obtain ⟨VA, VC, rfl, hvc⟩ := hr2.form
  refine enter (vs := [_, _]) Try.func13 rfl rfl rfl ?_
  intro a F
  refine wp_seq ?_
  refine wp_region_l [.wr, .ind] ([0, 1]) rfl ?_
  refine s_bxA F M rfl rfl rfl rfl rfl ?_; (clear F a M; try clear w); intro b2 w M a F
  refine s_I F rfl rfl rfl rfl rfl rfl ?_; clear F a; intro a F
  refine t_endM M ?_; (clear M; try clear w); intro w M
  refine wp_seq ?_
  refine wp_seq ?_
  refine wp_region_l [.rd, .ind, .wr, .ind] ([0, 1, 2, 3]) rfl ?_
  refine s_lda F rfl rfl rfl rfl ag_71_B7 rfl rfl (cells_whole M.h0) ?_; clear F a; intro a F
  refine s_I F rfl rfl rfl rfl rfl rfl ?_; clear F a; intro a F
  refine s_cq F M rfl rfl rfl rfl rfl (rfl : _ = some [_, _]) cb_50_B7 (fun nd_ => c50n _ hf (M.chg.ro hrv) (M.chg.ro hro)) ?_; (clear F a M; try clear w); rintro v w rfl M a F
  refine s_bin F rfl rfl rfl rfl rfl rfl rfl ?_; clear F a; intro a F
  replace F : Fr _ _ ((15, Value.bool true) :: _) := F
  refine t_endM M ?_; (clear M; try clear w); intro w M
  refine c_t F rfl ?_
  refine wp_seq ?_
  replace F := F.keep [0, 1, 2, 4] rfl
  refine wp_region_l [.wr, .ind] ([0, 1]) rfl ?_
  refine s_cq F M rfl rfl rfl rfl rfl (rfl : _ = some []) cb_51_B7 (fun nd_ => c51 _) ?_; (clear F a M; try clear w); rintro v w rfl M a F
  refine s_I F rfl rfl rfl rfl rfl rfl ?_; clear F a; intro a F
  refine t_endM M ?_; (clear M; try clear w); intro w M
  refine wp_ret ?_
  refine ret1 F rfl rfl ?_
  -- end 0
  exact ⟨_, rfl, rfl, M.chg⟩
set_option maxRecDepth 100000 in
set_option maxHeartbeats 400000 in
theorem law14a (n t h : Int) (hn : In64 n) (ht : In64 t) (vs : List ByteArray) (vv : Value) (l : List Deed) (v : Value) (w0 : World) (hr2 : RdSl w0.heap vv vs.length 1 (vs.flatMap encS)) (hr : RdSl w0.heap v l.length 8 (l.flatMap encDd)) (hf : ¬ fewC vs l) : Cl Try.prog 14 #[.agg #[.int .i64 n, .int .i64 t, .int .i64 h, vv], v] w0 (RetQ w0 fun v => v = .bool true) := by
  have M : Sep (fun _ => False) w0 w0 _ := Sep.nil _ w0
  have hro := ro_of hr
  have hrv := ro_of hr2
  obtain ⟨A, cc, rfl, hcc⟩ := hr.form
  obtain ⟨VA, VC, rfl, hvc⟩ := hr2.form
  refine enter (vs := [_, _]) Try.func14 rfl rfl rfl ?_
  intro a F
  refine wp_seq ?_
  refine wp_region_l [.wr, .ind] ([0, 1]) rfl ?_
  refine s_bxA F M rfl rfl rfl rfl rfl ?_; (clear F a M; try clear w); intro b2 w M a F
  refine s_I F rfl rfl rfl rfl rfl rfl ?_; clear F a; intro a F
  refine t_endM M ?_; (clear M; try clear w); intro w M
  refine wp_seq ?_
  refine wp_seq ?_
  refine wp_region_l [.rd, .ind, .wr, .ind] ([0, 1, 2, 3]) rfl ?_
  refine s_lda F rfl rfl rfl rfl ag_71_B7 rfl rfl (cells_whole M.h0) ?_; clear F a; intro a F
  refine s_I F rfl rfl rfl rfl rfl rfl ?_; clear F a; intro a F
  refine s_cq F M rfl rfl rfl rfl rfl (rfl : _ = some [_, _]) cb_50_B7 (fun nd_ => c50n _ hf (M.chg.ro hrv) (M.chg.ro hro)) ?_; (clear F a M; try clear w); rintro v w rfl M a F
  refine s_bin F rfl rfl rfl rfl rfl rfl rfl ?_; clear F a; intro a F
  replace F : Fr _ _ ((15, Value.bool true) :: _) := F
  refine t_endM M ?_; (clear M; try clear w); intro w M
  refine c_t F rfl ?_
  refine wp_seq ?_
  replace F := F.keep [0, 1, 2, 4] rfl
  refine wp_region_l [.wr, .ind] ([0, 1]) rfl ?_
  refine s_cq F M rfl rfl rfl rfl rfl (rfl : _ = some []) cb_51_B7 (fun nd_ => c51 _) ?_; (clear F a M; try clear w); rintro v w rfl M a F
  refine s_I F rfl rfl rfl rfl rfl rfl ?_; clear F a; intro a F
  refine t_endM M ?_; (clear M; try clear w); intro w M
  refine wp_ret ?_
  refine ret1 F rfl rfl ?_
  -- end 0
  exact ⟨_, rfl, rfl, M.chg⟩
set_option maxRecDepth 100000 in
set_option maxHeartbeats 400000 in
theorem law13b (n t h : Int) (hn : In64 n) (ht : In64 t) (vs : List ByteArray) (vv : Value) (l : List Deed) (v : Value) (w0 : World) (hr2 : RdSl w0.heap vv vs.length 1 (vs.flatMap encS)) (hr : RdSl w0.heap v l.length 8 (l.flatMap encDd)) (hf : fewC vs l) (hk : okC n t h vs = false) : Cl Try.prog 13 #[.agg #[.int .i64 n, .int .i64 t, .int .i64 h, vv], v] w0 (RetQ w0 fun v => v = .bool true) := by
  have M : Sep (fun _ => False) w0 w0 _ := Sep.nil _ w0
  have hro := ro_of hr
  have hrv := ro_of hr2
  obtain ⟨A, cc, rfl, hcc⟩ := hr.form
  obtain ⟨VA, VC, rfl, hvc⟩ := hr2.form
  have hl20 := hf.2.1
  refine enter (vs := [_, _]) Try.func13 rfl rfl rfl ?_
  intro a F
  refine wp_seq ?_
  refine wp_region_l [.wr, .ind] ([0, 1]) rfl ?_
  refine s_bxA F M rfl rfl rfl rfl rfl ?_; (clear F a M; try clear w); intro b2 w M a F
  refine s_I F rfl rfl rfl rfl rfl rfl ?_; clear F a; intro a F
  refine t_endM M ?_; (clear M; try clear w); intro w M
  refine wp_seq ?_
  refine wp_seq ?_
  refine wp_region_l [.rd, .ind, .wr, .ind] ([0, 1, 2, 3]) rfl ?_
  refine s_lda F rfl rfl rfl rfl ag_71_B7 rfl rfl (cells_whole M.h0) ?_; clear F a; intro a F
  refine s_I F rfl rfl rfl rfl rfl rfl ?_; clear F a; intro a F
  refine s_cq F M rfl rfl rfl rfl rfl (rfl : _ = some [_, _]) cb_50_B7 (fun nd_ => c50y _ hf (M.chg.ro hrv) (M.chg.ro hro)) ?_; (clear F a M; try clear w); rintro v w rfl M a F
  refine s_bin F rfl rfl rfl rfl rfl rfl rfl ?_; clear F a; intro a F
  replace F : Fr _ _ ((15, Value.bool false) :: _) := F
  refine t_endM M ?_; (clear M; try clear w); intro w M
  refine c_f F rfl ?_
  refine wp_skip ?_
  refine wp_seq ?_
  replace F := F.keep [0, 1, 2, 4] rfl
  refine wp_region_l [.ind, .rd, .ind, .rd, .ind, .rd, .ind, .rd, .wr, .ind] ([0, 1, 2, 3, 4, 5, 6, 7, 8, 9]) rfl ?_
  refine s_fa0 F rfl rfl rfl rfl fa_71_0_B7 rfl ?_; clear F a; intro a F
  refine s_ld F rfl rfl rfl rfl sc_3_B7 rfl (by exact cell_of_blk M.h0 (lit rfl)) ?_; clear F a; intro a F
  refine s_fa0 F rfl rfl rfl rfl fa_71_1_B7 rfl ?_; clear F a; intro a F
  refine s_ld F rfl rfl rfl rfl sc_3_B7 rfl (by exact cell_of_blk M.h0 (lit rfl)) ?_; clear F a; intro a F
  refine s_fa0 F rfl rfl rfl rfl fa_71_2_B7 rfl ?_; clear F a; intro a F
  refine s_ld F rfl rfl rfl rfl sc_3_B7 rfl (by exact cell_of_blk M.h0 (lit rfl)) ?_; clear F a; intro a F
  refine s_fa0 F rfl rfl rfl rfl fa_71_3_B7 rfl ?_; clear F a; intro a F
  refine s_ld F rfl rfl rfl rfl sc_69_B7 rfl (by exact cell_of_blk M.h0 (lit rfl)) ?_; clear F a; intro a F
  refine s_cq F M rfl rfl rfl rfl rfl (rfl : _ = some [_, _, _, _]) cb_52_B7 (fun nd_ => c52n n t h hn ht vs _ (by omega) hk _ (M.chg.ro hrv)) ?_; (clear F a M; try clear w); rintro v w rfl M a F
  refine s_I F rfl rfl rfl rfl rfl rfl ?_; clear F a; intro a F
  refine t_endM M ?_; (clear M; try clear w); intro w M
  refine wp_seq ?_
  refine wp_seq ?_
  replace F := F.keep [0, 1, 2, 4, 5] rfl
  refine wp_region_l [.ind, .ind] ([0, 1]) rfl ?_
  refine s_I F rfl rfl rfl rfl rfl rfl ?_; clear F a; intro a F
  refine s_pn F rfl rfl rfl rfl pt_73_B7 rfl ?_; clear F a; intro a F
  replace F : Fr _ _ ((27, Value.bool true) :: _) := F
  refine t_endM M ?_; (clear M; try clear w); intro w M
  refine c_t F rfl ?_
  refine wp_seq ?_
  replace F := F.keep [0, 1, 2, 4, 5] rfl
  refine wp_region_l [.wr, .ind] ([0, 1]) rfl ?_
  refine s_cq F M rfl rfl rfl rfl rfl (rfl : _ = some []) cb_51_B7 (fun nd_ => c51 _) ?_; (clear F a M; try clear w); rintro v w rfl M a F
  refine s_I F rfl rfl rfl rfl rfl rfl ?_; clear F a; intro a F
  refine t_endM M ?_; (clear M; try clear w); intro w M
  refine wp_ret ?_
  refine ret1 F rfl rfl ?_
  -- end 0
  exact ⟨_, rfl, rfl, M.chg⟩
set_option maxRecDepth 100000 in
set_option maxHeartbeats 4000000 in
theorem law13c (n t h : Int) (hn : In64 n) (ht : In64 t) (vs : List ByteArray) (vv : Value) (l : List Deed) (v : Value) (w0 : World) (hr2 : RdSl w0.heap vv vs.length 1 (vs.flatMap encS)) (hr : RdSl w0.heap v l.length 8 (l.flatMap encDd)) (hf : fewC vs l) (hk : okC n t h vs = true) : Cl Try.prog 13 #[.agg #[.int .i64 n, .int .i64 t, .int .i64 h, vv], v] w0 (RetQ w0 fun v => v = .bool true) := by
  have M : Sep (fun _ => False) w0 w0 _ := Sep.nil _ w0
  have hro := ro_of hr
  have hrv := ro_of hr2
  obtain ⟨A, cc, rfl, hcc⟩ := hr.form
  obtain ⟨VA, VC, rfl, hvc⟩ := hr2.form
  have hl20 := hf.2.1
  have hl150 := hf.1
  refine enter (vs := [_, _]) Try.func13 rfl rfl rfl ?_
  intro a F
  refine wp_seq ?_
  refine wp_region_l [.wr, .ind] ([0, 1]) rfl ?_
  refine s_bxA F M rfl rfl rfl rfl rfl ?_; (clear F a M; try clear w); intro b2 w M a F
  refine s_I F rfl rfl rfl rfl rfl rfl ?_; clear F a; intro a F
  refine t_endM M ?_; (clear M; try clear w); intro w M
  refine wp_seq ?_
  refine wp_seq ?_
  refine wp_region_l [.rd, .ind, .wr, .ind] ([0, 1, 2, 3]) rfl ?_
  refine s_lda F rfl rfl rfl rfl ag_71_B7 rfl rfl (cells_whole M.h0) ?_; clear F a; intro a F
  refine s_I F rfl rfl rfl rfl rfl rfl ?_; clear F a; intro a F
  refine s_cq F M rfl rfl rfl rfl rfl (rfl : _ = some [_, _]) cb_50_B7 (fun nd_ => c50y _ hf (M.chg.ro hrv) (M.chg.ro hro)) ?_; (clear F a M; try clear w); rintro v w rfl M a F
  refine s_bin F rfl rfl rfl rfl rfl rfl rfl ?_; clear F a; intro a F
  replace F : Fr _ _ ((15, Value.bool false) :: _) := F
  refine t_endM M ?_; (clear M; try clear w); intro w M
  refine c_f F rfl ?_
  refine wp_skip ?_
  refine wp_seq ?_
  replace F := F.keep [0, 1, 2, 4] rfl
  refine wp_region_l [.ind, .rd, .ind, .rd, .ind, .rd, .ind, .rd, .wr, .ind] ([0, 1, 2, 3, 4, 5, 6, 7, 8, 9]) rfl ?_
  refine s_fa0 F rfl rfl rfl rfl fa_71_0_B7 rfl ?_; clear F a; intro a F
  refine s_ld F rfl rfl rfl rfl sc_3_B7 rfl (by exact cell_of_blk M.h0 (lit rfl)) ?_; clear F a; intro a F
  refine s_fa0 F rfl rfl rfl rfl fa_71_1_B7 rfl ?_; clear F a; intro a F
  refine s_ld F rfl rfl rfl rfl sc_3_B7 rfl (by exact cell_of_blk M.h0 (lit rfl)) ?_; clear F a; intro a F
  refine s_fa0 F rfl rfl rfl rfl fa_71_2_B7 rfl ?_; clear F a; intro a F
  refine s_ld F rfl rfl rfl rfl sc_3_B7 rfl (by exact cell_of_blk M.h0 (lit rfl)) ?_; clear F a; intro a F
  refine s_fa0 F rfl rfl rfl rfl fa_71_3_B7 rfl ?_; clear F a; intro a F
  refine s_ld F rfl rfl rfl rfl sc_69_B7 rfl (by exact cell_of_blk M.h0 (lit rfl)) ?_; clear F a; intro a F
  refine s_call (m := []) F M rfl rfl rfl rfl rfl (rfl : _ = some [_, _, _, _]) cb_52_B7 (fun nd_ => c52 n t h hn ht vs _ hk _ (M.chg.ro hrv)) ?_; (clear F a M; try clear w); rintro v g0 w rfl M a F; (try simp only [List.cons_append, List.nil_append] at M)
  refine s_I F rfl rfl rfl rfl rfl rfl ?_; clear F a; intro a F
  refine t_endM M ?_; (clear M; try clear w); intro w M
  refine wp_seq ?_
  refine wp_seq ?_
  replace F := F.keep [0, 1, 2, 4, 5] rfl
  refine wp_region_l [.ind, .ind] ([0, 1]) rfl ?_
  refine s_I F rfl rfl rfl rfl rfl rfl ?_; clear F a; intro a F
  refine s_pn F rfl rfl rfl rfl pt_73_B7 rfl ?_; clear F a; intro a F
  replace F : Fr _ _ ((27, Value.bool false) :: _) := F
  refine t_endM M ?_; (clear M; try clear w); intro w M
  refine c_f F rfl ?_
  refine wp_skip ?_
  refine wp_seq ?_
  replace F := F.keep [0, 1, 2, 4, 5] rfl
  refine wp_region_l [.ind, .ind] ([0, 1]) rfl ?_
  refine s_I F rfl rfl rfl rfl rfl rfl ?_; clear F a; intro a F
  refine s_I F rfl rfl rfl rfl rfl rfl ?_; clear F a; intro a F
  refine t_endM M ?_; (clear M; try clear w); intro w M
  refine wp_seq ?_
  refine wp_seq ?_
  refine wp_region_l [.ind] ([0]) rfl ?_
  refine s_I F rfl rfl rfl rfl rfl rfl ?_; clear F a; intro a F
  refine t_endM M ?_; (clear M; try clear w); intro w M
  refine wp_block ?_
  have M1 : Sep _ _ _ (couR _ _ :: _) := M; replace M := M1; clear M1
  refine loopX (X := (Int) × (Gc) × (Cou) × (ByteArray) × (Bool)) F [0, 1, 2, 5] rfl (fun ((i, γ, C, first, any) : (Int) × (Gc) × (Cou) × (ByteArray) × (Bool)) => (0 ≤ i) ∧ (i ≤ l.length) ∧ (γ.b = g0.b) ∧ (C.Wf n t) ∧ (CouM.Safe n t C) ∧ (any = true → Dn C first)) (fun ((i, γ, C, first, any) : (Int) × (Gc) × (Cou) × (ByteArray) × (Bool)) => [(6, .string first), (7, .bool any), (8, .int .i64 i)]) (fun ((i, γ, C, first, any) : (Int) × (Gc) × (Cou) × (ByteArray) × (Bool)) => [couR γ C]) (fun ((i, γ, C, first, any) : (Int) × (Gc) × (Cou) × (ByteArray) × (Bool)) => l.length - i.toNat) ((0), (g0), (newC n t h vs), (VoteM.empty), (false)) M ⟨(by omega), (by omega), rfl, (newC_wf hk), (newC_safe hk), (fun h => by cases h)⟩ (F.keep [6, 7, 8, 0, 1, 2, 5] rfl) ?_
  clear F M; clear a; (try clear w)
  rintro ⟨i, γ, C, first, any⟩ a w ⟨i0, i1, hg, hW, hS, hany⟩ F M; try dsimp only at F M
  try simp only [List.cons_append, List.nil_append] at F M
  try dsimp only at i0 i1 hg hW hS hany
  rw [← hg] at F
  refine wp_seq ?_
  refine wp_seq ?_
  refine wp_region_l [.ind, .ind, .ind, .ind] ([0, 1, 2, 3]) rfl ?_
  refine s_I F rfl rfl rfl rfl rfl rfl ?_; clear F a; intro a F
  refine s_I F rfl rfl rfl rfl rfl rfl ?_; clear F a; intro a F
  refine s_len F rfl rfl rfl rfl sl_79_B7 rfl ?_; clear F a; intro a F
  refine s_bin F rfl rfl rfl rfl rfl rfl rfl ?_; clear F a; intro a F
  refine t_endM M ?_; (clear M; try clear w); intro w M
  refine c_if F rfl ?_ ?_
  ·
    clear F; intro hc0 F
    try rw [hc0] at F
    replace hc0 := of_decide_eq_true hc0
    refine wp_skip ?_
    refine wp_seq ?_
    refine wp_block ?_
    refine wp_seq ?_
    replace F := F.keep [0, 1, 2, 5, 6, 7, 8] rfl
    refine wp_region_l [.ind, .ind, .ind, .ind, .rd, .wr] ([0, 1, 2, 3, 4, 5]) rfl ?_
    refine s_I F rfl rfl rfl rfl rfl rfl ?_; clear F a; intro a F
    refine s_I F rfl rfl rfl rfl rfl rfl ?_; clear F a; intro a F
    refine s_I F rfl rfl rfl rfl rfl rfl ?_; clear F a; intro a F
    refine s_ix F rfl rfl rfl rfl sl_79_B7 rfl rfl (by exact M.chg.ro hro) (by omega) (by omega) ?_; clear F a; intro e38 he38 a F
    refine s_lda F rfl rfl rfl rfl ag_82_B7 rfl rfl (rdsX (M.chg.ro hro) (by intro e; rfl) he38) ?_; clear F a; intro a F
    have M1 : Sep _ _ _ (couR _ _ :: _) := M; replace M := M1; clear M1
    refine s_call (m := [_]) F M rfl rfl rfl rfl rfl (rfl : _ = some [_, _]) cb_56_B7 (fun nd_ => c56 γ C hW e38 _ (M.drewN nd_).own.one) ?_; (clear F a M; try clear w); rintro v γ3 w ⟨rfl, hb3⟩ M a F; (try simp only [List.cons_append, List.nil_append] at M)
    have hW3 := hW.doit e38
    have hS3 := hS.doit hW e38
    refine t_endM M ?_; (clear M; try clear w); intro w M
    refine wp_seq ?_
    rw [← hb3] at F
    replace F := F.keep [0, 1, 2, 5, 6, 7, 8] rfl
    refine wp_region_l [.ind] ([0]) rfl ?_
    refine s_I F rfl rfl rfl rfl rfl rfl ?_; clear F a; intro a F
    refine t_endM M ?_; (clear M; try clear w); intro w M
    refine wp_block ?_
    refine loopX (X := (Int) × (ByteArray) × (Bool)) F [0, 1, 2, 5, 8] rfl (fun ((k, first2, any2) : (Int) × (ByteArray) × (Bool)) => (1 ≤ k) ∧ (k ≤ vs.length + 1) ∧ (any2 = true → Dn (C.doit e38).1 first2)) (fun ((k, first2, any2) : (Int) × (ByteArray) × (Bool)) => [(6, .string first2), (7, .bool any2), (9, .int .i64 k)]) (fun ((k, first2, any2) : (Int) × (ByteArray) × (Bool)) => []) (fun ((k, first2, any2) : (Int) × (ByteArray) × (Bool)) => vs.length + 1 - k.toNat) ((1), (first), (any)) M ⟨(by omega), (by omega), (fun h => (hany h).doit hW e38)⟩ (F.keep [6, 7, 9, 0, 1, 2, 5, 8] rfl) ?_
    clear F M; clear a; (try clear w)
    rintro ⟨k, first2, any2⟩ a w ⟨k0, k1, hany2⟩ F M; try dsimp only at F M
    try simp only [List.cons_append, List.nil_append] at F M
    try dsimp only at k0 k1 hany2
    refine wp_seq ?_
    refine wp_seq ?_
    refine wp_region_l [.ind, .ind, .rd, .ind, .ind] ([0, 1, 2, 3, 4]) rfl ?_
    refine s_I F rfl rfl rfl rfl rfl rfl ?_; clear F a; intro a F
    refine s_fa0 F rfl rfl rfl rfl fa_71_3_B7 rfl ?_; clear F a; intro a F
    refine s_ld F rfl rfl rfl rfl sc_69_B7 rfl (by exact cell_of_blk M.h1 (lit rfl)) ?_; clear F a; intro a F
    refine s_len F rfl rfl rfl rfl sl_69_B7 rfl ?_; clear F a; intro a F
    refine s_bin F rfl rfl rfl rfl rfl rfl rfl ?_; clear F a; intro a F
    refine t_endM M ?_; (clear M; try clear w); intro w M
    refine c_if F rfl ?_ ?_
    ·
      clear F; intro hc1 F
      try rw [hc1] at F
      replace hc1 := of_decide_eq_true hc1
      refine wp_skip ?_
      refine wp_seq ?_
      refine wp_block ?_
      refine wp_seq ?_
      replace F := F.keep [0, 1, 2, 5, 6, 7, 8, 9] rfl
      refine wp_region_l [.ind, .ind, .wr, .ind, .ind, .ind, .ind, .ind] ([0, 1, 2, 3, 4, 5, 6, 7]) rfl ?_
      refine s_I F rfl rfl rfl rfl rfl rfl ?_; clear F a; intro a F
      refine s_I F rfl rfl rfl rfl rfl rfl ?_; clear F a; intro a F
      refine s_cq F M rfl rfl rfl rfl rfl (rfl : _ = some [_, _]) cb_54_B7 (fun nd_ => c54 γ3 (C.doit e38).1 hW3.l7 k _ (by exact roF (M.drewN nd_))) ?_; (clear F a M; try clear w); rintro v w rfl M a F
      refine s_I F rfl rfl rfl rfl rfl rfl ?_; clear F a; intro a F
      refine s_I F rfl rfl rfl rfl rfl rfl ?_; clear F a; intro a F
      refine s_I F rfl rfl rfl rfl rfl rfl ?_; clear F a; intro a F
      refine s_I F rfl rfl rfl rfl rfl rfl ?_; clear F a; intro a F
      refine s_I F rfl rfl rfl rfl rfl rfl ?_; clear F a; intro a F
      refine t_endM M ?_; (clear M; try clear w); intro w M
      refine wp_seq ?_
      refine wp_seq ?_
      replace F := F.keep [0, 1, 2, 5, 6, 7, 8, 9, 10, 11] rfl
      refine wp_region_l [.ind, .ind, .ind, .ind, .ind, .ind, .ind, .ind, .ind, .ind, .ind, .ind, .ind, .ind, .ind, .ind] ([0, 1, 2, 3, 4, 5, 6, 7, 8, 9, 10, 11, 12, 13, 14, 15]) rfl ?_
      refine s_I F rfl rfl rfl rfl rfl rfl ?_; clear F a; intro a F
      refine s_I F rfl rfl rfl rfl rfl rfl ?_; clear F a; intro a F
      refine bsplit F 55 rfl ?_ ?_
      ·
        clear F; intro hc2 F
        try rw [hc2] at F
        skip
        refine s_I F rfl rfl rfl rfl rfl rfl ?_; clear F a; intro a F
        refine s_I F rfl rfl rfl rfl rfl rfl ?_; clear F a; intro a F
        refine s_I F rfl rfl rfl rfl rfl rfl ?_; clear F a; intro a F
        refine bsplit F 58 rfl ?_ ?_
        ·
          clear F; intro hc3 F
          try rw [hc3] at F
          skip
          refine s_I F rfl rfl rfl rfl rfl rfl ?_; clear F a; intro a F
          refine s_I F rfl rfl rfl rfl rfl rfl ?_; clear F a; intro a F
          refine s_bin F rfl rfl rfl rfl rfl rfl rfl ?_; clear F a; intro a F
          refine s_I F rfl rfl rfl rfl rfl rfl ?_; clear F a; intro a F
          refine s_I F rfl rfl rfl rfl rfl rfl ?_; clear F a; intro a F
          refine bsplit F 63 rfl ?_ ?_
          ·
            clear F; intro hc4 F
            try rw [hc4] at F
            replace hc4 := nd1 hc4
            refine s_no F rfl rfl rfl rfl ?_; clear F a; intro a F
            refine s_no F rfl rfl rfl rfl ?_; clear F a; intro a F
            refine s_no F rfl rfl rfl rfl ?_; clear F a; intro a F
            refine s_no F rfl rfl rfl rfl ?_; clear F a; intro a F
            refine s_no F rfl rfl rfl rfl ?_; clear F a; intro a F
            refine s_I F rfl rfl rfl rfl rfl rfl ?_; clear F a; intro a F
            refine t_endM M ?_; (clear M; try clear w); intro w M
            refine c_t F rfl ?_
            refine wp_seq ?_
            replace F := F.keep [0, 1, 2, 5, 6, 7, 8, 9, 10, 11] rfl
            refine wp_region_l [.ind] ([0]) rfl ?_
            refine s_I F rfl rfl rfl rfl rfl rfl ?_; clear F a; intro a F
            refine t_endM M ?_; (clear M; try clear w); intro w M
            refine wp_ret ?_
            refine ret1 F rfl rfl ?_
            -- end 0
            exact (agr_bad hS3 hany2 (by assumption) (by exact .inl ⟨by assumption, by assumption⟩)).elim
          ·
            clear F; intro hc5 F
            try rw [hc5] at F
            replace hc5 := nd0 hc5
            refine s_I F rfl rfl rfl rfl rfl rfl ?_; clear F a; intro a F
            refine s_I F rfl rfl rfl rfl rfl rfl ?_; clear F a; intro a F
            refine s_I F rfl rfl rfl rfl rfl rfl ?_; clear F a; intro a F
            refine s_bin F rfl rfl rfl rfl rfl rfl rfl ?_; clear F a; intro a F
            refine s_I F rfl rfl rfl rfl rfl rfl ?_; clear F a; intro a F
            refine s_I F rfl rfl rfl rfl rfl rfl ?_; clear F a; intro a F
            refine t_endM M ?_; (clear M; try clear w); intro w M
            refine c_if F rfl ?_ ?_
            ·
              clear F; intro hc6 F
              try rw [hc6] at F
              replace hc6 := of_decide_eq_true hc6
              exact (agr_bad hS3 hany2 (by assumption) (by exact .inr (by assumption))).elim
            ·
              clear F; intro hc7 F
              try rw [hc7] at F
              replace hc7 := of_decide_eq_false hc7
              refine wp_skip ?_
              refine wp_seq ?_
              replace F := F.keep [0, 1, 2, 5, 6, 7, 8, 9, 10, 11] rfl
              refine wp_region_l [.ind] ([0]) rfl ?_
              refine s_I F rfl rfl rfl rfl rfl rfl ?_; clear F a; intro a F
              refine t_endM M ?_; (clear M; try clear w); intro w M
              refine c_t F rfl ?_
              replace F := F.keep [0, 1, 2, 5, 6, 7, 8, 9, 10, 11] rfl
              refine wp_region_l [.ind, .ind, .ind] ([0, 1, 2]) rfl ?_
              refine s_I F rfl rfl rfl rfl rfl rfl ?_; clear F a; intro a F
              refine s_I F rfl rfl rfl rfl rfl rfl ?_; clear F a; intro a F
              refine s_I F rfl rfl rfl rfl rfl rfl ?_; clear F a; intro a F
              refine t_endM M ?_; (clear M; try clear w); intro w M
              replace F := F.keep [0, 1, 2, 5, 6, 7, 8, 9, 10, 11] rfl
              refine wp_region_l [.ind, .ind, .ind] ([0, 1, 2]) rfl ?_
              refine s_I F rfl rfl rfl rfl rfl rfl ?_; clear F a; intro a F
              refine s_add F rfl rfl rfl rfl rfl rfl (by unfold In64; omega) ?_; clear F a; intro a F
              refine s_I F rfl rfl rfl rfl rfl rfl ?_; clear F a; intro a F
              refine t_endM M ?_; (clear M; try clear w); intro w M
              refine again ((k + 1), (_), (_)) (by show _ < _; (try dsimp only); omega) ⟨(by omega), (by omega), (by exact fun _ => decd_dn (by assumption))⟩ (F.keep [6, 7, 9, 0, 1, 2, 5, 8] rfl) ?_
              try dsimp only [List.cons_append, List.nil_append]
              refine M.pick ?_; repeat (first | exact PkG.nil | refine PkG.cons 0 rfl rfl ?_ | refine PkG.cons 1 rfl rfl ?_)
        ·
          clear F; intro hc8 F
          try rw [hc8] at F
          skip
          refine s_no F rfl rfl rfl rfl ?_; clear F a; intro a F
          refine s_no F rfl rfl rfl rfl ?_; clear F a; intro a F
          refine s_no F rfl rfl rfl rfl ?_; clear F a; intro a F
          refine s_I F rfl rfl rfl rfl rfl rfl ?_; clear F a; intro a F
          refine s_I F rfl rfl rfl rfl rfl rfl ?_; clear F a; intro a F
          refine s_I F rfl rfl rfl rfl rfl rfl ?_; clear F a; intro a F
          refine s_I F rfl rfl rfl rfl rfl rfl ?_; clear F a; intro a F
          refine s_I F rfl rfl rfl rfl rfl rfl ?_; clear F a; intro a F
          refine s_bin F rfl rfl rfl rfl rfl rfl rfl ?_; clear F a; intro a F
          refine s_I F rfl rfl rfl rfl rfl rfl ?_; clear F a; intro a F
          refine s_I F rfl rfl rfl rfl rfl rfl ?_; clear F a; intro a F
          refine t_endM M ?_; (clear M; try clear w); intro w M
          refine c_if F rfl ?_ ?_
          ·
            clear F; intro hc9 F
            try rw [hc9] at F
            replace hc9 := of_decide_eq_true hc9
            exact (agr_bad hS3 hany2 (by assumption) (by exact .inr (by assumption))).elim
          ·
            clear F; intro hc10 F
            try rw [hc10] at F
            replace hc10 := of_decide_eq_false hc10
            refine wp_skip ?_
            refine wp_seq ?_
            replace F := F.keep [0, 1, 2, 5, 6, 7, 8, 9, 10, 11] rfl
            refine wp_region_l [.ind] ([0]) rfl ?_
            refine s_I F rfl rfl rfl rfl rfl rfl ?_; clear F a; intro a F
            refine t_endM M ?_; (clear M; try clear w); intro w M
            refine c_t F rfl ?_
            replace F := F.keep [0, 1, 2, 5, 6, 7, 8, 9, 10, 11] rfl
            refine wp_region_l [.ind, .ind, .ind] ([0, 1, 2]) rfl ?_
            refine s_I F rfl rfl rfl rfl rfl rfl ?_; clear F a; intro a F
            refine s_I F rfl rfl rfl rfl rfl rfl ?_; clear F a; intro a F
            refine s_I F rfl rfl rfl rfl rfl rfl ?_; clear F a; intro a F
            refine t_endM M ?_; (clear M; try clear w); intro w M
            replace F := F.keep [0, 1, 2, 5, 6, 7, 8, 9, 10, 11] rfl
            refine wp_region_l [.ind, .ind, .ind] ([0, 1, 2]) rfl ?_
            refine s_I F rfl rfl rfl rfl rfl rfl ?_; clear F a; intro a F
            refine s_add F rfl rfl rfl rfl rfl rfl (by unfold In64; omega) ?_; clear F a; intro a F
            refine s_I F rfl rfl rfl rfl rfl rfl ?_; clear F a; intro a F
            refine t_endM M ?_; (clear M; try clear w); intro w M
            refine again ((k + 1), (_), (_)) (by show _ < _; (try dsimp only); omega) ⟨(by omega), (by omega), (by exact fun _ => decd_dn (by assumption))⟩ (F.keep [6, 7, 9, 0, 1, 2, 5, 8] rfl) ?_
            try dsimp only [List.cons_append, List.nil_append]
            refine M.pick ?_; repeat (first | exact PkG.nil | refine PkG.cons 0 rfl rfl ?_ | refine PkG.cons 1 rfl rfl ?_)
      ·
        clear F; intro hc11 F
        try rw [hc11] at F
        skip
        refine s_no F rfl rfl rfl rfl ?_; clear F a; intro a F
        refine s_I F rfl rfl rfl rfl rfl rfl ?_; clear F a; intro a F
        refine s_I F rfl rfl rfl rfl rfl rfl ?_; clear F a; intro a F
        refine s_no F rfl rfl rfl rfl ?_; clear F a; intro a F
        refine s_no F rfl rfl rfl rfl ?_; clear F a; intro a F
        refine s_no F rfl rfl rfl rfl ?_; clear F a; intro a F
        refine s_I F rfl rfl rfl rfl rfl rfl ?_; clear F a; intro a F
        refine s_I F rfl rfl rfl rfl rfl rfl ?_; clear F a; intro a F
        refine s_I F rfl rfl rfl rfl rfl rfl ?_; clear F a; intro a F
        refine s_I F rfl rfl rfl rfl rfl rfl ?_; clear F a; intro a F
        refine s_no F rfl rfl rfl rfl ?_; clear F a; intro a F
        refine s_no F rfl rfl rfl rfl ?_; clear F a; intro a F
        refine s_I F rfl rfl rfl rfl rfl rfl ?_; clear F a; intro a F
        refine s_I F rfl rfl rfl rfl rfl rfl ?_; clear F a; intro a F
        refine t_endM M ?_; (clear M; try clear w); intro w M
        refine c_f F rfl ?_
        refine wp_skip ?_
        refine wp_seq ?_
        replace F := F.keep [0, 1, 2, 5, 6, 7, 8, 9, 10, 11] rfl
        refine wp_region_l [.ind] ([0]) rfl ?_
        refine s_I F rfl rfl rfl rfl rfl rfl ?_; clear F a; intro a F
        refine t_endM M ?_; (clear M; try clear w); intro w M
        refine c_f F rfl ?_
        refine wp_skip ?_
        replace F := F.keep [0, 1, 2, 5, 6, 7, 8, 9, 10, 11] rfl
        refine wp_region_l [.ind, .ind, .ind] ([0, 1, 2]) rfl ?_
        refine s_I F rfl rfl rfl rfl rfl rfl ?_; clear F a; intro a F
        refine s_add F rfl rfl rfl rfl rfl rfl (by unfold In64; omega) ?_; clear F a; intro a F
        refine s_I F rfl rfl rfl rfl rfl rfl ?_; clear F a; intro a F
        refine t_endM M ?_; (clear M; try clear w); intro w M
        refine again ((k + 1), (_), (_)) (by show _ < _; (try dsimp only); omega) ⟨(by omega), (by omega), (by exact hany2)⟩ (F.keep [6, 7, 9, 0, 1, 2, 5, 8] rfl) ?_
        try dsimp only [List.cons_append, List.nil_append]
        refine M.pick ?_; repeat (first | exact PkG.nil | refine PkG.cons 0 rfl rfl ?_ | refine PkG.cons 1 rfl rfl ?_)
    ·
      clear F; intro hc12 F
      try rw [hc12] at F
      replace hc12 := of_decide_eq_false hc12
      refine wp_exit ?_
      replace F := F.keep [0, 1, 2, 5, 6, 7, 8, 9] rfl
      refine wp_region_l [.ind, .ind, .ind] ([0, 1, 2]) rfl ?_
      refine s_I F rfl rfl rfl rfl rfl rfl ?_; clear F a; intro a F
      refine s_add F rfl rfl rfl rfl rfl rfl (by unfold In64; omega) ?_; clear F a; intro a F
      refine s_I F rfl rfl rfl rfl rfl rfl ?_; clear F a; intro a F
      refine t_endM M ?_; (clear M; try clear w); intro w M
      rw [hb3] at F
      rw [hg] at F
      refine again ((i + 1), (γ3), ((C.doit e38).1), (first2), (any2)) (by show _ < _; (try dsimp only); omega) ⟨(by omega), (by assumption), (hb3.trans hg), hW3, hS3, hany2⟩ (F.keep [6, 7, 8, 0, 1, 2, 5] rfl) ?_
      try dsimp only [List.cons_append, List.nil_append]
      refine M.pick ?_; repeat (first | exact PkG.nil | refine PkG.cons 0 rfl rfl ?_ | refine PkG.cons 1 rfl rfl ?_)
  ·
    clear F; intro hc13 F
    try rw [hc13] at F
    replace hc13 := of_decide_eq_false hc13
    refine wp_exit ?_
    refine wp_seq ?_
    replace F := F.keep [0, 1, 2, 5, 6, 7, 8] rfl
    refine wp_region_l [.wr, .ind] ([0, 1]) rfl ?_
    refine s_cq F M rfl rfl rfl rfl rfl (rfl : _ = some []) cb_51_B7 (fun nd_ => c51 _) ?_; (clear F a M; try clear w); rintro v w rfl M a F
    refine s_I F rfl rfl rfl rfl rfl rfl ?_; clear F a; intro a F
    refine t_endM M ?_; (clear M; try clear w); intro w M
    refine wp_ret ?_
    refine ret1 F rfl rfl ?_
    -- end 1
    exact ⟨_, rfl, rfl, M.chg⟩
set_option maxRecDepth 100000 in
set_option maxHeartbeats 400000 in
theorem law15 (d : Deed) (w0 : World) : Cl Try.prog 15 #[.agg (encDd d).toArray] w0 (RetQ w0 fun v => v = .bool true) := by
  have M : Sep (fun _ => False) w0 w0 _ := Sep.nil _ w0
  refine enter (vs := [_]) Try.func15 rfl rfl rfl ?_
  intro a F
  refine wp_seq ?_
  refine wp_region_l [.wr, .ind] ([0, 1]) rfl ?_
  refine s_bxA F M rfl rfl rfl rfl rfl ?_; (clear F a M; try clear w); intro b1 w M a F
  refine s_I F rfl rfl rfl rfl rfl rfl ?_; clear F a; intro a F
  refine t_endM M ?_; (clear M; try clear w); intro w M
  refine wp_seq ?_
  refine wp_region_l [.ind] ([0]) rfl ?_
  refine s_I F rfl rfl rfl rfl rfl rfl ?_; clear F a; intro a F
  refine t_endM M ?_; (clear M; try clear w); intro w M
  refine wp_seq ?_
  refine wp_region_l [.ind, .ind, .rd, .wr, .ind, .ind, .ind, .ind, .ind] ([0, 1, 2, 3, 4, 5, 6, 7, 8]) rfl ?_
  refine s_I F rfl rfl rfl rfl rfl rfl ?_; clear F a; intro a F
  refine s_fa0 F rfl rfl rfl rfl fa_82_1_B7 rfl ?_; clear F a; intro a F
  refine s_ld F rfl rfl rfl rfl sc_3_B7 rfl (by exact cell_of_blk M.h0 (lit rfl)) ?_; clear F a; intro a F
  refine s_cq F M rfl rfl rfl rfl rfl (rfl : _ = some [_, _]) cb_54_B7 (fun nd_ => c54n d.node _) ?_; (clear F a M; try clear w); rintro v w rfl M a F
  refine s_I F rfl rfl rfl rfl rfl rfl ?_; clear F a; intro a F
  refine s_I F rfl rfl rfl rfl rfl rfl ?_; clear F a; intro a F
  refine s_I F rfl rfl rfl rfl rfl rfl ?_; clear F a; intro a F
  refine s_I F rfl rfl rfl rfl rfl rfl ?_; clear F a; intro a F
  refine s_I F rfl rfl rfl rfl rfl rfl ?_; clear F a; intro a F
  refine t_endM M ?_; (clear M; try clear w); intro w M
  refine wp_seq ?_
  replace F := F.keep [0, 1, 2, 3, 4, 5] rfl
  refine wp_region_l [.ind, .rd, .wr, .ind, .ind, .ind, .ind, .ind, .ind, .ind, .ind, .ind, .ind, .ind, .wr, .ind, .ind, .ind, .wr, .ind, .ind] ([0, 1, 2, 3, 4, 5, 6, 7, 8, 9, 10, 11, 12, 13, 14, 15, 16, 17, 18, 19, 20]) rfl ?_
  refine s_I F rfl rfl rfl rfl rfl rfl ?_; clear F a; intro a F
  refine s_lda F rfl rfl rfl rfl ag_82_B7 rfl rfl (cells_whole M.h0) ?_; clear F a; intro a F
  refine s_cq F M rfl rfl rfl rfl rfl (rfl : _ = some [_, _]) cb_56_B7 (fun nd_ => c56n d _) ?_; (clear F a M; try clear w); rintro v w rfl M a F
  refine s_I F rfl rfl rfl rfl rfl rfl ?_; clear F a; intro a F
  replace F : Fr _ _ ((16, Value.bool true) :: _) := F
  refine s_I F rfl rfl rfl rfl rfl rfl ?_; clear F a; intro a F
  refine s_I F rfl rfl rfl rfl rfl rfl ?_; clear F a; intro a F
  refine s_bin F rfl rfl rfl rfl rfl rfl rfl ?_; clear F a; intro a F
  replace F : Fr _ _ ((19, Value.bool true) :: _) := F
  refine s_I F rfl rfl rfl rfl rfl rfl ?_; clear F a; intro a F
  refine s_I F rfl rfl rfl rfl rfl rfl ?_; clear F a; intro a F
  refine s_I F rfl rfl rfl rfl rfl rfl ?_; clear F a; intro a F
  refine s_I F rfl rfl rfl rfl rfl rfl ?_; clear F a; intro a F
  replace F : Fr _ _ ((23, Value.bool true) :: _) := F
  refine s_I F rfl rfl rfl rfl rfl rfl ?_; clear F a; intro a F
  refine s_I F rfl rfl rfl rfl rfl rfl ?_; clear F a; intro a F
  refine s_I F rfl rfl rfl rfl rfl rfl ?_; clear F a; intro a F
  refine s_cq F M rfl rfl rfl rfl rfl (rfl : _ = some [_]) cb_55_B7 (fun nd_ => c55n _) ?_; (clear F a M; try clear w); rintro v w rfl M a F
  refine s_bin F rfl rfl rfl rfl rfl rfl rfl ?_; clear F a; intro a F
  replace F : Fr _ _ ((28, Value.bool true) :: _) := F
  refine s_I F rfl rfl rfl rfl rfl rfl ?_; clear F a; intro a F
  refine s_I F rfl rfl rfl rfl rfl rfl ?_; clear F a; intro a F
  refine s_cq F M rfl rfl rfl rfl rfl (rfl : _ = some []) cb_51_B7 (fun nd_ => c51 _) ?_; (clear F a M; try clear w); rintro v w rfl M a F
  refine s_I F rfl rfl rfl rfl rfl rfl ?_; clear F a; intro a F
  refine s_I F rfl rfl rfl rfl rfl rfl ?_; clear F a; intro a F
  refine t_endM M ?_; (clear M; try clear w); intro w M
  refine wp_ret ?_
  refine ret1 F rfl rfl ?_
  -- end 0
  exact ⟨_, rfl, rfl, M.chg⟩
set_option maxRecDepth 100000 in
set_option maxHeartbeats 4000000 in
theorem law14b (n t h : Int) (hn : In64 n) (ht : In64 t) (vs : List ByteArray) (vv : Value) (l : List Deed) (v : Value) (w0 : World) (hr2 : RdSl w0.heap vv vs.length 1 (vs.flatMap encS)) (hr : RdSl w0.heap v l.length 8 (l.flatMap encDd)) (hf : fewC vs l) (hk : okC n t h vs = false) : Cl Try.prog 14 #[.agg #[.int .i64 n, .int .i64 t, .int .i64 h, vv], v] w0 (RetQ w0 fun v => v = .bool true) := by
  have M : Sep (fun _ => False) w0 w0 _ := Sep.nil _ w0
  have hro := ro_of hr
  have hrv := ro_of hr2
  obtain ⟨A, cc, rfl, hcc⟩ := hr.form
  obtain ⟨VA, VC, rfl, hvc⟩ := hr2.form
  have hl20 := hf.2.1
  have hl150 := hf.1
  refine enter (vs := [_, _]) Try.func14 rfl rfl rfl ?_
  intro a F
  refine wp_seq ?_
  refine wp_region_l [.wr, .ind] ([0, 1]) rfl ?_
  refine s_bxA F M rfl rfl rfl rfl rfl ?_; (clear F a M; try clear w); intro b2 w M a F
  refine s_I F rfl rfl rfl rfl rfl rfl ?_; clear F a; intro a F
  refine t_endM M ?_; (clear M; try clear w); intro w M
  refine wp_seq ?_
  refine wp_seq ?_
  refine wp_region_l [.rd, .ind, .wr, .ind] ([0, 1, 2, 3]) rfl ?_
  refine s_lda F rfl rfl rfl rfl ag_71_B7 rfl rfl (cells_whole M.h0) ?_; clear F a; intro a F
  refine s_I F rfl rfl rfl rfl rfl rfl ?_; clear F a; intro a F
  refine s_cq F M rfl rfl rfl rfl rfl (rfl : _ = some [_, _]) cb_50_B7 (fun nd_ => c50y _ hf (M.chg.ro hrv) (M.chg.ro hro)) ?_; (clear F a M; try clear w); rintro v w rfl M a F
  refine s_bin F rfl rfl rfl rfl rfl rfl rfl ?_; clear F a; intro a F
  replace F : Fr _ _ ((15, Value.bool false) :: _) := F
  refine t_endM M ?_; (clear M; try clear w); intro w M
  refine c_f F rfl ?_
  refine wp_skip ?_
  refine wp_seq ?_
  replace F := F.keep [0, 1, 2, 4] rfl
  refine wp_region_l [.ind, .rd, .ind, .rd, .ind, .rd, .ind, .rd, .wr, .ind] ([0, 1, 2, 3, 4, 5, 6, 7, 8, 9]) rfl ?_
  refine s_fa0 F rfl rfl rfl rfl fa_71_0_B7 rfl ?_; clear F a; intro a F
  refine s_ld F rfl rfl rfl rfl sc_3_B7 rfl (by exact cell_of_blk M.h0 (lit rfl)) ?_; clear F a; intro a F
  refine s_fa0 F rfl rfl rfl rfl fa_71_1_B7 rfl ?_; clear F a; intro a F
  refine s_ld F rfl rfl rfl rfl sc_3_B7 rfl (by exact cell_of_blk M.h0 (lit rfl)) ?_; clear F a; intro a F
  refine s_fa0 F rfl rfl rfl rfl fa_71_2_B7 rfl ?_; clear F a; intro a F
  refine s_ld F rfl rfl rfl rfl sc_3_B7 rfl (by exact cell_of_blk M.h0 (lit rfl)) ?_; clear F a; intro a F
  refine s_fa0 F rfl rfl rfl rfl fa_71_3_B7 rfl ?_; clear F a; intro a F
  refine s_ld F rfl rfl rfl rfl sc_69_B7 rfl (by exact cell_of_blk M.h0 (lit rfl)) ?_; clear F a; intro a F
  refine s_cq F M rfl rfl rfl rfl rfl (rfl : _ = some [_, _, _, _]) cb_52_B7 (fun nd_ => c52n n t h hn ht vs _ (by omega) hk _ (M.chg.ro hrv)) ?_; (clear F a M; try clear w); rintro v w rfl M a F
  refine s_I F rfl rfl rfl rfl rfl rfl ?_; clear F a; intro a F
  refine t_endM M ?_; (clear M; try clear w); intro w M
  refine wp_seq ?_
  refine wp_seq ?_
  replace F := F.keep [0, 1, 2, 4, 5] rfl
  refine wp_region_l [.ind] ([0]) rfl ?_
  refine s_I F rfl rfl rfl rfl rfl rfl ?_; clear F a; intro a F
  refine t_endM M ?_; (clear M; try clear w); intro w M
  refine wp_block ?_
  refine loopX (X := (Int)) F [0, 1, 2, 4, 5] rfl (fun (i : Int) => (0 ≤ i) ∧ (i ≤ l.length)) (fun (i : Int) => [(6, .int .i64 i)]) (fun (i : Int) => []) (fun (i : Int) => l.length - i.toNat) (0) M ⟨(by omega), (by omega)⟩ (F.keep [6, 0, 1, 2, 4, 5] rfl) ?_
  clear F M; clear a; (try clear w)
  rintro i a w ⟨i0, i1⟩ F M; try dsimp only at F M
  try simp only [List.cons_append, List.nil_append] at F M
  try dsimp only at i0 i1
  refine wp_seq ?_
  refine wp_seq ?_
  refine wp_region_l [.ind, .ind, .ind, .ind] ([0, 1, 2, 3]) rfl ?_
  refine s_I F rfl rfl rfl rfl rfl rfl ?_; clear F a; intro a F
  refine s_I F rfl rfl rfl rfl rfl rfl ?_; clear F a; intro a F
  refine s_len F rfl rfl rfl rfl sl_79_B7 rfl ?_; clear F a; intro a F
  refine s_bin F rfl rfl rfl rfl rfl rfl rfl ?_; clear F a; intro a F
  refine t_endM M ?_; (clear M; try clear w); intro w M
  refine c_if F rfl ?_ ?_
  ·
    clear F; intro hc0 F
    try rw [hc0] at F
    replace hc0 := of_decide_eq_true hc0
    refine wp_skip ?_
    refine wp_seq ?_
    refine wp_block ?_
    refine wp_seq ?_
    replace F := F.keep [0, 1, 2, 4, 5, 6] rfl
    refine wp_region_l [.ind, .ind, .ind, .ind, .rd, .ind] ([0, 1, 2, 3, 4, 5]) rfl ?_
    refine s_I F rfl rfl rfl rfl rfl rfl ?_; clear F a; intro a F
    refine s_I F rfl rfl rfl rfl rfl rfl ?_; clear F a; intro a F
    refine s_ix F rfl rfl rfl rfl sl_79_B7 rfl rfl (by exact M.chg.ro hro) (by omega) (by omega) ?_; clear F a; intro e34 he34 a F
    refine s_fa F rfl rfl rfl rfl fa_82_0_B7 rfl ?_; clear F a; intro a F
    refine s_ld F rfl rfl rfl rfl sc_3_B7 rfl (by exact rdX (M.chg.ro hro) (by intro e; rfl) he34 rfl) ?_; clear F a; intro a F
    refine s_bin F rfl rfl rfl rfl rfl rfl rfl ?_; clear F a; intro a F
    refine t_endM M ?_; (clear M; try clear w); intro w M
    refine c_if F rfl ?_ ?_
    ·
      clear F; intro hc1 F
      try rw [hc1] at F
      replace hc1 := nd1 hc1
      replace F := F.keep [0, 1, 2, 4, 5, 6] rfl
      refine wp_region_l [.ind, .ind, .ind, .ind, .rd, .wr] ([0, 1, 2, 3, 4, 5]) rfl ?_
      refine s_I F rfl rfl rfl rfl rfl rfl ?_; clear F a; intro a F
      refine s_I F rfl rfl rfl rfl rfl rfl ?_; clear F a; intro a F
      refine s_I F rfl rfl rfl rfl rfl rfl ?_; clear F a; intro a F
      refine s_ix F rfl rfl rfl rfl sl_79_B7 rfl rfl (by exact M.chg.ro hro) (by omega) (by omega) ?_; clear F a; intro e41 he41 a F
      try (obtain rfl := Option.some.inj (he34.symm.trans he41))
      refine s_lda F rfl rfl rfl rfl ag_82_B7 rfl rfl (rdsX (M.chg.ro hro) (by intro e; rfl) he41) ?_; clear F a; intro a F
      skip
      refine s_cq F M rfl rfl rfl rfl rfl (rfl : _ = some [_, _]) cb_56_B7 (fun nd_ => c56n e34 _) ?_; (clear F a M; try clear w); rintro v w rfl M a F
      refine t_endM M ?_; (clear M; try clear w); intro w M
      replace F := F.keep [0, 1, 2, 4, 5, 6] rfl
      refine wp_region_l [.ind, .ind, .ind] ([0, 1, 2]) rfl ?_
      refine s_I F rfl rfl rfl rfl rfl rfl ?_; clear F a; intro a F
      refine s_add F rfl rfl rfl rfl rfl rfl (by unfold In64; omega) ?_; clear F a; intro a F
      refine s_I F rfl rfl rfl rfl rfl rfl ?_; clear F a; intro a F
      refine t_endM M ?_; (clear M; try clear w); intro w M
      refine again (i + 1) (by show _ < _; (try dsimp only); omega) ⟨(by omega), (by assumption)⟩ (F.keep [6, 0, 1, 2, 4, 5] rfl) ?_
      try dsimp only [List.cons_append, List.nil_append]
      refine M.pick ?_; repeat (first | exact PkG.nil | refine PkG.cons 0 rfl rfl ?_)
    ·
      clear F; intro hc2 F
      try rw [hc2] at F
      replace hc2 := nd0 hc2
      refine wp_skip ?_
      replace F := F.keep [0, 1, 2, 4, 5, 6] rfl
      refine wp_region_l [.ind, .ind, .ind] ([0, 1, 2]) rfl ?_
      refine s_I F rfl rfl rfl rfl rfl rfl ?_; clear F a; intro a F
      refine s_add F rfl rfl rfl rfl rfl rfl (by unfold In64; omega) ?_; clear F a; intro a F
      refine s_I F rfl rfl rfl rfl rfl rfl ?_; clear F a; intro a F
      refine t_endM M ?_; (clear M; try clear w); intro w M
      refine again (i + 1) (by show _ < _; (try dsimp only); omega) ⟨(by omega), (by assumption)⟩ (F.keep [6, 0, 1, 2, 4, 5] rfl) ?_
      try dsimp only [List.cons_append, List.nil_append]
      refine M.pick ?_; repeat (first | exact PkG.nil | refine PkG.cons 0 rfl rfl ?_)
  ·
    clear F; intro hc3 F
    try rw [hc3] at F
    replace hc3 := of_decide_eq_false hc3
    refine wp_exit ?_
    refine wp_seq ?_
    refine wp_seq ?_
    replace F := F.keep [0, 1, 2, 4, 5, 6] rfl
    refine wp_region_l [.ind] ([0]) rfl ?_
    refine s_I F rfl rfl rfl rfl rfl rfl ?_; clear F a; intro a F
    refine t_endM M ?_; (clear M; try clear w); intro w M
    refine wp_block ?_
    refine loopX (X := (Int)) F [0, 1, 2, 5, 6] rfl (fun (k : Int) => (1 ≤ k) ∧ (k ≤ vs.length + 1)) (fun (k : Int) => [(7, .int .i64 k)]) (fun (k : Int) => []) (fun (k : Int) => vs.length + 1 - k.toNat) (1) M ⟨(by omega), (by omega)⟩ (F.keep [7, 0, 1, 2, 5, 6] rfl) ?_
    clear F M; clear a; (try clear w)
    rintro k a w ⟨k0, k1⟩ F M; try dsimp only at F M
    try simp only [List.cons_append, List.nil_append] at F M
    try dsimp only at k0 k1
    refine wp_seq ?_
    refine wp_seq ?_
    refine wp_region_l [.ind, .ind, .rd, .ind, .ind] ([0, 1, 2, 3, 4]) rfl ?_
    refine s_I F rfl rfl rfl rfl rfl rfl ?_; clear F a; intro a F
    refine s_fa0 F rfl rfl rfl rfl fa_71_3_B7 rfl ?_; clear F a; intro a F
    refine s_ld F rfl rfl rfl rfl sc_69_B7 rfl (by exact cell_of_blk M.h0 (lit rfl)) ?_; clear F a; intro a F
    refine s_len F rfl rfl rfl rfl sl_69_B7 rfl ?_; clear F a; intro a F
    refine s_bin F rfl rfl rfl rfl rfl rfl rfl ?_; clear F a; intro a F
    refine t_endM M ?_; (clear M; try clear w); intro w M
    refine c_if F rfl ?_ ?_
    ·
      clear F; intro hc4 F
      try rw [hc4] at F
      replace hc4 := of_decide_eq_true hc4
      refine wp_skip ?_
      refine wp_seq ?_
      refine wp_block ?_
      refine wp_seq ?_
      replace F := F.keep [0, 1, 2, 5, 6, 7] rfl
      refine wp_region_l [.ind, .ind, .wr, .ind, .ind, .ind, .ind, .ind] ([0, 1, 2, 3, 4, 5, 6, 7]) rfl ?_
      refine s_I F rfl rfl rfl rfl rfl rfl ?_; clear F a; intro a F
      refine s_I F rfl rfl rfl rfl rfl rfl ?_; clear F a; intro a F
      refine s_cq F M rfl rfl rfl rfl rfl (rfl : _ = some [_, _]) cb_54_B7 (fun nd_ => c54n k _) ?_; (clear F a M; try clear w); rintro v w rfl M a F
      refine s_I F rfl rfl rfl rfl rfl rfl ?_; clear F a; intro a F
      refine s_I F rfl rfl rfl rfl rfl rfl ?_; clear F a; intro a F
      refine s_I F rfl rfl rfl rfl rfl rfl ?_; clear F a; intro a F
      replace F : Fr _ _ ((56, Value.bool false) :: _) := F
      refine s_I F rfl rfl rfl rfl rfl rfl ?_; clear F a; intro a F
      refine s_I F rfl rfl rfl rfl rfl rfl ?_; clear F a; intro a F
      refine t_endM M ?_; (clear M; try clear w); intro w M
      refine wp_seq ?_
      replace F := F.keep [0, 1, 2, 5, 6, 7, 8, 9] rfl
      refine wp_region_l [.ind] ([0]) rfl ?_
      refine s_I F rfl rfl rfl rfl rfl rfl ?_; clear F a; intro a F
      refine t_endM M ?_; (clear M; try clear w); intro w M
      refine wp_seq ?_
      refine wp_seq ?_
      refine wp_region_l [.ind] ([0]) rfl ?_
      refine s_I F rfl rfl rfl rfl rfl rfl ?_; clear F a; intro a F
      refine t_endM M ?_; (clear M; try clear w); intro w M
      refine wp_block ?_
      refine loopX (X := (Int) × (Bool)) F [0, 1, 2, 5, 6, 7, 8, 9] rfl (fun ((m, u) : (Int) × (Bool)) => (0 ≤ m) ∧ (m ≤ vs.length)) (fun ((m, u) : (Int) × (Bool)) => [(10, .bool u), (11, .int .i64 m)]) (fun ((m, u) : (Int) × (Bool)) => []) (fun ((m, u) : (Int) × (Bool)) => vs.length - m.toNat) ((0), (false)) M ⟨(by omega), (by omega)⟩ (F.keep [10, 11, 0, 1, 2, 5, 6, 7, 8, 9] rfl) ?_
      clear F M; clear a; (try clear w)
      rintro ⟨m, u⟩ a w ⟨m0, m1⟩ F M; try dsimp only at F M
      try simp only [List.cons_append, List.nil_append] at F M
      try dsimp only at m0 m1
      refine wp_seq ?_
      refine wp_seq ?_
      refine wp_region_l [.ind, .ind, .rd, .ind, .ind] ([0, 1, 2, 3, 4]) rfl ?_
      refine s_I F rfl rfl rfl rfl rfl rfl ?_; clear F a; intro a F
      refine s_fa0 F rfl rfl rfl rfl fa_71_3_B7 rfl ?_; clear F a; intro a F
      refine s_ld F rfl rfl rfl rfl sc_69_B7 rfl (by exact cell_of_blk M.h0 (lit rfl)) ?_; clear F a; intro a F
      refine s_len F rfl rfl rfl rfl sl_69_B7 rfl ?_; clear F a; intro a F
      refine s_bin F rfl rfl rfl rfl rfl rfl rfl ?_; clear F a; intro a F
      refine t_endM M ?_; (clear M; try clear w); intro w M
      refine c_if F rfl ?_ ?_
      ·
        clear F; intro hc5 F
        try rw [hc5] at F
        replace hc5 := of_decide_eq_true hc5
        refine wp_skip ?_
        refine wp_seq ?_
        refine wp_block ?_
        replace F := F.keep [0, 1, 2, 5, 6, 7, 8, 9, 10, 11] rfl
        refine wp_region_l [.ind, .ind, .ind, .rd, .ind, .ind, .rd, .ind, .ind, .ind, .ind] ([0, 1, 2, 3, 4, 5, 6, 7, 8, 9, 10]) rfl ?_
        refine s_I F rfl rfl rfl rfl rfl rfl ?_; clear F a; intro a F
        refine s_I F rfl rfl rfl rfl rfl rfl ?_; clear F a; intro a F
        refine bsplit F 65 rfl ?_ ?_
        ·
          clear F; intro hc6 F
          try rw [hc6] at F
          skip
          refine s_no F rfl rfl rfl rfl ?_; clear F a; intro a F
          refine s_no F rfl rfl rfl rfl ?_; clear F a; intro a F
          refine s_no F rfl rfl rfl rfl ?_; clear F a; intro a F
          refine s_no F rfl rfl rfl rfl ?_; clear F a; intro a F
          refine s_no F rfl rfl rfl rfl ?_; clear F a; intro a F
          refine s_no F rfl rfl rfl rfl ?_; clear F a; intro a F
          refine s_no F rfl rfl rfl rfl ?_; clear F a; intro a F
          refine s_I F rfl rfl rfl rfl rfl rfl ?_; clear F a; intro a F
          refine s_I F rfl rfl rfl rfl rfl rfl ?_; clear F a; intro a F
          refine t_endM M ?_; (clear M; try clear w); intro w M
          replace F := F.keep [0, 1, 2, 5, 6, 7, 8, 9, 10, 11] rfl
          refine wp_region_l [.ind, .ind, .ind] ([0, 1, 2]) rfl ?_
          refine s_I F rfl rfl rfl rfl rfl rfl ?_; clear F a; intro a F
          refine s_add F rfl rfl rfl rfl rfl rfl (by unfold In64; omega) ?_; clear F a; intro a F
          refine s_I F rfl rfl rfl rfl rfl rfl ?_; clear F a; intro a F
          refine t_endM M ?_; (clear M; try clear w); intro w M
          refine again ((m + 1), (_)) (by show _ < _; (try dsimp only); omega) ⟨(by omega), (by assumption)⟩ (F.keep [10, 11, 0, 1, 2, 5, 6, 7, 8, 9] rfl) ?_
          try dsimp only [List.cons_append, List.nil_append]
          refine M.pick ?_; repeat (first | exact PkG.nil | refine PkG.cons 0 rfl rfl ?_)
        ·
          clear F; intro hc7 F
          try rw [hc7] at F
          skip
          refine s_fa0 F rfl rfl rfl rfl fa_71_3_B7 rfl ?_; clear F a; intro a F
          refine s_ld F rfl rfl rfl rfl sc_69_B7 rfl (by exact cell_of_blk M.h0 (lit rfl)) ?_; clear F a; intro a F
          refine s_I F rfl rfl rfl rfl rfl rfl ?_; clear F a; intro a F
          refine s_ix F rfl rfl rfl rfl sl_69_B7 rfl rfl (by exact M.chg.ro hrv) (by omega) (by omega) ?_; clear F a; intro e69 he69 a F
          refine s_ld F rfl rfl rfl rfl sc_9_B7 rfl (by exact rdX0 (M.chg.ro hrv) (by intro e; rfl) he69 rfl) ?_; clear F a; intro a F
          refine s_I F rfl rfl rfl rfl rfl rfl ?_; clear F a; intro a F
          refine s_bin F rfl rfl rfl rfl rfl rfl rfl ?_; clear F a; intro a F
          refine s_I F rfl rfl rfl rfl rfl rfl ?_; clear F a; intro a F
          refine s_I F rfl rfl rfl rfl rfl rfl ?_; clear F a; intro a F
          refine t_endM M ?_; (clear M; try clear w); intro w M
          replace F := F.keep [0, 1, 2, 5, 6, 7, 8, 9, 10, 11] rfl
          refine wp_region_l [.ind, .ind, .ind] ([0, 1, 2]) rfl ?_
          refine s_I F rfl rfl rfl rfl rfl rfl ?_; clear F a; intro a F
          refine s_add F rfl rfl rfl rfl rfl rfl (by unfold In64; omega) ?_; clear F a; intro a F
          refine s_I F rfl rfl rfl rfl rfl rfl ?_; clear F a; intro a F
          refine t_endM M ?_; (clear M; try clear w); intro w M
          refine again ((m + 1), (_)) (by show _ < _; (try dsimp only); omega) ⟨(by omega), (by assumption)⟩ (F.keep [10, 11, 0, 1, 2, 5, 6, 7, 8, 9] rfl) ?_
          try dsimp only [List.cons_append, List.nil_append]
          refine M.pick ?_; repeat (first | exact PkG.nil | refine PkG.cons 0 rfl rfl ?_)
      ·
        clear F; intro hc8 F
        try rw [hc8] at F
        replace hc8 := of_decide_eq_false hc8
        refine wp_exit ?_
        refine wp_seq ?_
        replace F := F.keep [0, 1, 2, 5, 6, 7, 8, 9, 10, 11] rfl
        refine wp_region_l [.ind, .ind, .ind, .ind, .ind] ([0, 1, 2, 3, 4]) rfl ?_
        refine s_I F rfl rfl rfl rfl rfl rfl ?_; clear F a; intro a F
        refine s_I F rfl rfl rfl rfl rfl rfl ?_; clear F a; intro a F
        refine s_no F rfl rfl rfl rfl ?_; clear F a; intro a F
        refine s_no F rfl rfl rfl rfl ?_; clear F a; intro a F
        refine s_I F rfl rfl rfl rfl rfl rfl ?_; clear F a; intro a F
        refine t_endM M ?_; (clear M; try clear w); intro w M
        refine c_f F rfl ?_
        refine wp_skip ?_
        replace F := F.keep [0, 1, 2, 5, 6, 7, 8, 9, 10, 11] rfl
        refine wp_region_l [.ind, .ind, .ind] ([0, 1, 2]) rfl ?_
        refine s_I F rfl rfl rfl rfl rfl rfl ?_; clear F a; intro a F
        refine s_add F rfl rfl rfl rfl rfl rfl (by unfold In64; omega) ?_; clear F a; intro a F
        refine s_I F rfl rfl rfl rfl rfl rfl ?_; clear F a; intro a F
        refine t_endM M ?_; (clear M; try clear w); intro w M
        refine again (k + 1) (by show _ < _; (try dsimp only); omega) ⟨(by omega), (by omega)⟩ (F.keep [7, 0, 1, 2, 5, 6] rfl) ?_
        try dsimp only [List.cons_append, List.nil_append]
        refine M.pick ?_; repeat (first | exact PkG.nil | refine PkG.cons 0 rfl rfl ?_)
    ·
      clear F; intro hc9 F
      try rw [hc9] at F
      replace hc9 := of_decide_eq_false hc9
      refine wp_exit ?_
      refine wp_seq ?_
      replace F := F.keep [0, 1, 2, 5, 6, 7] rfl
      refine wp_region_l [.wr, .ind] ([0, 1]) rfl ?_
      refine s_cq F M rfl rfl rfl rfl rfl (rfl : _ = some []) cb_51_B7 (fun nd_ => c51 _) ?_; (clear F a M; try clear w); rintro v w rfl M a F
      refine s_I F rfl rfl rfl rfl rfl rfl ?_; clear F a; intro a F
      refine t_endM M ?_; (clear M; try clear w); intro w M
      refine wp_ret ?_
      refine ret1 F rfl rfl ?_
      -- end 0
      exact ⟨_, rfl, rfl, M.chg⟩
set_option maxRecDepth 100000 in
set_option maxHeartbeats 4000000 in
theorem law14c (n t h : Int) (hn : In64 n) (ht : In64 t) (vs : List ByteArray) (vv : Value) (l : List Deed) (v : Value) (w0 : World) (hr2 : RdSl w0.heap vv vs.length 1 (vs.flatMap encS)) (hr : RdSl w0.heap v l.length 8 (l.flatMap encDd)) (hf : fewC vs l) (hk : okC n t h vs = true) : Cl Try.prog 14 #[.agg #[.int .i64 n, .int .i64 t, .int .i64 h, vv], v] w0 (RetQ w0 fun v => v = .bool true) := by
  have M : Sep (fun _ => False) w0 w0 _ := Sep.nil _ w0
  have hro := ro_of hr
  have hrv := ro_of hr2
  obtain ⟨A, cc, rfl, hcc⟩ := hr.form
  obtain ⟨VA, VC, rfl, hvc⟩ := hr2.form
  have hl20 := hf.2.1
  have hl150 := hf.1
  refine enter (vs := [_, _]) Try.func14 rfl rfl rfl ?_
  intro a F
  refine wp_seq ?_
  refine wp_region_l [.wr, .ind] ([0, 1]) rfl ?_
  refine s_bxA F M rfl rfl rfl rfl rfl ?_; (clear F a M; try clear w); intro b2 w M a F
  refine s_I F rfl rfl rfl rfl rfl rfl ?_; clear F a; intro a F
  refine t_endM M ?_; (clear M; try clear w); intro w M
  refine wp_seq ?_
  refine wp_seq ?_
  refine wp_region_l [.rd, .ind, .wr, .ind] ([0, 1, 2, 3]) rfl ?_
  refine s_lda F rfl rfl rfl rfl ag_71_B7 rfl rfl (cells_whole M.h0) ?_; clear F a; intro a F
  refine s_I F rfl rfl rfl rfl rfl rfl ?_; clear F a; intro a F
  refine s_cq F M rfl rfl rfl rfl rfl (rfl : _ = some [_, _]) cb_50_B7 (fun nd_ => c50y _ hf (M.chg.ro hrv) (M.chg.ro hro)) ?_; (clear F a M; try clear w); rintro v w rfl M a F
  refine s_bin F rfl rfl rfl rfl rfl rfl rfl ?_; clear F a; intro a F
  replace F : Fr _ _ ((15, Value.bool false) :: _) := F
  refine t_endM M ?_; (clear M; try clear w); intro w M
  refine c_f F rfl ?_
  refine wp_skip ?_
  refine wp_seq ?_
  replace F := F.keep [0, 1, 2, 4] rfl
  refine wp_region_l [.ind, .rd, .ind, .rd, .ind, .rd, .ind, .rd, .wr, .ind] ([0, 1, 2, 3, 4, 5, 6, 7, 8, 9]) rfl ?_
  refine s_fa0 F rfl rfl rfl rfl fa_71_0_B7 rfl ?_; clear F a; intro a F
  refine s_ld F rfl rfl rfl rfl sc_3_B7 rfl (by exact cell_of_blk M.h0 (lit rfl)) ?_; clear F a; intro a F
  refine s_fa0 F rfl rfl rfl rfl fa_71_1_B7 rfl ?_; clear F a; intro a F
  refine s_ld F rfl rfl rfl rfl sc_3_B7 rfl (by exact cell_of_blk M.h0 (lit rfl)) ?_; clear F a; intro a F
  refine s_fa0 F rfl rfl rfl rfl fa_71_2_B7 rfl ?_; clear F a; intro a F
  refine s_ld F rfl rfl rfl rfl sc_3_B7 rfl (by exact cell_of_blk M.h0 (lit rfl)) ?_; clear F a; intro a F
  refine s_fa0 F rfl rfl rfl rfl fa_71_3_B7 rfl ?_; clear F a; intro a F
  refine s_ld F rfl rfl rfl rfl sc_69_B7 rfl (by exact cell_of_blk M.h0 (lit rfl)) ?_; clear F a; intro a F
  refine s_call (m := []) F M rfl rfl rfl rfl rfl (rfl : _ = some [_, _, _, _]) cb_52_B7 (fun nd_ => c52 n t h hn ht vs _ hk _ (M.chg.ro hrv)) ?_; (clear F a M; try clear w); rintro v g0 w rfl M a F; (try simp only [List.cons_append, List.nil_append] at M)
  refine s_I F rfl rfl rfl rfl rfl rfl ?_; clear F a; intro a F
  refine t_endM M ?_; (clear M; try clear w); intro w M
  refine wp_seq ?_
  refine wp_seq ?_
  replace F := F.keep [0, 1, 2, 4, 5] rfl
  refine wp_region_l [.ind] ([0]) rfl ?_
  refine s_I F rfl rfl rfl rfl rfl rfl ?_; clear F a; intro a F
  refine t_endM M ?_; (clear M; try clear w); intro w M
  refine wp_block ?_
  have M1 : Sep _ _ _ (couR _ _ :: _) := M; replace M := M1; clear M1
  refine loopX (X := (Int) × (Gc) × (Cou)) F [0, 1, 2, 4, 5] rfl (fun ((i, γ, C) : (Int) × (Gc) × (Cou)) => (0 ≤ i) ∧ (i ≤ l.length) ∧ (γ.b = g0.b) ∧ (C.Wf n t) ∧ (CVld vs C)) (fun ((i, γ, C) : (Int) × (Gc) × (Cou)) => [(6, .int .i64 i)]) (fun ((i, γ, C) : (Int) × (Gc) × (Cou)) => [couR γ C]) (fun ((i, γ, C) : (Int) × (Gc) × (Cou)) => l.length - i.toNat) ((0), (g0), (newC n t h vs)) M ⟨(by omega), (by omega), rfl, (newC_wf hk), newC_vld⟩ (F.keep [6, 0, 1, 2, 4, 5] rfl) ?_
  clear F M; clear a; (try clear w)
  rintro ⟨i, γ, C⟩ a w ⟨i0, i1, hg, hW, hV⟩ F M; try dsimp only at F M
  try simp only [List.cons_append, List.nil_append] at F M
  try dsimp only at i0 i1 hg hW hV
  rw [← hg] at F
  refine wp_seq ?_
  refine wp_seq ?_
  refine wp_region_l [.ind, .ind, .ind, .ind] ([0, 1, 2, 3]) rfl ?_
  refine s_I F rfl rfl rfl rfl rfl rfl ?_; clear F a; intro a F
  refine s_I F rfl rfl rfl rfl rfl rfl ?_; clear F a; intro a F
  refine s_len F rfl rfl rfl rfl sl_79_B7 rfl ?_; clear F a; intro a F
  refine s_bin F rfl rfl rfl rfl rfl rfl rfl ?_; clear F a; intro a F
  refine t_endM M ?_; (clear M; try clear w); intro w M
  refine c_if F rfl ?_ ?_
  ·
    clear F; intro hc0 F
    try rw [hc0] at F
    replace hc0 := of_decide_eq_true hc0
    refine wp_skip ?_
    refine wp_seq ?_
    refine wp_block ?_
    refine wp_seq ?_
    replace F := F.keep [0, 1, 2, 4, 5, 6] rfl
    refine wp_region_l [.ind, .ind, .ind, .ind, .rd, .ind] ([0, 1, 2, 3, 4, 5]) rfl ?_
    refine s_I F rfl rfl rfl rfl rfl rfl ?_; clear F a; intro a F
    refine s_I F rfl rfl rfl rfl rfl rfl ?_; clear F a; intro a F
    refine s_ix F rfl rfl rfl rfl sl_79_B7 rfl rfl (by exact M.chg.ro hro) (by omega) (by omega) ?_; clear F a; intro e34 he34 a F
    refine s_fa F rfl rfl rfl rfl fa_82_0_B7 rfl ?_; clear F a; intro a F
    refine s_ld F rfl rfl rfl rfl sc_3_B7 rfl (by exact rdX (M.chg.ro hro) (by intro e; rfl) he34 rfl) ?_; clear F a; intro a F
    refine s_bin F rfl rfl rfl rfl rfl rfl rfl ?_; clear F a; intro a F
    refine t_endM M ?_; (clear M; try clear w); intro w M
    refine c_if F rfl ?_ ?_
    ·
      clear F; intro hc1 F
      try rw [hc1] at F
      replace hc1 := nd1 hc1
      replace F := F.keep [0, 1, 2, 4, 5, 6] rfl
      refine wp_region_l [.ind, .ind, .ind, .ind, .rd, .wr] ([0, 1, 2, 3, 4, 5]) rfl ?_
      refine s_I F rfl rfl rfl rfl rfl rfl ?_; clear F a; intro a F
      refine s_I F rfl rfl rfl rfl rfl rfl ?_; clear F a; intro a F
      refine s_I F rfl rfl rfl rfl rfl rfl ?_; clear F a; intro a F
      refine s_ix F rfl rfl rfl rfl sl_79_B7 rfl rfl (by exact M.chg.ro hro) (by omega) (by omega) ?_; clear F a; intro e41 he41 a F
      try (obtain rfl := Option.some.inj (he34.symm.trans he41))
      refine s_lda F rfl rfl rfl rfl ag_82_B7 rfl rfl (rdsX (M.chg.ro hro) (by intro e; rfl) he41) ?_; clear F a; intro a F
      have M1 : Sep _ _ _ (couR _ _ :: _) := M; replace M := M1; clear M1
      refine s_call (m := [_]) F M rfl rfl rfl rfl rfl (rfl : _ = some [_, _]) cb_56_B7 (fun nd_ => c56 γ C hW e34 _ (M.drewN nd_).own.one) ?_; (clear F a M; try clear w); rintro v γ3 w ⟨rfl, hb3⟩ M a F; (try simp only [List.cons_append, List.nil_append] at M)
      refine t_endM M ?_; (clear M; try clear w); intro w M
      replace F := F.keep [0, 1, 2, 4, 5, 6] rfl
      refine wp_region_l [.ind, .ind, .ind] ([0, 1, 2]) rfl ?_
      refine s_I F rfl rfl rfl rfl rfl rfl ?_; clear F a; intro a F
      refine s_add F rfl rfl rfl rfl rfl rfl (by unfold In64; omega) ?_; clear F a; intro a F
      refine s_I F rfl rfl rfl rfl rfl rfl ?_; clear F a; intro a F
      refine t_endM M ?_; (clear M; try clear w); intro w M
      rw [hg] at F
      refine again ((i + 1), (γ3), ((C.doit e34).1)) (by show _ < _; (try dsimp only); omega) ⟨(by omega), (by assumption), (hb3.trans hg), (hW.doit e34), (hV.doit hW (by assumption))⟩ (F.keep [6, 0, 1, 2, 4, 5] rfl) ?_
      try dsimp only [List.cons_append, List.nil_append]
      refine M.pick ?_; repeat (first | exact PkG.nil | refine PkG.cons 0 rfl rfl ?_ | refine PkG.cons 1 rfl rfl ?_)
    ·
      clear F; intro hc2 F
      try rw [hc2] at F
      replace hc2 := nd0 hc2
      refine wp_skip ?_
      replace F := F.keep [0, 1, 2, 4, 5, 6] rfl
      refine wp_region_l [.ind, .ind, .ind] ([0, 1, 2]) rfl ?_
      refine s_I F rfl rfl rfl rfl rfl rfl ?_; clear F a; intro a F
      refine s_add F rfl rfl rfl rfl rfl rfl (by unfold In64; omega) ?_; clear F a; intro a F
      refine s_I F rfl rfl rfl rfl rfl rfl ?_; clear F a; intro a F
      refine t_endM M ?_; (clear M; try clear w); intro w M
      rw [hg] at F
      refine again ((i + 1), (γ), (C)) (by show _ < _; (try dsimp only); omega) ⟨(by omega), (by assumption), hg, hW, hV⟩ (F.keep [6, 0, 1, 2, 4, 5] rfl) ?_
      try dsimp only [List.cons_append, List.nil_append]
      refine M.pick ?_; repeat (first | exact PkG.nil | refine PkG.cons 0 rfl rfl ?_ | refine PkG.cons 1 rfl rfl ?_)
  ·
    clear F; intro hc3 F
    try rw [hc3] at F
    replace hc3 := of_decide_eq_false hc3
    refine wp_exit ?_
    refine wp_seq ?_
    refine wp_seq ?_
    replace F := F.keep [0, 1, 2, 4, 5, 6] rfl
    refine wp_region_l [.ind] ([0]) rfl ?_
    refine s_I F rfl rfl rfl rfl rfl rfl ?_; clear F a; intro a F
    refine t_endM M ?_; (clear M; try clear w); intro w M
    refine wp_block ?_
    refine loopX (X := (Int)) F [0, 1, 2, 5, 6] rfl (fun (k : Int) => (1 ≤ k) ∧ (k ≤ vs.length + 1)) (fun (k : Int) => [(7, .int .i64 k)]) (fun (k : Int) => []) (fun (k : Int) => vs.length + 1 - k.toNat) (1) M ⟨(by omega), (by omega)⟩ (F.keep [7, 0, 1, 2, 5, 6] rfl) ?_
    clear F M; clear a; (try clear w)
    rintro k a w ⟨k0, k1⟩ F M; try dsimp only at F M
    try simp only [List.cons_append, List.nil_append] at F M
    try dsimp only at k0 k1
    refine wp_seq ?_
    refine wp_seq ?_
    refine wp_region_l [.ind, .ind, .rd, .ind, .ind] ([0, 1, 2, 3, 4]) rfl ?_
    refine s_I F rfl rfl rfl rfl rfl rfl ?_; clear F a; intro a F
    refine s_fa0 F rfl rfl rfl rfl fa_71_3_B7 rfl ?_; clear F a; intro a F
    refine s_ld F rfl rfl rfl rfl sc_69_B7 rfl (by exact cell_of_blk M.h1 (lit rfl)) ?_; clear F a; intro a F
    refine s_len F rfl rfl rfl rfl sl_69_B7 rfl ?_; clear F a; intro a F
    refine s_bin F rfl rfl rfl rfl rfl rfl rfl ?_; clear F a; intro a F
    refine t_endM M ?_; (clear M; try clear w); intro w M
    refine c_if F rfl ?_ ?_
    ·
      clear F; intro hc4 F
      try rw [hc4] at F
      replace hc4 := of_decide_eq_true hc4
      refine wp_skip ?_
      refine wp_seq ?_
      refine wp_block ?_
      refine wp_seq ?_
      replace F := F.keep [0, 1, 2, 5, 6, 7] rfl
      refine wp_region_l [.ind, .ind, .wr, .ind, .ind, .ind, .ind, .ind] ([0, 1, 2, 3, 4, 5, 6, 7]) rfl ?_
      refine s_I F rfl rfl rfl rfl rfl rfl ?_; clear F a; intro a F
      refine s_I F rfl rfl rfl rfl rfl rfl ?_; clear F a; intro a F
      refine s_cq F M rfl rfl rfl rfl rfl (rfl : _ = some [_, _]) cb_54_B7 (fun nd_ => c54 γ C hW.l7 k _ (by exact roF (M.drewN nd_))) ?_; (clear F a M; try clear w); rintro v w rfl M a F
      refine s_I F rfl rfl rfl rfl rfl rfl ?_; clear F a; intro a F
      refine s_I F rfl rfl rfl rfl rfl rfl ?_; clear F a; intro a F
      refine s_I F rfl rfl rfl rfl rfl rfl ?_; clear F a; intro a F
      refine s_I F rfl rfl rfl rfl rfl rfl ?_; clear F a; intro a F
      refine s_I F rfl rfl rfl rfl rfl rfl ?_; clear F a; intro a F
      refine t_endM M ?_; (clear M; try clear w); intro w M
      refine wp_seq ?_
      replace F := F.keep [0, 1, 2, 5, 6, 7, 8, 9] rfl
      refine wp_region_l [.ind] ([0]) rfl ?_
      refine s_I F rfl rfl rfl rfl rfl rfl ?_; clear F a; intro a F
      refine t_endM M ?_; (clear M; try clear w); intro w M
      refine wp_seq ?_
      refine wp_seq ?_
      refine wp_region_l [.ind] ([0]) rfl ?_
      refine s_I F rfl rfl rfl rfl rfl rfl ?_; clear F a; intro a F
      refine t_endM M ?_; (clear M; try clear w); intro w M
      refine wp_block ?_
      refine loopX (X := (Int) × (Bool)) F [0, 1, 2, 5, 6, 7, 8, 9] rfl (fun ((m, u) : (Int) × (Bool)) => (0 ≤ m) ∧ (m ≤ vs.length) ∧ (∀ v ∈ vs.take m.toNat, v = (decd C k).1 → u = true)) (fun ((m, u) : (Int) × (Bool)) => [(10, .bool u), (11, .int .i64 m)]) (fun ((m, u) : (Int) × (Bool)) => []) (fun ((m, u) : (Int) × (Bool)) => vs.length - m.toNat) ((0), (false)) M ⟨(by omega), (by omega), (fun v hv => by simp at hv)⟩ (F.keep [10, 11, 0, 1, 2, 5, 6, 7, 8, 9] rfl) ?_
      clear F M; clear a; (try clear w)
      rintro ⟨m, u⟩ a w ⟨m0, m1, hu⟩ F M; try dsimp only at F M
      try simp only [List.cons_append, List.nil_append] at F M
      try dsimp only at m0 m1 hu
      refine wp_seq ?_
      refine wp_seq ?_
      refine wp_region_l [.ind, .ind, .rd, .ind, .ind] ([0, 1, 2, 3, 4]) rfl ?_
      refine s_I F rfl rfl rfl rfl rfl rfl ?_; clear F a; intro a F
      refine s_fa0 F rfl rfl rfl rfl fa_71_3_B7 rfl ?_; clear F a; intro a F
      refine s_ld F rfl rfl rfl rfl sc_69_B7 rfl (by exact cell_of_blk M.h1 (lit rfl)) ?_; clear F a; intro a F
      refine s_len F rfl rfl rfl rfl sl_69_B7 rfl ?_; clear F a; intro a F
      refine s_bin F rfl rfl rfl rfl rfl rfl rfl ?_; clear F a; intro a F
      refine t_endM M ?_; (clear M; try clear w); intro w M
      refine c_if F rfl ?_ ?_
      ·
        clear F; intro hc5 F
        try rw [hc5] at F
        replace hc5 := of_decide_eq_true hc5
        refine wp_skip ?_
        refine wp_seq ?_
        refine wp_block ?_
        replace F := F.keep [0, 1, 2, 5, 6, 7, 8, 9, 10, 11] rfl
        refine wp_region_l [.ind, .ind, .ind, .rd, .ind, .ind, .rd, .ind, .ind, .ind, .ind] ([0, 1, 2, 3, 4, 5, 6, 7, 8, 9, 10]) rfl ?_
        refine s_I F rfl rfl rfl rfl rfl rfl ?_; clear F a; intro a F
        refine s_I F rfl rfl rfl rfl rfl rfl ?_; clear F a; intro a F
        refine bsplit F 65 rfl ?_ ?_
        ·
          clear F; intro hc6 F
          try rw [hc6] at F
          skip
          refine s_no F rfl rfl rfl rfl ?_; clear F a; intro a F
          refine s_no F rfl rfl rfl rfl ?_; clear F a; intro a F
          refine s_no F rfl rfl rfl rfl ?_; clear F a; intro a F
          refine s_no F rfl rfl rfl rfl ?_; clear F a; intro a F
          refine s_no F rfl rfl rfl rfl ?_; clear F a; intro a F
          refine s_no F rfl rfl rfl rfl ?_; clear F a; intro a F
          refine s_no F rfl rfl rfl rfl ?_; clear F a; intro a F
          refine s_I F rfl rfl rfl rfl rfl rfl ?_; clear F a; intro a F
          refine s_I F rfl rfl rfl rfl rfl rfl ?_; clear F a; intro a F
          refine t_endM M ?_; (clear M; try clear w); intro w M
          replace F := F.keep [0, 1, 2, 5, 6, 7, 8, 9, 10, 11] rfl
          refine wp_region_l [.ind, .ind, .ind] ([0, 1, 2]) rfl ?_
          refine s_I F rfl rfl rfl rfl rfl rfl ?_; clear F a; intro a F
          refine s_add F rfl rfl rfl rfl rfl rfl (by unfold In64; omega) ?_; clear F a; intro a F
          refine s_I F rfl rfl rfl rfl rfl rfl ?_; clear F a; intro a F
          refine t_endM M ?_; (clear M; try clear w); intro w M
          refine again ((m + 1), (_)) (by show _ < _; (try dsimp only); omega) ⟨(by omega), (by assumption), (by exact fun _ _ _ => rfl)⟩ (F.keep [10, 11, 0, 1, 2, 5, 6, 7, 8, 9] rfl) ?_
          try dsimp only [List.cons_append, List.nil_append]
          refine M.pick ?_; repeat (first | exact PkG.nil | refine PkG.cons 0 rfl rfl ?_ | refine PkG.cons 1 rfl rfl ?_)
        ·
          clear F; intro hc7 F
          try rw [hc7] at F
          skip
          refine s_fa0 F rfl rfl rfl rfl fa_71_3_B7 rfl ?_; clear F a; intro a F
          refine s_ld F rfl rfl rfl rfl sc_69_B7 rfl (by exact cell_of_blk M.h1 (lit rfl)) ?_; clear F a; intro a F
          refine s_I F rfl rfl rfl rfl rfl rfl ?_; clear F a; intro a F
          refine s_ix F rfl rfl rfl rfl sl_69_B7 rfl rfl (by exact M.chg.ro hrv) (by omega) (by omega) ?_; clear F a; intro e69 he69 a F
          refine s_ld F rfl rfl rfl rfl sc_9_B7 rfl (by exact rdX0 (M.chg.ro hrv) (by intro e; rfl) he69 rfl) ?_; clear F a; intro a F
          refine s_I F rfl rfl rfl rfl rfl rfl ?_; clear F a; intro a F
          refine s_bin F rfl rfl rfl rfl rfl rfl rfl ?_; clear F a; intro a F
          refine s_I F rfl rfl rfl rfl rfl rfl ?_; clear F a; intro a F
          refine s_I F rfl rfl rfl rfl rfl rfl ?_; clear F a; intro a F
          refine t_endM M ?_; (clear M; try clear w); intro w M
          replace F := F.keep [0, 1, 2, 5, 6, 7, 8, 9, 10, 11] rfl
          refine wp_region_l [.ind, .ind, .ind] ([0, 1, 2]) rfl ?_
          refine s_I F rfl rfl rfl rfl rfl rfl ?_; clear F a; intro a F
          refine s_add F rfl rfl rfl rfl rfl rfl (by unfold In64; omega) ?_; clear F a; intro a F
          refine s_I F rfl rfl rfl rfl rfl rfl ?_; clear F a; intro a F
          refine t_endM M ?_; (clear M; try clear w); intro w M
          refine again ((m + 1), (_)) (by show _ < _; (try dsimp only); omega) ⟨(by omega), (by assumption), (by exact in_next hu (by assumption) m0 he69)⟩ (F.keep [10, 11, 0, 1, 2, 5, 6, 7, 8, 9] rfl) ?_
          try dsimp only [List.cons_append, List.nil_append]
          refine M.pick ?_; repeat (first | exact PkG.nil | refine PkG.cons 0 rfl rfl ?_ | refine PkG.cons 1 rfl rfl ?_)
      ·
        clear F; intro hc8 F
        try rw [hc8] at F
        replace hc8 := of_decide_eq_false hc8
        refine wp_exit ?_
        refine wp_seq ?_
        replace F := F.keep [0, 1, 2, 5, 6, 7, 8, 9, 10, 11] rfl
        refine wp_region_l [.ind, .ind, .ind, .ind, .ind] ([0, 1, 2, 3, 4]) rfl ?_
        refine s_I F rfl rfl rfl rfl rfl rfl ?_; clear F a; intro a F
        refine s_I F rfl rfl rfl rfl rfl rfl ?_; clear F a; intro a F
        refine bsplit F 75 rfl ?_ ?_
        ·
          clear F; intro hc9 F
          try rw [hc9] at F
          skip
          refine s_I F rfl rfl rfl rfl rfl rfl ?_; clear F a; intro a F
          refine s_I F rfl rfl rfl rfl rfl rfl ?_; clear F a; intro a F
          refine s_I F rfl rfl rfl rfl rfl rfl ?_; clear F a; intro a F
          refine t_endM M ?_; (clear M; try clear w); intro w M
          refine c_if F rfl ?_ ?_
          ·
            clear F; intro hc10 F
            try rw [hc10] at F
            replace hc10 := nt hc10
            exfalso
            rw [take_all (by omega)] at hu
            have := hu _ (vld_in hV (by assumption)) rfl
            simp_all
          ·
            clear F; intro hc11 F
            try rw [hc11] at F
            replace hc11 := nf hc11
            refine wp_skip ?_
            replace F := F.keep [0, 1, 2, 5, 6, 7, 8, 9, 10, 11] rfl
            refine wp_region_l [.ind, .ind, .ind] ([0, 1, 2]) rfl ?_
            refine s_I F rfl rfl rfl rfl rfl rfl ?_; clear F a; intro a F
            refine s_add F rfl rfl rfl rfl rfl rfl (by unfold In64; omega) ?_; clear F a; intro a F
            refine s_I F rfl rfl rfl rfl rfl rfl ?_; clear F a; intro a F
            refine t_endM M ?_; (clear M; try clear w); intro w M
            refine again (k + 1) (by show _ < _; (try dsimp only); omega) ⟨(by omega), (by omega)⟩ (F.keep [7, 0, 1, 2, 5, 6] rfl) ?_
            try dsimp only [List.cons_append, List.nil_append]
            refine M.pick ?_; repeat (first | exact PkG.nil | refine PkG.cons 0 rfl rfl ?_ | refine PkG.cons 1 rfl rfl ?_)
        ·
          clear F; intro hc12 F
          try rw [hc12] at F
          skip
          refine s_no F rfl rfl rfl rfl ?_; clear F a; intro a F
          refine s_no F rfl rfl rfl rfl ?_; clear F a; intro a F
          refine s_I F rfl rfl rfl rfl rfl rfl ?_; clear F a; intro a F
          refine t_endM M ?_; (clear M; try clear w); intro w M
          refine c_f F rfl ?_
          refine wp_skip ?_
          replace F := F.keep [0, 1, 2, 5, 6, 7, 8, 9, 10, 11] rfl
          refine wp_region_l [.ind, .ind, .ind] ([0, 1, 2]) rfl ?_
          refine s_I F rfl rfl rfl rfl rfl rfl ?_; clear F a; intro a F
          refine s_add F rfl rfl rfl rfl rfl rfl (by unfold In64; omega) ?_; clear F a; intro a F
          refine s_I F rfl rfl rfl rfl rfl rfl ?_; clear F a; intro a F
          refine t_endM M ?_; (clear M; try clear w); intro w M
          refine again (k + 1) (by show _ < _; (try dsimp only); omega) ⟨(by omega), (by omega)⟩ (F.keep [7, 0, 1, 2, 5, 6] rfl) ?_
          try dsimp only [List.cons_append, List.nil_append]
          refine M.pick ?_; repeat (first | exact PkG.nil | refine PkG.cons 0 rfl rfl ?_ | refine PkG.cons 1 rfl rfl ?_)
    ·
      clear F; intro hc13 F
      try rw [hc13] at F
      replace hc13 := of_decide_eq_false hc13
      refine wp_exit ?_
      refine wp_seq ?_
      replace F := F.keep [0, 1, 2, 5, 6, 7] rfl
      refine wp_region_l [.wr, .ind] ([0, 1]) rfl ?_
      refine s_cq F M rfl rfl rfl rfl rfl (rfl : _ = some []) cb_51_B7 (fun nd_ => c51 _) ?_; (clear F a M; try clear w); rintro v w rfl M a F
      refine s_I F rfl rfl rfl rfl rfl rfl ?_; clear F a; intro a F
      refine t_endM M ?_; (clear M; try clear w); intro w M
      refine wp_ret ?_
      refine ret1 F rfl rfl ?_
      -- end 0
      exact ⟨_, rfl, rfl, M.chg⟩
end Go.Proofs.Ytboibdmflblphaa
