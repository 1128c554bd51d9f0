/- K12 of the seat. -/
import Derived.Test.YtibomfgeemhogaaK11
namespace Go.Proofs.Ytibomfgeemhogaa
open Go Fw
theorem cb_23_K12 : callB Try.prog 23 = true := by kernel_rfl
theorem cb_24_K12 : callB Try.prog 24 = true := by kernel_rfl
theorem cb_13_K12 : callB Try.prog 13 = true := by kernel_rfl
theorem cb_25_K12 : callB Try.prog 25 = true := by kernel_rfl
theorem sl_56_K12 : slcB Try.prog 56 = some (70, 5) := by kernel_rfl
theorem fa_70_0_K12 : FA Try.prog 70 0 0 := fun _ _ _ => by kernel_rfl
theorem sc_3_K12 : scalB Try.prog 3 = true := by kernel_rfl
theorem cb_32_K12 : callB Try.prog 32 = true := by kernel_rfl
theorem ag_70_K12 : aggB Try.prog 70 = some 5 := by kernel_rfl
theorem cb_29_K12 : callB Try.prog 29 = true := by kernel_rfl
theorem sl_61_K12 : slcB Try.prog 61 = some (9, 1) := by kernel_rfl
theorem cb_31_K12 : callB Try.prog 31 = true := by kernel_rfl
theorem cb_30_K12 : callB Try.prog 30 = true := by kernel_rfl
theorem cb_33_K12 : callB Try.prog 33 = true := by kernel_rfl
open CastM CasM

def tld (K : KSt) (f : Int) : List ByteArray := if K.node f = true then K.T f.toNat else []
theorem tellF_pre (f : Int) : ∀ (m : Nat) (K : KSt) (j : Nat), ∃ X, (tellF m K f).T j = K.T j ++ X := by
  intro m
  induction m with
  | zero => intro K j; exact ⟨[], by simp [tellF]⟩
  | succ m ih =>
    intro K j
    simp only [tellF]
    split
    · obtain ⟨X, hX⟩ := ih (K.tell f) j
      rw [hX]
      show ∃ Y, upd1 K.T f.toNat (K.T f.toNat ++ [_]) j ++ X = _
      by_cases h : j = f.toNat
      · subst h; rw [upd1_at]; exact ⟨_, by rw [List.append_assoc]⟩
      · rw [upd1_ne h]; exact ⟨X, rfl⟩
    · exact ⟨[], by simp⟩
theorem take_pre (K : KSt) (q : Wd) (j : Nat) : ∃ X, (K.take q).1.T j = K.T j ++ X := by
  unfold KSt.take
  split
  · obtain ⟨X, hX⟩ := tellF_pre q.frm (K.mid q).ks.length (K.mid q) j
    exact ⟨X, by rw [← mid_T K q]; exact hX⟩
  · exact ⟨[], by simp⟩
theorem node_take (K : KSt) (q : Wd) (f : Int) : (K.take q).1.node f = K.node f := by unfold KSt.node; rw [take_n]
theorem tld_pre (K : KSt) (q : Wd) (f : Int) : ∃ X, tld (K.take q).1 f = tld K f ++ X := by
  unfold tld
  rw [node_take]
  split
  · exact take_pre K q f.toNat
  · exact ⟨[], rfl⟩
theorem tld_len {K : KSt} {f : Int} : (if K.node f = true then K.len f else 0) = (tld K f).length := by
  unfold tld
  split
  · rfl
  · rfl
theorem tld_le {K : KSt} {N : Nat} (h : ∀ j, (K.T j).length + K.ks.length ≤ N) (f : Int) : (tld K f).length ≤ N := by
  unfold tld
  split
  · have := h f.toNat; omega
  · simp
theorem open_le {K : KSt} (W : K.Wf) : (K.ks.length : Int) ≤ 8 * K.n := by
  have hq := q_spec W.q
  have h1 := CastM.nodup_lt (8 * K.n).toNat (K.ks.map fun k : Key => ((k.1 - 1) * 8 + (k.2 - K.len k.1)).toNat) ?_ ?_
  · rw [List.length_map] at h1; omega
  · refine List.pairwise_map.2 (List.pairwise_iff_getElem.2 ?_)
    intro i j hi hj hij
    have hnd := W.nd
    have hne : K.ks[i] ≠ K.ks[j] := fun e => by
      have := (List.getElem_inj hnd).1 e
      omega
    obtain ⟨a1, a2, a3, a4⟩ := W.rng K.ks[i] (List.getElem_mem hi)
    obtain ⟨b1, b2, b3, b4⟩ := W.rng K.ks[j] (List.getElem_mem hj)
    intro e
    apply hne
    have e1 : (K.ks[i]).1 = (K.ks[j]).1 := by omega
    rw [e1] at e a3 a4
    exact Prod.ext e1 (by omega)
  · intro x hx
    obtain ⟨k, hk, rfl⟩ := List.mem_map.1 hx
    obtain ⟨a1, a2, a3, a4⟩ := W.rng k hk
    omega
theorem c32t {b : Nat} {g : Gh} {K : KSt} (f : Int) (hb : g.b = b) (W : K.Wf) (w0 : World) (hk : (kR g K).ok w0.heap) (hT : ∀ i, (K.T i).length ≤ 1000) : Cl Try.prog 32 #[.pointer (some ⟨b, 0, none⟩), .int .i64 f] w0 (RetS [] w0 (fun v (x : Value) => v = x) fun x => [slR x (tld K f).length 9 1 ((tld K f).flatMap encS)]) := c32b f hb W w0 hk hT
theorem c33t {b : Nat} {g : Gh} {K : KSt} (f : Int) (hb : g.b = b) (W : K.Wf) (w0 : World) (hk : (kR g K).ok w0.heap) : Cl Try.prog 33 #[.pointer (some ⟨b, 0, none⟩), .int .i64 f] w0 (RetQ w0 fun v => v = .int .i64 (tld K f).length) := (c33b f hb W w0 hk).monoQ fun v hv => by rw [hv, tld_len]

set_option maxRecDepth 100000 in
set_option maxHeartbeats 400000 in
theorem law9a (n t : Int) (l : List Wd) (v : Value) (w0 : World) (hr : RdSl w0.heap v l.length 5 (l.flatMap encD)) (hin : ∀ w ∈ l, In64 w.seq) (h : ¬ fewD l) : Cl Try.prog 9 #[.int .i64 n, .int .i64 t, v] w0 (RetQ w0 fun v => v = .bool true) := by
  have M : Sep (fun _ => False) w0 w0 _ := Sep.nil _ w0
  have hro := (ro_of hr)
  obtain ⟨A, cc, rfl, hcc⟩ := hr.form
  refine enter (vs := [_, _, _]) Try.func9 rfl rfl rfl ?_
  intro a F
  refine wp_seq ?_
  refine wp_region_l [.ind] ([0]) rfl ?_
  refine s_I F rfl rfl rfl rfl rfl rfl ?_; clear F a; intro a F
  refine t_endM M ?_; (clear M; try clear w); intro w M
  refine wp_seq ?_
  refine wp_seq ?_
  refine wp_region_l [.ind, .wr, .ind, .ind, .ind, .ind, .wr, .ind, .ind] ([0, 1, 2, 3, 4, 5, 6, 7, 8]) rfl ?_
  refine s_I F rfl rfl rfl rfl rfl rfl ?_; clear F a; intro a F
  refine s_cq F M rfl rfl rfl rfl rfl (rfl : _ = some [_]) cb_23_K12 (fun nd_ => c23n _ h (M.chg.ro hro)) ?_; (clear F a M; try clear w); rintro v w rfl M a F
  refine s_I F rfl rfl rfl rfl rfl rfl ?_; clear F a; intro a F
  replace F : Fr _ _ ((13, Value.bool true) :: _) := F
  refine s_I F rfl rfl rfl rfl rfl rfl ?_; clear F a; intro a F
  refine s_no F rfl rfl rfl rfl ?_; clear F a; intro a F
  refine s_no F rfl rfl rfl rfl ?_; clear F a; intro a F
  refine s_no F rfl rfl rfl rfl ?_; clear F a; intro a F
  refine s_no F rfl rfl rfl rfl ?_; clear F a; intro a F
  refine s_I F rfl rfl rfl rfl rfl rfl ?_; clear F a; intro a F
  refine t_endM M ?_; (clear M; try clear w); intro w M
  refine c_t F rfl ?_
  refine wp_seq ?_
  replace F := F.keep [0, 1, 2, 6] rfl
  refine wp_region_l [.wr, .ind] ([0, 1]) rfl ?_
  refine s_cq F M rfl rfl rfl rfl rfl (rfl : _ = some []) cb_24_K12 (fun nd_ => c24 _) ?_; (clear F a M; try clear w); rintro v w rfl M a F
  refine s_I F rfl rfl rfl rfl rfl rfl ?_; clear F a; intro a F
  refine t_endM M ?_; (clear M; try clear w); intro w M
  refine wp_ret ?_
  refine ret1 F rfl rfl ?_
  -- end 0
  exact ⟨_, rfl, rfl, M.chg⟩
set_option maxRecDepth 100000 in
set_option maxHeartbeats 400000 in
theorem law9b (n t : Int) (l : List Wd) (v : Value) (w0 : World) (hr : RdSl w0.heap v l.length 5 (l.flatMap encD)) (hin : ∀ w ∈ l, In64 w.seq) (h : fewD l) (hq : quorum n t = 0) : Cl Try.prog 9 #[.int .i64 n, .int .i64 t, v] w0 (RetQ w0 fun v => v = .bool true) := by
  have M : Sep (fun _ => False) w0 w0 _ := Sep.nil _ w0
  have hro := (ro_of hr)
  obtain ⟨A, cc, rfl, hcc⟩ := hr.form
  refine enter (vs := [_, _, _]) Try.func9 rfl rfl rfl ?_
  intro a F
  refine wp_seq ?_
  refine wp_region_l [.ind] ([0]) rfl ?_
  refine s_I F rfl rfl rfl rfl rfl rfl ?_; clear F a; intro a F
  refine t_endM M ?_; (clear M; try clear w); intro w M
  refine wp_seq ?_
  refine wp_seq ?_
  refine wp_region_l [.ind, .wr, .ind, .ind, .ind, .ind, .wr, .ind, .ind] ([0, 1, 2, 3, 4, 5, 6, 7, 8]) rfl ?_
  refine s_I F rfl rfl rfl rfl rfl rfl ?_; clear F a; intro a F
  refine s_cq F M rfl rfl rfl rfl rfl (rfl : _ = some [_]) cb_23_K12 (fun nd_ => c23y _ h (M.chg.ro hro)) ?_; (clear F a M; try clear w); rintro v w rfl M a F
  refine s_I F rfl rfl rfl rfl rfl rfl ?_; clear F a; intro a F
  replace F : Fr _ _ ((13, Value.bool false) :: _) := F
  refine s_I F rfl rfl rfl rfl rfl rfl ?_; clear F a; intro a F
  refine s_I F rfl rfl rfl rfl rfl rfl ?_; clear F a; intro a F
  refine s_I F rfl rfl rfl rfl rfl rfl ?_; clear F a; intro a F
  refine s_cq F M rfl rfl rfl rfl rfl (rfl : _ = some [_, _]) cb_13_K12 (fun nd_ => c13 _ _ _) ?_; (clear F a M; try clear w); rintro v w rfl M a F
  refine s_bin F rfl rfl rfl rfl rfl rfl rfl ?_; clear F a; intro a F
  refine s_I F rfl rfl rfl rfl rfl rfl ?_; clear F a; intro a F
  refine t_endM M ?_; (clear M; try clear w); intro w M
  refine c_if F rfl ?_ ?_
  ·
    clear F; intro hc0 F
    try rw [hc0] at F
    replace hc0 := of_decide_eq_true hc0
    refine wp_seq ?_
    replace F := F.keep [0, 1, 2, 6] rfl
    refine wp_region_l [.wr, .ind] ([0, 1]) rfl ?_
    refine s_cq F M rfl rfl rfl rfl rfl (rfl : _ = some []) cb_24_K12 (fun nd_ => c24 _) ?_; (clear F a M; try clear w); rintro v w rfl M a F
    refine s_I F rfl rfl rfl rfl rfl rfl ?_; clear F a; intro a F
    refine t_endM M ?_; (clear M; try clear w); intro w M
    refine wp_ret ?_
    refine ret1 F rfl rfl ?_
    -- end 0
    exact ⟨_, rfl, rfl, M.chg⟩
  ·
    clear F; intro hc1 F
    try rw [hc1] at F
    replace hc1 := of_decide_eq_false hc1
    exact absurd hq hc1
set_option maxRecDepth 100000 in
set_option maxHeartbeats 4000000 in
theorem law9c (n t : Int) (l : List Wd) (v : Value) (w0 : World) (hr : RdSl w0.heap v l.length 5 (l.flatMap encD)) (hin : ∀ w ∈ l, In64 w.seq) (h : fewD l) (hq : quorum n t ≠ 0) : Cl Try.prog 9 #[.int .i64 n, .int .i64 t, v] w0 (RetQ w0 fun v => v = .bool true) := by
  have M : Sep (fun _ => False) w0 w0 _ := Sep.nil _ w0
  have hro := (ro_of hr)
  obtain ⟨A, cc, rfl, hcc⟩ := hr.form
  have hl60 := h.1
  refine enter (vs := [_, _, _]) Try.func9 rfl rfl rfl ?_
  intro a F
  refine wp_seq ?_
  refine wp_region_l [.ind] ([0]) rfl ?_
  refine s_I F rfl rfl rfl rfl rfl rfl ?_; clear F a; intro a F
  refine t_endM M ?_; (clear M; try clear w); intro w M
  refine wp_seq ?_
  refine wp_seq ?_
  refine wp_region_l [.ind, .wr, .ind, .ind, .ind, .ind, .wr, .ind, .ind] ([0, 1, 2, 3, 4, 5, 6, 7, 8]) rfl ?_
  refine s_I F rfl rfl rfl rfl rfl rfl ?_; clear F a; intro a F
  refine s_cq F M rfl rfl rfl rfl rfl (rfl : _ = some [_]) cb_23_K12 (fun nd_ => c23y _ h (M.chg.ro hro)) ?_; (clear F a M; try clear w); rintro v w rfl M a F
  refine s_I F rfl rfl rfl rfl rfl rfl ?_; clear F a; intro a F
  replace F : Fr _ _ ((13, Value.bool false) :: _) := F
  refine s_I F rfl rfl rfl rfl rfl rfl ?_; clear F a; intro a F
  refine s_I F rfl rfl rfl rfl rfl rfl ?_; clear F a; intro a F
  refine s_I F rfl rfl rfl rfl rfl rfl ?_; clear F a; intro a F
  refine s_cq F M rfl rfl rfl rfl rfl (rfl : _ = some [_, _]) cb_13_K12 (fun nd_ => c13 _ _ _) ?_; (clear F a M; try clear w); rintro v w rfl M a F
  refine s_bin F rfl rfl rfl rfl rfl rfl rfl ?_; clear F a; intro a F
  refine s_I F rfl rfl rfl rfl rfl rfl ?_; clear F a; intro a F
  refine t_endM M ?_; (clear M; try clear w); intro w M
  refine c_if F rfl ?_ ?_
  ·
    clear F; intro hc0 F
    try rw [hc0] at F
    replace hc0 := of_decide_eq_true hc0
    exact absurd hc0 hq
  ·
    clear F; intro hc1 F
    try rw [hc1] at F
    replace hc1 := of_decide_eq_false hc1
    refine wp_skip ?_
    refine wp_seq ?_
    replace F := F.keep [0, 1, 2, 6] rfl
    refine wp_region_l [.ind, .ind, .wr, .ind] ([0, 1, 2, 3]) rfl ?_
    refine s_I F rfl rfl rfl rfl rfl rfl ?_; clear F a; intro a F
    refine s_I F rfl rfl rfl rfl rfl rfl ?_; clear F a; intro a F
    refine s_call (m := []) F M rfl rfl rfl rfl rfl (rfl : _ = some [_, _]) cb_25_K12 (fun nd_ => c25 n t hq _) ?_; (clear F a M; try clear w); rintro v g0 w rfl M a F; (try simp only [List.cons_append, List.nil_append] at M)
    refine s_I F rfl rfl rfl rfl rfl rfl ?_; clear F a; intro a F
    refine t_endM M ?_; (clear M; try clear w); intro w M
    refine wp_seq ?_
    refine wp_seq ?_
    replace F := F.keep [0, 1, 2, 6, 7] rfl
    refine wp_region_l [.ind] ([0]) rfl ?_
    refine s_I F rfl rfl rfl rfl rfl rfl ?_; clear F a; intro a F
    refine t_endM M ?_; (clear M; try clear w); intro w M
    refine wp_block ?_
    have M1 : Sep _ _ _ (kR _ _ :: _) := M; replace M := M1; clear M1
    refine loopX (X := (Int) × (KSt) × (Gh)) F [0, 1, 2, 7] rfl (fun ((i, K, g) : (Int) × (KSt) × (Gh)) => (0 ≤ i) ∧ (i ≤ l.length) ∧ (g.b = g0.b) ∧ (K.Wf) ∧ (∀ j, (K.T j).length + K.ks.length ≤ i.toNat) ∧ (K.n = n)) (fun ((i, K, g) : (Int) × (KSt) × (Gh)) => [(8, .int .i64 i)]) (fun ((i, K, g) : (Int) × (KSt) × (Gh)) => [kR g K]) (fun ((i, K, g) : (Int) × (KSt) × (Gh)) => l.length - i.toNat) ((0), (newK n t), (g0)) M ⟨(by omega), (by omega), rfl, (.new hq), (fun j => by have := new_le n t j; omega), rfl⟩ (F.keep [8, 0, 1, 2, 7] rfl) ?_
    clear F M; clear a; (try clear w)
    rintro ⟨i, K, g⟩ a w ⟨i0, i1, hgb, W, hB, hKn⟩ F M; try dsimp only at F M
    try simp only [List.cons_append, List.nil_append] at F M
    try dsimp only at i0 i1 hgb W hB hKn
    obtain ⟨hz0, hz1, hz2, hz3⟩ := q_spec W.q
    refine wp_seq ?_
    refine wp_seq ?_
    refine wp_region_l [.ind, .ind, .ind, .ind] ([0, 1, 2, 3]) rfl ?_
    refine s_I F rfl rfl rfl rfl rfl rfl ?_; clear F a; intro a F
    refine s_I F rfl rfl rfl rfl rfl rfl ?_; clear F a; intro a F
    refine s_len F rfl rfl rfl rfl sl_56_K12 rfl ?_; clear F a; intro a F
    refine s_bin F rfl rfl rfl rfl rfl rfl rfl ?_; clear F a; intro a F
    refine t_endM M ?_; (clear M; try clear w); intro w M
    refine c_if F rfl ?_ ?_
    ·
      clear F; intro hc2 F
      try rw [hc2] at F
      replace hc2 := of_decide_eq_true hc2
      refine wp_skip ?_
      refine wp_seq ?_
      refine wp_block ?_
      refine wp_seq ?_
      replace F := F.keep [0, 1, 2, 7, 8] rfl
      refine wp_region_l [.ind, .ind, .ind, .ind, .ind, .rd, .wr, .ind] ([0, 1, 2, 3, 4, 5, 6, 7]) rfl ?_
      refine s_I F rfl rfl rfl rfl rfl rfl ?_; clear F a; intro a F
      refine s_I F rfl rfl rfl rfl rfl rfl ?_; clear F a; intro a F
      refine s_I F rfl rfl rfl rfl rfl rfl ?_; clear F a; intro a F
      refine s_ix F rfl rfl rfl rfl sl_56_K12 rfl rfl (by exact M.chg.ro hro) (by omega) (by omega) ?_; clear F a; intro e33 he33 a F
      refine s_fa F rfl rfl rfl rfl fa_70_0_K12 rfl ?_; clear F a; intro a F
      refine s_ld F rfl rfl rfl rfl sc_3_K12 rfl (by exact rdX (M.chg.ro hro) (by intro e; rfl) he33 rfl) ?_; clear F a; intro a F
      refine s_call (m := []) F M rfl rfl rfl rfl rfl (rfl : _ = some [_, _]) cb_32_K12 (fun nd_ => c32t e33.frm hgb W _ (by exact M.h0) (fun i => by have := hB i; omega)) ?_; (clear F a M; try clear w); rintro v z w rfl M a F; (try simp only [List.cons_append, List.nil_append] at M)
      obtain ⟨zA, zC, rfl⟩ := SlOk.form M.h0
      refine s_I F rfl rfl rfl rfl rfl rfl ?_; clear F a; intro a F
      refine t_endM M ?_; (clear M; try clear w); intro w M
      refine wp_seq ?_
      replace F := F.keep [0, 1, 2, 7, 8, 9] rfl
      refine wp_region_l [.ind, .ind, .ind, .ind, .rd, .wr] ([0, 1, 2, 3, 4, 5]) rfl ?_
      refine s_I F rfl rfl rfl rfl rfl rfl ?_; clear F a; intro a F
      refine s_I F rfl rfl rfl rfl rfl rfl ?_; clear F a; intro a F
      refine s_I F rfl rfl rfl rfl rfl rfl ?_; clear F a; intro a F
      refine s_ix F rfl rfl rfl rfl sl_56_K12 rfl rfl (by exact M.chg.ro hro) (by omega) (by omega) ?_; clear F a; intro e40 he40 a F
      try (obtain rfl := Option.some.inj (he33.symm.trans he40))
      refine s_lda F rfl rfl rfl rfl ag_70_K12 rfl rfl (rdsX (M.chg.ro hro) (by intro e; rfl) he40) ?_; clear F a; intro a F
      have M1 : Sep _ _ _ (kR _ _ :: _) := M.f1; replace M := M1; clear M1
      refine s_call (m := [_]) F M rfl rfl rfl rfl rfl (rfl : _ = some [_, _]) cb_29_K12 (fun nd_ => c29b g hgb K W (fun j => by have := hB j; omega) e33 (by have := (hin e33 (List.mem_of_getElem? he33)).2; omega) _ (M.drewN nd_).own.one) ?_; (clear F a M; try clear w); rintro v x3 w ⟨rfl, hb3⟩ M a F; (try simp only [List.cons_append, List.nil_append] at M)
      obtain ⟨y3, g3⟩ := x3
      dsimp only at hb3 M F
      have W3 := wf_takeK W e33
      have hB3 := take_le hB e33
      refine t_endM M ?_; (clear M; try clear w); intro w M
      refine wp_seq ?_
      replace F := F.keep [0, 1, 2, 7, 8, 9] rfl
      refine wp_region_l [.ind, .ind, .ind, .ind, .ind, .rd, .wr, .ind] ([0, 1, 2, 3, 4, 5, 6, 7]) rfl ?_
      refine s_I F rfl rfl rfl rfl rfl rfl ?_; clear F a; intro a F
      refine s_I F rfl rfl rfl rfl rfl rfl ?_; clear F a; intro a F
      refine s_I F rfl rfl rfl rfl rfl rfl ?_; clear F a; intro a F
      refine s_ix F rfl rfl rfl rfl sl_56_K12 rfl rfl (by exact M.chg.ro hro) (by omega) (by omega) ?_; clear F a; intro e46 he46 a F
      try (obtain rfl := Option.some.inj (he33.symm.trans he46))
      try (obtain rfl := Option.some.inj (he40.symm.trans he46))
      refine s_fa F rfl rfl rfl rfl fa_70_0_K12 rfl ?_; clear F a; intro a F
      refine s_ld F rfl rfl rfl rfl sc_3_K12 rfl (by exact rdX (M.chg.ro hro) (by intro e; rfl) he46 rfl) ?_; clear F a; intro a F
      refine s_call (m := []) F M rfl rfl rfl rfl rfl (rfl : _ = some [_, _]) cb_32_K12 (fun nd_ => c32t e33.frm hb3 W3 _ (by exact M.h0) (fun i => by have := hB3 i; omega)) ?_; (clear F a M; try clear w); rintro v y w rfl M a F; (try simp only [List.cons_append, List.nil_append] at M)
      obtain ⟨yA, yC, rfl⟩ := SlOk.form M.h0
      obtain ⟨X, hX⟩ := tld_pre K e33 e33.frm
      have hXl : (tld (K.take e33).1 e33.frm).length = (tld K e33.frm).length + X.length := by rw [hX, List.length_append]
      refine s_I F rfl rfl rfl rfl rfl rfl ?_; clear F a; intro a F
      refine t_endM M ?_; (clear M; try clear w); intro w M
      refine wp_seq ?_
      replace F := F.keep [0, 1, 2, 7, 8, 9, 10] rfl
      refine wp_region_l [.ind, .ind, .ind, .ind, .ind, .ind, .ind, .ind, .ind, .ind, .ind, .wr, .ind, .ind, .ind, .ind, .wr, .ind, .ind, .ind, .ind, .ind, .ind, .ind, .ind, .ind, .ind, .rd, .wr, .ind, .ind, .ind, .ind] ([0, 1, 2, 3, 4, 5, 6, 7, 8, 9, 10, 11, 12, 13, 14, 15, 16, 17, 18, 19, 20, 21, 22, 23, 24, 25, 26, 27, 28, 29, 30, 31, 32]) rfl ?_
      refine s_I F rfl rfl rfl rfl rfl rfl ?_; clear F a; intro a F
      refine s_len F rfl rfl rfl rfl sl_61_K12 rfl ?_; clear F a; intro a F
      refine s_I F rfl rfl rfl rfl rfl rfl ?_; clear F a; intro a F
      refine s_len F rfl rfl rfl rfl sl_61_K12 rfl ?_; clear F a; intro a F
      refine s_bin F rfl rfl rfl rfl rfl rfl rfl ?_; clear F a; intro a F
      refine s_I F rfl rfl rfl rfl rfl rfl ?_; clear F a; intro a F
      refine bsplit F 55 rfl ?_ ?_
      ·
        clear F; intro hc3 F
        try rw [hc3] at F
        replace hc3 := of_decide_eq_true hc3
        exfalso
        omega
      ·
        clear F; intro hc4 F
        try rw [hc4] at F
        replace hc4 := of_decide_eq_false hc4
        refine s_I F rfl rfl rfl rfl rfl rfl ?_; clear F a; intro a F
        refine s_I F rfl rfl rfl rfl rfl rfl ?_; clear F a; intro a F
        refine s_len F rfl rfl rfl rfl sl_61_K12 rfl ?_; clear F a; intro a F
        refine s_slc F rfl rfl rfl rfl sl_61_K12 rfl rfl rfl (by exact SlOk.rd M.h0) (by omega) (by omega) (by omega) ?_; clear F a; intro a F
        refine s_I F rfl rfl rfl rfl rfl rfl ?_; clear F a; intro a F
        refine s_cq F M rfl rfl rfl rfl rfl (rfl : _ = some [_, _]) cb_31_K12 (fun nd_ => c31 ((tld (K.take e33).1 e33.frm).take ((tld K e33.frm).length : Int).toNat) (tld K e33.frm) _ _ _ (by exact RdSl.pre (SlOk.rd M.h0) (by intro e; rfl) _ (by omega)) (by exact SlOk.rd M.h3) (by have := tld_le hB e33.frm; have := tld_le hB3 e33.frm; rw [List.length_take]; omega)) ?_; (clear F a M; try clear w); rintro v w rfl M a F
        rw [decide_eq_true (by rw [hX, Int.toNat_natCast, List.take_left])] at F
        refine s_I F rfl rfl rfl rfl rfl rfl ?_; clear F a; intro a F
        refine s_I F rfl rfl rfl rfl rfl rfl ?_; clear F a; intro a F
        refine s_I F rfl rfl rfl rfl rfl rfl ?_; clear F a; intro a F
        replace F : Fr _ _ ((64, Value.bool false) :: _) := F
        refine s_I F rfl rfl rfl rfl rfl rfl ?_; clear F a; intro a F
        refine s_cq F M rfl rfl rfl rfl rfl (rfl : _ = some [_]) cb_30_K12 (fun nd_ => c30b hb3 W3 _ (by exact M.h1)) ?_; (clear F a M; try clear w); rintro v w rfl M a F
        have hop := open_le W3
        have hnn := take_n K e33
        refine s_I F rfl rfl rfl rfl rfl rfl ?_; clear F a; intro a F
        refine s_mul F rfl rfl rfl rfl rfl rfl (by unfold In64; omega) ?_; clear F a; intro a F
        refine s_bin F rfl rfl rfl rfl rfl rfl rfl ?_; clear F a; intro a F
        refine s_I F rfl rfl rfl rfl rfl rfl ?_; clear F a; intro a F
        refine s_I F rfl rfl rfl rfl rfl rfl ?_; clear F a; intro a F
        refine bsplit F 71 rfl ?_ ?_
        ·
          clear F; intro hc5 F
          try rw [hc5] at F
          replace hc5 := of_decide_eq_true hc5
          exfalso
          omega
        ·
          clear F; intro hc6 F
          try rw [hc6] at F
          replace hc6 := of_decide_eq_false hc6
          refine s_I F rfl rfl rfl rfl rfl rfl ?_; clear F a; intro a F
          refine s_I F rfl rfl rfl rfl rfl rfl ?_; clear F a; intro a F
          refine s_I F rfl rfl rfl rfl rfl rfl ?_; clear F a; intro a F
          refine s_ix F rfl rfl rfl rfl sl_56_K12 rfl rfl (by exact M.chg.ro hro) (by omega) (by omega) ?_; clear F a; intro e75 he75 a F
          try (obtain rfl := Option.some.inj (he33.symm.trans he75))
          try (obtain rfl := Option.some.inj (he40.symm.trans he75))
          try (obtain rfl := Option.some.inj (he46.symm.trans he75))
          refine s_fa F rfl rfl rfl rfl fa_70_0_K12 rfl ?_; clear F a; intro a F
          refine s_ld F rfl rfl rfl rfl sc_3_K12 rfl (by exact rdX (M.chg.ro hro) (by intro e; rfl) he75 rfl) ?_; clear F a; intro a F
          refine s_cq F M rfl rfl rfl rfl rfl (rfl : _ = some [_, _]) cb_33_K12 (fun nd_ => c33t e33.frm hb3 W3 _ (by exact M.h1)) ?_; (clear F a M; try clear w); rintro v w rfl M a F
          refine s_I F rfl rfl rfl rfl rfl rfl ?_; clear F a; intro a F
          refine s_len F rfl rfl rfl rfl sl_61_K12 rfl ?_; clear F a; intro a F
          refine s_bin F rfl rfl rfl rfl rfl rfl rfl ?_; clear F a; intro a F
          refine s_I F rfl rfl rfl rfl rfl rfl ?_; clear F a; intro a F
          refine t_endM M ?_; (clear M; try clear w); intro w M
          refine c_if F rfl ?_ ?_
          ·
            clear F; intro hc7 F
            try rw [hc7] at F
            replace hc7 := nd1 hc7
            exact absurd rfl hc7
          ·
            clear F; intro hc8 F
            try rw [hc8] at F
            replace hc8 := nd0 hc8
            refine wp_skip ?_
            replace F := F.keep [0, 1, 2, 7, 8, 9, 10] rfl
            refine wp_region_l [.ind, .ind, .ind] ([0, 1, 2]) rfl ?_
            refine s_I F rfl rfl rfl rfl rfl rfl ?_; clear F a; intro a F
            refine s_add F rfl rfl rfl rfl rfl rfl (by unfold In64; omega) ?_; clear F a; intro a F
            refine s_I F rfl rfl rfl rfl rfl rfl ?_; clear F a; intro a F
            refine t_endM M ?_; (clear M; try clear w); intro w M
            refine again ((i + 1), ((K.take e33).1), (g3)) (by show _ < _; (try dsimp only); omega) ⟨(by omega), (by assumption), hb3, W3, (fun j => by have := hB3 j; omega), ((take_n K e33).trans hKn)⟩ (F.keep [8, 0, 1, 2, 7] rfl) ?_
            try dsimp only [List.cons_append, List.nil_append]
            refine M.pick ?_; repeat (first | exact PkG.nil | refine PkG.cons 1 rfl rfl ?_)
    ·
      clear F; intro hc9 F
      try rw [hc9] at F
      replace hc9 := of_decide_eq_false hc9
      refine wp_exit ?_
      refine wp_seq ?_
      replace F := F.keep [0, 1, 2, 7, 8] rfl
      refine wp_region_l [.wr, .ind] ([0, 1]) rfl ?_
      refine s_cq F M rfl rfl rfl rfl rfl (rfl : _ = some []) cb_24_K12 (fun nd_ => c24 _) ?_; (clear F a M; try clear w); rintro v w rfl M a F
      refine s_I F rfl rfl rfl rfl rfl rfl ?_; clear F a; intro a F
      refine t_endM M ?_; (clear M; try clear w); intro w M
      refine wp_ret ?_
      refine ret1 F rfl rfl ?_
      -- end 0
      exact ⟨_, rfl, rfl, M.chg⟩
end Go.Proofs.Ytibomfgeemhogaa
