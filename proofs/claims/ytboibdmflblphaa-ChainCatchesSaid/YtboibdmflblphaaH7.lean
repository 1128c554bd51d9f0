/- H7 of the seat. -/
import Derived.Test.YtboibdmflblphaaH6
namespace Go.Proofs.Ytboibdmflblphaa
open Go Fw
theorem sl_69_H7 : slcB Try.prog 69 = some (9, 1) := by kernel_rfl
theorem cb_57_H7 : callB Try.prog 57 = true := by kernel_rfl
theorem fa_86_0_H7 : FA Try.prog 86 0 0 := fun _ _ _ => by kernel_rfl
theorem sc_3_H7 : scalB Try.prog 3 = true := by kernel_rfl
theorem fa_86_1_H7 : FA Try.prog 86 1 1 := fun _ _ _ => by kernel_rfl
theorem fa_86_2_H7 : FA Try.prog 86 2 2 := fun _ _ _ => by kernel_rfl
theorem cb_58_H7 : callB Try.prog 58 = true := by kernel_rfl
theorem pt_87_H7 : ptrB Try.prog 87 = true := by kernel_rfl
theorem sc_9_H7 : scalB Try.prog 9 = true := by kernel_rfl
theorem cb_59_H7 : callB Try.prog 59 = true := by kernel_rfl
theorem cb_60_H7 : callB Try.prog 60 = true := by kernel_rfl
theorem cb_61_H7 : callB Try.prog 61 = true := by kernel_rfl
theorem st_9_H7 : strB Try.prog 9 = true := by kernel_rfl
theorem cb_63_H7 : callB Try.prog 63 = true := by kernel_rfl
theorem cb_62_H7 : callB Try.prog 62 = true := by kernel_rfl
theorem cb_64_H7 : callB Try.prog 64 = true := by kernel_rfl
theorem cb_65_H7 : callB Try.prog 65 = true := by kernel_rfl
open VoteM AgrM CouM ChnM

theorem ro_new {w0 w : World} {p q : Res} {r : List Res} (M : Sep (fun _ => False) w0 w (p :: r)) (h : Ro (fun _ => False) w0 q) : Ro (fun b => b ∈ foots [p]) w q := by
  refine ⟨M.chg.ro h, fun b hb => ⟨Nat.lt_of_lt_of_le (h.lt b hb).1 M.chg.size, fun hp => ?_⟩⟩
  have hp2 : b ∈ foots (p :: r) := by
    simp only [foots, List.flatMap_cons, List.flatMap_nil, List.append_nil, List.mem_append] at hp ⊢
    exact .inl hp
  rcases M.mine b hp2 with h1 | h1
  · exact h1
  · exact absurd (h.lt b hb).1 (by omega)
def cntH : Nat → List ByteArray → Nat
  | _, [] => 0
  | h, v :: l => if mayB v = true ∧ h < 64 then cntH (h + 1) l + 1 else 0
theorem dec_log {c : Chn} {v : ByteArray} : (c.dec v).log = c.log ++ [v] := begin_log
theorem dec_wants {c : Chn} {v : ByteArray} : (c.dec v).wants.length ≤ c.wants.length := by
  have : (c.dec v).wants = ridB c.wants v := begin_wants
  rw [this]; exact rid_len
theorem catch_cnt : ∀ (l : List ByteArray) (c : Chn), c.catchN l = cntH c.log.length l
  | [], _ => rfl
  | v :: l, c => by
    have h := catch_cnt l (c.dec v)
    rw [dec_log, List.length_append] at h
    simp only [Chn.catchN, cntH]
    by_cases hm : mayB v = true ∧ c.over = false
    · rw [if_pos hm, if_pos ⟨hm.1, over_no.1 hm.2⟩, h]; rfl
    · rw [if_neg hm, if_neg (fun e => hm ⟨e.1, over_no.2 e.2⟩)]
theorem cnt_le : ∀ (l : List ByteArray) (h : Nat), cntH h l ≤ l.length
  | [], _ => Nat.le_refl _
  | v :: l, h => by
    have := cnt_le l (h + 1)
    simp only [cntH]
    split
    · simp only [List.length_cons]; omega
    · omega
theorem decs_log : ∀ (l : List ByteArray) (c : Chn), (c.decs l).log = c.log ++ l
  | [], c => by simp [Chn.decs]
  | v :: l, c => by
    show ((c.dec v).decs l).log = _
    rw [decs_log l, dec_log]; simp
theorem decs_wants : ∀ (l : List ByteArray) (c : Chn), (c.decs l).wants.length ≤ c.wants.length
  | [], _ => Nat.le_refl _
  | v :: l, c => Nat.le_trans (decs_wants l (c.dec v)) dec_wants
theorem want_same {c : Chn} {v : ByteArray} : (c.want v).begun = c.begun ∧ (c.want v).log = c.log ∧ (c.want v).wants.length ≤ c.wants.length + 1 := by
  unfold Chn.want
  split
  · exact ⟨rfl, rfl, by show (c.wants ++ [v]).length ≤ _; simp⟩
  · exact ⟨rfl, rfl, by omega⟩
def Chn.wls (c : Chn) (l : List ByteArray) : Chn := l.foldl Chn.want c
theorem wls_next {c : Chn} {l : List ByteArray} {i : Nat} {e : ByteArray} (h : l[i]? = some e) : Chn.wls c (l.take (i + 1)) = (Chn.wls c (l.take i)).want e := by
  unfold Chn.wls
  rw [List.take_add_one, h, List.foldl_append]
  rfl
theorem wls_same : ∀ (l : List ByteArray) (c : Chn), (Chn.wls c l).begun = c.begun ∧ (Chn.wls c l).log = c.log ∧ (Chn.wls c l).wants.length ≤ c.wants.length + l.length
  | [], _ => ⟨rfl, rfl, Nat.le_refl _⟩
  | v :: l, c => by
    obtain ⟨h1, h2, h3⟩ := wls_same l (c.want v)
    obtain ⟨g1, g2, g3⟩ := want_same (c := c) (v := v)
    refine ⟨h1.trans g1, h2.trans g2, ?_⟩
    show (Chn.wls (c.want v) l).wants.length ≤ _
    simp only [List.length_cons]; omega
theorem wls_wf {c : Chn} (W : c.Wf) : ∀ (l : List ByteArray), (Chn.wls c l).Wf := fun l => by
  induction l generalizing c with
  | nil => exact W
  | cons v l ih => exact ih (W.want v)
theorem cnt_on {h : Nat} {v : ByteArray} {l : List ByteArray} (h1 : mayB v = true) (h2 : h < 64) : cntH h (v :: l) = cntH (h + 1) l + 1 := if_pos ⟨h1, h2⟩
theorem cnt_at {l : List ByteArray} {n j : Nat} (h : n = j + cntH j (l.drop j)) (hd : l.length ≤ j ∨ 64 ≤ j ∨ ∃ e, l[j]? = some e ∧ mayB e = false) : n = j := by
  rcases hd with hd | hd | ⟨e, he, hm⟩
  · rw [List.drop_eq_nil_of_le hd] at h; exact h
  · have : cntH j (l.drop j) = 0 := by
      cases l.drop j with
      | nil => rfl
      | cons v l => exact if_neg (fun e => by omega)
    omega
  · rw [drop_at he] at h
    have : cntH j (e :: l.drop (j + 1)) = 0 := if_neg (fun e => by rw [hm] at e; cases e.1)
    omega
theorem may_no {v : ByteArray} (h : v = { data := #[] } ∨ 4096 < v.size) : mayB v = false := by
  cases hm : mayB v
  · rfl
  · have h2 := may_spec.1 hm
    rcases h with h | h
    · exact absurd h h2.1
    · omega
theorem may_yes {v : ByteArray} (h1 : ¬ v = { data := #[] }) (h2 : v.size ≤ 4096) : mayB v = true := may_spec.2 ⟨h1, h2⟩
theorem start_same (c : Chn) : c.start.log = c.log ∧ c.start.wants = c.wants ∧ c.start.begun = true := by
  unfold Chn.start
  split
  · rename_i h; exact ⟨rfl, rfl, h⟩
  · exact ⟨begin_log, begin_wants, begin_begun⟩
theorem wls_over {n t me : Int} {a : ASt} {l : List ByteArray} : (Chn.wls (ChnM.newC n t me a) l).begun = false → (Chn.wls (ChnM.newC n t me a) l).over = false := fun _ => over_no.2 (by rw [(wls_same l _).2.1]; show (0 : Nat) < 64; decide)
/-- What is caught. -/
structure Caught (ws l : List ByteArray) (n : Nat) (c : Chn) : Prop where
  n_ : n = 0 + cntH 0 (l.drop 0)
  le : n ≤ l.length
  log : c.log = l.take n
  w : c.wants.length ≤ ws.length
theorem caught {n t me : Int} {a : ASt} {ws l : List ByteArray} : Caught ws l ((Chn.wls (ChnM.newC n t me a) ws).start.catchN l) ((Chn.wls (ChnM.newC n t me a) ws).start.decs (l.take ((Chn.wls (ChnM.newC n t me a) ws).start.catchN l))) := by
  obtain ⟨h1, h2, h3⟩ := wls_same ws (ChnM.newC n t me a)
  obtain ⟨g1, g2, g3⟩ := start_same (Chn.wls (ChnM.newC n t me a) ws)
  have hl : (Chn.wls (ChnM.newC n t me a) ws).start.log = [] := g1.trans h2
  have hn := catch_cnt l (Chn.wls (ChnM.newC n t me a) ws).start
  rw [hl] at hn
  have hn : (Chn.wls (ChnM.newC n t me a) ws).start.catchN l = cntH 0 l := hn
  refine ⟨by rw [hn]; simp, by rw [hn]; exact cnt_le l 0, by rw [decs_log, hl]; rfl, ?_⟩
  refine Nat.le_trans (decs_wants _ _) ?_
  rw [g2]
  have : (ChnM.newC n t me a).wants.length = 0 := rfl
  omega

set_option maxRecDepth 100000 in
set_option maxHeartbeats 400000 in
theorem law16a (n t me : Int) (ws l : List ByteArray) (v1 v2 : Value) (w0 : World) (hr1 : RdSl w0.heap v1 ws.length 1 (ws.flatMap encS)) (hr2 : RdSl w0.heap v2 l.length 1 (l.flatMap encS)) (hf : 8 < ws.length ∨ 100 < l.length) : Cl Try.prog 16 #[.agg #[.int .i64 n, .int .i64 t, .int .i64 me], v1, v2] w0 (RetQ w0 fun v => v = .bool true) := by
  have M : Sep (fun _ => False) w0 w0 _ := Sep.nil _ w0
  have hro1 := ro_of hr1
  have hro2 := ro_of hr2
  obtain ⟨A1, d1, rfl, hcc1⟩ := hr1.form
  obtain ⟨A2, d2, rfl, hcc2⟩ := hr2.form
  refine enter (vs := [_, _, _]) Try.func16 rfl rfl rfl ?_
  intro a F
  refine wp_seq ?_
  refine wp_region_l [.wr, .ind] ([0, 1]) rfl ?_
  refine s_bxA F M rfl rfl rfl rfl rfl ?_; (clear F a M; try clear w); intro b3 w M a F
  refine s_I F rfl rfl rfl rfl rfl rfl ?_; clear F a; intro a F
  refine t_endM M ?_; (clear M; try clear w); intro w M
  refine wp_seq ?_
  refine wp_seq ?_
  refine wp_region_l [.ind, .ind, .ind, .ind, .ind, .ind, .ind, .ind] ([0, 1, 2, 3, 4, 5, 6, 7]) rfl ?_
  refine s_I F rfl rfl rfl rfl rfl rfl ?_; clear F a; intro a F
  refine s_len F rfl rfl rfl rfl sl_69_H7 rfl ?_; clear F a; intro a F
  refine s_bin F rfl rfl rfl rfl rfl rfl rfl ?_; clear F a; intro a F
  refine s_I F rfl rfl rfl rfl rfl rfl ?_; clear F a; intro a F
  refine bsplit F 14 rfl ?_ ?_
  ·
    clear F; intro hc0 F
    try rw [hc0] at F
    replace hc0 := of_decide_eq_true hc0
    refine s_no F rfl rfl rfl rfl ?_; clear F a; intro a F
    refine s_no F rfl rfl rfl rfl ?_; clear F a; intro a F
    refine s_no F rfl rfl rfl rfl ?_; clear F a; intro a F
    refine s_I F rfl rfl rfl rfl rfl rfl ?_; clear F a; intro a F
    refine t_endM M ?_; (clear M; try clear w); intro w M
    refine c_t F rfl ?_
    refine wp_seq ?_
    replace F := F.keep [0, 1, 2, 3, 6] rfl
    refine wp_region_l [.wr, .ind] ([0, 1]) rfl ?_
    refine s_cq F M rfl rfl rfl rfl rfl (rfl : _ = some []) cb_57_H7 (fun nd_ => c57 _) ?_; (clear F a M; try clear w); rintro v w rfl M a F
    refine s_I F rfl rfl rfl rfl rfl rfl ?_; clear F a; intro a F
    refine t_endM M ?_; (clear M; try clear w); intro w M
    refine wp_ret ?_
    refine ret1 F rfl rfl ?_
    -- end 0
    exact ⟨_, rfl, rfl, M.chg⟩
  ·
    clear F; intro hc1 F
    try rw [hc1] at F
    replace hc1 := of_decide_eq_false hc1
    refine s_I F rfl rfl rfl rfl rfl rfl ?_; clear F a; intro a F
    refine s_len F rfl rfl rfl rfl sl_69_H7 rfl ?_; clear F a; intro a F
    refine s_bin F rfl rfl rfl rfl rfl rfl rfl ?_; clear F a; intro a F
    refine s_I F rfl rfl rfl rfl rfl rfl ?_; clear F a; intro a F
    refine t_endM M ?_; (clear M; try clear w); intro w M
    refine c_if F rfl ?_ ?_
    ·
      clear F; intro hc2 F
      try rw [hc2] at F
      replace hc2 := of_decide_eq_true hc2
      refine wp_seq ?_
      replace F := F.keep [0, 1, 2, 3, 6] rfl
      refine wp_region_l [.wr, .ind] ([0, 1]) rfl ?_
      refine s_cq F M rfl rfl rfl rfl rfl (rfl : _ = some []) cb_57_H7 (fun nd_ => c57 _) ?_; (clear F a M; try clear w); rintro v w rfl M a F
      refine s_I F rfl rfl rfl rfl rfl rfl ?_; clear F a; intro a F
      refine t_endM M ?_; (clear M; try clear w); intro w M
      refine wp_ret ?_
      refine ret1 F rfl rfl ?_
      -- end 1
      exact ⟨_, rfl, rfl, M.chg⟩
    ·
      clear F; intro hc3 F
      try rw [hc3] at F
      replace hc3 := of_decide_eq_false hc3
      exfalso
      omega
set_option maxRecDepth 100000 in
set_option maxHeartbeats 400000 in
theorem law16b (n t me : Int) (ws l : List ByteArray) (v1 v2 : Value) (w0 : World) (hr1 : RdSl w0.heap v1 ws.length 1 (ws.flatMap encS)) (hr2 : RdSl w0.heap v2 l.length 1 (l.flatMap encS)) (hf : ws.length ≤ 8 ∧ l.length ≤ 100) (hk : okA n t me 0 tilde = false) : Cl Try.prog 16 #[.agg #[.int .i64 n, .int .i64 t, .int .i64 me], v1, v2] w0 (RetQ w0 fun v => v = .bool true) := by
  have M : Sep (fun _ => False) w0 w0 _ := Sep.nil _ w0
  have hro1 := ro_of hr1
  have hro2 := ro_of hr2
  obtain ⟨A1, d1, rfl, hcc1⟩ := hr1.form
  obtain ⟨A2, d2, rfl, hcc2⟩ := hr2.form
  refine enter (vs := [_, _, _]) Try.func16 rfl rfl rfl ?_
  intro a F
  refine wp_seq ?_
  refine wp_region_l [.wr, .ind] ([0, 1]) rfl ?_
  refine s_bxA F M rfl rfl rfl rfl rfl ?_; (clear F a M; try clear w); intro b3 w M a F
  refine s_I F rfl rfl rfl rfl rfl rfl ?_; clear F a; intro a F
  refine t_endM M ?_; (clear M; try clear w); intro w M
  refine wp_seq ?_
  refine wp_seq ?_
  refine wp_region_l [.ind, .ind, .ind, .ind, .ind, .ind, .ind, .ind] ([0, 1, 2, 3, 4, 5, 6, 7]) rfl ?_
  refine s_I F rfl rfl rfl rfl rfl rfl ?_; clear F a; intro a F
  refine s_len F rfl rfl rfl rfl sl_69_H7 rfl ?_; clear F a; intro a F
  refine s_bin F rfl rfl rfl rfl rfl rfl rfl ?_; clear F a; intro a F
  refine s_I F rfl rfl rfl rfl rfl rfl ?_; clear F a; intro a F
  refine bsplit F 14 rfl ?_ ?_
  ·
    clear F; intro hc0 F
    try rw [hc0] at F
    replace hc0 := of_decide_eq_true hc0
    refine s_no F rfl rfl rfl rfl ?_; clear F a; intro a F
    refine s_no F rfl rfl rfl rfl ?_; clear F a; intro a F
    refine s_no F rfl rfl rfl rfl ?_; clear F a; intro a F
    refine s_I F rfl rfl rfl rfl rfl rfl ?_; clear F a; intro a F
    refine t_endM M ?_; (clear M; try clear w); intro w M
    refine c_t F rfl ?_
    refine wp_seq ?_
    replace F := F.keep [0, 1, 2, 3, 6] rfl
    refine wp_region_l [.wr, .ind] ([0, 1]) rfl ?_
    refine s_cq F M rfl rfl rfl rfl rfl (rfl : _ = some []) cb_57_H7 (fun nd_ => c57 _) ?_; (clear F a M; try clear w); rintro v w rfl M a F
    refine s_I F rfl rfl rfl rfl rfl rfl ?_; clear F a; intro a F
    refine t_endM M ?_; (clear M; try clear w); intro w M
    refine wp_ret ?_
    refine ret1 F rfl rfl ?_
    -- end 0
    exact ⟨_, rfl, rfl, M.chg⟩
  ·
    clear F; intro hc1 F
    try rw [hc1] at F
    replace hc1 := of_decide_eq_false hc1
    refine s_I F rfl rfl rfl rfl rfl rfl ?_; clear F a; intro a F
    refine s_len F rfl rfl rfl rfl sl_69_H7 rfl ?_; clear F a; intro a F
    refine s_bin F rfl rfl rfl rfl rfl rfl rfl ?_; clear F a; intro a F
    refine s_I F rfl rfl rfl rfl rfl rfl ?_; clear F a; intro a F
    refine t_endM M ?_; (clear M; try clear w); intro w M
    refine c_if F rfl ?_ ?_
    ·
      clear F; intro hc2 F
      try rw [hc2] at F
      replace hc2 := of_decide_eq_true hc2
      exfalso
      omega
    ·
      clear F; intro hc3 F
      try rw [hc3] at F
      replace hc3 := of_decide_eq_false hc3
      refine wp_skip ?_
      refine wp_seq ?_
      replace F := F.keep [0, 1, 2, 3, 6] rfl
      refine wp_region_l [.ind, .rd, .ind, .rd, .ind, .rd, .wr, .ind] ([0, 1, 2, 3, 4, 5, 6, 7]) rfl ?_
      refine s_fa0 F rfl rfl rfl rfl fa_86_0_H7 rfl ?_; clear F a; intro a F
      refine s_ld F rfl rfl rfl rfl sc_3_H7 rfl (by exact cell_of_blk M.h0 (lit rfl)) ?_; clear F a; intro a F
      refine s_fa0 F rfl rfl rfl rfl fa_86_1_H7 rfl ?_; clear F a; intro a F
      refine s_ld F rfl rfl rfl rfl sc_3_H7 rfl (by exact cell_of_blk M.h0 (lit rfl)) ?_; clear F a; intro a F
      refine s_fa0 F rfl rfl rfl rfl fa_86_2_H7 rfl ?_; clear F a; intro a F
      refine s_ld F rfl rfl rfl rfl sc_3_H7 rfl (by exact cell_of_blk M.h0 (lit rfl)) ?_; clear F a; intro a F
      refine s_cq F M rfl rfl rfl rfl rfl (rfl : _ = some [_, _, _]) cb_58_H7 (fun nd_ => c58n n t me hk _) ?_; (clear F a M; try clear w); rintro v w rfl M a F
      refine s_I F rfl rfl rfl rfl rfl rfl ?_; clear F a; intro a F
      refine t_endM M ?_; (clear M; try clear w); intro w M
      refine wp_seq ?_
      refine wp_seq ?_
      replace F := F.keep [0, 1, 2, 3, 6, 7] rfl
      refine wp_region_l [.ind, .ind] ([0, 1]) rfl ?_
      refine s_I F rfl rfl rfl rfl rfl rfl ?_; clear F a; intro a F
      refine s_pn F rfl rfl rfl rfl pt_87_H7 rfl ?_; clear F a; intro a F
      replace F : Fr _ _ ((28, Value.bool true) :: _) := F
      refine t_endM M ?_; (clear M; try clear w); intro w M
      refine c_t F rfl ?_
      refine wp_seq ?_
      replace F := F.keep [0, 1, 2, 3, 6, 7] rfl
      refine wp_region_l [.wr, .ind] ([0, 1]) rfl ?_
      refine s_cq F M rfl rfl rfl rfl rfl (rfl : _ = some []) cb_57_H7 (fun nd_ => c57 _) ?_; (clear F a M; try clear w); rintro v w rfl M a F
      refine s_I F rfl rfl rfl rfl rfl rfl ?_; clear F a; intro a F
      refine t_endM M ?_; (clear M; try clear w); intro w M
      refine wp_ret ?_
      refine ret1 F rfl rfl ?_
      -- end 1
      exact ⟨_, rfl, rfl, M.chg⟩
set_option maxRecDepth 100000 in
set_option maxHeartbeats 4000000 in
theorem law16c (n t me : Int) (ws l : List ByteArray) (v1 v2 : Value) (w0 : World) (hr1 : RdSl w0.heap v1 ws.length 1 (ws.flatMap encS)) (hr2 : RdSl w0.heap v2 l.length 1 (l.flatMap encS)) (hf : ws.length ≤ 8 ∧ l.length ≤ 100) (hk : okA n t me 0 tilde = true) : Cl Try.prog 16 #[.agg #[.int .i64 n, .int .i64 t, .int .i64 me], v1, v2] w0 (RetQ w0 fun v => v = .bool true) := by
  have M : Sep (fun _ => False) w0 w0 _ := Sep.nil _ w0
  have hro1 := ro_of hr1
  have hro2 := ro_of hr2
  obtain ⟨A1, d1, rfl, hcc1⟩ := hr1.form
  obtain ⟨A2, d2, rfl, hcc2⟩ := hr2.form
  refine enter (vs := [_, _, _]) Try.func16 rfl rfl rfl ?_
  intro a F
  refine wp_seq ?_
  refine wp_region_l [.wr, .ind] ([0, 1]) rfl ?_
  refine s_bxA F M rfl rfl rfl rfl rfl ?_; (clear F a M; try clear w); intro b3 w M a F
  refine s_I F rfl rfl rfl rfl rfl rfl ?_; clear F a; intro a F
  refine t_endM M ?_; (clear M; try clear w); intro w M
  refine wp_seq ?_
  refine wp_seq ?_
  refine wp_region_l [.ind, .ind, .ind, .ind, .ind, .ind, .ind, .ind] ([0, 1, 2, 3, 4, 5, 6, 7]) rfl ?_
  refine s_I F rfl rfl rfl rfl rfl rfl ?_; clear F a; intro a F
  refine s_len F rfl rfl rfl rfl sl_69_H7 rfl ?_; clear F a; intro a F
  refine s_bin F rfl rfl rfl rfl rfl rfl rfl ?_; clear F a; intro a F
  refine s_I F rfl rfl rfl rfl rfl rfl ?_; clear F a; intro a F
  refine bsplit F 14 rfl ?_ ?_
  ·
    clear F; intro hc0 F
    try rw [hc0] at F
    replace hc0 := of_decide_eq_true hc0
    refine s_no F rfl rfl rfl rfl ?_; clear F a; intro a F
    refine s_no F rfl rfl rfl rfl ?_; clear F a; intro a F
    refine s_no F rfl rfl rfl rfl ?_; clear F a; intro a F
    refine s_I F rfl rfl rfl rfl rfl rfl ?_; clear F a; intro a F
    refine t_endM M ?_; (clear M; try clear w); intro w M
    refine c_t F rfl ?_
    refine wp_seq ?_
    replace F := F.keep [0, 1, 2, 3, 6] rfl
    refine wp_region_l [.wr, .ind] ([0, 1]) rfl ?_
    refine s_cq F M rfl rfl rfl rfl rfl (rfl : _ = some []) cb_57_H7 (fun nd_ => c57 _) ?_; (clear F a M; try clear w); rintro v w rfl M a F
    refine s_I F rfl rfl rfl rfl rfl rfl ?_; clear F a; intro a F
    refine t_endM M ?_; (clear M; try clear w); intro w M
    refine wp_ret ?_
    refine ret1 F rfl rfl ?_
    -- end 0
    exact ⟨_, rfl, rfl, M.chg⟩
  ·
    clear F; intro hc1 F
    try rw [hc1] at F
    replace hc1 := of_decide_eq_false hc1
    refine s_I F rfl rfl rfl rfl rfl rfl ?_; clear F a; intro a F
    refine s_len F rfl rfl rfl rfl sl_69_H7 rfl ?_; clear F a; intro a F
    refine s_bin F rfl rfl rfl rfl rfl rfl rfl ?_; clear F a; intro a F
    refine s_I F rfl rfl rfl rfl rfl rfl ?_; clear F a; intro a F
    refine t_endM M ?_; (clear M; try clear w); intro w M
    refine c_if F rfl ?_ ?_
    ·
      clear F; intro hc2 F
      try rw [hc2] at F
      replace hc2 := of_decide_eq_true hc2
      exfalso
      omega
    ·
      clear F; intro hc3 F
      try rw [hc3] at F
      replace hc3 := of_decide_eq_false hc3
      refine wp_skip ?_
      refine wp_seq ?_
      replace F := F.keep [0, 1, 2, 3, 6] rfl
      refine wp_region_l [.ind, .rd, .ind, .rd, .ind, .rd, .wr, .ind] ([0, 1, 2, 3, 4, 5, 6, 7]) rfl ?_
      refine s_fa0 F rfl rfl rfl rfl fa_86_0_H7 rfl ?_; clear F a; intro a F
      refine s_ld F rfl rfl rfl rfl sc_3_H7 rfl (by exact cell_of_blk M.h0 (lit rfl)) ?_; clear F a; intro a F
      refine s_fa0 F rfl rfl rfl rfl fa_86_1_H7 rfl ?_; clear F a; intro a F
      refine s_ld F rfl rfl rfl rfl sc_3_H7 rfl (by exact cell_of_blk M.h0 (lit rfl)) ?_; clear F a; intro a F
      refine s_fa0 F rfl rfl rfl rfl fa_86_2_H7 rfl ?_; clear F a; intro a F
      refine s_ld F rfl rfl rfl rfl sc_3_H7 rfl (by exact cell_of_blk M.h0 (lit rfl)) ?_; clear F a; intro a F
      refine s_call (m := []) F M rfl rfl rfl rfl rfl (rfl : _ = some [_, _, _]) cb_58_H7 (fun nd_ => c58 n t me hk _) ?_; (clear F a M; try clear w); rintro v γ0 w rfl M a F; (try simp only [List.cons_append, List.nil_append] at M)
      refine s_I F rfl rfl rfl rfl rfl rfl ?_; clear F a; intro a F
      refine t_endM M ?_; (clear M; try clear w); intro w M
      refine wp_seq ?_
      refine wp_seq ?_
      replace F := F.keep [0, 1, 2, 3, 6, 7] rfl
      refine wp_region_l [.ind, .ind] ([0, 1]) rfl ?_
      refine s_I F rfl rfl rfl rfl rfl rfl ?_; clear F a; intro a F
      refine s_pn F rfl rfl rfl rfl pt_87_H7 rfl ?_; clear F a; intro a F
      replace F : Fr _ _ ((28, Value.bool false) :: _) := F
      refine t_endM M ?_; (clear M; try clear w); intro w M
      refine c_f F rfl ?_
      refine wp_skip ?_
      refine wp_seq ?_
      refine wp_seq ?_
      replace F := F.keep [0, 1, 2, 3, 6, 7] rfl
      refine wp_region_l [.ind] ([0]) rfl ?_
      refine s_I F rfl rfl rfl rfl rfl rfl ?_; clear F a; intro a F
      refine t_endM M ?_; (clear M; try clear w); intro w M
      refine wp_block ?_
      have M1 : Sep _ _ _ (chnR _ _ :: _) := M; replace M := M1; clear M1
      refine loopX (X := (Int) × (Gh)) F [0, 1, 2, 3, 6, 7] rfl (fun ((i, γ) : (Int) × (Gh)) => (0 ≤ i) ∧ (i ≤ ws.length) ∧ (γ.b = γ0.b) ∧ ((Chn.wls (ChnM.newC n t me (newA n t me 0 tilde)) (ws.take i.toNat)).Wf)) (fun ((i, γ) : (Int) × (Gh)) => [(8, .int .i64 i)]) (fun ((i, γ) : (Int) × (Gh)) => [chnR γ (Chn.wls (ChnM.newC n t me (newA n t me 0 tilde)) (ws.take i.toNat))]) (fun ((i, γ) : (Int) × (Gh)) => ws.length - i.toNat) ((0), (γ0)) M ⟨(by omega), (by omega), rfl, (newC_wf hk)⟩ (F.keep [8, 0, 1, 2, 3, 6, 7] rfl) ?_
      clear F M; clear a; (try clear w)
      rintro ⟨i, γ⟩ a w ⟨i0, i1, hg, hW⟩ F M; try dsimp only at F M
      try simp only [List.cons_append, List.nil_append] at F M
      try dsimp only at i0 i1 hg hW
      rw [← hg] at F
      refine wp_seq ?_
      refine wp_seq ?_
      refine wp_region_l [.ind, .ind, .ind, .ind] ([0, 1, 2, 3]) rfl ?_
      refine s_I F rfl rfl rfl rfl rfl rfl ?_; clear F a; intro a F
      refine s_I F rfl rfl rfl rfl rfl rfl ?_; clear F a; intro a F
      refine s_len F rfl rfl rfl rfl sl_69_H7 rfl ?_; clear F a; intro a F
      refine s_bin F rfl rfl rfl rfl rfl rfl rfl ?_; clear F a; intro a F
      refine t_endM M ?_; (clear M; try clear w); intro w M
      refine c_if F rfl ?_ ?_
      ·
        clear F; intro hc4 F
        try rw [hc4] at F
        replace hc4 := of_decide_eq_true hc4
        refine wp_skip ?_
        refine wp_seq ?_
        refine wp_block ?_
        replace F := F.keep [0, 1, 2, 3, 6, 7, 8] rfl
        refine wp_region_l [.ind, .ind, .ind, .ind, .rd, .wr] ([0, 1, 2, 3, 4, 5]) rfl ?_
        refine s_I F rfl rfl rfl rfl rfl rfl ?_; clear F a; intro a F
        refine s_I F rfl rfl rfl rfl rfl rfl ?_; clear F a; intro a F
        refine s_I F rfl rfl rfl rfl rfl rfl ?_; clear F a; intro a F
        refine s_ix F rfl rfl rfl rfl sl_69_H7 rfl rfl (by exact M.chg.ro hro1) (by omega) (by omega) ?_; clear F a; intro e39 he39 a F
        refine s_ld F rfl rfl rfl rfl sc_9_H7 rfl (by exact rdX0 (M.chg.ro hro1) (by intro e; rfl) he39 rfl) ?_; clear F a; intro a F
        have M1 : Sep _ _ _ (chnR _ _ :: _) := M; replace M := M1; clear M1
        refine s_call (m := [_]) F M rfl rfl rfl rfl rfl (rfl : _ = some [_, _]) cb_59_H7 (fun nd_ => c59 γ (Chn.wls (ChnM.newC n t me (newA n t me 0 tilde)) (ws.take i.toNat)) hW e39 _ (M.drewN nd_).own.one) ?_; (clear F a M; try clear w); rintro v γ1 w ⟨rfl, hb1⟩ M a F; (try simp only [List.cons_append, List.nil_append] at M)
        refine t_endM M ?_; (clear M; try clear w); intro w M
        replace F := F.keep [0, 1, 2, 3, 6, 7, 8] rfl
        refine wp_region_l [.ind, .ind, .ind] ([0, 1, 2]) rfl ?_
        refine s_I F rfl rfl rfl rfl rfl rfl ?_; clear F a; intro a F
        refine s_add F rfl rfl rfl rfl rfl rfl (by unfold In64; omega) ?_; clear F a; intro a F
        refine s_I F rfl rfl rfl rfl rfl rfl ?_; clear F a; intro a F
        refine t_endM M ?_; (clear M; try clear w); intro w M
        rw [hg] at F
        rw [← wls_next he39, show i.toNat + 1 = (i + 1).toNat by omega] at M
        refine again ((i + 1), (γ1)) (by show _ < _; (try dsimp only); omega) ⟨(by omega), (by assumption), (hb1.trans hg), (by rw [show (i + 1).toNat = i.toNat + 1 by omega, wls_next he39]; exact hW.want e39)⟩ (F.keep [8, 0, 1, 2, 3, 6, 7] rfl) ?_
        try dsimp only [List.cons_append, List.nil_append]
        refine M.pick ?_; repeat (first | exact PkG.nil | refine PkG.cons 0 rfl rfl ?_ | refine PkG.cons 1 rfl rfl ?_)
      ·
        clear F; intro hc5 F
        try rw [hc5] at F
        replace hc5 := of_decide_eq_false hc5
        refine wp_exit ?_
        refine wp_seq ?_
        refine wp_seq ?_
        rw [take_all (by omega)] at hW M
        have hnb : (Chn.wls (ChnM.newC n t me (newA n t me 0 tilde)) ws).begun = false := (wls_same ws _).1
        replace F := F.keep [0, 1, 2, 3, 6, 7, 8] rfl
        refine wp_region_l [.ind, .ind, .wr, .ind] ([0, 1, 2, 3]) rfl ?_
        refine s_I F rfl rfl rfl rfl rfl rfl ?_; clear F a; intro a F
        refine s_I F rfl rfl rfl rfl rfl rfl ?_; clear F a; intro a F
        refine s_cq F M rfl rfl rfl rfl rfl (rfl : _ = some [_, _]) cb_60_H7 (fun nd_ => c60a γ (Chn.wls (ChnM.newC n t me (newA n t me 0 tilde)) ws) hnb _ _ (by exact roF (M.drewN nd_))) ?_; (clear F a M; try clear w); rintro v w rfl M a F
        refine s_bin F rfl rfl rfl rfl rfl rfl rfl ?_; clear F a; intro a F
        replace F : Fr _ _ ((45, Value.bool false) :: _) := F
        refine t_endM M ?_; (clear M; try clear w); intro w M
        refine c_f F rfl ?_
        refine wp_skip ?_
        refine wp_seq ?_
        replace F := F.keep [0, 1, 2, 3, 6, 7, 8] rfl
        refine wp_region_l [.ind, .wr] ([0, 1]) rfl ?_
        refine s_I F rfl rfl rfl rfl rfl rfl ?_; clear F a; intro a F
        have M1 : Sep _ _ _ (chnR _ _ :: _) := M; replace M := M1; clear M1
        refine s_call (m := [_]) F M rfl rfl rfl rfl rfl (rfl : _ = some [_]) cb_61_H7 (fun nd_ => c61 γ (Chn.wls (ChnM.newC n t me (newA n t me 0 tilde)) ws) hW wls_over _ (M.drewN nd_).own.one) ?_; (clear F a M; try clear w); rintro v x w ⟨rfl, hb2⟩ M a F; (try simp only [List.cons_append, List.nil_append] at M)
        obtain ⟨γ2, v2⟩ := x
        dsimp only at M F hb2
        rw [← hb2] at F
        refine t_endM M ?_; (clear M; try clear w); intro w M
        refine wp_seq ?_
        replace F := F.keep [0, 1, 2, 3, 6, 7, 8] rfl
        refine wp_region_l [.ind, .ind, .wr, .ind] ([0, 1, 2, 3]) rfl ?_
        refine s_I F rfl rfl rfl rfl rfl rfl ?_; clear F a; intro a F
        refine s_I F rfl rfl rfl rfl rfl rfl ?_; clear F a; intro a F
        have M1 : Sep _ _ _ (chnR _ _ :: _) := M; replace M := M1; clear M1
        refine s_call (m := [_]) F M rfl rfl rfl rfl rfl (rfl : _ = some [_, _]) cb_60_H7 (fun nd_ => c60 γ2 (Chn.wls (ChnM.newC n t me (newA n t me 0 tilde)) ws).start (hW.start wls_over) (start_same _).2.2 l (by omega) _ _ (M.drewN nd_).own.one (ro_new (M.drewN nd_) hro2)) ?_; (clear F a M; try clear w); rintro v γ3 w ⟨rfl, hb3⟩ M a F; (try simp only [List.cons_append, List.nil_append] at M)
        obtain ⟨q_, hq, C2, hC2, CG⟩ : ∃ q_, (Chn.wls (ChnM.newC n t me (newA n t me 0 tilde)) ws).start.catchN l = q_ ∧ ∃ C2, (Chn.wls (ChnM.newC n t me (newA n t me 0 tilde)) ws).start.decs (l.take ((Chn.wls (ChnM.newC n t me (newA n t me 0 tilde)) ws).start.catchN l)) = C2 ∧ Caught ws l q_ C2 := ⟨_, rfl, _, rfl, caught⟩
        rw [hC2] at M
        rw [hq] at F
        rw [← hb3] at F
        clear hC2 hq
        obtain ⟨hcn, hql, hlog, hwn⟩ := CG
        refine s_I F rfl rfl rfl rfl rfl rfl ?_; clear F a; intro a F
        refine t_endM M ?_; (clear M; try clear w); intro w M
        refine wp_seq ?_
        replace F := F.keep [0, 1, 2, 3, 6, 7, 8, 9] rfl
        refine wp_region_l [.ind] ([0]) rfl ?_
        refine s_I F rfl rfl rfl rfl rfl rfl ?_; clear F a; intro a F
        refine t_endM M ?_; (clear M; try clear w); intro w M
        refine wp_seq ?_
        refine wp_block ?_
        refine loopX (X := (Int)) F [0, 1, 2, 3, 6, 7, 8, 9] rfl (fun (j : Int) => (0 ≤ j) ∧ (j ≤ l.length) ∧ (q_ = j.toNat + cntH j.toNat (l.drop j.toNat))) (fun (j : Int) => [(10, .int .i64 j)]) (fun (j : Int) => []) (fun (j : Int) => l.length - j.toNat) (0) M ⟨(by omega), (by omega), (by rw [Int.toNat_zero]; exact hcn)⟩ (F.keep [10, 0, 1, 2, 3, 6, 7, 8, 9] rfl) ?_
        clear F M; clear a; (try clear w)
        rintro j a w ⟨j0, j1, hcj⟩ F M; try dsimp only at F M
        try simp only [List.cons_append, List.nil_append] at F M
        try dsimp only at j0 j1 hcj
        refine wp_seq ?_
        refine wp_seq ?_
        refine wp_region_l [.ind, .ind, .ind, .ind, .ind, .ind, .ind, .ind, .ind, .ind, .ind, .ind, .rd, .ind, .ind, .ind, .ind, .ind, .ind, .rd, .ind, .ind, .ind] ([0, 1, 2, 3, 4, 5, 6, 7, 8, 9, 10, 11, 12, 13, 14, 15, 16, 17, 18, 19, 20, 21, 22]) rfl ?_
        refine s_I F rfl rfl rfl rfl rfl rfl ?_; clear F a; intro a F
        refine s_I F rfl rfl rfl rfl rfl rfl ?_; clear F a; intro a F
        refine s_len F rfl rfl rfl rfl sl_69_H7 rfl ?_; clear F a; intro a F
        refine s_bin F rfl rfl rfl rfl rfl rfl rfl ?_; clear F a; intro a F
        refine s_I F rfl rfl rfl rfl rfl rfl ?_; clear F a; intro a F
        refine bsplit F 55 rfl ?_ ?_
        ·
          clear F; intro hc6 F
          try rw [hc6] at F
          replace hc6 := of_decide_eq_true hc6
          refine s_I F rfl rfl rfl rfl rfl rfl ?_; clear F a; intro a F
          refine s_bin F rfl rfl rfl rfl rfl rfl rfl ?_; clear F a; intro a F
          refine s_I F rfl rfl rfl rfl rfl rfl ?_; clear F a; intro a F
          refine s_I F rfl rfl rfl rfl rfl rfl ?_; clear F a; intro a F
          refine bsplit F 59 rfl ?_ ?_
          ·
            clear F; intro hc7 F
            try rw [hc7] at F
            replace hc7 := of_decide_eq_true hc7
            refine s_I F rfl rfl rfl rfl rfl rfl ?_; clear F a; intro a F
            refine s_I F rfl rfl rfl rfl rfl rfl ?_; clear F a; intro a F
            refine s_ix F rfl rfl rfl rfl sl_69_H7 rfl rfl (by exact M.chg.ro hro2) (by omega) (by omega) ?_; clear F a; intro e62 he62 a F
            refine s_ld F rfl rfl rfl rfl sc_9_H7 rfl (by exact rdX0 (M.chg.ro hro2) (by intro e; rfl) he62 rfl) ?_; clear F a; intro a F
            refine s_bin F rfl rfl rfl rfl rfl rfl rfl ?_; clear F a; intro a F
            refine s_I F rfl rfl rfl rfl rfl rfl ?_; clear F a; intro a F
            refine s_I F rfl rfl rfl rfl rfl rfl ?_; clear F a; intro a F
            refine bsplit F 66 rfl ?_ ?_
            ·
              clear F; intro hc8 F
              try rw [hc8] at F
              replace hc8 := nd1 hc8
              refine s_I F rfl rfl rfl rfl rfl rfl ?_; clear F a; intro a F
              refine s_I F rfl rfl rfl rfl rfl rfl ?_; clear F a; intro a F
              refine s_ix F rfl rfl rfl rfl sl_69_H7 rfl rfl (by exact M.chg.ro hro2) (by omega) (by omega) ?_; clear F a; intro e69 he69 a F
              try (obtain rfl := Option.some.inj (he62.symm.trans he69))
              refine s_ld F rfl rfl rfl rfl sc_9_H7 rfl (by exact rdX0 (M.chg.ro hro2) (by intro e; rfl) he69 rfl) ?_; clear F a; intro a F
              refine s_lenS F rfl rfl rfl rfl st_9_H7 rfl ?_; clear F a; intro a F
              refine s_bin F rfl rfl rfl rfl rfl rfl rfl ?_; clear F a; intro a F
              refine s_I F rfl rfl rfl rfl rfl rfl ?_; clear F a; intro a F
              refine t_endM M ?_; (clear M; try clear w); intro w M
              refine c_if F rfl ?_ ?_
              ·
                clear F; intro hc9 F
                try rw [hc9] at F
                replace hc9 := of_decide_eq_true hc9
                refine wp_skip ?_
                refine wp_block ?_
                replace F := F.keep [0, 1, 2, 3, 6, 7, 8, 9, 10] rfl
                refine wp_region_l [.ind, .ind, .ind] ([0, 1, 2]) rfl ?_
                refine s_I F rfl rfl rfl rfl rfl rfl ?_; clear F a; intro a F
                refine s_add F rfl rfl rfl rfl rfl rfl (by unfold In64; omega) ?_; clear F a; intro a F
                refine s_I F rfl rfl rfl rfl rfl rfl ?_; clear F a; intro a F
                refine t_endM M ?_; (clear M; try clear w); intro w M
                refine again (j + 1) (by show _ < _; (try dsimp only); omega) ⟨(by omega), (by assumption), (by rw [drop_at (by assumption), cnt_on (may_yes (by assumption) (by omega)) (by omega)] at hcj; rw [show (j + 1).toNat = j.toNat + 1 by omega]; omega)⟩ (F.keep [10, 0, 1, 2, 3, 6, 7, 8, 9] rfl) ?_
                try dsimp only [List.cons_append, List.nil_append]
                refine M.pick ?_; repeat (first | exact PkG.nil | refine PkG.cons 0 rfl rfl ?_ | refine PkG.cons 1 rfl rfl ?_ | refine PkG.cons 2 rfl rfl ?_)
              ·
                clear F; intro hc10 F
                try rw [hc10] at F
                replace hc10 := of_decide_eq_false hc10
                refine wp_exit ?_
                refine wp_seq ?_
                have hnj : q_ = j.toNat := cnt_at hcj (by exact .inr (.inr ⟨_, by assumption, may_no (by exact .inr (by omega))⟩))
                obtain rfl : j = (q_ : Int) := by omega
                replace F := F.keep [0, 1, 2, 3, 6, 7, 8, 9, 10] rfl
                refine wp_region_t [.ind, .ind, .ind, .ind, .ind, .wr, .ind, .ind, .ind, .wr, .ind, .ind, .ind, .wr, .ind, .ind, .ind, .ind, .ind, .wr, .ind, .ind, .ind, .ind, .ind, .wr, .ind, .ind] [] (otOf [0, 1, 2, 3, 4, 6, 7, 8, 5, 9, 10, 11, 12, 14, 13, 15, 16, 17, 18, 20, 21, 19, 22, 23, 24, 25, 26, 27]) mixed (by kernel_rfl) ?_
                refine s_I F rfl rfl rfl rfl rfl rfl ?_; clear F a; intro a F
                refine s_I F rfl rfl rfl rfl rfl rfl ?_; clear F a; intro a F
                refine s_bin F rfl rfl rfl rfl rfl rfl rfl ?_; clear F a; intro a F
                rw [decide_eq_true (rfl : (q_ : Int) = q_)] at F
                refine s_I F rfl rfl rfl rfl rfl rfl ?_; clear F a; intro a F
                replace F : Fr _ _ ((79, Value.bool true) :: _) := F
                refine s_I F rfl rfl rfl rfl rfl rfl ?_; clear F a; intro a F
                refine s_I F rfl rfl rfl rfl rfl rfl ?_; clear F a; intro a F
                refine s_I F rfl rfl rfl rfl rfl rfl ?_; clear F a; intro a F
                refine s_slc F rfl rfl rfl rfl sl_69_H7 rfl rfl rfl (by exact M.chg.ro hro2) (by omega) (by omega) (by omega) ?_; clear F a; intro a F
                refine s_call (m := []) F M rfl rfl rfl rfl rfl (rfl : _ = some [_]) cb_63_H7 (fun nd_ => c63 γ3 C2 (by rw [hlog, List.length_take]; omega) _ (by exact roF (M.drewN nd_))) ?_; (clear F a M; try clear w); rintro v x1 w rfl M a F; (try simp only [List.cons_append, List.nil_append] at M)
                refine s_cq F M rfl rfl rfl rfl rfl (rfl : _ = some [_, _]) cb_62_H7 (fun nd_ => c62 C2.log (l.take (q_ : Int).toNat) (by rw [hlog, List.length_take]; omega) _ _ _ (by exact SlOk.rd M.h0) (RdSl.pre (M.chg.ro hro2) (by intro e; rfl) _ (by omega))) ?_; (clear F a M; try clear w); rintro v w rfl M a F
                rw [decide_eq_true (by rw [Int.toNat_natCast]; exact hlog)] at F
                refine s_I F rfl rfl rfl rfl rfl rfl ?_; clear F a; intro a F
                replace F : Fr _ _ ((86, Value.bool true) :: _) := F
                refine s_I F rfl rfl rfl rfl rfl rfl ?_; clear F a; intro a F
                refine s_I F rfl rfl rfl rfl rfl rfl ?_; clear F a; intro a F
                refine s_I F rfl rfl rfl rfl rfl rfl ?_; clear F a; intro a F
                refine s_cq F M rfl rfl rfl rfl rfl (rfl : _ = some [_]) cb_64_H7 (fun nd_ => c64 γ3 C2 _ (by exact roF (M.drewN nd_).f1)) ?_; (clear F a M; try clear w); rintro v w rfl M a F
                rw [show (C2.log.length : Int) = q_ by rw [hlog, List.length_take]; omega] at F
                refine s_bin F rfl rfl rfl rfl rfl rfl rfl ?_; clear F a; intro a F
                rw [decide_eq_true (rfl : (q_ : Int) = q_)] at F
                refine s_I F rfl rfl rfl rfl rfl rfl ?_; clear F a; intro a F
                replace F : Fr _ _ ((92, Value.bool true) :: _) := F
                refine s_I F rfl rfl rfl rfl rfl rfl ?_; clear F a; intro a F
                refine s_I F rfl rfl rfl rfl rfl rfl ?_; clear F a; intro a F
                refine s_I F rfl rfl rfl rfl rfl rfl ?_; clear F a; intro a F
                refine s_len F rfl rfl rfl rfl sl_69_H7 rfl ?_; clear F a; intro a F
                refine s_cq F M rfl rfl rfl rfl rfl (rfl : _ = some [_]) cb_65_H7 (fun nd_ => c65 γ3 C2 _ (by exact roF (M.drewN nd_).f1)) ?_; (clear F a M; try clear w); rintro v w rfl M a F
                refine s_bin F rfl rfl rfl rfl rfl rfl rfl ?_; clear F a; intro a F
                rw [decide_eq_true (show (C2.wants.length : Int) ≤ ws.length by omega)] at F
                refine s_I F rfl rfl rfl rfl rfl rfl ?_; clear F a; intro a F
                replace F : Fr _ _ ((99, Value.bool true) :: _) := F
                refine s_I F rfl rfl rfl rfl rfl rfl ?_; clear F a; intro a F
                refine s_cq F M rfl rfl rfl rfl rfl (rfl : _ = some []) cb_57_H7 (fun nd_ => c57 _) ?_; (clear F a M; try clear w); rintro v w rfl M a F
                refine s_I F rfl rfl rfl rfl rfl rfl ?_; clear F a; intro a F
                refine s_I F rfl rfl rfl rfl rfl rfl ?_; clear F a; intro a F
                refine t_endM M ?_; (clear M; try clear w); intro w M
                refine wp_ret ?_
                refine ret1 F rfl rfl ?_
                -- end 1
                exact ⟨_, rfl, rfl, M.chg⟩
            ·
              clear F; intro hc11 F
              try rw [hc11] at F
              replace hc11 := nd0 hc11
              refine s_no F rfl rfl rfl rfl ?_; clear F a; intro a F
              refine s_no F rfl rfl rfl rfl ?_; clear F a; intro a F
              refine s_no F rfl rfl rfl rfl ?_; clear F a; intro a F
              refine s_no F rfl rfl rfl rfl ?_; clear F a; intro a F
              refine s_no F rfl rfl rfl rfl ?_; clear F a; intro a F
              refine s_no F rfl rfl rfl rfl ?_; clear F a; intro a F
              refine s_I F rfl rfl rfl rfl rfl rfl ?_; clear F a; intro a F
              refine t_endM M ?_; (clear M; try clear w); intro w M
              refine c_f F rfl ?_
              refine wp_exit ?_
              refine wp_seq ?_
              have hnj : q_ = j.toNat := cnt_at hcj (by exact .inr (.inr ⟨_, by assumption, may_no (by exact .inl (by assumption))⟩))
              obtain rfl : j = (q_ : Int) := by omega
              replace F := F.keep [0, 1, 2, 3, 6, 7, 8, 9, 10] rfl
              refine wp_region_t [.ind, .ind, .ind, .ind, .ind, .wr, .ind, .ind, .ind, .wr, .ind, .ind, .ind, .wr, .ind, .ind, .ind, .ind, .ind, .wr, .ind, .ind, .ind, .ind, .ind, .wr, .ind, .ind] [] (otOf [0, 1, 2, 3, 4, 6, 7, 8, 5, 9, 10, 11, 12, 14, 13, 15, 16, 17, 18, 20, 21, 19, 22, 23, 24, 25, 26, 27]) mixed (by kernel_rfl) ?_
              refine s_I F rfl rfl rfl rfl rfl rfl ?_; clear F a; intro a F
              refine s_I F rfl rfl rfl rfl rfl rfl ?_; clear F a; intro a F
              refine s_bin F rfl rfl rfl rfl rfl rfl rfl ?_; clear F a; intro a F
              rw [decide_eq_true (rfl : (q_ : Int) = q_)] at F
              refine s_I F rfl rfl rfl rfl rfl rfl ?_; clear F a; intro a F
              replace F : Fr _ _ ((79, Value.bool true) :: _) := F
              refine s_I F rfl rfl rfl rfl rfl rfl ?_; clear F a; intro a F
              refine s_I F rfl rfl rfl rfl rfl rfl ?_; clear F a; intro a F
              refine s_I F rfl rfl rfl rfl rfl rfl ?_; clear F a; intro a F
              refine s_slc F rfl rfl rfl rfl sl_69_H7 rfl rfl rfl (by exact M.chg.ro hro2) (by omega) (by omega) (by omega) ?_; clear F a; intro a F
              refine s_call (m := []) F M rfl rfl rfl rfl rfl (rfl : _ = some [_]) cb_63_H7 (fun nd_ => c63 γ3 C2 (by rw [hlog, List.length_take]; omega) _ (by exact roF (M.drewN nd_))) ?_; (clear F a M; try clear w); rintro v x1 w rfl M a F; (try simp only [List.cons_append, List.nil_append] at M)
              refine s_cq F M rfl rfl rfl rfl rfl (rfl : _ = some [_, _]) cb_62_H7 (fun nd_ => c62 C2.log (l.take (q_ : Int).toNat) (by rw [hlog, List.length_take]; omega) _ _ _ (by exact SlOk.rd M.h0) (RdSl.pre (M.chg.ro hro2) (by intro e; rfl) _ (by omega))) ?_; (clear F a M; try clear w); rintro v w rfl M a F
              rw [decide_eq_true (by rw [Int.toNat_natCast]; exact hlog)] at F
              refine s_I F rfl rfl rfl rfl rfl rfl ?_; clear F a; intro a F
              replace F : Fr _ _ ((86, Value.bool true) :: _) := F
              refine s_I F rfl rfl rfl rfl rfl rfl ?_; clear F a; intro a F
              refine s_I F rfl rfl rfl rfl rfl rfl ?_; clear F a; intro a F
              refine s_I F rfl rfl rfl rfl rfl rfl ?_; clear F a; intro a F
              refine s_cq F M rfl rfl rfl rfl rfl (rfl : _ = some [_]) cb_64_H7 (fun nd_ => c64 γ3 C2 _ (by exact roF (M.drewN nd_).f1)) ?_; (clear F a M; try clear w); rintro v w rfl M a F
              rw [show (C2.log.length : Int) = q_ by rw [hlog, List.length_take]; omega] at F
              refine s_bin F rfl rfl rfl rfl rfl rfl rfl ?_; clear F a; intro a F
              rw [decide_eq_true (rfl : (q_ : Int) = q_)] at F
              refine s_I F rfl rfl rfl rfl rfl rfl ?_; clear F a; intro a F
              replace F : Fr _ _ ((92, Value.bool true) :: _) := F
              refine s_I F rfl rfl rfl rfl rfl rfl ?_; clear F a; intro a F
              refine s_I F rfl rfl rfl rfl rfl rfl ?_; clear F a; intro a F
              refine s_I F rfl rfl rfl rfl rfl rfl ?_; clear F a; intro a F
              refine s_len F rfl rfl rfl rfl sl_69_H7 rfl ?_; clear F a; intro a F
              refine s_cq F M rfl rfl rfl rfl rfl (rfl : _ = some [_]) cb_65_H7 (fun nd_ => c65 γ3 C2 _ (by exact roF (M.drewN nd_).f1)) ?_; (clear F a M; try clear w); rintro v w rfl M a F
              refine s_bin F rfl rfl rfl rfl rfl rfl rfl ?_; clear F a; intro a F
              rw [decide_eq_true (show (C2.wants.length : Int) ≤ ws.length by omega)] at F
              refine s_I F rfl rfl rfl rfl rfl rfl ?_; clear F a; intro a F
              replace F : Fr _ _ ((99, Value.bool true) :: _) := F
              refine s_I F rfl rfl rfl rfl rfl rfl ?_; clear F a; intro a F
              refine s_cq F M rfl rfl rfl rfl rfl (rfl : _ = some []) cb_57_H7 (fun nd_ => c57 _) ?_; (clear F a M; try clear w); rintro v w rfl M a F
              refine s_I F rfl rfl rfl rfl rfl rfl ?_; clear F a; intro a F
              refine s_I F rfl rfl rfl rfl rfl rfl ?_; clear F a; intro a F
              refine t_endM M ?_; (clear M; try clear w); intro w M
              refine wp_ret ?_
              refine ret1 F rfl rfl ?_
              -- end 2
              exact ⟨_, rfl, rfl, M.chg⟩
          ·
            clear F; intro hc12 F
            try rw [hc12] at F
            replace hc12 := of_decide_eq_false hc12
            refine s_no F rfl rfl rfl rfl ?_; clear F a; intro a F
            refine s_no F rfl rfl rfl rfl ?_; clear F a; intro a F
            refine s_no F rfl rfl rfl rfl ?_; clear F a; intro a F
            refine s_no F rfl rfl rfl rfl ?_; clear F a; intro a F
            refine s_no F rfl rfl rfl rfl ?_; clear F a; intro a F
            refine s_I F rfl rfl rfl rfl rfl rfl ?_; clear F a; intro a F
            refine s_I F rfl rfl rfl rfl rfl rfl ?_; clear F a; intro a F
            refine s_no F rfl rfl rfl rfl ?_; clear F a; intro a F
            refine s_no F rfl rfl rfl rfl ?_; clear F a; intro a F
            refine s_no F rfl rfl rfl rfl ?_; clear F a; intro a F
            refine s_no F rfl rfl rfl rfl ?_; clear F a; intro a F
            refine s_no F rfl rfl rfl rfl ?_; clear F a; intro a F
            refine s_no F rfl rfl rfl rfl ?_; clear F a; intro a F
            refine s_I F rfl rfl rfl rfl rfl rfl ?_; clear F a; intro a F
            refine t_endM M ?_; (clear M; try clear w); intro w M
            refine c_f F rfl ?_
            refine wp_exit ?_
            refine wp_seq ?_
            have hnj : q_ = j.toNat := cnt_at hcj (by exact .inr (.inl (by omega)))
            obtain rfl : j = (q_ : Int) := by omega
            replace F := F.keep [0, 1, 2, 3, 6, 7, 8, 9, 10] rfl
            refine wp_region_t [.ind, .ind, .ind, .ind, .ind, .wr, .ind, .ind, .ind, .wr, .ind, .ind, .ind, .wr, .ind, .ind, .ind, .ind, .ind, .wr, .ind, .ind, .ind, .ind, .ind, .wr, .ind, .ind] [] (otOf [0, 1, 2, 3, 4, 6, 7, 8, 5, 9, 10, 11, 12, 14, 13, 15, 16, 17, 18, 20, 21, 19, 22, 23, 24, 25, 26, 27]) mixed (by kernel_rfl) ?_
            refine s_I F rfl rfl rfl rfl rfl rfl ?_; clear F a; intro a F
            refine s_I F rfl rfl rfl rfl rfl rfl ?_; clear F a; intro a F
            refine s_bin F rfl rfl rfl rfl rfl rfl rfl ?_; clear F a; intro a F
            rw [decide_eq_true (rfl : (q_ : Int) = q_)] at F
            refine s_I F rfl rfl rfl rfl rfl rfl ?_; clear F a; intro a F
            replace F : Fr _ _ ((79, Value.bool true) :: _) := F
            refine s_I F rfl rfl rfl rfl rfl rfl ?_; clear F a; intro a F
            refine s_I F rfl rfl rfl rfl rfl rfl ?_; clear F a; intro a F
            refine s_I F rfl rfl rfl rfl rfl rfl ?_; clear F a; intro a F
            refine s_slc F rfl rfl rfl rfl sl_69_H7 rfl rfl rfl (by exact M.chg.ro hro2) (by omega) (by omega) (by omega) ?_; clear F a; intro a F
            refine s_call (m := []) F M rfl rfl rfl rfl rfl (rfl : _ = some [_]) cb_63_H7 (fun nd_ => c63 γ3 C2 (by rw [hlog, List.length_take]; omega) _ (by exact roF (M.drewN nd_))) ?_; (clear F a M; try clear w); rintro v x1 w rfl M a F; (try simp only [List.cons_append, List.nil_append] at M)
            refine s_cq F M rfl rfl rfl rfl rfl (rfl : _ = some [_, _]) cb_62_H7 (fun nd_ => c62 C2.log (l.take (q_ : Int).toNat) (by rw [hlog, List.length_take]; omega) _ _ _ (by exact SlOk.rd M.h0) (RdSl.pre (M.chg.ro hro2) (by intro e; rfl) _ (by omega))) ?_; (clear F a M; try clear w); rintro v w rfl M a F
            rw [decide_eq_true (by rw [Int.toNat_natCast]; exact hlog)] at F
            refine s_I F rfl rfl rfl rfl rfl rfl ?_; clear F a; intro a F
            replace F : Fr _ _ ((86, Value.bool true) :: _) := F
            refine s_I F rfl rfl rfl rfl rfl rfl ?_; clear F a; intro a F
            refine s_I F rfl rfl rfl rfl rfl rfl ?_; clear F a; intro a F
            refine s_I F rfl rfl rfl rfl rfl rfl ?_; clear F a; intro a F
            refine s_cq F M rfl rfl rfl rfl rfl (rfl : _ = some [_]) cb_64_H7 (fun nd_ => c64 γ3 C2 _ (by exact roF (M.drewN nd_).f1)) ?_; (clear F a M; try clear w); rintro v w rfl M a F
            rw [show (C2.log.length : Int) = q_ by rw [hlog, List.length_take]; omega] at F
            refine s_bin F rfl rfl rfl rfl rfl rfl rfl ?_; clear F a; intro a F
            rw [decide_eq_true (rfl : (q_ : Int) = q_)] at F
            refine s_I F rfl rfl rfl rfl rfl rfl ?_; clear F a; intro a F
            replace F : Fr _ _ ((92, Value.bool true) :: _) := F
            refine s_I F rfl rfl rfl rfl rfl rfl ?_; clear F a; intro a F
            refine s_I F rfl rfl rfl rfl rfl rfl ?_; clear F a; intro a F
            refine s_I F rfl rfl rfl rfl rfl rfl ?_; clear F a; intro a F
            refine s_len F rfl rfl rfl rfl sl_69_H7 rfl ?_; clear F a; intro a F
            refine s_cq F M rfl rfl rfl rfl rfl (rfl : _ = some [_]) cb_65_H7 (fun nd_ => c65 γ3 C2 _ (by exact roF (M.drewN nd_).f1)) ?_; (clear F a M; try clear w); rintro v w rfl M a F
            refine s_bin F rfl rfl rfl rfl rfl rfl rfl ?_; clear F a; intro a F
            rw [decide_eq_true (show (C2.wants.length : Int) ≤ ws.length by omega)] at F
            refine s_I F rfl rfl rfl rfl rfl rfl ?_; clear F a; intro a F
            replace F : Fr _ _ ((99, Value.bool true) :: _) := F
            refine s_I F rfl rfl rfl rfl rfl rfl ?_; clear F a; intro a F
            refine s_cq F M rfl rfl rfl rfl rfl (rfl : _ = some []) cb_57_H7 (fun nd_ => c57 _) ?_; (clear F a M; try clear w); rintro v w rfl M a F
            refine s_I F rfl rfl rfl rfl rfl rfl ?_; clear F a; intro a F
            refine s_I F rfl rfl rfl rfl rfl rfl ?_; clear F a; intro a F
            refine t_endM M ?_; (clear M; try clear w); intro w M
            refine wp_ret ?_
            refine ret1 F rfl rfl ?_
            -- end 3
            exact ⟨_, rfl, rfl, M.chg⟩
        ·
          clear F; intro hc13 F
          try rw [hc13] at F
          replace hc13 := of_decide_eq_false hc13
          refine s_no F rfl rfl rfl rfl ?_; clear F a; intro a F
          refine s_no F rfl rfl rfl rfl ?_; clear F a; intro a F
          refine s_I F rfl rfl rfl rfl rfl rfl ?_; clear F a; intro a F
          refine s_I F rfl rfl rfl rfl rfl rfl ?_; clear F a; intro a F
          refine s_no F rfl rfl rfl rfl ?_; clear F a; intro a F
          refine s_no F rfl rfl rfl rfl ?_; clear F a; intro a F
          refine s_no F rfl rfl rfl rfl ?_; clear F a; intro a F
          refine s_no F rfl rfl rfl rfl ?_; clear F a; intro a F
          refine s_no F rfl rfl rfl rfl ?_; clear F a; intro a F
          refine s_I F rfl rfl rfl rfl rfl rfl ?_; clear F a; intro a F
          refine s_I F rfl rfl rfl rfl rfl rfl ?_; clear F a; intro a F
          refine s_no F rfl rfl rfl rfl ?_; clear F a; intro a F
          refine s_no F rfl rfl rfl rfl ?_; clear F a; intro a F
          refine s_no F rfl rfl rfl rfl ?_; clear F a; intro a F
          refine s_no F rfl rfl rfl rfl ?_; clear F a; intro a F
          refine s_no F rfl rfl rfl rfl ?_; clear F a; intro a F
          refine s_no F rfl rfl rfl rfl ?_; clear F a; intro a F
          refine s_I F rfl rfl rfl rfl rfl rfl ?_; clear F a; intro a F
          refine t_endM M ?_; (clear M; try clear w); intro w M
          refine c_f F rfl ?_
          refine wp_exit ?_
          refine wp_seq ?_
          have hnj : q_ = j.toNat := cnt_at hcj (by exact .inl (by omega))
          obtain rfl : j = (q_ : Int) := by omega
          replace F := F.keep [0, 1, 2, 3, 6, 7, 8, 9, 10] rfl
          refine wp_region_t [.ind, .ind, .ind, .ind, .ind, .wr, .ind, .ind, .ind, .wr, .ind, .ind, .ind, .wr, .ind, .ind, .ind, .ind, .ind, .wr, .ind, .ind, .ind, .ind, .ind, .wr, .ind, .ind] [] (otOf [0, 1, 2, 3, 4, 6, 7, 8, 5, 9, 10, 11, 12, 14, 13, 15, 16, 17, 18, 20, 21, 19, 22, 23, 24, 25, 26, 27]) mixed (by kernel_rfl) ?_
          refine s_I F rfl rfl rfl rfl rfl rfl ?_; clear F a; intro a F
          refine s_I F rfl rfl rfl rfl rfl rfl ?_; clear F a; intro a F
          refine s_bin F rfl rfl rfl rfl rfl rfl rfl ?_; clear F a; intro a F
          rw [decide_eq_true (rfl : (q_ : Int) = q_)] at F
          refine s_I F rfl rfl rfl rfl rfl rfl ?_; clear F a; intro a F
          replace F : Fr _ _ ((79, Value.bool true) :: _) := F
          refine s_I F rfl rfl rfl rfl rfl rfl ?_; clear F a; intro a F
          refine s_I F rfl rfl rfl rfl rfl rfl ?_; clear F a; intro a F
          refine s_I F rfl rfl rfl rfl rfl rfl ?_; clear F a; intro a F
          refine s_slc F rfl rfl rfl rfl sl_69_H7 rfl rfl rfl (by exact M.chg.ro hro2) (by omega) (by omega) (by omega) ?_; clear F a; intro a F
          refine s_call (m := []) F M rfl rfl rfl rfl rfl (rfl : _ = some [_]) cb_63_H7 (fun nd_ => c63 γ3 C2 (by rw [hlog, List.length_take]; omega) _ (by exact roF (M.drewN nd_))) ?_; (clear F a M; try clear w); rintro v x1 w rfl M a F; (try simp only [List.cons_append, List.nil_append] at M)
          refine s_cq F M rfl rfl rfl rfl rfl (rfl : _ = some [_, _]) cb_62_H7 (fun nd_ => c62 C2.log (l.take (q_ : Int).toNat) (by rw [hlog, List.length_take]; omega) _ _ _ (by exact SlOk.rd M.h0) (RdSl.pre (M.chg.ro hro2) (by intro e; rfl) _ (by omega))) ?_; (clear F a M; try clear w); rintro v w rfl M a F
          rw [decide_eq_true (by rw [Int.toNat_natCast]; exact hlog)] at F
          refine s_I F rfl rfl rfl rfl rfl rfl ?_; clear F a; intro a F
          replace F : Fr _ _ ((86, Value.bool true) :: _) := F
          refine s_I F rfl rfl rfl rfl rfl rfl ?_; clear F a; intro a F
          refine s_I F rfl rfl rfl rfl rfl rfl ?_; clear F a; intro a F
          refine s_I F rfl rfl rfl rfl rfl rfl ?_; clear F a; intro a F
          refine s_cq F M rfl rfl rfl rfl rfl (rfl : _ = some [_]) cb_64_H7 (fun nd_ => c64 γ3 C2 _ (by exact roF (M.drewN nd_).f1)) ?_; (clear F a M; try clear w); rintro v w rfl M a F
          rw [show (C2.log.length : Int) = q_ by rw [hlog, List.length_take]; omega] at F
          refine s_bin F rfl rfl rfl rfl rfl rfl rfl ?_; clear F a; intro a F
          rw [decide_eq_true (rfl : (q_ : Int) = q_)] at F
          refine s_I F rfl rfl rfl rfl rfl rfl ?_; clear F a; intro a F
          replace F : Fr _ _ ((92, Value.bool true) :: _) := F
          refine s_I F rfl rfl rfl rfl rfl rfl ?_; clear F a; intro a F
          refine s_I F rfl rfl rfl rfl rfl rfl ?_; clear F a; intro a F
          refine s_I F rfl rfl rfl rfl rfl rfl ?_; clear F a; intro a F
          refine s_len F rfl rfl rfl rfl sl_69_H7 rfl ?_; clear F a; intro a F
          refine s_cq F M rfl rfl rfl rfl rfl (rfl : _ = some [_]) cb_65_H7 (fun nd_ => c65 γ3 C2 _ (by exact roF (M.drewN nd_).f1)) ?_; (clear F a M; try clear w); rintro v w rfl M a F
          refine s_bin F rfl rfl rfl rfl rfl rfl rfl ?_; clear F a; intro a F
          rw [decide_eq_true (show (C2.wants.length : Int) ≤ ws.length by omega)] at F
          refine s_I F rfl rfl rfl rfl rfl rfl ?_; clear F a; intro a F
          replace F : Fr _ _ ((99, Value.bool true) :: _) := F
          refine s_I F rfl rfl rfl rfl rfl rfl ?_; clear F a; intro a F
          refine s_cq F M rfl rfl rfl rfl rfl (rfl : _ = some []) cb_57_H7 (fun nd_ => c57 _) ?_; (clear F a M; try clear w); rintro v w rfl M a F
          refine s_I F rfl rfl rfl rfl rfl rfl ?_; clear F a; intro a F
          refine s_I F rfl rfl rfl rfl rfl rfl ?_; clear F a; intro a F
          refine t_endM M ?_; (clear M; try clear w); intro w M
          refine wp_ret ?_
          refine ret1 F rfl rfl ?_
          -- end 4
          exact ⟨_, rfl, rfl, M.chg⟩
theorem law16 (n t me : Int) (ws l : List ByteArray) (v1 v2 : Value) (w0 : World) (hr1 : RdSl w0.heap v1 ws.length 1 (ws.flatMap encS)) (hr2 : RdSl w0.heap v2 l.length 1 (l.flatMap encS)) : Cl Try.prog 16 #[.agg #[.int .i64 n, .int .i64 t, .int .i64 me], v1, v2] w0 (RetQ w0 fun v => v = .bool true) := by
  by_cases hf : ws.length ≤ 8 ∧ l.length ≤ 100
  · cases hk : okA n t me 0 tilde
    · exact law16b n t me ws l v1 v2 w0 hr1 hr2 hf hk
    · exact law16c n t me ws l v1 v2 w0 hr1 hr2 hf hk
  · exact law16a n t me ws l v1 v2 w0 hr1 hr2 (by omega)
end Go.Proofs.Ytboibdmflblphaa
