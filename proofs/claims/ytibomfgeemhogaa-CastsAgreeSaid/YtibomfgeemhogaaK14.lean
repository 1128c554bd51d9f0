/- K14 of the seat. -/
import Derived.Test.YtibomfgeemhogaaK13
namespace Go.Proofs.Ytibomfgeemhogaa
open Go Fw
theorem fa_79_0_K14 : FA Try.prog 79 0 0 := fun _ _ _ => by kernel_rfl
theorem sc_3_K14 : scalB Try.prog 3 = true := by kernel_rfl
theorem fa_79_1_K14 : FA Try.prog 79 1 1 := fun _ _ _ => by kernel_rfl
theorem cb_13_K14 : callB Try.prog 13 = true := by kernel_rfl
theorem cb_24_K14 : callB Try.prog 24 = true := by kernel_rfl
theorem sl_61_K14 : slcB Try.prog 61 = some (9, 1) := by kernel_rfl
theorem sl_80_K14 : slcB Try.prog 80 = some (85, 6) := by kernel_rfl
theorem cb_25_K14 : callB Try.prog 25 = true := by kernel_rfl
theorem bs_81_1_K14 : ∀ (x0 : Option Addr), News Try.prog (Instr.buildSlice 81 1 #[(0, .pointer x0)]) (.cells #[.pointer x0] 58) fun b => .slice (some ⟨b, 0, none⟩) 1 1 := by intros; intro w; kernel_rfl
theorem tl_81_K14 : SlT Try.prog 81 58 1 8 (.pointer none) := ⟨by kernel_rfl, by kernel_rfl, by kernel_rfl, by kernel_rfl, by decide⟩
theorem sc_9_K14 : scalB Try.prog 9 = true := by kernel_rfl
theorem st_9_K14 : strB Try.prog 9 = true := by kernel_rfl
theorem bl_38_0_2_K14 : ∀ (x0 : Int) (x2 : ByteArray), ∀ w : World, (Instr.build 38 #[(0, .int .i64 x0), (2, .string x2)]).run Try.prog w = .ok (.agg #[.int .i64 x0, .int .i64 0, .string x2]) w := by intros; kernel_rfl
theorem bl_70_0_1_2_K14 : ∀ (x0 : Int) (x1 : Int) (x2_0 : Int) (x2_1 : Int) (x2_2 : ByteArray), ∀ w : World, (Instr.build 70 #[(0, .int .i64 x0), (1, .int .i64 x1), (2, .agg #[.int .i64 x2_0, .int .i64 x2_1, .string x2_2])]).run Try.prog w = .ok (.agg #[.int .i64 x0, .int .i64 x1, .int .i64 x2_0, .int .i64 x2_1, .string x2_2]) w := by intros; kernel_rfl
theorem bs_56_1_K14 : ∀ (x0_0 : Int) (x0_1 : Int) (x0_2_0 : Int) (x0_2_1 : Int) (x0_2_2 : ByteArray), News Try.prog (Instr.buildSlice 56 1 #[(0, .agg #[.int .i64 x0_0, .int .i64 x0_1, .int .i64 x0_2_0, .int .i64 x0_2_1, .string x0_2_2])]) (.cells #[.int .i64 x0_0, .int .i64 x0_1, .int .i64 x0_2_0, .int .i64 x0_2_1, .string x0_2_2] 70) fun b => .slice (some ⟨b, 0, none⟩) 1 1 := by intros; intro w; kernel_rfl
theorem cb_34_K14 : callB Try.prog 34 = true := by kernel_rfl
theorem fa_85_1_K14 : FA Try.prog 85 1 1 := fun _ _ _ => by kernel_rfl
theorem ag_70_K14 : aggB Try.prog 70 = some 5 := by kernel_rfl
theorem zr_70_K14 : zeroB Try.prog 70 = some (.agg #[.int .i64 0, .int .i64 0, .int .i64 0, .int .i64 0, .string { data := #[] }]) := by kernel_rfl
theorem sz_70_K14 : sizeB Try.prog 70 = some 5 := by kernel_rfl
theorem fa_70_2_K14 : FA Try.prog 70 2 2 := fun _ _ _ => by kernel_rfl
theorem fa_38_2_K14 : FA Try.prog 38 2 2 := fun _ _ _ => by kernel_rfl
theorem fa_38_1_K14 : FA Try.prog 38 1 1 := fun _ _ _ => by kernel_rfl
theorem fa_85_0_K14 : FA Try.prog 85 0 0 := fun _ _ _ => by kernel_rfl
theorem ik_3_K14 : intB Try.prog 3 = some .i64 := by kernel_rfl
theorem ik_51_K14 : intB Try.prog 51 = some .u64 := by kernel_rfl
theorem sl_82_K14 : slcB Try.prog 82 = some (87, 6) := by kernel_rfl
theorem fa_87_0_K14 : FA Try.prog 87 0 0 := fun _ _ _ => by kernel_rfl
theorem fa_87_1_K14 : FA Try.prog 87 1 1 := fun _ _ _ => by kernel_rfl
theorem tl_82_K14 : SlT Try.prog 82 87 6 56 (.agg #[.int .i64 0, .int .i64 0, .int .i64 0, .int .i64 0, .int .i64 0, .string { data := #[] }]) := ⟨by kernel_rfl, by kernel_rfl, by kernel_rfl, by kernel_rfl, by decide⟩
theorem sl_81_K14 : slcB Try.prog 81 = some (58, 1) := by kernel_rfl
theorem sc_58_K14 : scalB Try.prog 58 = true := by kernel_rfl
theorem cb_29_K14 : callB Try.prog 29 = true := by kernel_rfl
theorem cb_32_K14 : callB Try.prog 32 = true := by kernel_rfl
theorem cb_31_K14 : callB Try.prog 31 = true := by kernel_rfl
open CastM CasM

structure BrW where
  at_ : Int
  w : Wd
def encBW (b : BrW) : List Value := [.int .i64 b.at_, .int .i64 b.w.frm, .int .i64 b.w.seq, .int .i64 b.w.m.kind, .int .i64 b.w.m.frm, .string b.w.m.body]
def encN (b : Nat) : List Value := [.pointer (some ⟨b, 0, none⟩)]
abbrev kZ : Gh × KSt → Res := fun p => kR p.1 p.2
theorem zip_at {α β : Type} {l : List α} {m : List β} {i : Nat} {a : α} {b : β} (h1 : l[i]? = some a) (h2 : m[i]? = some b) : (l.zip m)[i]? = some (a, b) := by
  simp [List.getElem?_zip_eq_some, h1, h2]
theorem zip_set {α β : Type} : ∀ {l : List α} {m : List β} {i : Nat} {a : α} {b : β}, (l.zip m).set i (a, b) = (l.set i a).zip (m.set i b)
  | [], m, i, a, b => by simp
  | x :: l, [], i, a, b => by cases i <;> simp
  | x :: l, y :: m, 0, a, b => by simp
  | x :: l, y :: m, i + 1, a, b => by simp [zip_set]
theorem zip_snoc {α β : Type} {l : List α} {m : List β} {a : α} {b : β} (h : l.length = m.length) : l.zip m ++ [(a, b)] = (l ++ [a]).zip (m ++ [b]) := by
  rw [List.zip_append h]; rfl
theorem map_set_b {gs : List Gh} {i : Nat} {g g' : Gh} {bs : List Nat} (h : gs.map (·.b) = bs) (hg : gs[i]? = some g) (e : g'.b = g.b) : (gs.set i g').map (·.b) = bs := by
  rw [List.map_set, e, ← h]
  obtain ⟨h1, h2⟩ := List.getElem?_eq_some_iff.1 hg
  refine List.ext_getElem? fun j => ?_
  rw [List.getElem?_set]
  by_cases ej : i = j
  · subst ej; rw [if_pos rfl, List.getElem?_map, hg]; simp [h1]
  · rw [if_neg ej]
theorem mem_cut {α : Type} {l : List α} {i : Nat} {y : α} (h : y ∈ l.take i ++ l.drop (i + 1)) : y ∈ l := by
  rcases List.mem_append.1 h with h | h
  · exact List.mem_of_mem_take h
  · exact List.mem_of_mem_drop h
theorem rem_nat (a : Int) {h : Nat} (h0 : 0 < h) : ∃ k : Nat, (k : Int) = (a % 18446744073709551616) % ((h : Int) % 18446744073709551616) ∧ ((h : Int) < 18446744073709551616 → k < h) := by
  refine ⟨((a % 18446744073709551616) % ((h : Int) % 18446744073709551616)).toNat, ?_, fun hlt => ?_⟩ <;>
  have h1 : 0 ≤ (a % 18446744073709551616) % ((h : Int) % 18446744073709551616) := by
    rcases Int.lt_or_le 0 ((h : Int) % 18446744073709551616) with h1 | h1
    · exact Int.emod_nonneg _ (by omega)
    · have : (h : Int) % 18446744073709551616 = 0 := by omega
      rw [this]; omega
  · omega
  · have e : (h : Int) % 18446744073709551616 = h := by omega
    rw [e] at h1 ⊢
    have := Int.emod_lt_of_pos (a % 18446744073709551616) (show (0 : Int) < h by omega)
    omega
theorem wayS_len {h : Nat} {xs : List ByteArray} : ∀ {i : Nat}, (wayS h xs i).length = i * h
  | 0 => by simp [wayS]
  | i + 1 => by
    simp only [wayS]
    rw [ontoW_len, wayS_len, Nat.succ_mul]
    simp
theorem wayS_le {h : Nat} {xs : List ByteArray} {i : Nat} (h1 : i ≤ 4) (h2 : h ≤ 7) : (wayS h xs i).length ≤ 28 := by
  rw [wayS_len]
  exact Nat.mul_le_mul h1 h2
theorem wayS_succ {h : Nat} {xs : List ByteArray} {i : Int} {x : ByteArray} (h0 : 0 ≤ i) (he : xs[i.toNat]? = some x) : ontoW (wayS h xs i.toNat) h 1 [⟨1, i, ⟨1, 0, x⟩⟩] = wayS h xs (i + 1).toNat := by
  have e : (i + 1).toNat = i.toNat + 1 := by omega
  have e2 : ((i.toNat : Nat) : Int) = i := by omega
  rw [e]
  simp only [wayS]
  rw [he, e2]
  rfl
theorem ontoW_le {way : List ToW} {h : Nat} {frm : Int} {l : List Wd} (h1 : l.length ≤ 2) (h2 : h ≤ 7) : (ontoW way h frm l).length ≤ way.length + 14 := by
  rw [ontoW_len]
  have := Nat.mul_le_mul h1 h2
  omega
theorem wayS_seq {h : Nat} {xs : List ByteArray} {i : Nat} (hi : i ≤ 4) : ∀ y ∈ wayS h xs i, In64 y.w.seq := fun y hy => by
  obtain ⟨_, j, h1, h2⟩ := mem_wayS hy
  rw [h2]
  show In64 (j : Int)
  unfold In64
  omega
theorem ontoW_seq {way way' : List ToW} {h : Nat} {frm : Int} {K : KSt} {q : Wd} (hw : ∀ y ∈ way, In64 y.w.seq) (hs : ∀ y ∈ way', y ∈ way) (hq : In64 q.seq) : ∀ y ∈ ontoW way' h frm (K.take q).2, In64 y.w.seq := fun y hy => by
  rcases List.mem_append.1 hy with hy | hy
  · exact hw y (hs y hy)
  · obtain ⟨d, hd, hy⟩ := List.mem_flatMap.1 hy
    obtain ⟨k, _, rfl⟩ := List.mem_map.1 hy
    have : d.seq = q.seq := by
      unfold KSt.take at hd
      split at hd
      · obtain ⟨m, _, rfl⟩ := List.mem_map.1 hd
        rfl
      · cases hd
    show In64 d.seq
    rw [this]; exact hq
theorem ontoW_node {way way' : List ToW} {h : Nat} {frm : Int} {l : List Wd} (hw : ∀ y ∈ way, y.node < h) (hs : ∀ y ∈ way', y ∈ way) : ∀ y ∈ ontoW way' h frm l, y.node < h := fun y hy => by
  rcases List.mem_append.1 hy with hy | hy
  · exact hw y (hs y hy)
  · obtain ⟨d, hd, hy⟩ := List.mem_flatMap.1 hy
    obtain ⟨k, hk, rfl⟩ := List.mem_map.1 hy
    exact List.mem_range.1 hk
theorem tells_t (K : KSt) (f : Int) : (K.tells f).t = K.t := by
  unfold KSt.tells
  generalize K.ks.length = j
  induction j generalizing K with
  | zero => rfl
  | succ j ih =>
    simp only [tellF]
    split
    · rw [ih]; rfl
    · rfl
theorem take_t (K : KSt) (q : Wd) : (K.take q).1.t = K.t := by
  unfold KSt.take
  split
  · show ((K.mid q).tells q.frm).t = K.t
    rw [tells_t]
    exact open1_t
  · rfl
theorem sys_wf {n t : Int} {xs : List ByteArray} {Ks : List KSt} {way : List ToW} {Vs : List (Key → CSt)} (Y : CasM.Sys n t xs Ks way Vs) {i : Nat} {K : KSt} (hK : Ks[i]? = some K) : K.Wf ∧ K.n = n := by
  have hi : i < Ks.length := (List.getElem?_eq_some_iff.1 hK).1
  have hV : Vs[i]? = some (Vs[i]'(by rw [Y.len]; exact hi)) := List.getElem?_eq_getElem _
  obtain ⟨h1, h2, _⟩ := Y.vk i K _ hK hV
  exact ⟨h1.W, h2⟩
theorem tld_T {K : KSt} {n f : Int} (hn : K.n = n) (h1 : 1 ≤ f) (h2 : f ≤ n) : tld K f = K.T f.toNat := by
  unfold tld
  rw [if_pos (by unfold KSt.node; simp; omega)]
theorem g_at {gs : List Gh} {bs : List Nat} {i : Nat} {b : Nat} (h : gs.map (·.b) = bs) (hb : bs[i]? = some b) : ∃ g, gs[i]? = some g ∧ g.b = b := by
  rw [← h, List.getElem?_map] at hb
  cases hg : gs[i]? with
  | none => rw [hg] at hb; cases hb
  | some g => rw [hg] at hb; exact ⟨g, rfl, by simpa using hb⟩
theorem hB_set {Ks : List KSt} {i : Nat} {K : KSt} {q : Wd} {N N' : Nat} (hB : ∀ K ∈ Ks, ∀ j, (K.T j).length + K.ks.length ≤ N) (hK : Ks[i]? = some K) (hN : N' = N + 1) : ∀ x ∈ Ks.set i (K.take q).1, ∀ j, (x.T j).length + x.ks.length ≤ N' := by
  intro x hx j
  subst hN
  rcases List.mem_or_eq_of_mem_set hx with h | rfl
  · have := hB x h j; omega
  · exact take_le (hB K (List.mem_of_getElem? hK)) q j

set_option maxRecDepth 100000 in
set_option maxHeartbeats 400000 in
theorem law10a (n t : Int) (xs : List ByteArray) (l : List BrW) (v1 v : Value) (w0 : World) (hr1 : RdSl w0.heap v1 xs.length 1 (xs.flatMap encS)) (hr : RdSl w0.heap v l.length 6 (l.flatMap encBW)) (hin : ∀ b ∈ l, In64 b.w.seq) (h : 4 < xs.length ∨ quorum n t = 0 ∨ 300 < l.length) : Cl Try.prog 10 #[.agg #[.int .i64 n, .int .i64 t], v1, v] w0 (RetQ w0 fun v => v = .bool true) := by
  have M : Sep (fun _ => False) w0 w0 _ := Sep.nil _ w0
  have hro := (ro_of hr)
  have hro1 := (ro_of hr1)
  obtain ⟨A, cc, rfl, hcc⟩ := hr.form
  obtain ⟨A1, cc1, rfl, hcc1⟩ := hr1.form
  refine enter (vs := [_, _, _]) Try.func10 rfl rfl rfl ?_
  intro a F
  refine wp_seq ?_
  refine wp_region_l [.wr, .ind] ([0, 1]) rfl ?_
  refine s_bxA F M rfl rfl rfl rfl rfl ?_; (clear F a M; try clear w); intro b3 w M a F
  refine s_I F rfl rfl rfl rfl rfl rfl ?_; clear F a; intro a F
  refine t_endM M ?_; (clear M; try clear w); intro w M
  refine wp_seq ?_
  refine wp_region_t [.ind, .rd, .ind, .rd, .ind, .ind] [] (otOf [0, 1, 2, 3, 4, 5]) mixed (by kernel_rfl) ?_
  refine s_fa0 F rfl rfl rfl rfl fa_79_0_K14 rfl ?_; clear F a; intro a F
  refine s_ld F rfl rfl rfl rfl sc_3_K14 rfl (by exact cell_of_blk M.h0 (lit rfl)) ?_; clear F a; intro a F
  refine s_fa0 F rfl rfl rfl rfl fa_79_1_K14 rfl ?_; clear F a; intro a F
  refine s_ld F rfl rfl rfl rfl sc_3_K14 rfl (by exact cell_of_blk M.h0 (lit rfl)) ?_; clear F a; intro a F
  refine s_I F rfl rfl rfl rfl rfl rfl ?_; clear F a; intro a F
  refine s_I F rfl rfl rfl rfl rfl rfl ?_; clear F a; intro a F
  refine t_endM M ?_; (clear M; try clear w); intro w M
  refine wp_seq ?_
  refine wp_seq ?_
  replace F := F.keep [0, 1, 2, 3, 6, 7, 8] rfl
  refine wp_region_l [.ind, .ind, .wr, .ind, .ind, .ind, .ind, .ind, .ind, .ind, .ind, .ind, .ind, .ind] ([0, 1, 2, 3, 4, 5, 6, 7, 8, 9, 10, 11, 12, 13]) rfl ?_
  refine s_I F rfl rfl rfl rfl rfl rfl ?_; clear F a; intro a F
  refine s_I F rfl rfl rfl rfl rfl rfl ?_; clear F a; intro a F
  refine s_cq F M rfl rfl rfl rfl rfl (rfl : _ = some [_, _]) cb_13_K14 (fun nd_ => c13 _ _ _) ?_; (clear F a M; try clear w); rintro v w rfl M a F
  refine s_bin F rfl rfl rfl rfl rfl rfl rfl ?_; clear F a; intro a F
  refine s_I F rfl rfl rfl rfl rfl rfl ?_; clear F a; intro a F
  refine bsplit F 33 rfl ?_ ?_
  ·
    clear F; intro hc0 F
    try rw [hc0] at F
    replace hc0 := of_decide_eq_true hc0
    refine s_no F rfl rfl rfl rfl ?_; clear F a; intro a F
    refine s_no F rfl rfl rfl rfl ?_; clear F a; intro a F
    refine s_no F rfl rfl rfl rfl ?_; clear F a; intro a F
    refine s_I F rfl rfl rfl rfl rfl rfl ?_; clear F a; intro a F
    refine s_I F rfl rfl rfl rfl rfl rfl ?_; clear F a; intro a F
    refine s_no F rfl rfl rfl rfl ?_; clear F a; intro a F
    refine s_no F rfl rfl rfl rfl ?_; clear F a; intro a F
    refine s_no F rfl rfl rfl rfl ?_; clear F a; intro a F
    refine s_I F rfl rfl rfl rfl rfl rfl ?_; clear F a; intro a F
    refine t_endM M ?_; (clear M; try clear w); intro w M
    refine c_t F rfl ?_
    refine wp_seq ?_
    replace F := F.keep [0, 1, 2, 3, 6, 7, 8] rfl
    refine wp_region_l [.wr, .ind] ([0, 1]) rfl ?_
    refine s_cq F M rfl rfl rfl rfl rfl (rfl : _ = some []) cb_24_K14 (fun nd_ => c24 _) ?_; (clear F a M; try clear w); rintro v w rfl M a F
    refine s_I F rfl rfl rfl rfl rfl rfl ?_; clear F a; intro a F
    refine t_endM M ?_; (clear M; try clear w); intro w M
    refine wp_ret ?_
    refine ret1 F rfl rfl ?_
    -- end 0
    exact ⟨_, rfl, rfl, M.chg⟩
  ·
    clear F; intro hc1 F
    try rw [hc1] at F
    replace hc1 := of_decide_eq_false hc1
    refine s_I F rfl rfl rfl rfl rfl rfl ?_; clear F a; intro a F
    refine s_len F rfl rfl rfl rfl sl_61_K14 rfl ?_; clear F a; intro a F
    refine s_bin F rfl rfl rfl rfl rfl rfl rfl ?_; clear F a; intro a F
    refine s_I F rfl rfl rfl rfl rfl rfl ?_; clear F a; intro a F
    refine s_I F rfl rfl rfl rfl rfl rfl ?_; clear F a; intro a F
    refine bsplit F 38 rfl ?_ ?_
    ·
      clear F; intro hc2 F
      try rw [hc2] at F
      replace hc2 := of_decide_eq_true hc2
      refine s_no F rfl rfl rfl rfl ?_; clear F a; intro a F
      refine s_no F rfl rfl rfl rfl ?_; clear F a; intro a F
      refine s_no F rfl rfl rfl rfl ?_; clear F a; intro a F
      refine s_I F rfl rfl rfl rfl rfl rfl ?_; clear F a; intro a F
      refine t_endM M ?_; (clear M; try clear w); intro w M
      refine c_t F rfl ?_
      refine wp_seq ?_
      replace F := F.keep [0, 1, 2, 3, 6, 7, 8] rfl
      refine wp_region_l [.wr, .ind] ([0, 1]) rfl ?_
      refine s_cq F M rfl rfl rfl rfl rfl (rfl : _ = some []) cb_24_K14 (fun nd_ => c24 _) ?_; (clear F a M; try clear w); rintro v w rfl M a F
      refine s_I F rfl rfl rfl rfl rfl rfl ?_; clear F a; intro a F
      refine t_endM M ?_; (clear M; try clear w); intro w M
      refine wp_ret ?_
      refine ret1 F rfl rfl ?_
      -- end 1
      exact ⟨_, rfl, rfl, M.chg⟩
    ·
      clear F; intro hc3 F
      try rw [hc3] at F
      replace hc3 := of_decide_eq_false hc3
      refine s_I F rfl rfl rfl rfl rfl rfl ?_; clear F a; intro a F
      refine s_len F rfl rfl rfl rfl sl_80_K14 rfl ?_; clear F a; intro a F
      refine s_bin F rfl rfl rfl rfl rfl rfl rfl ?_; clear F a; intro a F
      refine s_I F rfl rfl rfl rfl rfl rfl ?_; clear F a; intro a F
      refine t_endM M ?_; (clear M; try clear w); intro w M
      refine c_if F rfl ?_ ?_
      ·
        clear F; intro hc4 F
        try rw [hc4] at F
        replace hc4 := of_decide_eq_true hc4
        refine wp_seq ?_
        replace F := F.keep [0, 1, 2, 3, 6, 7, 8] rfl
        refine wp_region_l [.wr, .ind] ([0, 1]) rfl ?_
        refine s_cq F M rfl rfl rfl rfl rfl (rfl : _ = some []) cb_24_K14 (fun nd_ => c24 _) ?_; (clear F a M; try clear w); rintro v w rfl M a F
        refine s_I F rfl rfl rfl rfl rfl rfl ?_; clear F a; intro a F
        refine t_endM M ?_; (clear M; try clear w); intro w M
        refine wp_ret ?_
        refine ret1 F rfl rfl ?_
        -- end 2
        exact ⟨_, rfl, rfl, M.chg⟩
      ·
        clear F; intro hc5 F
        try rw [hc5] at F
        replace hc5 := of_decide_eq_false hc5
        exfalso; omega
set_option maxRecDepth 100000 in
set_option maxHeartbeats 6000000 in
theorem law10b (n t : Int) (xs : List ByteArray) (l : List BrW) (v1 v : Value) (w0 : World) (hr1 : RdSl w0.heap v1 xs.length 1 (xs.flatMap encS)) (hr : RdSl w0.heap v l.length 6 (l.flatMap encBW)) (hin : ∀ b ∈ l, In64 b.w.seq) (hl : l.length ≤ 300) (hx : xs.length ≤ 4) (hq : quorum n t ≠ 0) : Cl Try.prog 10 #[.agg #[.int .i64 n, .int .i64 t], v1, v] w0 (RetQ w0 fun v => v = .bool true) := by
  have M : Sep (fun _ => False) w0 w0 _ := Sep.nil _ w0
  have hro := (ro_of hr)
  have hro1 := (ro_of hr1)
  obtain ⟨A, cc, rfl, hcc⟩ := hr.form
  obtain ⟨A1, cc1, rfl, hcc1⟩ := hr1.form
  have hn := q_spec hq
  obtain ⟨h, hh⟩ : ∃ h : Nat, (h : Int) = n - t := ⟨(n - t).toNat, by omega⟩
  have hh7 : h ≤ 7 := by omega
  refine enter (vs := [_, _, _]) Try.func10 rfl rfl rfl ?_
  intro a F
  refine wp_seq ?_
  refine wp_region_l [.wr, .ind] ([0, 1]) rfl ?_
  refine s_bxA F M rfl rfl rfl rfl rfl ?_; (clear F a M; try clear w); intro b3 w M a F
  refine s_I F rfl rfl rfl rfl rfl rfl ?_; clear F a; intro a F
  refine t_endM M ?_; (clear M; try clear w); intro w M
  refine wp_seq ?_
  refine wp_region_t [.ind, .rd, .ind, .rd, .ind, .ind] [] (otOf [0, 1, 2, 3, 4, 5]) mixed (by kernel_rfl) ?_
  refine s_fa0 F rfl rfl rfl rfl fa_79_0_K14 rfl ?_; clear F a; intro a F
  refine s_ld F rfl rfl rfl rfl sc_3_K14 rfl (by exact cell_of_blk M.h0 (lit rfl)) ?_; clear F a; intro a F
  refine s_fa0 F rfl rfl rfl rfl fa_79_1_K14 rfl ?_; clear F a; intro a F
  refine s_ld F rfl rfl rfl rfl sc_3_K14 rfl (by exact cell_of_blk M.h0 (lit rfl)) ?_; clear F a; intro a F
  refine s_I F rfl rfl rfl rfl rfl rfl ?_; clear F a; intro a F
  refine s_I F rfl rfl rfl rfl rfl rfl ?_; clear F a; intro a F
  refine t_endM M ?_; (clear M; try clear w); intro w M
  refine wp_seq ?_
  refine wp_seq ?_
  replace F := F.keep [0, 1, 2, 3, 6, 7, 8] rfl
  refine wp_region_l [.ind, .ind, .wr, .ind, .ind, .ind, .ind, .ind, .ind, .ind, .ind, .ind, .ind, .ind] ([0, 1, 2, 3, 4, 5, 6, 7, 8, 9, 10, 11, 12, 13]) rfl ?_
  refine s_I F rfl rfl rfl rfl rfl rfl ?_; clear F a; intro a F
  refine s_I F rfl rfl rfl rfl rfl rfl ?_; clear F a; intro a F
  refine s_cq F M rfl rfl rfl rfl rfl (rfl : _ = some [_, _]) cb_13_K14 (fun nd_ => c13 _ _ _) ?_; (clear F a M; try clear w); rintro v w rfl M a F
  refine s_bin F rfl rfl rfl rfl rfl rfl rfl ?_; clear F a; intro a F
  refine s_I F rfl rfl rfl rfl rfl rfl ?_; clear F a; intro a F
  refine bsplit F 33 rfl ?_ ?_
  ·
    clear F; intro hc0 F
    try rw [hc0] at F
    replace hc0 := of_decide_eq_true hc0
    refine s_no F rfl rfl rfl rfl ?_; clear F a; intro a F
    refine s_no F rfl rfl rfl rfl ?_; clear F a; intro a F
    refine s_no F rfl rfl rfl rfl ?_; clear F a; intro a F
    refine s_I F rfl rfl rfl rfl rfl rfl ?_; clear F a; intro a F
    refine s_I F rfl rfl rfl rfl rfl rfl ?_; clear F a; intro a F
    refine s_no F rfl rfl rfl rfl ?_; clear F a; intro a F
    refine s_no F rfl rfl rfl rfl ?_; clear F a; intro a F
    refine s_no F rfl rfl rfl rfl ?_; clear F a; intro a F
    refine s_I F rfl rfl rfl rfl rfl rfl ?_; clear F a; intro a F
    refine t_endM M ?_; (clear M; try clear w); intro w M
    refine c_t F rfl ?_
    refine wp_seq ?_
    replace F := F.keep [0, 1, 2, 3, 6, 7, 8] rfl
    refine wp_region_l [.wr, .ind] ([0, 1]) rfl ?_
    refine s_cq F M rfl rfl rfl rfl rfl (rfl : _ = some []) cb_24_K14 (fun nd_ => c24 _) ?_; (clear F a M; try clear w); rintro v w rfl M a F
    refine s_I F rfl rfl rfl rfl rfl rfl ?_; clear F a; intro a F
    refine t_endM M ?_; (clear M; try clear w); intro w M
    refine wp_ret ?_
    refine ret1 F rfl rfl ?_
    -- end 0
    exact ⟨_, rfl, rfl, M.chg⟩
  ·
    clear F; intro hc1 F
    try rw [hc1] at F
    replace hc1 := of_decide_eq_false hc1
    refine s_I F rfl rfl rfl rfl rfl rfl ?_; clear F a; intro a F
    refine s_len F rfl rfl rfl rfl sl_61_K14 rfl ?_; clear F a; intro a F
    refine s_bin F rfl rfl rfl rfl rfl rfl rfl ?_; clear F a; intro a F
    refine s_I F rfl rfl rfl rfl rfl rfl ?_; clear F a; intro a F
    refine s_I F rfl rfl rfl rfl rfl rfl ?_; clear F a; intro a F
    refine bsplit F 38 rfl ?_ ?_
    ·
      clear F; intro hc2 F
      try rw [hc2] at F
      replace hc2 := of_decide_eq_true hc2
      refine s_no F rfl rfl rfl rfl ?_; clear F a; intro a F
      refine s_no F rfl rfl rfl rfl ?_; clear F a; intro a F
      refine s_no F rfl rfl rfl rfl ?_; clear F a; intro a F
      refine s_I F rfl rfl rfl rfl rfl rfl ?_; clear F a; intro a F
      refine t_endM M ?_; (clear M; try clear w); intro w M
      refine c_t F rfl ?_
      refine wp_seq ?_
      replace F := F.keep [0, 1, 2, 3, 6, 7, 8] rfl
      refine wp_region_l [.wr, .ind] ([0, 1]) rfl ?_
      refine s_cq F M rfl rfl rfl rfl rfl (rfl : _ = some []) cb_24_K14 (fun nd_ => c24 _) ?_; (clear F a M; try clear w); rintro v w rfl M a F
      refine s_I F rfl rfl rfl rfl rfl rfl ?_; clear F a; intro a F
      refine t_endM M ?_; (clear M; try clear w); intro w M
      refine wp_ret ?_
      refine ret1 F rfl rfl ?_
      -- end 1
      exact ⟨_, rfl, rfl, M.chg⟩
    ·
      clear F; intro hc3 F
      try rw [hc3] at F
      replace hc3 := of_decide_eq_false hc3
      refine s_I F rfl rfl rfl rfl rfl rfl ?_; clear F a; intro a F
      refine s_len F rfl rfl rfl rfl sl_80_K14 rfl ?_; clear F a; intro a F
      refine s_bin F rfl rfl rfl rfl rfl rfl rfl ?_; clear F a; intro a F
      refine s_I F rfl rfl rfl rfl rfl rfl ?_; clear F a; intro a F
      refine t_endM M ?_; (clear M; try clear w); intro w M
      refine c_if F rfl ?_ ?_
      ·
        clear F; intro hc4 F
        try rw [hc4] at F
        replace hc4 := of_decide_eq_true hc4
        exfalso; omega
      ·
        clear F; intro hc5 F
        try rw [hc5] at F
        replace hc5 := of_decide_eq_false hc5
        refine wp_skip ?_
        refine wp_seq ?_
        replace F := F.keep [0, 1, 2, 3, 6, 7, 8] rfl
        refine wp_region_l [.ind, .ind, .ind, .ind] ([0, 1, 2, 3]) rfl ?_
        refine s_I F rfl rfl rfl rfl rfl rfl ?_; clear F a; intro a F
        refine s_I F rfl rfl rfl rfl rfl rfl ?_; clear F a; intro a F
        refine s_sub F rfl rfl rfl rfl rfl rfl (by unfold In64; omega) ?_; clear F a; intro a F
        refine s_I F rfl rfl rfl rfl rfl rfl ?_; clear F a; intro a F
        refine t_endM M ?_; (clear M; try clear w); intro w M
        refine wp_seq ?_
        rw [← hh] at F
        replace F := F.keep [0, 1, 2, 3, 6, 7, 8, 9] rfl
        refine wp_region_l [.ind] ([0]) rfl ?_
        refine s_I F rfl rfl rfl rfl rfl rfl ?_; clear F a; intro a F
        refine t_endM M ?_; (clear M; try clear w); intro w M
        refine wp_seq ?_
        refine wp_region_l [.ind] ([0]) rfl ?_
        refine s_I F rfl rfl rfl rfl rfl rfl ?_; clear F a; intro a F
        refine t_endM M ?_; (clear M; try clear w); intro w M
        refine wp_seq ?_
        refine wp_seq ?_
        refine wp_region_l [.ind] ([0]) rfl ?_
        refine s_I F rfl rfl rfl rfl rfl rfl ?_; clear F a; intro a F
        refine t_endM M ?_; (clear M; try clear w); intro w M
        refine wp_block ?_
        replace M := (M.bigNil (f := kZ)).nilT encN 58 1
        have M1 : Sep _ _ _ (bigR kZ _ :: _) := M.f1; replace M := M1; clear M1
        have M1 : Sep _ _ _ (slR _ _ 58 _ _ :: _) := M.f1; replace M := M1; clear M1
        refine loopX (X := (Nat) × (List Nat) × (List Gh) × (Option Addr) × (Nat)) F [0, 1, 2, 3, 6, 7, 8, 9, 11] rfl (fun ((k, bs, gs, A, c) : (Nat) × (List Nat) × (List Gh) × (Option Addr) × (Nat)) => (k ≤ h) ∧ (bs.length = k) ∧ (gs.map (·.b) = bs)) (fun ((k, bs, gs, A, c) : (Nat) × (List Nat) × (List Gh) × (Option Addr) × (Nat)) => [(10, .slice A bs.length c), (12, .int .i64 (k : Int))]) (fun ((k, bs, gs, A, c) : (Nat) × (List Nat) × (List Gh) × (Option Addr) × (Nat)) => [slR (.slice A bs.length c) bs.length 58 1 (bs.flatMap encN), bigR kZ (gs.zip (List.replicate k (newK n t)))]) (fun ((k, bs, gs, A, c) : (Nat) × (List Nat) × (List Gh) × (Option Addr) × (Nat)) => h - k) ((0), ([]), ([]), (none), (0)) M ⟨(by omega), rfl, rfl⟩ (F.keep [10, 12, 0, 1, 2, 3, 6, 7, 8, 9, 11] rfl) ?_
        clear F M; clear a; (try clear w)
        rintro ⟨k, bs, gs, A, c⟩ a w ⟨k1, hbl, hgs⟩ F M; try dsimp only at F M
        try simp only [List.cons_append, List.nil_append] at F M
        try dsimp only at k1 hbl hgs
        refine wp_seq ?_
        refine wp_seq ?_
        refine wp_region_l [.ind, .ind, .ind] ([0, 1, 2]) rfl ?_
        refine s_I F rfl rfl rfl rfl rfl rfl ?_; clear F a; intro a F
        refine s_I F rfl rfl rfl rfl rfl rfl ?_; clear F a; intro a F
        refine s_bin F rfl rfl rfl rfl rfl rfl rfl ?_; clear F a; intro a F
        refine t_endM M ?_; (clear M; try clear w); intro w M
        refine c_if F rfl ?_ ?_
        ·
          clear F; intro hc6 F
          try rw [hc6] at F
          replace hc6 := of_decide_eq_true hc6
          refine wp_skip ?_
          refine wp_seq ?_
          refine wp_block ?_
          replace F := F.keep [0, 1, 2, 3, 6, 7, 8, 9, 10, 11, 12] rfl
          refine wp_region_l [.ind, .ind, .ind, .wr, .wr, .wr, .ind] ([0, 1, 2, 3, 4, 5, 6]) rfl ?_
          refine s_I F rfl rfl rfl rfl rfl rfl ?_; clear F a; intro a F
          refine s_I F rfl rfl rfl rfl rfl rfl ?_; clear F a; intro a F
          refine s_I F rfl rfl rfl rfl rfl rfl ?_; clear F a; intro a F
          refine s_call (m := []) F M rfl rfl rfl rfl rfl (rfl : _ = some [_, _]) cb_25_K14 (fun nd_ => c25 n t hq _) ?_; (clear F a M; try clear w); rintro v g0 w rfl M a F; (try simp only [List.cons_append, List.nil_append] at M)
          refine s_bs F M rfl rfl rfl rfl (parts1 F rfl) (bs_81_1_K14 _) ?_; (clear F a M; try clear w); intro b56 w M a F
          refine s_apE ((g0.b : Nat)) F M.f2 rfl rfl rfl rfl tl_81_K14 rfl rfl (by exact rd_blk M.h0 rfl) rfl (by omega) (fun _ _ _ _ => pend_nil) ?_; (clear F a M; try clear w); intro A57 c57 w M a F
          refine s_I F rfl rfl rfl rfl rfl rfl ?_; clear F a; intro a F
          refine t_endM M ?_; (clear M; try clear w); intro w M
          replace F := F.keep [0, 1, 2, 3, 6, 7, 8, 9, 10, 11, 12] rfl
          refine wp_region_l [.ind, .ind, .ind] ([0, 1, 2]) rfl ?_
          refine s_I F rfl rfl rfl rfl rfl rfl ?_; clear F a; intro a F
          refine s_add F rfl rfl rfl rfl rfl rfl (by unfold In64; omega) ?_; clear F a; intro a F
          refine s_I F rfl rfl rfl rfl rfl rfl ?_; clear F a; intro a F
          refine t_endM M ?_; (clear M; try clear w); intro w M
          have M1 : Sep _ _ _ (bigR kZ _ :: _) := M.f3; replace M := M1; clear M1
          have M1 : Sep _ _ _ (kR _ _ :: _) := M.f3; replace M := M1; clear M1
          replace M := Sep.bigSnoc (f := kZ) (y := (g0, newK n t)) M
          have hgl : gs.length = k := by rw [← hbl, ← hgs, List.length_map]
          have hz : (gs.zip (List.replicate k (newK n t))) ++ [(g0, newK n t)] = (gs ++ [g0]).zip (List.replicate (k + 1) (newK n t)) := by rw [zip_snoc (by simp [hgl]), List.replicate_succ']
          rw [hz] at M
          refine again ((k + 1), (bs ++ [g0.b]), (gs ++ [g0]), (A57), (c57)) (by show _ < _; (try dsimp only); omega) ⟨(by omega), (by simp [hbl]), (by simp [hgs])⟩ (F.keep [10, 12, 0, 1, 2, 3, 6, 7, 8, 9, 11] rfl) ?_
          try dsimp only [List.cons_append, List.nil_append]
          refine M.pick ?_; repeat (first | exact PkG.nil | refine PkG.cons 0 rfl rfl ?_ | refine PkG.cons 1 rfl rfl ?_ | refine PkG.cons 3 rfl rfl ?_)
        ·
          clear F; intro hc7 F
          try rw [hc7] at F
          replace hc7 := of_decide_eq_false hc7
          refine wp_exit ?_
          refine wp_seq ?_
          refine wp_seq ?_
          obtain rfl : h = k := by omega
          replace F := F.keep [0, 1, 2, 3, 6, 7, 8, 9, 10, 11, 12] rfl
          refine wp_region_l [.ind] ([0]) rfl ?_
          refine s_I F rfl rfl rfl rfl rfl rfl ?_; clear F a; intro a F
          refine t_endM M ?_; (clear M; try clear w); intro w M
          refine wp_block ?_
          replace M := M.nilT encTW 87 6
          have M1 : Sep _ _ _ (slR _ _ 87 _ _ :: _) := M; replace M := M1; clear M1
          refine loopX (X := (Int) × (Option Addr) × (Nat)) F [0, 1, 2, 3, 7, 8, 9, 10, 12] rfl (fun ((i, A, c) : (Int) × (Option Addr) × (Nat)) => (0 ≤ i) ∧ (i ≤ xs.length)) (fun ((i, A, c) : (Int) × (Option Addr) × (Nat)) => [(11, .slice A (wayS h xs i.toNat).length c), (13, .int .i64 i)]) (fun ((i, A, c) : (Int) × (Option Addr) × (Nat)) => [slR (.slice A (wayS h xs i.toNat).length c) (wayS h xs i.toNat).length 87 6 ((wayS h xs i.toNat).flatMap encTW)]) (fun ((i, A, c) : (Int) × (Option Addr) × (Nat)) => xs.length - i.toNat) ((0), (none), (0)) M ⟨(by omega), (by omega)⟩ (F.keep [11, 13, 0, 1, 2, 3, 7, 8, 9, 10, 12] rfl) ?_
          clear F M; clear a; (try clear w)
          rintro ⟨i, A, c⟩ a w ⟨i0, i1⟩ F M; try dsimp only at F M
          try simp only [List.cons_append, List.nil_append] at F M
          try dsimp only at i0 i1
          refine wp_seq ?_
          refine wp_seq ?_
          refine wp_region_l [.ind, .ind, .ind, .ind] ([0, 1, 2, 3]) rfl ?_
          refine s_I F rfl rfl rfl rfl rfl rfl ?_; clear F a; intro a F
          refine s_I F rfl rfl rfl rfl rfl rfl ?_; clear F a; intro a F
          refine s_len F rfl rfl rfl rfl sl_61_K14 rfl ?_; clear F a; intro a F
          refine s_bin F rfl rfl rfl rfl rfl rfl rfl ?_; clear F a; intro a F
          refine t_endM M ?_; (clear M; try clear w); intro w M
          refine c_if F rfl ?_ ?_
          ·
            clear F; intro hc8 F
            try rw [hc8] at F
            replace hc8 := of_decide_eq_true hc8
            refine wp_skip ?_
            refine wp_seq ?_
            refine wp_block ?_
            refine wp_seq ?_
            refine wp_seq ?_
            replace F := F.keep [0, 1, 2, 3, 7, 8, 9, 10, 11, 12, 13] rfl
            refine wp_region_l [.ind, .ind, .ind, .rd, .ind, .ind] ([0, 1, 2, 3, 4, 5]) rfl ?_
            refine s_I F rfl rfl rfl rfl rfl rfl ?_; clear F a; intro a F
            refine s_I F rfl rfl rfl rfl rfl rfl ?_; clear F a; intro a F
            refine s_ix F rfl rfl rfl rfl sl_61_K14 rfl rfl (by exact M.chg.ro hro1) (by omega) (by omega) ?_; clear F a; intro e66 he66 a F
            refine s_ld F rfl rfl rfl rfl sc_9_K14 rfl (by exact rdX0 (M.chg.ro hro1) (by intro e; rfl) he66 rfl) ?_; clear F a; intro a F
            refine s_lenS F rfl rfl rfl rfl st_9_K14 rfl ?_; clear F a; intro a F
            refine s_bin F rfl rfl rfl rfl rfl rfl rfl ?_; clear F a; intro a F
            refine t_endM M ?_; (clear M; try clear w); intro w M
            refine c_if F rfl ?_ ?_
            ·
              clear F; intro hc9 F
              try rw [hc9] at F
              replace hc9 := of_decide_eq_true hc9
              refine wp_seq ?_
              replace F := F.keep [0, 1, 2, 3, 7, 8, 9, 10, 11, 12, 13] rfl
              refine wp_region_l [.wr, .ind] ([0, 1]) rfl ?_
              refine s_cq F M rfl rfl rfl rfl rfl (rfl : _ = some []) cb_24_K14 (fun nd_ => c24 _) ?_; (clear F a M; try clear w); rintro v w rfl M a F
              refine s_I F rfl rfl rfl rfl rfl rfl ?_; clear F a; intro a F
              refine t_endM M ?_; (clear M; try clear w); intro w M
              refine wp_ret ?_
              refine ret1 F rfl rfl ?_
              -- end 2
              exact ⟨_, rfl, rfl, M.chg⟩
            ·
              clear F; intro hc10 F
              try rw [hc10] at F
              replace hc10 := of_decide_eq_false hc10
              refine wp_skip ?_
              replace F := F.keep [0, 1, 2, 3, 7, 8, 9, 10, 11, 12, 13] rfl
              refine wp_region_l [.ind, .ind, .ind, .ind, .ind, .ind, .rd, .ind, .ind, .wr, .wr, .ind] ([0, 1, 2, 3, 4, 5, 6, 7, 8, 9, 10, 11]) rfl ?_
              refine s_I F rfl rfl rfl rfl rfl rfl ?_; clear F a; intro a F
              refine s_I F rfl rfl rfl rfl rfl rfl ?_; clear F a; intro a F
              refine s_I F rfl rfl rfl rfl rfl rfl ?_; clear F a; intro a F
              refine s_I F rfl rfl rfl rfl rfl rfl ?_; clear F a; intro a F
              refine s_I F rfl rfl rfl rfl rfl rfl ?_; clear F a; intro a F
              refine s_ix F rfl rfl rfl rfl sl_61_K14 rfl rfl (by exact M.chg.ro hro1) (by omega) (by omega) ?_; clear F a; intro e76 he76 a F
              try (obtain rfl := Option.some.inj (he66.symm.trans he76))
              refine s_ld F rfl rfl rfl rfl sc_9_K14 rfl (by exact rdX0 (M.chg.ro hro1) (by intro e; rfl) he76 rfl) ?_; clear F a; intro a F
              refine s_bld F rfl rfl rfl rfl (parts2 F rfl rfl) (bl_38_0_2_K14 _ _) ?_; clear F a; intro a F
              refine s_bld F rfl rfl rfl rfl (parts3 F rfl rfl rfl) (bl_70_0_1_2_K14 _ _ _ _ _) ?_; clear F a; intro a F
              refine s_bs F M rfl rfl rfl rfl (parts1 F rfl) (bs_56_1_K14 _ _ _ _ _) ?_; (clear F a M; try clear w); intro b80 w M a F
              refine s_call (m := []) F M rfl rfl rfl rfl rfl (rfl : _ = some [_, _, _, _]) cb_34_K14 (fun nd_ => c34 (wayS h xs i.toNat) h 1 [⟨1, i, ⟨1, 0, e66⟩⟩] _ _ _ (by exact SlOk.rd M.h1) (by exact rd_blk M.h0 rfl) (by simp) hh7 (by have := wayS_le (xs := xs) (show i.toNat ≤ 4 by omega) hh7; omega)) ?_; (clear F a M; try clear w); rintro v y w rfl M a F; (try simp only [List.cons_append, List.nil_append] at M)
              rw [wayS_succ i0 he66] at M
              obtain ⟨Aw, cw, rfl⟩ := SlOk.form M.h0
              refine s_I F rfl rfl rfl rfl rfl rfl ?_; clear F a; intro a F
              refine t_endM M ?_; (clear M; try clear w); intro w M
              replace F := F.keep [0, 1, 2, 3, 7, 8, 9, 10, 11, 12, 13] rfl
              refine wp_region_l [.ind, .ind, .ind] ([0, 1, 2]) rfl ?_
              refine s_I F rfl rfl rfl rfl rfl rfl ?_; clear F a; intro a F
              refine s_add F rfl rfl rfl rfl rfl rfl (by unfold In64; omega) ?_; clear F a; intro a F
              refine s_I F rfl rfl rfl rfl rfl rfl ?_; clear F a; intro a F
              refine t_endM M ?_; (clear M; try clear w); intro w M
              refine again ((i + 1), (Aw), (cw)) (by show _ < _; (try dsimp only); omega) ⟨(by omega), (by assumption)⟩ (F.keep [11, 13, 0, 1, 2, 3, 7, 8, 9, 10, 12] rfl) ?_
              try dsimp only [List.cons_append, List.nil_append]
              refine M.pick ?_; repeat (first | exact PkG.nil | refine PkG.cons 0 rfl rfl ?_ | refine PkG.cons 3 rfl rfl ?_ | refine PkG.cons 4 rfl rfl ?_ | refine PkG.cons 5 rfl rfl ?_)
          ·
            clear F; intro hc11 F
            try rw [hc11] at F
            replace hc11 := of_decide_eq_false hc11
            refine wp_exit ?_
            refine wp_seq ?_
            refine wp_seq ?_
            replace F := F.keep [0, 1, 2, 3, 7, 8, 9, 10, 11, 12, 13] rfl
            refine wp_region_l [.ind] ([0]) rfl ?_
            refine s_I F rfl rfl rfl rfl rfl rfl ?_; clear F a; intro a F
            refine t_endM M ?_; (clear M; try clear w); intro w M
            refine wp_block ?_
            rw [show i.toNat = xs.length by omega] at F M
            have M1 : Sep _ _ _ (slR (.slice _ (List.length _) _) _ 87 _ _ :: _) := M; replace M := M1; clear M1
            have M1 : Sep _ _ _ (bigR kZ _ :: _) := M.f2; replace M := M1; clear M1
            refine loopX (X := (Int) × (List Gh) × (List KSt) × (List ToW) × (Option Addr) × (Nat)) F [0, 1, 2, 3, 7, 8, 9, 10, 12, 13] rfl (fun ((i, gs, Ks, way, A, c) : (Int) × (List Gh) × (List KSt) × (List ToW) × (Option Addr) × (Nat)) => (0 ≤ i) ∧ (i ≤ l.length) ∧ (gs.map (·.b) = bs) ∧ (way.length ≤ 28 + 14 * i.toNat) ∧ (∀ y ∈ way, In64 y.w.seq) ∧ (∀ y ∈ way, y.node < h) ∧ (∀ K ∈ Ks, ∀ j, (K.T j).length + K.ks.length ≤ i.toNat) ∧ (∃ Vs, CasM.Sys n t xs Ks way Vs)) (fun ((i, gs, Ks, way, A, c) : (Int) × (List Gh) × (List KSt) × (List ToW) × (Option Addr) × (Nat)) => [(11, .slice A way.length c), (14, .int .i64 i)]) (fun ((i, gs, Ks, way, A, c) : (Int) × (List Gh) × (List KSt) × (List ToW) × (Option Addr) × (Nat)) => [bigR kZ (gs.zip Ks), slR (.slice A (way).length c) (way).length 87 6 ((way).flatMap encTW)]) (fun ((i, gs, Ks, way, A, c) : (Int) × (List Gh) × (List KSt) × (List ToW) × (Option Addr) × (Nat)) => l.length - i.toNat) ((0), (gs), (List.replicate h (newK n t)), (wayS h xs xs.length), (_), (_)) M ⟨(by omega), (by omega), (by assumption), (by have := wayS_le (xs := xs) (show xs.length ≤ 4 by omega) hh7; omega), (wayS_seq (by omega)), (fun y hy => (mem_wayS hy).1), (fun K hK j => by have := (List.mem_replicate.1 hK).2; subst this; have := new_le n t j; omega), (CasM.Sys.begin hq hh xs)⟩ (F.keep [11, 14, 0, 1, 2, 3, 7, 8, 9, 10, 12, 13] rfl) ?_
            clear F M; clear a; (try clear w)
            rintro ⟨i, gs, Ks, way, A, c⟩ a w ⟨i0, i1, hgs, hw, hsw, hnw, hB, hY⟩ F M; try dsimp only at F M
            try simp only [List.cons_append, List.nil_append] at F M
            try dsimp only at i0 i1 hgs hw hsw hnw hB hY
            obtain ⟨Vs, Y⟩ := hY
            have hlen : Ks.length = h := by have := Y.hn; omega
            have hgl : gs.length = h := by rw [← hbl, ← hgs, List.length_map]
            refine wp_seq ?_
            refine wp_seq ?_
            refine wp_region_l [.ind, .ind, .ind, .ind] ([0, 1, 2, 3]) rfl ?_
            refine s_I F rfl rfl rfl rfl rfl rfl ?_; clear F a; intro a F
            refine s_I F rfl rfl rfl rfl rfl rfl ?_; clear F a; intro a F
            refine s_len F rfl rfl rfl rfl sl_80_K14 rfl ?_; clear F a; intro a F
            refine s_bin F rfl rfl rfl rfl rfl rfl rfl ?_; clear F a; intro a F
            refine t_endM M ?_; (clear M; try clear w); intro w M
            refine c_if F rfl ?_ ?_
            ·
              clear F; intro hc12 F
              try rw [hc12] at F
              replace hc12 := of_decide_eq_true hc12
              refine wp_skip ?_
              refine wp_seq ?_
              refine wp_block ?_
              refine wp_seq ?_
              replace F := F.keep [0, 1, 2, 3, 7, 8, 9, 10, 11, 12, 13, 14] rfl
              refine wp_region_t [.ind, .ind, .ind, .ind, .rd, .wr, .ind, .wr] [(4, 5)] (otOf [0, 1, 2, 3, 4, 5, 6, 7]) mixed (by kernel_rfl) ?_
              refine s_I F rfl rfl rfl rfl rfl rfl ?_; clear F a; intro a F
              refine s_I F rfl rfl rfl rfl rfl rfl ?_; clear F a; intro a F
              refine s_ix F rfl rfl rfl rfl sl_80_K14 rfl rfl (by exact M.chg.ro hro) (by omega) (by omega) ?_; clear F a; intro e90 he90 a F
              refine s_fa F rfl rfl rfl rfl fa_85_1_K14 rfl ?_; clear F a; intro a F
              refine s_ldaL F rfl rfl rfl rfl ag_70_K14 rfl rfl (rdsQ (m := 5) (M.chg.ro hro) (by intro e; rfl) he90) ?_; clear F a; intro a F
              refine s_alcL F M rfl rfl rfl rfl zr_70_K14 rfl (fun b w M => (by (refine pend_take (by exact rdsQ (M.chg.ro hro) (by intro e; rfl) he90) ?_); exact pend_none)) ?_; (clear F a M; try clear w); intro b16 w M a F
              refine s_I F rfl rfl rfl rfl rfl rfl ?_; clear F a; intro a F
              refine s_stWL F M rfl rfl rfl sz_70_K14 rfl rfl rfl rfl rfl (fun w M => (by (refine pend_skip rfl ?_); exact pend_none)) ?_; (clear M; try clear w); intro w M
              refine t_endM M ?_; (clear M; try clear w); intro w M
              refine wp_seq ?_
              refine wp_seq ?_
              replace F := F.keep [0, 1, 2, 3, 7, 8, 9, 10, 11, 12, 13, 14, 15, 16] rfl
              refine wp_region_l [.ind, .ind, .rd, .ind, .ind] ([0, 1, 2, 3, 4]) rfl ?_
              refine s_fa0 F rfl rfl rfl rfl fa_70_2_K14 rfl ?_; clear F a; intro a F
              refine s_fa F rfl rfl rfl rfl fa_38_2_K14 rfl ?_; clear F a; intro a F
              refine s_ld F rfl rfl rfl rfl sc_9_K14 rfl (by exact cell_of_blk M.h0 (lit rfl)) ?_; clear F a; intro a F
              refine s_lenS F rfl rfl rfl rfl st_9_K14 rfl ?_; clear F a; intro a F
              refine s_bin F rfl rfl rfl rfl rfl rfl rfl ?_; clear F a; intro a F
              refine t_endM M ?_; (clear M; try clear w); intro w M
              refine c_if F rfl ?_ ?_
              ·
                clear F; intro hc13 F
                try rw [hc13] at F
                replace hc13 := of_decide_eq_true hc13
                refine wp_seq ?_
                replace F := F.keep [0, 1, 2, 3, 7, 8, 9, 10, 11, 12, 13, 14, 15, 16] rfl
                refine wp_region_l [.wr, .ind] ([0, 1]) rfl ?_
                refine s_cq F M rfl rfl rfl rfl rfl (rfl : _ = some []) cb_24_K14 (fun nd_ => c24 _) ?_; (clear F a M; try clear w); rintro v w rfl M a F
                refine s_I F rfl rfl rfl rfl rfl rfl ?_; clear F a; intro a F
                refine t_endM M ?_; (clear M; try clear w); intro w M
                refine wp_ret ?_
                refine ret1 F rfl rfl ?_
                -- end 3
                exact ⟨_, rfl, rfl, M.chg⟩
              ·
                clear F; intro hc14 F
                try rw [hc14] at F
                replace hc14 := of_decide_eq_false hc14
                refine wp_skip ?_
                refine wp_seq ?_
                refine wp_seq ?_
                replace F := F.keep [0, 1, 2, 3, 7, 8, 9, 10, 11, 12, 13, 14, 15, 16] rfl
                refine wp_region_l [.ind, .ind, .rd, .ind, .ind] ([0, 1, 2, 3, 4]) rfl ?_
                refine s_fa0 F rfl rfl rfl rfl fa_70_2_K14 rfl ?_; clear F a; intro a F
                refine s_fa F rfl rfl rfl rfl fa_38_1_K14 rfl ?_; clear F a; intro a F
                refine s_ld F rfl rfl rfl rfl sc_3_K14 rfl (by exact cell_of_blk M.h0 (lit rfl)) ?_; clear F a; intro a F
                refine s_I F rfl rfl rfl rfl rfl rfl ?_; clear F a; intro a F
                refine s_bin F rfl rfl rfl rfl rfl rfl rfl ?_; clear F a; intro a F
                refine t_endM M ?_; (clear M; try clear w); intro w M
                have M1 : Sep _ _ _ (slR (.slice _ (List.length way) _) _ 87 _ _ :: _) := M.f2; replace M := M1; clear M1
                have M1 : Sep _ _ _ (blk b16 _ :: _) := M.f1; replace M := M1; clear M1
                refine cutX (X := (Nat) × (Wd) × (List ToW) × (Value)) (m0 := [_, _]) F [0, 1, 2, 3, 7, 8, 9, 10, 12, 13, 14, 16] rfl M (fun ((nd, m, way2, v) : (Nat) × (Wd) × (List ToW) × (Value)) => (nd < h) ∧ ((∃ y ∈ way, y.w = m) ∨ (h : Int) < m.m.frm) ∧ (way2.length ≤ way.length) ∧ (∀ y ∈ way2, y ∈ way) ∧ (In64 m.seq)) (fun ((nd, m, way2, v) : (Nat) × (Wd) × (List ToW) × (Value)) => [(11, v), (15, .int .i64 (nd : Int))]) (fun ((nd, m, way2, v) : (Nat) × (Wd) × (List ToW) × (Value)) => [blk b16 (.cells (encD m).toArray 70 (0, 0)), slR v (way2).length 87 6 ((way2).flatMap encTW)]) ?_ ?_
                ·
                  refine c_if F rfl ?_ ?_
                  ·
                    clear F; intro hc15 F
                    try rw [hc15] at F
                    replace hc15 := of_decide_eq_true hc15
                    replace F := F.keep [0, 1, 2, 3, 7, 8, 9, 10, 11, 12, 13, 14, 15, 16] rfl
                    refine wp_region_l [.ind, .ind, .ind, .ind, .rd, .ind, .ind, .ind, .ind, .ind, .ind] ([0, 1, 2, 3, 4, 5, 6, 7, 8, 9, 10]) rfl ?_
                    refine s_I F rfl rfl rfl rfl rfl rfl ?_; clear F a; intro a F
                    refine s_I F rfl rfl rfl rfl rfl rfl ?_; clear F a; intro a F
                    refine s_ix F rfl rfl rfl rfl sl_80_K14 rfl rfl (by exact M.chg.ro hro) (by omega) (by omega) ?_; clear F a; intro e106 he106 a F
                    try (obtain rfl := Option.some.inj (he90.symm.trans he106))
                    refine s_fa F rfl rfl rfl rfl fa_85_0_K14 rfl ?_; clear F a; intro a F
                    refine s_ld F rfl rfl rfl rfl sc_3_K14 rfl (by exact rdX (M.chg.ro hro) (by intro e; rfl) he106 rfl) ?_; clear F a; intro a F
                    refine s_cu F rfl rfl rfl rfl ik_3_K14 ik_51_K14 rfl ?_; clear F a; intro a F
                    refine s_I F rfl rfl rfl rfl rfl rfl ?_; clear F a; intro a F
                    refine s_cu F rfl rfl rfl rfl ik_3_K14 ik_51_K14 rfl ?_; clear F a; intro a F
                    refine s_remU F rfl rfl rfl rfl rfl rfl (by omega) (by omega) ?_; clear F a; intro a F
                    obtain ⟨k, hk, hk2⟩ := rem_nat e90.at_ (h := h) (by omega)
                    replace hk2 := hk2 (by omega)
                    rw [← hk] at F
                    refine s_ci F rfl rfl rfl rfl ik_51_K14 ik_3_K14 rfl (by omega) (by omega) ?_; clear F a; intro a F
                    refine s_I F rfl rfl rfl rfl rfl rfl ?_; clear F a; intro a F
                    refine t_endM M ?_; (clear M; try clear w); intro w M
                    refine joined ((k), (e90.w), (way), (_)) ⟨(by assumption), (.inr (by omega)), (by omega), (fun y h => h), (hin e90 (List.mem_of_getElem? he90))⟩ (F.keep [11, 15, 0, 1, 2, 3, 7, 8, 9, 10, 12, 13, 14, 16] rfl) ?_
                    try dsimp only [List.cons_append, List.nil_append]
                    refine M.pick ?_; repeat (first | exact PkG.nil | refine PkG.cons 0 rfl rfl ?_ | refine PkG.cons 1 rfl rfl ?_ | refine PkG.cons 2 rfl rfl ?_ | refine PkG.cons 3 rfl rfl ?_ | refine PkG.cons 4 rfl rfl ?_)
                  ·
                    clear F; intro hc16 F
                    try rw [hc16] at F
                    replace hc16 := of_decide_eq_false hc16
                    refine wp_seq ?_
                    replace F := F.keep [0, 1, 2, 3, 7, 8, 9, 10, 11, 12, 13, 14, 15, 16] rfl
                    refine wp_region_l [.ind, .ind, .ind] ([0, 1, 2]) rfl ?_
                    refine s_I F rfl rfl rfl rfl rfl rfl ?_; clear F a; intro a F
                    refine s_len F rfl rfl rfl rfl sl_82_K14 rfl ?_; clear F a; intro a F
                    refine s_bin F rfl rfl rfl rfl rfl rfl rfl ?_; clear F a; intro a F
                    refine t_endM M ?_; (clear M; try clear w); intro w M
                    refine c_if F rfl ?_ ?_
                    ·
                      clear F; intro hc17 F
                      try rw [hc17] at F
                      replace hc17 := of_decide_eq_true hc17
                      refine wp_seq ?_
                      replace F := F.keep [0, 1, 2, 3, 7, 8, 9, 10, 11, 12, 13, 14, 15, 16] rfl
                      refine wp_region_l [.ind, .ind, .ind, .ind, .rd, .ind, .ind, .ind, .ind, .ind, .ind, .ind] ([0, 1, 2, 3, 4, 5, 6, 7, 8, 9, 10, 11]) rfl ?_
                      refine s_I F rfl rfl rfl rfl rfl rfl ?_; clear F a; intro a F
                      refine s_I F rfl rfl rfl rfl rfl rfl ?_; clear F a; intro a F
                      refine s_ix F rfl rfl rfl rfl sl_80_K14 rfl rfl (by exact M.chg.ro hro) (by omega) (by omega) ?_; clear F a; intro e119 he119 a F
                      try (obtain rfl := Option.some.inj (he90.symm.trans he119))
                      refine s_fa F rfl rfl rfl rfl fa_85_0_K14 rfl ?_; clear F a; intro a F
                      refine s_ld F rfl rfl rfl rfl sc_3_K14 rfl (by exact rdX (M.chg.ro hro) (by intro e; rfl) he119 rfl) ?_; clear F a; intro a F
                      refine s_cu F rfl rfl rfl rfl ik_3_K14 ik_51_K14 rfl ?_; clear F a; intro a F
                      refine s_I F rfl rfl rfl rfl rfl rfl ?_; clear F a; intro a F
                      refine s_len F rfl rfl rfl rfl sl_82_K14 rfl ?_; clear F a; intro a F
                      refine s_cu F rfl rfl rfl rfl ik_3_K14 ik_51_K14 rfl ?_; clear F a; intro a F
                      refine s_remU F rfl rfl rfl rfl rfl rfl (by omega) (by omega) ?_; clear F a; intro a F
                      obtain ⟨k, hk, hk2⟩ := rem_nat e90.at_ (h := way.length) (by omega)
                      replace hk2 := hk2 (by omega)
                      rw [← hk] at F
                      refine s_ci F rfl rfl rfl rfl ik_51_K14 ik_3_K14 rfl (by omega) (by omega) ?_; clear F a; intro a F
                      refine s_I F rfl rfl rfl rfl rfl rfl ?_; clear F a; intro a F
                      refine t_endM M ?_; (clear M; try clear w); intro w M
                      refine wp_seq ?_
                      replace F := F.keep [0, 1, 2, 3, 7, 8, 9, 10, 11, 12, 13, 14, 15, 16, 17] rfl
                      refine wp_region_t [.ind, .ind, .ind, .ind, .rd, .ind, .ind, .ind, .ind, .rd, .ind, .wr] [] (otOf [0, 1, 2, 3, 4, 5, 6, 7, 8, 9, 10, 11]) mixed (by kernel_rfl) ?_
                      refine s_I F rfl rfl rfl rfl rfl rfl ?_; clear F a; intro a F
                      refine s_I F rfl rfl rfl rfl rfl rfl ?_; clear F a; intro a F
                      refine s_ix F rfl rfl rfl rfl sl_82_K14 rfl rfl (by exact SlOk.rd M.h1) (by omega) (by omega) ?_; clear F a; intro e130 he130 a F
                      try (obtain rfl := Option.some.inj (he90.symm.trans he130))
                      try (obtain rfl := Option.some.inj (he119.symm.trans he130))
                      refine s_fa F rfl rfl rfl rfl fa_87_0_K14 rfl ?_; clear F a; intro a F
                      refine s_ld F rfl rfl rfl rfl sc_3_K14 rfl (by exact rdX (SlOk.rd M.h1) (by intro e; rfl) he130 rfl) ?_; clear F a; intro a F
                      refine s_I F rfl rfl rfl rfl rfl rfl ?_; clear F a; intro a F
                      refine s_I F rfl rfl rfl rfl rfl rfl ?_; clear F a; intro a F
                      refine s_ix F rfl rfl rfl rfl sl_82_K14 rfl rfl (by exact SlOk.rd M.h1) (by omega) (by omega) ?_; clear F a; intro e135 he135 a F
                      try (obtain rfl := Option.some.inj (he90.symm.trans he135))
                      try (obtain rfl := Option.some.inj (he119.symm.trans he135))
                      try (obtain rfl := Option.some.inj (he130.symm.trans he135))
                      refine s_fa F rfl rfl rfl rfl fa_87_1_K14 rfl ?_; clear F a; intro a F
                      refine s_lda F rfl rfl rfl rfl ag_70_K14 rfl rfl (rdsQ (m := 5) (SlOk.rd M.h1) (by intro e; rfl) he135) ?_; clear F a; intro a F
                      refine s_I F rfl rfl rfl rfl rfl rfl ?_; clear F a; intro a F
                      refine s_stW F M rfl rfl rfl sz_70_K14 rfl rfl rfl rfl rfl ?_; (clear M; try clear w); intro w M
                      refine t_endM M ?_; (clear M; try clear w); intro w M
                      replace F := F.keep [0, 1, 2, 3, 7, 8, 9, 10, 11, 12, 13, 14, 15, 16, 17] rfl
                      refine wp_region_t [.ind, .ind, .ind, .wr, .ind, .ind, .ind, .ind, .wr, .ind] [] (otOf [0, 1, 2, 4, 5, 6, 7, 3, 8, 9]) mixed (by kernel_rfl) ?_
                      refine s_I F rfl rfl rfl rfl rfl rfl ?_; clear F a; intro a F
                      refine s_I F rfl rfl rfl rfl rfl rfl ?_; clear F a; intro a F
                      refine s_slc F rfl rfl rfl rfl sl_82_K14 rfl rfl rfl (by exact SlOk.rd M.h1) (by omega) (by omega) (by omega) ?_; clear F a; intro a F
                      refine s_I F rfl rfl rfl rfl rfl rfl ?_; clear F a; intro a F
                      refine s_I F rfl rfl rfl rfl rfl rfl ?_; clear F a; intro a F
                      refine s_add F rfl rfl rfl rfl rfl rfl (by unfold In64; omega) ?_; clear F a; intro a F
                      refine s_slc F rfl rfl rfl rfl sl_82_K14 rfl rfl rfl (by exact SlOk.rd M.h1) (by omega) (by omega) (by omega) ?_; clear F a; intro a F
                      replace M := M.nilT encTW 87 6
                      refine s_apM (way.take (k : Int).toNat) F M rfl rfl rfl rfl tl_82_K14 rfl rfl (by exact RdSl.pre (SlOk.rd M.h2) (by intro e; rfl) _ (by omega)) (by intro e; rfl) (by simp; omega) (fun _ _ _ _ => pend_nil) ?_; (clear F a M; try clear w); intro A141 c141 w M a F
                      refine s_apM (way.drop ((k : Int) + 1).toNat) F M rfl rfl rfl rfl tl_82_K14 rfl rfl (by exact RdSl.suf (SlOk.rd M.h2) (by intro e; rfl) _ (by omega)) (by intro e; rfl) (by simp; omega) (fun _ _ _ _ => pend_nil) ?_; (clear F a M; try clear w); intro A146 c146 w M a F
                      refine s_I F rfl rfl rfl rfl rfl rfl ?_; clear F a; intro a F
                      refine t_endM M ?_; (clear M; try clear w); intro w M
                      refine joined ((e130.node), (e130.w), (way.take (k : Int).toNat ++ way.drop ((k : Int) + 1).toNat), (_)) ⟨(hnw e130 (List.mem_of_getElem? he130)), (.inl ⟨e130, List.mem_of_getElem? he130, rfl⟩), (by simp; omega), (fun y hy => mem_cut hy), (hsw e130 (List.mem_of_getElem? he130))⟩ (F.keep [11, 15, 0, 1, 2, 3, 7, 8, 9, 10, 12, 13, 14, 16] rfl) ?_
                      try dsimp only [List.cons_append, List.nil_append]
                      refine M.pick ?_; repeat (first | exact PkG.nil | refine PkG.cons 0 rfl rfl ?_ | refine PkG.cons 1 rfl rfl ?_ | refine PkG.cons 3 rfl rfl ?_ | refine PkG.cons 4 rfl rfl ?_ | refine PkG.cons 5 rfl rfl ?_)
                    ·
                      clear F; intro hc18 F
                      try rw [hc18] at F
                      replace hc18 := of_decide_eq_false hc18
                      refine wp_exit ?_
                      replace F := F.keep [0, 1, 2, 3, 7, 8, 9, 10, 11, 12, 13, 14, 15, 16] rfl
                      refine wp_region_l [.ind, .ind, .ind] ([0, 1, 2]) rfl ?_
                      refine s_I F rfl rfl rfl rfl rfl rfl ?_; clear F a; intro a F
                      refine s_add F rfl rfl rfl rfl rfl rfl (by unfold In64; omega) ?_; clear F a; intro a F
                      refine s_I F rfl rfl rfl rfl rfl rfl ?_; clear F a; intro a F
                      refine t_endM M ?_; (clear M; try clear w); intro w M
                      refine again ((i + 1), (gs), (Ks), (way), (_), (_)) (by show _ < _; (try dsimp only); omega) ⟨(by omega), (by assumption), (by assumption), (by omega), (by assumption), (by assumption), (fun K hK j => by have := hB K hK j; omega), ⟨Vs, Y⟩⟩ (F.keep [11, 14, 0, 1, 2, 3, 7, 8, 9, 10, 12, 13] rfl) ?_
                      try dsimp only [List.cons_append, List.nil_append]
                      refine M.pick ?_; repeat (first | exact PkG.nil | refine PkG.cons 1 rfl rfl ?_ | refine PkG.cons 2 rfl rfl ?_ | refine PkG.cons 3 rfl rfl ?_ | refine PkG.cons 4 rfl rfl ?_)
                ·
                  clear F M; clear a; (try clear w)
                  rintro ⟨nd, m, way2, v⟩ a w ⟨hnd, hm, hw2, hsub, hsq⟩ F M; try dsimp only at F M
                  try simp only [List.cons_append, List.nil_append] at F M
                  try dsimp only at hnd hm hw2 hsub hsq
                  obtain ⟨A, c, rfl⟩ := SlOk.form M.h1
                  refine wp_region_t [.ind, .ind, .ind, .ind, .ind, .ind, .ind, .rd, .rd, .wr, .wr, .ind] [] (otOf [0, 1, 2, 3, 4, 5, 6, 7, 8, 9, 10, 11]) mixed (by kernel_rfl) ?_
                  refine s_I F rfl rfl rfl rfl rfl rfl ?_; clear F a; intro a F
                  refine s_I F rfl rfl rfl rfl rfl rfl ?_; clear F a; intro a F
                  refine s_I F rfl rfl rfl rfl rfl rfl ?_; clear F a; intro a F
                  refine s_add F rfl rfl rfl rfl rfl rfl (by unfold In64; omega) ?_; clear F a; intro a F
                  refine s_I F rfl rfl rfl rfl rfl rfl ?_; clear F a; intro a F
                  refine s_I F rfl rfl rfl rfl rfl rfl ?_; clear F a; intro a F
                  refine s_ix F rfl rfl rfl rfl sl_81_K14 rfl rfl (by exact SlOk.rd M.h3) (by omega) (by omega) ?_; clear F a; intro e153 he153 a F
                  try (obtain rfl := Option.some.inj (he90.symm.trans he153))
                  refine s_ld F rfl rfl rfl rfl sc_58_K14 rfl (by exact rdX0 (SlOk.rd M.h3) (by intro e; rfl) he153 rfl) ?_; clear F a; intro a F
                  refine s_lda F rfl rfl rfl rfl ag_70_K14 rfl rfl (cells_whole M.h0) ?_; clear F a; intro a F
                  rw [Int.toNat_natCast] at he153
                  obtain ⟨g1, hg1, hgb1⟩ := g_at hgs he153
                  obtain ⟨K1, hK1⟩ : ∃ K0, Ks[nd]? = some K0 := ⟨Ks[nd]'(by omega), List.getElem?_eq_getElem _⟩
                  obtain ⟨W1, hn1⟩ := sys_wf Y hK1
                  have M1 : Sep _ _ _ (bigR kZ _ :: _) := M.f2; replace M := M1; clear M1
                  replace M := M.bigOut (zip_at hg1 hK1)
                  have M1 : Sep _ _ _ (kR g1 K1 :: _) := M; replace M := M1; clear M1
                  refine s_call (m := [_]) F M rfl rfl rfl rfl rfl (rfl : _ = some [_, _]) cb_29_K14 (fun nd_ => c29b g1 hgb1 K1 W1 (fun j => by have := hB K1 (List.mem_of_getElem? hK1) j; omega) m (by have := hsq.2; omega) _ (M.drewN nd_).own.one) ?_; (clear F a M; try clear w); rintro v x3 w ⟨rfl, hb3⟩ M a F; (try simp only [List.cons_append, List.nil_append] at M)
                  obtain ⟨y3, g3⟩ := x3
                  dsimp only at hb3 M F
                  obtain ⟨yA, yC, rfl⟩ := SlOk.form M.h1
                  have M1 : Sep _ _ _ (bigR kZ _ :: _) := M.f2; replace M := M1; clear M1
                  have M1 : Sep _ _ _ (kR _ _ :: _) := M.f1; replace M := M1; clear M1
                  replace M := Sep.bigIn (f := kZ) (xs := gs.zip Ks) (i := nd) (y := (g3, (K1.take m).1)) M (by rw [List.length_zip]; omega)
                  rw [zip_set] at M
                  refine s_call (m := []) F M rfl rfl rfl rfl rfl (rfl : _ = some [_, _, _, _]) cb_34_K14 (fun nd_ => c34 way2 h ((nd : Int) + 1) (K1.take m).2 _ _ _ (by exact SlOk.rd M.h3) (by exact SlOk.rd M.h1) (takeO_len _ _) hh7 (by omega)) ?_; (clear F a M; try clear w); rintro v y w rfl M a F; (try simp only [List.cons_append, List.nil_append] at M)
                  obtain ⟨Aw, cw, rfl⟩ := SlOk.form M.h0
                  refine s_I F rfl rfl rfl rfl rfl rfl ?_; clear F a; intro a F
                  refine t_endM M ?_; (clear M; try clear w); intro w M
                  replace F := F.keep [0, 1, 2, 3, 7, 8, 9, 10, 11, 12, 13, 14, 15, 16] rfl
                  refine wp_region_l [.ind, .ind, .ind] ([0, 1, 2]) rfl ?_
                  refine s_I F rfl rfl rfl rfl rfl rfl ?_; clear F a; intro a F
                  refine s_add F rfl rfl rfl rfl rfl rfl (by unfold In64; omega) ?_; clear F a; intro a F
                  refine s_I F rfl rfl rfl rfl rfl rfl ?_; clear F a; intro a F
                  refine t_endM M ?_; (clear M; try clear w); intro w M
                  refine again ((i + 1), (gs.set nd g3), (Ks.set nd (K1.take m).1), (ontoW way2 h ((nd : Int) + 1) (K1.take m).2), (_), (_)) (by show _ < _; (try dsimp only); omega) ⟨(by omega), (by assumption), (map_set_b hgs hg1 (hb3.trans hgb1.symm)), (by have := ontoW_le (way := way2) (h := h) (frm := (nd : Int) + 1) (takeO_len K1 m) hh7; omega), (ontoW_seq hsw hsub hsq), (ontoW_node hnw hsub), (hB_set hB hK1 (by omega)), (by have hT := Y.take (w := m) hK1 (fun hm => wf_mid W1 hm) hsub (by rw [hlen]; exact hm) (take_n K1 m) (take_t K1 m); rw [hlen] at hT; exact hT)⟩ (F.keep [11, 14, 0, 1, 2, 3, 7, 8, 9, 10, 12, 13] rfl) ?_
                  try dsimp only [List.cons_append, List.nil_append]
                  refine M.pick ?_; repeat (first | exact PkG.nil | refine PkG.cons 0 rfl rfl ?_ | refine PkG.cons 1 rfl rfl ?_ | refine PkG.cons 5 rfl rfl ?_ | refine PkG.cons 6 rfl rfl ?_)
            ·
              clear F; intro hc19 F
              try rw [hc19] at F
              replace hc19 := of_decide_eq_false hc19
              refine wp_exit ?_
              refine wp_seq ?_
              refine wp_seq ?_
              replace F := F.keep [0, 1, 2, 3, 7, 8, 9, 10, 11, 12, 13, 14] rfl
              refine wp_region_l [.ind] ([0]) rfl ?_
              refine s_I F rfl rfl rfl rfl rfl rfl ?_; clear F a; intro a F
              refine t_endM M ?_; (clear M; try clear w); intro w M
              refine wp_block ?_
              refine loopX (X := (Int)) F [0, 1, 2, 3, 7, 8, 9, 10, 11, 12, 13, 14] rfl (fun (s : Int) => (1 ≤ s) ∧ (s ≤ n + 1)) (fun (s : Int) => [(18, .int .i64 s)]) (fun (s : Int) => []) (fun (s : Int) => (n + 1 - s).toNat) (1) M ⟨(by omega), (by omega)⟩ (F.keep [18, 0, 1, 2, 3, 7, 8, 9, 10, 11, 12, 13, 14] rfl) ?_
              clear F M; clear a; (try clear w)
              rintro s a w ⟨s0, s1⟩ F M; try dsimp only at F M
              try simp only [List.cons_append, List.nil_append] at F M
              try dsimp only at s0 s1
              refine wp_seq ?_
              refine wp_seq ?_
              refine wp_region_l [.ind, .ind, .ind] ([0, 1, 2]) rfl ?_
              refine s_I F rfl rfl rfl rfl rfl rfl ?_; clear F a; intro a F
              refine s_I F rfl rfl rfl rfl rfl rfl ?_; clear F a; intro a F
              refine s_bin F rfl rfl rfl rfl rfl rfl rfl ?_; clear F a; intro a F
              refine t_endM M ?_; (clear M; try clear w); intro w M
              refine c_if F rfl ?_ ?_
              ·
                clear F; intro hc20 F
                try rw [hc20] at F
                replace hc20 := of_decide_eq_true hc20
                refine wp_skip ?_
                refine wp_seq ?_
                refine wp_block ?_
                refine wp_seq ?_
                replace F := F.keep [0, 1, 2, 3, 7, 8, 9, 10, 11, 12, 13, 14, 18] rfl
                refine wp_region_l [.ind] ([0]) rfl ?_
                refine s_I F rfl rfl rfl rfl rfl rfl ?_; clear F a; intro a F
                refine t_endM M ?_; (clear M; try clear w); intro w M
                refine wp_block ?_
                refine loopX (X := (Int)) F [0, 1, 2, 3, 7, 8, 9, 10, 11, 12, 13, 14, 18] rfl (fun (i : Int) => (0 ≤ i) ∧ (i ≤ h)) (fun (i : Int) => [(19, .int .i64 i)]) (fun (i : Int) => []) (fun (i : Int) => h - i.toNat) (0) M ⟨(by omega), (by omega)⟩ (F.keep [19, 0, 1, 2, 3, 7, 8, 9, 10, 11, 12, 13, 14, 18] rfl) ?_
                clear F M; clear a; (try clear w)
                rintro i a w ⟨j0, j1⟩ F M; try dsimp only at F M
                try simp only [List.cons_append, List.nil_append] at F M
                try dsimp only at j0 j1
                refine wp_seq ?_
                refine wp_seq ?_
                refine wp_region_l [.ind, .ind, .ind] ([0, 1, 2]) rfl ?_
                refine s_I F rfl rfl rfl rfl rfl rfl ?_; clear F a; intro a F
                refine s_I F rfl rfl rfl rfl rfl rfl ?_; clear F a; intro a F
                refine s_bin F rfl rfl rfl rfl rfl rfl rfl ?_; clear F a; intro a F
                refine t_endM M ?_; (clear M; try clear w); intro w M
                refine c_if F rfl ?_ ?_
                ·
                  clear F; intro hc21 F
                  try rw [hc21] at F
                  replace hc21 := of_decide_eq_true hc21
                  refine wp_skip ?_
                  refine wp_seq ?_
                  refine wp_block ?_
                  refine wp_seq ?_
                  replace F := F.keep [0, 1, 2, 3, 7, 8, 9, 10, 11, 12, 13, 14, 18, 19] rfl
                  refine wp_region_l [.ind] ([0]) rfl ?_
                  refine s_I F rfl rfl rfl rfl rfl rfl ?_; clear F a; intro a F
                  refine t_endM M ?_; (clear M; try clear w); intro w M
                  refine wp_block ?_
                  refine loopX (X := (Int)) F [0, 1, 2, 3, 7, 8, 9, 10, 11, 12, 13, 14, 18, 19] rfl (fun (k : Int) => (0 ≤ k) ∧ (k ≤ i)) (fun (k : Int) => [(20, .int .i64 k)]) (fun (k : Int) => []) (fun (k : Int) => h - k.toNat) (0) M ⟨(by omega), (by assumption)⟩ (F.keep [20, 0, 1, 2, 3, 7, 8, 9, 10, 11, 12, 13, 14, 18, 19] rfl) ?_
                  clear F M; clear a; (try clear w)
                  rintro k a w ⟨k0, k1⟩ F M; try dsimp only at F M
                  try simp only [List.cons_append, List.nil_append] at F M
                  try dsimp only at k0 k1
                  refine wp_seq ?_
                  refine wp_seq ?_
                  refine wp_region_l [.ind, .ind, .ind] ([0, 1, 2]) rfl ?_
                  refine s_I F rfl rfl rfl rfl rfl rfl ?_; clear F a; intro a F
                  refine s_I F rfl rfl rfl rfl rfl rfl ?_; clear F a; intro a F
                  refine s_bin F rfl rfl rfl rfl rfl rfl rfl ?_; clear F a; intro a F
                  refine t_endM M ?_; (clear M; try clear w); intro w M
                  refine c_if F rfl ?_ ?_
                  ·
                    clear F; intro hc22 F
                    try rw [hc22] at F
                    replace hc22 := of_decide_eq_true hc22
                    refine wp_skip ?_
                    refine wp_seq ?_
                    refine wp_block ?_
                    refine wp_seq ?_
                    replace F := F.keep [0, 1, 2, 3, 7, 8, 9, 10, 11, 12, 13, 14, 18, 19, 20] rfl
                    refine wp_region_t [.ind, .ind, .ind, .rd, .ind, .wr, .ind, .ind, .ind, .rd, .ind, .wr, .ind, .ind] [(9, 5)] (otOf [0, 1, 2, 3, 4, 6, 7, 8, 9, 10, 5, 11, 12, 13]) mixed (by kernel_rfl) ?_
                    refine s_I F rfl rfl rfl rfl rfl rfl ?_; clear F a; intro a F
                    refine s_I F rfl rfl rfl rfl rfl rfl ?_; clear F a; intro a F
                    refine s_ix F rfl rfl rfl rfl sl_81_K14 rfl rfl (by exact SlOk.rd M.h2) (by omega) (by omega) ?_; clear F a; intro e175 he175 a F
                    refine s_ldL F rfl rfl rfl rfl sc_58_K14 rfl (by exact rdX0 (SlOk.rd M.h2) (by intro e; rfl) he175 rfl) ?_; clear F a; intro a F
                    refine s_I F rfl rfl rfl rfl rfl rfl ?_; clear F a; intro a F
                    refine s_I F rfl rfl rfl rfl rfl rfl ?_; clear F a; intro a F
                    refine s_I F rfl rfl rfl rfl rfl rfl ?_; clear F a; intro a F
                    refine s_ix F rfl rfl rfl rfl sl_81_K14 rfl rfl (by exact SlOk.rd M.h2) (by omega) (by omega) ?_; clear F a; intro e181 he181 a F
                    try (obtain rfl := Option.some.inj (he175.symm.trans he181))
                    refine s_ldL F rfl rfl rfl rfl sc_58_K14 rfl (by exact rdX0 (SlOk.rd M.h2) (by intro e; rfl) he181 rfl) ?_; clear F a; intro a F
                    refine s_I F rfl rfl rfl rfl rfl rfl ?_; clear F a; intro a F
                    obtain ⟨g1, hg1, hgb1⟩ := g_at hgs he175
                    obtain ⟨K1, hK1⟩ : ∃ K0, Ks[i.toNat]? = some K0 := ⟨Ks[i.toNat]'(by omega), List.getElem?_eq_getElem _⟩
                    obtain ⟨W1, hn1⟩ := sys_wf Y hK1
                    refine s_callP (m := []) F M rfl rfl rfl rfl rfl (rfl : _ = some [_, _]) cb_32_K14 (fun nd_ => c32t s hgb1 W1 _ (by exact M.h0 ((g1, K1)) (List.mem_of_getElem? (zip_at hg1 hK1))) (fun i_ => by have := hB K1 (List.mem_of_getElem? hK1) i_; omega)) (fun _ x w _ M => by (try simp only [List.cons_append, List.nil_append] at M); exact (by (refine pend_take (by exact rdX0 (SlOk.rd M.h3) (by intro e; rfl) he181 rfl) ?_); (refine pend_skip rfl ?_); exact pend_none)) ?_; (clear F a M; try clear w); rintro v y1 w rfl M a F; (try simp only [List.cons_append, List.nil_append] at M)
                    rw [tld_T hn1 (by omega) (by omega)] at M
                    obtain ⟨yA1, yC1, rfl⟩ := SlOk.form M.h0
                    have hy1 := hB K1 (List.mem_of_getElem? hK1) (s).toNat
                    obtain ⟨g2, hg2, hgb2⟩ := g_at hgs he181
                    obtain ⟨K2, hK2⟩ : ∃ K0, Ks[k.toNat]? = some K0 := ⟨Ks[k.toNat]'(by omega), List.getElem?_eq_getElem _⟩
                    obtain ⟨W2, hn2⟩ := sys_wf Y hK2
                    refine s_callP (m := []) F M rfl rfl rfl rfl rfl (rfl : _ = some [_, _]) cb_32_K14 (fun nd_ => c32t s hgb2 W2 _ (by exact M.h1 ((g2, K2)) (List.mem_of_getElem? (zip_at hg2 hK2))) (fun i_ => by have := hB K2 (List.mem_of_getElem? hK2) i_; omega)) (fun _ x w _ M => by (try simp only [List.cons_append, List.nil_append] at M); exact (by (refine pend_skip rfl ?_); (refine pend_skip rfl ?_); exact pend_none)) ?_; (clear F a M; try clear w); rintro v y2 w rfl M a F; (try simp only [List.cons_append, List.nil_append] at M)
                    rw [tld_T hn2 (by omega) (by omega)] at M
                    obtain ⟨yA2, yC2, rfl⟩ := SlOk.form M.h0
                    have hy2 := hB K2 (List.mem_of_getElem? hK2) (s).toNat
                    refine s_I F rfl rfl rfl rfl rfl rfl ?_; clear F a; intro a F
                    refine s_I F rfl rfl rfl rfl rfl rfl ?_; clear F a; intro a F
                    refine t_endM M ?_; (clear M; try clear w); intro w M
                    refine wp_seq ?_
                    replace F := F.keep [0, 1, 2, 3, 7, 8, 9, 10, 11, 12, 13, 14, 18, 19, 20, 21, 22] rfl
                    refine wp_region_l [.ind, .ind, .ind, .ind, .ind, .ind] ([0, 1, 2, 3, 4, 5]) rfl ?_
                    refine s_I F rfl rfl rfl rfl rfl rfl ?_; clear F a; intro a F
                    refine s_len F rfl rfl rfl rfl sl_61_K14 rfl ?_; clear F a; intro a F
                    refine s_I F rfl rfl rfl rfl rfl rfl ?_; clear F a; intro a F
                    refine s_len F rfl rfl rfl rfl sl_61_K14 rfl ?_; clear F a; intro a F
                    refine s_min F rfl rfl rfl rfl rfl rfl ?_; clear F a; intro a F
                    refine s_I F rfl rfl rfl rfl rfl rfl ?_; clear F a; intro a F
                    refine t_endM M ?_; (clear M; try clear w); intro w M
                    refine wp_seq ?_
                    replace F := F.keep [0, 1, 2, 3, 7, 8, 9, 10, 11, 12, 13, 14, 18, 19, 20, 21, 22, 23] rfl
                    refine wp_region_t [.ind, .ind, .ind, .ind, .ind, .ind, .wr, .ind] [] (otOf [0, 1, 2, 3, 4, 5, 6, 7]) mixed (by kernel_rfl) ?_
                    refine s_I F rfl rfl rfl rfl rfl rfl ?_; clear F a; intro a F
                    refine s_I F rfl rfl rfl rfl rfl rfl ?_; clear F a; intro a F
                    refine s_slc F rfl rfl rfl rfl sl_61_K14 rfl rfl rfl (by exact SlOk.rd M.h1) (by omega) (by omega) (by omega) ?_; clear F a; intro a F
                    refine s_I F rfl rfl rfl rfl rfl rfl ?_; clear F a; intro a F
                    refine s_I F rfl rfl rfl rfl rfl rfl ?_; clear F a; intro a F
                    refine s_slc F rfl rfl rfl rfl sl_61_K14 rfl rfl rfl (by exact SlOk.rd M.h0) (by omega) (by omega) (by omega) ?_; clear F a; intro a F
                    refine s_cq F M rfl rfl rfl rfl rfl (rfl : _ = some [_, _]) cb_31_K14 (fun nd_ => c31 ((K1.T s.toNat).take (min ((K1.T s.toNat).length : Int) ((K2.T s.toNat).length : Int)).toNat) ((K2.T s.toNat).take (min ((K1.T s.toNat).length : Int) ((K2.T s.toNat).length : Int)).toNat) _ _ _ (by exact RdSl.pre (SlOk.rd M.h1) (by intro e; rfl) _ (by omega)) (by exact RdSl.pre (SlOk.rd M.h0) (by intro e; rfl) _ (by omega)) (by rw [List.length_take]; omega)) ?_; (clear F a M; try clear w); rintro v w rfl M a F
                    rw [decide_eq_true (Y.agree hK1 hK2 (by omega) (by omega) (by omega) (by omega))] at F
                    refine s_I F rfl rfl rfl rfl rfl rfl ?_; clear F a; intro a F
                    refine t_endM M ?_; (clear M; try clear w); intro w M
                    refine c_if F rfl ?_ ?_
                    ·
                      clear F; intro hc23 F
                      try rw [hc23] at F
                      replace hc23 := nt hc23
                      cases hc23
                    ·
                      clear F; intro hc24 F
                      try rw [hc24] at F
                      replace hc24 := nf hc24
                      refine wp_skip ?_
                      replace F := F.keep [0, 1, 2, 3, 7, 8, 9, 10, 11, 12, 13, 14, 18, 19, 20, 21, 22, 23] rfl
                      refine wp_region_l [.ind, .ind, .ind] ([0, 1, 2]) rfl ?_
                      refine s_I F rfl rfl rfl rfl rfl rfl ?_; clear F a; intro a F
                      refine s_add F rfl rfl rfl rfl rfl rfl (by unfold In64; omega) ?_; clear F a; intro a F
                      refine s_I F rfl rfl rfl rfl rfl rfl ?_; clear F a; intro a F
                      refine t_endM M ?_; (clear M; try clear w); intro w M
                      refine again (k + 1) (by show _ < _; (try dsimp only); omega) ⟨(by omega), (by assumption)⟩ (F.keep [20, 0, 1, 2, 3, 7, 8, 9, 10, 11, 12, 13, 14, 18, 19] rfl) ?_
                      try dsimp only [List.cons_append, List.nil_append]
                      refine M.pick ?_; repeat (first | exact PkG.nil | refine PkG.cons 2 rfl rfl ?_ | refine PkG.cons 3 rfl rfl ?_ | refine PkG.cons 4 rfl rfl ?_ | refine PkG.cons 5 rfl rfl ?_)
                  ·
                    clear F; intro hc25 F
                    try rw [hc25] at F
                    replace hc25 := of_decide_eq_false hc25
                    refine wp_exit ?_
                    replace F := F.keep [0, 1, 2, 3, 7, 8, 9, 10, 11, 12, 13, 14, 18, 19, 20] rfl
                    refine wp_region_l [.ind, .ind, .ind] ([0, 1, 2]) rfl ?_
                    refine s_I F rfl rfl rfl rfl rfl rfl ?_; clear F a; intro a F
                    refine s_add F rfl rfl rfl rfl rfl rfl (by unfold In64; omega) ?_; clear F a; intro a F
                    refine s_I F rfl rfl rfl rfl rfl rfl ?_; clear F a; intro a F
                    refine t_endM M ?_; (clear M; try clear w); intro w M
                    refine again (i + 1) (by show _ < _; (try dsimp only); omega) ⟨(by omega), (by assumption)⟩ (F.keep [19, 0, 1, 2, 3, 7, 8, 9, 10, 11, 12, 13, 14, 18] rfl) ?_
                    try dsimp only [List.cons_append, List.nil_append]
                    refine M.pick ?_; repeat (first | exact PkG.nil | refine PkG.cons 0 rfl rfl ?_ | refine PkG.cons 1 rfl rfl ?_ | refine PkG.cons 2 rfl rfl ?_ | refine PkG.cons 3 rfl rfl ?_)
                ·
                  clear F; intro hc26 F
                  try rw [hc26] at F
                  replace hc26 := of_decide_eq_false hc26
                  refine wp_exit ?_
                  replace F := F.keep [0, 1, 2, 3, 7, 8, 9, 10, 11, 12, 13, 14, 18, 19] rfl
                  refine wp_region_l [.ind, .ind, .ind] ([0, 1, 2]) rfl ?_
                  refine s_I F rfl rfl rfl rfl rfl rfl ?_; clear F a; intro a F
                  refine s_add F rfl rfl rfl rfl rfl rfl (by unfold In64; omega) ?_; clear F a; intro a F
                  refine s_I F rfl rfl rfl rfl rfl rfl ?_; clear F a; intro a F
                  refine t_endM M ?_; (clear M; try clear w); intro w M
                  refine again (s + 1) (by show _ < _; (try dsimp only); omega) ⟨(by omega), (by omega)⟩ (F.keep [18, 0, 1, 2, 3, 7, 8, 9, 10, 11, 12, 13, 14] rfl) ?_
                  try dsimp only [List.cons_append, List.nil_append]
                  refine M.pick ?_; repeat (first | exact PkG.nil | refine PkG.cons 0 rfl rfl ?_ | refine PkG.cons 1 rfl rfl ?_ | refine PkG.cons 2 rfl rfl ?_ | refine PkG.cons 3 rfl rfl ?_)
              ·
                clear F; intro hc27 F
                try rw [hc27] at F
                replace hc27 := of_decide_eq_false hc27
                refine wp_exit ?_
                refine wp_seq ?_
                have hl0 : 0 < h := by omega
                replace F := F.keep [0, 1, 2, 3, 7, 8, 9, 10, 11, 12, 13, 14, 18] rfl
                refine wp_region_l [.ind, .ind, .rd, .wr, .ind] ([0, 1, 2, 3, 4]) rfl ?_
                refine s_I F rfl rfl rfl rfl rfl rfl ?_; clear F a; intro a F
                refine s_ix F rfl rfl rfl rfl sl_81_K14 rfl rfl (by exact SlOk.rd M.h2) (by omega) (by omega) ?_; clear F a; intro e199 he199 a F
                refine s_ld F rfl rfl rfl rfl sc_58_K14 rfl (by exact rdX0 (SlOk.rd M.h2) (by intro e; rfl) he199 rfl) ?_; clear F a; intro a F
                obtain ⟨g3, hg3, hgb3⟩ := g_at hgs he199
                obtain ⟨K3, hK3⟩ : ∃ K0, Ks[(0 : Int).toNat]? = some K0 := ⟨Ks[(0 : Int).toNat]'(by omega), List.getElem?_eq_getElem _⟩
                obtain ⟨W3, hn3⟩ := sys_wf Y hK3
                refine s_call (m := []) F M rfl rfl rfl rfl rfl (rfl : _ = some [_, _]) cb_32_K14 (fun nd_ => c32t (1 : Int) hgb3 W3 _ (by exact M.h0 ((g3, K3)) (List.mem_of_getElem? (zip_at hg3 hK3))) (fun i_ => by have := hB K3 (List.mem_of_getElem? hK3) i_; omega)) ?_; (clear F a M; try clear w); rintro v y3 w rfl M a F; (try simp only [List.cons_append, List.nil_append] at M)
                rw [tld_T hn3 (by omega) (by omega)] at M
                obtain ⟨yA3, yC3, rfl⟩ := SlOk.form M.h0
                have hy3 := hB K3 (List.mem_of_getElem? hK3) 1
                refine s_I F rfl rfl rfl rfl rfl rfl ?_; clear F a; intro a F
                refine t_endM M ?_; (clear M; try clear w); intro w M
                refine wp_seq ?_
                replace F := F.keep [0, 1, 2, 3, 7, 8, 9, 10, 11, 12, 13, 14, 18, 24] rfl
                refine wp_region_l [.ind, .ind, .ind, .ind, .ind, .ind, .ind, .ind, .ind, .ind, .ind, .wr, .ind, .ind, .wr, .ind, .ind] ([0, 1, 2, 3, 4, 5, 6, 7, 8, 9, 10, 11, 12, 13, 14, 15, 16]) rfl ?_
                refine s_I F rfl rfl rfl rfl rfl rfl ?_; clear F a; intro a F
                refine s_len F rfl rfl rfl rfl sl_61_K14 rfl ?_; clear F a; intro a F
                refine s_I F rfl rfl rfl rfl rfl rfl ?_; clear F a; intro a F
                refine s_len F rfl rfl rfl rfl sl_61_K14 rfl ?_; clear F a; intro a F
                refine s_bin F rfl rfl rfl rfl rfl rfl rfl ?_; clear F a; intro a F
                refine s_I F rfl rfl rfl rfl rfl rfl ?_; clear F a; intro a F
                refine bsplit F 207 rfl ?_ ?_
                ·
                  clear F; intro hc28 F
                  try rw [hc28] at F
                  replace hc28 := of_decide_eq_true hc28
                  refine s_I F rfl rfl rfl rfl rfl rfl ?_; clear F a; intro a F
                  refine s_I F rfl rfl rfl rfl rfl rfl ?_; clear F a; intro a F
                  refine s_I F rfl rfl rfl rfl rfl rfl ?_; clear F a; intro a F
                  refine s_len F rfl rfl rfl rfl sl_61_K14 rfl ?_; clear F a; intro a F
                  refine s_slc F rfl rfl rfl rfl sl_61_K14 rfl rfl rfl (by exact M.chg.ro hro1) (by omega) (by omega) (by omega) ?_; clear F a; intro a F
                  refine s_cq F M rfl rfl rfl rfl rfl (rfl : _ = some [_, _]) cb_31_K14 (fun nd_ => c31 (K3.T 1) (xs.take ((K3.T 1).length : Int).toNat) _ _ _ (by exact SlOk.rd M.h0) (RdSl.pre (M.chg.ro hro1) (by intro e; rfl) _ (by omega)) (by omega)) ?_; (clear F a M; try clear w); rintro v w rfl M a F
                  rw [decide_eq_true (by have := (Y.valid (by omega) hK3).2; rwa [Int.toNat_natCast])] at F
                  replace F : Fr _ _ ((213, Value.bool true) :: _) := F
                  refine s_I F rfl rfl rfl rfl rfl rfl ?_; clear F a; intro a F
                  refine s_I F rfl rfl rfl rfl rfl rfl ?_; clear F a; intro a F
                  refine s_cq F M rfl rfl rfl rfl rfl (rfl : _ = some []) cb_24_K14 (fun nd_ => c24 _) ?_; (clear F a M; try clear w); rintro v w rfl M a F
                  replace F : Fr _ _ ((216, Value.bool true) :: _) := F
                  refine s_I F rfl rfl rfl rfl rfl rfl ?_; clear F a; intro a F
                  refine s_I F rfl rfl rfl rfl rfl rfl ?_; clear F a; intro a F
                  refine t_endM M ?_; (clear M; try clear w); intro w M
                  refine wp_ret ?_
                  refine ret1 F rfl rfl ?_
                  -- end 4
                  exact ⟨_, rfl, rfl, M.chg⟩
                ·
                  clear F; intro hc29 F
                  try rw [hc29] at F
                  replace hc29 := of_decide_eq_false hc29
                  exfalso
                  have h5 : (K3.T (Int.toNat 1)).length ≤ xs.length := (Y.valid (by omega) hK3).1
                  omega
end Go.Proofs.Ytibomfgeemhogaa
