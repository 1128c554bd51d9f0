/- K4 of the seat. -/
import Derived.Test.YtibomfgeemhogaaK3
namespace Go.Proofs.Ytibomfgeemhogaa
open Go Fw
theorem fa_70_0_K4 : FA Try.prog 70 0 0 := fun _ _ _ => by kernel_rfl
theorem sc_3_K4 : scalB Try.prog 3 = true := by kernel_rfl
theorem cb_41_K4 : callB Try.prog 41 = true := by kernel_rfl
theorem fa_102_3_K4 : FA Try.prog 102 3 3 := fun _ _ _ => by kernel_rfl
theorem ar_62_K4 : arrB Try.prog 62 = some (8, 1) := by kernel_rfl
theorem sc_61_K4 : scalB Try.prog 61 = true := by kernel_rfl
theorem sl_61_K4 : slcB Try.prog 61 = some (9, 1) := by kernel_rfl
theorem fa_70_1_K4 : FA Try.prog 70 1 1 := fun _ _ _ => by kernel_rfl
theorem bl_111_0_1_K4 : ∀ (x0 : Int) (x1 : Int), ∀ w : World, (Instr.build 111 #[(0, .int .i64 x0), (1, .int .i64 x1)]).run Try.prog w = .ok (.agg #[.int .i64 x0, .int .i64 x1]) w := by intros; kernel_rfl
theorem fa_70_2_K4 : FA Try.prog 70 2 2 := fun _ _ _ => by kernel_rfl
theorem ag_38_K4 : aggB Try.prog 38 = some 3 := by kernel_rfl
theorem cb_42_K4 : callB Try.prog 42 = true := by kernel_rfl
theorem cb_21_K4 : callB Try.prog 21 = true := by kernel_rfl
theorem sl_27_K4 : slcB Try.prog 27 = some (38, 3) := by kernel_rfl
theorem zr_38_K4 : zeroB Try.prog 38 = some (.agg #[.int .i64 0, .int .i64 0, .string { data := #[] }]) := by kernel_rfl
theorem sz_38_K4 : sizeB Try.prog 38 = some 3 := by kernel_rfl
theorem bl_70_0_1_2_K4 : ∀ (x0 : Int) (x1 : Int) (x2_0 : Int) (x2_1 : Int) (x2_2 : ByteArray), ∀ w : World, (Instr.build 70 #[(0, .int .i64 x0), (1, .int .i64 x1), (2, .agg #[.int .i64 x2_0, .int .i64 x2_1, .string x2_2])]).run Try.prog w = .ok (.agg #[.int .i64 x0, .int .i64 x1, .int .i64 x2_0, .int .i64 x2_1, .string x2_2]) w := by intros; kernel_rfl
theorem bs_56_1_K4 : ∀ (x0_0 : Int) (x0_1 : Int) (x0_2_0 : Int) (x0_2_1 : Int) (x0_2_2 : ByteArray), News Try.prog (Instr.buildSlice 56 1 #[(0, .agg #[.int .i64 x0_0, .int .i64 x0_1, .int .i64 x0_2_0, .int .i64 x0_2_1, .string x0_2_2])]) (.cells #[.int .i64 x0_0, .int .i64 x0_1, .int .i64 x0_2_0, .int .i64 x0_2_1, .string x0_2_2] 70) fun b => .slice (some ⟨b, 0, none⟩) 1 1 := by intros; intro w; kernel_rfl
theorem tl_56_K4 : SlT Try.prog 56 70 5 48 (.agg #[.int .i64 0, .int .i64 0, .int .i64 0, .int .i64 0, .string { data := #[] }]) := ⟨by kernel_rfl, by kernel_rfl, by kernel_rfl, by kernel_rfl, by decide⟩
theorem cb_43_K4 : callB Try.prog 43 = true := by kernel_rfl
open CastM CasM

theorem Fw.Cl.monoM {α : Type} {P : Program} {f : FuncId} {args : Array Value} {w : World} {m : List Res} {p p' : Value → α → Prop} {mm mm' : α → List Res} (h : Cl P f args w (RetS m w p mm)) (hp : ∀ v x, p v x → p' v x) (hm : ∀ x, mm x = mm' x) : Cl P f args w (RetS m w p' mm') :=
  ⟨h.out.mono fun _ _ ⟨v, x, e, hp', hc⟩ => ⟨v, x, e, hp v x hp', hm x ▸ hc⟩⟩
theorem c43 (g : Gh) (K : KSt) (f : Int) (h1 : 1 ≤ f) (h2 : f ≤ 7) (hT : ∀ i, (K.T i).length ≤ 1000) (hn : K.ks.Nodup) (w0 : World) (ho : Own w0.heap [kR g K]) :
    Cl Try.prog 43 #[.pointer (some ⟨g.b, 0, none⟩), .int .i64 f] w0 (RetS [kR g K] w0 (fun v (_ : Nat → Value) => v = .bool (K.due f)) fun e => [kR { g with tv := e } (if K.due f = true then K.tell f else K)]) := by
  by_cases hk : (f, K.len f) ∈ K.ks
  · cases hd : (K.C (f, K.len f)).done
    · have e : K.due f = false := by unfold KSt.due; rw [hd]; simp
      rw [e]
      exact (c43b g K f h1 h2 hk hd w0 ho).monoM (fun _ _ h => h) fun x => by rw [if_neg (by simp)]
    · have e : K.due f = true := by unfold KSt.due; rw [hd]; simp [hk]
      rw [e]
      exact (c43c g K f h1 h2 hT hn hk hd w0 ho).monoM (fun _ _ h => h) fun x => by rw [if_pos rfl]
  · have e : K.due f = false := by unfold KSt.due; simp [hk]
    rw [e]
    exact (c43a g K f h1 h2 hk w0 ho).monoM (fun _ _ h => h) fun x => by rw [if_neg (by simp)]
theorem c43b' {b : Nat} (g : Gh) (hb : g.b = b) (K : KSt) (f : Int) (h1 : 1 ≤ f) (h2 : f ≤ 7) (hT : ∀ i, (K.T i).length ≤ 1000) (hn : K.ks.Nodup) (w0 : World) (ho : Own w0.heap [kR g K]) :
    Cl Try.prog 43 #[.pointer (some ⟨b, 0, none⟩), .int .i64 f] w0 (RetS [kR g K] w0 (fun v (_ : Nat → Value) => v = .bool (K.due f)) fun e => [kR { g with tv := e } (if K.due f = true then K.tell f else K)]) := by
  subst hb
  exact c43 g K f h1 h2 hT hn w0 ho
theorem wf_take {c : CSt} (W : c.Wf) (m : Msg) : (c.take m).1.Wf := by
  cases h : c.counts m
  · rw [take_no h]; exact W
  · rw [take_yes h]; exact W.stp h
theorem out_le (c : CSt) (m : Msg) : (c.take m).2.length ≤ 2 := by
  cases h : c.counts m
  · rw [take_no h]; simp
  · rw [take_yes h]
    show (out1 m ++ out2 c m).length ≤ 2
    unfold out1 out2
    split <;> split <;> simp
theorem wf_mid {K : KSt} (W : K.Wf) {q : Wd} (h : K.may q = true) : (K.mid q).Wf := by
  obtain ⟨h1, h2, h3, h4⟩ := may_spec h
  have W1 := W.open1 (k := (q.frm, q.seq)) h1 h2 h3 h4 fun f f1 f2 => new_wf W.q f1 f2
  exact W1.set (wf_take (W1.cw _ open1_mem) q.m)
theorem mid_le (K : KSt) (q : Wd) : (K.mid q).ks.length ≤ K.ks.length + 1 := by
  show (K.open1 (q.frm, q.seq)).ks.length ≤ _
  unfold KSt.open1
  split
  · omega
  · simp
theorem mid_T (K : KSt) (q : Wd) : (K.mid q).T = K.T := open1_T
theorem tell_lt {K : KSt} {f : Int} (hd : K.due f = true) : (K.tell f).ks.length < K.ks.length := by
  have hm := (due_spec hd).1
  have e : (K.tell f).ks.length = K.ks.length - 1 := by show (K.ks.erase _).length = _; rw [List.length_erase_of_mem hm]
  have hp : 0 < K.ks.length := List.length_pos_of_mem hm
  omega
theorem tell_le {K : KSt} {f : Int} {N : Nat} (h : ∀ i, (K.T i).length + K.ks.length ≤ N) (hd : K.due f = true) : ∀ i, ((K.tell f).T i).length + (K.tell f).ks.length ≤ N := by
  intro i
  have hm := (due_spec hd).1
  have e : (K.tell f).ks.length = K.ks.length - 1 := by show (K.ks.erase _).length = _; rw [List.length_erase_of_mem hm]
  have hp : 0 < K.ks.length := List.length_pos_of_mem hm
  have := h i
  have e2 : ((K.tell f).T i).length ≤ (K.T i).length + 1 := by
    show (upd1 K.T f.toNat (K.T f.toNat ++ [_]) i).length ≤ _
    by_cases hi : i = f.toNat
    · subst hi; rw [upd1_at]; simp
    · rw [upd1_ne hi]; omega
  omega
def outsD (q : Wd) (l : List Msg) : List Wd := l.map fun m => ⟨q.frm, q.seq, m⟩

set_option maxRecDepth 100000 in
set_option maxHeartbeats 2000000 in
theorem c29 (g : Gh) (K : KSt) (W : K.Wf) (hT : ∀ i, (K.T i).length + K.ks.length ≤ 900) (q : Wd) (hs : q.seq < 9223372036854775808) (w0 : World) (ho : Own w0.heap [kR g K]) : Cl Try.prog 29 #[.pointer (some ⟨g.b, 0, none⟩), wdV q] w0 (RetS [kR g K] w0 (fun v (x : Value × Gh) => v = x.1 ∧ x.2.b = g.b) fun x => [kR x.2 (K.take q).1, slR x.1 (K.take q).2.length 70 5 ((K.take q).2.flatMap encD)]) := by
  have M : Sep (fun b_ => b_ ∈ foots [kR g K]) w0 w0 _ := Sep.start ho
  obtain ⟨q0, q1, q2, q3⟩ := q_spec W.q
  refine enter (vs := [_, _]) Try.func29 rfl rfl rfl ?_
  intro a F
  refine wp_seq ?_
  refine wp_region_l [.wr, .ind] ([0, 1]) rfl ?_
  refine s_bxA F M rfl rfl rfl rfl rfl ?_; (clear F a M; try clear w); intro b3 w M a F
  refine s_I F rfl rfl rfl rfl rfl rfl ?_; clear F a; intro a F
  refine t_endM M ?_; (clear M; try clear w); intro w M
  refine wp_seq ?_
  refine wp_seq ?_
  refine wp_region_l [.ind, .ind, .rd, .wr, .ind] ([0, 1, 2, 3, 4]) rfl ?_
  refine s_I F rfl rfl rfl rfl rfl rfl ?_; clear F a; intro a F
  refine s_fa0 F rfl rfl rfl rfl fa_70_0_K4 rfl ?_; clear F a; intro a F
  refine s_ld F rfl rfl rfl rfl sc_3_K4 rfl (by exact cell_of_blk M.h0 (lit rfl)) ?_; clear F a; intro a F
  refine s_cq F M rfl rfl rfl rfl rfl (rfl : _ = some [_, _]) cb_41_K4 (fun nd_ => c41 _ g K W _ (by exact M.h1)) ?_; (clear F a M; try clear w); rintro v w rfl M a F
  refine s_I F rfl rfl rfl rfl rfl rfl ?_; clear F a; intro a F
  refine t_endM M ?_; (clear M; try clear w); intro w M
  refine c_if F rfl ?_ ?_
  ·
    clear F; intro hc0 F
    try rw [hc0] at F
    replace hc0 := nt hc0
    refine wp_seq ?_
    replace F := F.keep [0, 1, 3, 4] rfl
    refine wp_region_l [.ind] ([0]) rfl ?_
    refine s_I F rfl rfl rfl rfl rfl rfl ?_; clear F a; intro a F
    refine t_endM M ?_; (clear M; try clear w); intro w M
    refine wp_ret ?_
    refine ret1 F rfl rfl ?_
    -- end 0
    have hno : K.take q = (K, []) := by unfold KSt.take; rw [if_neg (by clear M F; grind [KSt.may, KSt.len])]
    refine ⟨_, (.slice none 0 0, g), rfl, ⟨rfl, rfl⟩, ?_⟩
    rw [hno]
    refine Sep.left (r := []) ?_
    replace M := M.nilS 70 5
    refine M.pick ?_; repeat (first | exact PkG.nil | refine PkG.cons 0 rfl rfl ?_ | refine PkG.cons 2 rfl rfl ?_)
  ·
    clear F; intro hc1 F
    try rw [hc1] at F
    replace hc1 := nf hc1
    obtain ⟨hn1, hn2⟩ := node_spec hc1
    obtain ⟨A, cc, htv⟩ := ((k_ok (g := g) (K := K) (by exact M.h1)).t q.frm.toNat (by omega)).form
    refine wp_skip ?_
    refine wp_seq ?_
    replace F := F.keep [0, 1, 3, 4] rfl
    refine wp_region_t [.ind, .ind, .rd, .ind, .ind, .ind, .rd, .ind, .ind] [] (otOf [0, 1, 2, 3, 4, 5, 6, 7, 8]) mixed (by kernel_rfl) ?_
    refine s_I F rfl rfl rfl rfl rfl rfl ?_; clear F a; intro a F
    refine s_fa0 F rfl rfl rfl rfl fa_70_0_K4 rfl ?_; clear F a; intro a F
    refine s_ld F rfl rfl rfl rfl sc_3_K4 rfl (by exact cell_of_blk M.h0 (lit rfl)) ?_; clear F a; intro a F
    refine s_I F rfl rfl rfl rfl rfl rfl ?_; clear F a; intro a F
    refine s_fa0 F rfl rfl rfl rfl fa_102_3_K4 rfl ?_; clear F a; intro a F
    refine s_ia F rfl rfl rfl rfl ar_62_K4 rfl rfl (by omega) (by omega) ?_; clear F a; intro a F
    refine s_ld F rfl rfl rfl rfl sc_61_K4 rfl (by exact cell_of_blk (k_ok M.h1).o (gf (kF_told.trans htv) (by omega))) ?_; clear F a; intro a F
    refine s_len F rfl rfl rfl rfl sl_61_K4 rfl ?_; clear F a; intro a F
    refine s_I F rfl rfl rfl rfl rfl rfl ?_; clear F a; intro a F
    refine t_endM M ?_; (clear M; try clear w); intro w M
    refine wp_seq ?_
    refine wp_seq ?_
    replace F := F.keep [0, 1, 3, 4, 5] rfl
    refine wp_region_l [.ind, .rd, .ind, .ind, .ind, .ind, .rd, .ind, .ind, .ind, .ind] ([0, 1, 2, 3, 4, 5, 6, 7, 8, 9, 10]) rfl ?_
    refine s_fa0 F rfl rfl rfl rfl fa_70_1_K4 rfl ?_; clear F a; intro a F
    refine s_ld F rfl rfl rfl rfl sc_3_K4 rfl (by exact cell_of_blk M.h0 (lit rfl)) ?_; clear F a; intro a F
    refine s_I F rfl rfl rfl rfl rfl rfl ?_; clear F a; intro a F
    refine s_bin F rfl rfl rfl rfl rfl rfl rfl ?_; clear F a; intro a F
    refine s_I F rfl rfl rfl rfl rfl rfl ?_; clear F a; intro a F
    refine bsplit F 27 rfl ?_ ?_
    ·
      clear F; intro hc2 F
      try rw [hc2] at F
      replace hc2 := of_decide_eq_true hc2
      refine s_no F rfl rfl rfl rfl ?_; clear F a; intro a F
      refine s_no F rfl rfl rfl rfl ?_; clear F a; intro a F
      refine s_no F rfl rfl rfl rfl ?_; clear F a; intro a F
      refine s_no F rfl rfl rfl rfl ?_; clear F a; intro a F
      refine s_no F rfl rfl rfl rfl ?_; clear F a; intro a F
      refine s_I F rfl rfl rfl rfl rfl rfl ?_; clear F a; intro a F
      refine t_endM M ?_; (clear M; try clear w); intro w M
      refine c_t F rfl ?_
      refine wp_seq ?_
      replace F := F.keep [0, 1, 3, 4, 5] rfl
      refine wp_region_l [.ind] ([0]) rfl ?_
      refine s_I F rfl rfl rfl rfl rfl rfl ?_; clear F a; intro a F
      refine t_endM M ?_; (clear M; try clear w); intro w M
      refine wp_ret ?_
      refine ret1 F rfl rfl ?_
      -- end 1
      have hno : K.take q = (K, []) := by unfold KSt.take; rw [if_neg (by clear M F; grind [KSt.may, KSt.len])]
      refine ⟨_, (.slice none 0 0, g), rfl, ⟨rfl, rfl⟩, ?_⟩
      rw [hno]
      refine Sep.left (r := []) ?_
      replace M := M.nilS 70 5
      refine M.pick ?_; repeat (first | exact PkG.nil | refine PkG.cons 0 rfl rfl ?_ | refine PkG.cons 2 rfl rfl ?_)
    ·
      clear F; intro hc3 F
      try rw [hc3] at F
      replace hc3 := of_decide_eq_false hc3
      refine s_fa0 F rfl rfl rfl rfl fa_70_1_K4 rfl ?_; clear F a; intro a F
      refine s_ld F rfl rfl rfl rfl sc_3_K4 rfl (by exact cell_of_blk M.h0 (lit rfl)) ?_; clear F a; intro a F
      refine s_I F rfl rfl rfl rfl rfl rfl ?_; clear F a; intro a F
      refine s_sub F rfl rfl rfl rfl rfl rfl (by unfold In64; omega) ?_; clear F a; intro a F
      refine s_bin F rfl rfl rfl rfl rfl rfl rfl ?_; clear F a; intro a F
      refine s_I F rfl rfl rfl rfl rfl rfl ?_; clear F a; intro a F
      refine t_endM M ?_; (clear M; try clear w); intro w M
      refine c_if F rfl ?_ ?_
      ·
        clear F; intro hc4 F
        try rw [hc4] at F
        replace hc4 := of_decide_eq_true hc4
        refine wp_seq ?_
        replace F := F.keep [0, 1, 3, 4, 5] rfl
        refine wp_region_l [.ind] ([0]) rfl ?_
        refine s_I F rfl rfl rfl rfl rfl rfl ?_; clear F a; intro a F
        refine t_endM M ?_; (clear M; try clear w); intro w M
        refine wp_ret ?_
        refine ret1 F rfl rfl ?_
        -- end 2
        have hno : K.take q = (K, []) := by unfold KSt.take; rw [if_neg (by clear M F; grind [KSt.may, KSt.len])]
        refine ⟨_, (.slice none 0 0, g), rfl, ⟨rfl, rfl⟩, ?_⟩
        rw [hno]
        refine Sep.left (r := []) ?_
        replace M := M.nilS 70 5
        refine M.pick ?_; repeat (first | exact PkG.nil | refine PkG.cons 0 rfl rfl ?_ | refine PkG.cons 2 rfl rfl ?_)
      ·
        clear F; intro hc5 F
        try rw [hc5] at F
        replace hc5 := of_decide_eq_false hc5
        refine wp_skip ?_
        refine wp_seq ?_
        replace F := F.keep [0, 1, 3, 4, 5] rfl
        refine wp_region_l [.ind] ([0]) rfl ?_
        refine s_I F rfl rfl rfl rfl rfl rfl ?_; clear F a; intro a F
        refine t_endM M ?_; (clear M; try clear w); intro w M
        refine wp_seq ?_
        refine wp_region_l [.ind] ([0]) rfl ?_
        refine s_I F rfl rfl rfl rfl rfl rfl ?_; clear F a; intro a F
        refine t_endM M ?_; (clear M; try clear w); intro w M
        refine wp_seq ?_
        refine wp_seq ?_
        have hmay : K.may q = true := by clear M F; grind [KSt.may, KSt.len]
        have W1 := W.open1 (k := (q.frm, q.seq)) hn1 hn2 (may_spec hmay).2.2.1 (may_spec hmay).2.2.2 fun f f1 f2 => new_wf W.q f1 f2
        have hol := out_le ((K.open1 (q.frm, q.seq)).C (q.frm, q.seq)) q.m
        refine wp_region_t [.ind, .ind, .ind, .rd, .ind, .rd, .ind, .wr, .ind, .rd, .wr, .ind, .ind] [(9, 7)] (otOf [0, 1, 2, 3, 4, 5, 6, 8, 9, 12, 7, 10, 11]) mixed (by kernel_rfl) ?_
        refine s_I F rfl rfl rfl rfl rfl rfl ?_; clear F a; intro a F
        refine s_I F rfl rfl rfl rfl rfl rfl ?_; clear F a; intro a F
        refine s_fa0 F rfl rfl rfl rfl fa_70_0_K4 rfl ?_; clear F a; intro a F
        refine s_ldL F rfl rfl rfl rfl sc_3_K4 rfl (by exact cell_of_blk M.h0 (lit rfl)) ?_; clear F a; intro a F
        refine s_fa0 F rfl rfl rfl rfl fa_70_1_K4 rfl ?_; clear F a; intro a F
        refine s_ldL F rfl rfl rfl rfl sc_3_K4 rfl (by exact cell_of_blk M.h0 (lit rfl)) ?_; clear F a; intro a F
        refine s_bld F rfl rfl rfl rfl (parts2 F rfl rfl) (bl_111_0_1_K4 _ _) ?_; clear F a; intro a F
        refine s_fa0 F rfl rfl rfl rfl fa_70_2_K4 rfl ?_; clear F a; intro a F
        refine s_ldaL F rfl rfl rfl rfl ag_38_K4 rfl rfl (cells_part (off := 2) (cs := #[.int .i64 q.m.kind, .int .i64 q.m.frm, .string q.m.body]) M.h0 (by intro j v hv; rcases j with _ | _ | _ | j <;> simp_all)) ?_; clear F a; intro a F
        refine s_I F rfl rfl rfl rfl rfl rfl ?_; clear F a; intro a F
        have M1 : Sep _ _ _ (kR _ _ :: _) := M.f1; replace M := M1; clear M1
        refine s_callP (m := [_]) F M rfl rfl rfl rfl rfl (rfl : _ = some [_, _]) cb_42_K4 (fun nd_ => c42 g K (q.frm, q.seq) W.q hn1 hn2 _ (M.drewN nd_).own.one) (fun _ x w _ M => by (try simp only [List.cons_append, List.nil_append] at M); exact (by (refine pend_take (by exact cells_part (off := 2) (cs := #[.int .i64 q.m.kind, .int .i64 q.m.frm, .string q.m.body]) M.h1 (by intro j v hv; rcases j with _ | _ | _ | j <;> simp_all)) ?_); (refine pend_skip rfl ?_); (refine pend_skip rfl ?_); exact pend_none)) ?_; (clear F a M; try clear w); rintro v e w rfl M a F; (try simp only [List.cons_append, List.nil_append] at M)
        replace M := Fw.Sep.castOut (k := (q.frm, q.seq)) M open1_mem
        have M1 : Sep _ _ _ (castR _ _ _ :: _) := M; replace M := M1; clear M1
        refine s_callP (m := [_]) F M rfl rfl rfl rfl rfl (rfl : _ = some [_, _]) cb_21_K4 (fun nd_ => c21 _ _ ((K.open1 (q.frm, q.seq)).C (q.frm, q.seq)) q.m _ (M.drewN nd_).own.one) (fun _ x w _ M => by (try simp only [List.cons_append, List.nil_append] at M); exact (by (refine pend_skip rfl ?_); (refine pend_skip rfl ?_); (refine pend_skip rfl ?_); exact pend_none)) ?_; (clear F a M; try clear w); rintro v x w rfl M a F; (try simp only [List.cons_append, List.nil_append] at M)
        replace M := Fw.Sep.castIn (g := { g with E := e }) M.f2.f1 open1_mem W1.nd
        replace M : Sep _ _ _ (kR { g with E := e } (K.mid q) :: _) := M
        obtain ⟨XA, XC, rfl⟩ := SlOk.form M.h1
        refine s_len F rfl rfl rfl rfl sl_27_K4 rfl ?_; clear F a; intro a F
        refine t_endM M ?_; (clear M; try clear w); intro w M
        refine wp_block ?_
        replace M := M.nilT encD 70 5
        have M1 : Sep _ _ _ (slR _ _ _ _ _ :: _) := M; replace M := M1; clear M1
        have M1 : Sep _ _ _ (slR (.slice XA _ _) _ _ _ _ :: _) := M.f2; replace M := M1; clear M1
        have M1 : Sep _ _ _ (kR _ _ :: _) := M.f2; replace M := M1; clear M1
        refine loopX (X := (Int) × (Value)) F [0, 1, 3, 4, 5, 6, 44, 45] rfl (fun ((i, v7) : (Int) × (Value)) => (0 ≤ i) ∧ (i ≤ (((K.open1 (q.frm, q.seq)).C (q.frm, q.seq)).take q.m).2.length)) (fun ((i, v7) : (Int) × (Value)) => [(46, .int .i64 i), (7, v7)]) (fun ((i, v7) : (Int) × (Value)) => [kR { g with E := e } (K.mid q), slR (.slice XA (((K.open1 (q.frm, q.seq)).C (q.frm, q.seq)).take q.m).2.length XC) (((K.open1 (q.frm, q.seq)).C (q.frm, q.seq)).take q.m).2.length 38 3 ((((K.open1 (q.frm, q.seq)).C (q.frm, q.seq)).take q.m).2.flatMap encM), slR v7 (outsD q ((((K.open1 (q.frm, q.seq)).C (q.frm, q.seq)).take q.m).2.take i.toNat)).length 70 5 ((outsD q ((((K.open1 (q.frm, q.seq)).C (q.frm, q.seq)).take q.m).2.take i.toNat)).flatMap encD)]) (fun ((i, v7) : (Int) × (Value)) => (((K.open1 (q.frm, q.seq)).C (q.frm, q.seq)).take q.m).2.length - i.toNat) ((0), (_)) M ⟨(by omega), (by omega)⟩ (F.keep [46, 7, 0, 1, 3, 4, 5, 6, 44, 45] rfl) ?_
        clear F M; clear a; (try clear w)
        rintro ⟨i, v7⟩ a w ⟨i0, i1⟩ F M; try dsimp only at F M
        try simp only [List.cons_append, List.nil_append] at F M
        try dsimp only at i0 i1
        refine wp_seq ?_
        refine wp_region_l [.ind] ([0]) rfl ?_
        refine s_bin F rfl rfl rfl rfl rfl rfl rfl ?_; clear F a; intro a F
        refine t_endM M ?_; (clear M; try clear w); intro w M
        refine wp_seq ?_
        refine c_if F rfl ?_ ?_
        ·
          clear F; intro hc6 F
          try rw [hc6] at F
          replace hc6 := of_decide_eq_true hc6
          refine wp_skip ?_
          refine wp_seq ?_
          refine wp_block ?_
          refine wp_seq ?_
          replace F := F.keep [0, 1, 3, 4, 5, 6, 7, 44, 45, 46] rfl
          refine wp_region_l [.ind, .rd, .wr, .wr] ([0, 1, 2, 3]) rfl ?_
          refine s_ix F rfl rfl rfl rfl sl_27_K4 rfl rfl (by exact SlOk.rd M.h1) (by omega) (by omega) ?_; clear F a; intro e48 he48 a F
          refine s_lda F rfl rfl rfl rfl ag_38_K4 rfl rfl (rdsX (SlOk.rd M.h1) (by intro e; rfl) he48) ?_; clear F a; intro a F
          refine s_alc F M rfl rfl rfl rfl zr_38_K4 rfl ?_; (clear F a M; try clear w); intro b9 w M a F
          refine s_stW F M rfl rfl rfl sz_38_K4 rfl rfl rfl rfl rfl ?_; (clear M; try clear w); intro w M
          refine t_endM M ?_; (clear M; try clear w); intro w M
          replace F := F.keep [0, 1, 3, 4, 5, 6, 7, 9, 44, 45, 46] rfl
          refine wp_region_l [.ind, .ind, .rd, .ind, .rd, .rd, .ind, .wr, .wr, .ind] ([0, 1, 2, 3, 4, 5, 6, 7, 8, 9]) rfl ?_
          refine s_I F rfl rfl rfl rfl rfl rfl ?_; clear F a; intro a F
          refine s_fa0 F rfl rfl rfl rfl fa_70_0_K4 rfl ?_; clear F a; intro a F
          refine s_ld F rfl rfl rfl rfl sc_3_K4 rfl (by exact cell_of_blk M.h4 (lit rfl)) ?_; clear F a; intro a F
          refine s_fa0 F rfl rfl rfl rfl fa_70_1_K4 rfl ?_; clear F a; intro a F
          refine s_ld F rfl rfl rfl rfl sc_3_K4 rfl (by exact cell_of_blk M.h4 (lit rfl)) ?_; clear F a; intro a F
          refine s_lda F rfl rfl rfl rfl ag_38_K4 rfl rfl (cells_whole M.h0) ?_; clear F a; intro a F
          refine s_bld F rfl rfl rfl rfl (parts3 F rfl rfl rfl) (bl_70_0_1_2_K4 _ _ _ _ _) ?_; clear F a; intro a F
          refine s_bs F M rfl rfl rfl rfl (parts1 F rfl) (bs_56_1_K4 _ _ _ _ _) ?_; (clear F a M; try clear w); intro b57 w M a F
          refine s_apE (Wd.mk q.frm q.seq e48) F M.f4 rfl rfl rfl rfl tl_56_K4 rfl rfl (by exact rd_blk M.h0 rfl) rfl (by show ((outsD q _).length + 1) * 48 ≤ 140737488355328; simp only [outsD, List.length_map, List.length_take]; omega) (fun _ _ _ _ => pend_nil) ?_; (clear F a M; try clear w); intro A58 c58 w M a F
          refine s_I F rfl rfl rfl rfl rfl rfl ?_; clear F a; intro a F
          refine t_endM M ?_; (clear M; try clear w); intro w M
          replace F := F.keep [0, 1, 3, 4, 5, 6, 7, 9, 44, 45, 46] rfl
          refine wp_region_l [.ind, .ind] ([0, 1]) rfl ?_
          refine s_add F rfl rfl rfl rfl rfl rfl (by unfold In64; omega) ?_; clear F a; intro a F
          refine s_I F rfl rfl rfl rfl rfl rfl ?_; clear F a; intro a F
          refine t_endM M ?_; (clear M; try clear w); intro w M
          have M1 : Sep _ _ _ (slR _ (List.length (_ ++ _)) _ _ _ :: _) := M; replace M := M1; clear M1
          have eo : outsD q (List.take i.toNat (((K.open1 (q.frm, q.seq)).C (q.frm, q.seq)).take q.m).2) ++ [Wd.mk q.frm q.seq e48] = outsD q (List.take (i + 1).toNat (((K.open1 (q.frm, q.seq)).C (q.frm, q.seq)).take q.m).2) := by rw [take_succ i0 he48]; unfold outsD; rw [List.map_append]; rfl
          rw [eo] at F M
          refine again ((i + 1), (_)) (by show _ < _; (try dsimp only); omega) ⟨(by omega), (by assumption)⟩ (F.keep [46, 7, 0, 1, 3, 4, 5, 6, 44, 45] rfl) ?_
          try dsimp only [List.cons_append, List.nil_append]
          refine M.pick ?_; repeat (first | exact PkG.nil | refine PkG.cons 0 rfl rfl ?_ | refine PkG.cons 3 rfl rfl ?_ | refine PkG.cons 4 rfl rfl ?_ | refine PkG.cons 5 rfl rfl ?_)
        ·
          clear F; intro hc7 F
          try rw [hc7] at F
          replace hc7 := of_decide_eq_false hc7
          refine wp_exit ?_
          refine wp_seq ?_
          refine wp_block ?_
          rw [take_all (by omega)] at M
          have M1 : Sep _ _ _ (slR _ _ _ _ _ :: _) := M.f1; replace M := M1; clear M1
          have M1 : Sep _ _ _ (slR (.slice XA _ _) _ _ _ _ :: _) := M; replace M := M1; clear M1
          have M1 : Sep _ _ _ (kR _ _ :: _) := M.f1; replace M := M1; clear M1
          refine loopX (X := (Gh) × (KSt)) F [0, 1, 3, 4, 5, 6, 7, 44, 45, 46] rfl (fun ((g2, K2) : (Gh) × (KSt)) => (g2.b = g.b) ∧ (K2.Wf) ∧ (∀ i, (K2.T i).length + K2.ks.length ≤ 901) ∧ ((K.mid q).tells q.frm = K2.tells q.frm)) (fun ((g2, K2) : (Gh) × (KSt)) => []) (fun ((g2, K2) : (Gh) × (KSt)) => [kR g2 K2, slR (.slice XA (((K.open1 (q.frm, q.seq)).C (q.frm, q.seq)).take q.m).2.length XC) (((K.open1 (q.frm, q.seq)).C (q.frm, q.seq)).take q.m).2.length 38 3 ((((K.open1 (q.frm, q.seq)).C (q.frm, q.seq)).take q.m).2.flatMap encM), slR v7 (K.out q).length 70 5 ((K.out q).flatMap encD)]) (fun ((g2, K2) : (Gh) × (KSt)) => K2.ks.length) (({ g with E := e }), (K.mid q)) M ⟨(by trivial), (wf_mid W hmay), (fun i => by rw [mid_T]; have := hT i; have := mid_le K q; omega), rfl⟩ (F.keep [0, 1, 3, 4, 5, 6, 7, 44, 45, 46] rfl) ?_
          clear F M; clear a; (try clear w)
          rintro ⟨g2, K2⟩ a w ⟨hg2, W2, hb2, heq⟩ F M; try dsimp only at F M
          try simp only [List.cons_append, List.nil_append] at F M
          try dsimp only at hg2 W2 hb2 heq
          refine wp_seq ?_
          refine wp_seq ?_
          refine wp_region_l [.ind, .ind, .rd, .wr] ([0, 1, 2, 3]) rfl ?_
          refine s_I F rfl rfl rfl rfl rfl rfl ?_; clear F a; intro a F
          refine s_fa0 F rfl rfl rfl rfl fa_70_0_K4 rfl ?_; clear F a; intro a F
          refine s_ld F rfl rfl rfl rfl sc_3_K4 rfl (by exact cell_of_blk M.h3 (lit rfl)) ?_; clear F a; intro a F
          have M1 : Sep _ _ _ (kR _ _ :: _) := M; replace M := M1; clear M1
          refine s_call (m := [_]) F M rfl rfl rfl rfl rfl (rfl : _ = some [_, _]) cb_43_K4 (fun nd_ => c43b' g2 hg2 K2 q.frm hn1 (by omega) (fun i => by have := hb2 i; omega) W2.nd _ (M.drewN nd_).own.one) ?_; (clear F a M; try clear w); rintro v tv2 w rfl M a F; (try simp only [List.cons_append, List.nil_append] at M)
          refine t_endM M ?_; (clear M; try clear w); intro w M
          refine c_if F rfl ?_ ?_
          ·
            clear F; intro hc8 F
            try rw [hc8] at F
            skip
            refine wp_skip ?_
            refine wp_block ?_
            refine wp_skip ?_
            rw [if_pos (by assumption)] at M
            refine again (({ g2 with tv := tv2 }), (K2.tell q.frm)) (tell_lt (by assumption)) ⟨(by assumption), (W2.tell (by assumption)), (tell_le hb2 (by assumption)), (heq.trans (tells_step (by assumption)))⟩ (F.keep [0, 1, 3, 4, 5, 6, 7, 44, 45, 46] rfl) ?_
            try dsimp only [List.cons_append, List.nil_append]
            refine M.pick ?_; repeat (first | exact PkG.nil | refine PkG.cons 0 rfl rfl ?_ | refine PkG.cons 1 rfl rfl ?_ | refine PkG.cons 2 rfl rfl ?_ | refine PkG.cons 3 rfl rfl ?_)
          ·
            clear F; intro hc9 F
            try rw [hc9] at F
            skip
            refine wp_exit ?_
            refine wp_seq ?_
            replace F := F.keep [0, 1, 3, 4, 5, 6, 7, 44, 45, 46] rfl
            refine wp_region_l [.ind, .ind] ([0, 1]) rfl ?_
            refine s_I F rfl rfl rfl rfl rfl rfl ?_; clear F a; intro a F
            refine s_I F rfl rfl rfl rfl rfl rfl ?_; clear F a; intro a F
            refine t_endM M ?_; (clear M; try clear w); intro w M
            refine wp_ret ?_
            refine ret1 F rfl rfl ?_
            -- end 3
            rw [if_neg (by simp only [*]; simp)] at M
            refine ⟨_, (v7, { g2 with tv := tv2 }), rfl, ⟨rfl, hg2⟩, ?_⟩
            have ht : K.take q = (K2, K.out q) := by unfold KSt.take; rw [if_pos hmay, heq, tells_stop (by assumption)]
            rw [ht]
            refine M.pick ?_; repeat (first | exact PkG.nil | refine PkG.cons 0 rfl rfl ?_ | refine PkG.cons 2 rfl rfl ?_)
end Go.Proofs.Ytibomfgeemhogaa
