/- A9 of the seat. -/
import Derived.Test.YtboibdmflblphaaA8
namespace Go.Proofs.Ytboibdmflblphaa
open Go Fw
theorem cb_39_A9 : callB Try.prog 39 = true := by kernel_rfl
theorem pt_50_A9 : ptrB Try.prog 50 = true := by kernel_rfl
theorem cb_35_A9 : callB Try.prog 35 = true := by kernel_rfl
theorem cb_44_A9 : callB Try.prog 44 = true := by kernel_rfl
theorem sl_22_A9 : slcB Try.prog 22 = some (32, 5) := by kernel_rfl
theorem ag_32_A9 : aggB Try.prog 32 = some 5 := by kernel_rfl
theorem cb_41_A9 : callB Try.prog 41 = true := by kernel_rfl
theorem tl_22_A9 : SlT Try.prog 22 32 5 48 (.agg #[.int .i64 0, .int .i64 0, .int .i64 0, .int .i64 0, .string { data := #[] }]) := ⟨by kernel_rfl, by kernel_rfl, by kernel_rfl, by kernel_rfl, by decide⟩
theorem cb_48_A9 : callB Try.prog 48 = true := by kernel_rfl
theorem cb_46_A9 : callB Try.prog 46 = true := by kernel_rfl
theorem cb_47_A9 : callB Try.prog 47 = true := by kernel_rfl
open VoteM AgrM

theorem Fw.Sep.join {S : Nat → Prop} {w0 w : World} {r : List Res} {L : List Res} (M : Sep S w0 w (L ++ r)) : Sep S w0 w (bigR id L :: r) :=
  Sep.regroup (m := L) (m' := [bigR id L]) M (by simp [foots, bigR]) fun hk x hx => by
    simp only [List.mem_cons, List.not_mem_nil, or_false] at hx
    subst hx
    exact hk
theorem Fw.Sep.unjoin {S : Nat → Prop} {w0 w : World} {r : List Res} {L : List Res} (M : Sep S w0 w (bigR id L :: r)) : Sep S w0 w (L ++ r) :=
  Sep.regroup (m := [bigR id L]) (m' := L) M (by simp [foots, bigR]) fun hk x hx => hk (bigR id L) (by simp) x hx
structure Ga where
  b : Nat
  vb : Nat
  vv : Value
/-- A part, whole. -/
def agR (g : Ga) (st : ASt) : Res := bigR id [blk g.b (aO st g.vb .nilFunc), votR g.vb g.vv st.n st.t st.L]
theorem ag_foot (g : Ga) (st : ASt) : foots [agR g st] = foots [blk g.b (aO st g.vb .nilFunc), votR g.vb g.vv st.n st.t st.L] := by simp [foots, agR, bigR]
theorem ag_blk {h : Array Obj} {g : Ga} {st : ASt} (hk : (agR g st).ok h) : h[g.b]? = some (aO st g.vb .nilFunc) := hk (blk g.b (aO st g.vb .nilFunc)) (by simp)
theorem ag_own {h : Array Obj} {g : Ga} {st : ASt} (ho : Own h [agR g st]) : Own h [blk g.b (aO st g.vb .nilFunc), votR g.vb g.vv st.n st.t st.L] := by
  have hk := ho.ok _ List.mem_cons_self
  refine ⟨fun x hx => hk x hx, fun b hb => ho.lt b (ag_foot g st ▸ hb), ag_foot g st ▸ ho.nd⟩
theorem c39r (n t me h : Int) (s : ByteArray) (hk : okA n t me h s = true) (w0 : World) : Cl Try.prog 39 #[.int .i64 n, .int .i64 t, .int .i64 me, .int .i64 h, .string s] w0 (RetS [] w0 (fun v (g : Ga) => v = .pointer (some ⟨g.b, 0, none⟩)) fun g => [agR g (newA n t me h s)]) := by
  refine ⟨(c39 n t me h s hk w0).out.mono ?_⟩
  rintro _ w' ⟨v, x, e, hp, hc⟩
  refine ⟨v, ⟨x.1, x.2, .slice none 0 0⟩, e, hp, ?_⟩
  exact Fw.Sep.join (L := [blk x.1 (aO (newA n t me h s) x.2 .nilFunc), votR x.2 (.slice none 0 0) n t []]) (r := []) hc
theorem c41r (g : Ga) (st : ASt) (q : Wrd) (W : st.Wf) (w0 : World) (ho : Own w0.heap [agR g st]) : Cl Try.prog 41 #[.pointer (some ⟨g.b, 0, none⟩), wrdV q] w0 (RetS [agR g st] w0 (fun v (x : Value × Value) => v = x.2) fun x => [agR ⟨g.b, g.vb, x.1⟩ (st.take q).1, wsR x.2 (st.take q).2]) := by
  refine ((c41 g.b g.vb g.vv st q W w0 (ag_own ho)).foots (ag_foot g st).symm).memS fun S x w' M => ?_
  have T := take_took W q
  have M1 := Fw.Sep.votTo M.f1 T.n T.t rfl
  exact Fw.Sep.join (L := [blk g.b (aO (st.take q).1 g.vb .nilFunc), votR g.vb x.1 (st.take q).1.n (st.take q).1.t (st.take q).1.L]) M1.f1
theorem c44r (g : Ga) (st : ASt) (w0 : World) (ho : Own w0.heap [agR g st]) : Cl Try.prog 44 #[.pointer (some ⟨g.b, 0, none⟩)] w0 (RetS [agR g st] w0 (fun v (x : Value) => v = x) fun x => [agR g st.start, wsR x st.startO]) := by
  have ho' := ag_own ho
  have e : foots [blk g.b (aO st g.vb .nilFunc), votR g.vb g.vv st.n st.t st.L] = foots [agR g st] := (ag_foot g st).symm
  refine ⟨(c44 g.b g.vb st w0 (Own.left (m := [_]) ho')).out.mono ?_⟩
  rintro _ w' ⟨v, x, e1, hp, hc⟩
  refine ⟨v, x, e1, hp, ?_⟩
  have M0 : Sep (fun b => b ∈ foots [agR g st]) w0 w0 [blk g.b (aO st g.vb .nilFunc), votR g.vb g.vv st.n st.t st.L] := by rw [← e]; exact Sep.start ho'
  have M1 := Sep.frame (m := [blk g.b (aO st g.vb .nilFunc)]) (r := [votR g.vb g.vv st.n st.t st.L]) M0 hc
  have T := start_same st
  have M2 := Fw.Sep.votTo M1.f2 T.n T.t T.L
  exact Fw.Sep.join (L := [blk g.b (aO st.start g.vb .nilFunc), votR g.vb g.vv st.start.n st.start.t st.start.L]) M2.f1
theorem c46r (g : Ga) (st : ASt) (w0 : World) (hk : (agR g st).ok w0.heap) : Cl Try.prog 46 #[.pointer (some ⟨g.b, 0, none⟩)] w0 (RetQ w0 fun v => v = .tuple #[.int .i64 st.round, .int .i64 st.step]) := c46 g.b g.vb _ st w0 (ag_blk hk)
theorem c47r (g : Ga) (st : ASt) (w0 : World) (hk : (agR g st).ok w0.heap) : Cl Try.prog 47 #[.pointer (some ⟨g.b, 0, none⟩)] w0 (RetQ w0 fun v => v = .tuple #[.string st.lock, .int .i64 st.lockR]) := c47 g.b g.vb _ st w0 (ag_blk hk)
theorem c48r (g : Ga) (st : ASt) (w0 : World) (hk : (agR g st).ok w0.heap) : Cl Try.prog 48 #[.pointer (some ⟨g.b, 0, none⟩)] w0 (RetQ w0 fun v => v = .tuple #[.string st.dec, .bool st.done]) := c48 g.b g.vb _ st w0 (ag_blk hk)

/-! ### the example -/
def vS : ByteArray := { data := #[118] }
def nA : ASt := newA 1 0 1 0 vS
def aQ : Nat → ASt × List Wrd
  | 0 => (nA.start, nA.startO)
  | k + 1 => match (aQ k).2[k]? with
    | some w => (((aQ k).1.take w).1, (aQ k).2 ++ ((aQ k).1.take w).2)
    | none => aQ k
theorem aQ_succ {k : Nat} {w : Wrd} (h : (aQ k).2[k]? = some w) : aQ (k + 1) = (((aQ k).1.take w).1, (aQ k).2 ++ ((aQ k).1.take w).2) := by
  simp only [aQ]
  rw [h]
theorem okn : okA 1 0 1 0 vS = true := by kernel_rfl
theorem oko : okA 3 1 1 0 vS = false := by kernel_rfl
theorem aQ_wf : ∀ k, (aQ k).1.Wf
  | 0 => (start_wf (newA_wf okn)).1
  | k + 1 => by
    simp only [aQ]
    split
    · exact (take_wf (aQ_wf k) _).1
    · exact aQ_wf k
theorem aQ0 : (aQ 0).2.length = 1 := by kernel_rfl
theorem aQ1 : (aQ 1).2.length = 2 := by kernel_rfl
theorem aQ2 : (aQ 2).2.length = 3 := by kernel_rfl
theorem aQ3 : (aQ 3).2.length = 3 := by kernel_rfl
theorem aQ_len {k : Nat} (h : k ≤ 3) : (aQ k).2.length = min (k + 1) 3 := by
  have : k = 0 ∨ k = 1 ∨ k = 2 ∨ k = 3 := by omega
  rcases this with rfl | rfl | rfl | rfl
  · exact aQ0
  · exact aQ1
  · exact aQ2
  · exact aQ3
theorem aQd : (aQ 3).1.done = true := by kernel_rfl
theorem aQv : (aQ 3).1.dec = vS := by kernel_rfl
theorem aQr : (aQ 3).1.round = 0 := by kernel_rfl
theorem aQs : (aQ 3).1.step = 3 := by kernel_rfl
theorem aQl : (aQ 3).1.lock = vS := by kernel_rfl
theorem aQn : (aQ 3).1.lockR = 0 := by kernel_rfl
theorem ld1 : leader 4 2 3 = 2 := by decide
theorem ld2 : leader 0 0 0 = 0 := by decide

set_option maxRecDepth 100000 in
set_option maxHeartbeats 400000 in
theorem c37 (w0 : World) : Cl Try.prog 37 #[] w0 (RetQ w0 fun v => v = .bool true) := by
  have M : Sep (fun _ => False) w0 w0 _ := Sep.nil _ w0
  refine enter (vs := []) Try.func37 rfl rfl rfl ?_
  intro a F
  refine wp_seq ?_
  refine wp_region_l [.ind] ([0]) rfl ?_
  refine s_I F rfl rfl rfl rfl rfl rfl ?_; clear F a; intro a F
  refine t_endM M ?_; (clear M; try clear w); intro w M
  refine wp_seq ?_
  refine wp_region_l [.wr, .ind] ([0, 1]) rfl ?_
  refine s_call (m := []) F M rfl rfl rfl rfl rfl (rfl : _ = some [_, _, _, _, _]) cb_39_A9 (fun nd_ => c39r 1 0 1 0 vS okn _) ?_; (clear F a M; try clear w); rintro v g0 w rfl M a F; (try simp only [List.cons_append, List.nil_append] at M)
  refine s_I F rfl rfl rfl rfl rfl rfl ?_; clear F a; intro a F
  refine t_endM M ?_; (clear M; try clear w); intro w M
  refine wp_seq ?_
  refine wp_seq ?_
  replace F := F.keep [0, 1] rfl
  refine wp_region_l [.ind, .ind, .ind, .wr, .ind, .ind, .ind, .wr, .ind, .ind, .ind, .wr, .ind, .ind] ([0, 1, 2, 3, 4, 5, 6, 7, 8, 9, 10, 11, 12, 13]) rfl ?_
  refine s_I F rfl rfl rfl rfl rfl rfl ?_; clear F a; intro a F
  refine s_pn F rfl rfl rfl rfl pt_50_A9 rfl ?_; clear F a; intro a F
  replace F : Fr _ _ ((12, Value.bool false) :: _) := F
  refine s_I F rfl rfl rfl rfl rfl rfl ?_; clear F a; intro a F
  refine s_cq F M rfl rfl rfl rfl rfl (rfl : _ = some [_, _, _, _, _]) cb_39_A9 (fun nd_ => c39n 3 1 1 0 vS oko _) ?_; (clear F a M; try clear w); rintro v w rfl M a F
  refine s_pne F rfl rfl rfl rfl pt_50_A9 rfl ?_; clear F a; intro a F
  replace F : Fr _ _ ((15, Value.bool false) :: _) := F
  refine s_I F rfl rfl rfl rfl rfl rfl ?_; clear F a; intro a F
  refine s_I F rfl rfl rfl rfl rfl rfl ?_; clear F a; intro a F
  refine s_cq F M rfl rfl rfl rfl rfl (rfl : _ = some [_, _, _]) cb_35_A9 (fun nd_ => c35 _ _ _ _) ?_; (clear F a M; try clear w); rintro v w rfl M a F
  rw [ld1] at F
  refine s_bin F rfl rfl rfl rfl rfl rfl rfl ?_; clear F a; intro a F
  replace F : Fr _ _ ((19, Value.bool false) :: _) := F
  refine s_I F rfl rfl rfl rfl rfl rfl ?_; clear F a; intro a F
  refine s_I F rfl rfl rfl rfl rfl rfl ?_; clear F a; intro a F
  refine s_cq F M rfl rfl rfl rfl rfl (rfl : _ = some [_, _, _]) cb_35_A9 (fun nd_ => c35 _ _ _ _) ?_; (clear F a M; try clear w); rintro v w rfl M a F
  rw [ld2] at F
  refine s_bin F rfl rfl rfl rfl rfl rfl rfl ?_; clear F a; intro a F
  replace F : Fr _ _ ((23, Value.bool false) :: _) := F
  refine s_I F rfl rfl rfl rfl rfl rfl ?_; clear F a; intro a F
  replace F : Fr _ _ ((24, Value.bool false) :: _) := F
  refine t_endM M ?_; (clear M; try clear w); intro w M
  refine c_f F rfl ?_
  refine wp_skip ?_
  refine wp_seq ?_
  replace F := F.keep [0, 1] rfl
  refine wp_region_l [.ind, .wr, .ind] ([0, 1, 2]) rfl ?_
  refine s_I F rfl rfl rfl rfl rfl rfl ?_; clear F a; intro a F
  have M1 : Sep _ _ _ (agR _ _ :: _) := M; replace M := M1; clear M1
  refine s_call (m := [_]) F M rfl rfl rfl rfl rfl (rfl : _ = some [_]) cb_44_A9 (fun nd_ => c44r g0 nA _ (M.drewN nd_).own.one) ?_; (clear F a M; try clear w); rintro v x w rfl M a F; (try simp only [List.cons_append, List.nil_append] at M)
  obtain ⟨A2, cc2, rfl⟩ := SlOk.form M.h1
  refine s_I F rfl rfl rfl rfl rfl rfl ?_; clear F a; intro a F
  refine t_endM M ?_; (clear M; try clear w); intro w M
  refine wp_seq ?_
  refine wp_seq ?_
  replace F := F.keep [0, 1, 2] rfl
  refine wp_region_l [.ind] ([0]) rfl ?_
  refine s_I F rfl rfl rfl rfl rfl rfl ?_; clear F a; intro a F
  refine t_endM M ?_; (clear M; try clear w); intro w M
  refine wp_block ?_
  have M1 : Sep _ _ _ (slR _ _ _ _ _ :: _) := M.f1; replace M := M1; clear M1
  have M1 : Sep _ _ _ (agR _ _ :: _) := M.f1; replace M := M1; clear M1
  refine loopX (X := (Nat) × (Ga) × (Option Addr) × (Nat)) F [0, 1] rfl (fun ((k, g, A, c) : (Nat) × (Ga) × (Option Addr) × (Nat)) => (k ≤ 3) ∧ (g.b = g0.b)) (fun ((k, g, A, c) : (Nat) × (Ga) × (Option Addr) × (Nat)) => [(2, .slice A (aQ k).2.length c), (3, .int .i64 (k : Int))]) (fun ((k, g, A, c) : (Nat) × (Ga) × (Option Addr) × (Nat)) => [agR g (aQ k).1, wsR (.slice A (aQ k).2.length c) (aQ k).2]) (fun ((k, g, A, c) : (Nat) × (Ga) × (Option Addr) × (Nat)) => 3 - k) ((0), (g0), (A2), (cc2)) M ⟨(by omega), rfl⟩ (F.keep [2, 3, 0, 1] rfl) ?_
  clear F M; clear a; (try clear w)
  rintro ⟨k, g, A, c⟩ a w ⟨hk, hg⟩ F M; try dsimp only at F M
  try simp only [List.cons_append, List.nil_append] at F M
  try dsimp only at hk hg
  rw [← hg] at F
  have hql := aQ_len hk
  refine wp_seq ?_
  refine wp_seq ?_
  refine wp_region_l [.ind, .ind, .ind, .ind, .ind, .ind, .ind, .ind] ([0, 1, 2, 3, 4, 5, 6, 7]) rfl ?_
  refine s_I F rfl rfl rfl rfl rfl rfl ?_; clear F a; intro a F
  refine s_I F rfl rfl rfl rfl rfl rfl ?_; clear F a; intro a F
  refine s_len F rfl rfl rfl rfl sl_22_A9 rfl ?_; clear F a; intro a F
  refine s_bin F rfl rfl rfl rfl rfl rfl rfl ?_; clear F a; intro a F
  refine s_I F rfl rfl rfl rfl rfl rfl ?_; clear F a; intro a F
  refine bsplit F 31 rfl ?_ ?_
  ·
    clear F; intro hc0 F
    try rw [hc0] at F
    replace hc0 := of_decide_eq_true hc0
    refine s_I F rfl rfl rfl rfl rfl rfl ?_; clear F a; intro a F
    refine s_bin F rfl rfl rfl rfl rfl rfl rfl ?_; clear F a; intro a F
    refine s_I F rfl rfl rfl rfl rfl rfl ?_; clear F a; intro a F
    refine t_endM M ?_; (clear M; try clear w); intro w M
    refine c_if F rfl ?_ ?_
    ·
      clear F; intro hc1 F
      try rw [hc1] at F
      replace hc1 := of_decide_eq_true hc1
      refine wp_skip ?_
      refine wp_seq ?_
      refine wp_block ?_
      replace F := F.keep [0, 1, 2, 3] rfl
      refine wp_region_l [.ind, .ind, .ind, .ind, .ind, .rd, .wr, .wr, .ind] ([0, 1, 2, 3, 4, 5, 6, 7, 8]) rfl ?_
      refine s_I F rfl rfl rfl rfl rfl rfl ?_; clear F a; intro a F
      refine s_I F rfl rfl rfl rfl rfl rfl ?_; clear F a; intro a F
      refine s_I F rfl rfl rfl rfl rfl rfl ?_; clear F a; intro a F
      refine s_I F rfl rfl rfl rfl rfl rfl ?_; clear F a; intro a F
      refine s_ix F rfl rfl rfl rfl sl_22_A9 rfl rfl (by exact SlOk.rd M.h1) (by omega) (by omega) ?_; clear F a; intro e41 he41 a F
      refine s_lda F rfl rfl rfl rfl ag_32_A9 rfl rfl (rdsX (SlOk.rd M.h1) (by intro e; rfl) he41) ?_; clear F a; intro a F
      have M1 : Sep _ _ _ (agR _ _ :: _) := M; replace M := M1; clear M1
      refine s_call (m := [_]) F M rfl rfl rfl rfl rfl (rfl : _ = some [_, _]) cb_41_A9 (fun nd_ => c41r g (aQ k).1 e41 (aQ_wf k) _ (M.drewN nd_).own.one) ?_; (clear F a M; try clear w); rintro v x w rfl M a F; (try simp only [List.cons_append, List.nil_append] at M)
      obtain ⟨v1, o1⟩ := x
      dsimp only at M F
      obtain ⟨A4, cc4, rfl⟩ := SlOk.form M.h1
      have htl := take_len (aQ_wf k) e41
      refine s_apM (((aQ k).1.take e41).2) F M.f2 rfl rfl rfl rfl tl_22_A9 rfl rfl (by exact SlOk.rd M.h1) (by intro e; rfl) (by omega) (fun _ _ _ _ => pend_nil) ?_; (clear F a M; try clear w); intro A44 c44 w M a F
      refine s_I F rfl rfl rfl rfl rfl rfl ?_; clear F a; intro a F
      refine t_endM M ?_; (clear M; try clear w); intro w M
      replace F := F.keep [0, 1, 2, 3] rfl
      refine wp_region_l [.ind, .ind, .ind] ([0, 1, 2]) rfl ?_
      refine s_I F rfl rfl rfl rfl rfl rfl ?_; clear F a; intro a F
      refine s_add F rfl rfl rfl rfl rfl rfl (by unfold In64; omega) ?_; clear F a; intro a F
      refine s_I F rfl rfl rfl rfl rfl rfl ?_; clear F a; intro a F
      refine t_endM M ?_; (clear M; try clear w); intro w M
      rw [hg] at F
      rw [Int.toNat_natCast] at he41
      rw [show (aQ k).2 ++ ((aQ k).1.take e41).2 = (aQ (k + 1)).2 by rw [aQ_succ he41]] at F M
      rw [show ((aQ k).1.take e41).1 = (aQ (k + 1)).1 by rw [aQ_succ he41]] at M
      refine again ((k + 1), (⟨g.b, g.vb, v1⟩), (A44), (c44)) (by show _ < _; (try dsimp only); omega) ⟨(by omega), hg⟩ (F.keep [2, 3, 0, 1] rfl) ?_
      try dsimp only [List.cons_append, List.nil_append]
      refine M.pick ?_; repeat (first | exact PkG.nil | refine PkG.cons 0 rfl rfl ?_ | refine PkG.cons 1 rfl rfl ?_)
    ·
      clear F; intro hc2 F
      try rw [hc2] at F
      replace hc2 := of_decide_eq_false hc2
      refine wp_exit ?_
      refine wp_seq ?_
      obtain rfl : k = 3 := by omega
      rw [aQ3] at F M
      replace F := F.keep [0, 1, 2, 3] rfl
      refine wp_region_l [.ind, .wr, .ind, .ind, .ind, .ind, .ind] ([0, 1, 2, 3, 4, 5, 6]) rfl ?_
      refine s_I F rfl rfl rfl rfl rfl rfl ?_; clear F a; intro a F
      refine s_cq F M rfl rfl rfl rfl rfl (rfl : _ = some [_]) cb_48_A9 (fun nd_ => c48r g (aQ 3).1 _ (by exact M.h0)) ?_; (clear F a M; try clear w); rintro v w rfl M a F
      rw [aQd, aQv] at F
      refine s_I F rfl rfl rfl rfl rfl rfl ?_; clear F a; intro a F
      refine s_I F rfl rfl rfl rfl rfl rfl ?_; clear F a; intro a F
      refine s_I F rfl rfl rfl rfl rfl rfl ?_; clear F a; intro a F
      refine s_I F rfl rfl rfl rfl rfl rfl ?_; clear F a; intro a F
      refine s_I F rfl rfl rfl rfl rfl rfl ?_; clear F a; intro a F
      refine t_endM M ?_; (clear M; try clear w); intro w M
      refine wp_seq ?_
      replace F := F.keep [0, 1, 2, 3, 4, 5] rfl
      refine wp_region_l [.ind, .wr, .ind, .ind, .ind, .ind, .ind] ([0, 1, 2, 3, 4, 5, 6]) rfl ?_
      refine s_I F rfl rfl rfl rfl rfl rfl ?_; clear F a; intro a F
      refine s_cq F M rfl rfl rfl rfl rfl (rfl : _ = some [_]) cb_46_A9 (fun nd_ => c46r g (aQ 3).1 _ (by exact M.h0)) ?_; (clear F a M; try clear w); rintro v w rfl M a F
      rw [aQr, aQs] at F
      refine s_I F rfl rfl rfl rfl rfl rfl ?_; clear F a; intro a F
      refine s_I F rfl rfl rfl rfl rfl rfl ?_; clear F a; intro a F
      refine s_I F rfl rfl rfl rfl rfl rfl ?_; clear F a; intro a F
      refine s_I F rfl rfl rfl rfl rfl rfl ?_; clear F a; intro a F
      refine s_I F rfl rfl rfl rfl rfl rfl ?_; clear F a; intro a F
      refine t_endM M ?_; (clear M; try clear w); intro w M
      refine wp_seq ?_
      replace F := F.keep [0, 1, 2, 3, 4, 5, 6, 7] rfl
      refine wp_region_l [.ind, .wr, .ind, .ind, .ind, .ind, .ind] ([0, 1, 2, 3, 4, 5, 6]) rfl ?_
      refine s_I F rfl rfl rfl rfl rfl rfl ?_; clear F a; intro a F
      refine s_cq F M rfl rfl rfl rfl rfl (rfl : _ = some [_]) cb_47_A9 (fun nd_ => c47r g (aQ 3).1 _ (by exact M.h0)) ?_; (clear F a M; try clear w); rintro v w rfl M a F
      rw [aQl, aQn] at F
      refine s_I F rfl rfl rfl rfl rfl rfl ?_; clear F a; intro a F
      refine s_I F rfl rfl rfl rfl rfl rfl ?_; clear F a; intro a F
      refine s_I F rfl rfl rfl rfl rfl rfl ?_; clear F a; intro a F
      refine s_I F rfl rfl rfl rfl rfl rfl ?_; clear F a; intro a F
      refine s_I F rfl rfl rfl rfl rfl rfl ?_; clear F a; intro a F
      refine t_endM M ?_; (clear M; try clear w); intro w M
      refine wp_seq ?_
      replace F := F.keep [0, 1, 2, 3, 4, 5, 6, 7, 8, 9] rfl
      refine wp_region_l [.ind, .ind, .ind, .ind, .ind, .ind, .ind, .ind, .ind, .ind, .ind, .ind, .ind, .ind, .ind, .ind, .ind, .ind, .ind, .ind, .ind, .ind, .ind, .ind, .ind, .ind, .ind] ([0, 1, 2, 3, 4, 5, 6, 7, 8, 9, 10, 11, 12, 13, 14, 15, 16, 17, 18, 19, 20, 21, 22, 23, 24, 25, 26]) rfl ?_
      refine s_I F rfl rfl rfl rfl rfl rfl ?_; clear F a; intro a F
      refine s_len F rfl rfl rfl rfl sl_22_A9 rfl ?_; clear F a; intro a F
      refine s_bin F rfl rfl rfl rfl rfl rfl rfl ?_; clear F a; intro a F
      replace F : Fr _ _ ((62, Value.bool true) :: _) := F
      refine s_I F rfl rfl rfl rfl rfl rfl ?_; clear F a; intro a F
      refine s_I F rfl rfl rfl rfl rfl rfl ?_; clear F a; intro a F
      refine s_bin F rfl rfl rfl rfl rfl rfl rfl ?_; clear F a; intro a F
      replace F : Fr _ _ ((65, Value.bool true) :: _) := F
      refine s_I F rfl rfl rfl rfl rfl rfl ?_; clear F a; intro a F
      refine s_I F rfl rfl rfl rfl rfl rfl ?_; clear F a; intro a F
      refine s_I F rfl rfl rfl rfl rfl rfl ?_; clear F a; intro a F
      replace F : Fr _ _ ((68, Value.bool true) :: _) := F
      refine s_I F rfl rfl rfl rfl rfl rfl ?_; clear F a; intro a F
      refine s_I F rfl rfl rfl rfl rfl rfl ?_; clear F a; intro a F
      refine s_I F rfl rfl rfl rfl rfl rfl ?_; clear F a; intro a F
      refine s_bin F rfl rfl rfl rfl rfl rfl rfl ?_; clear F a; intro a F
      replace F : Fr _ _ ((72, Value.bool true) :: _) := F
      refine s_I F rfl rfl rfl rfl rfl rfl ?_; clear F a; intro a F
      refine s_I F rfl rfl rfl rfl rfl rfl ?_; clear F a; intro a F
      refine s_I F rfl rfl rfl rfl rfl rfl ?_; clear F a; intro a F
      refine s_bin F rfl rfl rfl rfl rfl rfl rfl ?_; clear F a; intro a F
      replace F : Fr _ _ ((76, Value.bool true) :: _) := F
      refine s_I F rfl rfl rfl rfl rfl rfl ?_; clear F a; intro a F
      refine s_I F rfl rfl rfl rfl rfl rfl ?_; clear F a; intro a F
      refine s_I F rfl rfl rfl rfl rfl rfl ?_; clear F a; intro a F
      refine s_bin F rfl rfl rfl rfl rfl rfl rfl ?_; clear F a; intro a F
      replace F : Fr _ _ ((80, Value.bool true) :: _) := F
      refine s_I F rfl rfl rfl rfl rfl rfl ?_; clear F a; intro a F
      refine s_I F rfl rfl rfl rfl rfl rfl ?_; clear F a; intro a F
      refine s_I F rfl rfl rfl rfl rfl rfl ?_; clear F a; intro a F
      refine s_bin F rfl rfl rfl rfl rfl rfl rfl ?_; clear F a; intro a F
      replace F : Fr _ _ ((84, Value.bool true) :: _) := F
      refine s_I F rfl rfl rfl rfl rfl rfl ?_; clear F a; intro a F
      refine s_I F rfl rfl rfl rfl rfl rfl ?_; clear F a; intro a F
      refine t_endM M ?_; (clear M; try clear w); intro w M
      refine wp_ret ?_
      refine ret1 F rfl rfl ?_
      -- end 0
      exact ⟨_, rfl, rfl, M.chg⟩
  ·
    clear F; intro hc3 F
    try rw [hc3] at F
    replace hc3 := of_decide_eq_false hc3
    refine s_no F rfl rfl rfl rfl ?_; clear F a; intro a F
    refine s_no F rfl rfl rfl rfl ?_; clear F a; intro a F
    refine s_I F rfl rfl rfl rfl rfl rfl ?_; clear F a; intro a F
    refine t_endM M ?_; (clear M; try clear w); intro w M
    refine c_f F rfl ?_
    refine wp_exit ?_
    refine wp_seq ?_
    obtain rfl : k = 3 := by omega
    rw [aQ3] at F M
    replace F := F.keep [0, 1, 2, 3] rfl
    refine wp_region_l [.ind, .wr, .ind, .ind, .ind, .ind, .ind] ([0, 1, 2, 3, 4, 5, 6]) rfl ?_
    refine s_I F rfl rfl rfl rfl rfl rfl ?_; clear F a; intro a F
    refine s_cq F M rfl rfl rfl rfl rfl (rfl : _ = some [_]) cb_48_A9 (fun nd_ => c48r g (aQ 3).1 _ (by exact M.h0)) ?_; (clear F a M; try clear w); rintro v w rfl M a F
    rw [aQd, aQv] at F
    refine s_I F rfl rfl rfl rfl rfl rfl ?_; clear F a; intro a F
    refine s_I F rfl rfl rfl rfl rfl rfl ?_; clear F a; intro a F
    refine s_I F rfl rfl rfl rfl rfl rfl ?_; clear F a; intro a F
    refine s_I F rfl rfl rfl rfl rfl rfl ?_; clear F a; intro a F
    refine s_I F rfl rfl rfl rfl rfl rfl ?_; clear F a; intro a F
    refine t_endM M ?_; (clear M; try clear w); intro w M
    refine wp_seq ?_
    replace F := F.keep [0, 1, 2, 3, 4, 5] rfl
    refine wp_region_l [.ind, .wr, .ind, .ind, .ind, .ind, .ind] ([0, 1, 2, 3, 4, 5, 6]) rfl ?_
    refine s_I F rfl rfl rfl rfl rfl rfl ?_; clear F a; intro a F
    refine s_cq F M rfl rfl rfl rfl rfl (rfl : _ = some [_]) cb_46_A9 (fun nd_ => c46r g (aQ 3).1 _ (by exact M.h0)) ?_; (clear F a M; try clear w); rintro v w rfl M a F
    rw [aQr, aQs] at F
    refine s_I F rfl rfl rfl rfl rfl rfl ?_; clear F a; intro a F
    refine s_I F rfl rfl rfl rfl rfl rfl ?_; clear F a; intro a F
    refine s_I F rfl rfl rfl rfl rfl rfl ?_; clear F a; intro a F
    refine s_I F rfl rfl rfl rfl rfl rfl ?_; clear F a; intro a F
    refine s_I F rfl rfl rfl rfl rfl rfl ?_; clear F a; intro a F
    refine t_endM M ?_; (clear M; try clear w); intro w M
    refine wp_seq ?_
    replace F := F.keep [0, 1, 2, 3, 4, 5, 6, 7] rfl
    refine wp_region_l [.ind, .wr, .ind, .ind, .ind, .ind, .ind] ([0, 1, 2, 3, 4, 5, 6]) rfl ?_
    refine s_I F rfl rfl rfl rfl rfl rfl ?_; clear F a; intro a F
    refine s_cq F M rfl rfl rfl rfl rfl (rfl : _ = some [_]) cb_47_A9 (fun nd_ => c47r g (aQ 3).1 _ (by exact M.h0)) ?_; (clear F a M; try clear w); rintro v w rfl M a F
    rw [aQl, aQn] at F
    refine s_I F rfl rfl rfl rfl rfl rfl ?_; clear F a; intro a F
    refine s_I F rfl rfl rfl rfl rfl rfl ?_; clear F a; intro a F
    refine s_I F rfl rfl rfl rfl rfl rfl ?_; clear F a; intro a F
    refine s_I F rfl rfl rfl rfl rfl rfl ?_; clear F a; intro a F
    refine s_I F rfl rfl rfl rfl rfl rfl ?_; clear F a; intro a F
    refine t_endM M ?_; (clear M; try clear w); intro w M
    refine wp_seq ?_
    replace F := F.keep [0, 1, 2, 3, 4, 5, 6, 7, 8, 9] rfl
    refine wp_region_l [.ind, .ind, .ind, .ind, .ind, .ind, .ind, .ind, .ind, .ind, .ind, .ind, .ind, .ind, .ind, .ind, .ind, .ind, .ind, .ind, .ind, .ind, .ind, .ind, .ind, .ind, .ind] ([0, 1, 2, 3, 4, 5, 6, 7, 8, 9, 10, 11, 12, 13, 14, 15, 16, 17, 18, 19, 20, 21, 22, 23, 24, 25, 26]) rfl ?_
    refine s_I F rfl rfl rfl rfl rfl rfl ?_; clear F a; intro a F
    refine s_len F rfl rfl rfl rfl sl_22_A9 rfl ?_; clear F a; intro a F
    refine s_bin F rfl rfl rfl rfl rfl rfl rfl ?_; clear F a; intro a F
    replace F : Fr _ _ ((62, Value.bool true) :: _) := F
    refine s_I F rfl rfl rfl rfl rfl rfl ?_; clear F a; intro a F
    refine s_I F rfl rfl rfl rfl rfl rfl ?_; clear F a; intro a F
    refine s_bin F rfl rfl rfl rfl rfl rfl rfl ?_; clear F a; intro a F
    replace F : Fr _ _ ((65, Value.bool true) :: _) := F
    refine s_I F rfl rfl rfl rfl rfl rfl ?_; clear F a; intro a F
    refine s_I F rfl rfl rfl rfl rfl rfl ?_; clear F a; intro a F
    refine s_I F rfl rfl rfl rfl rfl rfl ?_; clear F a; intro a F
    replace F : Fr _ _ ((68, Value.bool true) :: _) := F
    refine s_I F rfl rfl rfl rfl rfl rfl ?_; clear F a; intro a F
    refine s_I F rfl rfl rfl rfl rfl rfl ?_; clear F a; intro a F
    refine s_I F rfl rfl rfl rfl rfl rfl ?_; clear F a; intro a F
    refine s_bin F rfl rfl rfl rfl rfl rfl rfl ?_; clear F a; intro a F
    replace F : Fr _ _ ((72, Value.bool true) :: _) := F
    refine s_I F rfl rfl rfl rfl rfl rfl ?_; clear F a; intro a F
    refine s_I F rfl rfl rfl rfl rfl rfl ?_; clear F a; intro a F
    refine s_I F rfl rfl rfl rfl rfl rfl ?_; clear F a; intro a F
    refine s_bin F rfl rfl rfl rfl rfl rfl rfl ?_; clear F a; intro a F
    replace F : Fr _ _ ((76, Value.bool true) :: _) := F
    refine s_I F rfl rfl rfl rfl rfl rfl ?_; clear F a; intro a F
    refine s_I F rfl rfl rfl rfl rfl rfl ?_; clear F a; intro a F
    refine s_I F rfl rfl rfl rfl rfl rfl ?_; clear F a; intro a F
    refine s_bin F rfl rfl rfl rfl rfl rfl rfl ?_; clear F a; intro a F
    replace F : Fr _ _ ((80, Value.bool true) :: _) := F
    refine s_I F rfl rfl rfl rfl rfl rfl ?_; clear F a; intro a F
    refine s_I F rfl rfl rfl rfl rfl rfl ?_; clear F a; intro a F
    refine s_I F rfl rfl rfl rfl rfl rfl ?_; clear F a; intro a F
    refine s_bin F rfl rfl rfl rfl rfl rfl rfl ?_; clear F a; intro a F
    replace F : Fr _ _ ((84, Value.bool true) :: _) := F
    refine s_I F rfl rfl rfl rfl rfl rfl ?_; clear F a; intro a F
    refine s_I F rfl rfl rfl rfl rfl rfl ?_; clear F a; intro a F
    refine t_endM M ?_; (clear M; try clear w); intro w M
    refine wp_ret ?_
    refine ret1 F rfl rfl ?_
    -- end 1
    exact ⟨_, rfl, rfl, M.chg⟩
end Go.Proofs.Ytboibdmflblphaa
