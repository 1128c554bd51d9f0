/- B4 of the seat. -/
import Derived.Test.YtboibdmflblphaaB3
namespace Go.Proofs.Ytboibdmflblphaa
open Go Fw
theorem cb_93_B4 : callB Try.prog 93 = true := by kernel_rfl
theorem zr_160_B4 : zeroB Try.prog 160 = some (.agg #[.int .i64 0, .int .i64 0, .int .i64 0, .int .i64 0, .int .i64 0, .string { data := #[] }]) := by kernel_rfl
theorem sz_160_B4 : sizeB Try.prog 160 = some 6 := by kernel_rfl
theorem fa_160_0_B4 : FA Try.prog 160 0 0 := fun _ _ _ => by kernel_rfl
theorem sc_3_B4 : scalB Try.prog 3 = true := by kernel_rfl
theorem fa_160_1_B4 : FA Try.prog 160 1 1 := fun _ _ _ => by kernel_rfl
theorem ag_32_B4 : aggB Try.prog 32 = some 5 := by kernel_rfl
theorem cb_94_B4 : callB Try.prog 94 = true := by kernel_rfl
theorem cb_95_B4 : callB Try.prog 95 = true := by kernel_rfl
theorem fa_32_1_B4 : FA Try.prog 32 1 1 := fun _ _ _ => by kernel_rfl
theorem fa_32_0_B4 : FA Try.prog 32 0 0 := fun _ _ _ => by kernel_rfl
theorem fa_157_2_B4 : FA Try.prog 157 2 2 := fun _ _ _ => by kernel_rfl
theorem sc_155_B4 : scalB Try.prog 155 = true := by kernel_rfl
theorem sl_155_B4 : slcB Try.prog 155 = some (160, 6) := by kernel_rfl
theorem bl_160_0_1_B4 : ∀ (x0 : Int) (x1_0 : Int) (x1_1 : Int) (x1_2 : Int) (x1_3 : Int) (x1_4 : ByteArray), ∀ w : World, (Instr.build 160 #[(0, .int .i64 x0), (1, .agg #[.int .i64 x1_0, .int .i64 x1_1, .int .i64 x1_2, .int .i64 x1_3, .string x1_4])]).run Try.prog w = .ok (.agg #[.int .i64 x0, .int .i64 x1_0, .int .i64 x1_1, .int .i64 x1_2, .int .i64 x1_3, .string x1_4]) w := by intros; kernel_rfl
theorem bs_155_1_B4 : ∀ (x0_0 : Int) (x0_1_0 : Int) (x0_1_1 : Int) (x0_1_2 : Int) (x0_1_3 : Int) (x0_1_4 : ByteArray), News Try.prog (Instr.buildSlice 155 1 #[(0, .agg #[.int .i64 x0_0, .int .i64 x0_1_0, .int .i64 x0_1_1, .int .i64 x0_1_2, .int .i64 x0_1_3, .string x0_1_4])]) (.cells #[.int .i64 x0_0, .int .i64 x0_1_0, .int .i64 x0_1_1, .int .i64 x0_1_2, .int .i64 x0_1_3, .string x0_1_4] 160) fun b => .slice (some ⟨b, 0, none⟩) 1 1 := by intros; intro w; kernel_rfl
theorem tl_155_B4 : SlT Try.prog 155 160 6 56 (.agg #[.int .i64 0, .int .i64 0, .int .i64 0, .int .i64 0, .int .i64 0, .string { data := #[] }]) := ⟨by kernel_rfl, by kernel_rfl, by kernel_rfl, by kernel_rfl, by decide⟩
theorem sz_155_B4 : sizeB Try.prog 155 = some 1 := by kernel_rfl
theorem fa_157_0_B4 : FA Try.prog 157 0 0 := fun _ _ _ => by kernel_rfl
theorem sc_154_B4 : scalB Try.prog 154 = true := by kernel_rfl
theorem sl_154_B4 : slcB Try.prog 154 = some (50, 1) := by kernel_rfl
theorem sc_50_B4 : scalB Try.prog 50 = true := by kernel_rfl
theorem cb_46_B4 : callB Try.prog 46 = true := by kernel_rfl
theorem bl_32_0_2_3_B4 : ∀ (x0 : Int) (x2 : Int) (x3 : Int), ∀ w : World, (Instr.build 32 #[(0, .int .i64 x0), (2, .int .i64 x2), (3, .int .i64 x3)]).run Try.prog w = .ok (.agg #[.int .i64 x0, .int .i64 0, .int .i64 x2, .int .i64 x3, .string { data := #[] }]) w := by intros; kernel_rfl
open VoteM AgrM CouM

theorem to_word {w : World} {b : Nat} {x : To} {T : TypeId} {fz : Nat × Nat} (hb : w.heap[b]? = some (.cells (encTo x).toArray T fz)) : ∀ j v, (encW x.w).toArray[j]? = some v → w.cell? ((⟨b, 1, none⟩ : Addr).add j) = some v := by
  refine cells_part hb fun j v hv => ?_
  have hj : j < 5 := (Array.getElem?_eq_some_iff.1 hv).1
  have : j = 0 ∨ j = 1 ∨ j = 2 ∨ j = 3 ∨ j = 4 := by omega
  rcases this with rfl | rfl | rfl | rfl | rfl <;> exact hv
theorem deliver_none {C : Cou} {i : Int} (h : C.way.length = 0) : C.deliver i = (C, false) := by
  unfold Cou.deliver
  rw [out_none (List.eq_nil_of_length_eq_zero h)]
theorem lose_none {C : Cou} {i : Int} (h : C.way.length = 0) : C.lose i = (C, false) := by
  unfold Cou.lose
  rw [out_none (List.eq_nil_of_length_eq_zero h)]
theorem out_at {C : Cou} {i : Int} {x : To} (hx : C.way[outAt C.way.length i]? = some x) : C.out i = some (C.cut (outAt C.way.length i), x) := by unfold Cou.out; rw [hx]
theorem deliver_some {C : Cou} {i : Int} {x : To} (hx : C.way[outAt C.way.length i]? = some x) : C.deliver i = ((C.cut (outAt C.way.length i)).take x.node x.w, true) := by
  unfold Cou.deliver
  rw [out_at hx]
theorem lose_some {C : Cou} {i : Int} {x : To} (hx : C.way[outAt C.way.length i]? = some x) : C.lose i = (C.cut (outAt C.way.length i), true) := by
  unfold Cou.lose
  rw [out_at hx]
theorem forge_yes {C : Cou} {nd : Int} {w : Wrd} (h : C.forgeOk nd w = true) : C.forge nd w = ({ C with way := C.way ++ [⟨nd, w⟩] }, true) := if_pos h
theorem forge_no {C : Cou} {nd : Int} {w : Wrd} (h : C.forgeOk nd w = false) : C.forge nd w = (C, false) := if_neg (by rw [h]; decide)
theorem timeout_no {C : Cou} {nd s : Int} (h : hon C nd = false) : C.timeout nd s = (C, false) := if_neg (by rw [h]; decide)
theorem timeout_at {C : Cou} {nd s : Int} {a : ASt} (h : hon C nd = true) (ha : C.As[nd.toNat - 1]? = some a) : C.timeout nd s = (C.take nd ⟨4, 0, a.round, s, VoteM.empty⟩, true) := by
  unfold Cou.timeout
  rw [if_pos h, ha]

set_option maxRecDepth 100000 in
set_option maxHeartbeats 400000 in
theorem c53a {n t : Int} (γ : Gc) (C : Cou) (W : C.Wf n t) (i : Int) (hw : C.way.length = 0) (w0 : World) (ho : Own w0.heap [couR γ C]) : Cl Try.prog 53 #[.pointer (some ⟨γ.b, 0, none⟩), .int .i64 i] w0 (RetS [couR γ C] w0 (fun v (γ2 : Gc) => v = .bool (C.deliver i).2 ∧ γ2.b = γ.b) fun γ2 => [couR γ2 (C.deliver i).1]) := by
  have M : Sep (fun b_ => b_ ∈ foots [couR γ C]) w0 w0 _ := Sep.start ho
  refine enter (vs := [_, _]) Try.func53 rfl rfl rfl ?_
  intro a F
  refine wp_seq ?_
  refine wp_region_l [.ind] ([0]) rfl ?_
  refine s_I F rfl rfl rfl rfl rfl rfl ?_; clear F a; intro a F
  refine t_endM M ?_; (clear M; try clear w); intro w M
  refine wp_seq ?_
  refine wp_region_l [.ind, .ind, .wr, .ind, .ind, .ind, .wr, .wr, .ind] ([0, 1, 2, 3, 4, 5, 6, 7, 8]) rfl ?_
  refine s_I F rfl rfl rfl rfl rfl rfl ?_; clear F a; intro a F
  refine s_I F rfl rfl rfl rfl rfl rfl ?_; clear F a; intro a F
  refine s_cq F M rfl rfl rfl rfl rfl (rfl : _ = some [_, _]) cb_93_B4 (fun nd_ => c93a γ C i hw _ (by exact roF (M.drewN nd_))) ?_; (clear F a M; try clear w); rintro v w rfl M a F
  refine s_I F rfl rfl rfl rfl rfl rfl ?_; clear F a; intro a F
  refine s_I F rfl rfl rfl rfl rfl rfl ?_; clear F a; intro a F
  refine s_I F rfl rfl rfl rfl rfl rfl ?_; clear F a; intro a F
  replace F : Fr _ _ ((12, Value.bool false) :: _) := F
  refine s_alc F M rfl rfl rfl rfl zr_160_B4 rfl ?_; (clear F a M; try clear w); intro b5 w M a F
  refine s_stW F M rfl rfl rfl sz_160_B4 rfl rfl rfl rfl rfl ?_; (clear M; try clear w); intro w M
  refine s_I F rfl rfl rfl rfl rfl rfl ?_; clear F a; intro a F
  refine t_endM M ?_; (clear M; try clear w); intro w M
  refine wp_seq ?_
  refine wp_seq ?_
  replace F := F.keep [0, 1, 4, 5, 6] rfl
  refine wp_region_l [.ind] ([0]) rfl ?_
  refine s_I F rfl rfl rfl rfl rfl rfl ?_; clear F a; intro a F
  refine t_endM M ?_; (clear M; try clear w); intro w M
  refine c_f F rfl ?_
  refine wp_skip ?_
  refine wp_seq ?_
  replace F := F.keep [0, 1, 4, 5, 6] rfl
  refine wp_region_l [.ind, .ind] ([0, 1]) rfl ?_
  refine s_I F rfl rfl rfl rfl rfl rfl ?_; clear F a; intro a F
  refine s_I F rfl rfl rfl rfl rfl rfl ?_; clear F a; intro a F
  refine t_endM M ?_; (clear M; try clear w); intro w M
  refine wp_ret ?_
  refine ret1 F rfl rfl ?_
  -- end 0
  rw [deliver_none hw]
  refine ⟨_, γ, rfl, ⟨rfl, rfl⟩, ?_⟩
  refine M.pick ?_; repeat (first | exact PkG.nil | refine PkG.cons 1 rfl rfl ?_)
set_option maxRecDepth 100000 in
set_option maxHeartbeats 400000 in
theorem c53b {n t : Int} (γ : Gc) (C : Cou) (W : C.Wf n t) (i : Int) (x : To) (hx : C.way[outAt C.way.length i]? = some x) (w0 : World) (ho : Own w0.heap [couR γ C]) : Cl Try.prog 53 #[.pointer (some ⟨γ.b, 0, none⟩), .int .i64 i] w0 (RetS [couR γ C] w0 (fun v (γ2 : Gc) => v = .bool (C.deliver i).2 ∧ γ2.b = γ.b) fun γ2 => [couR γ2 (C.deliver i).1]) := by
  have M : Sep (fun b_ => b_ ∈ foots [couR γ C]) w0 w0 _ := Sep.start ho
  refine enter (vs := [_, _]) Try.func53 rfl rfl rfl ?_
  intro a F
  refine wp_seq ?_
  refine wp_region_l [.ind] ([0]) rfl ?_
  refine s_I F rfl rfl rfl rfl rfl rfl ?_; clear F a; intro a F
  refine t_endM M ?_; (clear M; try clear w); intro w M
  refine wp_seq ?_
  refine wp_region_l [.ind, .ind, .wr, .ind, .ind, .ind, .wr, .wr, .ind] ([0, 1, 2, 3, 4, 5, 6, 7, 8]) rfl ?_
  refine s_I F rfl rfl rfl rfl rfl rfl ?_; clear F a; intro a F
  refine s_I F rfl rfl rfl rfl rfl rfl ?_; clear F a; intro a F
  have M1 : Sep _ _ _ (couR _ _ :: _) := M; replace M := M1; clear M1
  refine s_call (m := [_]) F M rfl rfl rfl rfl rfl (rfl : _ = some [_, _]) cb_93_B4 (fun nd_ => c93 γ C i x hx W.wl _ (M.drewN nd_).own.one) ?_; (clear F a M; try clear w); rintro v vw w rfl M a F; (try simp only [List.cons_append, List.nil_append] at M)
  refine s_I F rfl rfl rfl rfl rfl rfl ?_; clear F a; intro a F
  refine s_I F rfl rfl rfl rfl rfl rfl ?_; clear F a; intro a F
  refine s_I F rfl rfl rfl rfl rfl rfl ?_; clear F a; intro a F
  replace F : Fr _ _ ((12, Value.bool true) :: _) := F
  refine s_alc F M rfl rfl rfl rfl zr_160_B4 rfl ?_; (clear F a M; try clear w); intro b5 w M a F
  refine s_stW F M rfl rfl rfl sz_160_B4 rfl rfl rfl rfl rfl ?_; (clear M; try clear w); intro w M
  refine s_I F rfl rfl rfl rfl rfl rfl ?_; clear F a; intro a F
  refine t_endM M ?_; (clear M; try clear w); intro w M
  refine wp_seq ?_
  refine wp_seq ?_
  replace F := F.keep [0, 1, 4, 5, 6] rfl
  refine wp_region_l [.ind] ([0]) rfl ?_
  refine s_I F rfl rfl rfl rfl rfl rfl ?_; clear F a; intro a F
  refine t_endM M ?_; (clear M; try clear w); intro w M
  refine c_t F rfl ?_
  replace F := F.keep [0, 1, 4, 5, 6] rfl
  refine wp_region_l [.ind, .ind, .rd, .ind, .rd, .wr] ([0, 1, 2, 3, 4, 5]) rfl ?_
  refine s_I F rfl rfl rfl rfl rfl rfl ?_; clear F a; intro a F
  refine s_fa0 F rfl rfl rfl rfl fa_160_0_B4 rfl ?_; clear F a; intro a F
  refine s_ld F rfl rfl rfl rfl sc_3_B4 rfl (by exact cell_of_blk M.h0 (lit rfl)) ?_; clear F a; intro a F
  refine s_fa0 F rfl rfl rfl rfl fa_160_1_B4 rfl ?_; clear F a; intro a F
  refine s_lda F rfl rfl rfl rfl ag_32_B4 rfl rfl (to_word M.h0) ?_; clear F a; intro a F
  have M1 : Sep _ _ _ (couR _ _ :: _) := M.f1; replace M := M1; clear M1
  refine s_call (m := [_]) F M rfl rfl rfl rfl rfl (rfl : _ = some [_, _, _]) cb_94_B4 (fun nd_ => c94 { γ with vw := vw } (C.cut (outAt C.way.length i)) (W.cut _) x.node x.w _ (M.drewN nd_).own.one) ?_; (clear F a M; try clear w); rintro v γ2 w ⟨rfl, hb2⟩ M a F; (try simp only [List.cons_append, List.nil_append] at M)
  refine t_endM M ?_; (clear M; try clear w); intro w M
  refine wp_seq ?_
  replace F := F.keep [0, 1, 4, 5, 6] rfl
  refine wp_region_l [.ind, .ind] ([0, 1]) rfl ?_
  refine s_I F rfl rfl rfl rfl rfl rfl ?_; clear F a; intro a F
  refine s_I F rfl rfl rfl rfl rfl rfl ?_; clear F a; intro a F
  refine t_endM M ?_; (clear M; try clear w); intro w M
  refine wp_ret ?_
  refine ret1 F rfl rfl ?_
  -- end 0
  rw [deliver_some hx]
  refine ⟨_, γ2, rfl, ⟨rfl, hb2⟩, ?_⟩
  refine M.pick ?_; repeat (first | exact PkG.nil | refine PkG.cons 0 rfl rfl ?_)
theorem c53 {n t : Int} (γ : Gc) (C : Cou) (W : C.Wf n t) (i : Int) (w0 : World) (ho : Own w0.heap [couR γ C]) : Cl Try.prog 53 #[.pointer (some ⟨γ.b, 0, none⟩), .int .i64 i] w0 (RetS [couR γ C] w0 (fun v (γ2 : Gc) => v = .bool (C.deliver i).2 ∧ γ2.b = γ.b) fun γ2 => [couR γ2 (C.deliver i).1]) := by
  rcases Nat.eq_zero_or_pos C.way.length with h | h
  · exact c53a γ C W i h w0 ho
  · obtain ⟨x, hx, _⟩ := out_some (i := i) h
    exact c53b γ C W i x hx w0 ho
set_option maxRecDepth 100000 in
set_option maxHeartbeats 400000 in
theorem c53n (i : Int) (w0 : World) : Cl Try.prog 53 #[.pointer none, .int .i64 i] w0 (RetQ w0 fun v => v = .bool false) := by
  have M : Sep (fun _ => False) w0 w0 _ := Sep.nil _ w0
  refine enter (vs := [_, _]) Try.func53 rfl rfl rfl ?_
  intro a F
  refine wp_seq ?_
  refine wp_region_l [.ind] ([0]) rfl ?_
  refine s_I F rfl rfl rfl rfl rfl rfl ?_; clear F a; intro a F
  refine t_endM M ?_; (clear M; try clear w); intro w M
  refine wp_seq ?_
  refine wp_region_l [.ind, .ind, .wr, .ind, .ind, .ind, .wr, .wr, .ind] ([0, 1, 2, 3, 4, 5, 6, 7, 8]) rfl ?_
  refine s_I F rfl rfl rfl rfl rfl rfl ?_; clear F a; intro a F
  refine s_I F rfl rfl rfl rfl rfl rfl ?_; clear F a; intro a F
  refine s_cq F M rfl rfl rfl rfl rfl (rfl : _ = some [_, _]) cb_93_B4 (fun nd_ => c93n i _) ?_; (clear F a M; try clear w); rintro v w rfl M a F
  refine s_I F rfl rfl rfl rfl rfl rfl ?_; clear F a; intro a F
  refine s_I F rfl rfl rfl rfl rfl rfl ?_; clear F a; intro a F
  refine s_I F rfl rfl rfl rfl rfl rfl ?_; clear F a; intro a F
  replace F : Fr _ _ ((12, Value.bool false) :: _) := F
  refine s_alc F M rfl rfl rfl rfl zr_160_B4 rfl ?_; (clear F a M; try clear w); intro b5 w M a F
  refine s_stW F M rfl rfl rfl sz_160_B4 rfl rfl rfl rfl rfl ?_; (clear M; try clear w); intro w M
  refine s_I F rfl rfl rfl rfl rfl rfl ?_; clear F a; intro a F
  refine t_endM M ?_; (clear M; try clear w); intro w M
  refine wp_seq ?_
  refine wp_seq ?_
  replace F := F.keep [0, 1, 4, 5, 6] rfl
  refine wp_region_l [.ind] ([0]) rfl ?_
  refine s_I F rfl rfl rfl rfl rfl rfl ?_; clear F a; intro a F
  refine t_endM M ?_; (clear M; try clear w); intro w M
  refine c_f F rfl ?_
  refine wp_skip ?_
  refine wp_seq ?_
  replace F := F.keep [0, 1, 4, 5, 6] rfl
  refine wp_region_l [.ind, .ind] ([0, 1]) rfl ?_
  refine s_I F rfl rfl rfl rfl rfl rfl ?_; clear F a; intro a F
  refine s_I F rfl rfl rfl rfl rfl rfl ?_; clear F a; intro a F
  refine t_endM M ?_; (clear M; try clear w); intro w M
  refine wp_ret ?_
  refine ret1 F rfl rfl ?_
  -- end 0
  exact ⟨_, rfl, rfl, M.chg⟩
set_option maxRecDepth 100000 in
set_option maxHeartbeats 400000 in
theorem c90a {n t : Int} (γ : Gc) (C : Cou) (W : C.Wf n t) (i : Int) (hw : C.way.length = 0) (w0 : World) (ho : Own w0.heap [couR γ C]) : Cl Try.prog 90 #[.pointer (some ⟨γ.b, 0, none⟩), .int .i64 i] w0 (RetS [couR γ C] w0 (fun v (γ2 : Gc) => v = .bool (C.lose i).2 ∧ γ2.b = γ.b) fun γ2 => [couR γ2 (C.lose i).1]) := by
  have M : Sep (fun b_ => b_ ∈ foots [couR γ C]) w0 w0 _ := Sep.start ho
  refine enter (vs := [_, _]) Try.func90 rfl rfl rfl ?_
  intro a F
  refine wp_seq ?_
  refine wp_region_l [.ind] ([0]) rfl ?_
  refine s_I F rfl rfl rfl rfl rfl rfl ?_; clear F a; intro a F
  refine t_endM M ?_; (clear M; try clear w); intro w M
  refine wp_seq ?_
  refine wp_region_l [.ind, .ind, .wr, .ind, .ind, .ind, .wr, .wr, .ind] ([0, 1, 2, 3, 4, 5, 6, 7, 8]) rfl ?_
  refine s_I F rfl rfl rfl rfl rfl rfl ?_; clear F a; intro a F
  refine s_I F rfl rfl rfl rfl rfl rfl ?_; clear F a; intro a F
  refine s_cq F M rfl rfl rfl rfl rfl (rfl : _ = some [_, _]) cb_93_B4 (fun nd_ => c93a γ C i hw _ (by exact roF (M.drewN nd_))) ?_; (clear F a M; try clear w); rintro v w rfl M a F
  refine s_I F rfl rfl rfl rfl rfl rfl ?_; clear F a; intro a F
  refine s_I F rfl rfl rfl rfl rfl rfl ?_; clear F a; intro a F
  refine s_I F rfl rfl rfl rfl rfl rfl ?_; clear F a; intro a F
  replace F : Fr _ _ ((12, Value.bool false) :: _) := F
  refine s_alc F M rfl rfl rfl rfl zr_160_B4 rfl ?_; (clear F a M; try clear w); intro b5 w M a F
  refine s_stW F M rfl rfl rfl sz_160_B4 rfl rfl rfl rfl rfl ?_; (clear M; try clear w); intro w M
  refine s_I F rfl rfl rfl rfl rfl rfl ?_; clear F a; intro a F
  refine t_endM M ?_; (clear M; try clear w); intro w M
  refine wp_seq ?_
  replace F := F.keep [0, 1, 4, 6] rfl
  refine wp_region_l [.ind, .ind] ([0, 1]) rfl ?_
  refine s_I F rfl rfl rfl rfl rfl rfl ?_; clear F a; intro a F
  refine s_I F rfl rfl rfl rfl rfl rfl ?_; clear F a; intro a F
  refine t_endM M ?_; (clear M; try clear w); intro w M
  refine wp_ret ?_
  refine ret1 F rfl rfl ?_
  -- end 0
  rw [lose_none hw]
  refine ⟨_, γ, rfl, ⟨rfl, rfl⟩, ?_⟩
  refine M.pick ?_; repeat (first | exact PkG.nil | refine PkG.cons 1 rfl rfl ?_)
set_option maxRecDepth 100000 in
set_option maxHeartbeats 400000 in
theorem c90b {n t : Int} (γ : Gc) (C : Cou) (W : C.Wf n t) (i : Int) (x : To) (hx : C.way[outAt C.way.length i]? = some x) (w0 : World) (ho : Own w0.heap [couR γ C]) : Cl Try.prog 90 #[.pointer (some ⟨γ.b, 0, none⟩), .int .i64 i] w0 (RetS [couR γ C] w0 (fun v (γ2 : Gc) => v = .bool (C.lose i).2 ∧ γ2.b = γ.b) fun γ2 => [couR γ2 (C.lose i).1]) := by
  have M : Sep (fun b_ => b_ ∈ foots [couR γ C]) w0 w0 _ := Sep.start ho
  refine enter (vs := [_, _]) Try.func90 rfl rfl rfl ?_
  intro a F
  refine wp_seq ?_
  refine wp_region_l [.ind] ([0]) rfl ?_
  refine s_I F rfl rfl rfl rfl rfl rfl ?_; clear F a; intro a F
  refine t_endM M ?_; (clear M; try clear w); intro w M
  refine wp_seq ?_
  refine wp_region_l [.ind, .ind, .wr, .ind, .ind, .ind, .wr, .wr, .ind] ([0, 1, 2, 3, 4, 5, 6, 7, 8]) rfl ?_
  refine s_I F rfl rfl rfl rfl rfl rfl ?_; clear F a; intro a F
  refine s_I F rfl rfl rfl rfl rfl rfl ?_; clear F a; intro a F
  have M1 : Sep _ _ _ (couR _ _ :: _) := M; replace M := M1; clear M1
  refine s_call (m := [_]) F M rfl rfl rfl rfl rfl (rfl : _ = some [_, _]) cb_93_B4 (fun nd_ => c93 γ C i x hx W.wl _ (M.drewN nd_).own.one) ?_; (clear F a M; try clear w); rintro v vw w rfl M a F; (try simp only [List.cons_append, List.nil_append] at M)
  refine s_I F rfl rfl rfl rfl rfl rfl ?_; clear F a; intro a F
  refine s_I F rfl rfl rfl rfl rfl rfl ?_; clear F a; intro a F
  refine s_I F rfl rfl rfl rfl rfl rfl ?_; clear F a; intro a F
  replace F : Fr _ _ ((12, Value.bool true) :: _) := F
  refine s_alc F M rfl rfl rfl rfl zr_160_B4 rfl ?_; (clear F a M; try clear w); intro b5 w M a F
  refine s_stW F M rfl rfl rfl sz_160_B4 rfl rfl rfl rfl rfl ?_; (clear M; try clear w); intro w M
  refine s_I F rfl rfl rfl rfl rfl rfl ?_; clear F a; intro a F
  refine t_endM M ?_; (clear M; try clear w); intro w M
  refine wp_seq ?_
  replace F := F.keep [0, 1, 4, 6] rfl
  refine wp_region_l [.ind, .ind] ([0, 1]) rfl ?_
  refine s_I F rfl rfl rfl rfl rfl rfl ?_; clear F a; intro a F
  refine s_I F rfl rfl rfl rfl rfl rfl ?_; clear F a; intro a F
  refine t_endM M ?_; (clear M; try clear w); intro w M
  refine wp_ret ?_
  refine ret1 F rfl rfl ?_
  -- end 0
  rw [lose_some hx]
  refine ⟨_, { γ with vw := vw }, rfl, ⟨rfl, rfl⟩, ?_⟩
  refine M.pick ?_; repeat (first | exact PkG.nil | refine PkG.cons 1 rfl rfl ?_)
theorem c90 {n t : Int} (γ : Gc) (C : Cou) (W : C.Wf n t) (i : Int) (w0 : World) (ho : Own w0.heap [couR γ C]) : Cl Try.prog 90 #[.pointer (some ⟨γ.b, 0, none⟩), .int .i64 i] w0 (RetS [couR γ C] w0 (fun v (γ2 : Gc) => v = .bool (C.lose i).2 ∧ γ2.b = γ.b) fun γ2 => [couR γ2 (C.lose i).1]) := by
  rcases Nat.eq_zero_or_pos C.way.length with h | h
  · exact c90a γ C W i h w0 ho
  · obtain ⟨x, hx, _⟩ := out_some (i := i) h
    exact c90b γ C W i x hx w0 ho
set_option maxRecDepth 100000 in
set_option maxHeartbeats 400000 in
theorem c90n (i : Int) (w0 : World) : Cl Try.prog 90 #[.pointer none, .int .i64 i] w0 (RetQ w0 fun v => v = .bool false) := by
  have M : Sep (fun _ => False) w0 w0 _ := Sep.nil _ w0
  refine enter (vs := [_, _]) Try.func90 rfl rfl rfl ?_
  intro a F
  refine wp_seq ?_
  refine wp_region_l [.ind] ([0]) rfl ?_
  refine s_I F rfl rfl rfl rfl rfl rfl ?_; clear F a; intro a F
  refine t_endM M ?_; (clear M; try clear w); intro w M
  refine wp_seq ?_
  refine wp_region_l [.ind, .ind, .wr, .ind, .ind, .ind, .wr, .wr, .ind] ([0, 1, 2, 3, 4, 5, 6, 7, 8]) rfl ?_
  refine s_I F rfl rfl rfl rfl rfl rfl ?_; clear F a; intro a F
  refine s_I F rfl rfl rfl rfl rfl rfl ?_; clear F a; intro a F
  refine s_cq F M rfl rfl rfl rfl rfl (rfl : _ = some [_, _]) cb_93_B4 (fun nd_ => c93n i _) ?_; (clear F a M; try clear w); rintro v w rfl M a F
  refine s_I F rfl rfl rfl rfl rfl rfl ?_; clear F a; intro a F
  refine s_I F rfl rfl rfl rfl rfl rfl ?_; clear F a; intro a F
  refine s_I F rfl rfl rfl rfl rfl rfl ?_; clear F a; intro a F
  replace F : Fr _ _ ((12, Value.bool false) :: _) := F
  refine s_alc F M rfl rfl rfl rfl zr_160_B4 rfl ?_; (clear F a M; try clear w); intro b5 w M a F
  refine s_stW F M rfl rfl rfl sz_160_B4 rfl rfl rfl rfl rfl ?_; (clear M; try clear w); intro w M
  refine s_I F rfl rfl rfl rfl rfl rfl ?_; clear F a; intro a F
  refine t_endM M ?_; (clear M; try clear w); intro w M
  refine wp_seq ?_
  replace F := F.keep [0, 1, 4, 6] rfl
  refine wp_region_l [.ind, .ind] ([0, 1]) rfl ?_
  refine s_I F rfl rfl rfl rfl rfl rfl ?_; clear F a; intro a F
  refine s_I F rfl rfl rfl rfl rfl rfl ?_; clear F a; intro a F
  refine t_endM M ?_; (clear M; try clear w); intro w M
  refine wp_ret ?_
  refine ret1 F rfl rfl ?_
  -- end 0
  exact ⟨_, rfl, rfl, M.chg⟩
set_option maxRecDepth 100000 in
set_option maxHeartbeats 2000000 in
theorem c91 {n t : Int} (γ : Gc) (C : Cou) (W : C.Wf n t) (nd : Int) (q : Wrd) (w0 : World) (ho : Own w0.heap [couR γ C]) : Cl Try.prog 91 #[.pointer (some ⟨γ.b, 0, none⟩), .int .i64 nd, wrdV q] w0 (RetS [couR γ C] w0 (fun v (γ2 : Gc) => v = .bool (C.forge nd q).2 ∧ γ2.b = γ.b) fun γ2 => [couR γ2 (C.forge nd q).1]) := by
  obtain ⟨cb, mb, bs, gs, GA, gc, vw⟩ := γ
  obtain ⟨VA, VC, rfl⟩ : ∃ A c, vw = .slice A C.way.length c := by
    have h9 := ho.ok _ List.mem_cons_self
    exact SlOk.form (h9 (toR vw C.way) (by simp [couL]))
  have M : Sep (fun b_ => b_ ∈ foots [couR (⟨cb, mb, bs, gs, GA, gc, .slice VA C.way.length VC⟩ : Gc) C]) w0 w0 _ := Sep.start ho
  refine enter (vs := [_, _, _]) Try.func91 rfl rfl rfl ?_
  intro a F
  refine wp_seq ?_
  refine wp_region_l [.wr, .ind] ([0, 1]) rfl ?_
  refine s_bxA F M rfl rfl rfl rfl rfl ?_; (clear F a M; try clear w); intro b5 w M a F
  refine s_I F rfl rfl rfl rfl rfl rfl ?_; clear F a; intro a F
  refine t_endM M ?_; (clear M; try clear w); intro w M
  refine wp_seq ?_
  refine wp_seq ?_
  refine wp_region_l [.ind, .ind, .wr, .ind, .ind, .ind, .ind, .rd, .wr, .ind, .ind, .ind, .rd, .ind, .ind, .ind, .ind, .ind, .ind, .rd, .ind, .ind, .ind] ([0, 1, 2, 3, 4, 5, 6, 7, 8, 9, 10, 11, 12, 13, 14, 15, 16, 17, 18, 19, 20, 21, 22]) rfl ?_
  refine s_I F rfl rfl rfl rfl rfl rfl ?_; clear F a; intro a F
  refine s_I F rfl rfl rfl rfl rfl rfl ?_; clear F a; intro a F
  refine s_cq F M rfl rfl rfl rfl rfl (rfl : _ = some [_, _]) cb_95_B4 (fun nd_ => c95 (⟨cb, mb, bs, gs, GA, gc, .slice VA C.way.length VC⟩ : Gc) C nd _ (by exact roF (M.drewN nd_).f1)) ?_; (clear F a M; try clear w); rintro v w rfl M a F
  refine s_I F rfl rfl rfl rfl rfl rfl ?_; clear F a; intro a F
  refine s_I F rfl rfl rfl rfl rfl rfl ?_; clear F a; intro a F
  refine bsplit F 11 rfl ?_ ?_
  ·
    clear F; intro hc0 F
    try rw [hc0] at F
    replace hc0 := nt hc0
    refine s_no F rfl rfl rfl rfl ?_; clear F a; intro a F
    refine s_no F rfl rfl rfl rfl ?_; clear F a; intro a F
    refine s_no F rfl rfl rfl rfl ?_; clear F a; intro a F
    refine s_no F rfl rfl rfl rfl ?_; clear F a; intro a F
    refine s_I F rfl rfl rfl rfl rfl rfl ?_; clear F a; intro a F
    refine s_I F rfl rfl rfl rfl rfl rfl ?_; clear F a; intro a F
    refine s_no F rfl rfl rfl rfl ?_; clear F a; intro a F
    refine s_no F rfl rfl rfl rfl ?_; clear F a; intro a F
    refine s_no F rfl rfl rfl rfl ?_; clear F a; intro a F
    refine s_I F rfl rfl rfl rfl rfl rfl ?_; clear F a; intro a F
    refine s_I F rfl rfl rfl rfl rfl rfl ?_; clear F a; intro a F
    refine s_no F rfl rfl rfl rfl ?_; clear F a; intro a F
    refine s_no F rfl rfl rfl rfl ?_; clear F a; intro a F
    refine s_no F rfl rfl rfl rfl ?_; clear F a; intro a F
    refine s_no F rfl rfl rfl rfl ?_; clear F a; intro a F
    refine s_no F rfl rfl rfl rfl ?_; clear F a; intro a F
    refine s_no F rfl rfl rfl rfl ?_; clear F a; intro a F
    refine s_I F rfl rfl rfl rfl rfl rfl ?_; clear F a; intro a F
    refine t_endM M ?_; (clear M; try clear w); intro w M
    refine c_t F rfl ?_
    refine wp_seq ?_
    replace F := F.keep [0, 1, 2, 5, 6] rfl
    refine wp_region_l [.ind] ([0]) rfl ?_
    refine s_I F rfl rfl rfl rfl rfl rfl ?_; clear F a; intro a F
    refine t_endM M ?_; (clear M; try clear w); intro w M
    refine wp_ret ?_
    refine ret1 F rfl rfl ?_
    -- end 0
    have hok : C.forgeOk nd q = false := (by clear M F; unfold Cou.forgeOk; grind)
    rw [forge_no hok]
    refine ⟨_, (⟨cb, mb, bs, gs, GA, gc, .slice VA C.way.length VC⟩ : Gc), rfl, ⟨rfl, rfl⟩, ?_⟩
    refine M.pick ?_; repeat (first | exact PkG.nil | refine PkG.cons 1 rfl rfl ?_)
  ·
    clear F; intro hc1 F
    try rw [hc1] at F
    replace hc1 := nf hc1
    refine s_I F rfl rfl rfl rfl rfl rfl ?_; clear F a; intro a F
    refine s_fa0 F rfl rfl rfl rfl fa_32_1_B4 rfl ?_; clear F a; intro a F
    refine s_ld F rfl rfl rfl rfl sc_3_B4 rfl (by exact cell_of_blk M.h0 (lit rfl)) ?_; clear F a; intro a F
    refine s_cq F M rfl rfl rfl rfl rfl (rfl : _ = some [_, _]) cb_95_B4 (fun nd_ => c95 (⟨cb, mb, bs, gs, GA, gc, .slice VA C.way.length VC⟩ : Gc) C q.frm _ (by exact roF (M.drewN nd_).f1)) ?_; (clear F a M; try clear w); rintro v w rfl M a F
    refine s_I F rfl rfl rfl rfl rfl rfl ?_; clear F a; intro a F
    refine s_I F rfl rfl rfl rfl rfl rfl ?_; clear F a; intro a F
    refine bsplit F 17 rfl ?_ ?_
    ·
      clear F; intro hc2 F
      try rw [hc2] at F
      skip
      refine s_no F rfl rfl rfl rfl ?_; clear F a; intro a F
      refine s_no F rfl rfl rfl rfl ?_; clear F a; intro a F
      refine s_no F rfl rfl rfl rfl ?_; clear F a; intro a F
      refine s_I F rfl rfl rfl rfl rfl rfl ?_; clear F a; intro a F
      refine s_I F rfl rfl rfl rfl rfl rfl ?_; clear F a; intro a F
      refine s_no F rfl rfl rfl rfl ?_; clear F a; intro a F
      refine s_no F rfl rfl rfl rfl ?_; clear F a; intro a F
      refine s_no F rfl rfl rfl rfl ?_; clear F a; intro a F
      refine s_no F rfl rfl rfl rfl ?_; clear F a; intro a F
      refine s_no F rfl rfl rfl rfl ?_; clear F a; intro a F
      refine s_no F rfl rfl rfl rfl ?_; clear F a; intro a F
      refine s_I F rfl rfl rfl rfl rfl rfl ?_; clear F a; intro a F
      refine t_endM M ?_; (clear M; try clear w); intro w M
      refine c_t F rfl ?_
      refine wp_seq ?_
      replace F := F.keep [0, 1, 2, 5, 6] rfl
      refine wp_region_l [.ind] ([0]) rfl ?_
      refine s_I F rfl rfl rfl rfl rfl rfl ?_; clear F a; intro a F
      refine t_endM M ?_; (clear M; try clear w); intro w M
      refine wp_ret ?_
      refine ret1 F rfl rfl ?_
      -- end 1
      have hok : C.forgeOk nd q = false := (by clear M F; unfold Cou.forgeOk; grind)
      rw [forge_no hok]
      refine ⟨_, (⟨cb, mb, bs, gs, GA, gc, .slice VA C.way.length VC⟩ : Gc), rfl, ⟨rfl, rfl⟩, ?_⟩
      refine M.pick ?_; repeat (first | exact PkG.nil | refine PkG.cons 1 rfl rfl ?_)
    ·
      clear F; intro hc3 F
      try rw [hc3] at F
      skip
      refine s_fa0 F rfl rfl rfl rfl fa_32_0_B4 rfl ?_; clear F a; intro a F
      refine s_ld F rfl rfl rfl rfl sc_3_B4 rfl (by exact cell_of_blk M.h0 (lit rfl)) ?_; clear F a; intro a F
      refine s_bin F rfl rfl rfl rfl rfl rfl rfl ?_; clear F a; intro a F
      refine s_I F rfl rfl rfl rfl rfl rfl ?_; clear F a; intro a F
      refine s_I F rfl rfl rfl rfl rfl rfl ?_; clear F a; intro a F
      refine bsplit F 22 rfl ?_ ?_
      ·
        clear F; intro hc4 F
        try rw [hc4] at F
        replace hc4 := of_decide_eq_true hc4
        refine s_no F rfl rfl rfl rfl ?_; clear F a; intro a F
        refine s_no F rfl rfl rfl rfl ?_; clear F a; intro a F
        refine s_no F rfl rfl rfl rfl ?_; clear F a; intro a F
        refine s_no F rfl rfl rfl rfl ?_; clear F a; intro a F
        refine s_no F rfl rfl rfl rfl ?_; clear F a; intro a F
        refine s_no F rfl rfl rfl rfl ?_; clear F a; intro a F
        refine s_I F rfl rfl rfl rfl rfl rfl ?_; clear F a; intro a F
        refine t_endM M ?_; (clear M; try clear w); intro w M
        refine c_t F rfl ?_
        refine wp_seq ?_
        replace F := F.keep [0, 1, 2, 5, 6] rfl
        refine wp_region_l [.ind] ([0]) rfl ?_
        refine s_I F rfl rfl rfl rfl rfl rfl ?_; clear F a; intro a F
        refine t_endM M ?_; (clear M; try clear w); intro w M
        refine wp_ret ?_
        refine ret1 F rfl rfl ?_
        -- end 2
        have hok : C.forgeOk nd q = false := (by clear M F; unfold Cou.forgeOk; grind)
        rw [forge_no hok]
        refine ⟨_, (⟨cb, mb, bs, gs, GA, gc, .slice VA C.way.length VC⟩ : Gc), rfl, ⟨rfl, rfl⟩, ?_⟩
        refine M.pick ?_; repeat (first | exact PkG.nil | refine PkG.cons 1 rfl rfl ?_)
      ·
        clear F; intro hc5 F
        try rw [hc5] at F
        replace hc5 := of_decide_eq_false hc5
        refine s_I F rfl rfl rfl rfl rfl rfl ?_; clear F a; intro a F
        refine s_I F rfl rfl rfl rfl rfl rfl ?_; clear F a; intro a F
        refine s_fa0 F rfl rfl rfl rfl fa_157_2_B4 rfl ?_; clear F a; intro a F
        refine s_ld F rfl rfl rfl rfl sc_155_B4 rfl (by exact cell_of_blk (cou_ok (roF M.f1)).o (lit rfl)) ?_; clear F a; intro a F
        refine s_len F rfl rfl rfl rfl sl_155_B4 rfl ?_; clear F a; intro a F
        refine s_bin F rfl rfl rfl rfl rfl rfl rfl ?_; clear F a; intro a F
        refine s_I F rfl rfl rfl rfl rfl rfl ?_; clear F a; intro a F
        refine t_endM M ?_; (clear M; try clear w); intro w M
        refine c_if F rfl ?_ ?_
        ·
          clear F; intro hc6 F
          try rw [hc6] at F
          replace hc6 := of_decide_eq_true hc6
          refine wp_seq ?_
          replace F := F.keep [0, 1, 2, 5, 6] rfl
          refine wp_region_l [.ind] ([0]) rfl ?_
          refine s_I F rfl rfl rfl rfl rfl rfl ?_; clear F a; intro a F
          refine t_endM M ?_; (clear M; try clear w); intro w M
          refine wp_ret ?_
          refine ret1 F rfl rfl ?_
          -- end 3
          have hok : C.forgeOk nd q = false := (by clear M F; unfold Cou.forgeOk; grind)
          rw [forge_no hok]
          refine ⟨_, (⟨cb, mb, bs, gs, GA, gc, .slice VA C.way.length VC⟩ : Gc), rfl, ⟨rfl, rfl⟩, ?_⟩
          refine M.pick ?_; repeat (first | exact PkG.nil | refine PkG.cons 1 rfl rfl ?_)
        ·
          clear F; intro hc7 F
          try rw [hc7] at F
          replace hc7 := of_decide_eq_false hc7
          refine wp_skip ?_
          refine wp_seq ?_
          have M1 : Sep _ _ _ (couR _ _ :: _) := M.f1; replace M := M1; clear M1
          have hwl := W.wl
          have hok : C.forgeOk nd q = true := (by clear M F; unfold Cou.forgeOk; grind)
          obtain ⟨⟨hgs, hgl⟩, M⟩ := Fw.Sep.couOpen M
          dsimp only at hgs hgl M
          replace F := F.keep [0, 1, 2, 5, 6] rfl
          refine wp_region_t [.ind, .ind, .ind, .ind, .rd, .ind, .rd, .ind, .wr, .wr, .ind, .ind, .wr] [(4, 8)] (otOf [0, 1, 2, 3, 4, 5, 6, 7, 8, 9, 10, 11, 12]) mixed (by kernel_rfl) ?_
          refine s_I F rfl rfl rfl rfl rfl rfl ?_; clear F a; intro a F
          refine s_I F rfl rfl rfl rfl rfl rfl ?_; clear F a; intro a F
          refine s_I F rfl rfl rfl rfl rfl rfl ?_; clear F a; intro a F
          refine s_fa0 F rfl rfl rfl rfl fa_157_2_B4 rfl ?_; clear F a; intro a F
          refine s_ldL F rfl rfl rfl rfl sc_155_B4 rfl (by exact cell_of_blk M.h0 (lit rfl)) ?_; clear F a; intro a F
          refine s_I F rfl rfl rfl rfl rfl rfl ?_; clear F a; intro a F
          refine s_ldaL F rfl rfl rfl rfl ag_32_B4 rfl rfl (cells_whole M.h5) ?_; clear F a; intro a F
          refine s_bld F rfl rfl rfl rfl (parts2 F rfl rfl) (bl_160_0_1_B4 _ _ _ _ _ _) ?_; clear F a; intro a F
          refine s_bsL F M rfl rfl rfl rfl (parts1 F rfl) (bs_155_1_B4 _ _ _ _ _ _) (fun b w M => (by (refine pend_skip rfl ?_); (refine pend_take (by exact cell_of_blk M.h1 (lit rfl)) ?_); exact pend_none)) ?_; (clear F a M; try clear w); intro b38 w M a F
          refine s_apE ((⟨nd, q⟩ : To)) F M.f5 rfl rfl rfl rfl tl_155_B4 rfl rfl (by exact rd_blk M.h0 rfl) rfl (by omega) (fun A c w M => (by (refine pend_skip rfl ?_); (refine pend_skip rfl ?_); exact pend_none)) ?_; (clear F a M; try clear w); intro A39 c39 w M a F
          refine s_I F rfl rfl rfl rfl rfl rfl ?_; clear F a; intro a F
          refine s_fa0 F rfl rfl rfl rfl fa_157_2_B4 rfl ?_; clear F a; intro a F
          refine s_stL F M.f2 rfl rfl rfl sz_155_B4 rfl rfl rfl (by exact Nat.le_of_ble_eq_true rfl) (fun w M => (by (refine pend_skip rfl ?_); (refine pend_skip rfl ?_); exact pend_none)) ?_; (clear M; try clear w); intro w M
          refine t_endM M ?_; (clear M; try clear w); intro w M
          refine wp_seq ?_
          replace F := F.keep [0, 1, 2, 5, 6] rfl
          refine wp_region_l [.ind] ([0]) rfl ?_
          refine s_I F rfl rfl rfl rfl rfl rfl ?_; clear F a; intro a F
          refine t_endM M ?_; (clear M; try clear w); intro w M
          refine wp_ret ?_
          refine ret1 F rfl rfl ?_
          -- end 4
          rw [forge_yes hok]
          refine ⟨_, ⟨cb, mb, bs, gs, GA, gc, .slice A39 (C.way ++ [(⟨nd, q⟩ : To)]).length c39⟩, rfl, ⟨rfl, rfl⟩, ?_⟩
          have M1 : Sep _ _ _ (slR _ _ 160 _ _ :: _) := M.f1; replace M := M1; clear M1
          have M1 : Sep _ _ _ (bigR agZ _ :: _) := M.f5; replace M := M1; clear M1
          have M1 : Sep _ _ _ (mapX _ _ _ :: _) := M.f5; replace M := M1; clear M1
          have M1 : Sep _ _ _ (slR _ _ 50 _ _ :: _) := M.f5; replace M := M1; clear M1
          have M1 : Sep _ _ _ (blk cb _ :: _) := M.f4; replace M := M1; clear M1
          exact Sep.left (m := [couR (⟨cb, mb, bs, gs, GA, gc, .slice A39 (C.way ++ [(⟨nd, q⟩ : To)]).length c39⟩) ({ C with way := C.way ++ [⟨nd, q⟩] })]) (Fw.Sep.couShut (γ := (⟨cb, mb, bs, gs, GA, gc, .slice A39 (C.way ++ [(⟨nd, q⟩ : To)]).length c39⟩)) (C := ({ C with way := C.way ++ [⟨nd, q⟩] })) M ⟨hgs, hgl⟩)
set_option maxRecDepth 100000 in
set_option maxHeartbeats 400000 in
theorem c91n (nd : Int) (q : Wrd) (w0 : World) : Cl Try.prog 91 #[.pointer none, .int .i64 nd, wrdV q] w0 (RetQ w0 fun v => v = .bool false) := by
  have M : Sep (fun _ => False) w0 w0 _ := Sep.nil _ w0
  refine enter (vs := [_, _, _]) Try.func91 rfl rfl rfl ?_
  intro a F
  refine wp_seq ?_
  refine wp_region_l [.wr, .ind] ([0, 1]) rfl ?_
  refine s_bxA F M rfl rfl rfl rfl rfl ?_; (clear F a M; try clear w); intro b5 w M a F
  refine s_I F rfl rfl rfl rfl rfl rfl ?_; clear F a; intro a F
  refine t_endM M ?_; (clear M; try clear w); intro w M
  refine wp_seq ?_
  refine wp_seq ?_
  refine wp_region_l [.ind, .ind, .wr, .ind, .ind, .ind, .ind, .rd, .wr, .ind, .ind, .ind, .rd, .ind, .ind, .ind, .ind, .ind, .ind, .rd, .ind, .ind, .ind] ([0, 1, 2, 3, 4, 5, 6, 7, 8, 9, 10, 11, 12, 13, 14, 15, 16, 17, 18, 19, 20, 21, 22]) rfl ?_
  refine s_I F rfl rfl rfl rfl rfl rfl ?_; clear F a; intro a F
  refine s_I F rfl rfl rfl rfl rfl rfl ?_; clear F a; intro a F
  refine s_cq F M rfl rfl rfl rfl rfl (rfl : _ = some [_, _]) cb_95_B4 (fun nd_ => c95n nd _) ?_; (clear F a M; try clear w); rintro v w rfl M a F
  refine s_I F rfl rfl rfl rfl rfl rfl ?_; clear F a; intro a F
  replace F : Fr _ _ ((10, Value.bool true) :: _) := F
  refine s_I F rfl rfl rfl rfl rfl rfl ?_; clear F a; intro a F
  refine s_no F rfl rfl rfl rfl ?_; clear F a; intro a F
  refine s_no F rfl rfl rfl rfl ?_; clear F a; intro a F
  refine s_no F rfl rfl rfl rfl ?_; clear F a; intro a F
  refine s_no F rfl rfl rfl rfl ?_; clear F a; intro a F
  refine s_I F rfl rfl rfl rfl rfl rfl ?_; clear F a; intro a F
  refine s_I F rfl rfl rfl rfl rfl rfl ?_; clear F a; intro a F
  refine s_no F rfl rfl rfl rfl ?_; clear F a; intro a F
  refine s_no F rfl rfl rfl rfl ?_; clear F a; intro a F
  refine s_no F rfl rfl rfl rfl ?_; clear F a; intro a F
  refine s_I F rfl rfl rfl rfl rfl rfl ?_; clear F a; intro a F
  refine s_I F rfl rfl rfl rfl rfl rfl ?_; clear F a; intro a F
  refine s_no F rfl rfl rfl rfl ?_; clear F a; intro a F
  refine s_no F rfl rfl rfl rfl ?_; clear F a; intro a F
  refine s_no F rfl rfl rfl rfl ?_; clear F a; intro a F
  refine s_no F rfl rfl rfl rfl ?_; clear F a; intro a F
  refine s_no F rfl rfl rfl rfl ?_; clear F a; intro a F
  refine s_no F rfl rfl rfl rfl ?_; clear F a; intro a F
  refine s_I F rfl rfl rfl rfl rfl rfl ?_; clear F a; intro a F
  refine t_endM M ?_; (clear M; try clear w); intro w M
  refine c_t F rfl ?_
  refine wp_seq ?_
  replace F := F.keep [0, 1, 2, 5, 6] rfl
  refine wp_region_l [.ind] ([0]) rfl ?_
  refine s_I F rfl rfl rfl rfl rfl rfl ?_; clear F a; intro a F
  refine t_endM M ?_; (clear M; try clear w); intro w M
  refine wp_ret ?_
  refine ret1 F rfl rfl ?_
  -- end 0
  exact ⟨_, rfl, rfl, M.chg⟩
set_option maxRecDepth 100000 in
set_option maxHeartbeats 2000000 in
theorem c96 {n t : Int} (γ : Gc) (C : Cou) (W : C.Wf n t) (nd s : Int) (w0 : World) (ho : Own w0.heap [couR γ C]) : Cl Try.prog 96 #[.pointer (some ⟨γ.b, 0, none⟩), .int .i64 nd, .int .i64 s] w0 (RetS [couR γ C] w0 (fun v (γ2 : Gc) => v = .bool (C.timeout nd s).2 ∧ γ2.b = γ.b) fun γ2 => [couR γ2 (C.timeout nd s).1]) := by
  have M : Sep (fun b_ => b_ ∈ foots [couR γ C]) w0 w0 _ := Sep.start ho
  refine enter (vs := [_, _, _]) Try.func96 rfl rfl rfl ?_
  intro a F
  refine wp_seq ?_
  refine wp_region_l [.ind] ([0]) rfl ?_
  refine s_I F rfl rfl rfl rfl rfl rfl ?_; clear F a; intro a F
  refine t_endM M ?_; (clear M; try clear w); intro w M
  refine wp_seq ?_
  refine wp_seq ?_
  refine wp_region_l [.ind, .ind, .wr, .ind] ([0, 1, 2, 3]) rfl ?_
  refine s_I F rfl rfl rfl rfl rfl rfl ?_; clear F a; intro a F
  refine s_I F rfl rfl rfl rfl rfl rfl ?_; clear F a; intro a F
  refine s_cq F M rfl rfl rfl rfl rfl (rfl : _ = some [_, _]) cb_95_B4 (fun nd_ => c95 γ C nd _ (by exact roF (M.drewN nd_))) ?_; (clear F a M; try clear w); rintro v w rfl M a F
  refine s_I F rfl rfl rfl rfl rfl rfl ?_; clear F a; intro a F
  refine t_endM M ?_; (clear M; try clear w); intro w M
  refine c_if F rfl ?_ ?_
  ·
    clear F; intro hc0 F
    try rw [hc0] at F
    replace hc0 := nt hc0
    have hh : hon C nd = false := by assumption
    refine wp_seq ?_
    replace F := F.keep [0, 1, 2, 6] rfl
    refine wp_region_l [.ind] ([0]) rfl ?_
    refine s_I F rfl rfl rfl rfl rfl rfl ?_; clear F a; intro a F
    refine t_endM M ?_; (clear M; try clear w); intro w M
    refine wp_ret ?_
    refine ret1 F rfl rfl ?_
    -- end 0
    rw [timeout_no hh]
    refine ⟨_, γ, rfl, ⟨rfl, rfl⟩, ?_⟩
    refine M.pick ?_; repeat (first | exact PkG.nil | refine PkG.cons 0 rfl rfl ?_)
  ·
    clear F; intro hc1 F
    try rw [hc1] at F
    replace hc1 := nf hc1
    have hh : hon C nd = true := by assumption
    obtain ⟨hh1, hh2⟩ := hon_spec.1 hh
    obtain ⟨a_, ha⟩ := node_at hh1 hh2
    have O := cou_ok (roF M)
    have hbl : γ.bs.length = C.As.length := by rw [← O.l.1, List.length_map]; exact O.l.2
    have h7 := W.l7
    refine wp_skip ?_
    refine wp_seq ?_
    replace F := F.keep [0, 1, 2, 6] rfl
    refine wp_region_l [.ind, .ind, .ind, .rd, .ind, .ind, .ind, .rd, .wr, .ind, .ind, .ind, .ind, .ind] ([0, 1, 2, 3, 4, 5, 6, 7, 8, 9, 10, 11, 12, 13]) rfl ?_
    refine s_I F rfl rfl rfl rfl rfl rfl ?_; clear F a; intro a F
    refine s_I F rfl rfl rfl rfl rfl rfl ?_; clear F a; intro a F
    refine s_fa0 F rfl rfl rfl rfl fa_157_0_B4 rfl ?_; clear F a; intro a F
    refine s_ld F rfl rfl rfl rfl sc_154_B4 rfl (by exact cell_of_blk (cou_ok (roF M)).o (lit rfl)) ?_; clear F a; intro a F
    refine s_I F rfl rfl rfl rfl rfl rfl ?_; clear F a; intro a F
    refine s_sub F rfl rfl rfl rfl rfl rfl (by unfold In64; omega) ?_; clear F a; intro a F
    refine s_ix F rfl rfl rfl rfl sl_154_B4 rfl rfl (by exact (cou_ok (roF M)).nd.ok) (by omega) (by omega) ?_; clear F a; intro e20 he20 a F
    have ei : (nd - 1).toNat = nd.toNat - 1 := by omega
    have he20b := he20
    rw [ei] at he20b
    obtain ⟨g, hg, hgb⟩ := g_at O.l.1 he20b
    refine s_ld F rfl rfl rfl rfl sc_50_B4 rfl (by exact rdX0 ((cou_ok (roF M)).nd.ok) (by intro e; rfl) he20 rfl) ?_; clear F a; intro a F
    rw [← hgb] at F
    refine s_cq F M rfl rfl rfl rfl rfl (rfl : _ = some [_]) cb_46_B4 (fun nd_ => c46r g a_ _ ((cou_ok (roF (M.drewN nd_))).a (g, a_) (List.mem_of_getElem? (zip_at hg ha))).ok) ?_; (clear F a M; try clear w); rintro v w rfl M a F
    refine s_I F rfl rfl rfl rfl rfl rfl ?_; clear F a; intro a F
    refine s_I F rfl rfl rfl rfl rfl rfl ?_; clear F a; intro a F
    refine s_I F rfl rfl rfl rfl rfl rfl ?_; clear F a; intro a F
    refine s_I F rfl rfl rfl rfl rfl rfl ?_; clear F a; intro a F
    refine s_I F rfl rfl rfl rfl rfl rfl ?_; clear F a; intro a F
    refine t_endM M ?_; (clear M; try clear w); intro w M
    refine wp_seq ?_
    replace F := F.keep [0, 1, 2, 6, 7] rfl
    refine wp_region_l [.ind, .ind, .ind, .ind, .ind, .wr] ([0, 1, 2, 3, 4, 5]) rfl ?_
    refine s_I F rfl rfl rfl rfl rfl rfl ?_; clear F a; intro a F
    refine s_I F rfl rfl rfl rfl rfl rfl ?_; clear F a; intro a F
    refine s_I F rfl rfl rfl rfl rfl rfl ?_; clear F a; intro a F
    refine s_I F rfl rfl rfl rfl rfl rfl ?_; clear F a; intro a F
    refine s_bld F rfl rfl rfl rfl (parts3 F rfl rfl rfl) (bl_32_0_2_3_B4 _ _ _) ?_; clear F a; intro a F
    have M1 : Sep _ _ _ (couR _ _ :: _) := M; replace M := M1; clear M1
    refine s_call (m := [_]) F M rfl rfl rfl rfl rfl (rfl : _ = some [_, _, _]) cb_94_B4 (fun nd_ => c94 γ C W nd ⟨4, 0, a_.round, s, VoteM.empty⟩ _ (M.drewN nd_).own.one) ?_; (clear F a M; try clear w); rintro v γ2 w ⟨rfl, hb2⟩ M a F; (try simp only [List.cons_append, List.nil_append] at M)
    refine t_endM M ?_; (clear M; try clear w); intro w M
    refine wp_seq ?_
    replace F := F.keep [0, 1, 2, 6, 7] rfl
    refine wp_region_l [.ind] ([0]) rfl ?_
    refine s_I F rfl rfl rfl rfl rfl rfl ?_; clear F a; intro a F
    refine t_endM M ?_; (clear M; try clear w); intro w M
    refine wp_ret ?_
    refine ret1 F rfl rfl ?_
    -- end 1
    rw [timeout_at hh ha]
    refine ⟨_, γ2, rfl, ⟨rfl, hb2⟩, ?_⟩
    refine M.pick ?_; repeat (first | exact PkG.nil | refine PkG.cons 0 rfl rfl ?_)
set_option maxRecDepth 100000 in
set_option maxHeartbeats 400000 in
theorem c96n (nd s : Int) (w0 : World) : Cl Try.prog 96 #[.pointer none, .int .i64 nd, .int .i64 s] w0 (RetQ w0 fun v => v = .bool false) := by
  have M : Sep (fun _ => False) w0 w0 _ := Sep.nil _ w0
  refine enter (vs := [_, _, _]) Try.func96 rfl rfl rfl ?_
  intro a F
  refine wp_seq ?_
  refine wp_region_l [.ind] ([0]) rfl ?_
  refine s_I F rfl rfl rfl rfl rfl rfl ?_; clear F a; intro a F
  refine t_endM M ?_; (clear M; try clear w); intro w M
  refine wp_seq ?_
  refine wp_seq ?_
  refine wp_region_l [.ind, .ind, .wr, .ind] ([0, 1, 2, 3]) rfl ?_
  refine s_I F rfl rfl rfl rfl rfl rfl ?_; clear F a; intro a F
  refine s_I F rfl rfl rfl rfl rfl rfl ?_; clear F a; intro a F
  refine s_cq F M rfl rfl rfl rfl rfl (rfl : _ = some [_, _]) cb_95_B4 (fun nd_ => c95n nd _) ?_; (clear F a M; try clear w); rintro v w rfl M a F
  refine s_I F rfl rfl rfl rfl rfl rfl ?_; clear F a; intro a F
  replace F : Fr _ _ ((12, Value.bool true) :: _) := F
  refine t_endM M ?_; (clear M; try clear w); intro w M
  refine c_t F rfl ?_
  refine wp_seq ?_
  replace F := F.keep [0, 1, 2, 6] rfl
  refine wp_region_l [.ind] ([0]) rfl ?_
  refine s_I F rfl rfl rfl rfl rfl rfl ?_; clear F a; intro a F
  refine t_endM M ?_; (clear M; try clear w); intro w M
  refine wp_ret ?_
  refine ret1 F rfl rfl ?_
  -- end 0
  exact ⟨_, rfl, rfl, M.chg⟩
end Go.Proofs.Ytboibdmflblphaa
