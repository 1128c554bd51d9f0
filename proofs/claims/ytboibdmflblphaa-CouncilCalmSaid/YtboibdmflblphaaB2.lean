/- B2 of the seat. -/
import Derived.Test.YtboibdmflblphaaB1
namespace Go.Proofs.Ytboibdmflblphaa
open Go Fw
theorem pt_73_B2 : ptrB Try.prog 73 = true := by kernel_rfl
theorem fa_157_0_B2 : FA Try.prog 157 0 0 := fun _ _ _ => by kernel_rfl
theorem sc_154_B2 : scalB Try.prog 154 = true := by kernel_rfl
theorem sl_154_B2 : slcB Try.prog 154 = some (50, 1) := by kernel_rfl
theorem fa_157_2_B2 : FA Try.prog 157 2 2 := fun _ _ _ => by kernel_rfl
theorem sc_155_B2 : scalB Try.prog 155 = true := by kernel_rfl
theorem sl_155_B2 : slcB Try.prog 155 = some (160, 6) := by kernel_rfl
theorem cb_95_B2 : callB Try.prog 95 = true := by kernel_rfl
theorem sc_50_B2 : scalB Try.prog 50 = true := by kernel_rfl
theorem cb_48_B2 : callB Try.prog 48 = true := by kernel_rfl
theorem zr_160_B2 : zeroB Try.prog 160 = some (.agg #[.int .i64 0, .int .i64 0, .int .i64 0, .int .i64 0, .int .i64 0, .string { data := #[] }]) := by kernel_rfl
theorem bl_160__B2 : ∀ w : World, (Instr.build 160 #[]).run Try.prog w = .ok (.agg #[.int .i64 0, .int .i64 0, .int .i64 0, .int .i64 0, .int .i64 0, .string { data := #[] }]) w := by intros; kernel_rfl
theorem sz_160_B2 : sizeB Try.prog 160 = some 6 := by kernel_rfl
theorem ag_160_B2 : aggB Try.prog 160 = some 6 := by kernel_rfl
theorem cb_118_B2 : callB Try.prog 118 = true := by kernel_rfl
theorem sz_155_B2 : sizeB Try.prog 155 = some 1 := by kernel_rfl
open VoteM AgrM CouM

theorem sayF_le {way : List To} {w : Wrd} : ∀ {i : Nat}, (sayF way w i).length ≤ way.length + i
  | 0 => Nat.le_refl _
  | i + 1 => by
    have h : (sayF way w (i + 1)).length ≤ (sayF way w i).length + 1 := by
      show (pushT _ _).length ≤ _
      unfold pushT
      split
      · rw [List.length_append]; simp
      · omega
    have := sayF_le (way := way) (w := w) (i := i)
    omega

set_option maxRecDepth 100000 in
set_option maxHeartbeats 400000 in
theorem c95 (γ : Gc) (C : Cou) (nd : Int) (w0 : World) (hk : Ro (fun _ => False) w0 (couR γ C)) : Cl Try.prog 95 #[.pointer (some ⟨γ.b, 0, none⟩), .int .i64 nd] w0 (RetQ w0 fun v => v = .bool (hon C nd)) := by
  have M : Sep (fun _ => False) w0 w0 _ := Sep.nil _ w0
  have O := cou_ok hk
  have hgl := O.l
  have hbl : γ.bs.length = C.As.length := by rw [← hgl.1, List.length_map]; exact hgl.2
  refine enter (vs := [_, _]) Try.func95 rfl rfl rfl ?_
  intro a F
  refine wp_seq ?_
  refine wp_region_l [.ind] ([0]) rfl ?_
  refine s_I F rfl rfl rfl rfl rfl rfl ?_; clear F a; intro a F
  refine t_endM M ?_; (clear M; try clear w); intro w M
  refine wp_seq ?_
  refine wp_region_l [.ind, .ind, .ind, .ind, .ind, .ind, .ind, .ind, .ind, .ind, .ind, .rd, .ind, .ind, .ind, .ind] ([0, 1, 2, 3, 4, 5, 6, 7, 8, 9, 10, 11, 12, 13, 14, 15]) rfl ?_
  refine s_I F rfl rfl rfl rfl rfl rfl ?_; clear F a; intro a F
  refine s_pne F rfl rfl rfl rfl pt_73_B2 rfl ?_; clear F a; intro a F
  refine s_I F rfl rfl rfl rfl rfl rfl ?_; clear F a; intro a F
  refine s_I F rfl rfl rfl rfl rfl rfl ?_; clear F a; intro a F
  refine s_bin F rfl rfl rfl rfl rfl rfl rfl ?_; clear F a; intro a F
  refine s_I F rfl rfl rfl rfl rfl rfl ?_; clear F a; intro a F
  refine s_I F rfl rfl rfl rfl rfl rfl ?_; clear F a; intro a F
  refine bsplit F 11 rfl ?_ ?_
  ·
    clear F; intro hc0 F
    try rw [hc0] at F
    replace hc0 := of_decide_eq_true hc0
    refine s_I F rfl rfl rfl rfl rfl rfl ?_; clear F a; intro a F
    refine s_I F rfl rfl rfl rfl rfl rfl ?_; clear F a; intro a F
    refine s_I F rfl rfl rfl rfl rfl rfl ?_; clear F a; intro a F
    refine s_fa0 F rfl rfl rfl rfl fa_157_0_B2 rfl ?_; clear F a; intro a F
    refine s_ld F rfl rfl rfl rfl sc_154_B2 rfl (by exact old_cell M id O.o (lit rfl)) ?_; clear F a; intro a F
    refine s_len F rfl rfl rfl rfl sl_154_B2 rfl ?_; clear F a; intro a F
    refine s_bin F rfl rfl rfl rfl rfl rfl rfl ?_; clear F a; intro a F
    refine s_I F rfl rfl rfl rfl rfl rfl ?_; clear F a; intro a F
    refine s_I F rfl rfl rfl rfl rfl rfl ?_; clear F a; intro a F
    refine t_endM M ?_; (clear M; try clear w); intro w M
    refine wp_ret ?_
    refine ret1 F rfl rfl ?_
    -- end 0
    refine ⟨_, rfl, ?_, M.chg⟩
    congr 1
    clear M F
    unfold hon
    grind
  ·
    clear F; intro hc1 F
    try rw [hc1] at F
    replace hc1 := of_decide_eq_false hc1
    refine s_no F rfl rfl rfl rfl ?_; clear F a; intro a F
    refine s_no F rfl rfl rfl rfl ?_; clear F a; intro a F
    refine s_no F rfl rfl rfl rfl ?_; clear F a; intro a F
    refine s_no F rfl rfl rfl rfl ?_; clear F a; intro a F
    refine s_no F rfl rfl rfl rfl ?_; clear F a; intro a F
    refine s_no F rfl rfl rfl rfl ?_; clear F a; intro a F
    refine s_no F rfl rfl rfl rfl ?_; clear F a; intro a F
    refine s_I F rfl rfl rfl rfl rfl rfl ?_; clear F a; intro a F
    refine s_I F rfl rfl rfl rfl rfl rfl ?_; clear F a; intro a F
    refine t_endM M ?_; (clear M; try clear w); intro w M
    refine wp_ret ?_
    refine ret1 F rfl rfl ?_
    -- end 1
    refine ⟨_, rfl, ?_, M.chg⟩
    congr 1
    clear M F
    unfold hon
    grind
set_option maxRecDepth 100000 in
set_option maxHeartbeats 400000 in
theorem c95n (nd : Int) (w0 : World) : Cl Try.prog 95 #[.pointer none, .int .i64 nd] w0 (RetQ w0 fun v => v = .bool false) := by
  have M : Sep (fun _ => False) w0 w0 _ := Sep.nil _ w0
  refine enter (vs := [_, _]) Try.func95 rfl rfl rfl ?_
  intro a F
  refine wp_seq ?_
  refine wp_region_l [.ind] ([0]) rfl ?_
  refine s_I F rfl rfl rfl rfl rfl rfl ?_; clear F a; intro a F
  refine t_endM M ?_; (clear M; try clear w); intro w M
  refine wp_seq ?_
  refine wp_region_l [.ind, .ind, .ind, .ind, .ind, .ind, .ind, .ind, .ind, .ind, .ind, .rd, .ind, .ind, .ind, .ind] ([0, 1, 2, 3, 4, 5, 6, 7, 8, 9, 10, 11, 12, 13, 14, 15]) rfl ?_
  refine s_I F rfl rfl rfl rfl rfl rfl ?_; clear F a; intro a F
  refine s_pne F rfl rfl rfl rfl pt_73_B2 rfl ?_; clear F a; intro a F
  refine s_I F rfl rfl rfl rfl rfl rfl ?_; clear F a; intro a F
  refine s_no F rfl rfl rfl rfl ?_; clear F a; intro a F
  refine s_no F rfl rfl rfl rfl ?_; clear F a; intro a F
  refine s_I F rfl rfl rfl rfl rfl rfl ?_; clear F a; intro a F
  refine s_I F rfl rfl rfl rfl rfl rfl ?_; clear F a; intro a F
  refine s_no F rfl rfl rfl rfl ?_; clear F a; intro a F
  refine s_no F rfl rfl rfl rfl ?_; clear F a; intro a F
  refine s_no F rfl rfl rfl rfl ?_; clear F a; intro a F
  refine s_no F rfl rfl rfl rfl ?_; clear F a; intro a F
  refine s_no F rfl rfl rfl rfl ?_; clear F a; intro a F
  refine s_no F rfl rfl rfl rfl ?_; clear F a; intro a F
  refine s_no F rfl rfl rfl rfl ?_; clear F a; intro a F
  refine s_I F rfl rfl rfl rfl rfl rfl ?_; clear F a; intro a F
  refine s_I F rfl rfl rfl rfl rfl rfl ?_; clear F a; intro a F
  refine t_endM M ?_; (clear M; try clear w); intro w M
  refine wp_ret ?_
  refine ret1 F rfl rfl ?_
  -- end 0
  exact ⟨_, rfl, rfl, M.chg⟩
set_option maxRecDepth 100000 in
set_option maxHeartbeats 400000 in
theorem c55 (γ : Gc) (C : Cou) (w0 : World) (hk : Ro (fun _ => False) w0 (couR γ C)) : Cl Try.prog 55 #[.pointer (some ⟨γ.b, 0, none⟩)] w0 (RetQ w0 fun v => v = .int .i64 C.way.length) := by
  obtain ⟨cb, mb, bs, gs, GA, gc, vw⟩ := γ
  obtain ⟨VA, VC, rfl⟩ : ∃ A c, vw = .slice A C.way.length c := SlOk.form (cou_ok hk).w
  have M : Sep (fun _ => False) w0 w0 _ := Sep.nil _ w0
  have O := cou_ok hk
  refine enter (vs := [_]) Try.func55 rfl rfl rfl ?_
  intro a F
  refine wp_seq ?_
  refine wp_region_l [.ind] ([0]) rfl ?_
  refine s_I F rfl rfl rfl rfl rfl rfl ?_; clear F a; intro a F
  refine t_endM M ?_; (clear M; try clear w); intro w M
  refine wp_seq ?_
  refine wp_seq ?_
  refine wp_region_l [.ind, .ind] ([0, 1]) rfl ?_
  refine s_I F rfl rfl rfl rfl rfl rfl ?_; clear F a; intro a F
  refine s_pn F rfl rfl rfl rfl pt_73_B2 rfl ?_; clear F a; intro a F
  refine t_endM M ?_; (clear M; try clear w); intro w M
  refine c_f F rfl ?_
  refine wp_skip ?_
  refine wp_seq ?_
  replace F := F.keep [0, 2] rfl
  refine wp_region_l [.ind, .ind, .ind, .rd, .ind, .ind] ([0, 1, 2, 3, 4, 5]) rfl ?_
  refine s_I F rfl rfl rfl rfl rfl rfl ?_; clear F a; intro a F
  refine s_I F rfl rfl rfl rfl rfl rfl ?_; clear F a; intro a F
  refine s_fa0 F rfl rfl rfl rfl fa_157_2_B2 rfl ?_; clear F a; intro a F
  refine s_ld F rfl rfl rfl rfl sc_155_B2 rfl (by exact old_cell M id O.o (lit rfl)) ?_; clear F a; intro a F
  refine s_len F rfl rfl rfl rfl sl_155_B2 rfl ?_; clear F a; intro a F
  refine s_I F rfl rfl rfl rfl rfl rfl ?_; clear F a; intro a F
  refine t_endM M ?_; (clear M; try clear w); intro w M
  refine wp_ret ?_
  refine ret1 F rfl rfl ?_
  -- end 0
  exact ⟨_, rfl, rfl, M.chg⟩
set_option maxRecDepth 100000 in
set_option maxHeartbeats 400000 in
theorem c55n (w0 : World) : Cl Try.prog 55 #[.pointer none] w0 (RetQ w0 fun v => v = .int .i64 0) := by
  have M : Sep (fun _ => False) w0 w0 _ := Sep.nil _ w0
  refine enter (vs := [_]) Try.func55 rfl rfl rfl ?_
  intro a F
  refine wp_seq ?_
  refine wp_region_l [.ind] ([0]) rfl ?_
  refine s_I F rfl rfl rfl rfl rfl rfl ?_; clear F a; intro a F
  refine t_endM M ?_; (clear M; try clear w); intro w M
  refine wp_seq ?_
  refine wp_seq ?_
  refine wp_region_l [.ind, .ind] ([0, 1]) rfl ?_
  refine s_I F rfl rfl rfl rfl rfl rfl ?_; clear F a; intro a F
  refine s_pn F rfl rfl rfl rfl pt_73_B2 rfl ?_; clear F a; intro a F
  refine t_endM M ?_; (clear M; try clear w); intro w M
  refine c_t F rfl ?_
  refine wp_seq ?_
  replace F := F.keep [0, 2] rfl
  refine wp_region_l [.ind] ([0]) rfl ?_
  refine s_I F rfl rfl rfl rfl rfl rfl ?_; clear F a; intro a F
  refine t_endM M ?_; (clear M; try clear w); intro w M
  refine wp_ret ?_
  refine ret1 F rfl rfl ?_
  -- end 0
  exact ⟨_, rfl, rfl, M.chg⟩
set_option maxRecDepth 100000 in
set_option maxHeartbeats 400000 in
theorem c54 (γ : Gc) (C : Cou) (h7 : C.As.length ≤ 7) (nd : Int) (w0 : World) (hk : Ro (fun _ => False) w0 (couR γ C)) : Cl Try.prog 54 #[.pointer (some ⟨γ.b, 0, none⟩), .int .i64 nd] w0 (RetQ w0 fun v => v = .tuple #[.string (decd C nd).1, .bool (decd C nd).2]) := by
  have M : Sep (fun _ => False) w0 w0 _ := Sep.nil _ w0
  have O := cou_ok hk
  have hgl := O.l
  have hbl : γ.bs.length = C.As.length := by rw [← hgl.1, List.length_map]; exact hgl.2
  refine enter (vs := [_, _]) Try.func54 rfl rfl rfl ?_
  intro a F
  refine wp_seq ?_
  refine wp_region_l [.ind, .ind] ([0, 1]) rfl ?_
  refine s_I F rfl rfl rfl rfl rfl rfl ?_; clear F a; intro a F
  refine s_I F rfl rfl rfl rfl rfl rfl ?_; clear F a; intro a F
  refine t_endM M ?_; (clear M; try clear w); intro w M
  refine wp_seq ?_
  refine wp_seq ?_
  refine wp_region_l [.ind, .ind, .wr, .ind] ([0, 1, 2, 3]) rfl ?_
  refine s_I F rfl rfl rfl rfl rfl rfl ?_; clear F a; intro a F
  refine s_I F rfl rfl rfl rfl rfl rfl ?_; clear F a; intro a F
  refine s_cq F M rfl rfl rfl rfl rfl (rfl : _ = some [_, _]) cb_95_B2 (fun nd_ => c95 γ C nd _ (hk.still (M.drewN nd_).chg)) ?_; (clear F a M; try clear w); rintro v w rfl M a F
  refine s_I F rfl rfl rfl rfl rfl rfl ?_; clear F a; intro a F
  refine t_endM M ?_; (clear M; try clear w); intro w M
  refine c_if F rfl ?_ ?_
  ·
    clear F; intro hc0 F
    try rw [hc0] at F
    replace hc0 := nt hc0
    have hh : hon C nd = false := by assumption
    refine wp_seq ?_
    replace F := F.keep [0, 1, 4, 5] rfl
    refine wp_region_l [.ind, .ind] ([0, 1]) rfl ?_
    refine s_I F rfl rfl rfl rfl rfl rfl ?_; clear F a; intro a F
    refine s_I F rfl rfl rfl rfl rfl rfl ?_; clear F a; intro a F
    refine t_endM M ?_; (clear M; try clear w); intro w M
    refine wp_ret ?_
    refine ret2 F rfl rfl rfl ?_
    -- end 0
    refine ⟨_, rfl, ?_, M.chg⟩
    rw [decd_no hh]
    rfl
  ·
    clear F; intro hc1 F
    try rw [hc1] at F
    replace hc1 := nf hc1
    have hh : hon C nd = true := by assumption
    obtain ⟨hh1, hh2⟩ := hon_spec.1 hh
    obtain ⟨a_, ha⟩ := node_at hh1 hh2
    refine wp_skip ?_
    refine wp_seq ?_
    replace F := F.keep [0, 1, 4, 5] rfl
    refine wp_region_l [.ind, .ind, .ind, .rd, .ind, .ind, .ind, .rd, .wr, .ind, .ind, .ind, .ind] ([0, 1, 2, 3, 4, 5, 6, 7, 8, 9, 10, 11, 12]) rfl ?_
    refine s_I F rfl rfl rfl rfl rfl rfl ?_; clear F a; intro a F
    refine s_I F rfl rfl rfl rfl rfl rfl ?_; clear F a; intro a F
    refine s_fa0 F rfl rfl rfl rfl fa_157_0_B2 rfl ?_; clear F a; intro a F
    refine s_ld F rfl rfl rfl rfl sc_154_B2 rfl (by exact old_cell M id O.o (lit rfl)) ?_; clear F a; intro a F
    refine s_I F rfl rfl rfl rfl rfl rfl ?_; clear F a; intro a F
    refine s_sub F rfl rfl rfl rfl rfl rfl (by unfold In64; omega) ?_; clear F a; intro a F
    refine s_ix F rfl rfl rfl rfl sl_154_B2 rfl rfl (by exact M.chg.ro O.nd) (by omega) (by omega) ?_; clear F a; intro e16 he16 a F
    have ei : (nd - 1).toNat = nd.toNat - 1 := by omega
    have he16b := he16
    rw [ei] at he16b
    obtain ⟨g, hg, hgb⟩ := g_at hgl.1 he16b
    refine s_ld F rfl rfl rfl rfl sc_50_B2 rfl (by exact rdX0 (M.chg.ro O.nd) (by intro e; rfl) he16 rfl) ?_; clear F a; intro a F
    rw [← hgb] at F
    refine s_cq F M rfl rfl rfl rfl rfl (rfl : _ = some [_]) cb_48_B2 (fun nd_ => c48r g a_ _ (M.chg.ro (O.a (g, a_) (List.mem_of_getElem? (zip_at hg ha))))) ?_; (clear F a M; try clear w); rintro v w rfl M a F
    refine s_I F rfl rfl rfl rfl rfl rfl ?_; clear F a; intro a F
    refine s_I F rfl rfl rfl rfl rfl rfl ?_; clear F a; intro a F
    refine s_I F rfl rfl rfl rfl rfl rfl ?_; clear F a; intro a F
    refine s_I F rfl rfl rfl rfl rfl rfl ?_; clear F a; intro a F
    refine t_endM M ?_; (clear M; try clear w); intro w M
    refine wp_ret ?_
    refine ret2 F rfl rfl rfl ?_
    -- end 1
    refine ⟨_, rfl, ?_, M.chg⟩
    rw [decd_at hh ha]
set_option maxRecDepth 100000 in
set_option maxHeartbeats 400000 in
theorem c54n (nd : Int) (w0 : World) : Cl Try.prog 54 #[.pointer none, .int .i64 nd] w0 (RetQ w0 fun v => v = .tuple #[.string VoteM.empty, .bool false]) := by
  have M : Sep (fun _ => False) w0 w0 _ := Sep.nil _ w0
  refine enter (vs := [_, _]) Try.func54 rfl rfl rfl ?_
  intro a F
  refine wp_seq ?_
  refine wp_region_l [.ind, .ind] ([0, 1]) rfl ?_
  refine s_I F rfl rfl rfl rfl rfl rfl ?_; clear F a; intro a F
  refine s_I F rfl rfl rfl rfl rfl rfl ?_; clear F a; intro a F
  refine t_endM M ?_; (clear M; try clear w); intro w M
  refine wp_seq ?_
  refine wp_seq ?_
  refine wp_region_l [.ind, .ind, .wr, .ind] ([0, 1, 2, 3]) rfl ?_
  refine s_I F rfl rfl rfl rfl rfl rfl ?_; clear F a; intro a F
  refine s_I F rfl rfl rfl rfl rfl rfl ?_; clear F a; intro a F
  refine s_cq F M rfl rfl rfl rfl rfl (rfl : _ = some [_, _]) cb_95_B2 (fun nd_ => c95n nd _) ?_; (clear F a M; try clear w); rintro v w rfl M a F
  refine s_I F rfl rfl rfl rfl rfl rfl ?_; clear F a; intro a F
  replace F : Fr _ _ ((9, Value.bool true) :: _) := F
  refine t_endM M ?_; (clear M; try clear w); intro w M
  refine c_t F rfl ?_
  refine wp_seq ?_
  replace F := F.keep [0, 1, 4, 5] rfl
  refine wp_region_l [.ind, .ind] ([0, 1]) rfl ?_
  refine s_I F rfl rfl rfl rfl rfl rfl ?_; clear F a; intro a F
  refine s_I F rfl rfl rfl rfl rfl rfl ?_; clear F a; intro a F
  refine t_endM M ?_; (clear M; try clear w); intro w M
  refine wp_ret ?_
  refine ret2 F rfl rfl rfl ?_
  -- end 0
  exact ⟨_, rfl, rfl, M.chg⟩
set_option maxRecDepth 100000 in
set_option maxHeartbeats 400000 in
theorem c93a (γ : Gc) (C : Cou) (i : Int) (hw : C.way.length = 0) (w0 : World) (hk : Ro (fun _ => False) w0 (couR γ C)) : Cl Try.prog 93 #[.pointer (some ⟨γ.b, 0, none⟩), .int .i64 i] w0 (RetQ w0 fun v => v = .tuple #[.agg #[.int .i64 0, .int .i64 0, .int .i64 0, .int .i64 0, .int .i64 0, .string { data := #[] }], .bool false]) := by
  obtain ⟨cb, mb, bs, gs, GA, gc, vw⟩ := γ
  obtain ⟨VA, VC, rfl⟩ : ∃ A c, vw = .slice A C.way.length c := SlOk.form (cou_ok hk).w
  have M : Sep (fun _ => False) w0 w0 _ := Sep.nil _ w0
  have O := cou_ok hk
  refine enter (vs := [_, _]) Try.func93 rfl rfl rfl ?_
  intro a F
  refine wp_seq ?_
  refine wp_region_l [.wr, .ind] ([0, 1]) rfl ?_
  refine s_alc F M rfl rfl rfl rfl zr_160_B2 rfl ?_; (clear F a M; try clear w); intro b4 w M a F
  refine s_I F rfl rfl rfl rfl rfl rfl ?_; clear F a; intro a F
  refine t_endM M ?_; (clear M; try clear w); intro w M
  refine wp_seq ?_
  refine wp_seq ?_
  refine wp_region_l [.ind, .ind, .ind, .ind, .ind, .ind, .rd, .ind, .ind, .ind] ([0, 1, 2, 3, 4, 5, 6, 7, 8, 9]) rfl ?_
  refine s_I F rfl rfl rfl rfl rfl rfl ?_; clear F a; intro a F
  refine s_pn F rfl rfl rfl rfl pt_73_B2 rfl ?_; clear F a; intro a F
  refine s_I F rfl rfl rfl rfl rfl rfl ?_; clear F a; intro a F
  refine s_I F rfl rfl rfl rfl rfl rfl ?_; clear F a; intro a F
  refine s_I F rfl rfl rfl rfl rfl rfl ?_; clear F a; intro a F
  refine s_fa0 F rfl rfl rfl rfl fa_157_2_B2 rfl ?_; clear F a; intro a F
  refine s_ld F rfl rfl rfl rfl sc_155_B2 rfl (by exact old_cell M id O.o (lit rfl)) ?_; clear F a; intro a F
  refine s_len F rfl rfl rfl rfl sl_155_B2 rfl ?_; clear F a; intro a F
  refine s_bin F rfl rfl rfl rfl rfl rfl rfl ?_; clear F a; intro a F
  refine s_I F rfl rfl rfl rfl rfl rfl ?_; clear F a; intro a F
  refine t_endM M ?_; (clear M; try clear w); intro w M
  refine c_if F rfl ?_ ?_
  ·
    clear F; intro hc0 F
    try rw [hc0] at F
    replace hc0 := of_decide_eq_true hc0
    refine wp_seq ?_
    replace F := F.keep [0, 1, 4, 5] rfl
    refine wp_region_l [.ind, .wr, .ind] ([0, 1, 2]) rfl ?_
    refine s_bld F rfl rfl rfl rfl (parts0 F ) (bl_160__B2) ?_; clear F a; intro a F
    refine s_stW F M rfl rfl rfl sz_160_B2 rfl rfl rfl rfl rfl ?_; (clear M; try clear w); intro w M
    refine s_I F rfl rfl rfl rfl rfl rfl ?_; clear F a; intro a F
    refine t_endM M ?_; (clear M; try clear w); intro w M
    refine wp_ret ?_
    refine rt2 F rfl (by exact rv_a F rfl ag_160_B2 rfl (cells_whole M.h0)) (rv_t F rfl) ?_
    -- end 0
    exact ⟨_, rfl, rfl, M.chg⟩
  ·
    clear F; intro hc1 F
    try rw [hc1] at F
    replace hc1 := of_decide_eq_false hc1
    exfalso
    omega
set_option maxRecDepth 100000 in
set_option maxHeartbeats 400000 in
theorem c93n (i : Int) (w0 : World) : Cl Try.prog 93 #[.pointer none, .int .i64 i] w0 (RetQ w0 fun v => v = .tuple #[.agg #[.int .i64 0, .int .i64 0, .int .i64 0, .int .i64 0, .int .i64 0, .string { data := #[] }], .bool false]) := by
  have M : Sep (fun _ => False) w0 w0 _ := Sep.nil _ w0
  refine enter (vs := [_, _]) Try.func93 rfl rfl rfl ?_
  intro a F
  refine wp_seq ?_
  refine wp_region_l [.wr, .ind] ([0, 1]) rfl ?_
  refine s_alc F M rfl rfl rfl rfl zr_160_B2 rfl ?_; (clear F a M; try clear w); intro b4 w M a F
  refine s_I F rfl rfl rfl rfl rfl rfl ?_; clear F a; intro a F
  refine t_endM M ?_; (clear M; try clear w); intro w M
  refine wp_seq ?_
  refine wp_seq ?_
  refine wp_region_l [.ind, .ind, .ind, .ind, .ind, .ind, .rd, .ind, .ind, .ind] ([0, 1, 2, 3, 4, 5, 6, 7, 8, 9]) rfl ?_
  refine s_I F rfl rfl rfl rfl rfl rfl ?_; clear F a; intro a F
  refine s_pn F rfl rfl rfl rfl pt_73_B2 rfl ?_; clear F a; intro a F
  refine s_I F rfl rfl rfl rfl rfl rfl ?_; clear F a; intro a F
  refine s_no F rfl rfl rfl rfl ?_; clear F a; intro a F
  refine s_no F rfl rfl rfl rfl ?_; clear F a; intro a F
  refine s_no F rfl rfl rfl rfl ?_; clear F a; intro a F
  refine s_no F rfl rfl rfl rfl ?_; clear F a; intro a F
  refine s_no F rfl rfl rfl rfl ?_; clear F a; intro a F
  refine s_no F rfl rfl rfl rfl ?_; clear F a; intro a F
  refine s_I F rfl rfl rfl rfl rfl rfl ?_; clear F a; intro a F
  refine t_endM M ?_; (clear M; try clear w); intro w M
  refine c_t F rfl ?_
  refine wp_seq ?_
  replace F := F.keep [0, 1, 4, 5] rfl
  refine wp_region_l [.ind, .wr, .ind] ([0, 1, 2]) rfl ?_
  refine s_bld F rfl rfl rfl rfl (parts0 F ) (bl_160__B2) ?_; clear F a; intro a F
  refine s_stW F M rfl rfl rfl sz_160_B2 rfl rfl rfl rfl rfl ?_; (clear M; try clear w); intro w M
  refine s_I F rfl rfl rfl rfl rfl rfl ?_; clear F a; intro a F
  refine t_endM M ?_; (clear M; try clear w); intro w M
  refine wp_ret ?_
  refine rt2 F rfl (by exact rv_a F rfl ag_160_B2 rfl (cells_whole M.h0)) (rv_t F rfl) ?_
  -- end 0
  exact ⟨_, rfl, rfl, M.chg⟩
set_option maxRecDepth 100000 in
set_option maxHeartbeats 400000 in
theorem c93 (γ : Gc) (C : Cou) (i : Int) (x : To) (hx : C.way[outAt C.way.length i]? = some x) (hwl : C.way.length ≤ 4096) (w0 : World) (ho : Own w0.heap [couR γ C]) : Cl Try.prog 93 #[.pointer (some ⟨γ.b, 0, none⟩), .int .i64 i] w0 (RetS [couR γ C] w0 (fun v (_ : Value) => v = .tuple #[.agg (encTo x).toArray, .bool true]) fun vw => [couR { γ with vw := vw } (C.cut (outAt C.way.length i))]) := by
  obtain ⟨cb, mb, bs, gs, GA, gc, vw⟩ := γ
  obtain ⟨VA, VC, rfl⟩ : ∃ A c, vw = .slice A C.way.length c := by
    have h9 := ho.ok _ List.mem_cons_self
    exact SlOk.form (h9 (toR vw C.way) (by simp [couL]))
  have M : Sep (fun b_ => b_ ∈ foots [couR (⟨cb, mb, bs, gs, GA, gc, .slice VA C.way.length VC⟩ : Gc) C]) w0 w0 _ := Sep.start ho
  obtain ⟨⟨hgs, hgl⟩, M⟩ := Fw.Sep.couOpen M
  dsimp only at hgs hgl M
  have hbl : bs.length = C.As.length := by rw [← hgs, List.length_map]; exact hgl
  have hbl5 : (⟨cb, mb, bs, gs, GA, gc, .slice VA C.way.length VC⟩ : Gc).bs.length = C.As.length := hbl
  have hwp : 0 < C.way.length := by
    have := (List.getElem?_eq_some_iff.1 hx).1
    omega
  refine enter (vs := [_, _]) Try.func93 rfl rfl rfl ?_
  intro a F
  refine wp_seq ?_
  refine wp_region_l [.wr, .ind] ([0, 1]) rfl ?_
  refine s_alc F M rfl rfl rfl rfl zr_160_B2 rfl ?_; (clear F a M; try clear w); intro b4 w M a F
  refine s_I F rfl rfl rfl rfl rfl rfl ?_; clear F a; intro a F
  refine t_endM M ?_; (clear M; try clear w); intro w M
  refine wp_seq ?_
  refine wp_seq ?_
  refine wp_region_l [.ind, .ind, .ind, .ind, .ind, .ind, .rd, .ind, .ind, .ind] ([0, 1, 2, 3, 4, 5, 6, 7, 8, 9]) rfl ?_
  refine s_I F rfl rfl rfl rfl rfl rfl ?_; clear F a; intro a F
  refine s_pn F rfl rfl rfl rfl pt_73_B2 rfl ?_; clear F a; intro a F
  refine s_I F rfl rfl rfl rfl rfl rfl ?_; clear F a; intro a F
  refine s_I F rfl rfl rfl rfl rfl rfl ?_; clear F a; intro a F
  refine s_I F rfl rfl rfl rfl rfl rfl ?_; clear F a; intro a F
  refine s_fa0 F rfl rfl rfl rfl fa_157_2_B2 rfl ?_; clear F a; intro a F
  refine s_ld F rfl rfl rfl rfl sc_155_B2 rfl (by exact cell_of_blk M.h1 (lit rfl)) ?_; clear F a; intro a F
  refine s_len F rfl rfl rfl rfl sl_155_B2 rfl ?_; clear F a; intro a F
  refine s_bin F rfl rfl rfl rfl rfl rfl rfl ?_; clear F a; intro a F
  refine s_I F rfl rfl rfl rfl rfl rfl ?_; clear F a; intro a F
  refine t_endM M ?_; (clear M; try clear w); intro w M
  refine c_if F rfl ?_ ?_
  ·
    clear F; intro hc0 F
    try rw [hc0] at F
    replace hc0 := of_decide_eq_true hc0
    exfalso
    omega
  ·
    clear F; intro hc1 F
    try rw [hc1] at F
    replace hc1 := of_decide_eq_false hc1
    refine wp_skip ?_
    refine wp_seq ?_
    replace F := F.keep [0, 1, 4, 5] rfl
    refine wp_region_l [.ind, .ind, .ind, .rd, .ind, .ind] ([0, 1, 2, 3, 4, 5]) rfl ?_
    refine s_I F rfl rfl rfl rfl rfl rfl ?_; clear F a; intro a F
    refine s_I F rfl rfl rfl rfl rfl rfl ?_; clear F a; intro a F
    refine s_fa0 F rfl rfl rfl rfl fa_157_2_B2 rfl ?_; clear F a; intro a F
    refine s_ld F rfl rfl rfl rfl sc_155_B2 rfl (by exact cell_of_blk M.h1 (lit rfl)) ?_; clear F a; intro a F
    refine s_len F rfl rfl rfl rfl sl_155_B2 rfl ?_; clear F a; intro a F
    refine s_I F rfl rfl rfl rfl rfl rfl ?_; clear F a; intro a F
    refine t_endM M ?_; (clear M; try clear w); intro w M
    refine wp_seq ?_
    have hp : 0 < C.way.length := by omega
    have q1 := Int.lt_tmod_of_pos i (show (0 : Int) < (C.way.length : Int) by omega)
    have q2 := Int.tmod_lt_of_pos i (show (0 : Int) < (C.way.length : Int) by omega)
    have q3 := outAt_lt hp i
    have q4 : (i.tmod C.way.length + C.way.length).tmod C.way.length = (outAt C.way.length i : Int) := by
      have h2 := Int.tmod_eq_emod_of_nonneg (show 0 ≤ i.tmod C.way.length + C.way.length by omega) (b := (C.way.length : Int))
      have h4 := Int.emod_nonneg (i.tmod C.way.length + C.way.length) (show (C.way.length : Int) ≠ 0 by omega)
      unfold outAt
      omega
    replace F := F.keep [0, 1, 4, 5, 6] rfl
    refine wp_region_l [.ind, .ind, .ind, .ind, .ind, .ind, .ind, .ind] ([0, 1, 2, 3, 4, 5, 6, 7]) rfl ?_
    refine s_I F rfl rfl rfl rfl rfl rfl ?_; clear F a; intro a F
    refine s_I F rfl rfl rfl rfl rfl rfl ?_; clear F a; intro a F
    refine s_rem F rfl rfl rfl rfl rfl rfl (by omega) ?_; clear F a; intro a F
    refine s_I F rfl rfl rfl rfl rfl rfl ?_; clear F a; intro a F
    refine s_add F rfl rfl rfl rfl rfl rfl (by unfold In64; omega) ?_; clear F a; intro a F
    refine s_I F rfl rfl rfl rfl rfl rfl ?_; clear F a; intro a F
    refine s_rem F rfl rfl rfl rfl rfl rfl (by omega) ?_; clear F a; intro a F
    rw [q4] at F
    refine s_I F rfl rfl rfl rfl rfl rfl ?_; clear F a; intro a F
    refine t_endM M ?_; (clear M; try clear w); intro w M
    refine wp_seq ?_
    replace F := F.keep [0, 1, 4, 5, 6, 7] rfl
    refine wp_region_l [.ind, .ind, .ind, .rd, .ind, .ind, .rd, .wr, .wr] ([0, 1, 2, 3, 4, 5, 6, 7, 8]) rfl ?_
    refine s_I F rfl rfl rfl rfl rfl rfl ?_; clear F a; intro a F
    refine s_I F rfl rfl rfl rfl rfl rfl ?_; clear F a; intro a F
    refine s_fa0 F rfl rfl rfl rfl fa_157_2_B2 rfl ?_; clear F a; intro a F
    refine s_ld F rfl rfl rfl rfl sc_155_B2 rfl (by exact cell_of_blk M.h1 (lit rfl)) ?_; clear F a; intro a F
    refine s_I F rfl rfl rfl rfl rfl rfl ?_; clear F a; intro a F
    refine s_ix F rfl rfl rfl rfl sl_155_B2 rfl rfl (by exact SlOk.rd M.h5) (by omega) (by omega) ?_; clear F a; intro e37 he37 a F
    rw [Int.toNat_natCast] at he37
    obtain rfl := Option.some.inj (he37.symm.trans hx)
    refine s_lda F rfl rfl rfl rfl ag_160_B2 rfl rfl (rdsX (SlOk.rd M.h5) (by intro e; rfl) he37) ?_; clear F a; intro a F
    refine s_alc F M rfl rfl rfl rfl zr_160_B2 rfl ?_; (clear F a M; try clear w); intro b8 w M a F
    refine s_stW F M rfl rfl rfl sz_160_B2 rfl rfl rfl rfl rfl ?_; (clear M; try clear w); intro w M
    refine t_endM M ?_; (clear M; try clear w); intro w M
    refine wp_seq ?_
    replace F := F.keep [0, 1, 4, 5, 6, 7, 8] rfl
    refine wp_region_l [.ind, .ind, .ind, .ind, .rd, .ind, .ind, .ind, .wr, .ind, .ind, .wr] ([0, 1, 2, 3, 4, 5, 6, 7, 8, 9, 10, 11]) rfl ?_
    refine s_I F rfl rfl rfl rfl rfl rfl ?_; clear F a; intro a F
    refine s_I F rfl rfl rfl rfl rfl rfl ?_; clear F a; intro a F
    refine s_I F rfl rfl rfl rfl rfl rfl ?_; clear F a; intro a F
    refine s_fa0 F rfl rfl rfl rfl fa_157_2_B2 rfl ?_; clear F a; intro a F
    refine s_ld F rfl rfl rfl rfl sc_155_B2 rfl (by exact cell_of_blk M.h2 (lit rfl)) ?_; clear F a; intro a F
    refine s_I F rfl rfl rfl rfl rfl rfl ?_; clear F a; intro a F
    refine s_I F rfl rfl rfl rfl rfl rfl ?_; clear F a; intro a F
    refine s_add F rfl rfl rfl rfl rfl rfl (by unfold In64; omega) ?_; clear F a; intro a F
    have M1 : Sep _ _ _ (slR _ _ 160 _ _ :: _) := M.f6; replace M := M1; clear M1
    refine s_call (m := [_]) F M rfl rfl rfl rfl rfl (rfl : _ = some [_, _, _]) cb_118_B2 (fun nd_ => c118 C.way (outAt C.way.length i) (by omega) VA VC _ (M.drewN nd_).own.one) ?_; (clear F a M; try clear w); rintro v x1 w rfl M a F; (try simp only [List.cons_append, List.nil_append] at M)
    obtain ⟨XA, XC, rfl⟩ := SlOk.form M.h0
    refine s_I F rfl rfl rfl rfl rfl rfl ?_; clear F a; intro a F
    refine s_fa0 F rfl rfl rfl rfl fa_157_2_B2 rfl ?_; clear F a; intro a F
    refine s_st F M.f3 rfl rfl rfl sz_155_B2 rfl rfl rfl (by exact Nat.le_of_ble_eq_true rfl) ?_; (clear M; try clear w); intro w M
    refine t_endM M ?_; (clear M; try clear w); intro w M
    refine wp_seq ?_
    replace F := F.keep [0, 1, 4, 5, 6, 7, 8] rfl
    refine wp_region_l [.rd, .wr, .ind] ([0, 1, 2]) rfl ?_
    refine s_lda F rfl rfl rfl rfl ag_160_B2 rfl rfl (cells_whole M.h2) ?_; clear F a; intro a F
    refine s_stW F M.f3 rfl rfl rfl sz_160_B2 rfl rfl rfl rfl rfl ?_; (clear M; try clear w); intro w M
    refine s_I F rfl rfl rfl rfl rfl rfl ?_; clear F a; intro a F
    refine t_endM M ?_; (clear M; try clear w); intro w M
    refine wp_ret ?_
    refine rt2 F rfl (by exact rv_a F rfl ag_160_B2 rfl (cells_whole M.h0)) (rv_t F rfl) ?_
    -- end 0
    refine ⟨_, .slice XA (C.way.eraseIdx (outAt C.way.length i)).length XC, rfl, rfl, ?_⟩
    have M1 : Sep _ _ _ (slR _ _ 160 _ _ :: _) := M.f2; replace M := M1; clear M1
    have M1 : Sep _ _ _ (bigR agZ _ :: _) := M.f6; replace M := M1; clear M1
    have M1 : Sep _ _ _ (mapX _ _ _ :: _) := M.f6; replace M := M1; clear M1
    have M1 : Sep _ _ _ (slR _ _ 50 _ _ :: _) := M.f6; replace M := M1; clear M1
    have M1 : Sep _ _ _ (blk cb _ :: _) := M.f5; replace M := M1; clear M1
    exact Sep.left (m := [couR (⟨cb, mb, bs, gs, GA, gc, .slice XA (C.way.eraseIdx (outAt C.way.length i)).length XC⟩) (C.cut (outAt C.way.length i))]) (Fw.Sep.couShut (γ := (⟨cb, mb, bs, gs, GA, gc, .slice XA (C.way.eraseIdx (outAt C.way.length i)).length XC⟩)) (C := (C.cut (outAt C.way.length i))) M ⟨hgs, hgl⟩)
end Go.Proofs.Ytboibdmflblphaa
