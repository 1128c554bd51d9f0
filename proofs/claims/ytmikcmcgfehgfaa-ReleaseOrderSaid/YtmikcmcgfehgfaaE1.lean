/- E1 of the seat. -/
import Derived.Test.YtmikcmcgfehgfaaFw10
import Derived.Test.YtmikcmcgfehgfaaProg
namespace Go.Proofs.Ytmikcmcgfehgfaa
open Go Fw
theorem fa_83_1_E1 : FA Try.prog 83 1 1 := fun _ _ _ => by kernel_rfl
theorem sc_3_E1 : scalB Try.prog 3 = true := by kernel_rfl
theorem fa_83_0_E1 : FA Try.prog 83 0 0 := fun _ _ _ => by kernel_rfl
theorem sz_3_E1 : sizeB Try.prog 3 = some 1 := by kernel_rfl
theorem bl_83_1_E1 : ∀ (x1 : Int), ∀ w : World, (Instr.build 83 #[(1, .int .i64 x1)]).run Try.prog w = .ok (.agg #[.int .i64 0, .int .i64 x1]) w := by intros; kernel_rfl
theorem pt_81_E1 : ptrB Try.prog 81 = true := by kernel_rfl
theorem bl_87_0_1_2_E1 : ∀ (x0 : Int) (x1 : Int) (t2 : TypeId) (x2 : Value), ∀ w : World, (Instr.build 87 #[(0, .int .i64 x0), (1, .int .i64 x1), (2, .iface t2 x2)]).run Try.prog w = .ok (.agg #[.int .i64 x0, .int .i64 x1, .iface t2 x2]) w := by intros; kernel_rfl
theorem pt_53_E1 : ptrB Try.prog 53 = true := by kernel_rfl
theorem fa_87_2_E1 : FA Try.prog 87 2 2 := fun _ _ _ => by kernel_rfl
theorem sc_85_E1 : scalB Try.prog 85 = true := by kernel_rfl
theorem meth_81_57_E1 : ∀ b : Nat, Meth Try.prog 81 "sandglass/release.set" (.pointer (some ⟨b, 0, none⟩)) 57 := fun b w => by kernel_rfl
theorem cb_57_E1 : callB Try.prog 57 = true := by kernel_rfl
theorem meth_81_55_E1 : ∀ b : Nat, Meth Try.prog 81 "sandglass/release.most" (.pointer (some ⟨b, 0, none⟩)) 55 := fun b w => by kernel_rfl
theorem cb_55_E1 : callB Try.prog 55 = true := by kernel_rfl
theorem sz_85_E1 : sizeB Try.prog 85 = some 1 := by kernel_rfl
theorem fa_87_0_E1 : FA Try.prog 87 0 0 := fun _ _ _ => by kernel_rfl
theorem fa_87_1_E1 : FA Try.prog 87 1 1 := fun _ _ _ => by kernel_rfl
theorem cb_36_E1 : callB Try.prog 36 = true := by kernel_rfl
theorem meth_81_56_E1 : ∀ b : Nat, Meth Try.prog 81 "sandglass/release.now" (.pointer (some ⟨b, 0, none⟩)) 56 := fun b w => by kernel_rfl
theorem cb_56_E1 : callB Try.prog 56 = true := by kernel_rfl
theorem zr_56_E1 : zeroB Try.prog 56 = some (.agg #[.int .i64 0, .int .i64 0, .int .i64 0, .int .i64 0]) := by kernel_rfl
theorem bl_56_0_1_3_E1 : ∀ (x0 : Int) (x1 : Int) (x3 : Int), ∀ w : World, (Instr.build 56 #[(0, .int .i64 x0), (1, .int .i64 x1), (3, .int .i64 x3)]).run Try.prog w = .ok (.agg #[.int .i64 x0, .int .i64 x1, .int .i64 0, .int .i64 x3]) w := by intros; kernel_rfl
theorem sz_56_E1 : sizeB Try.prog 56 = some 4 := by kernel_rfl
theorem ag_56_E1 : aggB Try.prog 56 = some 4 := by kernel_rfl
theorem fa_56_2_E1 : FA Try.prog 56 2 2 := fun _ _ _ => by kernel_rfl
theorem fa_56_3_E1 : FA Try.prog 56 3 3 := fun _ _ _ => by kernel_rfl
theorem fa_56_0_E1 : FA Try.prog 56 0 0 := fun _ _ _ => by kernel_rfl
theorem fa_56_1_E1 : FA Try.prog 56 1 1 := fun _ _ _ => by kernel_rfl
theorem cb_37_E1 : callB Try.prog 37 = true := by kernel_rfl
theorem mixed : Try.prog.follows .mixedOrders = true := by kernel_rfl

/-- A gate. -/
structure Gt where
  begin_ : Int
  each : Int
  now : Int
  most : Int
def Gt.new (b e : Int) : Gt := ⟨min (max b 0) 1073741824, min (max e 1) 1048576, 0, -1⟩
def Gt.time (g : Gt) (e : Int) : Int := if e < 0 ∨ 63 < e then -1 else g.begin_ + e * g.each
def clip (n : Int) : Int := min (max n 0) 1099511627776
def Gt.tick (g : Gt) (n : Int) : Gt := { g with now := clip n, most := max g.most (clip n) }
def Gt.crash (g : Gt) : Gt := { g with now := 0 }
def Gt.open_ (g : Gt) (e : Int) : Bool := decide (0 ≤ g.time e) && decide (g.time e ≤ g.most)
theorem Gt.open_eq (g : Gt) (e : Int) : g.open_ e = decide (0 ≤ g.time e ∧ g.time e ≤ g.most) := by
  simp [Gt.open_]
structure Gt.Wf (g : Gt) : Prop where
  b0 : 0 ≤ g.begin_
  b1 : g.begin_ ≤ 1073741824
  e0 : 1 ≤ g.each
  e1 : g.each ≤ 1048576
  m0 : -1 ≤ g.most
  m1 : g.most ≤ 1099511627776
theorem Gt.new_wf (b e : Int) : (Gt.new b e).Wf := by
  constructor <;> simp only [Gt.new] <;> omega
theorem Gt.Wf.tick {g : Gt} (W : g.Wf) (n : Int) : (g.tick n).Wf := by
  have := W.m0; have := W.m1
  exact ⟨W.b0, W.b1, W.e0, W.e1, by simp only [Gt.tick, clip]; omega, by simp only [Gt.tick, clip]; omega⟩
theorem Gt.Wf.crash {g : Gt} (W : g.Wf) : (g.crash).Wf := ⟨W.b0, W.b1, W.e0, W.e1, W.m0, W.m1⟩
theorem Gt.Wf.mul {g : Gt} (W : g.Wf) {e : Int} (h0 : 0 ≤ e) (h1 : e ≤ 63) : 0 ≤ e * g.each ∧ e * g.each ≤ 66060288 := by
  have h2 := W.e0; have h3 := W.e1
  refine ⟨Int.mul_nonneg h0 (by omega), ?_⟩
  have h4 : e * g.each ≤ 63 * g.each := Int.mul_le_mul_of_nonneg_right h1 (by omega)
  omega
def gO (_b c : Nat) (g : Gt) : Obj := .cells #[.int .i64 g.begin_, .int .i64 g.each, .iface 81 (.pointer (some ⟨c, 0, none⟩))] 87 (0, 0)
def cO (g : Gt) : Obj := .cells #[.int .i64 g.now, .int .i64 g.most] 83 (0, 0)
abbrev gB (b c : Nat) (g : Gt) : Res := blk b (gO b c g)
abbrev gC (c : Nat) (g : Gt) : Res := blk c (cO g)
abbrev gV (g : Gt) : Value := .agg #[.int .i64 g.begin_, .int .i64 g.each, .int .i64 g.now, .int .i64 g.most]

set_option maxRecDepth 100000 in
set_option maxHeartbeats 400000 in
theorem c55 (c : Nat) (g : Gt) (w0 : World) (hC : w0.heap[c]? = some (cO g)) : Cl Try.prog 55 #[.pointer (some ⟨c, 0, none⟩)] w0 (RetQ w0 fun v => v = .int .i64 g.most) := by
  have M : Sep (fun _ => False) w0 w0 _ := Sep.nil _ w0
  refine enter (vs := [_]) Try.func55 rfl rfl rfl ?_
  intro a F
  refine wp_seq ?_
  refine wp_region_l [.ind] ([0]) rfl ?_
  refine s_I F rfl rfl rfl rfl rfl rfl ?_; clear F a; intro a F
  refine t_endM M ?_; (clear M; try clear w); intro w M
  refine wp_seq ?_
  refine wp_region_l [.ind, .ind, .ind, .rd, .ind] ([0, 1, 2, 3, 4]) rfl ?_
  refine s_I F rfl rfl rfl rfl rfl rfl ?_; clear F a; intro a F
  refine s_I F rfl rfl rfl rfl rfl rfl ?_; clear F a; intro a F
  refine s_fa0 F rfl rfl rfl rfl fa_83_1_E1 rfl ?_; clear F a; intro a F
  refine s_ld F rfl rfl rfl rfl sc_3_E1 rfl (by exact old_cell M id hC (lit rfl)) ?_; clear F a; intro a F
  refine s_I F rfl rfl rfl rfl rfl rfl ?_; clear F a; intro a F
  refine t_endM M ?_; (clear M; try clear w); intro w M
  refine wp_ret ?_
  refine ret1 F rfl rfl ?_
  -- end 0
  exact ⟨_, rfl, rfl, M.chg⟩
set_option maxRecDepth 100000 in
set_option maxHeartbeats 400000 in
theorem c56 (c : Nat) (g : Gt) (w0 : World) (hC : w0.heap[c]? = some (cO g)) : Cl Try.prog 56 #[.pointer (some ⟨c, 0, none⟩)] w0 (RetQ w0 fun v => v = .int .i64 g.now) := by
  have M : Sep (fun _ => False) w0 w0 _ := Sep.nil _ w0
  refine enter (vs := [_]) Try.func56 rfl rfl rfl ?_
  intro a F
  refine wp_seq ?_
  refine wp_region_l [.ind] ([0]) rfl ?_
  refine s_I F rfl rfl rfl rfl rfl rfl ?_; clear F a; intro a F
  refine t_endM M ?_; (clear M; try clear w); intro w M
  refine wp_seq ?_
  refine wp_region_l [.ind, .ind, .ind, .rd, .ind] ([0, 1, 2, 3, 4]) rfl ?_
  refine s_I F rfl rfl rfl rfl rfl rfl ?_; clear F a; intro a F
  refine s_I F rfl rfl rfl rfl rfl rfl ?_; clear F a; intro a F
  refine s_fa0 F rfl rfl rfl rfl fa_83_0_E1 rfl ?_; clear F a; intro a F
  refine s_ld F rfl rfl rfl rfl sc_3_E1 rfl (by exact old_cell M id hC (lit rfl)) ?_; clear F a; intro a F
  refine s_I F rfl rfl rfl rfl rfl rfl ?_; clear F a; intro a F
  refine t_endM M ?_; (clear M; try clear w); intro w M
  refine wp_ret ?_
  refine ret1 F rfl rfl ?_
  -- end 0
  exact ⟨_, rfl, rfl, M.chg⟩
set_option maxRecDepth 100000 in
set_option maxHeartbeats 400000 in
theorem c57 (c : Nat) (g : Gt) (n : Int) (w0 : World) (ho : Own w0.heap [gC c g]) : Cl Try.prog 57 #[.pointer (some ⟨c, 0, none⟩), .int .i64 n] w0 (RetS [gC c g] w0 (fun v (_ : Unit) => v = .tuple #[]) fun _ => [gC c (g.tick n)]) := by
  have M : Sep (fun b_ => b_ ∈ foots [gC c g]) w0 w0 _ := Sep.start ho
  replace M : Sep _ _ _ [blk c (.cells #[.int .i64 g.now, .int .i64 g.most] 83 (0, 0))] := M
  refine enter (vs := [_, _]) Try.func57 rfl rfl rfl ?_
  intro a F
  refine wp_seq ?_
  refine wp_region_l [.ind, .ind, .ind, .ind, .ind, .ind, .wr] ([0, 1, 2, 3, 4, 5, 6]) rfl ?_
  refine s_I F rfl rfl rfl rfl rfl rfl ?_; clear F a; intro a F
  refine s_I F rfl rfl rfl rfl rfl rfl ?_; clear F a; intro a F
  refine s_max F rfl rfl rfl rfl rfl rfl ?_; clear F a; intro a F
  refine s_min F rfl rfl rfl rfl rfl rfl ?_; clear F a; intro a F
  refine s_I F rfl rfl rfl rfl rfl rfl ?_; clear F a; intro a F
  refine s_fa0 F rfl rfl rfl rfl fa_83_0_E1 rfl ?_; clear F a; intro a F
  refine s_st F M rfl rfl rfl sz_3_E1 rfl rfl rfl (by exact Nat.le_of_ble_eq_true rfl) ?_; (clear M; try clear w); intro w M
  refine t_endM M ?_; (clear M; try clear w); intro w M
  replace F := F.keep [0, 1] rfl
  refine wp_region_t [.ind, .ind, .ind, .ind, .rd, .ind, .ind, .ind, .rd, .ind, .ind, .ind, .wr] [] (otOf [0, 1, 2, 3, 4, 5, 6, 7, 8, 9, 10, 11, 12]) mixed (by kernel_rfl) ?_
  refine s_I F rfl rfl rfl rfl rfl rfl ?_; clear F a; intro a F
  refine s_I F rfl rfl rfl rfl rfl rfl ?_; clear F a; intro a F
  refine s_I F rfl rfl rfl rfl rfl rfl ?_; clear F a; intro a F
  refine s_fa0 F rfl rfl rfl rfl fa_83_1_E1 rfl ?_; clear F a; intro a F
  refine s_ld F rfl rfl rfl rfl sc_3_E1 rfl (by exact cell_of_blk M.h0 (lit rfl)) ?_; clear F a; intro a F
  refine s_I F rfl rfl rfl rfl rfl rfl ?_; clear F a; intro a F
  refine s_I F rfl rfl rfl rfl rfl rfl ?_; clear F a; intro a F
  refine s_fa0 F rfl rfl rfl rfl fa_83_0_E1 rfl ?_; clear F a; intro a F
  refine s_ld F rfl rfl rfl rfl sc_3_E1 rfl (by exact cell_of_blk M.h0 (lit rfl)) ?_; clear F a; intro a F
  refine s_max F rfl rfl rfl rfl rfl rfl ?_; clear F a; intro a F
  refine s_I F rfl rfl rfl rfl rfl rfl ?_; clear F a; intro a F
  refine s_fa0 F rfl rfl rfl rfl fa_83_1_E1 rfl ?_; clear F a; intro a F
  refine s_st F M rfl rfl rfl sz_3_E1 rfl rfl rfl (by exact Nat.le_of_ble_eq_true rfl) ?_; (clear M; try clear w); intro w M
  refine t_endM M ?_; (clear M; try clear w); intro w M
  refine (ret0 F rfl ?_).2
  -- end 0
  exact ⟨_, (), rfl, rfl, M⟩
set_option maxRecDepth 100000 in
set_option maxHeartbeats 400000 in
theorem c27 (n e : Int) (w0 : World) : Cl Try.prog 27 #[.int .i64 n, .int .i64 e] w0 (RetS [] w0 (fun v (x : Nat × Nat) => v = .pointer (some ⟨x.1, 0, none⟩)) fun x => [gB x.1 x.2 (Gt.new n e), gC x.2 (Gt.new n e)]) := by
  have M : Sep (fun b_ => b_ ∈ foots ([] : List Res)) w0 w0 _ := Sep.nil _ w0
  refine enter (vs := [_, _]) Try.func27 rfl rfl rfl ?_
  intro a F
  refine wp_seq ?_
  refine wp_region_l [.ind] ([0]) rfl ?_
  refine s_I F rfl rfl rfl rfl rfl rfl ?_; clear F a; intro a F
  refine t_endM M ?_; (clear M; try clear w); intro w M
  refine wp_seq ?_
  refine wp_region_l [.ind, .ind, .ind, .ind, .ind, .ind, .ind, .wr, .ind, .ind, .wr, .ind] ([0, 1, 2, 3, 4, 5, 6, 7, 8, 9, 10, 11]) rfl ?_
  refine s_I F rfl rfl rfl rfl rfl rfl ?_; clear F a; intro a F
  refine s_max F rfl rfl rfl rfl rfl rfl ?_; clear F a; intro a F
  refine s_min F rfl rfl rfl rfl rfl rfl ?_; clear F a; intro a F
  refine s_I F rfl rfl rfl rfl rfl rfl ?_; clear F a; intro a F
  refine s_max F rfl rfl rfl rfl rfl rfl ?_; clear F a; intro a F
  refine s_min F rfl rfl rfl rfl rfl rfl ?_; clear F a; intro a F
  refine s_bld F rfl rfl rfl rfl (parts1 F rfl) (bl_83_1_E1 _) ?_; clear F a; intro a F
  refine s_bxA F M rfl rfl rfl rfl rfl ?_; (clear F a M; try clear w); intro b12 w M a F
  refine s_mi F rfl rfl rfl rfl pt_81_E1 rfl ?_; clear F a; intro a F
  refine s_bld F rfl rfl rfl rfl (parts3 F rfl rfl rfl) (bl_87_0_1_2_E1 _ _ _ _) ?_; clear F a; intro a F
  refine s_bxA F M rfl rfl rfl rfl rfl ?_; (clear F a M; try clear w); intro b15 w M a F
  refine s_I F rfl rfl rfl rfl rfl rfl ?_; clear F a; intro a F
  refine t_endM M ?_; (clear M; try clear w); intro w M
  refine wp_ret ?_
  refine ret1 F rfl rfl ?_
  -- end 0
  exact ⟨_, (b15, b12), rfl, rfl, M⟩
set_option maxRecDepth 100000 in
set_option maxHeartbeats 400000 in
theorem c31 (b c : Nat) (g : Gt) (n : Int) (w0 : World) (ho : Own w0.heap [gB b c g, gC c g]) : Cl Try.prog 31 #[.pointer (some ⟨b, 0, none⟩), .int .i64 n] w0 (RetS [gB b c g, gC c g] w0 (fun v (_ : Unit) => v = .tuple #[]) fun _ => [gB b c (g.tick n), gC c (g.tick n)]) := by
  have M : Sep (fun b_ => b_ ∈ foots [gB b c g, gC c g]) w0 w0 _ := Sep.start ho
  replace M : Sep _ _ _ [blk b (.cells #[.int .i64 g.begin_, .int .i64 g.each, .iface 81 (.pointer (some ⟨c, 0, none⟩))] 87 (0, 0)), gC c g] := M
  refine enter (vs := [_, _]) Try.func31 rfl rfl rfl ?_
  intro a F
  refine wp_seq ?_
  refine wp_region_l [.ind, .ind] ([0, 1]) rfl ?_
  refine s_I F rfl rfl rfl rfl rfl rfl ?_; clear F a; intro a F
  refine s_pne F rfl rfl rfl rfl pt_53_E1 rfl ?_; clear F a; intro a F
  refine t_endM M ?_; (clear M; try clear w); intro w M
  refine c_t F rfl ?_
  replace F := F.keep [0, 1] rfl
  refine wp_region_l [.ind, .ind, .ind, .rd, .ind, .wr] ([0, 1, 2, 3, 4, 5]) rfl ?_
  refine s_I F rfl rfl rfl rfl rfl rfl ?_; clear F a; intro a F
  refine s_I F rfl rfl rfl rfl rfl rfl ?_; clear F a; intro a F
  refine s_fa0 F rfl rfl rfl rfl fa_87_2_E1 rfl ?_; clear F a; intro a F
  refine s_ld F rfl rfl rfl rfl sc_85_E1 rfl (by exact cell_of_blk M.h0 (lit rfl)) ?_; clear F a; intro a F
  refine s_I F rfl rfl rfl rfl rfl rfl ?_; clear F a; intro a F
  have M1 : Sep _ _ _ (gC c g :: _) := M.f1; replace M := M1; clear M1
  refine s_invL (m := [_]) F M rfl rfl rfl rfl rfl (meth_81_57_E1 _) (rfl : _ = some [_]) cb_57_E1 (fun nd_ => c57 c g n _ (M.drewN nd_).own.one) (fun _ x w _ M => pend_nil) ?_; (clear F a M; try clear w); rintro v x w rfl M a F; (try simp only [List.cons_append, List.nil_append] at M)
  refine t_endM M ?_; (clear M; try clear w); intro w M
  refine (ret0 F rfl ?_).2
  -- end 0
  exact ⟨_, (), rfl, rfl, M.f1⟩
set_option maxRecDepth 100000 in
set_option maxHeartbeats 400000 in
theorem c31n (n : Int) (w0 : World) : Cl Try.prog 31 #[.pointer none, .int .i64 n] w0 (RetQ w0 fun v => v = .tuple #[]) := by
  have M : Sep (fun _ => False) w0 w0 _ := Sep.nil _ w0
  refine enter (vs := [_, _]) Try.func31 rfl rfl rfl ?_
  intro a F
  refine wp_seq ?_
  refine wp_region_l [.ind, .ind] ([0, 1]) rfl ?_
  refine s_I F rfl rfl rfl rfl rfl rfl ?_; clear F a; intro a F
  refine s_pne F rfl rfl rfl rfl pt_53_E1 rfl ?_; clear F a; intro a F
  refine t_endM M ?_; (clear M; try clear w); intro w M
  refine c_f F rfl ?_
  refine wp_skip ?_
  refine (ret0 F rfl ?_).2
  -- end 0
  exact ⟨_, rfl, rfl, M.chg⟩
set_option maxRecDepth 100000 in
set_option maxHeartbeats 400000 in
theorem c29 (b c : Nat) (g : Gt) (w0 : World) (ho : Own w0.heap [gB b c g, gC c g]) : Cl Try.prog 29 #[.pointer (some ⟨b, 0, none⟩)] w0 (RetS [gB b c g, gC c g] w0 (fun v (_ : Nat) => v = .tuple #[]) fun c2 => [gB b c2 g.crash, gC c2 g.crash]) := by
  have M : Sep (fun b_ => b_ ∈ foots [gB b c g, gC c g]) w0 w0 _ := Sep.start ho
  replace M : Sep _ _ _ [blk b (.cells #[.int .i64 g.begin_, .int .i64 g.each, .iface 81 (.pointer (some ⟨c, 0, none⟩))] 87 (0, 0)), gC c g] := M
  refine enter (vs := [_]) Try.func29 rfl rfl rfl ?_
  intro a F
  refine wp_seq ?_
  refine wp_region_l [.ind, .ind] ([0, 1]) rfl ?_
  refine s_I F rfl rfl rfl rfl rfl rfl ?_; clear F a; intro a F
  refine s_pne F rfl rfl rfl rfl pt_53_E1 rfl ?_; clear F a; intro a F
  refine t_endM M ?_; (clear M; try clear w); intro w M
  refine c_t F rfl ?_
  replace F := F.keep [0] rfl
  refine wp_region_l [.ind, .ind, .ind, .ind, .rd, .wr, .ind, .wr, .ind, .ind, .ind, .wr] ([0, 1, 2, 3, 4, 5, 6, 7, 8, 9, 10, 11]) rfl ?_
  refine s_I F rfl rfl rfl rfl rfl rfl ?_; clear F a; intro a F
  refine s_I F rfl rfl rfl rfl rfl rfl ?_; clear F a; intro a F
  refine s_I F rfl rfl rfl rfl rfl rfl ?_; clear F a; intro a F
  refine s_fa0 F rfl rfl rfl rfl fa_87_2_E1 rfl ?_; clear F a; intro a F
  refine s_ld F rfl rfl rfl rfl sc_85_E1 rfl (by exact cell_of_blk M.h0 (lit rfl)) ?_; clear F a; intro a F
  refine s_invQ F M rfl rfl rfl rfl rfl (meth_81_55_E1 _) (rfl : _ = some []) cb_55_E1 (fun nd_ => c55 c g _ (by exact M.h1)) (fun _ w _ M => pend_nil) ?_; (clear F a M; try clear w); rintro v w rfl M a F
  refine s_bld F rfl rfl rfl rfl (parts1 F rfl) (bl_83_1_E1 _) ?_; clear F a; intro a F
  refine s_bxA F M rfl rfl rfl rfl rfl ?_; (clear F a M; try clear w); intro b11 w M a F
  refine s_mi F rfl rfl rfl rfl pt_81_E1 rfl ?_; clear F a; intro a F
  refine s_I F rfl rfl rfl rfl rfl rfl ?_; clear F a; intro a F
  refine s_fa0 F rfl rfl rfl rfl fa_87_2_E1 rfl ?_; clear F a; intro a F
  refine s_st F M.f1 rfl rfl rfl sz_85_E1 rfl rfl rfl (by exact Nat.le_of_ble_eq_true rfl) ?_; (clear M; try clear w); intro w M
  refine t_endM M ?_; (clear M; try clear w); intro w M
  refine (ret0 F rfl ?_).2
  -- end 0
  refine ⟨_, b11, rfl, rfl, ?_⟩
  refine M.pick ?_; repeat (first | exact PkG.nil | refine PkG.cons 0 rfl rfl ?_ | refine PkG.cons 1 rfl rfl ?_)
set_option maxRecDepth 100000 in
set_option maxHeartbeats 400000 in
theorem c29n (w0 : World) : Cl Try.prog 29 #[.pointer none] w0 (RetQ w0 fun v => v = .tuple #[]) := by
  have M : Sep (fun _ => False) w0 w0 _ := Sep.nil _ w0
  refine enter (vs := [_]) Try.func29 rfl rfl rfl ?_
  intro a F
  refine wp_seq ?_
  refine wp_region_l [.ind, .ind] ([0, 1]) rfl ?_
  refine s_I F rfl rfl rfl rfl rfl rfl ?_; clear F a; intro a F
  refine s_pne F rfl rfl rfl rfl pt_53_E1 rfl ?_; clear F a; intro a F
  refine t_endM M ?_; (clear M; try clear w); intro w M
  refine c_f F rfl ?_
  refine wp_skip ?_
  refine (ret0 F rfl ?_).2
  -- end 0
  exact ⟨_, rfl, rfl, M.chg⟩
set_option maxRecDepth 100000 in
set_option maxHeartbeats 400000 in
theorem c36 (b c : Nat) (g : Gt) (W : g.Wf) (e : Int) (w0 : World) (hG : w0.heap[b]? = some (gO b c g)) : Cl Try.prog 36 #[.pointer (some ⟨b, 0, none⟩), .int .i64 e] w0 (RetQ w0 fun v => v = .int .i64 (g.time e)) := by
  have M : Sep (fun _ => False) w0 w0 _ := Sep.nil _ w0
  refine enter (vs := [_, _]) Try.func36 rfl rfl rfl ?_
  intro a F
  refine wp_seq ?_
  refine wp_region_l [.ind] ([0]) rfl ?_
  refine s_I F rfl rfl rfl rfl rfl rfl ?_; clear F a; intro a F
  refine t_endM M ?_; (clear M; try clear w); intro w M
  refine wp_seq ?_
  refine wp_seq ?_
  refine wp_region_l [.ind, .ind, .ind, .ind, .ind, .ind, .ind, .ind, .ind, .ind] ([0, 1, 2, 3, 4, 5, 6, 7, 8, 9]) rfl ?_
  refine s_I F rfl rfl rfl rfl rfl rfl ?_; clear F a; intro a F
  refine s_pn F rfl rfl rfl rfl pt_53_E1 rfl ?_; clear F a; intro a F
  refine s_I F rfl rfl rfl rfl rfl rfl ?_; clear F a; intro a F
  refine s_I F rfl rfl rfl rfl rfl rfl ?_; clear F a; intro a F
  refine s_bin F rfl rfl rfl rfl rfl rfl rfl ?_; clear F a; intro a F
  refine s_I F rfl rfl rfl rfl rfl rfl ?_; clear F a; intro a F
  refine s_I F rfl rfl rfl rfl rfl rfl ?_; clear F a; intro a F
  refine bsplit F 11 rfl ?_ ?_
  ·
    clear F; intro hc0 F
    try rw [hc0] at F
    replace hc0 := of_decide_eq_true hc0
    refine s_no F rfl rfl rfl rfl ?_; clear F a; intro a F
    refine s_no F rfl rfl rfl rfl ?_; clear F a; intro a F
    refine s_I F rfl rfl rfl rfl rfl rfl ?_; clear F a; intro a F
    refine t_endM M ?_; (clear M; try clear w); intro w M
    refine c_t F rfl ?_
    refine wp_seq ?_
    replace F := F.keep [0, 1, 4] rfl
    refine wp_region_l [.ind] ([0]) rfl ?_
    refine s_I F rfl rfl rfl rfl rfl rfl ?_; clear F a; intro a F
    refine t_endM M ?_; (clear M; try clear w); intro w M
    refine wp_ret ?_
    refine ret1 F rfl rfl ?_
    -- end 0
    refine ⟨_, rfl, ?_, M.chg⟩
    unfold Gt.time
    rw [if_pos (by omega)]
  ·
    clear F; intro hc1 F
    try rw [hc1] at F
    replace hc1 := of_decide_eq_false hc1
    refine s_I F rfl rfl rfl rfl rfl rfl ?_; clear F a; intro a F
    refine s_bin F rfl rfl rfl rfl rfl rfl rfl ?_; clear F a; intro a F
    refine s_I F rfl rfl rfl rfl rfl rfl ?_; clear F a; intro a F
    refine t_endM M ?_; (clear M; try clear w); intro w M
    refine c_if F rfl ?_ ?_
    ·
      clear F; intro hc2 F
      try rw [hc2] at F
      replace hc2 := of_decide_eq_true hc2
      refine wp_seq ?_
      replace F := F.keep [0, 1, 4] rfl
      refine wp_region_l [.ind] ([0]) rfl ?_
      refine s_I F rfl rfl rfl rfl rfl rfl ?_; clear F a; intro a F
      refine t_endM M ?_; (clear M; try clear w); intro w M
      refine wp_ret ?_
      refine ret1 F rfl rfl ?_
      -- end 1
      refine ⟨_, rfl, ?_, M.chg⟩
      unfold Gt.time
      rw [if_pos (by omega)]
    ·
      clear F; intro hc3 F
      try rw [hc3] at F
      replace hc3 := of_decide_eq_false hc3
      refine wp_skip ?_
      refine wp_seq ?_
      have hmul := W.mul (e := e) (by omega) (by omega)
      have hb0 := W.b0
      have hb1 := W.b1
      replace F := F.keep [0, 1, 4] rfl
      refine wp_region_t [.ind, .ind, .ind, .rd, .ind, .ind, .ind, .ind, .rd, .ind, .ind, .ind] [] (otOf [0, 1, 2, 3, 4, 5, 6, 7, 8, 9, 10, 11]) mixed (by kernel_rfl) ?_
      refine s_I F rfl rfl rfl rfl rfl rfl ?_; clear F a; intro a F
      refine s_I F rfl rfl rfl rfl rfl rfl ?_; clear F a; intro a F
      refine s_fa0 F rfl rfl rfl rfl fa_87_0_E1 rfl ?_; clear F a; intro a F
      refine s_ld F rfl rfl rfl rfl sc_3_E1 rfl (by exact old_cell M id hG (lit rfl)) ?_; clear F a; intro a F
      refine s_I F rfl rfl rfl rfl rfl rfl ?_; clear F a; intro a F
      refine s_I F rfl rfl rfl rfl rfl rfl ?_; clear F a; intro a F
      refine s_I F rfl rfl rfl rfl rfl rfl ?_; clear F a; intro a F
      refine s_fa0 F rfl rfl rfl rfl fa_87_1_E1 rfl ?_; clear F a; intro a F
      refine s_ld F rfl rfl rfl rfl sc_3_E1 rfl (by exact old_cell M id hG (lit rfl)) ?_; clear F a; intro a F
      refine s_mul F rfl rfl rfl rfl rfl rfl (by unfold In64; omega) ?_; clear F a; intro a F
      refine s_add F rfl rfl rfl rfl rfl rfl (by unfold In64; omega) ?_; clear F a; intro a F
      refine s_I F rfl rfl rfl rfl rfl rfl ?_; clear F a; intro a F
      refine t_endM M ?_; (clear M; try clear w); intro w M
      refine wp_ret ?_
      refine ret1 F rfl rfl ?_
      -- end 2
      refine ⟨_, rfl, ?_, M.chg⟩
      unfold Gt.time
      rw [if_neg (by omega)]
set_option maxRecDepth 100000 in
set_option maxHeartbeats 400000 in
theorem c36n (e : Int) (w0 : World) : Cl Try.prog 36 #[.pointer none, .int .i64 e] w0 (RetQ w0 fun v => v = .int .i64 (-1)) := by
  have M : Sep (fun _ => False) w0 w0 _ := Sep.nil _ w0
  refine enter (vs := [_, _]) Try.func36 rfl rfl rfl ?_
  intro a F
  refine wp_seq ?_
  refine wp_region_l [.ind] ([0]) rfl ?_
  refine s_I F rfl rfl rfl rfl rfl rfl ?_; clear F a; intro a F
  refine t_endM M ?_; (clear M; try clear w); intro w M
  refine wp_seq ?_
  refine wp_seq ?_
  refine wp_region_l [.ind, .ind, .ind, .ind, .ind, .ind, .ind, .ind, .ind, .ind] ([0, 1, 2, 3, 4, 5, 6, 7, 8, 9]) rfl ?_
  refine s_I F rfl rfl rfl rfl rfl rfl ?_; clear F a; intro a F
  refine s_pn F rfl rfl rfl rfl pt_53_E1 rfl ?_; clear F a; intro a F
  refine s_I F rfl rfl rfl rfl rfl rfl ?_; clear F a; intro a F
  refine s_no F rfl rfl rfl rfl ?_; clear F a; intro a F
  refine s_no F rfl rfl rfl rfl ?_; clear F a; intro a F
  refine s_I F rfl rfl rfl rfl rfl rfl ?_; clear F a; intro a F
  refine s_I F rfl rfl rfl rfl rfl rfl ?_; clear F a; intro a F
  refine s_no F rfl rfl rfl rfl ?_; clear F a; intro a F
  refine s_no F rfl rfl rfl rfl ?_; clear F a; intro a F
  refine s_I F rfl rfl rfl rfl rfl rfl ?_; clear F a; intro a F
  refine t_endM M ?_; (clear M; try clear w); intro w M
  refine c_t F rfl ?_
  refine wp_seq ?_
  replace F := F.keep [0, 1, 4] rfl
  refine wp_region_l [.ind] ([0]) rfl ?_
  refine s_I F rfl rfl rfl rfl rfl rfl ?_; clear F a; intro a F
  refine t_endM M ?_; (clear M; try clear w); intro w M
  refine wp_ret ?_
  refine ret1 F rfl rfl ?_
  -- end 0
  exact ⟨_, rfl, rfl, M.chg⟩
set_option maxRecDepth 100000 in
set_option maxHeartbeats 400000 in
theorem c34 (b c : Nat) (g : Gt) (W : g.Wf) (e : Int) (w0 : World) (hG : w0.heap[b]? = some (gO b c g)) (hC : w0.heap[c]? = some (cO g)) : Cl Try.prog 34 #[.pointer (some ⟨b, 0, none⟩), .int .i64 e] w0 (RetQ w0 fun v => v = .bool (g.open_ e)) := by
  have M : Sep (fun _ => False) w0 w0 _ := Sep.nil _ w0
  have hrG : Ro (fun _ => False) w0 (gB b c g) := ⟨hG, fun x hx => ⟨by simp [blk] at hx; subst hx; exact (Array.getElem?_eq_some_iff.1 hG).1, id⟩⟩
  have hrC : Ro (fun _ => False) w0 (gC c g) := ⟨hC, fun x hx => ⟨by simp [blk] at hx; subst hx; exact (Array.getElem?_eq_some_iff.1 hC).1, id⟩⟩
  refine enter (vs := [_, _]) Try.func34 rfl rfl rfl ?_
  intro a F
  refine wp_seq ?_
  refine wp_region_l [.ind] ([0]) rfl ?_
  refine s_I F rfl rfl rfl rfl rfl rfl ?_; clear F a; intro a F
  refine t_endM M ?_; (clear M; try clear w); intro w M
  refine wp_seq ?_
  refine wp_region_l [.ind, .ind, .wr, .ind] ([0, 1, 2, 3]) rfl ?_
  refine s_I F rfl rfl rfl rfl rfl rfl ?_; clear F a; intro a F
  refine s_I F rfl rfl rfl rfl rfl rfl ?_; clear F a; intro a F
  refine s_cq F M rfl rfl rfl rfl rfl (rfl : _ = some [_, _]) cb_36_E1 (fun nd_ => c36 b c g W e _ (M.chg.ro hrG)) ?_; (clear F a M; try clear w); rintro v w rfl M a F
  refine s_I F rfl rfl rfl rfl rfl rfl ?_; clear F a; intro a F
  refine t_endM M ?_; (clear M; try clear w); intro w M
  refine wp_seq ?_
  replace F := F.keep [0, 1, 4, 5] rfl
  refine wp_region_l [.ind, .ind, .ind, .ind, .ind, .ind, .rd, .wr, .ind, .ind, .ind, .ind] ([0, 1, 2, 3, 4, 5, 6, 7, 8, 9, 10, 11]) rfl ?_
  refine s_I F rfl rfl rfl rfl rfl rfl ?_; clear F a; intro a F
  refine s_bin F rfl rfl rfl rfl rfl rfl rfl ?_; clear F a; intro a F
  refine s_I F rfl rfl rfl rfl rfl rfl ?_; clear F a; intro a F
  refine bsplit F 11 rfl ?_ ?_
  ·
    clear F; intro hc0 F
    try rw [hc0] at F
    replace hc0 := of_decide_eq_true hc0
    refine s_I F rfl rfl rfl rfl rfl rfl ?_; clear F a; intro a F
    refine s_I F rfl rfl rfl rfl rfl rfl ?_; clear F a; intro a F
    refine s_fa0 F rfl rfl rfl rfl fa_87_2_E1 rfl ?_; clear F a; intro a F
    refine s_ld F rfl rfl rfl rfl sc_85_E1 rfl (by exact old_cell M id hG (lit rfl)) ?_; clear F a; intro a F
    refine s_invQ F M rfl rfl rfl rfl rfl (meth_81_55_E1 _) (rfl : _ = some []) cb_55_E1 (fun nd_ => c55 c g _ (M.chg.ro hrC)) (fun _ w _ M => pend_nil) ?_; (clear F a M; try clear w); rintro v w rfl M a F
    refine s_I F rfl rfl rfl rfl rfl rfl ?_; clear F a; intro a F
    refine s_bin F rfl rfl rfl rfl rfl rfl rfl ?_; clear F a; intro a F
    refine s_I F rfl rfl rfl rfl rfl rfl ?_; clear F a; intro a F
    refine s_I F rfl rfl rfl rfl rfl rfl ?_; clear F a; intro a F
    refine t_endM M ?_; (clear M; try clear w); intro w M
    refine wp_ret ?_
    refine ret1 F rfl rfl ?_
    -- end 0
    refine ⟨_, rfl, ?_, M.chg⟩
    rw [Gt.open_eq]
    congr 1
    clear M F
    grind
  ·
    clear F; intro hc1 F
    try rw [hc1] at F
    replace hc1 := of_decide_eq_false hc1
    refine s_no F rfl rfl rfl rfl ?_; clear F a; intro a F
    refine s_no F rfl rfl rfl rfl ?_; clear F a; intro a F
    refine s_no F rfl rfl rfl rfl ?_; clear F a; intro a F
    refine s_no F rfl rfl rfl rfl ?_; clear F a; intro a F
    refine s_no F rfl rfl rfl rfl ?_; clear F a; intro a F
    refine s_no F rfl rfl rfl rfl ?_; clear F a; intro a F
    refine s_no F rfl rfl rfl rfl ?_; clear F a; intro a F
    refine s_I F rfl rfl rfl rfl rfl rfl ?_; clear F a; intro a F
    refine s_I F rfl rfl rfl rfl rfl rfl ?_; clear F a; intro a F
    refine t_endM M ?_; (clear M; try clear w); intro w M
    refine wp_ret ?_
    refine ret1 F rfl rfl ?_
    -- end 1
    refine ⟨_, rfl, ?_, M.chg⟩
    rw [Gt.open_eq]
    congr 1
    clear M F
    rw [decide_eq_false (by omega)]; done
set_option maxRecDepth 100000 in
set_option maxHeartbeats 400000 in
theorem c34n (e : Int) (w0 : World) : Cl Try.prog 34 #[.pointer none, .int .i64 e] w0 (RetQ w0 fun v => v = .bool false) := by
  have M : Sep (fun _ => False) w0 w0 _ := Sep.nil _ w0
  refine enter (vs := [_, _]) Try.func34 rfl rfl rfl ?_
  intro a F
  refine wp_seq ?_
  refine wp_region_l [.ind] ([0]) rfl ?_
  refine s_I F rfl rfl rfl rfl rfl rfl ?_; clear F a; intro a F
  refine t_endM M ?_; (clear M; try clear w); intro w M
  refine wp_seq ?_
  refine wp_region_l [.ind, .ind, .wr, .ind] ([0, 1, 2, 3]) rfl ?_
  refine s_I F rfl rfl rfl rfl rfl rfl ?_; clear F a; intro a F
  refine s_I F rfl rfl rfl rfl rfl rfl ?_; clear F a; intro a F
  refine s_cq F M rfl rfl rfl rfl rfl (rfl : _ = some [_, _]) cb_36_E1 (fun nd_ => c36n _ _) ?_; (clear F a M; try clear w); rintro v w rfl M a F
  refine s_I F rfl rfl rfl rfl rfl rfl ?_; clear F a; intro a F
  refine t_endM M ?_; (clear M; try clear w); intro w M
  refine wp_seq ?_
  replace F := F.keep [0, 1, 4, 5] rfl
  refine wp_region_l [.ind, .ind, .ind, .ind, .ind, .ind, .rd, .wr, .ind, .ind, .ind, .ind] ([0, 1, 2, 3, 4, 5, 6, 7, 8, 9, 10, 11]) rfl ?_
  refine s_I F rfl rfl rfl rfl rfl rfl ?_; clear F a; intro a F
  refine s_bin F rfl rfl rfl rfl rfl rfl rfl ?_; clear F a; intro a F
  replace F : Fr _ _ ((10, Value.bool false) :: _) := F
  refine s_I F rfl rfl rfl rfl rfl rfl ?_; clear F a; intro a F
  refine s_no F rfl rfl rfl rfl ?_; clear F a; intro a F
  refine s_no F rfl rfl rfl rfl ?_; clear F a; intro a F
  refine s_no F rfl rfl rfl rfl ?_; clear F a; intro a F
  refine s_no F rfl rfl rfl rfl ?_; clear F a; intro a F
  refine s_no F rfl rfl rfl rfl ?_; clear F a; intro a F
  refine s_no F rfl rfl rfl rfl ?_; clear F a; intro a F
  refine s_no F rfl rfl rfl rfl ?_; clear F a; intro a F
  refine s_I F rfl rfl rfl rfl rfl rfl ?_; clear F a; intro a F
  refine s_I F rfl rfl rfl rfl rfl rfl ?_; clear F a; intro a F
  refine t_endM M ?_; (clear M; try clear w); intro w M
  refine wp_ret ?_
  refine ret1 F rfl rfl ?_
  -- end 0
  exact ⟨_, rfl, rfl, M.chg⟩
set_option maxRecDepth 100000 in
set_option maxHeartbeats 400000 in
theorem c33 (b c : Nat) (g : Gt) (w0 : World) (hG : w0.heap[b]? = some (gO b c g)) (hC : w0.heap[c]? = some (cO g)) : Cl Try.prog 33 #[.pointer (some ⟨b, 0, none⟩)] w0 (RetQ w0 fun v => v = .int .i64 g.now) := by
  have M : Sep (fun _ => False) w0 w0 _ := Sep.nil _ w0
  have hrC : Ro (fun _ => False) w0 (gC c g) := ⟨hC, fun x hx => ⟨by simp [blk] at hx; subst hx; exact (Array.getElem?_eq_some_iff.1 hC).1, id⟩⟩
  refine enter (vs := [_]) Try.func33 rfl rfl rfl ?_
  intro a F
  refine wp_seq ?_
  refine wp_region_l [.ind] ([0]) rfl ?_
  refine s_I F rfl rfl rfl rfl rfl rfl ?_; clear F a; intro a F
  refine t_endM M ?_; (clear M; try clear w); intro w M
  refine wp_seq ?_
  refine wp_seq ?_
  refine wp_region_l [.ind, .ind] ([0, 1]) rfl ?_
  refine s_I F rfl rfl rfl rfl rfl rfl ?_; clear F a; intro a F
  refine s_pn F rfl rfl rfl rfl pt_53_E1 rfl ?_; clear F a; intro a F
  refine t_endM M ?_; (clear M; try clear w); intro w M
  refine c_f F rfl ?_
  refine wp_skip ?_
  refine wp_seq ?_
  replace F := F.keep [0, 2] rfl
  refine wp_region_l [.ind, .ind, .ind, .rd, .wr, .ind] ([0, 1, 2, 3, 4, 5]) rfl ?_
  refine s_I F rfl rfl rfl rfl rfl rfl ?_; clear F a; intro a F
  refine s_I F rfl rfl rfl rfl rfl rfl ?_; clear F a; intro a F
  refine s_fa0 F rfl rfl rfl rfl fa_87_2_E1 rfl ?_; clear F a; intro a F
  refine s_ld F rfl rfl rfl rfl sc_85_E1 rfl (by exact old_cell M id hG (lit rfl)) ?_; clear F a; intro a F
  refine s_invQ F M rfl rfl rfl rfl rfl (meth_81_56_E1 _) (rfl : _ = some []) cb_56_E1 (fun nd_ => c56 c g _ (M.chg.ro hrC)) (fun _ w _ M => pend_nil) ?_; (clear F a M; try clear w); rintro v w rfl M a F
  refine s_I F rfl rfl rfl rfl rfl rfl ?_; clear F a; intro a F
  refine t_endM M ?_; (clear M; try clear w); intro w M
  refine wp_ret ?_
  refine ret1 F rfl rfl ?_
  -- end 0
  exact ⟨_, rfl, rfl, M.chg⟩
set_option maxRecDepth 100000 in
set_option maxHeartbeats 400000 in
theorem c33n (w0 : World) : Cl Try.prog 33 #[.pointer none] w0 (RetQ w0 fun v => v = .int .i64 0) := by
  have M : Sep (fun _ => False) w0 w0 _ := Sep.nil _ w0
  refine enter (vs := [_]) Try.func33 rfl rfl rfl ?_
  intro a F
  refine wp_seq ?_
  refine wp_region_l [.ind] ([0]) rfl ?_
  refine s_I F rfl rfl rfl rfl rfl rfl ?_; clear F a; intro a F
  refine t_endM M ?_; (clear M; try clear w); intro w M
  refine wp_seq ?_
  refine wp_seq ?_
  refine wp_region_l [.ind, .ind] ([0, 1]) rfl ?_
  refine s_I F rfl rfl rfl rfl rfl rfl ?_; clear F a; intro a F
  refine s_pn F rfl rfl rfl rfl pt_53_E1 rfl ?_; clear F a; intro a F
  refine t_endM M ?_; (clear M; try clear w); intro w M
  refine c_t F rfl ?_
  refine wp_seq ?_
  replace F := F.keep [0, 2] rfl
  refine wp_region_l [.ind] ([0]) rfl ?_
  refine s_I F rfl rfl rfl rfl rfl rfl ?_; clear F a; intro a F
  refine t_endM M ?_; (clear M; try clear w); intro w M
  refine wp_ret ?_
  refine ret1 F rfl rfl ?_
  -- end 0
  exact ⟨_, rfl, rfl, M.chg⟩
set_option maxRecDepth 100000 in
set_option maxHeartbeats 400000 in
theorem c28 (n e : Int) (w0 : World) : Cl Try.prog 28 #[.int .i64 n, .int .i64 e] w0 (RetQ w0 fun v => v = gV (Gt.new n e)) := by
  have M : Sep (fun _ => False) w0 w0 _ := Sep.nil _ w0
  refine enter (vs := [_, _]) Try.func28 rfl rfl rfl ?_
  intro a F
  refine wp_seq ?_
  refine wp_region_l [.wr] ([0]) rfl ?_
  refine s_alc F M rfl rfl rfl rfl zr_56_E1 rfl ?_; (clear F a M; try clear w); intro b4 w M a F
  refine t_endM M ?_; (clear M; try clear w); intro w M
  refine wp_seq ?_
  refine wp_region_l [.ind, .ind, .ind, .ind, .ind, .ind, .ind, .wr] ([0, 1, 2, 3, 4, 5, 6, 7]) rfl ?_
  refine s_I F rfl rfl rfl rfl rfl rfl ?_; clear F a; intro a F
  refine s_max F rfl rfl rfl rfl rfl rfl ?_; clear F a; intro a F
  refine s_min F rfl rfl rfl rfl rfl rfl ?_; clear F a; intro a F
  refine s_I F rfl rfl rfl rfl rfl rfl ?_; clear F a; intro a F
  refine s_max F rfl rfl rfl rfl rfl rfl ?_; clear F a; intro a F
  refine s_min F rfl rfl rfl rfl rfl rfl ?_; clear F a; intro a F
  refine s_bld F rfl rfl rfl rfl (parts3 F rfl rfl rfl) (bl_56_0_1_3_E1 _ _ _) ?_; clear F a; intro a F
  refine s_stW F M rfl rfl rfl sz_56_E1 rfl rfl rfl rfl rfl ?_; (clear M; try clear w); intro w M
  refine t_endM M ?_; (clear M; try clear w); intro w M
  refine wp_ret ?_
  refine rt1 F rfl (by exact rv_a F rfl ag_56_E1 rfl (cells_whole M.h0)) ?_
  -- end 0
  exact ⟨_, rfl, rfl, M.chg⟩
set_option maxRecDepth 100000 in
set_option maxHeartbeats 400000 in
theorem c30 (g : Gt) (w0 : World) : Cl Try.prog 30 #[gV g] w0 (RetQ w0 fun v => v = gV g.crash) := by
  have M : Sep (fun _ => False) w0 w0 _ := Sep.nil _ w0
  refine enter (vs := [_]) Try.func30 rfl rfl rfl ?_
  intro a F
  refine wp_seq ?_
  refine wp_region_l [.wr, .wr] ([0, 1]) rfl ?_
  refine s_bxA F M rfl rfl rfl rfl rfl ?_; (clear F a M; try clear w); intro b1 w M a F
  refine s_alc F M rfl rfl rfl rfl zr_56_E1 rfl ?_; (clear F a M; try clear w); intro b2 w M a F
  refine t_endM M ?_; (clear M; try clear w); intro w M
  refine wp_seq ?_
  refine wp_region_l [.ind, .wr] ([0, 1]) rfl ?_
  refine s_fa0 F rfl rfl rfl rfl fa_56_2_E1 rfl ?_; clear F a; intro a F
  refine s_st F M.f1 rfl rfl rfl sz_3_E1 rfl rfl rfl (by exact Nat.le_of_ble_eq_true rfl) ?_; (clear M; try clear w); intro w M
  refine t_endM M ?_; (clear M; try clear w); intro w M
  refine wp_seq ?_
  replace F := F.keep [0, 1, 2] rfl
  refine wp_region_l [.rd, .wr] ([0, 1]) rfl ?_
  refine s_lda F rfl rfl rfl rfl ag_56_E1 rfl rfl (cells_whole M.h0) ?_; clear F a; intro a F
  refine s_stW F M.f1 rfl rfl rfl sz_56_E1 rfl rfl rfl rfl rfl ?_; (clear M; try clear w); intro w M
  refine t_endM M ?_; (clear M; try clear w); intro w M
  refine wp_ret ?_
  refine rt1 F rfl (by exact rv_a F rfl ag_56_E1 rfl (cells_whole M.h0)) ?_
  -- end 0
  exact ⟨_, rfl, rfl, M.chg⟩
set_option maxRecDepth 100000 in
set_option maxHeartbeats 400000 in
theorem c32 (g : Gt) (n : Int) (w0 : World) : Cl Try.prog 32 #[gV g, .int .i64 n] w0 (RetQ w0 fun v => v = gV (g.tick n)) := by
  have M : Sep (fun _ => False) w0 w0 _ := Sep.nil _ w0
  refine enter (vs := [_, _]) Try.func32 rfl rfl rfl ?_
  intro a F
  refine wp_seq ?_
  refine wp_region_l [.wr, .wr] ([0, 1]) rfl ?_
  refine s_bxA F M rfl rfl rfl rfl rfl ?_; (clear F a M; try clear w); intro b2 w M a F
  refine s_alc F M rfl rfl rfl rfl zr_56_E1 rfl ?_; (clear F a M; try clear w); intro b4 w M a F
  refine t_endM M ?_; (clear M; try clear w); intro w M
  refine wp_seq ?_
  refine wp_region_l [.ind, .ind, .ind, .ind, .wr] ([0, 1, 2, 3, 4]) rfl ?_
  refine s_I F rfl rfl rfl rfl rfl rfl ?_; clear F a; intro a F
  refine s_max F rfl rfl rfl rfl rfl rfl ?_; clear F a; intro a F
  refine s_min F rfl rfl rfl rfl rfl rfl ?_; clear F a; intro a F
  refine s_fa0 F rfl rfl rfl rfl fa_56_2_E1 rfl ?_; clear F a; intro a F
  refine s_st F M.f1 rfl rfl rfl sz_3_E1 rfl rfl rfl (by exact Nat.le_of_ble_eq_true rfl) ?_; (clear M; try clear w); intro w M
  refine t_endM M ?_; (clear M; try clear w); intro w M
  refine wp_seq ?_
  replace F := F.keep [0, 1, 2, 4] rfl
  refine wp_region_l [.ind, .rd, .ind, .rd, .ind, .ind, .wr] ([0, 1, 2, 3, 4, 5, 6]) rfl ?_
  refine s_fa0 F rfl rfl rfl rfl fa_56_3_E1 rfl ?_; clear F a; intro a F
  refine s_ld F rfl rfl rfl rfl sc_3_E1 rfl (by exact cell_of_blk M.h0 (lit rfl)) ?_; clear F a; intro a F
  refine s_fa0 F rfl rfl rfl rfl fa_56_2_E1 rfl ?_; clear F a; intro a F
  refine s_ld F rfl rfl rfl rfl sc_3_E1 rfl (by exact cell_of_blk M.h0 (lit rfl)) ?_; clear F a; intro a F
  refine s_max F rfl rfl rfl rfl rfl rfl ?_; clear F a; intro a F
  refine s_fa0 F rfl rfl rfl rfl fa_56_3_E1 rfl ?_; clear F a; intro a F
  refine s_st F M rfl rfl rfl sz_3_E1 rfl rfl rfl (by exact Nat.le_of_ble_eq_true rfl) ?_; (clear M; try clear w); intro w M
  refine t_endM M ?_; (clear M; try clear w); intro w M
  refine wp_seq ?_
  replace F := F.keep [0, 1, 2, 4] rfl
  refine wp_region_l [.rd, .wr] ([0, 1]) rfl ?_
  refine s_lda F rfl rfl rfl rfl ag_56_E1 rfl rfl (cells_whole M.h0) ?_; clear F a; intro a F
  refine s_stW F M.f1 rfl rfl rfl sz_56_E1 rfl rfl rfl rfl rfl ?_; (clear M; try clear w); intro w M
  refine t_endM M ?_; (clear M; try clear w); intro w M
  refine wp_ret ?_
  refine rt1 F rfl (by exact rv_a F rfl ag_56_E1 rfl (cells_whole M.h0)) ?_
  -- end 0
  exact ⟨_, rfl, rfl, M.chg⟩
set_option maxRecDepth 100000 in
set_option maxHeartbeats 400000 in
theorem c37 (g : Gt) (W : g.Wf) (e : Int) (w0 : World) : Cl Try.prog 37 #[gV g, .int .i64 e] w0 (RetQ w0 fun v => v = .int .i64 (g.time e)) := by
  have M : Sep (fun _ => False) w0 w0 _ := Sep.nil _ w0
  refine enter (vs := [_, _]) Try.func37 rfl rfl rfl ?_
  intro a F
  refine wp_seq ?_
  refine wp_region_l [.wr, .ind] ([0, 1]) rfl ?_
  refine s_bxA F M rfl rfl rfl rfl rfl ?_; (clear F a M; try clear w); intro b2 w M a F
  refine s_I F rfl rfl rfl rfl rfl rfl ?_; clear F a; intro a F
  refine t_endM M ?_; (clear M; try clear w); intro w M
  refine wp_seq ?_
  refine wp_seq ?_
  refine wp_region_l [.ind, .ind, .ind, .ind, .ind, .ind] ([0, 1, 2, 3, 4, 5]) rfl ?_
  refine s_I F rfl rfl rfl rfl rfl rfl ?_; clear F a; intro a F
  refine s_bin F rfl rfl rfl rfl rfl rfl rfl ?_; clear F a; intro a F
  refine s_I F rfl rfl rfl rfl rfl rfl ?_; clear F a; intro a F
  refine bsplit F 7 rfl ?_ ?_
  ·
    clear F; intro hc0 F
    try rw [hc0] at F
    replace hc0 := of_decide_eq_true hc0
    refine s_no F rfl rfl rfl rfl ?_; clear F a; intro a F
    refine s_no F rfl rfl rfl rfl ?_; clear F a; intro a F
    refine s_I F rfl rfl rfl rfl rfl rfl ?_; clear F a; intro a F
    refine t_endM M ?_; (clear M; try clear w); intro w M
    refine c_t F rfl ?_
    refine wp_seq ?_
    replace F := F.keep [0, 1, 2, 4] rfl
    refine wp_region_l [.ind] ([0]) rfl ?_
    refine s_I F rfl rfl rfl rfl rfl rfl ?_; clear F a; intro a F
    refine t_endM M ?_; (clear M; try clear w); intro w M
    refine wp_ret ?_
    refine ret1 F rfl rfl ?_
    -- end 0
    refine ⟨_, rfl, ?_, M.chg⟩
    unfold Gt.time
    rw [if_pos (by omega)]
  ·
    clear F; intro hc1 F
    try rw [hc1] at F
    replace hc1 := of_decide_eq_false hc1
    refine s_I F rfl rfl rfl rfl rfl rfl ?_; clear F a; intro a F
    refine s_bin F rfl rfl rfl rfl rfl rfl rfl ?_; clear F a; intro a F
    refine s_I F rfl rfl rfl rfl rfl rfl ?_; clear F a; intro a F
    refine t_endM M ?_; (clear M; try clear w); intro w M
    refine c_if F rfl ?_ ?_
    ·
      clear F; intro hc2 F
      try rw [hc2] at F
      replace hc2 := of_decide_eq_true hc2
      refine wp_seq ?_
      replace F := F.keep [0, 1, 2, 4] rfl
      refine wp_region_l [.ind] ([0]) rfl ?_
      refine s_I F rfl rfl rfl rfl rfl rfl ?_; clear F a; intro a F
      refine t_endM M ?_; (clear M; try clear w); intro w M
      refine wp_ret ?_
      refine ret1 F rfl rfl ?_
      -- end 1
      refine ⟨_, rfl, ?_, M.chg⟩
      unfold Gt.time
      rw [if_pos (by omega)]
    ·
      clear F; intro hc3 F
      try rw [hc3] at F
      replace hc3 := of_decide_eq_false hc3
      refine wp_skip ?_
      refine wp_seq ?_
      have hmul := W.mul (e := e) (by omega) (by omega)
      have hb0 := W.b0
      have hb1 := W.b1
      replace F := F.keep [0, 1, 2, 4] rfl
      refine wp_region_l [.ind, .rd, .ind, .ind, .rd, .ind, .ind, .ind] ([0, 1, 2, 3, 4, 5, 6, 7]) rfl ?_
      refine s_fa0 F rfl rfl rfl rfl fa_56_0_E1 rfl ?_; clear F a; intro a F
      refine s_ld F rfl rfl rfl rfl sc_3_E1 rfl (by exact cell_of_blk M.h0 (lit rfl)) ?_; clear F a; intro a F
      refine s_I F rfl rfl rfl rfl rfl rfl ?_; clear F a; intro a F
      refine s_fa0 F rfl rfl rfl rfl fa_56_1_E1 rfl ?_; clear F a; intro a F
      refine s_ld F rfl rfl rfl rfl sc_3_E1 rfl (by exact cell_of_blk M.h0 (lit rfl)) ?_; clear F a; intro a F
      refine s_mul F rfl rfl rfl rfl rfl rfl (by unfold In64; omega) ?_; clear F a; intro a F
      refine s_add F rfl rfl rfl rfl rfl rfl (by unfold In64; omega) ?_; clear F a; intro a F
      refine s_I F rfl rfl rfl rfl rfl rfl ?_; clear F a; intro a F
      refine t_endM M ?_; (clear M; try clear w); intro w M
      refine wp_ret ?_
      refine ret1 F rfl rfl ?_
      -- end 2
      refine ⟨_, rfl, ?_, M.chg⟩
      unfold Gt.time
      rw [if_neg (by omega)]
set_option maxRecDepth 100000 in
set_option maxHeartbeats 400000 in
theorem c35 (g : Gt) (W : g.Wf) (e : Int) (w0 : World) : Cl Try.prog 35 #[gV g, .int .i64 e] w0 (RetQ w0 fun v => v = .bool (g.open_ e)) := by
  have M : Sep (fun _ => False) w0 w0 _ := Sep.nil _ w0
  refine enter (vs := [_, _]) Try.func35 rfl rfl rfl ?_
  intro a F
  refine wp_seq ?_
  refine wp_region_l [.wr, .ind] ([0, 1]) rfl ?_
  refine s_bxA F M rfl rfl rfl rfl rfl ?_; (clear F a M; try clear w); intro b2 w M a F
  refine s_I F rfl rfl rfl rfl rfl rfl ?_; clear F a; intro a F
  refine t_endM M ?_; (clear M; try clear w); intro w M
  refine wp_seq ?_
  refine wp_region_l [.rd, .ind, .wr, .ind] ([0, 1, 2, 3]) rfl ?_
  refine s_lda F rfl rfl rfl rfl ag_56_E1 rfl rfl (cells_whole M.h0) ?_; clear F a; intro a F
  refine s_I F rfl rfl rfl rfl rfl rfl ?_; clear F a; intro a F
  refine s_cq F M rfl rfl rfl rfl rfl (rfl : _ = some [_, _]) cb_37_E1 (fun nd_ => c37 g W e _) ?_; (clear F a M; try clear w); rintro v w rfl M a F
  refine s_I F rfl rfl rfl rfl rfl rfl ?_; clear F a; intro a F
  refine t_endM M ?_; (clear M; try clear w); intro w M
  refine wp_seq ?_
  replace F := F.keep [0, 1, 2, 4, 5] rfl
  refine wp_region_l [.ind, .ind, .ind, .ind, .rd, .ind, .ind, .ind, .ind] ([0, 1, 2, 3, 4, 5, 6, 7, 8]) rfl ?_
  refine s_I F rfl rfl rfl rfl rfl rfl ?_; clear F a; intro a F
  refine s_bin F rfl rfl rfl rfl rfl rfl rfl ?_; clear F a; intro a F
  refine s_I F rfl rfl rfl rfl rfl rfl ?_; clear F a; intro a F
  refine bsplit F 11 rfl ?_ ?_
  ·
    clear F; intro hc0 F
    try rw [hc0] at F
    replace hc0 := of_decide_eq_true hc0
    refine s_fa0 F rfl rfl rfl rfl fa_56_3_E1 rfl ?_; clear F a; intro a F
    refine s_ld F rfl rfl rfl rfl sc_3_E1 rfl (by exact cell_of_blk M.h0 (lit rfl)) ?_; clear F a; intro a F
    refine s_I F rfl rfl rfl rfl rfl rfl ?_; clear F a; intro a F
    refine s_bin F rfl rfl rfl rfl rfl rfl rfl ?_; clear F a; intro a F
    refine s_I F rfl rfl rfl rfl rfl rfl ?_; clear F a; intro a F
    refine s_I F rfl rfl rfl rfl rfl rfl ?_; clear F a; intro a F
    refine t_endM M ?_; (clear M; try clear w); intro w M
    refine wp_ret ?_
    refine ret1 F rfl rfl ?_
    -- end 0
    refine ⟨_, rfl, ?_, M.chg⟩
    rw [Gt.open_eq]
    congr 1
    clear M F
    grind
  ·
    clear F; intro hc1 F
    try rw [hc1] at F
    replace hc1 := of_decide_eq_false hc1
    refine s_no F rfl rfl rfl rfl ?_; clear F a; intro a F
    refine s_no F rfl rfl rfl rfl ?_; clear F a; intro a F
    refine s_no F rfl rfl rfl rfl ?_; clear F a; intro a F
    refine s_no F rfl rfl rfl rfl ?_; clear F a; intro a F
    refine s_I F rfl rfl rfl rfl rfl rfl ?_; clear F a; intro a F
    refine s_I F rfl rfl rfl rfl rfl rfl ?_; clear F a; intro a F
    refine t_endM M ?_; (clear M; try clear w); intro w M
    refine wp_ret ?_
    refine ret1 F rfl rfl ?_
    -- end 1
    refine ⟨_, rfl, ?_, M.chg⟩
    rw [Gt.open_eq]
    congr 1
    clear M F
    rw [decide_eq_false (by omega)]; done
end Go.Proofs.Ytmikcmcgfehgfaa
