/- V1 of the seat. -/
import Derived.Test.YtboibdmflblphaaFw16
import Derived.Test.YtboibdmflblphaaFw11
import Derived.Test.YtboibdmflblphaaVoteM
import Derived.Test.YtboibdmflblphaaProg
namespace Go.Proofs.Ytboibdmflblphaa
open Go Fw
theorem fa_32_0_V1 : FA Try.prog 32 0 0 := fun _ _ _ => by kernel_rfl
theorem sc_3_V1 : scalB Try.prog 3 = true := by kernel_rfl
theorem fa_32_1_V1 : FA Try.prog 32 1 1 := fun _ _ _ => by kernel_rfl
theorem fa_130_0_V1 : FA Try.prog 130 0 0 := fun _ _ _ => by kernel_rfl
theorem fa_32_2_V1 : FA Try.prog 32 2 2 := fun _ _ _ => by kernel_rfl
theorem fa_32_4_V1 : FA Try.prog 32 4 4 := fun _ _ _ => by kernel_rfl
theorem sc_9_V1 : scalB Try.prog 9 = true := by kernel_rfl
theorem st_9_V1 : strB Try.prog 9 = true := by kernel_rfl
theorem pt_25_V1 : ptrB Try.prog 25 = true := by kernel_rfl
theorem fa_130_2_V1 : FA Try.prog 130 2 2 := fun _ _ _ => by kernel_rfl
theorem sc_22_V1 : scalB Try.prog 22 = true := by kernel_rfl
theorem sl_22_V1 : slcB Try.prog 22 = some (32, 5) := by kernel_rfl
theorem ag_32_V1 : aggB Try.prog 32 = some 5 := by kernel_rfl
theorem zr_32_V1 : zeroB Try.prog 32 = some (.agg #[.int .i64 0, .int .i64 0, .int .i64 0, .int .i64 0, .string { data := #[] }]) := by kernel_rfl
theorem sz_32_V1 : sizeB Try.prog 32 = some 5 := by kernel_rfl
theorem cb_79_V1 : callB Try.prog 79 = true := by kernel_rfl
theorem fa_130_1_V1 : FA Try.prog 130 1 1 := fun _ _ _ => by kernel_rfl
theorem cb_28_V1 : callB Try.prog 28 = true := by kernel_rfl
theorem cb_77_V1 : callB Try.prog 77 = true := by kernel_rfl
open VoteM
theorem mixed : Try.prog.follows .mixedOrders = true := by kernel_rfl

def encW (w : Wrd) : List Value := [.int .i64 w.kind, .int .i64 w.frm, .int .i64 w.round, .int .i64 w.valid, .string w.value]
abbrev wrdV (w : Wrd) : Value := .agg #[.int .i64 w.kind, .int .i64 w.frm, .int .i64 w.round, .int .i64 w.valid, .string w.value]
def vO (n t : Int) (v : Value) : Obj := .cells #[.int .i64 n, .int .i64 t, v] 130 (0, 0)
abbrev refV (n t : Int) (v : Value) : Value := .agg #[.int .i64 n, .int .i64 t, v]
abbrev wsR (v : Value) (L : List Wrd) : Res := slR v L.length 32 5 (L.flatMap encW)
theorem ro_blk {w0 : World} {b : Nat} {o : Obj} (h : w0.heap[b]? = some o) : Ro (fun _ => False) w0 (blk b o) := ⟨h, fun x hx => ⟨by simp [blk] at hx; subst hx; exact (Array.getElem?_eq_some_iff.1 h).1, id⟩⟩
/-- Small numbers as bits of a float. -/
def fb : Nat → Nat
 | 0 => 0
 | 1 => 0x3ff0000000000000
 | 2 => 0x4000000000000000
 | 3 => 0x4008000000000000
 | 4 => 0x4010000000000000
 | 5 => 0x4014000000000000
 | 6 => 0x4018000000000000
 | 7 => 0x401c000000000000
 | _ => 0
theorem cadd1 {p q : Nat} (hp : p ≤ 6) (hq : q ≤ 7) (w : World) : (Go.binOp .add 132 (.complex .f64 (fb p) (fb q)) (.complex .f64 4607182418800017408 0)).run Try.prog w = .ok (.complex .f64 (fb (p + 1)) (fb q)) w := by
 have h1 : p = 0 ∨ p = 1 ∨ p = 2 ∨ p = 3 ∨ p = 4 ∨ p = 5 ∨ p = 6 := by omega
 have h2 : q = 0 ∨ q = 1 ∨ q = 2 ∨ q = 3 ∨ q = 4 ∨ q = 5 ∨ q = 6 ∨ q = 7 := by omega
 clear hp hq
 rcases h1 with rfl | rfl | rfl | rfl | rfl | rfl | rfl <;> rcases h2 with rfl | rfl | rfl | rfl | rfl | rfl | rfl | rfl <;> (show _ = _; kernel_rfl)
theorem cadd2 {p q : Nat} (hp : p ≤ 7) (hq : q ≤ 6) (w : World) : (Go.binOp .add 132 (.complex .f64 (fb p) (fb q)) (.complex .f64 0 4607182418800017408)).run Try.prog w = .ok (.complex .f64 (fb p) (fb (q + 1))) w := by
 have h1 : p = 0 ∨ p = 1 ∨ p = 2 ∨ p = 3 ∨ p = 4 ∨ p = 5 ∨ p = 6 ∨ p = 7 := by omega
 have h2 : q = 0 ∨ q = 1 ∨ q = 2 ∨ q = 3 ∨ q = 4 ∨ q = 5 ∨ q = 6 := by omega
 clear hp hq
 rcases h1 with rfl | rfl | rfl | rfl | rfl | rfl | rfl | rfl <;> rcases h2 with rfl | rfl | rfl | rfl | rfl | rfl | rfl <;> (show _ = _; kernel_rfl)
theorem fcv {p : Nat} (hp : p ≤ 7) (w : World) : (Go.convert 131 3 (.float .f64 (fb p))).run Try.prog w = .ok (.int .i64 (p : Nat)) w := by
 have h1 : p = 0 ∨ p = 1 ∨ p = 2 ∨ p = 3 ∨ p = 4 ∨ p = 5 ∨ p = 6 ∨ p = 7 := by omega
 clear hp
 rcases h1 with rfl | rfl | rfl | rfl | rfl | rfl | rfl | rfl <;> (show _ = _; kernel_rfl)
theorem any_take (L : List Wrd) (i : Nat) (k r : Int) : anyV (L.take i) k r ≤ anyV L k r := (List.take_sublist i L).countP_le
theorem most_hit {n t : Int} {L : List Wrd} {k r : Int} {i : Nat} {e : Wrd} (h : ∀ w ∈ L.take i, hasQ n t L k r w = false) (he : L[i]? = some e) (hq : hasQ n t L k r e = true) : mostV n t L k r = some e.value := by
 have e1 : L = L.take i ++ e :: L.drop (i + 1) := by
   have hlt : i < L.length := (List.getElem?_eq_some_iff.1 he).1
   have := List.take_append_drop i L
   rw [List.drop_eq_getElem_cons hlt, (List.getElem?_eq_some_iff.1 he).2] at this
   exact this.symm
 unfold mostV
 have : L.find? (hasQ n t L k r) = some e := by
   rw [List.find?_eq_some_iff_append]
   refine ⟨hq, L.take i, L.drop (i + 1), e1, fun a ha => by rw [h a ha]; rfl⟩
 rw [this]
 rfl
theorem most_miss {n t : Int} {L : List Wrd} {k r : Int} (h : ∀ w ∈ L, hasQ n t L k r w = false) : mostV n t L k r = none := by
 unfold mostV
 rw [List.find?_eq_none.2 (fun w hw => by rw [h w hw]; simp)]
 rfl
/-- Who has a vote in a round; how many have. -/
def whoF (P : List Wrd) (j : Nat) : Value := .bool (votedV P ((j / 8 : Nat) : Int) ((j % 8 : Nat) : Int))
def manyF (n : Int) (P : List Wrd) (j : Nat) : Value := .int .i64 (whoV n P (j : Int) : Nat)
theorem zr135 : zeroB Try.prog 135 = some (.agg (cellsF 512 (whoF []))) := by kernel_rfl
theorem who_nil (n r : Int) : whoV n [] r = 0 := by
 unfold whoV
 rw [List.countP_eq_zero]
 intro i _
 simp [votedV]
theorem manyF_nil (n : Int) : manyF n [] = fun _ => .int .i64 0 := by
 funext j
 simp [manyF, who_nil]
theorem zr136 : zeroB Try.prog 136 = some (.agg (cellsF 64 fun _ => .int .i64 0)) := by kernel_rfl
theorem whoF_at {P : List Wrd} {r f : Int} (h0 : 0 ≤ r) (h1 : 0 ≤ f) (h2 : f < 8) : whoF P (0 + r.toNat * 8 + f.toNat * 1) = .bool (votedV P r f) := by
 unfold whoF
 rw [show (0 + r.toNat * 8 + f.toNat * 1) / 8 = r.toNat by omega, show (0 + r.toNat * 8 + f.toNat * 1) % 8 = f.toNat by omega, Int.toNat_of_nonneg h0, Int.toNat_of_nonneg h1]
theorem manyF_at {n : Int} {P : List Wrd} {r : Int} (h0 : 0 ≤ r) : manyF n P (0 + r.toNat * 1) = .int .i64 (whoV n P r : Nat) := by
 unfold manyF
 rw [show 0 + r.toNat * 1 = r.toNat by omega, Int.toNat_of_nonneg h0]
theorem whoF_new {P : List Wrd} {w : Wrd} (h0 : 0 ≤ w.round) (h1 : 0 ≤ w.frm) (h2 : w.frm < 8) : upd (whoF P) (0 + w.round.toNat * 8 + w.frm.toNat * 1) (.bool true) = whoF (P ++ [w]) := by
 funext j
 unfold upd whoF
 rw [voted_snoc]
 split
 · rename_i e
   subst e
   have : w.round = (((0 + w.round.toNat * 8 + w.frm.toNat * 1) / 8 : Nat) : Int) ∧ w.frm = (((0 + w.round.toNat * 8 + w.frm.toNat * 1) % 8 : Nat) : Int) := by omega
   rw [decide_eq_true this, Bool.or_true]
 · have : ¬ (w.round = ((j / 8 : Nat) : Int) ∧ w.frm = ((j % 8 : Nat) : Int)) := by omega
   rw [decide_eq_false this, Bool.or_false]
theorem manyF_new {n : Int} {P : List Wrd} {w : Wrd} (h0 : 0 ≤ w.round) (h : votedV P w.round w.frm = false) (h1 : 1 ≤ w.frm) (h2 : w.frm ≤ n) : upd (manyF n P) (0 + w.round.toNat * 1) (.int .i64 ((whoV n P w.round : Nat) + 1)) = manyF n (P ++ [w]) := by
 funext j
 unfold upd manyF
 split
 · rename_i e
   subst e
   rw [show ((0 + w.round.toNat * 1 : Nat) : Int) = w.round by omega, who_new h h1 h2]
   rfl
 · rw [who_other (by omega)]
theorem whoF_old {P : List Wrd} {w : Wrd} (h : votedV P w.round w.frm = true) : whoF P = whoF (P ++ [w]) := by
 funext j
 unfold whoF
 rw [voted_snoc]
 by_cases e : w.round = ((j / 8 : Nat) : Int) ∧ w.frm = ((j % 8 : Nat) : Int)
 · rw [← e.1, ← e.2, h]; simp
 · rw [decide_eq_false e, Bool.or_false]
theorem manyF_old {n : Int} {P : List Wrd} {w : Wrd} (h : votedV P w.round w.frm = true) : manyF n P = manyF n (P ++ [w]) := by
 funext j
 unfold manyF
 rw [who_old h]
theorem ahead_low {n t : Int} {L : List Wrd} {round : Int} : ∀ (k : Nat), (k : Int) ≤ round + 1 → aheadF n t L round k = -1
 | 0, _ => rfl
 | k + 1, h => by
   simp only [aheadF]
   rw [if_neg (by omega), ahead_low k (by omega)]

set_option maxRecDepth 100000 in
set_option maxHeartbeats 400000 in
theorem c34 (n t : Int) (w0 : World) : Cl Try.prog 34 #[.int .i64 n, .int .i64 t] w0 (RetQ w0 fun v => v = .int .i64 (quorum n t)) := by
 have M : Sep (fun _ => False) w0 w0 _ := Sep.nil _ w0
 refine enter (vs := [_, _]) Try.func34 rfl rfl rfl ?_
 intro a F
 refine wp_seq ?_
 refine wp_region_l [.ind] ([0]) rfl ?_
 refine s_I F rfl rfl rfl rfl rfl rfl ?_; clear F a; intro a F
 refine t_endM M ?_; (clear M; try clear w); intro w M
 refine wp_seq ?_
 refine wp_seq ?_
 refine wp_region_l [.ind, .ind, .ind, .ind, .ind, .ind, .ind, .ind, .ind, .ind, .ind, .ind, .ind, .ind, .ind, .ind, .ind] ([0, 1, 2, 3, 4, 5, 6, 7, 8, 9, 10, 11, 12, 13, 14, 15, 16]) rfl ?_
 refine s_rn 3 F rfl rfl ?_; clear F a; intro a F
 refine bsplit F 7 rfl ?_ ?_
 clear F; intro hc0 F
 try rw [hc0] at F
 replace hc0 := of_decide_eq_true hc0
 refine s_rn 14 F rfl rfl ?_; clear F a; intro a F
 refine t_endM M ?_; (clear M; try clear w); intro w M
 refine c_t F rfl ?_
 refine wp_seq ?_
 replace F := F.keep [0, 1, 4] rfl
 refine wp_region_l [.ind] ([0]) rfl ?_
 refine s_I F rfl rfl rfl rfl rfl rfl ?_; clear F a; intro a F
 refine t_endM M ?_; (clear M; try clear w); intro w M
 refine wp_ret ?_
 refine ret1 F rfl rfl ?_
 refine ⟨_, rfl, ?_, M.chg⟩
 unfold quorum
 rw [if_pos (by omega)]
 clear F; intro hc1 F
 try rw [hc1] at F
 replace hc1 := of_decide_eq_false hc1
 refine s_rn 4 F rfl rfl ?_; clear F a; intro a F
 refine bsplit F 11 rfl ?_ ?_
 clear F; intro hc2 F
 try rw [hc2] at F
 replace hc2 := of_decide_eq_true hc2
 refine s_rn 10 F rfl rfl ?_; clear F a; intro a F
 refine t_endM M ?_; (clear M; try clear w); intro w M
 refine c_t F rfl ?_
 refine wp_seq ?_
 replace F := F.keep [0, 1, 4] rfl
 refine wp_region_l [.ind] ([0]) rfl ?_
 refine s_I F rfl rfl rfl rfl rfl rfl ?_; clear F a; intro a F
 refine t_endM M ?_; (clear M; try clear w); intro w M
 refine wp_ret ?_
 refine ret1 F rfl rfl ?_
 refine ⟨_, rfl, ?_, M.chg⟩
 unfold quorum
 rw [if_pos (by omega)]
 clear F; intro hc3 F
 try rw [hc3] at F
 replace hc3 := of_decide_eq_false hc3
 refine s_rn 2 F rfl rfl ?_; clear F a; intro a F
 refine s_mul F rfl rfl rfl rfl rfl rfl (by unfold In64; omega) ?_; clear F a; intro a F
 refine s_add F rfl rfl rfl rfl rfl rfl (by unfold In64; omega) ?_; clear F a; intro a F
 refine s_rn 3 F rfl rfl ?_; clear F a; intro a F
 refine bsplit F 18 rfl ?_ ?_
 clear F; intro hc4 F
 try rw [hc4] at F
 replace hc4 := of_decide_eq_true hc4
 refine s_rn 3 F rfl rfl ?_; clear F a; intro a F
 refine t_endM M ?_; (clear M; try clear w); intro w M
 refine c_t F rfl ?_
 refine wp_seq ?_
 replace F := F.keep [0, 1, 4] rfl
 refine wp_region_l [.ind] ([0]) rfl ?_
 refine s_I F rfl rfl rfl rfl rfl rfl ?_; clear F a; intro a F
 refine t_endM M ?_; (clear M; try clear w); intro w M
 refine wp_ret ?_
 refine ret1 F rfl rfl ?_
 refine ⟨_, rfl, ?_, M.chg⟩
 unfold quorum
 rw [if_pos (by omega)]
 clear F; intro hc5 F
 try rw [hc5] at F
 replace hc5 := of_decide_eq_false hc5
 refine s_rn 3 F rfl rfl ?_; clear F a; intro a F
 refine t_endM M ?_; (clear M; try clear w); intro w M
 refine c_if F rfl ?_ ?_
 clear F; intro hc6 F
 try rw [hc6] at F
 replace hc6 := of_decide_eq_true hc6
 refine wp_seq ?_
 replace F := F.keep [0, 1, 4] rfl
 refine wp_region_l [.ind] ([0]) rfl ?_
 refine s_I F rfl rfl rfl rfl rfl rfl ?_; clear F a; intro a F
 refine t_endM M ?_; (clear M; try clear w); intro w M
 refine wp_ret ?_
 refine ret1 F rfl rfl ?_
 refine ⟨_, rfl, ?_, M.chg⟩
 unfold quorum
 rw [if_pos (by omega)]
 clear F; intro hc7 F
 try rw [hc7] at F
 replace hc7 := of_decide_eq_false hc7
 refine wp_skip ?_
 refine wp_seq ?_
 replace F := F.keep [0, 1, 4] rfl
 refine wp_region_l [.ind, .ind, .ind, .ind, .ind, .ind] ([0, 1, 2, 3, 4, 5]) rfl ?_
 refine s_rn 2 F rfl rfl ?_; clear F a; intro a F
 refine s_add F rfl rfl rfl rfl rfl rfl (by unfold In64; omega) ?_; clear F a; intro a F
 refine s_quo F rfl rfl rfl rfl rfl rfl (by omega) (by omega) (by omega) ?_; clear F a; intro a F
 refine s_add F rfl rfl rfl rfl rfl rfl (by unfold In64; omega) ?_; clear F a; intro a F
 refine s_I F rfl rfl rfl rfl rfl rfl ?_; clear F a; intro a F
 refine t_endM M ?_; (clear M; try clear w); intro w M
 refine wp_ret ?_
 refine ret1 F rfl rfl ?_
 refine ⟨_, rfl, ?_, M.chg⟩
 unfold quorum
 rw [if_neg (by omega)]
set_option maxRecDepth 100000 in
set_option maxHeartbeats 400000 in
theorem c77 (n t : Int) (w0 : World) : Cl Try.prog 77 #[.int .i64 n, .int .i64 t] w0 (RetQ w0 fun v => v = .int .i64 (quorum n t)) := by
 have M : Sep (fun _ => False) w0 w0 _ := Sep.nil _ w0
 refine enter (vs := [_, _]) Try.func77 rfl rfl rfl ?_
 intro a F
 refine wp_seq ?_
 refine wp_region_l [.ind] ([0]) rfl ?_
 refine s_I F rfl rfl rfl rfl rfl rfl ?_; clear F a; intro a F
 refine t_endM M ?_; (clear M; try clear w); intro w M
 refine wp_seq ?_
 refine wp_seq ?_
 refine wp_region_l [.ind, .ind, .ind, .ind, .ind, .ind, .ind, .ind, .ind, .ind, .ind, .ind, .ind, .ind, .ind, .ind, .ind] ([0, 1, 2, 3, 4, 5, 6, 7, 8, 9, 10, 11, 12, 13, 14, 15, 16]) rfl ?_
 refine s_rn 3 F rfl rfl ?_; clear F a; intro a F
 refine bsplit F 7 rfl ?_ ?_
 clear F; intro hc0 F
 try rw [hc0] at F
 replace hc0 := of_decide_eq_true hc0
 refine s_rn 14 F rfl rfl ?_; clear F a; intro a F
 refine t_endM M ?_; (clear M; try clear w); intro w M
 refine c_t F rfl ?_
 refine wp_seq ?_
 replace F := F.keep [0, 1, 4] rfl
 refine wp_region_l [.ind] ([0]) rfl ?_
 refine s_I F rfl rfl rfl rfl rfl rfl ?_; clear F a; intro a F
 refine t_endM M ?_; (clear M; try clear w); intro w M
 refine wp_ret ?_
 refine ret1 F rfl rfl ?_
 refine ⟨_, rfl, ?_, M.chg⟩
 unfold quorum
 rw [if_pos (by omega)]
 clear F; intro hc1 F
 try rw [hc1] at F
 replace hc1 := of_decide_eq_false hc1
 refine s_rn 4 F rfl rfl ?_; clear F a; intro a F
 refine bsplit F 11 rfl ?_ ?_
 clear F; intro hc2 F
 try rw [hc2] at F
 replace hc2 := of_decide_eq_true hc2
 refine s_rn 10 F rfl rfl ?_; clear F a; intro a F
 refine t_endM M ?_; (clear M; try clear w); intro w M
 refine c_t F rfl ?_
 refine wp_seq ?_
 replace F := F.keep [0, 1, 4] rfl
 refine wp_region_l [.ind] ([0]) rfl ?_
 refine s_I F rfl rfl rfl rfl rfl rfl ?_; clear F a; intro a F
 refine t_endM M ?_; (clear M; try clear w); intro w M
 refine wp_ret ?_
 refine ret1 F rfl rfl ?_
 refine ⟨_, rfl, ?_, M.chg⟩
 unfold quorum
 rw [if_pos (by omega)]
 clear F; intro hc3 F
 try rw [hc3] at F
 replace hc3 := of_decide_eq_false hc3
 refine s_rn 2 F rfl rfl ?_; clear F a; intro a F
 refine s_mul F rfl rfl rfl rfl rfl rfl (by unfold In64; omega) ?_; clear F a; intro a F
 refine s_add F rfl rfl rfl rfl rfl rfl (by unfold In64; omega) ?_; clear F a; intro a F
 refine s_rn 3 F rfl rfl ?_; clear F a; intro a F
 refine bsplit F 18 rfl ?_ ?_
 clear F; intro hc4 F
 try rw [hc4] at F
 replace hc4 := of_decide_eq_true hc4
 refine s_rn 3 F rfl rfl ?_; clear F a; intro a F
 refine t_endM M ?_; (clear M; try clear w); intro w M
 refine c_t F rfl ?_
 refine wp_seq ?_
 replace F := F.keep [0, 1, 4] rfl
 refine wp_region_l [.ind] ([0]) rfl ?_
 refine s_I F rfl rfl rfl rfl rfl rfl ?_; clear F a; intro a F
 refine t_endM M ?_; (clear M; try clear w); intro w M
 refine wp_ret ?_
 refine ret1 F rfl rfl ?_
 refine ⟨_, rfl, ?_, M.chg⟩
 unfold quorum
 rw [if_pos (by omega)]
 clear F; intro hc5 F
 try rw [hc5] at F
 replace hc5 := of_decide_eq_false hc5
 refine s_rn 3 F rfl rfl ?_; clear F a; intro a F
 refine t_endM M ?_; (clear M; try clear w); intro w M
 refine c_if F rfl ?_ ?_
 clear F; intro hc6 F
 try rw [hc6] at F
 replace hc6 := of_decide_eq_true hc6
 refine wp_seq ?_
 replace F := F.keep [0, 1, 4] rfl
 refine wp_region_l [.ind] ([0]) rfl ?_
 refine s_I F rfl rfl rfl rfl rfl rfl ?_; clear F a; intro a F
 refine t_endM M ?_; (clear M; try clear w); intro w M
 refine wp_ret ?_
 refine ret1 F rfl rfl ?_
 refine ⟨_, rfl, ?_, M.chg⟩
 unfold quorum
 rw [if_pos (by omega)]
 clear F; intro hc7 F
 try rw [hc7] at F
 replace hc7 := of_decide_eq_false hc7
 refine wp_skip ?_
 refine wp_seq ?_
 replace F := F.keep [0, 1, 4] rfl
 refine wp_region_l [.ind, .ind, .ind, .ind, .ind, .ind] ([0, 1, 2, 3, 4, 5]) rfl ?_
 refine s_rn 2 F rfl rfl ?_; clear F a; intro a F
 refine s_add F rfl rfl rfl rfl rfl rfl (by unfold In64; omega) ?_; clear F a; intro a F
 refine s_quo F rfl rfl rfl rfl rfl rfl (by omega) (by omega) (by omega) ?_; clear F a; intro a F
 refine s_add F rfl rfl rfl rfl rfl rfl (by unfold In64; omega) ?_; clear F a; intro a F
 refine s_I F rfl rfl rfl rfl rfl rfl ?_; clear F a; intro a F
 refine t_endM M ?_; (clear M; try clear w); intro w M
 refine wp_ret ?_
 refine ret1 F rfl rfl ?_
 refine ⟨_, rfl, ?_, M.chg⟩
 unfold quorum
 rw [if_neg (by omega)]
set_option maxRecDepth 100000 in
set_option maxHeartbeats 400000 in
theorem c78 (b : Nat) (n t : Int) (v : Value) (q : Wrd) (w0 : World) (hb : w0.heap[b]? = some (vO n t v)) : Cl Try.prog 78 #[.pointer (some ⟨b, 0, none⟩), wrdV q] w0 (RetQ w0 fun r => r = .bool (mayV n q)) := by
 have M : Sep (fun _ => False) w0 w0 _ := Sep.nil _ w0
 refine enter (vs := [_, _]) Try.func78 rfl rfl rfl ?_
 intro a F
 refine wp_seq ?_
 refine wp_region_l [.wr, .ind] ([0, 1]) rfl ?_
 refine s_bxA F M rfl rfl rfl rfl rfl ?_; (clear F a M; try clear w); intro b3 w M a F
 refine s_I F rfl rfl rfl rfl rfl rfl ?_; clear F a; intro a F
 refine t_endM M ?_; (clear M; try clear w); intro w M
 refine wp_seq ?_
 refine cutX (X := (Bool)) (m0 := []) F [0, 1, 3, 4] rfl M (fun (o : Bool) => (o = decide (q.kind = 2 ∨ q.kind = 3))) (fun (o : Bool) => [(5, .bool o)]) (fun (o : Bool) => []) ?_ ?_
 refine wp_region_l [.ind, .rd, .ind, .ind, .ind, .rd, .ind, .ind, .ind] ([0, 1, 2, 3, 4, 5, 6, 7, 8]) rfl ?_
 refine s_fa0 F rfl rfl rfl rfl fa_32_0_V1 rfl ?_; clear F a; intro a F
 refine s_ld F rfl rfl rfl rfl sc_3_V1 rfl (by exact cell_of_blk M.h0 (lit rfl)) ?_; clear F a; intro a F
 refine s_rn 2 F rfl rfl ?_; clear F a; intro a F
 refine bsplit F 9 rfl ?_ ?_
 clear F; intro hc0 F
 try rw [hc0] at F
 replace hc0 := of_decide_eq_true hc0
 refine s_rn 5 F rfl rfl ?_; clear F a; intro a F
 refine t_endM M ?_; (clear M; try clear w); intro w M
 refine joined (_) (by clear M F; grind) (F.keep [5, 0, 1, 3, 4] rfl) ?_
 try dsimp only [List.cons_append, List.nil_append]
 refine M.pick ?_; repeat (first | exact PkG.nil | refine PkG.cons 0 rfl rfl ?_)
 clear F; intro hc1 F
 try rw [hc1] at F
 replace hc1 := of_decide_eq_false hc1
 refine s_fa0 F rfl rfl rfl rfl fa_32_0_V1 rfl ?_; clear F a; intro a F
 refine s_ld F rfl rfl rfl rfl sc_3_V1 rfl (by exact cell_of_blk M.h0 (lit rfl)) ?_; clear F a; intro a F
 refine s_rn 3 F rfl rfl ?_; clear F a; intro a F
 refine t_endM M ?_; (clear M; try clear w); intro w M
 refine joined (_) (by clear M F; grind) (F.keep [5, 0, 1, 3, 4] rfl) ?_
 try dsimp only [List.cons_append, List.nil_append]
 refine M.pick ?_; repeat (first | exact PkG.nil | refine PkG.cons 0 rfl rfl ?_)
 clear F M; clear a; (try clear w)
 rintro o a w hq F M; try dsimp only at F M
 try simp only [List.cons_append, List.nil_append] at F M
 try dsimp only at hq
 refine wp_seq ?_
 refine wp_region_t [.ind, .ind, .ind, .rd, .ind, .ind, .ind, .ind, .rd, .ind, .ind, .ind, .rd, .ind, .ind, .ind, .ind, .rd, .ind, .ind, .ind, .ind, .rd, .ind, .ind, .ind, .ind, .rd, .ind, .ind, .ind, .ind] [] (otOf [0, 1, 2, 3, 4, 5, 6, 7, 8, 9, 10, 11, 12, 13, 14, 15, 16, 17, 18, 19, 20, 21, 22, 23, 24, 25, 26, 27, 28, 29, 30, 31]) mixed (by kernel_rfl) ?_
 refine s_rn 2 F rfl rfl ?_; clear F a; intro a F
 refine bsplit F 15 rfl ?_ ?_
 clear F; intro hc2 F
 try rw [hc2] at F
 skip
 refine s_fa0 F rfl rfl rfl rfl fa_32_1_V1 rfl ?_; clear F a; intro a F
 refine s_ld F rfl rfl rfl rfl sc_3_V1 rfl (by exact cell_of_blk M.h0 (lit rfl)) ?_; clear F a; intro a F
 refine s_rn 3 F rfl rfl ?_; clear F a; intro a F
 refine bsplit F 20 rfl ?_ ?_
 clear F; intro hc3 F
 try rw [hc3] at F
 replace hc3 := of_decide_eq_true hc3
 refine s_fa0 F rfl rfl rfl rfl fa_32_1_V1 rfl ?_; clear F a; intro a F
 refine s_ld F rfl rfl rfl rfl sc_3_V1 rfl (by exact cell_of_blk M.h0 (lit rfl)) ?_; clear F a; intro a F
 refine s_rn 2 F rfl rfl ?_; clear F a; intro a F
 refine s_fa0 F rfl rfl rfl rfl fa_130_0_V1 rfl ?_; clear F a; intro a F
 refine s_ld F rfl rfl rfl rfl sc_3_V1 rfl (by exact old_cell M id hb (lit rfl)) ?_; clear F a; intro a F
 refine s_rn 3 F rfl rfl ?_; clear F a; intro a F
 refine bsplit F 29 rfl ?_ ?_
 clear F; intro hc4 F
 try rw [hc4] at F
 replace hc4 := of_decide_eq_true hc4
 refine s_fa0 F rfl rfl rfl rfl fa_32_2_V1 rfl ?_; clear F a; intro a F
 refine s_ld F rfl rfl rfl rfl sc_3_V1 rfl (by exact cell_of_blk M.h0 (lit rfl)) ?_; clear F a; intro a F
 refine s_rn 3 F rfl rfl ?_; clear F a; intro a F
 refine bsplit F 34 rfl ?_ ?_
 clear F; intro hc5 F
 try rw [hc5] at F
 replace hc5 := of_decide_eq_true hc5
 refine s_fa0 F rfl rfl rfl rfl fa_32_2_V1 rfl ?_; clear F a; intro a F
 refine s_ld F rfl rfl rfl rfl sc_3_V1 rfl (by exact cell_of_blk M.h0 (lit rfl)) ?_; clear F a; intro a F
 refine s_rn 3 F rfl rfl ?_; clear F a; intro a F
 refine bsplit F 39 rfl ?_ ?_
 clear F; intro hc6 F
 try rw [hc6] at F
 replace hc6 := of_decide_eq_true hc6
 refine s_fa0 F rfl rfl rfl rfl fa_32_4_V1 rfl ?_; clear F a; intro a F
 refine s_ld F rfl rfl rfl rfl sc_9_V1 rfl (by exact cell_of_blk M.h0 (lit rfl)) ?_; clear F a; intro a F
 refine s_lenS F rfl rfl rfl rfl st_9_V1 rfl ?_; clear F a; intro a F
 refine s_rn 3 F rfl rfl ?_; clear F a; intro a F
 refine t_endM M ?_; (clear M; try clear w); intro w M
 refine wp_ret ?_
 refine ret1 F rfl rfl ?_
 refine ⟨_, rfl, ?_, M.chg⟩
 congr 1
 clear M F
 grind [mayV]
 clear F; intro hc7 F
 try rw [hc7] at F
 replace hc7 := of_decide_eq_false hc7
 refine s_rn 6 F rfl rfl ?_; clear F a; intro a F
 refine t_endM M ?_; (clear M; try clear w); intro w M
 refine wp_ret ?_
 refine ret1 F rfl rfl ?_
 refine ⟨_, rfl, ?_, M.chg⟩
 congr 1
 clear M F
 grind [mayV]
 clear F; intro hc8 F
 try rw [hc8] at F
 replace hc8 := of_decide_eq_false hc8
 refine s_rn 11 F rfl rfl ?_; clear F a; intro a F
 refine t_endM M ?_; (clear M; try clear w); intro w M
 refine wp_ret ?_
 refine ret1 F rfl rfl ?_
 refine ⟨_, rfl, ?_, M.chg⟩
 congr 1
 clear M F
 grind [mayV]
 clear F; intro hc9 F
 try rw [hc9] at F
 replace hc9 := of_decide_eq_false hc9
 refine s_rn 16 F rfl rfl ?_; clear F a; intro a F
 refine t_endM M ?_; (clear M; try clear w); intro w M
 refine wp_ret ?_
 refine ret1 F rfl rfl ?_
 refine ⟨_, rfl, ?_, M.chg⟩
 congr 1
 clear M F
 grind [mayV]
 clear F; intro hc10 F
 try rw [hc10] at F
 replace hc10 := of_decide_eq_false hc10
 refine s_rn 25 F rfl rfl ?_; clear F a; intro a F
 refine t_endM M ?_; (clear M; try clear w); intro w M
 refine wp_ret ?_
 refine ret1 F rfl rfl ?_
 refine ⟨_, rfl, ?_, M.chg⟩
 congr 1
 clear M F
 grind [mayV]
 clear F; intro hc11 F
 try rw [hc11] at F
 skip
 refine s_rn 30 F rfl rfl ?_; clear F a; intro a F
 refine t_endM M ?_; (clear M; try clear w); intro w M
 refine wp_ret ?_
 refine ret1 F rfl rfl ?_
 refine ⟨_, rfl, ?_, M.chg⟩
 congr 1
 clear M F
 grind [mayV]
set_option maxRecDepth 100000 in
set_option maxHeartbeats 400000 in
theorem c79 (b : Nat) (n t : Int) (L : List Wrd) (v : Value) (k r : Int) (s : ByteArray) (W : Wf n t L) (w0 : World) (hb : w0.heap[b]? = some (vO n t v)) (hr : RdSl w0.heap v L.length 5 (L.flatMap encW)) : Cl Try.prog 79 #[.pointer (some ⟨b, 0, none⟩), .int .i64 k, .int .i64 r, .string s] w0 (RetQ w0 fun o => o = .complex .f64 (fb (cntV L k r s)) (fb (anyV L k r - cntV L k r s))) := by
 have M : Sep (fun _ => False) w0 w0 _ := Sep.nil _ w0
 have hro := ro_of hr
 have hrb := ro_blk hb
 obtain ⟨A, cc, rfl, hcc⟩ := hr.form
 have hln := W.len
 have hn7 := W.n7
 have ht0 := W.t0
 refine enter (vs := [_, _, _, _]) Try.func79 rfl rfl rfl ?_
 intro a F
 refine wp_seq ?_
 refine wp_region_l [.ind] ([0]) rfl ?_

 refine s_I F rfl rfl rfl rfl rfl rfl ?_; clear F a; intro a F
 refine t_endM M ?_; (clear M; try clear w); intro w M
 refine wp_seq ?_
 refine wp_region_l [.ind] ([0]) rfl ?_
 refine s_I F rfl rfl rfl rfl rfl rfl ?_; clear F a; intro a F
 refine t_endM M ?_; (clear M; try clear w); intro w M
 refine wp_seq ?_
 refine wp_seq ?_
 refine wp_region_l [.ind, .ind] ([0, 1]) rfl ?_
 refine s_I F rfl rfl rfl rfl rfl rfl ?_; clear F a; intro a F
 refine s_pn F rfl rfl rfl rfl pt_25_V1 rfl ?_; clear F a; intro a F
 refine t_endM M ?_; (clear M; try clear w); intro w M
 refine c_f F rfl ?_
 refine wp_skip ?_
 refine wp_seq ?_
 refine wp_seq ?_
 replace F := F.keep [0, 1, 2, 3, 8, 9] rfl
 refine wp_region_l [.ind, .ind, .ind, .rd, .ind, .ind] ([0, 1, 2, 3, 4, 5]) rfl ?_
 refine s_rn 2 F rfl rfl ?_; clear F a; intro a F
 refine s_fa0 F rfl rfl rfl rfl fa_130_2_V1 rfl ?_; clear F a; intro a F
 refine s_ld F rfl rfl rfl rfl sc_22_V1 rfl (by exact old_cell M id hb (lit rfl)) ?_; clear F a; intro a F
 refine s_len F rfl rfl rfl rfl sl_22_V1 rfl ?_; clear F a; intro a F
 refine s_I F rfl rfl rfl rfl rfl rfl ?_; clear F a; intro a F
 refine t_endM M ?_; (clear M; try clear w); intro w M
 refine wp_block ?_
 refine loopX (X := (Int) × (Nat) × (Nat)) F [0, 1, 2, 3, 8, 18, 19] rfl (fun ((i, p, q) : (Int) × (Nat) × (Nat)) => (0 ≤ i) ∧ (i ≤ L.length) ∧ (p = cntV (L.take i.toNat) k r s) ∧ (p + q = anyV (L.take i.toNat) k r)) (fun ((i, p, q) : (Int) × (Nat) × (Nat)) => [(9, .complex .f64 (fb p) (fb q)), (20, .int .i64 i)]) (fun ((i, p, q) : (Int) × (Nat) × (Nat)) => []) (fun ((i, p, q) : (Int) × (Nat) × (Nat)) => L.length - i.toNat) ((0), (0), (0)) M ⟨(by omega), (by omega), rfl, rfl⟩ (F.keep [9, 20, 0, 1, 2, 3, 8, 18, 19] rfl) ?_
 clear F M; clear a; (try clear w)
 rintro ⟨i, p, q⟩ a w ⟨i0, i1, hp, hq⟩ F M; try dsimp only at F M
 try simp only [List.cons_append, List.nil_append] at F M
 try dsimp only at i0 i1 hp hq
 refine wp_seq ?_
 refine wp_region_l [.ind] ([0]) rfl ?_
 refine s_bin F rfl rfl rfl rfl rfl rfl rfl ?_; clear F a; intro a F
 refine t_endM M ?_; (clear M; try clear w); intro w M
 refine wp_seq ?_
 refine c_if F rfl ?_ ?_
 clear F; intro hc0 F
 try rw [hc0] at F
 replace hc0 := of_decide_eq_true hc0
 refine wp_skip ?_
 refine wp_seq ?_
 refine wp_block ?_
 refine wp_seq ?_
 replace F := F.keep [0, 1, 2, 3, 8, 9, 18, 19, 20] rfl
 refine wp_region_l [.ind, .rd, .wr, .wr] ([0, 1, 2, 3]) rfl ?_
 refine s_ix F rfl rfl rfl rfl sl_22_V1 rfl rfl (by exact M.chg.ro hro) (by omega) (by omega) ?_; clear F a; intro e22 he22 a F
 refine s_lda F rfl rfl rfl rfl ag_32_V1 rfl rfl (rdsX (M.chg.ro hro) (by intro e; rfl) he22) ?_; clear F a; intro a F
 refine s_alc F M rfl rfl rfl rfl zr_32_V1 rfl ?_; (clear F a M; try clear w); intro b11 w M a F
 refine s_stW F M rfl rfl rfl sz_32_V1 rfl rfl rfl rfl rfl ?_; (clear M; try clear w); intro w M
 refine t_endM M ?_; (clear M; try clear w); intro w M
 refine wp_block ?_
 refine wp_seq ?_
 replace F := F.keep [0, 1, 2, 3, 8, 9, 11, 18, 19, 20] rfl
 refine wp_region_l [.ind, .rd, .ind, .ind, .ind, .ind, .rd, .ind, .ind, .ind, .ind] ([0, 1, 2, 3, 4, 5, 6, 7, 8, 9, 10]) rfl ?_
 refine s_fa0 F rfl rfl rfl rfl fa_32_0_V1 rfl ?_; clear F a; intro a F
 refine s_ld F rfl rfl rfl rfl sc_3_V1 rfl (by exact cell_of_blk M.h0 (lit rfl)) ?_; clear F a; intro a F
 refine s_rn 3 F rfl rfl ?_; clear F a; intro a F
 refine bsplit F 31 rfl ?_ ?_
 clear F; intro hc1 F
 try rw [hc1] at F
 replace hc1 := nd1 hc1
 refine s_rn 6 F rfl rfl ?_; clear F a; intro a F
 refine t_endM M ?_; (clear M; try clear w); intro w M
 refine c_t F rfl ?_
 refine wp_skip ?_
 replace F := F.keep [0, 1, 2, 3, 8, 9, 11, 18, 19, 20] rfl
 refine wp_region_l [.ind, .ind] ([0, 1]) rfl ?_
 refine s_add F rfl rfl rfl rfl rfl rfl (by unfold In64; omega) ?_; clear F a; intro a F
 refine s_I F rfl rfl rfl rfl rfl rfl ?_; clear F a; intro a F
 refine t_endM M ?_; (clear M; try clear w); intro w M
 refine again ((i + 1), (_), (_)) (by show _ < _; (try dsimp only); omega) ⟨(by omega), (by assumption), (by rw [take_succ i0 he22, cnt_snoc]; clear F M; grind), (by rw [take_succ i0 he22, any_snoc]; clear F M; grind)⟩ (F.keep [9, 20, 0, 1, 2, 3, 8, 18, 19] rfl) ?_
 try dsimp only [List.cons_append, List.nil_append]
 refine M.pick ?_; repeat (exact PkG.nil)
 clear F; intro hc2 F
 try rw [hc2] at F
 replace hc2 := nd0 hc2
 refine s_fa0 F rfl rfl rfl rfl fa_32_2_V1 rfl ?_; clear F a; intro a F
 refine s_ld F rfl rfl rfl rfl sc_3_V1 rfl (by exact cell_of_blk M.h0 (lit rfl)) ?_; clear F a; intro a F
 refine s_rn 4 F rfl rfl ?_; clear F a; intro a F
 refine t_endM M ?_; (clear M; try clear w); intro w M
 refine c_if F rfl ?_ ?_
 clear F; intro hc3 F
 try rw [hc3] at F
 replace hc3 := nd1 hc3
 refine wp_skip ?_
 replace F := F.keep [0, 1, 2, 3, 8, 9, 11, 18, 19, 20] rfl
 refine wp_region_l [.ind, .ind] ([0, 1]) rfl ?_
 refine s_add F rfl rfl rfl rfl rfl rfl (by unfold In64; omega) ?_; clear F a; intro a F
 refine s_I F rfl rfl rfl rfl rfl rfl ?_; clear F a; intro a F
 refine t_endM M ?_; (clear M; try clear w); intro w M
 refine again ((i + 1), (_), (_)) (by show _ < _; (try dsimp only); omega) ⟨(by omega), (by assumption), (by rw [take_succ i0 he22, cnt_snoc]; clear F M; grind), (by rw [take_succ i0 he22, any_snoc]; clear F M; grind)⟩ (F.keep [9, 20, 0, 1, 2, 3, 8, 18, 19] rfl) ?_
 try dsimp only [List.cons_append, List.nil_append]
 refine M.pick ?_; repeat (exact PkG.nil)
 clear F; intro hc4 F
 try rw [hc4] at F
 replace hc4 := nd0 hc4
 refine wp_seq ?_
 replace F := F.keep [0, 1, 2, 3, 8, 9, 11, 18, 19, 20] rfl
 refine wp_region_l [.ind, .rd, .ind, .ind, .ind] ([0, 1, 2, 3, 4]) rfl ?_
 refine s_fa0 F rfl rfl rfl rfl fa_32_4_V1 rfl ?_; clear F a; intro a F
 refine s_ld F rfl rfl rfl rfl sc_9_V1 rfl (by exact cell_of_blk M.h0 (lit rfl)) ?_; clear F a; intro a F
 refine s_rn 3 F rfl rfl ?_; clear F a; intro a F
 refine t_endM M ?_; (clear M; try clear w); intro w M
 refine c_if F rfl ?_ ?_
 clear F; intro hc5 F
 try rw [hc5] at F
 replace hc5 := of_decide_eq_true hc5
 have hax := any_le W k r
 have ha2 := any_take L (i + 1).toNat k r
 rw [take_succ i0 he22, any_snoc, if_pos ⟨by assumption, by assumption⟩] at ha2
 replace F := F.keep [0, 1, 2, 3, 8, 9, 11, 18, 19, 20] rfl
 refine wp_region_l [.ind, .ind, .ind] ([0, 1, 2]) rfl ?_
 refine s_I F rfl rfl rfl rfl rfl rfl ?_; clear F a; intro a F
 refine s_addR F rfl rfl rfl rfl rfl rfl (cadd1 (p := p) (q := q) (by omega) (by omega)) ?_; clear F a; intro a F
 refine s_I F rfl rfl rfl rfl rfl rfl ?_; clear F a; intro a F
 refine t_endM M ?_; (clear M; try clear w); intro w M
 replace F := F.keep [0, 1, 2, 3, 8, 9, 11, 18, 19, 20] rfl
 refine wp_region_l [.ind, .ind] ([0, 1]) rfl ?_
 refine s_add F rfl rfl rfl rfl rfl rfl (by unfold In64; omega) ?_; clear F a; intro a F
 refine s_I F rfl rfl rfl rfl rfl rfl ?_; clear F a; intro a F
 refine t_endM M ?_; (clear M; try clear w); intro w M
 refine again ((i + 1), (_), (_)) (by show _ < _; (try dsimp only); omega) ⟨(by omega), (by assumption), (by rw [take_succ i0 he22, cnt_snoc]; clear F M; grind), (by rw [take_succ i0 he22, any_snoc]; clear F M; grind)⟩ (F.keep [9, 20, 0, 1, 2, 3, 8, 18, 19] rfl) ?_
 try dsimp only [List.cons_append, List.nil_append]
 refine M.pick ?_; repeat (exact PkG.nil)
 clear F; intro hc6 F
 try rw [hc6] at F
 replace hc6 := of_decide_eq_false hc6
 have hax := any_le W k r
 have ha2 := any_take L (i + 1).toNat k r
 rw [take_succ i0 he22, any_snoc, if_pos ⟨by assumption, by assumption⟩] at ha2
 replace F := F.keep [0, 1, 2, 3, 8, 9, 11, 18, 19, 20] rfl
 refine wp_region_l [.ind, .ind, .ind] ([0, 1, 2]) rfl ?_
 refine s_I F rfl rfl rfl rfl rfl rfl ?_; clear F a; intro a F
 refine s_addR F rfl rfl rfl rfl rfl rfl (cadd2 (p := p) (q := q) (by omega) (by omega)) ?_; clear F a; intro a F
 refine s_I F rfl rfl rfl rfl rfl rfl ?_; clear F a; intro a F
 refine t_endM M ?_; (clear M; try clear w); intro w M
 replace F := F.keep [0, 1, 2, 3, 8, 9, 11, 18, 19, 20] rfl
 refine wp_region_l [.ind, .ind] ([0, 1]) rfl ?_
 refine s_add F rfl rfl rfl rfl rfl rfl (by unfold In64; omega) ?_; clear F a; intro a F
 refine s_I F rfl rfl rfl rfl rfl rfl ?_; clear F a; intro a F
 refine t_endM M ?_; (clear M; try clear w); intro w M
 refine again ((i + 1), (_), (_)) (by show _ < _; (try dsimp only); omega) ⟨(by omega), (by assumption), (by rw [take_succ i0 he22, cnt_snoc]; clear F M; grind), (by rw [take_succ i0 he22, any_snoc]; clear F M; grind)⟩ (F.keep [9, 20, 0, 1, 2, 3, 8, 18, 19] rfl) ?_
 try dsimp only [List.cons_append, List.nil_append]
 refine M.pick ?_; repeat (exact PkG.nil)
 clear F; intro hc7 F
 try rw [hc7] at F
 replace hc7 := of_decide_eq_false hc7
 refine wp_exit ?_
 refine wp_seq ?_
 replace F := F.keep [0, 1, 2, 3, 8, 9, 18, 19, 20] rfl
 refine wp_region_l [.ind, .ind] ([0, 1]) rfl ?_
 refine s_rn 2 F rfl rfl ?_; clear F a; intro a F
 refine t_endM M ?_; (clear M; try clear w); intro w M
 refine wp_ret ?_
 refine ret1 F rfl rfl ?_
 refine ⟨_, rfl, ?_, M.chg⟩
 rw [take_all (by omega)] at hp hq
 rw [hp, show q = anyV L k r - cntV L k r s by omega]
set_option maxRecDepth 100000 in
set_option maxHeartbeats 400000 in
theorem c28 (b : Nat) (n t : Int) (L : List Wrd) (v : Value) (k r : Int) (s : ByteArray) (W : Wf n t L) (w0 : World) (hb : w0.heap[b]? = some (vO n t v)) (hr : RdSl w0.heap v L.length 5 (L.flatMap encW)) : Cl Try.prog 28 #[.pointer (some ⟨b, 0, none⟩), .int .i64 k, .int .i64 r, .string s] w0 (RetQ w0 fun o => o = .int .i64 (cntV L k r s : Nat)) := by
 have M : Sep (fun _ => False) w0 w0 _ := Sep.nil _ w0
 have hro := ro_of hr
 have hrb := ro_blk hb
 obtain ⟨A, cc, rfl, hcc⟩ := hr.form
 have hln := W.len
 have hn7 := W.n7
 have ht0 := W.t0
 refine enter (vs := [_, _, _, _]) Try.func28 rfl rfl rfl ?_
 intro a F
 refine wp_seq ?_
 refine wp_region_l [.ind] ([0]) rfl ?_
 refine s_I F rfl rfl rfl rfl rfl rfl ?_; clear F a; intro a F
 refine t_endM M ?_; (clear M; try clear w); intro w M
 refine wp_seq ?_
 have hax := any_le W k r
 have hac := cnt_le_any L k r s
 refine wp_region_l [.ind, .ind, .ind, .ind, .wr, .ind, .ind, .ind] ([0, 1, 2, 3, 4, 5, 6, 7]) rfl ?_
 refine s_rn 4 F rfl rfl ?_; clear F a; intro a F
 refine s_cq F M rfl rfl rfl rfl rfl (rfl : _ = some [_, _, _, _]) cb_79_V1 (fun nd_ => c79 b n t L _ k r s W _ (M.chg.ro hrb) (M.chg.ro hro)) ?_; (clear F a M; try clear w); rintro v w rfl M a F
 refine s_real F rfl rfl rfl rfl rfl ?_; clear F a; intro a F
 refine s_cvR F rfl rfl rfl rfl rfl (fcv (p := cntV L k r s) (by omega)) ?_; clear F a; intro a F
 refine s_I F rfl rfl rfl rfl rfl rfl ?_; clear F a; intro a F
 refine t_endM M ?_; (clear M; try clear w); intro w M
 refine wp_ret ?_
 refine ret1 F rfl rfl ?_
 exact ⟨_, rfl, rfl, M.chg⟩
set_option maxRecDepth 100000 in
set_option maxHeartbeats 400000 in
theorem c26 (b : Nat) (n t : Int) (L : List Wrd) (v : Value) (k r : Int) (W : Wf n t L) (w0 : World) (hb : w0.heap[b]? = some (vO n t v)) (hr : RdSl w0.heap v L.length 5 (L.flatMap encW)) : Cl Try.prog 26 #[.pointer (some ⟨b, 0, none⟩), .int .i64 k, .int .i64 r] w0 (RetQ w0 fun o => o = .tuple #[.string ((mostV n t L k r).getD empty), .bool (mostV n t L k r).isSome]) := by
 have M : Sep (fun _ => False) w0 w0 _ := Sep.nil _ w0
 have hro := ro_of hr
 have hrb := ro_blk hb
 obtain ⟨A, cc, rfl, hcc⟩ := hr.form
 have hln := W.len
 have hn7 := W.n7
 have ht0 := W.t0
 refine enter (vs := [_, _, _]) Try.func26 rfl rfl rfl ?_
 intro a F
 refine wp_seq ?_
 refine wp_region_l [.ind, .ind] ([0, 1]) rfl ?_
 refine s_rn 2 F rfl rfl ?_; clear F a; intro a F
 refine t_endM M ?_; (clear M; try clear w); intro w M
 refine wp_seq ?_
 refine wp_seq ?_
 refine wp_region_l [.ind, .ind] ([0, 1]) rfl ?_
 refine s_I F rfl rfl rfl rfl rfl rfl ?_; clear F a; intro a F
 refine s_pn F rfl rfl rfl rfl pt_25_V1 rfl ?_; clear F a; intro a F
 refine t_endM M ?_; (clear M; try clear w); intro w M
 refine c_f F rfl ?_
 refine wp_skip ?_
 refine wp_seq ?_
 refine wp_seq ?_
 replace F := F.keep [0, 1, 2, 6, 7] rfl
 refine wp_region_l [.ind, .ind, .ind, .rd, .ind, .ind] ([0, 1, 2, 3, 4, 5]) rfl ?_
 refine s_rn 2 F rfl rfl ?_; clear F a; intro a F
 refine s_fa0 F rfl rfl rfl rfl fa_130_2_V1 rfl ?_; clear F a; intro a F
 refine s_ld F rfl rfl rfl rfl sc_22_V1 rfl (by exact old_cell M id hb (lit rfl)) ?_; clear F a; intro a F
 refine s_len F rfl rfl rfl rfl sl_22_V1 rfl ?_; clear F a; intro a F
 refine s_I F rfl rfl rfl rfl rfl rfl ?_; clear F a; intro a F
 refine t_endM M ?_; (clear M; try clear w); intro w M
 refine wp_block ?_
 refine loopX (X := (Int)) F [0, 1, 2, 15, 16] rfl (fun (i : Int) => (0 ≤ i) ∧ (i ≤ L.length) ∧ (∀ w ∈ L.take i.toNat, hasQ n t L k r w = false)) (fun (i : Int) => [(17, .int .i64 i)]) (fun (i : Int) => []) (fun (i : Int) => L.length - i.toNat) (0) M ⟨(by omega), (by omega), (by simp)⟩ (F.keep [17, 0, 1, 2, 15, 16] rfl) ?_
 clear F M; clear a; (try clear w)
 rintro i a w ⟨i0, i1, hm⟩ F M; try dsimp only at F M
 try simp only [List.cons_append, List.nil_append] at F M
 try dsimp only at i0 i1 hm
 refine wp_seq ?_
 refine wp_region_l [.ind] ([0]) rfl ?_
 refine s_bin F rfl rfl rfl rfl rfl rfl rfl ?_; clear F a; intro a F
 refine t_endM M ?_; (clear M; try clear w); intro w M
 refine wp_seq ?_
 refine c_if F rfl ?_ ?_
 clear F; intro hc0 F
 try rw [hc0] at F
 replace hc0 := of_decide_eq_true hc0
 refine wp_skip ?_
 refine wp_seq ?_
 refine wp_block ?_
 refine wp_seq ?_
 replace F := F.keep [0, 1, 2, 15, 16, 17] rfl
 refine wp_region_l [.ind, .rd, .wr, .wr] ([0, 1, 2, 3]) rfl ?_
 refine s_ix F rfl rfl rfl rfl sl_22_V1 rfl rfl (by exact M.chg.ro hro) (by omega) (by omega) ?_; clear F a; intro e19 he19 a F
 refine s_lda F rfl rfl rfl rfl ag_32_V1 rfl rfl (rdsX (M.chg.ro hro) (by intro e; rfl) he19) ?_; clear F a; intro a F
 refine s_alc F M rfl rfl rfl rfl zr_32_V1 rfl ?_; (clear F a M; try clear w); intro b9 w M a F
 refine s_stW F M rfl rfl rfl sz_32_V1 rfl rfl rfl rfl rfl ?_; (clear M; try clear w); intro w M
 refine t_endM M ?_; (clear M; try clear w); intro w M
 refine wp_seq ?_
 replace F := F.keep [0, 1, 2, 9, 15, 16, 17] rfl
 refine wp_region_t [.ind, .rd, .ind, .ind, .ind, .ind, .rd, .ind, .ind, .ind, .ind, .ind, .ind, .ind, .ind, .rd, .wr, .ind, .ind, .ind, .rd, .ind, .ind, .ind, .rd, .wr, .ind, .ind] [(20, 16), (24, 16)] (otOf [0, 1, 2, 3, 4, 5, 6, 7, 8, 9, 10, 11, 12, 13, 14, 15, 17, 18, 19, 20, 21, 22, 23, 24, 16, 25, 26, 27]) mixed (by kernel_rfl) ?_
 refine s_fa0 F rfl rfl rfl rfl fa_32_0_V1 rfl ?_; clear F a; intro a F
 refine s_ldL F rfl rfl rfl rfl sc_3_V1 rfl (by exact cell_of_blk M.h0 (lit rfl)) ?_; clear F a; intro a F
 refine s_rn 3 F rfl rfl ?_; clear F a; intro a F
 refine bsplit F 25 rfl ?_ ?_
 clear F; intro hc1 F
 try rw [hc1] at F
 replace hc1 := of_decide_eq_true hc1
 refine s_fa0 F rfl rfl rfl rfl fa_32_2_V1 rfl ?_; clear F a; intro a F
 refine s_ldL F rfl rfl rfl rfl sc_3_V1 rfl (by exact cell_of_blk M.h0 (lit rfl)) ?_; clear F a; intro a F
 refine s_rn 4 F rfl rfl ?_; clear F a; intro a F
 refine bsplit F 31 rfl ?_ ?_
 clear F; intro hc2 F
 try rw [hc2] at F
 replace hc2 := of_decide_eq_true hc2
 refine s_rn 3 F rfl rfl ?_; clear F a; intro a F
 refine s_fa0 F rfl rfl rfl rfl fa_32_4_V1 rfl ?_; clear F a; intro a F
 refine s_ldL F rfl rfl rfl rfl sc_9_V1 rfl (by exact cell_of_blk M.h0 (lit rfl)) ?_; clear F a; intro a F
 refine s_rn 2 F rfl rfl ?_; clear F a; intro a F
 refine s_fa0 F rfl rfl rfl rfl fa_130_0_V1 rfl ?_; clear F a; intro a F
 refine s_ldL F rfl rfl rfl rfl sc_3_V1 rfl (by exact old_cell M id hb (lit rfl)) ?_; clear F a; intro a F
 refine s_rn 2 F rfl rfl ?_; clear F a; intro a F
 refine s_fa0 F rfl rfl rfl rfl fa_130_1_V1 rfl ?_; clear F a; intro a F
 refine s_ldL F rfl rfl rfl rfl sc_3_V1 rfl (by exact old_cell M id hb (lit rfl)) ?_; clear F a; intro a F
 refine s_cqL F M rfl rfl rfl rfl rfl (rfl : _ = some [_, _, _, _]) cb_28_V1 (fun nd_ => c28 b n t L _ k r e19.value W _ (M.chg.ro hrb) (M.chg.ro hro)) (fun _ w _ M => (by (refine pend_take (by exact old_cell M id hb (lit rfl)) ?_); (refine pend_take (by exact old_cell M id hb (lit rfl)) ?_); (refine pend_skip rfl ?_); (refine pend_skip rfl ?_); (refine pend_skip rfl ?_); exact pend_none)) ?_; (clear F a M; try clear w); rintro v w rfl M a F
 refine s_cqL F M rfl rfl rfl rfl rfl (rfl : _ = some [_, _]) cb_77_V1 (fun nd_ => c77 _ _ _) (fun _ w _ M => (by (refine pend_skip rfl ?_); (refine pend_skip rfl ?_); (refine pend_skip rfl ?_); (refine pend_skip rfl ?_); (refine pend_skip rfl ?_); exact pend_none)) ?_; (clear F a M; try clear w); rintro v w rfl M a F
 refine s_rn 2 F rfl rfl ?_; clear F a; intro a F
 refine t_endM M ?_; (clear M; try clear w); intro w M
 refine c_if F rfl ?_ ?_
 clear F; intro hc3 F
 try rw [hc3] at F
 replace hc3 := of_decide_eq_true hc3
 refine wp_seq ?_
 replace F := F.keep [0, 1, 2, 9, 15, 16, 17] rfl
 refine wp_region_l [.ind, .rd, .ind, .ind] ([0, 1, 2, 3]) rfl ?_
 refine s_fa0 F rfl rfl rfl rfl fa_32_4_V1 rfl ?_; clear F a; intro a F
 refine s_ld F rfl rfl rfl rfl sc_9_V1 rfl (by exact cell_of_blk M.h0 (lit rfl)) ?_; clear F a; intro a F
 refine s_rn 2 F rfl rfl ?_; clear F a; intro a F
 refine t_endM M ?_; (clear M; try clear w); intro w M
 refine wp_ret ?_
 refine ret2 F rfl rfl rfl ?_
 refine ⟨_, rfl, ?_, M.chg⟩
 rw [most_hit hm he19 (by clear M F; grind [hasQ])]
 rfl
 clear F; intro hc4 F
 try rw [hc4] at F
 replace hc4 := of_decide_eq_false hc4
 refine wp_skip ?_
 replace F := F.keep [0, 1, 2, 9, 15, 16, 17] rfl
 refine wp_region_l [.ind, .ind] ([0, 1]) rfl ?_
 refine s_add F rfl rfl rfl rfl rfl rfl (by unfold In64; omega) ?_; clear F a; intro a F
 refine s_I F rfl rfl rfl rfl rfl rfl ?_; clear F a; intro a F
 refine t_endM M ?_; (clear M; try clear w); intro w M
 refine again (i + 1) (by show _ < _; (try dsimp only); omega) ⟨(by omega), (by assumption), (all_take hm i0 he19 (by clear M F; grind [hasQ]))⟩ (F.keep [17, 0, 1, 2, 15, 16] rfl) ?_
 try dsimp only [List.cons_append, List.nil_append]
 refine M.pick ?_; repeat (exact PkG.nil)
 clear F; intro hc5 F
 try rw [hc5] at F
 replace hc5 := of_decide_eq_false hc5
 refine s_rn 17 F rfl rfl ?_; clear F a; intro a F
 refine t_endM M ?_; (clear M; try clear w); intro w M
 refine c_f F rfl ?_
 refine wp_skip ?_
 replace F := F.keep [0, 1, 2, 9, 15, 16, 17] rfl
 refine wp_region_l [.ind, .ind] ([0, 1]) rfl ?_
 refine s_add F rfl rfl rfl rfl rfl rfl (by unfold In64; omega) ?_; clear F a; intro a F
 refine s_I F rfl rfl rfl rfl rfl rfl ?_; clear F a; intro a F
 refine t_endM M ?_; (clear M; try clear w); intro w M
 refine again (i + 1) (by show _ < _; (try dsimp only); omega) ⟨(by omega), (by assumption), (all_take hm i0 he19 (by clear M F; grind [hasQ]))⟩ (F.keep [17, 0, 1, 2, 15, 16] rfl) ?_
 try dsimp only [List.cons_append, List.nil_append]
 refine M.pick ?_; repeat (exact PkG.nil)
 clear F; intro hc6 F
 try rw [hc6] at F
 replace hc6 := of_decide_eq_false hc6
 refine s_rn 23 F rfl rfl ?_; clear F a; intro a F
 refine t_endM M ?_; (clear M; try clear w); intro w M
 refine c_f F rfl ?_
 refine wp_skip ?_
 replace F := F.keep [0, 1, 2, 9, 15, 16, 17] rfl
 refine wp_region_l [.ind, .ind] ([0, 1]) rfl ?_
 refine s_add F rfl rfl rfl rfl rfl rfl (by unfold In64; omega) ?_; clear F a; intro a F
 refine s_I F rfl rfl rfl rfl rfl rfl ?_; clear F a; intro a F
 refine t_endM M ?_; (clear M; try clear w); intro w M
 refine again (i + 1) (by show _ < _; (try dsimp only); omega) ⟨(by omega), (by assumption), (all_take hm i0 he19 (by clear M F; grind [hasQ]))⟩ (F.keep [17, 0, 1, 2, 15, 16] rfl) ?_
 try dsimp only [List.cons_append, List.nil_append]
 refine M.pick ?_; repeat (exact PkG.nil)
 clear F; intro hc7 F
 try rw [hc7] at F
 replace hc7 := of_decide_eq_false hc7
 refine wp_exit ?_
 refine wp_seq ?_
 replace F := F.keep [0, 1, 2, 15, 16, 17] rfl
 refine wp_region_l [.ind, .ind] ([0, 1]) rfl ?_
 refine s_rn 2 F rfl rfl ?_; clear F a; intro a F
 refine t_endM M ?_; (clear M; try clear w); intro w M
 refine wp_ret ?_
 refine ret2 F rfl rfl rfl ?_
 refine ⟨_, rfl, ?_, M.chg⟩
 rw [take_all (by omega)] at hm
 rw [most_miss hm]
 rfl
end Go.Proofs.Ytboibdmflblphaa
