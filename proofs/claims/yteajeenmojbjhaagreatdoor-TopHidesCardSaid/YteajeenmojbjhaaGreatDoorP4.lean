/- N3 of the seat. -/
import Derived.Test.YteajeenmojbjhaaGreatDoorP3
import Derived.Test.YteajeenmojbjhaaGreatDoorP2
namespace Go.Proofs.YteajeenmojbjhaaGreatDoor
open Go Fw
theorem nV_congr {x y : Nat} (h : x % 115792089237316195423570985008687907853269984665640564039457584007913129639936 = y % 115792089237316195423570985008687907853269984665640564039457584007913129639936) : nV x = nV y := by rw [← nV_mod x,h,nV_mod]
theorem c130g (a b : Nat) (w0 : World) : Cl Tryz.prog 130 #[nV a,nV b] w0 (RetQ w0 fun r => r = .tuple #[nV (a % 115792089237316195423570985008687907853269984665640564039457584007913129639936 + b % 115792089237316195423570985008687907853269984665640564039457584007913129639936),.bool (decide (115792089237316195423570985008687907853269984665640564039457584007913129639936 ≤ a % 115792089237316195423570985008687907853269984665640564039457584007913129639936 + b % 115792089237316195423570985008687907853269984665640564039457584007913129639936))]) := by
 have h := c130 (a % 115792089237316195423570985008687907853269984665640564039457584007913129639936) (b % 115792089237316195423570985008687907853269984665640564039457584007913129639936) (Nat.mod_lt _ (by decide)) (Nat.mod_lt _ (by decide)) w0
 rwa [nV_mod,nV_mod] at h
theorem c131g (a b : Nat) (w0 : World) : Cl Tryz.prog 131 #[nV a,nV b] w0 (RetQ w0 fun r => r = .tuple #[nV (a % 115792089237316195423570985008687907853269984665640564039457584007913129639936 + 115792089237316195423570985008687907853269984665640564039457584007913129639936 - b % 115792089237316195423570985008687907853269984665640564039457584007913129639936),.bool (decide (a % 115792089237316195423570985008687907853269984665640564039457584007913129639936 < b % 115792089237316195423570985008687907853269984665640564039457584007913129639936))]) := by
 have h := c131 (a % 115792089237316195423570985008687907853269984665640564039457584007913129639936) (b % 115792089237316195423570985008687907853269984665640564039457584007913129639936) (Nat.mod_lt _ (by decide)) (Nat.mod_lt _ (by decide)) w0
 rwa [nV_mod,nV_mod] at h
theorem c30g (a b : Nat) (w0 : World) : Cl Tryz.prog 30 #[nV a,nV b] w0 (RetQ w0 fun r => r = .tuple #[nV (a % 115792089237316195423570985008687907853269984665640564039457584007913129639936 + b % 115792089237316195423570985008687907853269984665640564039457584007913129639936),.bool (decide (115792089237316195423570985008687907853269984665640564039457584007913129639936 ≤ a % 115792089237316195423570985008687907853269984665640564039457584007913129639936 + b % 115792089237316195423570985008687907853269984665640564039457584007913129639936))]) := by
 have h := c30 (a % 115792089237316195423570985008687907853269984665640564039457584007913129639936) (b % 115792089237316195423570985008687907853269984665640564039457584007913129639936) (Nat.mod_lt _ (by decide)) (Nat.mod_lt _ (by decide)) w0
 rwa [nV_mod,nV_mod] at h
theorem c28g (a b : Nat) (w0 : World) : Cl Tryz.prog 28 #[nV a,nV b] w0 (RetQ w0 fun r => r = .tuple #[nV (a % 115792089237316195423570985008687907853269984665640564039457584007913129639936 + 115792089237316195423570985008687907853269984665640564039457584007913129639936 - b % 115792089237316195423570985008687907853269984665640564039457584007913129639936),.bool (decide (a % 115792089237316195423570985008687907853269984665640564039457584007913129639936 < b % 115792089237316195423570985008687907853269984665640564039457584007913129639936))]) := by
 have h := c28 (a % 115792089237316195423570985008687907853269984665640564039457584007913129639936) (b % 115792089237316195423570985008687907853269984665640564039457584007913129639936) (Nat.mod_lt _ (by decide)) (Nat.mod_lt _ (by decide)) w0
 rwa [nV_mod,nV_mod] at h
def cmpN (a b : Nat) : Int := if a < b then -1 else if b < a then 1 else 0
set_option maxRecDepth 100000 in
set_option maxHeartbeats 400000 in
theorem c13l (x0 x1 x2 x3 y0 y1 y2 y3 : Nat) (h0 : x0 < 18446744073709551616) (h1 : x1 < 18446744073709551616) (h2 : x2 < 18446744073709551616) (h3 : x3 < 18446744073709551616) (g0 : y0 < 18446744073709551616) (g1 : y1 < 18446744073709551616) (g2 : y2 < 18446744073709551616) (g3 : y3 < 18446744073709551616) (w0 : World) : Cl Tryz.prog 13 #[n4 x0 x1 x2 x3,n4 y0 y1 y2 y3] w0 (RetQ w0 fun r => r = .int .i64 (cmpN (x0 + 18446744073709551616 * x1 + 340282366920938463463374607431768211456 * x2 + 6277101735386680763835789423207666416102355444464034512896 * x3) (y0 + 18446744073709551616 * y1 + 340282366920938463463374607431768211456 * y2 + 6277101735386680763835789423207666416102355444464034512896 * y3))) := by
 have M : Sep (fun _ => False) w0 w0 _ := Sep.nil _ w0
 refine enter (vs := [_,_]) Tryz.func13 rfl rfl rfl ?_
 intro a F
 refine wp_seq (wp_region_l [.wr,.wr,.ind] ([0,1,2]) rfl ?_)
 refine s_bxA F M rfl rfl rfl rfl rfl ?_; clear F a M; intro b2 w M a F
 refine s_bxA F M rfl rfl rfl rfl rfl ?_; clear F a M; intro b3 w M a F
 refine s_one F rfl ?_; clear F a; intro a F
 refine t_endM M ?_; clear M; intro w M
 refine wp_seq (wp_seq (wp_region_l [.ind] ([0]) rfl ?_))
 refine s_one F rfl ?_; clear F a; intro a F
 refine t_endM M ?_; clear M; intro w M
 refine wp_block ?_
 refine wp_loop_rounds 5 ?_
 refine (show Code.wp _ _ _ _ _ from ?_)
 refine wp_seq (wp_seq (wp_region_l [.ind,.ind] ([0,1]) rfl ?_))
 refine s_rn 2 F rfl rfl ?_; clear F a; intro a F
 refine t_endM M ?_; clear M; intro w M
 refine c_t F (by rfl) ?_
 refine wp_skip (wp_seq (wp_block (wp_seq (wp_seq ?_))))
 replace F := F.keep [0,1,2,3,4,5] rfl
 refine wp_region_t [.ind,.ind,.rd,.ind,.ind,.rd,.ind] [] (otOf [0,1,2,3,4,5,6]) mixed (by kernel_rfl) ?_
 refine s_one F rfl ?_; clear F a; intro a F
 refine s_ia F rfl rfl rfl rfl ar_25 rfl rfl (by omega) (by omega) ?_; clear F a; intro a F
 refine s_ld F rfl rfl rfl rfl sc_23 rfl (by exact cell_of_blk M.h1 (lit rfl)) ?_; clear F a; intro a F
 refine s_one F rfl ?_; clear F a; intro a F
 refine s_ia F rfl rfl rfl rfl ar_25 rfl rfl (by omega) (by omega) ?_; clear F a; intro a F
 refine s_ld F rfl rfl rfl rfl sc_23 rfl (by exact cell_of_blk M.h0 (lit rfl)) ?_; clear F a; intro a F
 refine s_ucmp F rfl rfl rfl rfl rfl rfl rfl ?_; clear F a; intro a F
 refine t_endM M ?_; clear M; intro w M
 refine c_if F rfl ?_ ?_
 clear F; intro hc0 F
 try rw [hc0] at F
 replace hc0 := of_decide_eq_true hc0
 refine wp_seq ?_
 replace F := F.keep [0,1,2,3,4,5] rfl
 refine wp_region_l [.ind] ([0]) rfl ?_
 refine s_one F rfl ?_; clear F a; intro a F
 refine t_endM M ?_; clear M; intro w M
 refine wp_ret ?_
 refine ret1 F rfl rfl ?_
 refine ⟨_,rfl,?_,M.chg⟩
 clear M F
 unfold cmpN
 rw [if_pos (by omega)]
 clear F; intro hc1 F
 try rw [hc1] at F
 replace hc1 := of_decide_eq_false hc1
 refine wp_skip (wp_seq ?_)
 replace F := F.keep [0,1,2,3,4,5] rfl
 refine wp_region_t [.ind,.ind,.rd,.ind,.ind,.rd,.ind] [] (otOf [0,1,2,3,4,5,6]) mixed (by kernel_rfl) ?_
 refine s_one F rfl ?_; clear F a; intro a F
 refine s_ia F rfl rfl rfl rfl ar_25 rfl rfl (by omega) (by omega) ?_; clear F a; intro a F
 refine s_ld F rfl rfl rfl rfl sc_23 rfl (by exact cell_of_blk M.h1 (lit rfl)) ?_; clear F a; intro a F
 refine s_one F rfl ?_; clear F a; intro a F
 refine s_ia F rfl rfl rfl rfl ar_25 rfl rfl (by omega) (by omega) ?_; clear F a; intro a F
 refine s_ld F rfl rfl rfl rfl sc_23 rfl (by exact cell_of_blk M.h0 (lit rfl)) ?_; clear F a; intro a F
 refine s_ucmp F rfl rfl rfl rfl rfl rfl rfl ?_; clear F a; intro a F
 refine t_endM M ?_; clear M; intro w M
 refine c_if F rfl ?_ ?_
 clear F; intro hc2 F
 try rw [hc2] at F
 replace hc2 := of_decide_eq_true hc2
 refine wp_seq ?_
 replace F := F.keep [0,1,2,3,4,5] rfl
 refine wp_region_l [.ind] ([0]) rfl ?_
 refine s_one F rfl ?_; clear F a; intro a F
 refine t_endM M ?_; clear M; intro w M
 refine wp_ret ?_
 refine ret1 F rfl rfl ?_
 refine ⟨_,rfl,?_,M.chg⟩
 clear M F
 unfold cmpN
 rw [if_neg (by omega),if_pos (by omega)]
 clear F; intro hc3 F
 try rw [hc3] at F
 replace hc3 := of_decide_eq_false hc3
 refine wp_skip ?_
 replace F := F.keep [0,1,2,3,4,5] rfl
 refine wp_region_l [.ind,.ind,.ind] ([0,1,2]) rfl ?_
 refine s_one F rfl ?_; clear F a; intro a F
 refine s_sub F rfl rfl rfl rfl rfl rfl (by unfold In64; omega) ?_; clear F a; intro a F
 refine s_one F rfl ?_; clear F a; intro a F
 refine t_endM M ?_; clear M; intro w M
 refine (show Code.wp _ _ _ _ _ from ?_)
 refine wp_seq (wp_seq ?_)
 replace F := F.keep [0,1,2,3,4,5] rfl
 refine wp_region_l [.ind,.ind] ([0,1]) rfl ?_
 refine s_rn 2 F rfl rfl ?_; clear F a; intro a F
 refine t_endM M ?_; clear M; intro w M
 refine c_t F (by rfl) ?_
 refine wp_skip (wp_seq (wp_block (wp_seq (wp_seq ?_))))
 replace F := F.keep [0,1,2,3,4,5] rfl
 refine wp_region_t [.ind,.ind,.rd,.ind,.ind,.rd,.ind] [] (otOf [0,1,2,3,4,5,6]) mixed (by kernel_rfl) ?_
 refine s_one F rfl ?_; clear F a; intro a F
 refine s_ia F rfl rfl rfl rfl ar_25 rfl rfl (by omega) (by omega) ?_; clear F a; intro a F
 refine s_ld F rfl rfl rfl rfl sc_23 rfl (by exact cell_of_blk M.h1 (lit rfl)) ?_; clear F a; intro a F
 refine s_one F rfl ?_; clear F a; intro a F
 refine s_ia F rfl rfl rfl rfl ar_25 rfl rfl (by omega) (by omega) ?_; clear F a; intro a F
 refine s_ld F rfl rfl rfl rfl sc_23 rfl (by exact cell_of_blk M.h0 (lit rfl)) ?_; clear F a; intro a F
 refine s_ucmp F rfl rfl rfl rfl rfl rfl rfl ?_; clear F a; intro a F
 refine t_endM M ?_; clear M; intro w M
 refine c_if F rfl ?_ ?_
 clear F; intro hc4 F
 try rw [hc4] at F
 replace hc4 := of_decide_eq_true hc4
 refine wp_seq ?_
 replace F := F.keep [0,1,2,3,4,5] rfl
 refine wp_region_l [.ind] ([0]) rfl ?_
 refine s_one F rfl ?_; clear F a; intro a F
 refine t_endM M ?_; clear M; intro w M
 refine wp_ret ?_
 refine ret1 F rfl rfl ?_
 refine ⟨_,rfl,?_,M.chg⟩
 clear M F
 unfold cmpN
 rw [if_pos (by omega)]
 clear F; intro hc5 F
 try rw [hc5] at F
 replace hc5 := of_decide_eq_false hc5
 refine wp_skip (wp_seq ?_)
 replace F := F.keep [0,1,2,3,4,5] rfl
 refine wp_region_t [.ind,.ind,.rd,.ind,.ind,.rd,.ind] [] (otOf [0,1,2,3,4,5,6]) mixed (by kernel_rfl) ?_
 refine s_one F rfl ?_; clear F a; intro a F
 refine s_ia F rfl rfl rfl rfl ar_25 rfl rfl (by omega) (by omega) ?_; clear F a; intro a F
 refine s_ld F rfl rfl rfl rfl sc_23 rfl (by exact cell_of_blk M.h1 (lit rfl)) ?_; clear F a; intro a F
 refine s_one F rfl ?_; clear F a; intro a F
 refine s_ia F rfl rfl rfl rfl ar_25 rfl rfl (by omega) (by omega) ?_; clear F a; intro a F
 refine s_ld F rfl rfl rfl rfl sc_23 rfl (by exact cell_of_blk M.h0 (lit rfl)) ?_; clear F a; intro a F
 refine s_ucmp F rfl rfl rfl rfl rfl rfl rfl ?_; clear F a; intro a F
 refine t_endM M ?_; clear M; intro w M
 refine c_if F rfl ?_ ?_
 clear F; intro hc6 F
 try rw [hc6] at F
 replace hc6 := of_decide_eq_true hc6
 refine wp_seq ?_
 replace F := F.keep [0,1,2,3,4,5] rfl
 refine wp_region_l [.ind] ([0]) rfl ?_
 refine s_one F rfl ?_; clear F a; intro a F
 refine t_endM M ?_; clear M; intro w M
 refine wp_ret ?_
 refine ret1 F rfl rfl ?_
 refine ⟨_,rfl,?_,M.chg⟩
 clear M F
 unfold cmpN
 rw [if_neg (by omega),if_pos (by omega)]
 clear F; intro hc7 F
 try rw [hc7] at F
 replace hc7 := of_decide_eq_false hc7
 refine wp_skip ?_
 replace F := F.keep [0,1,2,3,4,5] rfl
 refine wp_region_l [.ind,.ind,.ind] ([0,1,2]) rfl ?_
 refine s_one F rfl ?_; clear F a; intro a F
 refine s_sub F rfl rfl rfl rfl rfl rfl (by unfold In64; omega) ?_; clear F a; intro a F
 refine s_one F rfl ?_; clear F a; intro a F
 refine t_endM M ?_; clear M; intro w M
 refine (show Code.wp _ _ _ _ _ from ?_)
 refine wp_seq (wp_seq ?_)
 replace F := F.keep [0,1,2,3,4,5] rfl
 refine wp_region_l [.ind,.ind] ([0,1]) rfl ?_
 refine s_rn 2 F rfl rfl ?_; clear F a; intro a F
 refine t_endM M ?_; clear M; intro w M
 refine c_t F (by rfl) ?_
 refine wp_skip (wp_seq (wp_block (wp_seq (wp_seq ?_))))
 replace F := F.keep [0,1,2,3,4,5] rfl
 refine wp_region_t [.ind,.ind,.rd,.ind,.ind,.rd,.ind] [] (otOf [0,1,2,3,4,5,6]) mixed (by kernel_rfl) ?_
 refine s_one F rfl ?_; clear F a; intro a F
 refine s_ia F rfl rfl rfl rfl ar_25 rfl rfl (by omega) (by omega) ?_; clear F a; intro a F
 refine s_ld F rfl rfl rfl rfl sc_23 rfl (by exact cell_of_blk M.h1 (lit rfl)) ?_; clear F a; intro a F
 refine s_one F rfl ?_; clear F a; intro a F
 refine s_ia F rfl rfl rfl rfl ar_25 rfl rfl (by omega) (by omega) ?_; clear F a; intro a F
 refine s_ld F rfl rfl rfl rfl sc_23 rfl (by exact cell_of_blk M.h0 (lit rfl)) ?_; clear F a; intro a F
 refine s_ucmp F rfl rfl rfl rfl rfl rfl rfl ?_; clear F a; intro a F
 refine t_endM M ?_; clear M; intro w M
 refine c_if F rfl ?_ ?_
 clear F; intro hc8 F
 try rw [hc8] at F
 replace hc8 := of_decide_eq_true hc8
 refine wp_seq ?_
 replace F := F.keep [0,1,2,3,4,5] rfl
 refine wp_region_l [.ind] ([0]) rfl ?_
 refine s_one F rfl ?_; clear F a; intro a F
 refine t_endM M ?_; clear M; intro w M
 refine wp_ret ?_
 refine ret1 F rfl rfl ?_
 refine ⟨_,rfl,?_,M.chg⟩
 clear M F
 unfold cmpN
 rw [if_pos (by omega)]
 clear F; intro hc9 F
 try rw [hc9] at F
 replace hc9 := of_decide_eq_false hc9
 refine wp_skip (wp_seq ?_)
 replace F := F.keep [0,1,2,3,4,5] rfl
 refine wp_region_t [.ind,.ind,.rd,.ind,.ind,.rd,.ind] [] (otOf [0,1,2,3,4,5,6]) mixed (by kernel_rfl) ?_
 refine s_one F rfl ?_; clear F a; intro a F
 refine s_ia F rfl rfl rfl rfl ar_25 rfl rfl (by omega) (by omega) ?_; clear F a; intro a F
 refine s_ld F rfl rfl rfl rfl sc_23 rfl (by exact cell_of_blk M.h1 (lit rfl)) ?_; clear F a; intro a F
 refine s_one F rfl ?_; clear F a; intro a F
 refine s_ia F rfl rfl rfl rfl ar_25 rfl rfl (by omega) (by omega) ?_; clear F a; intro a F
 refine s_ld F rfl rfl rfl rfl sc_23 rfl (by exact cell_of_blk M.h0 (lit rfl)) ?_; clear F a; intro a F
 refine s_ucmp F rfl rfl rfl rfl rfl rfl rfl ?_; clear F a; intro a F
 refine t_endM M ?_; clear M; intro w M
 refine c_if F rfl ?_ ?_
 clear F; intro hc10 F
 try rw [hc10] at F
 replace hc10 := of_decide_eq_true hc10
 refine wp_seq ?_
 replace F := F.keep [0,1,2,3,4,5] rfl
 refine wp_region_l [.ind] ([0]) rfl ?_
 refine s_one F rfl ?_; clear F a; intro a F
 refine t_endM M ?_; clear M; intro w M
 refine wp_ret ?_
 refine ret1 F rfl rfl ?_
 refine ⟨_,rfl,?_,M.chg⟩
 clear M F
 unfold cmpN
 rw [if_neg (by omega),if_pos (by omega)]
 clear F; intro hc11 F
 try rw [hc11] at F
 replace hc11 := of_decide_eq_false hc11
 refine wp_skip ?_
 replace F := F.keep [0,1,2,3,4,5] rfl
 refine wp_region_l [.ind,.ind,.ind] ([0,1,2]) rfl ?_
 refine s_one F rfl ?_; clear F a; intro a F
 refine s_sub F rfl rfl rfl rfl rfl rfl (by unfold In64; omega) ?_; clear F a; intro a F
 refine s_one F rfl ?_; clear F a; intro a F
 refine t_endM M ?_; clear M; intro w M
 refine (show Code.wp _ _ _ _ _ from ?_)
 refine wp_seq (wp_seq ?_)
 replace F := F.keep [0,1,2,3,4,5] rfl
 refine wp_region_l [.ind,.ind] ([0,1]) rfl ?_
 refine s_rn 2 F rfl rfl ?_; clear F a; intro a F
 refine t_endM M ?_; clear M; intro w M
 refine c_t F (by rfl) ?_
 refine wp_skip (wp_seq (wp_block (wp_seq (wp_seq ?_))))
 replace F := F.keep [0,1,2,3,4,5] rfl
 refine wp_region_t [.ind,.ind,.rd,.ind,.ind,.rd,.ind] [] (otOf [0,1,2,3,4,5,6]) mixed (by kernel_rfl) ?_
 refine s_one F rfl ?_; clear F a; intro a F
 refine s_ia F rfl rfl rfl rfl ar_25 rfl rfl (by omega) (by omega) ?_; clear F a; intro a F
 refine s_ld F rfl rfl rfl rfl sc_23 rfl (by exact cell_of_blk M.h1 (lit rfl)) ?_; clear F a; intro a F
 refine s_one F rfl ?_; clear F a; intro a F
 refine s_ia F rfl rfl rfl rfl ar_25 rfl rfl (by omega) (by omega) ?_; clear F a; intro a F
 refine s_ld F rfl rfl rfl rfl sc_23 rfl (by exact cell_of_blk M.h0 (lit rfl)) ?_; clear F a; intro a F
 refine s_ucmp F rfl rfl rfl rfl rfl rfl rfl ?_; clear F a; intro a F
 refine t_endM M ?_; clear M; intro w M
 refine c_if F rfl ?_ ?_
 clear F; intro hc12 F
 try rw [hc12] at F
 replace hc12 := of_decide_eq_true hc12
 refine wp_seq ?_
 replace F := F.keep [0,1,2,3,4,5] rfl
 refine wp_region_l [.ind] ([0]) rfl ?_
 refine s_one F rfl ?_; clear F a; intro a F
 refine t_endM M ?_; clear M; intro w M
 refine wp_ret ?_
 refine ret1 F rfl rfl ?_
 refine ⟨_,rfl,?_,M.chg⟩
 clear M F
 unfold cmpN
 rw [if_pos (by omega)]
 clear F; intro hc13 F
 try rw [hc13] at F
 replace hc13 := of_decide_eq_false hc13
 refine wp_skip (wp_seq ?_)
 replace F := F.keep [0,1,2,3,4,5] rfl
 refine wp_region_t [.ind,.ind,.rd,.ind,.ind,.rd,.ind] [] (otOf [0,1,2,3,4,5,6]) mixed (by kernel_rfl) ?_
 refine s_one F rfl ?_; clear F a; intro a F
 refine s_ia F rfl rfl rfl rfl ar_25 rfl rfl (by omega) (by omega) ?_; clear F a; intro a F
 refine s_ld F rfl rfl rfl rfl sc_23 rfl (by exact cell_of_blk M.h1 (lit rfl)) ?_; clear F a; intro a F
 refine s_one F rfl ?_; clear F a; intro a F
 refine s_ia F rfl rfl rfl rfl ar_25 rfl rfl (by omega) (by omega) ?_; clear F a; intro a F
 refine s_ld F rfl rfl rfl rfl sc_23 rfl (by exact cell_of_blk M.h0 (lit rfl)) ?_; clear F a; intro a F
 refine s_ucmp F rfl rfl rfl rfl rfl rfl rfl ?_; clear F a; intro a F
 refine t_endM M ?_; clear M; intro w M
 refine c_if F rfl ?_ ?_
 clear F; intro hc14 F
 try rw [hc14] at F
 replace hc14 := of_decide_eq_true hc14
 refine wp_seq ?_
 replace F := F.keep [0,1,2,3,4,5] rfl
 refine wp_region_l [.ind] ([0]) rfl ?_
 refine s_one F rfl ?_; clear F a; intro a F
 refine t_endM M ?_; clear M; intro w M
 refine wp_ret ?_
 refine ret1 F rfl rfl ?_
 refine ⟨_,rfl,?_,M.chg⟩
 clear M F
 unfold cmpN
 rw [if_neg (by omega),if_pos (by omega)]
 clear F; intro hc15 F
 try rw [hc15] at F
 replace hc15 := of_decide_eq_false hc15
 refine wp_skip ?_
 replace F := F.keep [0,1,2,3,4,5] rfl
 refine wp_region_l [.ind,.ind,.ind] ([0,1,2]) rfl ?_
 refine s_one F rfl ?_; clear F a; intro a F
 refine s_sub F rfl rfl rfl rfl rfl rfl (by unfold In64; omega) ?_; clear F a; intro a F
 refine s_one F rfl ?_; clear F a; intro a F
 refine t_endM M ?_; clear M; intro w M
 refine (show Code.wp _ _ _ _ _ from ?_)
 refine wp_seq (wp_seq ?_)
 replace F := F.keep [0,1,2,3,4,5] rfl
 refine wp_region_l [.ind,.ind] ([0,1]) rfl ?_
 refine s_rn 2 F rfl rfl ?_; clear F a; intro a F
 refine t_endM M ?_; clear M; intro w M
 refine c_f F (by rfl) ?_
 refine wp_exit ?_
 refine wp_seq ?_
 replace F := F.keep [0,1,2,3,4,5] rfl
 refine wp_region_l [.ind] ([0]) rfl ?_
 refine s_one F rfl ?_; clear F a; intro a F
 refine t_endM M ?_; clear M; intro w M
 refine wp_ret ?_
 refine ret1 F rfl rfl ?_
 refine ⟨_,rfl,?_,M.chg⟩
 clear M F
 unfold cmpN
 rw [if_neg (by omega),if_neg (by omega)]
theorem c13 (a b : Nat) (ha : a < 115792089237316195423570985008687907853269984665640564039457584007913129639936) (hb : b < 115792089237316195423570985008687907853269984665640564039457584007913129639936) (w0 : World) : Cl Tryz.prog 13 #[nV a,nV b] w0 (RetQ w0 fun r => r = .int .i64 (cmpN a b)) := by
 have h := c13l (a % 18446744073709551616) (a / 18446744073709551616 % 18446744073709551616) (a / 340282366920938463463374607431768211456 % 18446744073709551616) (a / 6277101735386680763835789423207666416102355444464034512896 % 18446744073709551616) (b % 18446744073709551616) (b / 18446744073709551616 % 18446744073709551616) (b / 340282366920938463463374607431768211456 % 18446744073709551616) (b / 6277101735386680763835789423207666416102355444464034512896 % 18446744073709551616) (Nat.mod_lt _ (by decide)) (Nat.mod_lt _ (by decide)) (Nat.mod_lt _ (by decide)) (Nat.mod_lt _ (by decide)) (Nat.mod_lt _ (by decide)) (Nat.mod_lt _ (by decide)) (Nat.mod_lt _ (by decide)) (Nat.mod_lt _ (by decide)) w0
 rw [← split4 ha,← split4 hb] at h
 exact h
set_option maxRecDepth 100000 in
set_option maxHeartbeats 400000 in
theorem c14 (w0 : World) : Cl Tryz.prog 14 #[] w0 (RetQ w0 fun r => r = nV 115792089210356248762697446949407573529996955224135760342422259061068512044369) := by
 have M : Sep (fun _ => False) w0 w0 _ := Sep.nil _ w0
 refine enter (vs := []) Tryz.func14 rfl rfl rfl ?_
 intro a F
 refine wp_seq (wp_region_l [.wr] ([0]) rfl ?_)
 refine s_alc F M rfl rfl rfl rfl zr_25 rfl ?_; clear F a M; intro b0 w M a F
 refine t_endM M ?_; clear M; intro w M
 refine wp_seq (wp_region_l [.ind,.wr] ([0,1]) rfl ?_)
 refine s_bld F rfl rfl rfl rfl (parts4 F rfl rfl rfl rfl) (bl_25_0_1_2_3 _ _ _ _) ?_; clear F a; intro a F
 refine s_stW F M rfl rfl rfl sz_25 rfl rfl rfl rfl rfl ?_; clear M; intro w M
 refine t_endM M ?_; clear M; intro w M
 refine wp_ret ?_
 refine rt1 F rfl (by exact rv_a F rfl ag_25 rfl (cells_whole M.h0)) ?_
 exact ⟨_,rfl,rfl,M.chg⟩
set_option maxRecDepth 100000 in
set_option maxHeartbeats 400000 in
theorem c25 (x : Nat) (hx : x < 18446744073709551616) (w0 : World) : Cl Tryz.prog 25 #[u6 x] w0 (RetQ w0 fun r => r = nV x) := by
 have M : Sep (fun _ => False) w0 w0 _ := Sep.nil _ w0
 refine enter (vs := [_]) Tryz.func25 rfl rfl rfl ?_
 intro a F
 refine wp_seq (wp_region_l [.wr] ([0]) rfl ?_)
 refine s_alc F M rfl rfl rfl rfl zr_25 rfl ?_; clear F a M; intro b2 w M a F
 refine t_endM M ?_; clear M; intro w M
 refine wp_seq (wp_region_l [.ind,.ind,.wr] ([0,1,2]) rfl ?_)
 refine s_one F rfl ?_; clear F a; intro a F
 refine s_bld F rfl rfl rfl rfl (parts1 F rfl) (bl_25_0 _) ?_; clear F a; intro a F
 refine s_stW F M rfl rfl rfl sz_25 rfl rfl rfl rfl rfl ?_; clear M; intro w M
 refine t_endM M ?_; clear M; intro w M
 refine wp_ret ?_
 refine rt1 F rfl (by exact rv_a F rfl ag_25 rfl (cells_whole M.h0)) ?_
 refine ⟨_,rfl,?_,M.chg⟩
 clear M F
 exact nV_eq (e0 := x) (e1 := 0) (e2 := 0) (e3 := 0) (by omega) (by omega) (by omega) (by omega)
set_option maxRecDepth 100000 in
set_option maxHeartbeats 400000 in
theorem c5 (p : Nat) (hp : p < 115792089237316195423570985008687907853269984665640564039457584007913129639936) (w0 : World) : Cl Tryz.prog 5 #[nV p] w0 (RetQ w0 fun r => r = .bool (decide (p < 115792089210356248762697446949407573529996955224135760342422259061068512044369))) := by
 have M : Sep (fun _ => False) w0 w0 _ := Sep.nil _ w0
 refine enter (vs := [_]) Tryz.func5 rfl rfl rfl ?_
 intro a F
 refine wp_seq (wp_region_l [.wr,.ind] ([0,1]) rfl ?_)
 refine s_bxA F M rfl rfl rfl rfl rfl ?_; clear F a M; intro b1 w M a F
 refine s_one F rfl ?_; clear F a; intro a F
 refine t_endM M ?_; clear M; intro w M
 refine wp_seq (wp_region_t [.rd,.wr,.wr,.ind,.ind] [(0,1)] (otOf [0,1,2,3,4]) mixed (by kernel_rfl) ?_)
 refine s_ldaL F rfl rfl rfl rfl ag_25 rfl rfl (cells_whole M.h0) ?_; clear F a; intro a F
 refine s_cqL F M rfl rfl rfl rfl rfl (rfl : _ = some []) cb_14 (fun nd_ => c14 _) (fun _ w _ M => (by (refine pend_take (by exact cells_whole M.h0) ?_); exact pend_none)) ?_; clear F a M; rintro v w rfl M a F
 refine s_cqL F M rfl rfl rfl rfl rfl (rfl : _ = some [_,_]) cb_13 (fun nd_ => c13 p 115792089210356248762697446949407573529996955224135760342422259061068512044369 hp (by decide) _) (fun _ w _ M => (by (refine pend_skip rfl ?_); exact pend_none)) ?_; clear F a M; rintro v w rfl M a F
 refine s_rn 2 F rfl rfl ?_; clear F a; intro a F
 refine t_endM M ?_; clear M; intro w M
 refine wp_ret ?_
 refine ret1 F rfl rfl ?_
 refine ⟨_,rfl,?_,M.chg⟩
 clear M F
 congr 1
 unfold cmpN
 rw [decide_eq_decide]
 split
 · constructor <;> intro _ <;> first | assumption | decide
 · constructor
   · intro h; split at h <;> omega
   · intro h; omega
set_option maxRecDepth 100000 in
set_option maxHeartbeats 400000 in
theorem c29 (p : Nat) (hp : p < 115792089237316195423570985008687907853269984665640564039457584007913129639936) (w0 : World) : Cl Tryz.prog 29 #[nV p] w0 (RetQ w0 fun r => r = nV (p % 115792089210356248762697446949407573529996955224135760342422259061068512044369)) := by
 have M : Sep (fun _ => False) w0 w0 _ := Sep.nil _ w0
 refine enter (vs := [_]) Tryz.func29 rfl rfl rfl ?_
 intro a F
 refine wp_seq (wp_region_l [.wr,.wr] ([0,1]) rfl ?_)
 refine s_bxA F M rfl rfl rfl rfl rfl ?_; clear F a M; intro b1 w M a F
 refine s_alc F M rfl rfl rfl rfl zr_25 rfl ?_; clear F a M; intro b2 w M a F
 refine t_endM M ?_; clear M; intro w M
 refine wp_seq (wp_seq (wp_region_l [.rd,.wr] ([0,1]) rfl ?_))
 refine s_lda F rfl rfl rfl rfl ag_25 rfl rfl (cells_whole M.h1) ?_; clear F a; intro a F
 refine s_cq F M rfl rfl rfl rfl rfl (rfl : _ = some [_]) cb_5 (fun nd_ => c5 p hp _) ?_; clear F a M; rintro v w rfl M a F
 refine t_endM M ?_; clear M; intro w M
 refine c_if F rfl ?_ ?_
 clear F; intro hc0 F
 try rw [hc0] at F
 replace hc0 := of_decide_eq_true hc0
 refine wp_seq ?_
 replace F := F.keep [0,1,2] rfl
 refine wp_region_l [.rd,.wr] ([0,1]) rfl ?_
 refine s_lda F rfl rfl rfl rfl ag_25 rfl rfl (cells_whole M.h1) ?_; clear F a; intro a F
 refine s_stW F M rfl rfl rfl sz_25 rfl rfl rfl rfl rfl ?_; clear M; intro w M
 refine t_endM M ?_; clear M; intro w M
 refine wp_ret ?_
 refine rt1 F rfl (by exact rv_a F rfl ag_25 rfl (cells_whole M.h0)) ?_
 refine ⟨_,rfl,?_,M.chg⟩
 clear M F
 exact nV_congr (by omega)
 clear F; intro hc1 F
 try rw [hc1] at F
 replace hc1 := of_decide_eq_false hc1
 refine wp_skip (wp_seq ?_)
 replace F := F.keep [0,1,2] rfl
 refine wp_region_t [.rd,.wr,.wr,.ind,.ind,.ind,.wr,.wr,.ind] [(0,1),(0,6)] (.one 0 (.two 1 6 (.two 2 6 (otOf [3,4,5,6,7,8]) (otOf [2,3,4,5,7,8])) (otOf [1,2,3,4,5,7,8]))) mixed (by kernel_rfl) ?_
 refine s_ldaL F rfl rfl rfl rfl ag_25 rfl rfl (cells_whole M.h1) ?_; clear F a; intro a F
 refine t_two ?_ ?_
 refine s_cqL F M rfl rfl rfl rfl rfl (rfl : _ = some []) cb_14 (fun nd_ => c14 _) (fun _ w _ M => (by (refine pend_take (by exact cells_whole M.h1) ?_); exact pend_none)) ?_; clear F a M; rintro v w rfl M a F
 refine t_two ?_ ?_
 refine s_cqL F M rfl rfl rfl rfl rfl (rfl : _ = some [_,_]) cb_28 (fun nd_ => c28 p 115792089210356248762697446949407573529996955224135760342422259061068512044369 hp (by decide) _) (fun _ w _ M => (by (refine pend_skip rfl ?_); exact pend_none)) ?_; clear F a M; rintro v w rfl M a F
 refine s_rn 3 F rfl rfl ?_; clear F a; intro a F
 refine s_alcL F M rfl rfl rfl rfl zr_25 rfl (fun b w M => (by (refine pend_take (by exact cells_whole M.h2) ?_); exact pend_none)) ?_; clear F a M; intro b3 w M a F
 refine s_stWL F M rfl rfl rfl sz_25 rfl rfl rfl rfl rfl (fun w M => (by (refine pend_skip rfl ?_); exact pend_none)) ?_; clear M; intro w M
 refine s_one F rfl ?_; clear F a; intro a F
 refine t_endM M ?_; clear M; intro w M
 refine wp_seq ?_
 replace F := F.keep [0,1,2,3] rfl
 refine wp_region_l [.rd,.wr] ([0,1]) rfl ?_
 refine s_lda F rfl rfl rfl rfl ag_25 rfl rfl (cells_whole M.h0) ?_; clear F a; intro a F
 refine s_stW F M.f1 rfl rfl rfl sz_25 rfl rfl rfl rfl rfl ?_; clear M; intro w M
 refine t_endM M ?_; clear M; intro w M
 refine wp_ret ?_
 refine rt1 F rfl (by exact rv_a F rfl ag_25 rfl (cells_whole M.h0)) ?_
 refine ⟨_,rfl,?_,M.chg⟩
 clear M F
 exact nV_congr (by omega)
 refine s_alcL F M rfl rfl rfl rfl zr_25 rfl (fun b w M => (by (refine pend_take (by exact cells_whole M.h2) ?_); exact pend_none)) ?_; clear F a M; intro b3 w M a F
 refine s_cqL F M rfl rfl rfl rfl rfl (rfl : _ = some [_,_]) cb_28 (fun nd_ => c28 p 115792089210356248762697446949407573529996955224135760342422259061068512044369 hp (by decide) _) (fun _ w _ M => (by (refine pend_skip rfl ?_); exact pend_none)) ?_; clear F a M; rintro v w rfl M a F
 refine s_rn 3 F rfl rfl ?_; clear F a; intro a F
 refine s_stWL F M rfl rfl rfl sz_25 rfl rfl rfl rfl rfl (fun w M => (by (refine pend_skip rfl ?_); exact pend_none)) ?_; clear M; intro w M
 refine s_one F rfl ?_; clear F a; intro a F
 refine t_endM M ?_; clear M; intro w M
 refine wp_seq ?_
 replace F := F.keep [0,1,2,3] rfl
 refine wp_region_l [.rd,.wr] ([0,1]) rfl ?_
 refine s_lda F rfl rfl rfl rfl ag_25 rfl rfl (cells_whole M.h0) ?_; clear F a; intro a F
 refine s_stW F M.f1 rfl rfl rfl sz_25 rfl rfl rfl rfl rfl ?_; clear M; intro w M
 refine t_endM M ?_; clear M; intro w M
 refine wp_ret ?_
 refine rt1 F rfl (by exact rv_a F rfl ag_25 rfl (cells_whole M.h0)) ?_
 refine ⟨_,rfl,?_,M.chg⟩
 clear M F
 exact nV_congr (by omega)
 refine s_alcL F M rfl rfl rfl rfl zr_25 rfl (fun b w M => (by (refine pend_take (by exact cells_whole M.h2) ?_); exact pend_none)) ?_; clear F a M; intro b3 w M a F
 refine s_cqL F M rfl rfl rfl rfl rfl (rfl : _ = some []) cb_14 (fun nd_ => c14 _) (fun _ w _ M => (by (refine pend_take (by exact cells_whole M.h2) ?_); exact pend_none)) ?_; clear F a M; rintro v w rfl M a F
 refine s_cqL F M rfl rfl rfl rfl rfl (rfl : _ = some [_,_]) cb_28 (fun nd_ => c28 p 115792089210356248762697446949407573529996955224135760342422259061068512044369 hp (by decide) _) (fun _ w _ M => (by (refine pend_skip rfl ?_); exact pend_none)) ?_; clear F a M; rintro v w rfl M a F
 refine s_rn 3 F rfl rfl ?_; clear F a; intro a F
 refine s_stWL F M rfl rfl rfl sz_25 rfl rfl rfl rfl rfl (fun w M => (by (refine pend_skip rfl ?_); exact pend_none)) ?_; clear M; intro w M
 refine s_one F rfl ?_; clear F a; intro a F
 refine t_endM M ?_; clear M; intro w M
 refine wp_seq ?_
 replace F := F.keep [0,1,2,3] rfl
 refine wp_region_l [.rd,.wr] ([0,1]) rfl ?_
 refine s_lda F rfl rfl rfl rfl ag_25 rfl rfl (cells_whole M.h0) ?_; clear F a; intro a F
 refine s_stW F M.f1 rfl rfl rfl sz_25 rfl rfl rfl rfl rfl ?_; clear M; intro w M
 refine t_endM M ?_; clear M; intro w M
 refine wp_ret ?_
 refine rt1 F rfl (by exact rv_a F rfl ag_25 rfl (cells_whole M.h0)) ?_
 refine ⟨_,rfl,?_,M.chg⟩
 clear M F
 exact nV_congr (by omega)
set_option maxRecDepth 100000 in
set_option maxHeartbeats 400000 in
theorem c10 (p q : Nat) (hp : p < 115792089237316195423570985008687907853269984665640564039457584007913129639936) (hq : q < 115792089237316195423570985008687907853269984665640564039457584007913129639936) (w0 : World) : Cl Tryz.prog 10 #[nV p,nV q] w0 (RetQ w0 fun r => r = nV ((p + q) % 115792089210356248762697446949407573529996955224135760342422259061068512044369)) := by
 have M : Sep (fun _ => False) w0 w0 _ := Sep.nil _ w0
 refine enter (vs := [_,_]) Tryz.func10 rfl rfl rfl ?_
 intro a F
 refine wp_seq (wp_region_l [.wr,.wr,.wr] ([0,1,2]) rfl ?_)
 refine s_bxA F M rfl rfl rfl rfl rfl ?_; clear F a M; intro b2 w M a F
 refine s_bxA F M rfl rfl rfl rfl rfl ?_; clear F a M; intro b3 w M a F
 refine s_alc F M rfl rfl rfl rfl zr_25 rfl ?_; clear F a M; intro b4 w M a F
 refine t_endM M ?_; clear M; intro w M
 refine wp_seq ?_
 refine cutX (X := (Nat)) (m0 := []) F [0,1,2,3,4] rfl M (fun (d5 : Nat) => True) (fun (d5 : Nat) => [(5,.pointer (some ⟨d5,0,none⟩)),(6,.bool (decide (115792089237316195423570985008687907853269984665640564039457584007913129639936 ≤ p % 115792089210356248762697446949407573529996955224135760342422259061068512044369 + q % 115792089210356248762697446949407573529996955224135760342422259061068512044369)))]) (fun (d5 : Nat) => [blk d5 (.cells (#[u6 ((p % 115792089210356248762697446949407573529996955224135760342422259061068512044369 + q % 115792089210356248762697446949407573529996955224135760342422259061068512044369) % 18446744073709551616),u6 ((p % 115792089210356248762697446949407573529996955224135760342422259061068512044369 + q % 115792089210356248762697446949407573529996955224135760342422259061068512044369) / 18446744073709551616 % 18446744073709551616),u6 ((p % 115792089210356248762697446949407573529996955224135760342422259061068512044369 + q % 115792089210356248762697446949407573529996955224135760342422259061068512044369) / 340282366920938463463374607431768211456 % 18446744073709551616),u6 ((p % 115792089210356248762697446949407573529996955224135760342422259061068512044369 + q % 115792089210356248762697446949407573529996955224135760342422259061068512044369) / 6277101735386680763835789423207666416102355444464034512896 % 18446744073709551616)]) 25 (0,0))]) ?_ ?_
 refine wp_region_t [.rd,.wr,.rd,.wr,.wr,.ind,.ind,.ind,.wr,.wr,.ind] [(0,8),(2,1),(2,8)] (.one 0 (.one 2 (.two 1 8 (.two 3 8 (.two 4 8 (otOf [5,6,7,8,9,10]) (otOf [4,5,6,7,9,10])) (otOf [3,4,5,6,7,9,10])) (otOf [1,3,4,5,6,7,9,10])))) mixed (by kernel_rfl) ?_
 refine s_ldaL F rfl rfl rfl rfl ag_25 rfl rfl (cells_whole M.h2) ?_; clear F a; intro a F
 refine s_ldaL F rfl rfl rfl rfl ag_25 rfl rfl (cells_whole M.h1) ?_; clear F a; intro a F
 refine t_two ?_ ?_
 refine s_cqL F M rfl rfl rfl rfl rfl (rfl : _ = some [_]) cb_29 (fun nd_ => c29 p hp _) (fun _ w _ M => (by (refine pend_take (by exact cells_whole M.h1) ?_); (refine pend_skip rfl ?_); exact pend_none)) ?_; clear F a M; rintro v w rfl M a F
 refine t_two ?_ ?_
 refine s_cqL F M rfl rfl rfl rfl rfl (rfl : _ = some [_]) cb_29 (fun nd_ => c29 q hq _) (fun _ w _ M => (by (refine pend_skip rfl ?_); (refine pend_skip rfl ?_); exact pend_none)) ?_; clear F a M; rintro v w rfl M a F
 refine t_two ?_ ?_
 refine s_cqL F M rfl rfl rfl rfl rfl (rfl : _ = some [_,_]) cb_30 (fun nd_ => c30 (p % 115792089210356248762697446949407573529996955224135760342422259061068512044369) (q % 115792089210356248762697446949407573529996955224135760342422259061068512044369) (by omega) (by omega) _) (fun _ w _ M => (by (refine pend_skip rfl ?_); (refine pend_skip rfl ?_); exact pend_none)) ?_; clear F a M; rintro v w rfl M a F
 refine s_rn 3 F rfl rfl ?_; clear F a; intro a F
 refine s_alcL F M rfl rfl rfl rfl zr_25 rfl (fun b w M => (by (refine pend_take (by exact cells_whole M.h2) ?_); (refine pend_take (by exact cells_whole M.h3) ?_); exact pend_none)) ?_; clear F a M; intro b5 w M a F
 refine s_stWL F M rfl rfl rfl sz_25 rfl rfl rfl rfl rfl (fun w M => (by (refine pend_skip rfl ?_); (refine pend_skip rfl ?_); exact pend_none)) ?_; clear M; intro w M
 refine s_one F rfl ?_; clear F a; intro a F
 refine t_endM M ?_; clear M; intro w M
 refine joined (b5) trivial (F.keep [5,6,0,1,2,3,4] rfl) ?_
 try dsimp only [List.cons_append,List.nil_append]
 refine M.pick ?_; repeat (first | exact PkG.nil | refine PkG.cons 0 rfl rfl ?_ | refine PkG.cons 1 rfl rfl ?_ | refine PkG.cons 2 rfl rfl ?_ | refine PkG.cons 3 rfl rfl ?_)
 refine s_alcL F M rfl rfl rfl rfl zr_25 rfl (fun b w M => (by (refine pend_take (by exact cells_whole M.h2) ?_); (refine pend_take (by exact cells_whole M.h3) ?_); exact pend_none)) ?_; clear F a M; intro b5 w M a F
 refine s_cqL F M rfl rfl rfl rfl rfl (rfl : _ = some [_,_]) cb_30 (fun nd_ => c30 (p % 115792089210356248762697446949407573529996955224135760342422259061068512044369) (q % 115792089210356248762697446949407573529996955224135760342422259061068512044369) (by omega) (by omega) _) (fun _ w _ M => (by (refine pend_skip rfl ?_); (refine pend_skip rfl ?_); exact pend_none)) ?_; clear F a M; rintro v w rfl M a F
 refine s_rn 3 F rfl rfl ?_; clear F a; intro a F
 refine s_stWL F M rfl rfl rfl sz_25 rfl rfl rfl rfl rfl (fun w M => (by (refine pend_skip rfl ?_); (refine pend_skip rfl ?_); exact pend_none)) ?_; clear M; intro w M
 refine s_one F rfl ?_; clear F a; intro a F
 refine t_endM M ?_; clear M; intro w M
 refine joined (b5) trivial (F.keep [5,6,0,1,2,3,4] rfl) ?_
 try dsimp only [List.cons_append,List.nil_append]
 refine M.pick ?_; repeat (first | exact PkG.nil | refine PkG.cons 0 rfl rfl ?_ | refine PkG.cons 1 rfl rfl ?_ | refine PkG.cons 2 rfl rfl ?_ | refine PkG.cons 3 rfl rfl ?_)
 refine s_alcL F M rfl rfl rfl rfl zr_25 rfl (fun b w M => (by (refine pend_take (by exact cells_whole M.h2) ?_); (refine pend_take (by exact cells_whole M.h3) ?_); exact pend_none)) ?_; clear F a M; intro b5 w M a F
 refine s_cqL F M rfl rfl rfl rfl rfl (rfl : _ = some [_]) cb_29 (fun nd_ => c29 q hq _) (fun _ w _ M => (by (refine pend_skip rfl ?_); (refine pend_skip rfl ?_); exact pend_none)) ?_; clear F a M; rintro v w rfl M a F
 refine s_cqL F M rfl rfl rfl rfl rfl (rfl : _ = some [_,_]) cb_30 (fun nd_ => c30 (p % 115792089210356248762697446949407573529996955224135760342422259061068512044369) (q % 115792089210356248762697446949407573529996955224135760342422259061068512044369) (by omega) (by omega) _) (fun _ w _ M => (by (refine pend_skip rfl ?_); (refine pend_skip rfl ?_); exact pend_none)) ?_; clear F a M; rintro v w rfl M a F
 refine s_rn 3 F rfl rfl ?_; clear F a; intro a F
 refine s_stWL F M rfl rfl rfl sz_25 rfl rfl rfl rfl rfl (fun w M => (by (refine pend_skip rfl ?_); (refine pend_skip rfl ?_); exact pend_none)) ?_; clear M; intro w M
 refine s_one F rfl ?_; clear F a; intro a F
 refine t_endM M ?_; clear M; intro w M
 refine joined (b5) trivial (F.keep [5,6,0,1,2,3,4] rfl) ?_
 try dsimp only [List.cons_append,List.nil_append]
 refine M.pick ?_; repeat (first | exact PkG.nil | refine PkG.cons 0 rfl rfl ?_ | refine PkG.cons 1 rfl rfl ?_ | refine PkG.cons 2 rfl rfl ?_ | refine PkG.cons 3 rfl rfl ?_)
 refine s_alcL F M rfl rfl rfl rfl zr_25 rfl (fun b w M => (by (refine pend_take (by exact cells_whole M.h2) ?_); (refine pend_take (by exact cells_whole M.h3) ?_); exact pend_none)) ?_; clear F a M; intro b5 w M a F
 refine s_cqL F M rfl rfl rfl rfl rfl (rfl : _ = some [_]) cb_29 (fun nd_ => c29 p hp _) (fun _ w _ M => (by (refine pend_take (by exact cells_whole M.h2) ?_); (refine pend_skip rfl ?_); exact pend_none)) ?_; clear F a M; rintro v w rfl M a F
 refine s_cqL F M rfl rfl rfl rfl rfl (rfl : _ = some [_]) cb_29 (fun nd_ => c29 q hq _) (fun _ w _ M => (by (refine pend_skip rfl ?_); (refine pend_skip rfl ?_); exact pend_none)) ?_; clear F a M; rintro v w rfl M a F
 refine s_cqL F M rfl rfl rfl rfl rfl (rfl : _ = some [_,_]) cb_30 (fun nd_ => c30 (p % 115792089210356248762697446949407573529996955224135760342422259061068512044369) (q % 115792089210356248762697446949407573529996955224135760342422259061068512044369) (by omega) (by omega) _) (fun _ w _ M => (by (refine pend_skip rfl ?_); (refine pend_skip rfl ?_); exact pend_none)) ?_; clear F a M; rintro v w rfl M a F
 refine s_rn 3 F rfl rfl ?_; clear F a; intro a F
 refine s_stWL F M rfl rfl rfl sz_25 rfl rfl rfl rfl rfl (fun w M => (by (refine pend_skip rfl ?_); (refine pend_skip rfl ?_); exact pend_none)) ?_; clear M; intro w M
 refine s_one F rfl ?_; clear F a; intro a F
 refine t_endM M ?_; clear M; intro w M
 refine joined (b5) trivial (F.keep [5,6,0,1,2,3,4] rfl) ?_
 try dsimp only [List.cons_append,List.nil_append]
 refine M.pick ?_; repeat (first | exact PkG.nil | refine PkG.cons 0 rfl rfl ?_ | refine PkG.cons 1 rfl rfl ?_ | refine PkG.cons 2 rfl rfl ?_ | refine PkG.cons 3 rfl rfl ?_)
 clear F M; clear a; (try clear w)
 rintro d5 a w _ F M; try dsimp only at F M
 try simp only [List.cons_append,List.nil_append] at F M
 refine wp_seq (wp_seq (wp_region_l [.ind] ([0]) rfl ?_))
 refine s_one F rfl ?_; clear F a; intro a F
 refine t_endM M ?_; clear M; intro w M
 refine c_if F rfl ?_ ?_
 clear F; intro hc0 F
 try rw [hc0] at F
 replace hc0 := of_decide_eq_true hc0
 refine wp_seq ?_
 refine cutX (X := (Nat)) (m0 := []) F [0,1,2,3,4,5,6] rfl M (fun (d7 : Nat) => True) (fun (d7 : Nat) => [(7,.pointer (some ⟨d7,0,none⟩))]) (fun (d7 : Nat) => [blk d7 (.cells (#[u6 (((p % 115792089210356248762697446949407573529996955224135760342422259061068512044369 + q % 115792089210356248762697446949407573529996955224135760342422259061068512044369) % 115792089237316195423570985008687907853269984665640564039457584007913129639936 + 115792089237316195423570985008687907853269984665640564039457584007913129639936 - 115792089210356248762697446949407573529996955224135760342422259061068512044369 % 115792089237316195423570985008687907853269984665640564039457584007913129639936) % 18446744073709551616),u6 (((p % 115792089210356248762697446949407573529996955224135760342422259061068512044369 + q % 115792089210356248762697446949407573529996955224135760342422259061068512044369) % 115792089237316195423570985008687907853269984665640564039457584007913129639936 + 115792089237316195423570985008687907853269984665640564039457584007913129639936 - 115792089210356248762697446949407573529996955224135760342422259061068512044369 % 115792089237316195423570985008687907853269984665640564039457584007913129639936) / 18446744073709551616 % 18446744073709551616),u6 (((p % 115792089210356248762697446949407573529996955224135760342422259061068512044369 + q % 115792089210356248762697446949407573529996955224135760342422259061068512044369) % 115792089237316195423570985008687907853269984665640564039457584007913129639936 + 115792089237316195423570985008687907853269984665640564039457584007913129639936 - 115792089210356248762697446949407573529996955224135760342422259061068512044369 % 115792089237316195423570985008687907853269984665640564039457584007913129639936) / 340282366920938463463374607431768211456 % 18446744073709551616),u6 (((p % 115792089210356248762697446949407573529996955224135760342422259061068512044369 + q % 115792089210356248762697446949407573529996955224135760342422259061068512044369) % 115792089237316195423570985008687907853269984665640564039457584007913129639936 + 115792089237316195423570985008687907853269984665640564039457584007913129639936 - 115792089210356248762697446949407573529996955224135760342422259061068512044369 % 115792089237316195423570985008687907853269984665640564039457584007913129639936) / 6277101735386680763835789423207666416102355444464034512896 % 18446744073709551616)]) 25 (0,0))]) ?_ ?_
 replace F := F.keep [0,1,2,3,4,5,6] rfl
 refine wp_region_t [.rd,.wr,.wr,.ind,.ind,.ind,.wr,.wr,.ind] [(0,1),(0,6)] (.one 0 (.two 1 6 (.two 2 6 (otOf [3,4,5,6,7,8]) (otOf [2,3,4,5,7,8])) (otOf [1,2,3,4,5,7,8]))) mixed (by kernel_rfl) ?_
 refine s_ldaL F rfl rfl rfl rfl ag_25 rfl rfl (cells_whole M.h0) ?_; clear F a; intro a F
 refine t_two ?_ ?_
 refine s_cqL F M rfl rfl rfl rfl rfl (rfl : _ = some []) cb_14 (fun nd_ => c14 _) (fun _ w _ M => (by (refine pend_take (by exact cells_whole M.h0) ?_); exact pend_none)) ?_; clear F a M; rintro v w rfl M a F
 refine t_two ?_ ?_
 refine s_cqL F M rfl rfl rfl rfl rfl (rfl : _ = some [_,_]) cb_28 (fun nd_ => c28g (p % 115792089210356248762697446949407573529996955224135760342422259061068512044369 + q % 115792089210356248762697446949407573529996955224135760342422259061068512044369) 115792089210356248762697446949407573529996955224135760342422259061068512044369 _) (fun _ w _ M => (by (refine pend_skip rfl ?_); exact pend_none)) ?_; clear F a M; rintro v w rfl M a F
 refine s_rn 3 F rfl rfl ?_; clear F a; intro a F
 refine s_alcL F M rfl rfl rfl rfl zr_25 rfl (fun b w M => (by (refine pend_take (by exact cells_whole M.h1) ?_); exact pend_none)) ?_; clear F a M; intro b7 w M a F
 refine s_stWL F M rfl rfl rfl sz_25 rfl rfl rfl rfl rfl (fun w M => (by (refine pend_skip rfl ?_); exact pend_none)) ?_; clear M; intro w M
 refine s_one F rfl ?_; clear F a; intro a F
 refine t_endM M ?_; clear M; intro w M
 refine joined (b7) trivial (F.keep [7,0,1,2,3,4,5,6] rfl) ?_
 try dsimp only [List.cons_append,List.nil_append]
 refine M.pick ?_; repeat (first | exact PkG.nil | refine PkG.cons 0 rfl rfl ?_ | refine PkG.cons 1 rfl rfl ?_ | refine PkG.cons 2 rfl rfl ?_ | refine PkG.cons 3 rfl rfl ?_ | refine PkG.cons 4 rfl rfl ?_)
 refine s_alcL F M rfl rfl rfl rfl zr_25 rfl (fun b w M => (by (refine pend_take (by exact cells_whole M.h1) ?_); exact pend_none)) ?_; clear F a M; intro b7 w M a F
 refine s_cqL F M rfl rfl rfl rfl rfl (rfl : _ = some [_,_]) cb_28 (fun nd_ => c28g (p % 115792089210356248762697446949407573529996955224135760342422259061068512044369 + q % 115792089210356248762697446949407573529996955224135760342422259061068512044369) 115792089210356248762697446949407573529996955224135760342422259061068512044369 _) (fun _ w _ M => (by (refine pend_skip rfl ?_); exact pend_none)) ?_; clear F a M; rintro v w rfl M a F
 refine s_rn 3 F rfl rfl ?_; clear F a; intro a F
 refine s_stWL F M rfl rfl rfl sz_25 rfl rfl rfl rfl rfl (fun w M => (by (refine pend_skip rfl ?_); exact pend_none)) ?_; clear M; intro w M
 refine s_one F rfl ?_; clear F a; intro a F
 refine t_endM M ?_; clear M; intro w M
 refine joined (b7) trivial (F.keep [7,0,1,2,3,4,5,6] rfl) ?_
 try dsimp only [List.cons_append,List.nil_append]
 refine M.pick ?_; repeat (first | exact PkG.nil | refine PkG.cons 0 rfl rfl ?_ | refine PkG.cons 1 rfl rfl ?_ | refine PkG.cons 2 rfl rfl ?_ | refine PkG.cons 3 rfl rfl ?_ | refine PkG.cons 4 rfl rfl ?_)
 refine s_alcL F M rfl rfl rfl rfl zr_25 rfl (fun b w M => (by (refine pend_take (by exact cells_whole M.h1) ?_); exact pend_none)) ?_; clear F a M; intro b7 w M a F
 refine s_cqL F M rfl rfl rfl rfl rfl (rfl : _ = some []) cb_14 (fun nd_ => c14 _) (fun _ w _ M => (by (refine pend_take (by exact cells_whole M.h1) ?_); exact pend_none)) ?_; clear F a M; rintro v w rfl M a F
 refine s_cqL F M rfl rfl rfl rfl rfl (rfl : _ = some [_,_]) cb_28 (fun nd_ => c28g (p % 115792089210356248762697446949407573529996955224135760342422259061068512044369 + q % 115792089210356248762697446949407573529996955224135760342422259061068512044369) 115792089210356248762697446949407573529996955224135760342422259061068512044369 _) (fun _ w _ M => (by (refine pend_skip rfl ?_); exact pend_none)) ?_; clear F a M; rintro v w rfl M a F
 refine s_rn 3 F rfl rfl ?_; clear F a; intro a F
 refine s_stWL F M rfl rfl rfl sz_25 rfl rfl rfl rfl rfl (fun w M => (by (refine pend_skip rfl ?_); exact pend_none)) ?_; clear M; intro w M
 refine s_one F rfl ?_; clear F a; intro a F
 refine t_endM M ?_; clear M; intro w M
 refine joined (b7) trivial (F.keep [7,0,1,2,3,4,5,6] rfl) ?_
 try dsimp only [List.cons_append,List.nil_append]
 refine M.pick ?_; repeat (first | exact PkG.nil | refine PkG.cons 0 rfl rfl ?_ | refine PkG.cons 1 rfl rfl ?_ | refine PkG.cons 2 rfl rfl ?_ | refine PkG.cons 3 rfl rfl ?_ | refine PkG.cons 4 rfl rfl ?_)
 clear F M; clear a; (try clear w)
 rintro d7 a w _ F M; try dsimp only at F M
 try simp only [List.cons_append,List.nil_append] at F M
 refine wp_seq (wp_region_l [.rd,.wr] ([0,1]) rfl ?_)
 refine s_lda F rfl rfl rfl rfl ag_25 rfl rfl (cells_whole M.h0) ?_; clear F a; intro a F
 refine s_stW F M.f2 rfl rfl rfl sz_25 rfl rfl rfl rfl rfl ?_; clear M; intro w M
 refine t_endM M ?_; clear M; intro w M
 refine wp_ret ?_
 refine rt1 F rfl (by exact rv_a F rfl ag_25 rfl (cells_whole M.h0)) ?_
 refine ⟨_,rfl,?_,M.chg⟩
 clear M F
 exact nV_congr (by omega)
 clear F; intro hc1 F
 try rw [hc1] at F
 replace hc1 := of_decide_eq_false hc1
 refine wp_skip (wp_seq ?_)
 replace F := F.keep [0,1,2,3,4,5,6] rfl
 refine wp_region_l [.rd,.wr,.wr] ([0,1,2]) rfl ?_
 refine s_lda F rfl rfl rfl rfl ag_25 rfl rfl (cells_whole M.h0) ?_; clear F a; intro a F
 refine s_cq F M rfl rfl rfl rfl rfl (rfl : _ = some [_]) cb_29 (fun nd_ => c29 (p % 115792089210356248762697446949407573529996955224135760342422259061068512044369 + q % 115792089210356248762697446949407573529996955224135760342422259061068512044369) (by omega) _) ?_; clear F a M; rintro v w rfl M a F
 refine s_stW F M.f1 rfl rfl rfl sz_25 rfl rfl rfl rfl rfl ?_; clear M; intro w M
 refine t_endM M ?_; clear M; intro w M
 refine wp_ret ?_
 refine rt1 F rfl (by exact rv_a F rfl ag_25 rfl (cells_whole M.h0)) ?_
 refine ⟨_,rfl,?_,M.chg⟩
 clear M F
 exact nV_congr (by omega)
set_option maxRecDepth 100000 in
set_option maxHeartbeats 400000 in
theorem c8 (p q : Nat) (hp : p < 115792089237316195423570985008687907853269984665640564039457584007913129639936) (hq : q < 115792089237316195423570985008687907853269984665640564039457584007913129639936) (w0 : World) : Cl Tryz.prog 8 #[nV p,nV q] w0 (RetQ w0 fun r => r = nV ((p + (115792089210356248762697446949407573529996955224135760342422259061068512044369 - q % 115792089210356248762697446949407573529996955224135760342422259061068512044369)) % 115792089210356248762697446949407573529996955224135760342422259061068512044369)) := by
 have M : Sep (fun _ => False) w0 w0 _ := Sep.nil _ w0
 refine enter (vs := [_,_]) Tryz.func8 rfl rfl rfl ?_
 intro a F
 refine wp_seq (wp_region_l [.wr,.wr,.wr] ([0,1,2]) rfl ?_)
 refine s_bxA F M rfl rfl rfl rfl rfl ?_; clear F a M; intro b2 w M a F
 refine s_bxA F M rfl rfl rfl rfl rfl ?_; clear F a M; intro b3 w M a F
 refine s_alc F M rfl rfl rfl rfl zr_25 rfl ?_; clear F a M; intro b4 w M a F
 refine t_endM M ?_; clear M; intro w M
 refine wp_seq ?_
 refine cutX (X := (Nat)) (m0 := []) F [0,1,2,3,4] rfl M (fun (d5 : Nat) => True) (fun (d5 : Nat) => [(5,.pointer (some ⟨d5,0,none⟩)),(6,.bool (decide (p % 115792089210356248762697446949407573529996955224135760342422259061068512044369 < q % 115792089210356248762697446949407573529996955224135760342422259061068512044369)))]) (fun (d5 : Nat) => [blk d5 (.cells (#[u6 ((p % 115792089210356248762697446949407573529996955224135760342422259061068512044369 + 115792089237316195423570985008687907853269984665640564039457584007913129639936 - q % 115792089210356248762697446949407573529996955224135760342422259061068512044369) % 18446744073709551616),u6 ((p % 115792089210356248762697446949407573529996955224135760342422259061068512044369 + 115792089237316195423570985008687907853269984665640564039457584007913129639936 - q % 115792089210356248762697446949407573529996955224135760342422259061068512044369) / 18446744073709551616 % 18446744073709551616),u6 ((p % 115792089210356248762697446949407573529996955224135760342422259061068512044369 + 115792089237316195423570985008687907853269984665640564039457584007913129639936 - q % 115792089210356248762697446949407573529996955224135760342422259061068512044369) / 340282366920938463463374607431768211456 % 18446744073709551616),u6 ((p % 115792089210356248762697446949407573529996955224135760342422259061068512044369 + 115792089237316195423570985008687907853269984665640564039457584007913129639936 - q % 115792089210356248762697446949407573529996955224135760342422259061068512044369) / 6277101735386680763835789423207666416102355444464034512896 % 18446744073709551616)]) 25 (0,0))]) ?_ ?_
 refine wp_region_t [.rd,.wr,.rd,.wr,.wr,.ind,.ind,.ind,.wr,.wr,.ind] [(0,8),(2,1),(2,8)] (.one 0 (.one 2 (.two 1 8 (.two 3 8 (.two 4 8 (otOf [5,6,7,8,9,10]) (otOf [4,5,6,7,9,10])) (otOf [3,4,5,6,7,9,10])) (otOf [1,3,4,5,6,7,9,10])))) mixed (by kernel_rfl) ?_
 refine s_ldaL F rfl rfl rfl rfl ag_25 rfl rfl (cells_whole M.h2) ?_; clear F a; intro a F
 refine s_ldaL F rfl rfl rfl rfl ag_25 rfl rfl (cells_whole M.h1) ?_; clear F a; intro a F
 refine t_two ?_ ?_
 refine s_cqL F M rfl rfl rfl rfl rfl (rfl : _ = some [_]) cb_29 (fun nd_ => c29 p hp _) (fun _ w _ M => (by (refine pend_take (by exact cells_whole M.h1) ?_); (refine pend_skip rfl ?_); exact pend_none)) ?_; clear F a M; rintro v w rfl M a F
 refine t_two ?_ ?_
 refine s_cqL F M rfl rfl rfl rfl rfl (rfl : _ = some [_]) cb_29 (fun nd_ => c29 q hq _) (fun _ w _ M => (by (refine pend_skip rfl ?_); (refine pend_skip rfl ?_); exact pend_none)) ?_; clear F a M; rintro v w rfl M a F
 refine t_two ?_ ?_
 refine s_cqL F M rfl rfl rfl rfl rfl (rfl : _ = some [_,_]) cb_28 (fun nd_ => c28 (p % 115792089210356248762697446949407573529996955224135760342422259061068512044369) (q % 115792089210356248762697446949407573529996955224135760342422259061068512044369) (by omega) (by omega) _) (fun _ w _ M => (by (refine pend_skip rfl ?_); (refine pend_skip rfl ?_); exact pend_none)) ?_; clear F a M; rintro v w rfl M a F
 refine s_rn 3 F rfl rfl ?_; clear F a; intro a F
 refine s_alcL F M rfl rfl rfl rfl zr_25 rfl (fun b w M => (by (refine pend_take (by exact cells_whole M.h2) ?_); (refine pend_take (by exact cells_whole M.h3) ?_); exact pend_none)) ?_; clear F a M; intro b5 w M a F
 refine s_stWL F M rfl rfl rfl sz_25 rfl rfl rfl rfl rfl (fun w M => (by (refine pend_skip rfl ?_); (refine pend_skip rfl ?_); exact pend_none)) ?_; clear M; intro w M
 refine s_one F rfl ?_; clear F a; intro a F
 refine t_endM M ?_; clear M; intro w M
 refine joined (b5) trivial (F.keep [5,6,0,1,2,3,4] rfl) ?_
 try dsimp only [List.cons_append,List.nil_append]
 refine M.pick ?_; repeat (first | exact PkG.nil | refine PkG.cons 0 rfl rfl ?_ | refine PkG.cons 1 rfl rfl ?_ | refine PkG.cons 2 rfl rfl ?_ | refine PkG.cons 3 rfl rfl ?_)
 refine s_alcL F M rfl rfl rfl rfl zr_25 rfl (fun b w M => (by (refine pend_take (by exact cells_whole M.h2) ?_); (refine pend_take (by exact cells_whole M.h3) ?_); exact pend_none)) ?_; clear F a M; intro b5 w M a F
 refine s_cqL F M rfl rfl rfl rfl rfl (rfl : _ = some [_,_]) cb_28 (fun nd_ => c28 (p % 115792089210356248762697446949407573529996955224135760342422259061068512044369) (q % 115792089210356248762697446949407573529996955224135760342422259061068512044369) (by omega) (by omega) _) (fun _ w _ M => (by (refine pend_skip rfl ?_); (refine pend_skip rfl ?_); exact pend_none)) ?_; clear F a M; rintro v w rfl M a F
 refine s_rn 3 F rfl rfl ?_; clear F a; intro a F
 refine s_stWL F M rfl rfl rfl sz_25 rfl rfl rfl rfl rfl (fun w M => (by (refine pend_skip rfl ?_); (refine pend_skip rfl ?_); exact pend_none)) ?_; clear M; intro w M
 refine s_one F rfl ?_; clear F a; intro a F
 refine t_endM M ?_; clear M; intro w M
 refine joined (b5) trivial (F.keep [5,6,0,1,2,3,4] rfl) ?_
 try dsimp only [List.cons_append,List.nil_append]
 refine M.pick ?_; repeat (first | exact PkG.nil | refine PkG.cons 0 rfl rfl ?_ | refine PkG.cons 1 rfl rfl ?_ | refine PkG.cons 2 rfl rfl ?_ | refine PkG.cons 3 rfl rfl ?_)
 refine s_alcL F M rfl rfl rfl rfl zr_25 rfl (fun b w M => (by (refine pend_take (by exact cells_whole M.h2) ?_); (refine pend_take (by exact cells_whole M.h3) ?_); exact pend_none)) ?_; clear F a M; intro b5 w M a F
 refine s_cqL F M rfl rfl rfl rfl rfl (rfl : _ = some [_]) cb_29 (fun nd_ => c29 q hq _) (fun _ w _ M => (by (refine pend_skip rfl ?_); (refine pend_skip rfl ?_); exact pend_none)) ?_; clear F a M; rintro v w rfl M a F
 refine s_cqL F M rfl rfl rfl rfl rfl (rfl : _ = some [_,_]) cb_28 (fun nd_ => c28 (p % 115792089210356248762697446949407573529996955224135760342422259061068512044369) (q % 115792089210356248762697446949407573529996955224135760342422259061068512044369) (by omega) (by omega) _) (fun _ w _ M => (by (refine pend_skip rfl ?_); (refine pend_skip rfl ?_); exact pend_none)) ?_; clear F a M; rintro v w rfl M a F
 refine s_rn 3 F rfl rfl ?_; clear F a; intro a F
 refine s_stWL F M rfl rfl rfl sz_25 rfl rfl rfl rfl rfl (fun w M => (by (refine pend_skip rfl ?_); (refine pend_skip rfl ?_); exact pend_none)) ?_; clear M; intro w M
 refine s_one F rfl ?_; clear F a; intro a F
 refine t_endM M ?_; clear M; intro w M
 refine joined (b5) trivial (F.keep [5,6,0,1,2,3,4] rfl) ?_
 try dsimp only [List.cons_append,List.nil_append]
 refine M.pick ?_; repeat (first | exact PkG.nil | refine PkG.cons 0 rfl rfl ?_ | refine PkG.cons 1 rfl rfl ?_ | refine PkG.cons 2 rfl rfl ?_ | refine PkG.cons 3 rfl rfl ?_)
 refine s_alcL F M rfl rfl rfl rfl zr_25 rfl (fun b w M => (by (refine pend_take (by exact cells_whole M.h2) ?_); (refine pend_take (by exact cells_whole M.h3) ?_); exact pend_none)) ?_; clear F a M; intro b5 w M a F
 refine s_cqL F M rfl rfl rfl rfl rfl (rfl : _ = some [_]) cb_29 (fun nd_ => c29 p hp _) (fun _ w _ M => (by (refine pend_take (by exact cells_whole M.h2) ?_); (refine pend_skip rfl ?_); exact pend_none)) ?_; clear F a M; rintro v w rfl M a F
 refine s_cqL F M rfl rfl rfl rfl rfl (rfl : _ = some [_]) cb_29 (fun nd_ => c29 q hq _) (fun _ w _ M => (by (refine pend_skip rfl ?_); (refine pend_skip rfl ?_); exact pend_none)) ?_; clear F a M; rintro v w rfl M a F
 refine s_cqL F M rfl rfl rfl rfl rfl (rfl : _ = some [_,_]) cb_28 (fun nd_ => c28 (p % 115792089210356248762697446949407573529996955224135760342422259061068512044369) (q % 115792089210356248762697446949407573529996955224135760342422259061068512044369) (by omega) (by omega) _) (fun _ w _ M => (by (refine pend_skip rfl ?_); (refine pend_skip rfl ?_); exact pend_none)) ?_; clear F a M; rintro v w rfl M a F
 refine s_rn 3 F rfl rfl ?_; clear F a; intro a F
 refine s_stWL F M rfl rfl rfl sz_25 rfl rfl rfl rfl rfl (fun w M => (by (refine pend_skip rfl ?_); (refine pend_skip rfl ?_); exact pend_none)) ?_; clear M; intro w M
 refine s_one F rfl ?_; clear F a; intro a F
 refine t_endM M ?_; clear M; intro w M
 refine joined (b5) trivial (F.keep [5,6,0,1,2,3,4] rfl) ?_
 try dsimp only [List.cons_append,List.nil_append]
 refine M.pick ?_; repeat (first | exact PkG.nil | refine PkG.cons 0 rfl rfl ?_ | refine PkG.cons 1 rfl rfl ?_ | refine PkG.cons 2 rfl rfl ?_ | refine PkG.cons 3 rfl rfl ?_)
 clear F M; clear a; (try clear w)
 rintro d5 a w _ F M; try dsimp only at F M
 try simp only [List.cons_append,List.nil_append] at F M
 refine wp_seq (wp_seq (wp_region_l [.ind] ([0]) rfl ?_))
 refine s_one F rfl ?_; clear F a; intro a F
 refine t_endM M ?_; clear M; intro w M
 refine c_if F rfl ?_ ?_
 clear F; intro hc0 F
 try rw [hc0] at F
 replace hc0 := of_decide_eq_true hc0
 replace F := F.keep [0,1,2,3,4,5,6] rfl
 refine wp_region_t [.rd,.wr,.wr,.ind,.ind,.ind,.wr] [(0,1)] (otOf [0,1,2,3,4,5,6]) mixed (by kernel_rfl) ?_
 refine s_ldaL F rfl rfl rfl rfl ag_25 rfl rfl (cells_whole M.h0) ?_; clear F a; intro a F
 refine s_cqL F M rfl rfl rfl rfl rfl (rfl : _ = some []) cb_14 (fun nd_ => c14 _) (fun _ w _ M => (by (refine pend_take (by exact cells_whole M.h0) ?_); exact pend_none)) ?_; clear F a M; rintro v w rfl M a F
 refine s_cqL F M rfl rfl rfl rfl rfl (rfl : _ = some [_,_]) cb_30 (fun nd_ => c30g (p % 115792089210356248762697446949407573529996955224135760342422259061068512044369 + 115792089237316195423570985008687907853269984665640564039457584007913129639936 - q % 115792089210356248762697446949407573529996955224135760342422259061068512044369) 115792089210356248762697446949407573529996955224135760342422259061068512044369 _) (fun _ w _ M => (by (refine pend_skip rfl ?_); exact pend_none)) ?_; clear F a M; rintro v w rfl M a F
 refine s_rn 3 F rfl rfl ?_; clear F a; intro a F
 refine s_stWL F M rfl rfl rfl sz_25 rfl rfl rfl rfl rfl (fun w M => (by (refine pend_skip rfl ?_); exact pend_none)) ?_; clear M; intro w M
 refine t_endM M ?_; clear M; intro w M
 refine wp_seq ?_
 replace F := F.keep [0,1,2,3,4,5,6] rfl
 refine wp_region_l [.rd,.wr] ([0,1]) rfl ?_
 refine s_lda F rfl rfl rfl rfl ag_25 rfl rfl (cells_whole M.h0) ?_; clear F a; intro a F
 refine s_stW F M.f1 rfl rfl rfl sz_25 rfl rfl rfl rfl rfl ?_; clear M; intro w M
 refine t_endM M ?_; clear M; intro w M
 refine wp_ret ?_
 refine rt1 F rfl (by exact rv_a F rfl ag_25 rfl (cells_whole M.h0)) ?_
 refine ⟨_,rfl,?_,M.chg⟩
 clear M F
 exact nV_congr (by omega)
 clear F; intro hc1 F
 try rw [hc1] at F
 replace hc1 := of_decide_eq_false hc1
 refine wp_skip (wp_seq ?_)
 replace F := F.keep [0,1,2,3,4,5,6] rfl
 refine wp_region_l [.rd,.wr] ([0,1]) rfl ?_
 refine s_lda F rfl rfl rfl rfl ag_25 rfl rfl (cells_whole M.h0) ?_; clear F a; intro a F
 refine s_stW F M.f1 rfl rfl rfl sz_25 rfl rfl rfl rfl rfl ?_; clear M; intro w M
 refine t_endM M ?_; clear M; intro w M
 refine wp_ret ?_
 refine rt1 F rfl (by exact rv_a F rfl ag_25 rfl (cells_whole M.h0)) ?_
 refine ⟨_,rfl,?_,M.chg⟩
 clear M F
 exact nV_congr (by omega)
end Go.Proofs.YteajeenmojbjhaaGreatDoor
namespace Go.Proofs.YteajeenmojbjhaaGreatDoor
open Go Fw
theorem cb_130_N4 : callB Tryz.prog 130 = true := by kernel_rfl
theorem bl_136_0_1_2_N4 : ∀ (x0_0 : Int) (x0_1 : Int) (x0_2 : Int) (x0_3 : Int) (x1 : Int) (x2_0 : Int) (x2_1 : Int) (x2_2 : Int) (x2_3 : Int),∀ w : World,(Instr.build 136 #[(0,.agg #[.int .u64 x0_0,.int .u64 x0_1,.int .u64 x0_2,.int .u64 x0_3]),(1,.int .u64 x1),(2,.agg #[.int .u64 x2_0,.int .u64 x2_1,.int .u64 x2_2,.int .u64 x2_3])]).run Tryz.prog w = .ok (.agg #[.int .u64 x0_0,.int .u64 x0_1,.int .u64 x0_2,.int .u64 x0_3,.int .u64 x1,.int .u64 x2_0,.int .u64 x2_1,.int .u64 x2_2,.int .u64 x2_3]) w := by intros; kernel_rfl
theorem cb_80_N4 : callB Tryz.prog 80 = true := by kernel_rfl
theorem cb_79_N4 : callB Tryz.prog 79 = true := by kernel_rfl
abbrev mC (m n rr : Nat) : Array Value := #[u6 (m % 18446744073709551616),u6 (m / 18446744073709551616 % 18446744073709551616),u6 (m / 340282366920938463463374607431768211456 % 18446744073709551616),u6 (m / 6277101735386680763835789423207666416102355444464034512896 % 18446744073709551616),u6 n,u6 (rr % 18446744073709551616),u6 (rr / 18446744073709551616 % 18446744073709551616),u6 (rr / 340282366920938463463374607431768211456 % 18446744073709551616),u6 (rr / 6277101735386680763835789423207666416102355444464034512896 % 18446744073709551616)]
abbrev mV (m n rr : Nat) : Value := .agg (mC m n rr)
theorem mC_M {w : World} {b m n rr : Nat} {T : TypeId} {fz : Nat × Nat} (hb : w.heap[b]? = some (.cells (mC m n rr) T fz)) : ∀ j v,(#[u6 (m % 18446744073709551616),u6 (m / 18446744073709551616 % 18446744073709551616),u6 (m / 340282366920938463463374607431768211456 % 18446744073709551616),u6 (m / 6277101735386680763835789423207666416102355444464034512896 % 18446744073709551616)] : Array Value)[j]? = some v → w.cell? ((⟨b,0,none⟩ : Addr).add j) = some v := by
 refine cells_part hb fun j v hv => ?_
 have hj : j < 4 := (Array.getElem?_eq_some_iff.1 hv).1
 have : j = 0 ∨ j = 1 ∨ j = 2 ∨ j = 3 := by omega
 rcases this with rfl | rfl | rfl | rfl <;> exact hv
theorem mC_R {w : World} {b m n rr : Nat} {T : TypeId} {fz : Nat × Nat} (hb : w.heap[b]? = some (.cells (mC m n rr) T fz)) : ∀ j v,(#[u6 (rr % 18446744073709551616),u6 (rr / 18446744073709551616 % 18446744073709551616),u6 (rr / 340282366920938463463374607431768211456 % 18446744073709551616),u6 (rr / 6277101735386680763835789423207666416102355444464034512896 % 18446744073709551616)] : Array Value)[j]? = some v → w.cell? ((⟨b,5,none⟩ : Addr).add j) = some v := by
 refine cells_part hb fun j v hv => ?_
 have hj : j < 4 := (Array.getElem?_eq_some_iff.1 hv).1
 have : j = 0 ∨ j = 1 ∨ j = 2 ∨ j = 3 := by omega
 rcases this with rfl | rfl | rfl | rfl <;> exact hv
def cutN (m x : Nat) : Nat := if x < m then x else x - m
def addN (m x y : Nat) : Nat := if x + y < m then x + y else x + y - m
def subN (m x y : Nat) : Nat := if x < y then x + m - y else x - y
theorem cutN_mod {m x : Nat} (h : x < 2 * m) : cutN m x = x % m := by
 unfold cutN
 split
 · exact (Nat.mod_eq_of_lt (by assumption)).symm
 · rw [Nat.mod_eq_sub_mod (by omega),Nat.mod_eq_of_lt (by omega)]
theorem addN_mod {m x y : Nat} (hx : x < m) (hy : y < m) : addN m x y = (x + y) % m := by
 have := cutN_mod (m := m) (x := x + y) (by omega)
 unfold cutN at this; unfold addN; exact this
set_option maxRecDepth 100000 in
set_option maxHeartbeats 400000 in
theorem c80 (m n rr : Nat) (hm : m < 115792089237316195423570985008687907853269984665640564039457584007913129639936) (p : Nat) (hp : p < 115792089237316195423570985008687907853269984665640564039457584007913129639936) (w0 : World) : Cl Tryz.prog 80 #[mV m n rr,nV p] w0 (RetQ w0 fun r => r = nV (cutN m p)) := by
 have M : Sep (fun _ => False) w0 w0 _ := Sep.nil _ w0
 refine enter (vs := [_,_]) Tryz.func80 rfl rfl rfl ?_
 intro a F
 refine wp_seq (wp_region_l [.wr,.wr,.wr] ([0,1,2]) rfl ?_)
 refine s_bxA F M rfl rfl rfl rfl rfl ?_; clear F a M; intro b2 w M a F
 refine s_bxA F M rfl rfl rfl rfl rfl ?_; clear F a M; intro b3 w M a F
 refine s_alc F M rfl rfl rfl rfl zr_25 rfl ?_; clear F a M; intro b4 w M a F
 refine t_endM M ?_; clear M; intro w M
 refine wp_seq (wp_seq (wp_region_l [.rd,.ind,.rd,.wr,.ind,.ind,.ind,.wr,.wr,.ind] ([0,1,2,3,4,5,6,7,8,9]) rfl ?_))
 refine s_lda F rfl rfl rfl rfl ag_25 rfl rfl (cells_whole M.h1) ?_; clear F a; intro a F
 refine s_fa0 F rfl rfl rfl rfl fa_136_0 rfl ?_; clear F a; intro a F
 refine s_lda F rfl rfl rfl rfl ag_25 rfl rfl (mC_M M.h2) ?_; clear F a; intro a F
 refine s_cq F M rfl rfl rfl rfl rfl (rfl : _ = some [_,_]) cb_131 (fun nd_ => c131 p m hp hm _) ?_; clear F a M; rintro v w rfl M a F
 refine s_rn 3 F rfl rfl ?_; clear F a; intro a F
 refine s_alc F M rfl rfl rfl rfl zr_25 rfl ?_; clear F a M; intro b5 w M a F
 refine s_stW F M rfl rfl rfl sz_25 rfl rfl rfl rfl rfl ?_; clear M; intro w M
 refine s_one F rfl ?_; clear F a; intro a F
 refine t_endM M ?_; clear M; intro w M
 refine wp_seq ?_
 replace F := F.keep [0,1,2,3,4,5,6] rfl
 refine wp_region_l [.ind,.ind] ([0,1]) rfl ?_
 refine s_rn 2 F rfl rfl ?_; clear F a; intro a F
 refine t_endM M ?_; clear M; intro w M
 refine c_if F rfl ?_ ?_
 clear F; intro hc0 F
 try rw [hc0] at F
 replace hc0 := nd1 hc0
 refine wp_seq ?_
 replace F := F.keep [0,1,2,3,4,5,6] rfl
 refine wp_region_l [.rd,.wr] ([0,1]) rfl ?_
 refine s_lda F rfl rfl rfl rfl ag_25 rfl rfl (cells_whole M.h0) ?_; clear F a; intro a F
 refine s_stW F M.f1 rfl rfl rfl sz_25 rfl rfl rfl rfl rfl ?_; clear M; intro w M
 refine t_endM M ?_; clear M; intro w M
 refine wp_ret ?_
 refine rt1 F rfl (by exact rv_a F rfl ag_25 rfl (cells_whole M.h0)) ?_
 refine ⟨_,rfl,?_,M.chg⟩
 clear M F
 exact nV_congr (by unfold cutN; rw [if_neg (by omega)] <;> omega)
 clear F; intro hc1 F
 try rw [hc1] at F
 replace hc1 := nd0 hc1
 refine wp_skip (wp_seq ?_)
 replace F := F.keep [0,1,2,3,4,5,6] rfl
 refine wp_region_l [.rd,.wr] ([0,1]) rfl ?_
 refine s_lda F rfl rfl rfl rfl ag_25 rfl rfl (cells_whole M.h2) ?_; clear F a; intro a F
 refine s_stW F M.f1 rfl rfl rfl sz_25 rfl rfl rfl rfl rfl ?_; clear M; intro w M
 refine t_endM M ?_; clear M; intro w M
 refine wp_ret ?_
 refine rt1 F rfl (by exact rv_a F rfl ag_25 rfl (cells_whole M.h0)) ?_
 refine ⟨_,rfl,?_,M.chg⟩
 clear M F
 exact nV_congr (by unfold cutN; rw [if_pos (by omega)] <;> omega)
set_option maxRecDepth 100000 in
set_option maxHeartbeats 400000 in
theorem c133 (m n rr : Nat) (hm : m < 115792089237316195423570985008687907853269984665640564039457584007913129639936) (p : Nat) (hp : p < 115792089237316195423570985008687907853269984665640564039457584007913129639936) (w0 : World) : Cl Tryz.prog 133 #[mV m n rr,nV p] w0 (RetQ w0 fun r => r = .bool (decide (p < m))) := by
 have M : Sep (fun _ => False) w0 w0 _ := Sep.nil _ w0
 refine enter (vs := [_,_]) Tryz.func133 rfl rfl rfl ?_
 intro a F
 refine wp_seq (wp_region_l [.wr,.wr,.ind] ([0,1,2]) rfl ?_)
 refine s_bxA F M rfl rfl rfl rfl rfl ?_; clear F a M; intro b2 w M a F
 refine s_bxA F M rfl rfl rfl rfl rfl ?_; clear F a M; intro b3 w M a F
 refine s_one F rfl ?_; clear F a; intro a F
 refine t_endM M ?_; clear M; intro w M
 refine wp_seq (wp_region_l [.rd,.ind,.rd,.wr,.ind,.ind,.ind,.wr,.wr,.ind] ([0,1,2,3,4,5,6,7,8,9]) rfl ?_)
 refine s_lda F rfl rfl rfl rfl ag_25 rfl rfl (cells_whole M.h0) ?_; clear F a; intro a F
 refine s_fa0 F rfl rfl rfl rfl fa_136_0 rfl ?_; clear F a; intro a F
 refine s_lda F rfl rfl rfl rfl ag_25 rfl rfl (mC_M M.h1) ?_; clear F a; intro a F
 refine s_cq F M rfl rfl rfl rfl rfl (rfl : _ = some [_,_]) cb_131 (fun nd_ => c131 p m hp hm _) ?_; clear F a M; rintro v w rfl M a F
 refine s_rn 3 F rfl rfl ?_; clear F a; intro a F
 refine s_alc F M rfl rfl rfl rfl zr_25 rfl ?_; clear F a M; intro b5 w M a F
 refine s_stW F M rfl rfl rfl sz_25 rfl rfl rfl rfl rfl ?_; clear M; intro w M
 refine s_one F rfl ?_; clear F a; intro a F
 refine t_endM M ?_; clear M; intro w M
 refine wp_seq ?_
 replace F := F.keep [0,1,2,3,4,6] rfl
 refine wp_region_l [.ind,.ind] ([0,1]) rfl ?_
 refine s_rn 2 F rfl rfl ?_; clear F a; intro a F
 refine t_endM M ?_; clear M; intro w M
 refine wp_ret ?_
 refine ret1 F rfl rfl ?_
 exact ⟨_,rfl,rfl,M.chg⟩
set_option maxRecDepth 100000 in
set_option maxHeartbeats 400000 in
theorem c79 (m n rr : Nat) (hm : m < 115792089237316195423570985008687907853269984665640564039457584007913129639936) (p q : Nat) (hp : p < m) (hq : q < m) (w0 : World) : Cl Tryz.prog 79 #[mV m n rr,nV p,nV q] w0 (RetQ w0 fun r => r = nV (addN m p q)) := by
 have M : Sep (fun _ => False) w0 w0 _ := Sep.nil _ w0
 refine enter (vs := [_,_,_]) Tryz.func79 rfl rfl rfl ?_
 intro a F
 refine wp_seq (wp_region_l [.wr,.wr,.wr,.wr] ([0,1,2,3]) rfl ?_)
 refine s_bxA F M rfl rfl rfl rfl rfl ?_; clear F a M; intro b3 w M a F
 refine s_bxA F M rfl rfl rfl rfl rfl ?_; clear F a M; intro b4 w M a F
 refine s_bxA F M rfl rfl rfl rfl rfl ?_; clear F a M; intro b5 w M a F
 refine s_alc F M rfl rfl rfl rfl zr_25 rfl ?_; clear F a M; intro b6 w M a F
 refine t_endM M ?_; clear M; intro w M
 refine wp_seq (wp_region_l [.rd,.rd,.wr,.ind,.ind,.ind,.wr,.wr,.ind] ([0,1,2,3,4,5,6,7,8]) rfl ?_)
 refine s_lda F rfl rfl rfl rfl ag_25 rfl rfl (cells_whole M.h2) ?_; clear F a; intro a F
 refine s_lda F rfl rfl rfl rfl ag_25 rfl rfl (cells_whole M.h1) ?_; clear F a; intro a F
 refine s_cq F M rfl rfl rfl rfl rfl (rfl : _ = some [_,_]) cb_130_N4 (fun nd_ => c130 p q (by omega) (by omega) _) ?_; clear F a M; rintro v w rfl M a F
 refine s_rn 3 F rfl rfl ?_; clear F a; intro a F
 refine s_alc F M rfl rfl rfl rfl zr_25 rfl ?_; clear F a M; intro b7 w M a F
 refine s_stW F M rfl rfl rfl sz_25 rfl rfl rfl rfl rfl ?_; clear M; intro w M
 refine s_one F rfl ?_; clear F a; intro a F
 refine t_endM M ?_; clear M; intro w M
 refine wp_seq ?_
 replace F := F.keep [0,1,2,3,4,5,6,7,8] rfl
 refine wp_region_l [.rd,.ind,.rd,.wr,.ind,.ind,.ind,.wr,.wr,.ind] ([0,1,2,3,4,5,6,7,8,9]) rfl ?_
 refine s_lda F rfl rfl rfl rfl ag_25 rfl rfl (cells_whole M.h0) ?_; clear F a; intro a F
 refine s_fa0 F rfl rfl rfl rfl fa_136_0 rfl ?_; clear F a; intro a F
 refine s_lda F rfl rfl rfl rfl ag_25 rfl rfl (mC_M M.h4) ?_; clear F a; intro a F
 refine s_cq F M rfl rfl rfl rfl rfl (rfl : _ = some [_,_]) cb_131 (fun nd_ => c131g (p + q) m _) ?_; clear F a M; rintro v w rfl M a F
 refine s_rn 3 F rfl rfl ?_; clear F a; intro a F
 refine s_alc F M rfl rfl rfl rfl zr_25 rfl ?_; clear F a M; intro b9 w M a F
 refine s_stW F M rfl rfl rfl sz_25 rfl rfl rfl rfl rfl ?_; clear M; intro w M
 refine s_one F rfl ?_; clear F a; intro a F
 refine t_endM M ?_; clear M; intro w M
 refine wp_seq (wp_seq ?_)
 replace F := F.keep [0,1,2,3,4,5,6,7,8,9,10] rfl
 refine wp_region_l [.ind,.ind,.ind,.ind,.ind] ([0,1,2,3,4]) rfl ?_
 refine s_rn 2 F rfl rfl ?_; clear F a; intro a F
 refine bsplit F 25 rfl ?_ ?_
 clear F; intro hc0 F
 try rw [hc0] at F
 replace hc0 := of_decide_eq_true hc0
 refine s_rn 3 F rfl rfl ?_; clear F a; intro a F
 refine t_endM M ?_; clear M; intro w M
 refine c_t F rfl ?_
 refine wp_seq ?_
 replace F := F.keep [0,1,2,3,4,5,6,7,8,9,10] rfl
 refine wp_region_l [.rd,.wr] ([0,1]) rfl ?_
 refine s_lda F rfl rfl rfl rfl ag_25 rfl rfl (cells_whole M.h0) ?_; clear F a; intro a F
 refine s_stW F M.f2 rfl rfl rfl sz_25 rfl rfl rfl rfl rfl ?_; clear M; intro w M
 refine t_endM M ?_; clear M; intro w M
 refine wp_ret ?_
 refine rt1 F rfl (by exact rv_a F rfl ag_25 rfl (cells_whole M.h0)) ?_
 try rw [Nat.mod_eq_of_lt hm] at *
 refine ⟨_,rfl,?_,M.chg⟩
 clear M F
 exact nV_congr (by unfold addN; rw [if_neg (by omega)] <;> omega)
 clear F; intro hc1 F
 try rw [hc1] at F
 replace hc1 := of_decide_eq_false hc1
 refine s_rn 3 F rfl rfl ?_; clear F a; intro a F
 refine t_endM M ?_; clear M; intro w M
 refine c_if F rfl ?_ ?_
 clear F; intro hc2 F
 try rw [hc2] at F
 replace hc2 := nd1 hc2
 refine wp_seq ?_
 replace F := F.keep [0,1,2,3,4,5,6,7,8,9,10] rfl
 refine wp_region_l [.rd,.wr] ([0,1]) rfl ?_
 refine s_lda F rfl rfl rfl rfl ag_25 rfl rfl (cells_whole M.h0) ?_; clear F a; intro a F
 refine s_stW F M.f2 rfl rfl rfl sz_25 rfl rfl rfl rfl rfl ?_; clear M; intro w M
 refine t_endM M ?_; clear M; intro w M
 refine wp_ret ?_
 refine rt1 F rfl (by exact rv_a F rfl ag_25 rfl (cells_whole M.h0)) ?_
 try rw [Nat.mod_eq_of_lt hm] at *
 refine ⟨_,rfl,?_,M.chg⟩
 clear M F
 exact nV_congr (by unfold addN; rw [if_neg (by omega)] <;> omega)
 clear F; intro hc3 F
 try rw [hc3] at F
 replace hc3 := nd0 hc3
 refine wp_skip (wp_seq ?_)
 replace F := F.keep [0,1,2,3,4,5,6,7,8,9,10] rfl
 refine wp_region_l [.rd,.wr] ([0,1]) rfl ?_
 refine s_lda F rfl rfl rfl rfl ag_25 rfl rfl (cells_whole M.h1) ?_; clear F a; intro a F
 refine s_stW F M.f2 rfl rfl rfl sz_25 rfl rfl rfl rfl rfl ?_; clear M; intro w M
 refine t_endM M ?_; clear M; intro w M
 refine wp_ret ?_
 refine rt1 F rfl (by exact rv_a F rfl ag_25 rfl (cells_whole M.h0)) ?_
 try rw [Nat.mod_eq_of_lt hm] at *
 refine ⟨_,rfl,?_,M.chg⟩
 clear M F
 exact nV_congr (by unfold addN; rw [if_pos (by omega)] <;> omega)
set_option maxRecDepth 100000 in
set_option maxHeartbeats 400000 in
theorem c137 (m n rr : Nat) (hm : m < 115792089237316195423570985008687907853269984665640564039457584007913129639936) (p q : Nat) (hp : p < m) (hq : q < m) (w0 : World) : Cl Tryz.prog 137 #[mV m n rr,nV p,nV q] w0 (RetQ w0 fun r => r = nV (subN m p q)) := by
 have M : Sep (fun _ => False) w0 w0 _ := Sep.nil _ w0
 refine enter (vs := [_,_,_]) Tryz.func137 rfl rfl rfl ?_
 intro a F
 refine wp_seq (wp_region_l [.wr,.wr,.wr,.wr] ([0,1,2,3]) rfl ?_)
 refine s_bxA F M rfl rfl rfl rfl rfl ?_; clear F a M; intro b3 w M a F
 refine s_bxA F M rfl rfl rfl rfl rfl ?_; clear F a M; intro b4 w M a F
 refine s_bxA F M rfl rfl rfl rfl rfl ?_; clear F a M; intro b5 w M a F
 refine s_alc F M rfl rfl rfl rfl zr_25 rfl ?_; clear F a M; intro b6 w M a F
 refine t_endM M ?_; clear M; intro w M
 refine wp_seq (wp_region_l [.rd,.rd,.wr,.ind,.ind,.ind,.wr,.wr,.ind] ([0,1,2,3,4,5,6,7,8]) rfl ?_)
 refine s_lda F rfl rfl rfl rfl ag_25 rfl rfl (cells_whole M.h2) ?_; clear F a; intro a F
 refine s_lda F rfl rfl rfl rfl ag_25 rfl rfl (cells_whole M.h1) ?_; clear F a; intro a F
 refine s_cq F M rfl rfl rfl rfl rfl (rfl : _ = some [_,_]) cb_131 (fun nd_ => c131 p q (by omega) (by omega) _) ?_; clear F a M; rintro v w rfl M a F
 refine s_rn 3 F rfl rfl ?_; clear F a; intro a F
 refine s_alc F M rfl rfl rfl rfl zr_25 rfl ?_; clear F a M; intro b7 w M a F
 refine s_stW F M rfl rfl rfl sz_25 rfl rfl rfl rfl rfl ?_; clear M; intro w M
 refine s_one F rfl ?_; clear F a; intro a F
 refine t_endM M ?_; clear M; intro w M
 refine wp_seq (wp_seq ?_)
 replace F := F.keep [0,1,2,3,4,5,6,7,8] rfl
 refine wp_region_l [.ind] ([0]) rfl ?_
 refine s_one F rfl ?_; clear F a; intro a F
 refine t_endM M ?_; clear M; intro w M
 refine c_if F rfl ?_ ?_
 clear F; intro hc0 F
 try rw [hc0] at F
 replace hc0 := of_decide_eq_true hc0
 replace F := F.keep [0,1,2,3,4,5,6,7,8] rfl
 refine wp_region_l [.rd,.ind,.rd,.wr,.ind,.ind,.ind,.wr] ([0,1,2,3,4,5,6,7]) rfl ?_
 refine s_lda F rfl rfl rfl rfl ag_25 rfl rfl (cells_whole M.h0) ?_; clear F a; intro a F
 refine s_fa0 F rfl rfl rfl rfl fa_136_0 rfl ?_; clear F a; intro a F
 refine s_lda F rfl rfl rfl rfl ag_25 rfl rfl (mC_M M.h4) ?_; clear F a; intro a F
 refine s_cq F M rfl rfl rfl rfl rfl (rfl : _ = some [_,_]) cb_130_N4 (fun nd_ => c130g (p + 115792089237316195423570985008687907853269984665640564039457584007913129639936 - q) m _) ?_; clear F a M; rintro v w rfl M a F
 refine s_rn 3 F rfl rfl ?_; clear F a; intro a F
 refine s_stW F M rfl rfl rfl sz_25 rfl rfl rfl rfl rfl ?_; clear M; intro w M
 refine t_endM M ?_; clear M; intro w M
 refine wp_seq ?_
 replace F := F.keep [0,1,2,3,4,5,6,7,8] rfl
 refine wp_region_l [.rd,.wr] ([0,1]) rfl ?_
 refine s_lda F rfl rfl rfl rfl ag_25 rfl rfl (cells_whole M.h0) ?_; clear F a; intro a F
 refine s_stW F M.f1 rfl rfl rfl sz_25 rfl rfl rfl rfl rfl ?_; clear M; intro w M
 refine t_endM M ?_; clear M; intro w M
 refine wp_ret ?_
 refine rt1 F rfl (by exact rv_a F rfl ag_25 rfl (cells_whole M.h0)) ?_
 refine ⟨_,rfl,?_,M.chg⟩
 clear M F
 exact nV_congr (by unfold subN; rw [if_pos (by omega)] <;> omega)
 clear F; intro hc1 F
 try rw [hc1] at F
 replace hc1 := of_decide_eq_false hc1
 refine wp_skip (wp_seq ?_)
 replace F := F.keep [0,1,2,3,4,5,6,7,8] rfl
 refine wp_region_l [.rd,.wr] ([0,1]) rfl ?_
 refine s_lda F rfl rfl rfl rfl ag_25 rfl rfl (cells_whole M.h0) ?_; clear F a; intro a F
 refine s_stW F M.f1 rfl rfl rfl sz_25 rfl rfl rfl rfl rfl ?_; clear M; intro w M
 refine t_endM M ?_; clear M; intro w M
 refine wp_ret ?_
 refine rt1 F rfl (by exact rv_a F rfl ag_25 rfl (cells_whole M.h0)) ?_
 refine ⟨_,rfl,?_,M.chg⟩
 clear M F
 exact nV_congr (by unfold subN; rw [if_neg (by omega)] <;> omega)
set_option maxRecDepth 100000 in
set_option maxHeartbeats 400000 in
theorem c78 (w0 : World) : Cl Tryz.prog 78 #[] w0 (RetQ w0 fun r => r = mV 115792089210356248762697446949407573529996955224135760342422259061068512044369 14758798090332847183 46533765739406314298121036767150998762426774378559716911348521029833835802274) := by
 have M : Sep (fun _ => False) w0 w0 _ := Sep.nil _ w0
 refine enter (vs := []) Tryz.func78 rfl rfl rfl ?_
 intro a F
 refine wp_seq (wp_region_l [.wr] ([0]) rfl ?_)
 refine s_alc F M rfl rfl rfl rfl zr_136 rfl ?_; clear F a M; intro b0 w M a F
 refine t_endM M ?_; clear M; intro w M
 refine wp_seq (wp_region_l [.ind,.ind,.ind,.wr] ([0,1,2,3]) rfl ?_)
 refine s_bld F rfl rfl rfl rfl (parts4 F rfl rfl rfl rfl) (bl_25_0_1_2_3 _ _ _ _) ?_; clear F a; intro a F
 refine s_bld F rfl rfl rfl rfl (parts4 F rfl rfl rfl rfl) (bl_25_0_1_2_3 _ _ _ _) ?_; clear F a; intro a F
 refine s_bld F rfl rfl rfl rfl (parts3 F rfl rfl rfl) (bl_136_0_1_2_N4 _ _ _ _ _ _ _ _ _) ?_; clear F a; intro a F
 refine s_stW F M rfl rfl rfl sz_136 rfl rfl rfl rfl rfl ?_; clear M; intro w M
 refine t_endM M ?_; clear M; intro w M
 refine wp_ret ?_
 refine rt1 F rfl (by exact rv_a F rfl ag_136 rfl (cells_whole M.h0)) ?_
 exact ⟨_,rfl,rfl,M.chg⟩
set_option maxRecDepth 100000 in
set_option maxHeartbeats 400000 in
theorem c33 (p q : Nat) (hp : p < 115792089237316195423570985008687907853269984665640564039457584007913129639936) (hq : q < 115792089237316195423570985008687907853269984665640564039457584007913129639936) (w0 : World) : Cl Tryz.prog 33 #[nV p,nV q] w0 (RetQ w0 fun r => r = nV ((p + q) % 115792089210356248762697446949407573529996955224135760342422259061068512044369)) := by
 have M : Sep (fun _ => False) w0 w0 _ := Sep.nil _ w0
 refine enter (vs := [_,_]) Tryz.func33 rfl rfl rfl ?_
 intro a F
 refine wp_seq (wp_region_l [.wr,.wr,.wr] ([0,1,2]) rfl ?_)
 refine s_bxA F M rfl rfl rfl rfl rfl ?_; clear F a M; intro b2 w M a F
 refine s_bxA F M rfl rfl rfl rfl rfl ?_; clear F a M; intro b3 w M a F
 refine s_alc F M rfl rfl rfl rfl zr_25 rfl ?_; clear F a M; intro b4 w M a F
 refine t_endM M ?_; clear M; intro w M
 refine wp_seq (wp_region_l [.wr,.wr,.wr] ([0,1,2]) rfl ?_)
 refine s_cq F M rfl rfl rfl rfl rfl (rfl : _ = some []) cb_78 (fun nd_ => c78 _) ?_; clear F a M; rintro v w rfl M a F
 refine s_alc F M rfl rfl rfl rfl zr_136 rfl ?_; clear F a M; intro b5 w M a F
 refine s_stW F M rfl rfl rfl sz_136 rfl rfl rfl rfl rfl ?_; clear M; intro w M
 refine t_endM M ?_; clear M; intro w M
 refine wp_seq ?_
 replace F := F.keep [0,1,2,3,4,5] rfl
 refine wp_region_t [.rd,.rd,.rd,.wr,.rd,.rd,.wr,.wr,.wr] [(0,3),(0,6),(4,3),(5,3)] (otOf [0,1,2,4,5,3,6,7,8]) mixed (by kernel_rfl) ?_
 refine s_ldaL F rfl rfl rfl rfl ag_136 rfl rfl (cells_whole M.h0) ?_; clear F a; intro a F
 refine s_ldaL F rfl rfl rfl rfl ag_136 rfl rfl (cells_whole M.h0) ?_; clear F a; intro a F
 refine s_ldaL F rfl rfl rfl rfl ag_25 rfl rfl (cells_whole M.h3) ?_; clear F a; intro a F
 refine s_ldaL F rfl rfl rfl rfl ag_136 rfl rfl (cells_whole M.h0) ?_; clear F a; intro a F
 refine s_ldaL F rfl rfl rfl rfl ag_25 rfl rfl (cells_whole M.h2) ?_; clear F a; intro a F
 refine s_cqL F M rfl rfl rfl rfl rfl (rfl : _ = some [_,_]) cb_80_N4 (fun nd_ => c80 115792089210356248762697446949407573529996955224135760342422259061068512044369 14758798090332847183 46533765739406314298121036767150998762426774378559716911348521029833835802274 (by decide) p hp _) (fun _ w _ M => (by (refine pend_take (by exact cells_whole M.h2) ?_); (refine pend_take (by exact cells_whole M.h0) ?_); (refine pend_skip rfl ?_); (refine pend_skip rfl ?_); (refine pend_take (by exact cells_whole M.h0) ?_); exact pend_none)) ?_; clear F a M; rintro v w rfl M a F
 rw [cutN_mod (m := 115792089210356248762697446949407573529996955224135760342422259061068512044369) (by omega)] at F
 refine s_cqL F M rfl rfl rfl rfl rfl (rfl : _ = some [_,_]) cb_80_N4 (fun nd_ => c80 115792089210356248762697446949407573529996955224135760342422259061068512044369 14758798090332847183 46533765739406314298121036767150998762426774378559716911348521029833835802274 (by decide) q hq _) (fun _ w _ M => (by (refine pend_skip rfl ?_); (refine pend_skip rfl ?_); (refine pend_skip rfl ?_); (refine pend_skip rfl ?_); (refine pend_take (by exact cells_whole M.h0) ?_); exact pend_none)) ?_; clear F a M; rintro v w rfl M a F
 rw [cutN_mod (m := 115792089210356248762697446949407573529996955224135760342422259061068512044369) (by omega)] at F
 refine s_cqL F M rfl rfl rfl rfl rfl (rfl : _ = some [_,_,_]) cb_79_N4 (fun nd_ => c79 115792089210356248762697446949407573529996955224135760342422259061068512044369 14758798090332847183 46533765739406314298121036767150998762426774378559716911348521029833835802274 (by decide) (p % 115792089210356248762697446949407573529996955224135760342422259061068512044369) (q % 115792089210356248762697446949407573529996955224135760342422259061068512044369) (Nat.mod_lt _ (by decide)) (Nat.mod_lt _ (by decide)) _) (fun _ w _ M => (by (refine pend_skip rfl ?_); (refine pend_skip rfl ?_); (refine pend_skip rfl ?_); (refine pend_skip rfl ?_); (refine pend_skip rfl ?_); exact pend_none)) ?_; clear F a M; rintro v w rfl M a F
 rw [addN_mod (Nat.mod_lt _ (by decide)) (Nat.mod_lt _ (by decide)),← Nat.add_mod] at F
 refine s_stWL F M.f1 rfl rfl rfl sz_25 rfl rfl rfl rfl rfl (fun w M => (by (refine pend_skip rfl ?_); (refine pend_skip rfl ?_); (refine pend_skip rfl ?_); (refine pend_skip rfl ?_); (refine pend_skip rfl ?_); exact pend_none)) ?_; clear M; intro w M
 refine t_endM M ?_; clear M; intro w M
 refine wp_ret ?_
 refine rt1 F rfl (by exact rv_a F rfl ag_25 rfl (cells_whole M.h0)) ?_
 exact ⟨_,rfl,rfl,M.chg⟩
end Go.Proofs.YteajeenmojbjhaaGreatDoor
namespace Go.Proofs.YteajeenmojbjhaaGreatDoor
open Go Fw
theorem mul64 {x y : Nat} (hx : x < 18446744073709551616) (hy : y < 18446744073709551616) : ((x / 4294967296 * (y / 4294967296) % 18446744073709551616 + (x / 4294967296 * (y % 4294967296) % 18446744073709551616 + x % 4294967296 * (y % 4294967296) % 18446744073709551616 / 4294967296) % 18446744073709551616 / 4294967296) % 18446744073709551616 + ((x / 4294967296 * (y % 4294967296) % 18446744073709551616 + x % 4294967296 * (y % 4294967296) % 18446744073709551616 / 4294967296) % 18446744073709551616 % 4294967296 + x % 4294967296 * (y / 4294967296) % 18446744073709551616) % 18446744073709551616 / 4294967296) % 18446744073709551616 = x * y / 18446744073709551616 := by
 have e : x * y = 18446744073709551616 * (x / 4294967296 * (y / 4294967296)) + 4294967296 * (x / 4294967296 * (y % 4294967296)) + 4294967296 * (x % 4294967296 * (y / 4294967296)) + x % 4294967296 * (y % 4294967296) := by
   have e1 : x = 4294967296 * (x / 4294967296) + x % 4294967296 := (Nat.div_add_mod x 4294967296).symm
   have e2 : y = 4294967296 * (y / 4294967296) + y % 4294967296 := (Nat.div_add_mod y 4294967296).symm
   generalize x / 4294967296 = x1 at *
   generalize x % 4294967296 = x0 at *
   generalize y / 4294967296 = y1 at *
   generalize y % 4294967296 = y0 at *
   subst e1; subst e2
   rw [Nat.add_mul,Nat.mul_add,Nat.mul_add,show 4294967296 * x1 * (4294967296 * y1) = 18446744073709551616 * (x1 * y1) by rw [Nat.mul_mul_mul_comm],show 4294967296 * x1 * y0 = 4294967296 * (x1 * y0) by rw [Nat.mul_assoc],show x0 * (4294967296 * y1) = 4294967296 * (x0 * y1) by rw [Nat.mul_left_comm]]
   omega
 rw [e]
 have k1 : x / 4294967296 * (y / 4294967296) ≤ (4294967296 - 1) * (4294967296 - 1) := Nat.mul_le_mul (by omega) (by omega)
 have k2 : x / 4294967296 * (y % 4294967296) ≤ (4294967296 - 1) * (4294967296 - 1) := Nat.mul_le_mul (by omega) (by omega)
 have k3 : x % 4294967296 * (y / 4294967296) ≤ (4294967296 - 1) * (4294967296 - 1) := Nat.mul_le_mul (by omega) (by omega)
 have k4 : x % 4294967296 * (y % 4294967296) ≤ (4294967296 - 1) * (4294967296 - 1) := Nat.mul_le_mul (by omega) (by omega)
 clear e hx hy
 generalize x / 4294967296 * (y / 4294967296) = p11 at *
 generalize x / 4294967296 * (y % 4294967296) = p10 at *
 generalize x % 4294967296 * (y / 4294967296) = p01 at *
 generalize x % 4294967296 * (y % 4294967296) = p00 at *
 omega
abbrev v6 (X : Nat) : Value := .agg #[u6 (X % 18446744073709551616),u6 (X / 18446744073709551616 % 18446744073709551616),u6 (X / 340282366920938463463374607431768211456 % 18446744073709551616),u6 (X / 6277101735386680763835789423207666416102355444464034512896 % 18446744073709551616),u6 (X / 115792089237316195423570985008687907853269984665640564039457584007913129639936 % 18446744073709551616),u6 (X / 2135987035920910082395021706169552114602704522356652769947041607822219725780640550022962086936576 % 18446744073709551616)]
theorem v6_eq {X e0 e1 e2 e3 e4 e5 : Nat} (h0 : e0 = X % 18446744073709551616) (h1 : e1 = X / 18446744073709551616 % 18446744073709551616) (h2 : e2 = X / 340282366920938463463374607431768211456 % 18446744073709551616) (h3 : e3 = X / 6277101735386680763835789423207666416102355444464034512896 % 18446744073709551616) (h4 : e4 = X / 115792089237316195423570985008687907853269984665640564039457584007913129639936 % 18446744073709551616) (h5 : e5 = X / 2135987035920910082395021706169552114602704522356652769947041607822219725780640550022962086936576 % 18446744073709551616) : Value.agg #[u6 e0,u6 e1,u6 e2,u6 e3,u6 e4,u6 e5] = v6 X := by subst h0; subst h1; subst h2; subst h3; subst h4; subst h5; rfl
theorem rnd {x z t k P : Nat} (hP : P ≤ (18446744073709551616 - 1) * (18446744073709551616 - 1)) (ht : t < 18446744073709551616) (hk : k < 18446744073709551616) : ((P % 18446744073709551616 + t + 0) % 18446744073709551616 + k + 0) % 18446744073709551616 < 18446744073709551616 ∧ ((P / 18446744073709551616 + (P % 18446744073709551616 + t + 0) / 18446744073709551616) % 18446744073709551616 + ((P % 18446744073709551616 + t + 0) % 18446744073709551616 + k + 0) / 18446744073709551616) % 18446744073709551616 < 18446744073709551616 ∧ P + t + k = ((P % 18446744073709551616 + t + 0) % 18446744073709551616 + k + 0) % 18446744073709551616 + 18446744073709551616 * (((P / 18446744073709551616 + (P % 18446744073709551616 + t + 0) / 18446744073709551616) % 18446744073709551616 + ((P % 18446744073709551616 + t + 0) % 18446744073709551616 + k + 0) / 18446744073709551616) % 18446744073709551616) := by omega
theorem step6 {x z0 z1 z2 z3 t0 t1 t2 t3 t4 t5 l0 l1 l2 l3 k0 k1 k2 k3 T Z : Nat} (hT : T = t0 + 18446744073709551616 * t1 + 340282366920938463463374607431768211456 * t2 + 6277101735386680763835789423207666416102355444464034512896 * t3 + 115792089237316195423570985008687907853269984665640564039457584007913129639936 * t4 + 2135987035920910082395021706169552114602704522356652769947041607822219725780640550022962086936576 * t5) (hZ : Z = z0 + 18446744073709551616 * z1 + 340282366920938463463374607431768211456 * z2 + 6277101735386680763835789423207666416102355444464034512896 * z3)
   (a0 : l0 < 18446744073709551616) (a1 : l1 < 18446744073709551616) (a2 : l2 < 18446744073709551616) (a3 : l3 < 18446744073709551616) (a4 : t4 < 18446744073709551616) (a5 : t5 < 18446744073709551616) (b3 : k3 < 18446744073709551616)
   (s0 : x * z0 + t0 + 0 = l0 + 18446744073709551616 * k0) (s1 : x * z1 + t1 + k0 = l1 + 18446744073709551616 * k1) (s2 : x * z2 + t2 + k1 = l2 + 18446744073709551616 * k2) (s3 : x * z3 + t3 + k2 = l3 + 18446744073709551616 * k3) :
   Value.agg #[u6 l0,u6 l1,u6 l2,u6 l3,u6 ((t4 + k3 + 0) % 18446744073709551616),u6 ((t5 + (t4 + k3 + 0) / 18446744073709551616) % 18446744073709551616)] = v6 (T + x * Z) := by
 have e : x * Z = x * z0 + 18446744073709551616 * (x * z1) + 340282366920938463463374607431768211456 * (x * z2) + 6277101735386680763835789423207666416102355444464034512896 * (x * z3) := by
   subst hZ
   rw [Nat.mul_add,Nat.mul_add,Nat.mul_add,Nat.mul_left_comm,Nat.mul_left_comm x 340282366920938463463374607431768211456,Nat.mul_left_comm x 6277101735386680763835789423207666416102355444464034512896]
 rw [e]
 generalize x * z0 = p0 at *
 generalize x * z1 = p1 at *
 generalize x * z2 = p2 at *
 generalize x * z3 = p3 at *
 have key : T + (p0 + 18446744073709551616 * p1 + 340282366920938463463374607431768211456 * p2 + 6277101735386680763835789423207666416102355444464034512896 * p3) = l0 + 18446744073709551616 * l1 + 340282366920938463463374607431768211456 * l2 + 6277101735386680763835789423207666416102355444464034512896 * l3 + 115792089237316195423570985008687907853269984665640564039457584007913129639936 * (t4 + k3) + 2135987035920910082395021706169552114602704522356652769947041607822219725780640550022962086936576 * t5 := by omega
 rw [key]
 clear key s0 s1 s2 s3 hT hZ e
 exact v6_eq (by omega) (by omega) (by omega) (by omega) (by omega) (by omega)
set_option maxRecDepth 100000 in
set_option maxHeartbeats 400000 in
theorem c176 (x y : Nat) (hx : x < 18446744073709551616) (hy : y < 18446744073709551616) (w0 : World) : Cl Tryz.prog 176 #[u6 x,u6 y] w0 (RetQ w0 fun r => r = .tuple #[u6 (x * y / 18446744073709551616),u6 (x * y % 18446744073709551616)]) := by
 have M : Sep (fun _ => False) w0 w0 _ := Sep.nil _ w0
 refine enter (vs := [_,_]) Tryz.func176 rfl rfl rfl ?_
 intro a F
 refine wp_seq (wp_region_l [.ind,.ind] ([0,1]) rfl ?_)
 refine s_one F rfl ?_; clear F a; intro a F
 replace F : Fr _ _ ((4,u6 0) :: _) := F
 refine s_one F rfl ?_; clear F a; intro a F
 replace F : Fr _ _ ((5,u6 0) :: _) := F
 refine t_endM M ?_; clear M; intro w M
 refine wp_seq (wp_region_l [.ind,.ind,.ind] ([0,1,2]) rfl ?_)
 refine s_one F rfl ?_; clear F a; intro a F
 refine s_uandm 32 4294967296 F rfl rfl rfl rfl rfl rfl (by omega) (by decide) (by decide) ?_; clear F a; intro a F
 refine s_one F rfl ?_; clear F a; intro a F
 refine t_endM M ?_; clear M; intro w M
 refine wp_seq ?_
 replace F := F.keep [0,1,4,5,6] rfl
 refine wp_region_l [.ind,.ind,.ind] ([0,1,2]) rfl ?_
 refine s_one F rfl ?_; clear F a; intro a F
 refine s_ushr 32 4294967296 F rfl rfl rfl rfl rfl rfl (by decide) (by decide) ?_; clear F a; intro a F
 refine s_one F rfl ?_; clear F a; intro a F
 refine t_endM M ?_; clear M; intro w M
 refine wp_seq ?_
 replace F := F.keep [0,1,4,5,6,7] rfl
 refine wp_region_l [.ind,.ind,.ind] ([0,1,2]) rfl ?_
 refine s_one F rfl ?_; clear F a; intro a F
 refine s_uandm 32 4294967296 F rfl rfl rfl rfl rfl rfl (by omega) (by decide) (by decide) ?_; clear F a; intro a F
 refine s_one F rfl ?_; clear F a; intro a F
 refine t_endM M ?_; clear M; intro w M
 refine wp_seq ?_
 replace F := F.keep [0,1,4,5,6,7,8] rfl
 refine wp_region_l [.ind,.ind,.ind] ([0,1,2]) rfl ?_
 refine s_one F rfl ?_; clear F a; intro a F
 refine s_ushr 32 4294967296 F rfl rfl rfl rfl rfl rfl (by decide) (by decide) ?_; clear F a; intro a F
 refine s_one F rfl ?_; clear F a; intro a F
 refine t_endM M ?_; clear M; intro w M
 refine wp_seq ?_
 replace F := F.keep [0,1,4,5,6,7,8,9] rfl
 refine wp_region_l [.ind,.ind,.ind,.ind] ([0,1,2,3]) rfl ?_
 refine s_rn 2 F rfl rfl ?_; clear F a; intro a F
 refine s_umul F rfl rfl rfl rfl rfl rfl ?_; clear F a; intro a F
 refine s_one F rfl ?_; clear F a; intro a F
 refine t_endM M ?_; clear M; intro w M
 refine wp_seq ?_
 replace F := F.keep [0,1,4,5,6,7,8,9,10] rfl
 refine wp_region_l [.ind,.ind,.ind,.ind,.ind,.ind,.ind] ([0,1,2,3,4,5,6]) rfl ?_
 refine s_rn 2 F rfl rfl ?_; clear F a; intro a F
 refine s_umul F rfl rfl rfl rfl rfl rfl ?_; clear F a; intro a F
 refine s_one F rfl ?_; clear F a; intro a F
 refine s_ushr 32 4294967296 F rfl rfl rfl rfl rfl rfl (by decide) (by decide) ?_; clear F a; intro a F
 refine s_uadd F rfl rfl rfl rfl rfl rfl ?_; clear F a; intro a F
 refine s_one F rfl ?_; clear F a; intro a F
 refine t_endM M ?_; clear M; intro w M
 refine wp_seq ?_
 replace F := F.keep [0,1,4,5,6,7,8,9,10,11] rfl
 refine wp_region_l [.ind,.ind,.ind] ([0,1,2]) rfl ?_
 refine s_one F rfl ?_; clear F a; intro a F
 refine s_uandm 32 4294967296 F rfl rfl rfl rfl rfl rfl (by omega) (by decide) (by decide) ?_; clear F a; intro a F
 refine s_one F rfl ?_; clear F a; intro a F
 refine t_endM M ?_; clear M; intro w M
 refine wp_seq ?_
 replace F := F.keep [0,1,4,5,6,7,8,9,10,11,12] rfl
 refine wp_region_l [.ind,.ind,.ind] ([0,1,2]) rfl ?_
 refine s_one F rfl ?_; clear F a; intro a F
 refine s_ushr 32 4294967296 F rfl rfl rfl rfl rfl rfl (by decide) (by decide) ?_; clear F a; intro a F
 refine s_one F rfl ?_; clear F a; intro a F
 refine t_endM M ?_; clear M; intro w M
 refine wp_seq ?_
 replace F := F.keep [0,1,4,5,6,7,8,9,10,11,12,13] rfl
 refine wp_region_l [.ind,.ind,.ind,.ind,.ind,.ind] ([0,1,2,3,4,5]) rfl ?_
 refine s_rn 3 F rfl rfl ?_; clear F a; intro a F
 refine s_umul F rfl rfl rfl rfl rfl rfl ?_; clear F a; intro a F
 refine s_uadd F rfl rfl rfl rfl rfl rfl ?_; clear F a; intro a F
 refine s_one F rfl ?_; clear F a; intro a F
 refine t_endM M ?_; clear M; intro w M
 refine wp_seq ?_
 replace F := F.keep [0,1,4,5,6,7,8,9,10,11,12,13] rfl
 refine wp_region_l [.ind,.ind,.ind,.ind,.ind,.ind,.ind,.ind,.ind] ([0,1,2,3,4,5,6,7,8]) rfl ?_
 refine s_rn 2 F rfl rfl ?_; clear F a; intro a F
 refine s_umul F rfl rfl rfl rfl rfl rfl ?_; clear F a; intro a F
 refine s_one F rfl ?_; clear F a; intro a F
 refine s_uadd F rfl rfl rfl rfl rfl rfl ?_; clear F a; intro a F
 refine s_one F rfl ?_; clear F a; intro a F
 refine s_ushr 32 4294967296 F rfl rfl rfl rfl rfl rfl (by decide) (by decide) ?_; clear F a; intro a F
 refine s_uadd F rfl rfl rfl rfl rfl rfl ?_; clear F a; intro a F
 refine s_one F rfl ?_; clear F a; intro a F
 refine t_endM M ?_; clear M; intro w M
 refine wp_seq ?_
 replace F := F.keep [0,1,4,5,6,7,8,9,10,11,12,13] rfl
 refine wp_region_l [.ind,.ind,.ind,.ind] ([0,1,2,3]) rfl ?_
 refine s_rn 2 F rfl rfl ?_; clear F a; intro a F
 refine s_umul F rfl rfl rfl rfl rfl rfl ?_; clear F a; intro a F
 refine s_one F rfl ?_; clear F a; intro a F
 refine t_endM M ?_; clear M; intro w M
 refine wp_ret ?_
 refine ret2 F rfl rfl rfl ?_
 rw [mul64 hx hy]
 exact ⟨_,rfl,rfl,M.chg⟩
end Go.Proofs.YteajeenmojbjhaaGreatDoor
namespace Go.Proofs.YteajeenmojbjhaaGreatDoor
open Go Fw
theorem cb_176_N6 : callB Tryz.prog 176 = true := by kernel_rfl
set_option maxRecDepth 100000 in
set_option maxHeartbeats 1000000 in
theorem c132l (t0 t1 t2 t3 t4 t5 x z0 z1 z2 z3 : Nat) (hx : x < 18446744073709551616) (h0 : t0 < 18446744073709551616) (h1 : t1 < 18446744073709551616) (h2 : t2 < 18446744073709551616) (h3 : t3 < 18446744073709551616) (h4 : t4 < 18446744073709551616) (h5 : t5 < 18446744073709551616) (g0 : z0 < 18446744073709551616) (g1 : z1 < 18446744073709551616) (g2 : z2 < 18446744073709551616) (g3 : z3 < 18446744073709551616) (w0 : World) : Cl Tryz.prog 132 #[.agg #[u6 t0,u6 t1,u6 t2,u6 t3,u6 t4,u6 t5],u6 x,n4 z0 z1 z2 z3] w0 (RetQ w0 fun r => r = v6 (t0 + 18446744073709551616 * t1 + 340282366920938463463374607431768211456 * t2 + 6277101735386680763835789423207666416102355444464034512896 * t3 + 115792089237316195423570985008687907853269984665640564039457584007913129639936 * t4 + 2135987035920910082395021706169552114602704522356652769947041607822219725780640550022962086936576 * t5 + x * (z0 + 18446744073709551616 * z1 + 340282366920938463463374607431768211456 * z2 + 6277101735386680763835789423207666416102355444464034512896 * z3))) := by
 have M : Sep (fun _ => False) w0 w0 _ := Sep.nil _ w0
 refine enter (vs := [_,_,_]) Tryz.func132 rfl rfl rfl ?_
 intro a F
 refine wp_seq (wp_region_l [.wr,.wr,.wr] ([0,1,2]) rfl ?_)
 refine s_bxA F M rfl rfl rfl rfl rfl ?_; clear F a M; intro b3 w M a F
 refine s_bxA F M rfl rfl rfl rfl rfl ?_; clear F a M; intro b5 w M a F
 refine s_alc F M rfl rfl rfl rfl zr_202 rfl ?_; clear F a M; intro b6 w M a F
 refine t_endM M ?_; clear M; intro w M
 refine wp_seq (wp_region_l [.ind] ([0]) rfl ?_)
 refine s_one F rfl ?_; clear F a; intro a F
 replace F : Fr _ _ ((7,u6 0) :: _) := F
 refine t_endM M ?_; clear M; intro w M
 refine wp_seq (wp_seq (wp_region_l [.rd,.ind] ([0,1]) rfl ?_))
 refine s_lda F rfl rfl rfl rfl ag_25 rfl rfl (cells_whole M.h1) ?_; clear F a; intro a F
 refine s_one F rfl ?_; clear F a; intro a F
 refine t_endM M ?_; clear M; intro w M
 refine wp_block ?_
 refine wp_loop_rounds 5 ?_
 refine (show Code.wp _ _ _ _ _ from ?_)
 refine wp_seq (wp_region_l [.ind] ([0]) rfl ?_)
 refine s_one F rfl ?_; clear F a; intro a F
 refine t_endM M ?_; clear M; intro w M
 refine wp_seq (c_t F (by rfl) ?_)
 refine wp_skip (wp_seq (wp_block (wp_seq ?_)))
 replace F := F.keep [0,1,2,3,5,6,7,15,16] rfl
 refine wp_region_l [.ind,.ind,.ind,.ind] ([0,1,2,3]) rfl ?_
 refine s_one F rfl ?_; clear F a; intro a F
 refine s_ixv F rfl rfl rfl rfl ar_25 ae_25 rfl rfl (by omega) (by omega) rfl ?_; clear F a; intro a F
 refine s_rn 2 F rfl rfl ?_; clear F a; intro a F
 refine t_endM M ?_; clear M; intro w M
 refine wp_seq ?_
 replace F := F.keep [0,1,2,3,5,6,7,8,9,15,16] rfl
 refine wp_region_l [.ind,.ind,.wr,.ind,.ind,.ind,.ind,.ind] ([0,1,2,3,4,5,6,7]) rfl ?_
 refine s_rn 2 F rfl rfl ?_; clear F a; intro a F
 refine s_cq F M rfl rfl rfl rfl rfl (rfl : _ = some [_,_]) cb_176_N6 (fun nd_ => c176 x z0 hx g0 _) ?_; clear F a M; rintro v w rfl M a F
 refine s_rn 5 F rfl rfl ?_; clear F a; intro a F
 refine t_endM M ?_; clear M; intro w M
 refine wp_seq ?_
 replace F := F.keep [0,1,2,3,5,6,7,8,9,10,11,15,16] rfl
 refine wp_region_l [.ind,.ind] ([0,1]) rfl ?_
 refine s_one F rfl ?_; clear F a; intro a F
 replace F : Fr _ _ ((12,u6 0) :: _) := F
 refine s_one F rfl ?_; clear F a; intro a F
 replace F : Fr _ _ ((13,u6 0) :: _) := F
 refine t_endM M ?_; clear M; intro w M
 refine wp_seq (wp_region_l [.ind,.ind,.ind,.rd,.ind,.ind,.ind,.ind,.ind,.ind] ([0,1,2,3,4,5,6,7,8,9]) rfl ?_)
 refine s_rn 2 F rfl rfl ?_; clear F a; intro a F
 refine s_ia F rfl rfl rfl rfl ar_202 rfl rfl (by omega) (by omega) ?_; clear F a; intro a F
 refine s_ld F rfl rfl rfl rfl sc_23 rfl (by exact cell_of_blk M.h2 (lit rfl)) ?_; clear F a; intro a F
 refine s_ext F rfl rfl rfl rfl rfl (x174 _ _ _ (by decide)) ?_; clear F a; intro a F
 refine s_rn 5 F rfl rfl ?_; clear F a; intro a F
 refine t_endM M ?_; clear M; intro w M
 refine wp_seq ?_
 replace F := F.keep [0,1,2,3,5,6,7,8,9,10,11,12,13,15,16] rfl
 refine wp_region_l [.ind,.ind,.ind,.ind,.ind,.ind,.ind,.ind] ([0,1,2,3,4,5,6,7]) rfl ?_
 refine s_rn 2 F rfl rfl ?_; clear F a; intro a F
 refine s_ext F rfl rfl rfl rfl rfl (x174 _ _ _ (by decide)) ?_; clear F a; intro a F
 refine s_rn 5 F rfl rfl ?_; clear F a; intro a F
 refine t_endM M ?_; clear M; intro w M
 have hP0 : x * z0 ≤ (18446744073709551616 - 1) * (18446744073709551616 - 1) := Nat.mul_le_mul (by omega) (by omega)
 have M1 : Sep _ _ _ (blk b3 _ :: _) := M.f2; replace M := M1; clear M1
 refine cutX (X := (Nat) × (Nat)) (m0 := [_]) F [0,1,2,3,5,6,8,9,10,11,12,13,15,16] rfl M (fun ((l0,k0) : (Nat) × (Nat)) => (l0 < 18446744073709551616) ∧ (k0 < 18446744073709551616) ∧ (x * z0 + t0 + 0 = l0 + 18446744073709551616 * k0)) (fun ((l0,k0) : (Nat) × (Nat)) => [(7,u6 k0)]) (fun ((l0,k0) : (Nat) × (Nat)) => [blk b3 (.cells #[u6 l0,u6 t1,u6 t2,u6 t3,u6 t4,u6 t5] 202 (0,0))]) ?_ ?_
 replace F := F.keep [0,1,2,3,5,6,7,8,9,10,11,12,13,15,16] rfl
 refine wp_region_l [.ind,.ind,.ind,.ind,.ind,.ind,.ind,.ind,.wr,.ind] ([0,1,2,3,4,5,6,7,8,9]) rfl ?_
 refine s_rn 4 F rfl rfl ?_; clear F a; intro a F
 refine s_uadd F rfl rfl rfl rfl rfl rfl ?_; clear F a; intro a F
 refine s_one F rfl ?_; clear F a; intro a F
 refine s_uadd F rfl rfl rfl rfl rfl rfl ?_; clear F a; intro a F
 refine s_ia F rfl rfl rfl rfl ar_202 rfl rfl (by omega) (by omega) ?_; clear F a; intro a F
 refine s_st F M rfl rfl rfl sz_23 rfl rfl rfl (by exact Nat.le_of_ble_eq_true rfl) ?_; clear M; intro w M
 refine s_one F rfl ?_; clear F a; intro a F
 refine t_endM M ?_; clear M; intro w M
 refine joined ((_),(_)) ⟨(@rnd 0 0 t0 0 _ hP0 h0 (by decide)).1,(@rnd 0 0 t0 0 _ hP0 h0 (by decide)).2.1,(@rnd 0 0 t0 0 _ hP0 h0 (by decide)).2.2⟩ (F.keep [7,0,1,2,3,5,6,8,9,10,11,12,13,15,16] rfl) ?_
 try dsimp only [List.cons_append,List.nil_append]
 refine M.pick ?_; repeat (first | exact PkG.nil | refine PkG.cons 0 rfl rfl ?_ | refine PkG.cons 1 rfl rfl ?_ | refine PkG.cons 2 rfl rfl ?_)
 clear F M; clear a; (try clear w)
 rintro ⟨l0,k0⟩ a w ⟨ll0,lk0,hs0⟩ F M; try dsimp only at F M
 try simp only [List.cons_append,List.nil_append] at F M
 try dsimp only at ll0 lk0 hs0
 refine wp_region_l [.ind,.ind] ([0,1]) rfl ?_
 refine s_add F rfl rfl rfl rfl rfl rfl (by unfold In64; omega) ?_; clear F a; intro a F
 refine s_one F rfl ?_; clear F a; intro a F
 refine t_endM M ?_; clear M; intro w M
 refine (show Code.wp _ _ _ _ _ from ?_)
 refine wp_seq ?_
 replace F := F.keep [0,1,2,3,5,6,7,8,9,10,11,12,13,15,16] rfl
 refine wp_region_l [.ind] ([0]) rfl ?_
 refine s_one F rfl ?_; clear F a; intro a F
 refine t_endM M ?_; clear M; intro w M
 refine wp_seq (c_t F (by rfl) ?_)
 refine wp_skip (wp_seq (wp_block (wp_seq ?_)))
 replace F := F.keep [0,1,2,3,5,6,7,8,9,10,11,12,13,15,16] rfl
 refine wp_region_l [.ind,.ind,.ind,.ind] ([0,1,2,3]) rfl ?_
 refine s_one F rfl ?_; clear F a; intro a F
 refine s_ixv F rfl rfl rfl rfl ar_25 ae_25 rfl rfl (by omega) (by omega) rfl ?_; clear F a; intro a F
 refine s_rn 2 F rfl rfl ?_; clear F a; intro a F
 refine t_endM M ?_; clear M; intro w M
 refine wp_seq ?_
 replace F := F.keep [0,1,2,3,5,6,7,8,9,10,11,12,13,15,16] rfl
 refine wp_region_l [.ind,.ind,.wr,.ind,.ind,.ind,.ind,.ind] ([0,1,2,3,4,5,6,7]) rfl ?_
 refine s_rn 2 F rfl rfl ?_; clear F a; intro a F
 refine s_cq F M rfl rfl rfl rfl rfl (rfl : _ = some [_,_]) cb_176_N6 (fun nd_ => c176 x z1 hx g1 _) ?_; clear F a M; rintro v w rfl M a F
 refine s_rn 5 F rfl rfl ?_; clear F a; intro a F
 refine t_endM M ?_; clear M; intro w M
 refine wp_seq ?_
 replace F := F.keep [0,1,2,3,5,6,7,8,9,10,11,12,13,15,16] rfl
 refine wp_region_l [.ind,.ind] ([0,1]) rfl ?_
 refine s_one F rfl ?_; clear F a; intro a F
 replace F : Fr _ _ ((12,u6 0) :: _) := F
 refine s_one F rfl ?_; clear F a; intro a F
 replace F : Fr _ _ ((13,u6 0) :: _) := F
 refine t_endM M ?_; clear M; intro w M
 refine wp_seq (wp_region_l [.ind,.ind,.ind,.rd,.ind,.ind,.ind,.ind,.ind,.ind] ([0,1,2,3,4,5,6,7,8,9]) rfl ?_)
 refine s_rn 2 F rfl rfl ?_; clear F a; intro a F
 refine s_ia F rfl rfl rfl rfl ar_202 rfl rfl (by omega) (by omega) ?_; clear F a; intro a F
 refine s_ld F rfl rfl rfl rfl sc_23 rfl (by exact cell_of_blk M.h0 (lit rfl)) ?_; clear F a; intro a F
 refine s_ext F rfl rfl rfl rfl rfl (x174 _ _ _ (by decide)) ?_; clear F a; intro a F
 refine s_rn 5 F rfl rfl ?_; clear F a; intro a F
 refine t_endM M ?_; clear M; intro w M
 refine wp_seq ?_
 replace F := F.keep [0,1,2,3,5,6,7,8,9,10,11,12,13,15,16] rfl
 refine wp_region_l [.ind,.ind,.ind,.ind,.ind,.ind,.ind,.ind] ([0,1,2,3,4,5,6,7]) rfl ?_
 refine s_rn 2 F rfl rfl ?_; clear F a; intro a F
 refine s_ext F rfl rfl rfl rfl rfl (x174 _ _ _ (by decide)) ?_; clear F a; intro a F
 refine s_rn 5 F rfl rfl ?_; clear F a; intro a F
 refine t_endM M ?_; clear M; intro w M
 have hP1 : x * z1 ≤ (18446744073709551616 - 1) * (18446744073709551616 - 1) := Nat.mul_le_mul (by omega) (by omega)
 have M1 : Sep _ _ _ (blk b3 _ :: _) := M; replace M := M1; clear M1
 refine cutX (X := (Nat) × (Nat)) (m0 := [_]) F [0,1,2,3,5,6,8,9,10,11,12,13,15,16] rfl M (fun ((l1,k1) : (Nat) × (Nat)) => (l1 < 18446744073709551616) ∧ (k1 < 18446744073709551616) ∧ (x * z1 + t1 + k0 = l1 + 18446744073709551616 * k1)) (fun ((l1,k1) : (Nat) × (Nat)) => [(7,u6 k1)]) (fun ((l1,k1) : (Nat) × (Nat)) => [blk b3 (.cells #[u6 l0,u6 l1,u6 t2,u6 t3,u6 t4,u6 t5] 202 (0,0))]) ?_ ?_
 replace F := F.keep [0,1,2,3,5,6,7,8,9,10,11,12,13,15,16] rfl
 refine wp_region_l [.ind,.ind,.ind,.ind,.ind,.ind,.ind,.ind,.wr,.ind] ([0,1,2,3,4,5,6,7,8,9]) rfl ?_
 refine s_rn 4 F rfl rfl ?_; clear F a; intro a F
 refine s_uadd F rfl rfl rfl rfl rfl rfl ?_; clear F a; intro a F
 refine s_one F rfl ?_; clear F a; intro a F
 refine s_uadd F rfl rfl rfl rfl rfl rfl ?_; clear F a; intro a F
 refine s_ia F rfl rfl rfl rfl ar_202 rfl rfl (by omega) (by omega) ?_; clear F a; intro a F
 refine s_st F M rfl rfl rfl sz_23 rfl rfl rfl (by exact Nat.le_of_ble_eq_true rfl) ?_; clear M; intro w M
 refine s_one F rfl ?_; clear F a; intro a F
 refine t_endM M ?_; clear M; intro w M
 refine joined ((_),(_)) ⟨(@rnd 0 0 t1 k0 _ hP1 h1 lk0).1,(@rnd 0 0 t1 k0 _ hP1 h1 lk0).2.1,(@rnd 0 0 t1 k0 _ hP1 h1 lk0).2.2⟩ (F.keep [7,0,1,2,3,5,6,8,9,10,11,12,13,15,16] rfl) ?_
 try dsimp only [List.cons_append,List.nil_append]
 refine M.pick ?_; repeat (first | exact PkG.nil | refine PkG.cons 0 rfl rfl ?_ | refine PkG.cons 1 rfl rfl ?_ | refine PkG.cons 2 rfl rfl ?_)
 clear F M; clear a; (try clear w)
 rintro ⟨l1,k1⟩ a w ⟨ll1,lk1,hs1⟩ F M; try dsimp only at F M
 try simp only [List.cons_append,List.nil_append] at F M
 try dsimp only at ll1 lk1 hs1
 refine wp_region_l [.ind,.ind] ([0,1]) rfl ?_
 refine s_add F rfl rfl rfl rfl rfl rfl (by unfold In64; omega) ?_; clear F a; intro a F
 refine s_one F rfl ?_; clear F a; intro a F
 refine t_endM M ?_; clear M; intro w M
 refine (show Code.wp _ _ _ _ _ from ?_)
 refine wp_seq ?_
 replace F := F.keep [0,1,2,3,5,6,7,8,9,10,11,12,13,15,16] rfl
 refine wp_region_l [.ind] ([0]) rfl ?_
 refine s_one F rfl ?_; clear F a; intro a F
 refine t_endM M ?_; clear M; intro w M
 refine wp_seq (c_t F (by rfl) ?_)
 refine wp_skip (wp_seq (wp_block (wp_seq ?_)))
 replace F := F.keep [0,1,2,3,5,6,7,8,9,10,11,12,13,15,16] rfl
 refine wp_region_l [.ind,.ind,.ind,.ind] ([0,1,2,3]) rfl ?_
 refine s_one F rfl ?_; clear F a; intro a F
 refine s_ixv F rfl rfl rfl rfl ar_25 ae_25 rfl rfl (by omega) (by omega) rfl ?_; clear F a; intro a F
 refine s_rn 2 F rfl rfl ?_; clear F a; intro a F
 refine t_endM M ?_; clear M; intro w M
 refine wp_seq ?_
 replace F := F.keep [0,1,2,3,5,6,7,8,9,10,11,12,13,15,16] rfl
 refine wp_region_l [.ind,.ind,.wr,.ind,.ind,.ind,.ind,.ind] ([0,1,2,3,4,5,6,7]) rfl ?_
 refine s_rn 2 F rfl rfl ?_; clear F a; intro a F
 refine s_cq F M rfl rfl rfl rfl rfl (rfl : _ = some [_,_]) cb_176_N6 (fun nd_ => c176 x z2 hx g2 _) ?_; clear F a M; rintro v w rfl M a F
 refine s_rn 5 F rfl rfl ?_; clear F a; intro a F
 refine t_endM M ?_; clear M; intro w M
 refine wp_seq ?_
 replace F := F.keep [0,1,2,3,5,6,7,8,9,10,11,12,13,15,16] rfl
 refine wp_region_l [.ind,.ind] ([0,1]) rfl ?_
 refine s_one F rfl ?_; clear F a; intro a F
 replace F : Fr _ _ ((12,u6 0) :: _) := F
 refine s_one F rfl ?_; clear F a; intro a F
 replace F : Fr _ _ ((13,u6 0) :: _) := F
 refine t_endM M ?_; clear M; intro w M
 refine wp_seq (wp_region_l [.ind,.ind,.ind,.rd,.ind,.ind,.ind,.ind,.ind,.ind] ([0,1,2,3,4,5,6,7,8,9]) rfl ?_)
 refine s_rn 2 F rfl rfl ?_; clear F a; intro a F
 refine s_ia F rfl rfl rfl rfl ar_202 rfl rfl (by omega) (by omega) ?_; clear F a; intro a F
 refine s_ld F rfl rfl rfl rfl sc_23 rfl (by exact cell_of_blk M.h0 (lit rfl)) ?_; clear F a; intro a F
 refine s_ext F rfl rfl rfl rfl rfl (x174 _ _ _ (by decide)) ?_; clear F a; intro a F
 refine s_rn 5 F rfl rfl ?_; clear F a; intro a F
 refine t_endM M ?_; clear M; intro w M
 refine wp_seq ?_
 replace F := F.keep [0,1,2,3,5,6,7,8,9,10,11,12,13,15,16] rfl
 refine wp_region_l [.ind,.ind,.ind,.ind,.ind,.ind,.ind,.ind] ([0,1,2,3,4,5,6,7]) rfl ?_
 refine s_rn 2 F rfl rfl ?_; clear F a; intro a F
 refine s_ext F rfl rfl rfl rfl rfl (x174 _ _ _ (by decide)) ?_; clear F a; intro a F
 refine s_rn 5 F rfl rfl ?_; clear F a; intro a F
 refine t_endM M ?_; clear M; intro w M
 have hP2 : x * z2 ≤ (18446744073709551616 - 1) * (18446744073709551616 - 1) := Nat.mul_le_mul (by omega) (by omega)
 have M1 : Sep _ _ _ (blk b3 _ :: _) := M; replace M := M1; clear M1
 refine cutX (X := (Nat) × (Nat)) (m0 := [_]) F [0,1,2,3,5,6,8,9,10,11,12,13,15,16] rfl M (fun ((l2,k2) : (Nat) × (Nat)) => (l2 < 18446744073709551616) ∧ (k2 < 18446744073709551616) ∧ (x * z2 + t2 + k1 = l2 + 18446744073709551616 * k2)) (fun ((l2,k2) : (Nat) × (Nat)) => [(7,u6 k2)]) (fun ((l2,k2) : (Nat) × (Nat)) => [blk b3 (.cells #[u6 l0,u6 l1,u6 l2,u6 t3,u6 t4,u6 t5] 202 (0,0))]) ?_ ?_
 replace F := F.keep [0,1,2,3,5,6,7,8,9,10,11,12,13,15,16] rfl
 refine wp_region_l [.ind,.ind,.ind,.ind,.ind,.ind,.ind,.ind,.wr,.ind] ([0,1,2,3,4,5,6,7,8,9]) rfl ?_
 refine s_rn 4 F rfl rfl ?_; clear F a; intro a F
 refine s_uadd F rfl rfl rfl rfl rfl rfl ?_; clear F a; intro a F
 refine s_one F rfl ?_; clear F a; intro a F
 refine s_uadd F rfl rfl rfl rfl rfl rfl ?_; clear F a; intro a F
 refine s_ia F rfl rfl rfl rfl ar_202 rfl rfl (by omega) (by omega) ?_; clear F a; intro a F
 refine s_st F M rfl rfl rfl sz_23 rfl rfl rfl (by exact Nat.le_of_ble_eq_true rfl) ?_; clear M; intro w M
 refine s_one F rfl ?_; clear F a; intro a F
 refine t_endM M ?_; clear M; intro w M
 refine joined ((_),(_)) ⟨(@rnd 0 0 t2 k1 _ hP2 h2 lk1).1,(@rnd 0 0 t2 k1 _ hP2 h2 lk1).2.1,(@rnd 0 0 t2 k1 _ hP2 h2 lk1).2.2⟩ (F.keep [7,0,1,2,3,5,6,8,9,10,11,12,13,15,16] rfl) ?_
 try dsimp only [List.cons_append,List.nil_append]
 refine M.pick ?_; repeat (first | exact PkG.nil | refine PkG.cons 0 rfl rfl ?_ | refine PkG.cons 1 rfl rfl ?_ | refine PkG.cons 2 rfl rfl ?_)
 clear F M; clear a; (try clear w)
 rintro ⟨l2,k2⟩ a w ⟨ll2,lk2,hs2⟩ F M; try dsimp only at F M
 try simp only [List.cons_append,List.nil_append] at F M
 try dsimp only at ll2 lk2 hs2
 refine wp_region_l [.ind,.ind] ([0,1]) rfl ?_
 refine s_add F rfl rfl rfl rfl rfl rfl (by unfold In64; omega) ?_; clear F a; intro a F
 refine s_one F rfl ?_; clear F a; intro a F
 refine t_endM M ?_; clear M; intro w M
 refine (show Code.wp _ _ _ _ _ from ?_)
 refine wp_seq ?_
 replace F := F.keep [0,1,2,3,5,6,7,8,9,10,11,12,13,15,16] rfl
 refine wp_region_l [.ind] ([0]) rfl ?_
 refine s_one F rfl ?_; clear F a; intro a F
 refine t_endM M ?_; clear M; intro w M
 refine wp_seq (c_t F (by rfl) ?_)
 refine wp_skip (wp_seq (wp_block (wp_seq ?_)))
 replace F := F.keep [0,1,2,3,5,6,7,8,9,10,11,12,13,15,16] rfl
 refine wp_region_l [.ind,.ind,.ind,.ind] ([0,1,2,3]) rfl ?_
 refine s_one F rfl ?_; clear F a; intro a F
 refine s_ixv F rfl rfl rfl rfl ar_25 ae_25 rfl rfl (by omega) (by omega) rfl ?_; clear F a; intro a F
 refine s_rn 2 F rfl rfl ?_; clear F a; intro a F
 refine t_endM M ?_; clear M; intro w M
 refine wp_seq ?_
 replace F := F.keep [0,1,2,3,5,6,7,8,9,10,11,12,13,15,16] rfl
 refine wp_region_l [.ind,.ind,.wr,.ind,.ind,.ind,.ind,.ind] ([0,1,2,3,4,5,6,7]) rfl ?_
 refine s_rn 2 F rfl rfl ?_; clear F a; intro a F
 refine s_cq F M rfl rfl rfl rfl rfl (rfl : _ = some [_,_]) cb_176_N6 (fun nd_ => c176 x z3 hx g3 _) ?_; clear F a M; rintro v w rfl M a F
 refine s_rn 5 F rfl rfl ?_; clear F a; intro a F
 refine t_endM M ?_; clear M; intro w M
 refine wp_seq ?_
 replace F := F.keep [0,1,2,3,5,6,7,8,9,10,11,12,13,15,16] rfl
 refine wp_region_l [.ind,.ind] ([0,1]) rfl ?_
 refine s_one F rfl ?_; clear F a; intro a F
 replace F : Fr _ _ ((12,u6 0) :: _) := F
 refine s_one F rfl ?_; clear F a; intro a F
 replace F : Fr _ _ ((13,u6 0) :: _) := F
 refine t_endM M ?_; clear M; intro w M
 refine wp_seq (wp_region_l [.ind,.ind,.ind,.rd,.ind,.ind,.ind,.ind,.ind,.ind] ([0,1,2,3,4,5,6,7,8,9]) rfl ?_)
 refine s_rn 2 F rfl rfl ?_; clear F a; intro a F
 refine s_ia F rfl rfl rfl rfl ar_202 rfl rfl (by omega) (by omega) ?_; clear F a; intro a F
 refine s_ld F rfl rfl rfl rfl sc_23 rfl (by exact cell_of_blk M.h0 (lit rfl)) ?_; clear F a; intro a F
 refine s_ext F rfl rfl rfl rfl rfl (x174 _ _ _ (by decide)) ?_; clear F a; intro a F
 refine s_rn 5 F rfl rfl ?_; clear F a; intro a F
 refine t_endM M ?_; clear M; intro w M
 refine wp_seq ?_
 replace F := F.keep [0,1,2,3,5,6,7,8,9,10,11,12,13,15,16] rfl
 refine wp_region_l [.ind,.ind,.ind,.ind,.ind,.ind,.ind,.ind] ([0,1,2,3,4,5,6,7]) rfl ?_
 refine s_rn 2 F rfl rfl ?_; clear F a; intro a F
 refine s_ext F rfl rfl rfl rfl rfl (x174 _ _ _ (by decide)) ?_; clear F a; intro a F
 refine s_rn 5 F rfl rfl ?_; clear F a; intro a F
 refine t_endM M ?_; clear M; intro w M
 have hP3 : x * z3 ≤ (18446744073709551616 - 1) * (18446744073709551616 - 1) := Nat.mul_le_mul (by omega) (by omega)
 have M1 : Sep _ _ _ (blk b3 _ :: _) := M; replace M := M1; clear M1
 refine cutX (X := (Nat) × (Nat)) (m0 := [_]) F [0,1,2,3,5,6,8,9,10,11,12,13,15,16] rfl M (fun ((l3,k3) : (Nat) × (Nat)) => (l3 < 18446744073709551616) ∧ (k3 < 18446744073709551616) ∧ (x * z3 + t3 + k2 = l3 + 18446744073709551616 * k3)) (fun ((l3,k3) : (Nat) × (Nat)) => [(7,u6 k3)]) (fun ((l3,k3) : (Nat) × (Nat)) => [blk b3 (.cells #[u6 l0,u6 l1,u6 l2,u6 l3,u6 t4,u6 t5] 202 (0,0))]) ?_ ?_
 replace F := F.keep [0,1,2,3,5,6,7,8,9,10,11,12,13,15,16] rfl
 refine wp_region_l [.ind,.ind,.ind,.ind,.ind,.ind,.ind,.ind,.wr,.ind] ([0,1,2,3,4,5,6,7,8,9]) rfl ?_
 refine s_rn 4 F rfl rfl ?_; clear F a; intro a F
 refine s_uadd F rfl rfl rfl rfl rfl rfl ?_; clear F a; intro a F
 refine s_one F rfl ?_; clear F a; intro a F
 refine s_uadd F rfl rfl rfl rfl rfl rfl ?_; clear F a; intro a F
 refine s_ia F rfl rfl rfl rfl ar_202 rfl rfl (by omega) (by omega) ?_; clear F a; intro a F
 refine s_st F M rfl rfl rfl sz_23 rfl rfl rfl (by exact Nat.le_of_ble_eq_true rfl) ?_; clear M; intro w M
 refine s_one F rfl ?_; clear F a; intro a F
 refine t_endM M ?_; clear M; intro w M
 refine joined ((_),(_)) ⟨(@rnd 0 0 t3 k2 _ hP3 h3 lk2).1,(@rnd 0 0 t3 k2 _ hP3 h3 lk2).2.1,(@rnd 0 0 t3 k2 _ hP3 h3 lk2).2.2⟩ (F.keep [7,0,1,2,3,5,6,8,9,10,11,12,13,15,16] rfl) ?_
 try dsimp only [List.cons_append,List.nil_append]
 refine M.pick ?_; repeat (first | exact PkG.nil | refine PkG.cons 0 rfl rfl ?_ | refine PkG.cons 1 rfl rfl ?_ | refine PkG.cons 2 rfl rfl ?_)
 clear F M; clear a; (try clear w)
 rintro ⟨l3,k3⟩ a w ⟨ll3,lk3,hs3⟩ F M; try dsimp only at F M
 try simp only [List.cons_append,List.nil_append] at F M
 try dsimp only at ll3 lk3 hs3
 refine wp_region_l [.ind,.ind] ([0,1]) rfl ?_
 refine s_add F rfl rfl rfl rfl rfl rfl (by unfold In64; omega) ?_; clear F a; intro a F
 refine s_one F rfl ?_; clear F a; intro a F
 refine t_endM M ?_; clear M; intro w M
 refine (show Code.wp _ _ _ _ _ from ?_)
 refine wp_seq ?_
 replace F := F.keep [0,1,2,3,5,6,7,8,9,10,11,12,13,15,16] rfl
 refine wp_region_l [.ind] ([0]) rfl ?_
 refine s_one F rfl ?_; clear F a; intro a F
 refine t_endM M ?_; clear M; intro w M
 refine wp_seq ?_
 refine c_f F (by rfl) ?_
 refine wp_exit ?_
 refine wp_seq ?_
 replace F := F.keep [0,1,2,3,5,6,7,8,9,10,11,12,13,15,16] rfl
 refine wp_region_l [.ind] ([0]) rfl ?_
 refine s_one F rfl ?_; clear F a; intro a F
 replace F : Fr _ _ ((14,u6 0) :: _) := F
 refine t_endM M ?_; clear M; intro w M
 refine wp_seq (wp_region_l [.ind,.rd,.ind,.ind,.ind,.ind,.ind,.ind,.wr,.ind] ([0,1,2,3,4,5,6,7,8,9]) rfl ?_)
 refine s_ia F rfl rfl rfl rfl ar_202 rfl rfl (by omega) (by omega) ?_; clear F a; intro a F
 refine s_ld F rfl rfl rfl rfl sc_23 rfl (by exact cell_of_blk M.h0 (lit rfl)) ?_; clear F a; intro a F
 refine s_one F rfl ?_; clear F a; intro a F
 refine s_ext F rfl rfl rfl rfl rfl (x174 _ _ _ (by decide)) ?_; clear F a; intro a F
 refine s_rn 3 F rfl rfl ?_; clear F a; intro a F
 refine s_ia F rfl rfl rfl rfl ar_202 rfl rfl (by omega) (by omega) ?_; clear F a; intro a F
 refine s_st F M rfl rfl rfl sz_23 rfl rfl rfl (by exact Nat.le_of_ble_eq_true rfl) ?_; clear M; intro w M
 refine s_one F rfl ?_; clear F a; intro a F
 refine t_endM M ?_; clear M; intro w M
 refine wp_seq ?_
 replace F := F.keep [0,1,2,3,5,6,7,8,9,10,11,12,13,14,15,16] rfl
 refine wp_region_l [.ind,.rd,.ind,.ind,.ind,.wr] ([0,1,2,3,4,5]) rfl ?_
 refine s_ia F rfl rfl rfl rfl ar_202 rfl rfl (by omega) (by omega) ?_; clear F a; intro a F
 refine s_ld F rfl rfl rfl rfl sc_23 rfl (by exact cell_of_blk M.h0 (lit rfl)) ?_; clear F a; intro a F
 refine s_one F rfl ?_; clear F a; intro a F
 refine s_uadd F rfl rfl rfl rfl rfl rfl ?_; clear F a; intro a F
 refine s_ia F rfl rfl rfl rfl ar_202 rfl rfl (by omega) (by omega) ?_; clear F a; intro a F
 refine s_st F M rfl rfl rfl sz_23 rfl rfl rfl (by exact Nat.le_of_ble_eq_true rfl) ?_; clear M; intro w M
 refine t_endM M ?_; clear M; intro w M
 refine wp_seq ?_
 replace F := F.keep [0,1,2,3,5,6,7,8,9,10,11,12,13,14,15,16] rfl
 refine wp_region_l [.rd,.wr] ([0,1]) rfl ?_
 refine s_lda F rfl rfl rfl rfl ag_202 rfl rfl (cells_whole M.h0) ?_; clear F a; intro a F
 refine s_stW F M.f1 rfl rfl rfl sz_202 rfl rfl rfl rfl rfl ?_; clear M; intro w M
 refine t_endM M ?_; clear M; intro w M
 refine wp_ret ?_
 refine rt1 F rfl (by exact rv_a F rfl ag_202 rfl (cells_whole M.h0)) ?_
 refine ⟨_,rfl,?_,M.chg⟩
 clear M F
 exact step6 rfl rfl ll0 ll1 ll2 ll3 h4 h5 lk3 hs0 hs1 hs2 hs3
end Go.Proofs.YteajeenmojbjhaaGreatDoor
namespace Go.Proofs.YteajeenmojbjhaaGreatDoor
open Go Fw
theorem Fw.Sep.blkC {S : Nat → Prop} {w0 w : World} {r : List Res} {b : Nat} {cs cs' : Array Value} {T : TypeId} (M : Sep S w0 w (blk b (.cells cs T (0,0)) :: r)) (e : cs = cs') : Sep S w0 w (blk b (.cells cs' T (0,0)) :: r) := by
 subst e; exact M
theorem split6 {a : Nat} (h : a < 39402006196394479212279040100143613805079739270465446667948293404245721771497210611414266254884915640806627990306816) : a = a % 18446744073709551616 + 18446744073709551616 * (a / 18446744073709551616 % 18446744073709551616) + 340282366920938463463374607431768211456 * (a / 340282366920938463463374607431768211456 % 18446744073709551616) + 6277101735386680763835789423207666416102355444464034512896 * (a / 6277101735386680763835789423207666416102355444464034512896 % 18446744073709551616) + 115792089237316195423570985008687907853269984665640564039457584007913129639936 * (a / 115792089237316195423570985008687907853269984665640564039457584007913129639936 % 18446744073709551616) + 2135987035920910082395021706169552114602704522356652769947041607822219725780640550022962086936576 * (a / 2135987035920910082395021706169552114602704522356652769947041607822219725780640550022962086936576 % 18446744073709551616) := by omega
theorem c132 (T x Z : Nat) (hT : T < 39402006196394479212279040100143613805079739270465446667948293404245721771497210611414266254884915640806627990306816) (hx : x < 18446744073709551616) (hZ : Z < 115792089237316195423570985008687907853269984665640564039457584007913129639936) (w0 : World) : Cl Tryz.prog 132 #[v6 T,u6 x,nV Z] w0 (RetQ w0 fun r => r = v6 (T + x * Z)) := by
 have k := fun y => Nat.mod_lt y (show 18446744073709551616 > 0 by decide)
 have h := c132l (T % 18446744073709551616) (T / 18446744073709551616 % 18446744073709551616) (T / 340282366920938463463374607431768211456 % 18446744073709551616) (T / 6277101735386680763835789423207666416102355444464034512896 % 18446744073709551616) (T / 115792089237316195423570985008687907853269984665640564039457584007913129639936 % 18446744073709551616) (T / 2135987035920910082395021706169552114602704522356652769947041607822219725780640550022962086936576 % 18446744073709551616) x (Z % 18446744073709551616) (Z / 18446744073709551616 % 18446744073709551616) (Z / 340282366920938463463374607431768211456 % 18446744073709551616) (Z / 6277101735386680763835789423207666416102355444464034512896 % 18446744073709551616) hx (k _) (k _) (k _) (k _) (k _) (k _) (k _) (k _) (k _) (k _) w0
 rw [← split6 hT,← split4 hZ] at h
 exact h
abbrev tl5 (X : Nat) : List Value := [u6 (X / 18446744073709551616 % 18446744073709551616),u6 (X / 340282366920938463463374607431768211456 % 18446744073709551616),u6 (X / 6277101735386680763835789423207666416102355444464034512896 % 18446744073709551616),u6 (X / 115792089237316195423570985008687907853269984665640564039457584007913129639936 % 18446744073709551616),u6 (X / 2135987035920910082395021706169552114602704522356652769947041607822219725780640550022962086936576 % 18446744073709551616)]
theorem tl5_at (X j : Nat) (u : Value) (h : (tl5 X)[j]? = some u) : (#[u6 (X % 18446744073709551616),u6 (X / 18446744073709551616 % 18446744073709551616),u6 (X / 340282366920938463463374607431768211456 % 18446744073709551616),u6 (X / 6277101735386680763835789423207666416102355444464034512896 % 18446744073709551616),u6 (X / 115792089237316195423570985008687907853269984665640564039457584007913129639936 % 18446744073709551616),u6 (X / 2135987035920910082395021706169552114602704522356652769947041607822219725780640550022962086936576 % 18446744073709551616)] : Array Value)[1 + j]? = some u := by
 have hj : j < 5 := (List.getElem?_eq_some_iff.1 h).1
 have : j = 0 ∨ j = 1 ∨ j = 2 ∨ j = 3 ∨ j = 4 := by omega
 rcases this with rfl | rfl | rfl | rfl | rfl <;> exact h
theorem shift6 {X : Nat} (h : X < 39402006196394479212279040100143613805079739270465446667948293404245721771497210611414266254884915640806627990306816) : (setCells (#[u6 (X % 18446744073709551616),u6 (X / 18446744073709551616 % 18446744073709551616),u6 (X / 340282366920938463463374607431768211456 % 18446744073709551616),u6 (X / 6277101735386680763835789423207666416102355444464034512896 % 18446744073709551616),u6 (X / 115792089237316195423570985008687907853269984665640564039457584007913129639936 % 18446744073709551616),u6 (X / 2135987035920910082395021706169552114602704522356652769947041607822219725780640550022962086936576 % 18446744073709551616)] : Array Value) 0 (tl5 X)).setIfInBounds 5 (u6 0) = #[u6 (X / 18446744073709551616 % 18446744073709551616),u6 (X / 18446744073709551616 / 18446744073709551616 % 18446744073709551616),u6 (X / 18446744073709551616 / 340282366920938463463374607431768211456 % 18446744073709551616),u6 (X / 18446744073709551616 / 6277101735386680763835789423207666416102355444464034512896 % 18446744073709551616),u6 (X / 18446744073709551616 / 115792089237316195423570985008687907853269984665640564039457584007913129639936 % 18446744073709551616),u6 (X / 18446744073709551616 / 2135987035920910082395021706169552114602704522356652769947041607822219725780640550022962086936576 % 18446744073709551616)] := by
 have e : (setCells (#[u6 (X % 18446744073709551616),u6 (X / 18446744073709551616 % 18446744073709551616),u6 (X / 340282366920938463463374607431768211456 % 18446744073709551616),u6 (X / 6277101735386680763835789423207666416102355444464034512896 % 18446744073709551616),u6 (X / 115792089237316195423570985008687907853269984665640564039457584007913129639936 % 18446744073709551616),u6 (X / 2135987035920910082395021706169552114602704522356652769947041607822219725780640550022962086936576 % 18446744073709551616)] : Array Value) 0 (tl5 X)).setIfInBounds 5 (u6 0) = #[u6 (X / 18446744073709551616 % 18446744073709551616),u6 (X / 340282366920938463463374607431768211456 % 18446744073709551616),u6 (X / 6277101735386680763835789423207666416102355444464034512896 % 18446744073709551616),u6 (X / 115792089237316195423570985008687907853269984665640564039457584007913129639936 % 18446744073709551616),u6 (X / 2135987035920910082395021706169552114602704522356652769947041607822219725780640550022962086936576 % 18446744073709551616),u6 0] := rfl
 rw [e,show X / 340282366920938463463374607431768211456 % 18446744073709551616 = X / 18446744073709551616 / 18446744073709551616 % 18446744073709551616 by omega,show X / 6277101735386680763835789423207666416102355444464034512896 % 18446744073709551616 = X / 18446744073709551616 / 340282366920938463463374607431768211456 % 18446744073709551616 by omega,show X / 115792089237316195423570985008687907853269984665640564039457584007913129639936 % 18446744073709551616 = X / 18446744073709551616 / 6277101735386680763835789423207666416102355444464034512896 % 18446744073709551616 by omega,show X / 2135987035920910082395021706169552114602704522356652769947041607822219725780640550022962086936576 % 18446744073709551616 = X / 18446744073709551616 / 115792089237316195423570985008687907853269984665640564039457584007913129639936 % 18446744073709551616 by omega,show (0 : Nat) = X / 18446744073709551616 / 2135987035920910082395021706169552114602704522356652769947041607822219725780640550022962086936576 % 18446744073709551616 by omega]
theorem mstep_ok {m n q T P X T' : Nat} (hn : (n * m + 1) % 18446744073709551616 = 0) (hX : X = T + P * q + ((T + P * q) % 18446744073709551616 * n % 18446744073709551616) * m) (hT' : T' = X / 18446744073709551616) (hT : T < q + m) (hP : P < 18446744073709551616) : T' < q + m ∧ ∃ u,u < 18446744073709551616 ∧ 18446744073709551616 * T' = T + P * q + u * m := by
 have h0 : X % 18446744073709551616 = 0 := by
   rw [hX]
   generalize T + P * q = Y
   have e : (Y + Y % 18446744073709551616 * n % 18446744073709551616 * m) % 18446744073709551616 = (Y % 18446744073709551616 * (n * m + 1)) % 18446744073709551616 := by
     rw [Nat.add_mod,Nat.mod_mul_mod,Nat.mul_add,Nat.mul_one,← Nat.mul_assoc,Nat.add_comm,Nat.add_mod_mod]
     rw [Nat.add_mod (Y % 18446744073709551616 * n * m),Nat.mod_mod]
     rw [Nat.mod_add_mod,Nat.add_mod_mod,Nat.mod_add_mod]
   rw [e,Nat.mul_mod,hn,Nat.mul_zero,Nat.zero_mod]
 have hu : (T + P * q) % 18446744073709551616 * n % 18446744073709551616 < 18446744073709551616 := Nat.mod_lt _ (by decide)
 generalize (T + P * q) % 18446744073709551616 * n % 18446744073709551616 = u at hX hu
 have k1 : P * q ≤ (18446744073709551616 - 1) * q := Nat.mul_le_mul_right _ (by omega)
 have k2 : u * m ≤ (18446744073709551616 - 1) * m := Nat.mul_le_mul_right _ (by omega)
 refine ⟨?_,u,hu,?_⟩
 · subst hT'
   refine Nat.div_lt_of_lt_mul ?_
   rw [hX]
   generalize P * q = a at *
   generalize u * m = b at *
   omega
 · subst hT'
   rw [← hX]
   omega
set_option maxRecDepth 10000 in
theorem mont_end {m p q T0 T1 T2 T3 : Nat} (hp : p < 115792089237316195423570985008687907853269984665640564039457584007913129639936) (hq : q < 115792089237316195423570985008687907853269984665640564039457584007913129639936) (hpq : p < m ∨ q < m)
   (e0 : ∃ u,u < 18446744073709551616 ∧ 18446744073709551616 * T0 = 0 + p % 18446744073709551616 * q + u * m) (e1 : ∃ u,u < 18446744073709551616 ∧ 18446744073709551616 * T1 = T0 + p / 18446744073709551616 % 18446744073709551616 * q + u * m) (e2 : ∃ u,u < 18446744073709551616 ∧ 18446744073709551616 * T2 = T1 + p / 340282366920938463463374607431768211456 % 18446744073709551616 * q + u * m) (e3 : ∃ u,u < 18446744073709551616 ∧ 18446744073709551616 * T3 = T2 + p / 6277101735386680763835789423207666416102355444464034512896 % 18446744073709551616 * q + u * m) :
   T3 < 2 * m ∧ T3 * 115792089237316195423570985008687907853269984665640564039457584007913129639936 % m = p * q % m := by
 obtain ⟨u0,a0,e0⟩ := e0
 obtain ⟨u1,a1,e1⟩ := e1
 obtain ⟨u2,a2,e2⟩ := e2
 obtain ⟨u3,a3,e3⟩ := e3
 have ep : p * q = p % 18446744073709551616 * q + 18446744073709551616 * (p / 18446744073709551616 % 18446744073709551616 * q) + 340282366920938463463374607431768211456 * (p / 340282366920938463463374607431768211456 % 18446744073709551616 * q) + 6277101735386680763835789423207666416102355444464034512896 * (p / 6277101735386680763835789423207666416102355444464034512896 % 18446744073709551616 * q) := by
   have := split4 hp
   generalize p % 18446744073709551616 = y0 at *
   generalize p / 18446744073709551616 % 18446744073709551616 = y1 at *
   generalize p / 340282366920938463463374607431768211456 % 18446744073709551616 = y2 at *
   generalize p / 6277101735386680763835789423207666416102355444464034512896 % 18446744073709551616 = y3 at *
   rw [this,Nat.add_mul,Nat.add_mul,Nat.add_mul,Nat.mul_assoc,Nat.mul_assoc,Nat.mul_assoc]
 have eu : (u0 + 18446744073709551616 * u1 + 340282366920938463463374607431768211456 * u2 + 6277101735386680763835789423207666416102355444464034512896 * u3) * m = u0 * m + 18446744073709551616 * (u1 * m) + 340282366920938463463374607431768211456 * (u2 * m) + 6277101735386680763835789423207666416102355444464034512896 * (u3 * m) := by
   rw [Nat.add_mul,Nat.add_mul,Nat.add_mul,Nat.mul_assoc,Nat.mul_assoc,Nat.mul_assoc]
 have hU : u0 + 18446744073709551616 * u1 + 340282366920938463463374607431768211456 * u2 + 6277101735386680763835789423207666416102355444464034512896 * u3 < 115792089237316195423570985008687907853269984665640564039457584007913129639936 := by omega
 generalize u0 + 18446744073709551616 * u1 + 340282366920938463463374607431768211456 * u2 + 6277101735386680763835789423207666416102355444464034512896 * u3 = U at *
 have key : 115792089237316195423570985008687907853269984665640564039457584007913129639936 * T3 = p * q + U * m := by
   rw [ep,eu]
   generalize p % 18446744073709551616 * q = b0 at *
   generalize p / 18446744073709551616 % 18446744073709551616 * q = b1 at *
   generalize p / 340282366920938463463374607431768211456 % 18446744073709551616 * q = b2 at *
   generalize p / 6277101735386680763835789423207666416102355444464034512896 % 18446744073709551616 * q = b3 at *
   generalize u0 * m = d0 at *
   generalize u1 * m = d1 at *
   generalize u2 * m = d2 at *
   generalize u3 * m = d3 at *
   clear hp hq hpq ep eu hU a0 a1 a2 a3
   have f0 : 340282366920938463463374607431768211456 * T0 = 18446744073709551616 * (b0 + d0) := by omega
   have f1 : 6277101735386680763835789423207666416102355444464034512896 * T1 = 340282366920938463463374607431768211456 * T0 + 340282366920938463463374607431768211456 * (b1 + d1) := by omega
   have f2 : 115792089237316195423570985008687907853269984665640564039457584007913129639936 * T2 = 6277101735386680763835789423207666416102355444464034512896 * T1 + 6277101735386680763835789423207666416102355444464034512896 * (b2 + d2) := by omega
   have f3 : 115792089237316195423570985008687907853269984665640564039457584007913129639936 * T3 = 6277101735386680763835789423207666416102355444464034512896 * T2 + 6277101735386680763835789423207666416102355444464034512896 * (b3 + d3) := by omega
   clear e0 e1 e2 e3
   omega
 refine ⟨?_,?_⟩
 · have k1 : U * m ≤ (115792089237316195423570985008687907853269984665640564039457584007913129639936 - 1) * m := Nat.mul_le_mul_right _ (by omega)
   have hm : 0 < m := by omega
   have k2 : p * q ≤ 115792089237316195423570985008687907853269984665640564039457584007913129639936 * m := by
     rcases hpq with h | h
     · rw [Nat.mul_comm p q]; exact Nat.mul_le_mul (by omega) (by omega)
     · exact Nat.mul_le_mul (by omega) (by omega)
   generalize p * q = b at *
   generalize U * m = d at *
   omega
 · rw [Nat.mul_comm T3,key,Nat.add_mul_mod_self_right]
end Go.Proofs.YteajeenmojbjhaaGreatDoor
