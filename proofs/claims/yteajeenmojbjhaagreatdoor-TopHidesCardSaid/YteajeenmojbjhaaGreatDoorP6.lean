/- N12 of the seat. -/
import Derived.Test.YteajeenmojbjhaaGreatDoorP5
namespace Go.Proofs.YteajeenmojbjhaaGreatDoor
open Go Fw
theorem ik_133_N12 : intB Tryz.prog 133 = some .u64 := by kernel_rfl
theorem cb_77_N12 : callB Tryz.prog 77 = true := by kernel_rfl
theorem cb_31_N12 : callB Tryz.prog 31 = true := by kernel_rfl
theorem cb_32_N12 : callB Tryz.prog 32 = true := by kernel_rfl
theorem p256 : (2 : Nat) ^ 256 = 115792089237316195423570985008687907853269984665640564039457584007913129639936 := by decide
theorem bit_hi {lo hi k : Nat} (h : lo < 115792089237316195423570985008687907853269984665640564039457584007913129639936) (hk : 256 ≤ k) : (lo + 115792089237316195423570985008687907853269984665640564039457584007913129639936 * hi) / 2 ^ k % 2 = hi / 2 ^ (k - 256) % 2 := by
 have e : (2 : Nat) ^ k = 115792089237316195423570985008687907853269984665640564039457584007913129639936 * 2 ^ (k - 256) := by
   rw [← p256,← Nat.pow_add,Nat.add_sub_cancel' hk]
 rw [e,← Nat.div_div_eq_div_mul,Nat.add_mul_div_left _ _ (by omega),Nat.div_eq_of_lt h,Nat.zero_add]
theorem bit_lo {lo hi k : Nat} (hk : k < 256) : (lo + 115792089237316195423570985008687907853269984665640564039457584007913129639936 * hi) / 2 ^ k % 2 = lo / 2 ^ k % 2 := by
 have e : (115792089237316195423570985008687907853269984665640564039457584007913129639936 : Nat) = 2 ^ k * (2 * 2 ^ (255 - k)) := by
   rw [← Nat.pow_succ',← Nat.pow_add,show k + (255 - k + 1) = 256 by omega,p256]
 rw [e,Nat.mul_assoc,Nat.add_mul_div_left _ _ (Nat.pow_pos (by decide)),Nat.mul_assoc,Nat.add_mul_mod_self_left]
theorem top0 {lo hi Q : Nat} (h : lo < 115792089237316195423570985008687907853269984665640564039457584007913129639936) (g : hi < 115792089237316195423570985008687907853269984665640564039457584007913129639936) : 0 = (lo + 115792089237316195423570985008687907853269984665640564039457584007913129639936 * hi) / 2 ^ ((511 : Int) + 1).toNat % Q := by
 have hk : ((511 : Int) + 1).toNat = 256 + 256 := rfl
 have e : (2 : Nat) ^ ((511 : Int) + 1).toNat = 115792089237316195423570985008687907853269984665640564039457584007913129639936 * 115792089237316195423570985008687907853269984665640564039457584007913129639936 := by
   rw [hk]
   exact (Nat.pow_add 2 256 256).trans (by rw [p256])
 rw [e,← Nat.div_div_eq_div_mul,Nat.add_mul_div_left _ _ (by omega),Nat.div_eq_of_lt h,Nat.zero_add,Nat.div_eq_of_lt g,Nat.zero_mod]
theorem hlt {p q : Nat} (hp : p < 115792089237316195423570985008687907853269984665640564039457584007913129639936) (hq : q < 115792089237316195423570985008687907853269984665640564039457584007913129639936) : p * q / 115792089237316195423570985008687907853269984665640564039457584007913129639936 < 115792089237316195423570985008687907853269984665640564039457584007913129639936 := Nat.div_lt_of_lt_mul (Nat.mul_lt_mul_of_lt_of_lt hp hq)
theorem wide_step {X Q i r : Nat} (hr : r = X / 2 ^ (i + 1) % Q) : (r + r) % Q = (X / 2 ^ i - X / 2 ^ i % 2) % Q ∧ ((r + r) % Q + 1) % Q = (X / 2 ^ i - X / 2 ^ i % 2 + 1) % Q := by
 have e : X / 2 ^ (i + 1) = X / 2 ^ i / 2 := by rw [Nat.pow_succ,Nat.div_div_eq_div_mul]
 have h : (r + r) % Q = (X / 2 ^ i - X / 2 ^ i % 2) % Q := by
   rw [hr,e,← Nat.add_mod]
   generalize X / 2 ^ i = Y
   congr 1
   omega
 exact ⟨h,by rw [h,Nat.mod_add_mod]⟩
theorem wide_yes {X Q i r : Nat} (hr : r = X / 2 ^ (i + 1) % Q) (hb : X / 2 ^ i % 2 = 1) : ((r + r) % Q + 1) % Q = X / 2 ^ i % Q := by
 rw [(wide_step hr).2,show X / 2 ^ i - X / 2 ^ i % 2 + 1 = X / 2 ^ i by generalize X / 2 ^ i = Y at *; omega]
theorem wide_no {X Q i r : Nat} (hr : r = X / 2 ^ (i + 1) % Q) (hb : ¬ X / 2 ^ i % 2 = 1) : (r + r) % Q = X / 2 ^ i % Q := by
 rw [(wide_step hr).1,show X / 2 ^ i - X / 2 ^ i % 2 = X / 2 ^ i by generalize X / 2 ^ i = Y at *; omega]
set_option maxRecDepth 100000 in
set_option maxHeartbeats 400000 in
theorem c77 (p : Nat) (i : Int) (h0 : 0 ≤ i) (h1 : i < 256) (w0 : World) : Cl Tryz.prog 77 #[nV p,.int .i64 i] w0 (RetQ w0 fun r => r = .bool (decide (p / 2 ^ i.toNat % 2 = 1))) := by
 have M : Sep (fun _ => False) w0 w0 _ := Sep.nil _ w0
 refine enter (vs := [_,_]) Tryz.func77 rfl rfl rfl ?_
 intro a F
 refine wp_seq (wp_region_l [.wr,.ind] ([0,1]) rfl ?_)
 refine s_bxA F M rfl rfl rfl rfl rfl ?_; clear F a M; intro b2 w M a F
 refine s_one F rfl ?_; clear F a; intro a F
 refine t_endM M ?_; clear M; intro w M
 refine wp_seq (wp_region_l [.ind,.ind,.ind,.ind,.ind,.ind,.ind,.ind,.ind,.ind,.rd,.ind,.ind,.ind,.ind,.ind,.ind,.ind,.ind] ([0,1,2,3,4,5,6,7,8,9,10,11,12,13,14,15,16,17,18]) rfl ?_)
 refine s_rn 3 F rfl rfl ?_; clear F a; intro a F
 refine bsplit F 7 rfl ?_ ?_
 clear F; intro hc0 F
 try rw [hc0] at F
 replace hc0 := of_decide_eq_true hc0
 refine s_rn 4 F rfl rfl ?_; clear F a; intro a F
 refine bsplit F 11 rfl ?_ ?_
 clear F; intro hc1 F
 try rw [hc1] at F
 replace hc1 := of_decide_eq_true hc1
 refine s_one F rfl ?_; clear F a; intro a F
 refine s_quo F rfl rfl rfl rfl rfl rfl (by omega) (by omega) (by omega) ?_; clear F a; intro a F
 refine s_ia F rfl rfl rfl rfl ar_25 rfl rfl (by omega) (by omega) ?_; clear F a; intro a F
 refine s_ld F rfl rfl rfl rfl sc_23 rfl (by exact cell_of_blk M.h0 (n4_at (by omega))) ?_; clear F a; intro a F
 refine s_one F rfl ?_; clear F a; intro a F
 refine s_rem F rfl rfl rfl rfl rfl rfl (by omega) ?_; clear F a; intro a F
 refine s_cu F rfl rfl rfl rfl ik_3 ik_133_N12 rfl ?_; clear F a; intro a F
 rw [show Int.tmod i 64 % 18446744073709551616 = ((i.toNat % 64 : Nat) : Int) by rw [Int.tmod_eq_emod_of_nonneg h0]; omega] at F
 refine s_ushr (i.toNat % 64) (2 ^ (i.toNat % 64)) F rfl rfl rfl rfl rfl rfl (by omega) rfl ?_; clear F a; intro a F
 refine s_uandm 1 2 F rfl rfl rfl rfl rfl rfl (by exact Nat.lt_of_le_of_lt (Nat.div_le_self _ _) (Nat.mod_lt _ (by decide))) (by decide) (by decide) ?_; clear F a; intro a F
 refine s_ucmp (v := 1) F rfl rfl rfl rfl rfl rfl rfl ?_; clear F a; intro a F
 refine s_rn 2 F rfl rfl ?_; clear F a; intro a F
 refine t_endM M ?_; clear M; intro w M
 refine wp_ret ?_
 refine ret1 F rfl rfl ?_
 refine ⟨_,rfl,?_,M.chg⟩
 clear M F
 rw [show 0 + (i / 64).toNat * 1 = i.toNat / 64 by omega,bit_at (Nat.mod_lt _ (by decide)),Nat.div_add_mod]
 clear F; intro hc2 F
 try rw [hc2] at F
 replace hc2 := of_decide_eq_false hc2
 exfalso
 omega
 clear F; intro hc3 F
 try rw [hc3] at F
 replace hc3 := of_decide_eq_false hc3
 exfalso
 omega
set_option maxRecDepth 100000 in
set_option maxHeartbeats 200000 in
theorem c32 (p q : Nat) (hp : p < 115792089237316195423570985008687907853269984665640564039457584007913129639936) (hq : q < 115792089237316195423570985008687907853269984665640564039457584007913129639936) (w0 : World) : Cl Tryz.prog 32 #[nV p,nV q] w0 (RetQ w0 fun r => r = nV ((p + 115792089237316195423570985008687907853269984665640564039457584007913129639936 * q) % 115792089210356248762697446949407573529996955224135760342422259061068512044369)) := by
 have M : Sep (fun _ => False) w0 w0 _ := Sep.nil _ w0
 refine enter (vs := [_,_]) Tryz.func32 rfl rfl rfl ?_
 intro a F
 refine wp_seq (wp_region_l [.wr,.wr,.wr] ([0,1,2]) rfl ?_)
 refine s_bxA F M rfl rfl rfl rfl rfl ?_; clear F a M; intro b2 w M a F
 refine s_bxA F M rfl rfl rfl rfl rfl ?_; clear F a M; intro b3 w M a F
 refine s_alc F M rfl rfl rfl rfl zr_25 rfl ?_; clear F a M; intro b4 w M a F
 refine t_endM M ?_; clear M; intro w M
 refine wp_seq (wp_region_l [.ind,.wr,.wr] ([0,1,2]) rfl ?_)
 refine s_bld F rfl rfl rfl rfl (parts0 F ) (bl_25_) ?_; clear F a; intro a F
 refine s_alc F M rfl rfl rfl rfl zr_25 rfl ?_; clear F a M; intro b5 w M a F
 refine s_stW F M rfl rfl rfl sz_25 rfl rfl rfl rfl rfl ?_; clear M; intro w M
 refine t_endM M ?_; clear M; intro w M
 refine wp_seq (wp_seq ?_)
 replace F := F.keep [0,1,2,3,4,5] rfl
 refine wp_region_l [.ind] ([0]) rfl ?_
 refine s_one F rfl ?_; clear F a; intro a F
 refine t_endM M ?_; clear M; intro w M
 refine wp_block ?_
 have M1 : Sep _ _ _ (blk b5 _ :: _) := M; replace M := M1; clear M1
 refine loopX (X := (Int) × (Nat)) F [0,1,2,3,4,5] rfl (fun ((i,r) : (Int) × (Nat)) => (-1 ≤ i) ∧ (i ≤ 511) ∧ (r < 115792089210356248762697446949407573529996955224135760342422259061068512044369) ∧ (r = (p + 115792089237316195423570985008687907853269984665640564039457584007913129639936 * q) / 2 ^ (i + 1).toNat % 115792089210356248762697446949407573529996955224135760342422259061068512044369)) (fun ((i,r) : (Int) × (Nat)) => [(6,.int .i64 i)]) (fun ((i,r) : (Int) × (Nat)) => [blk b5 (.cells #[u6 (r % 18446744073709551616),u6 (r / 18446744073709551616 % 18446744073709551616),u6 (r / 340282366920938463463374607431768211456 % 18446744073709551616),u6 (r / 6277101735386680763835789423207666416102355444464034512896 % 18446744073709551616)] 25 (0,0))]) (fun ((i,r) : (Int) × (Nat)) => (i + 1).toNat) ((511),(0)) M ⟨(by omega),(by omega),(by decide),(top0 hp hq)⟩ (F.keep [6,0,1,2,3,4,5] rfl) ?_
 clear F M; clear a; (try clear w)
 rintro ⟨i,r⟩ a w ⟨i0,i1,hr,hv⟩ F M; try dsimp only at F M
 try simp only [List.cons_append,List.nil_append] at F M
 try dsimp only at i0 i1 hr hv
 refine wp_seq (wp_seq (wp_region_l [.ind,.ind] ([0,1]) rfl ?_))
 refine s_rn 2 F rfl rfl ?_; clear F a; intro a F
 refine t_endM M ?_; clear M; intro w M
 refine c_if F rfl ?_ ?_
 clear F; intro hc0 F
 try rw [hc0] at F
 replace hc0 := of_decide_eq_true hc0
 refine wp_skip (wp_seq (wp_block (wp_seq ?_)))
 replace F := F.keep [0,1,2,3,4,5,6] rfl
 refine wp_region_l [.rd,.rd,.wr,.wr] ([0,1,2,3]) rfl ?_
 refine s_lda F rfl rfl rfl rfl ag_25 rfl rfl (cells_whole M.h0) ?_; clear F a; intro a F
 refine s_lda F rfl rfl rfl rfl ag_25 rfl rfl (cells_whole M.h0) ?_; clear F a; intro a F
 refine s_cq F M rfl rfl rfl rfl rfl (rfl : _ = some [_,_]) cb_10 (fun nd_ => c10 r r (Nat.lt_trans hr (by decide)) (Nat.lt_trans hr (by decide)) _) ?_; clear F a M; rintro v w rfl M a F
 refine s_stW F M rfl rfl rfl sz_25 rfl rfl rfl rfl rfl ?_; clear M; intro w M
 refine t_endM M ?_; clear M; intro w M
 refine wp_seq ?_
 refine cutX (X := (Bool)) (m0 := []) F [0,1,2,3,4,5,6] rfl M (fun (z : Bool) => ((z = true ↔ (p + 115792089237316195423570985008687907853269984665640564039457584007913129639936 * q) / 2 ^ i.toNat % 2 = 1))) (fun (z : Bool) => [(31,.bool z)]) (fun (z : Bool) => []) ?_ ?_
 replace F := F.keep [0,1,2,3,4,5,6] rfl
 refine wp_region_l [.ind,.ind,.ind,.rd,.ind,.ind,.wr,.ind,.ind,.ind,.ind,.ind,.rd,.ind,.wr,.ind,.ind] ([0,1,2,3,4,5,6,7,8,9,10,11,12,13,14,15,16]) rfl ?_
 refine s_rn 3 F rfl rfl ?_; clear F a; intro a F
 refine bsplit F 17 rfl ?_ ?_
 clear F; intro hc1 F
 try rw [hc1] at F
 replace hc1 := of_decide_eq_true hc1
 refine s_lda F rfl rfl rfl rfl ag_25 rfl rfl (cells_whole M.h2) ?_; clear F a; intro a F
 refine s_one F rfl ?_; clear F a; intro a F
 refine s_sub F rfl rfl rfl rfl rfl rfl (by unfold In64; omega) ?_; clear F a; intro a F
 refine s_cq F M rfl rfl rfl rfl rfl (rfl : _ = some [_,_]) cb_77_N12 (fun nd_ => c77 q (i - 256) (by omega) (by omega) _) ?_; clear F a M; rintro v w rfl M a F
 refine s_rn 2 F rfl rfl ?_; clear F a; intro a F
 refine bsplit F 23 rfl ?_ ?_
 clear F; intro hc2 F
 try rw [hc2] at F
 replace hc2 := of_decide_eq_true hc2
 refine s_rn 8 F rfl rfl ?_; clear F a; intro a F
 refine t_endM M ?_; clear M; intro w M
 refine joined (_) (by exact ⟨fun _ => (by rw [bit_hi hp (by omega),show i.toNat - 256 = (i - 256).toNat by omega]; assumption),fun _ => rfl⟩) (F.keep [31,0,1,2,3,4,5,6] rfl) ?_
 try dsimp only [List.cons_append,List.nil_append]
 refine M.pick ?_; repeat (first | exact PkG.nil | refine PkG.cons 0 rfl rfl ?_ | refine PkG.cons 1 rfl rfl ?_ | refine PkG.cons 2 rfl rfl ?_ | refine PkG.cons 3 rfl rfl ?_)
 clear F; intro hc3 F
 try rw [hc3] at F
 replace hc3 := of_decide_eq_false hc3
 refine s_rn 3 F rfl rfl ?_; clear F a; intro a F
 refine bsplit F 26 rfl ?_ ?_
 clear F; intro hc4 F
 try rw [hc4] at F
 replace hc4 := of_decide_eq_true hc4
 refine s_lda F rfl rfl rfl rfl ag_25 rfl rfl (cells_whole M.h3) ?_; clear F a; intro a F
 refine s_one F rfl ?_; clear F a; intro a F
 refine s_cq F M rfl rfl rfl rfl rfl (rfl : _ = some [_,_]) cb_77_N12 (fun nd_ => c77 p i (by omega) (by omega) _) ?_; clear F a M; rintro v w rfl M a F
 refine s_rn 2 F rfl rfl ?_; clear F a; intro a F
 refine t_endM M ?_; clear M; intro w M
 refine joined (_) (by rw [bit_lo (by omega)]; exact decide_eq_true_iff) (F.keep [31,0,1,2,3,4,5,6] rfl) ?_
 try dsimp only [List.cons_append,List.nil_append]
 refine M.pick ?_; repeat (first | exact PkG.nil | refine PkG.cons 0 rfl rfl ?_ | refine PkG.cons 1 rfl rfl ?_ | refine PkG.cons 2 rfl rfl ?_ | refine PkG.cons 3 rfl rfl ?_)
 clear F; intro hc5 F
 try rw [hc5] at F
 replace hc5 := of_decide_eq_false hc5
 refine s_rn 5 F rfl rfl ?_; clear F a; intro a F
 refine t_endM M ?_; clear M; intro w M
 refine joined (_) (by exact ⟨fun h => (by cases h),fun h => by rw [bit_hi hp (by omega),show i.toNat - 256 = (i - 256).toNat by omega] at h; exact absurd h (by assumption)⟩) (F.keep [31,0,1,2,3,4,5,6] rfl) ?_
 try dsimp only [List.cons_append,List.nil_append]
 refine M.pick ?_; repeat (first | exact PkG.nil | refine PkG.cons 0 rfl rfl ?_ | refine PkG.cons 1 rfl rfl ?_ | refine PkG.cons 2 rfl rfl ?_ | refine PkG.cons 3 rfl rfl ?_)
 clear F; intro hc6 F
 try rw [hc6] at F
 replace hc6 := of_decide_eq_false hc6
 refine s_rn 9 F rfl rfl ?_; clear F a; intro a F
 refine bsplit F 26 rfl ?_ ?_
 clear F; intro hc7 F
 try rw [hc7] at F
 replace hc7 := of_decide_eq_true hc7
 refine s_lda F rfl rfl rfl rfl ag_25 rfl rfl (cells_whole M.h3) ?_; clear F a; intro a F
 refine s_one F rfl ?_; clear F a; intro a F
 refine s_cq F M rfl rfl rfl rfl rfl (rfl : _ = some [_,_]) cb_77_N12 (fun nd_ => c77 p i (by omega) (by omega) _) ?_; clear F a M; rintro v w rfl M a F
 refine s_rn 2 F rfl rfl ?_; clear F a; intro a F
 refine t_endM M ?_; clear M; intro w M
 refine joined (_) (by rw [bit_lo (by omega)]; exact decide_eq_true_iff) (F.keep [31,0,1,2,3,4,5,6] rfl) ?_
 try dsimp only [List.cons_append,List.nil_append]
 refine M.pick ?_; repeat (first | exact PkG.nil | refine PkG.cons 0 rfl rfl ?_ | refine PkG.cons 1 rfl rfl ?_ | refine PkG.cons 2 rfl rfl ?_ | refine PkG.cons 3 rfl rfl ?_)
 clear F; intro hc8 F
 try rw [hc8] at F
 replace hc8 := of_decide_eq_false hc8
 refine s_rn 5 F rfl rfl ?_; clear F a; intro a F
 refine t_endM M ?_; clear M; intro w M
 refine joined (_) (by exfalso; omega) (F.keep [31,0,1,2,3,4,5,6] rfl) ?_
 try dsimp only [List.cons_append,List.nil_append]
 refine M.pick ?_; repeat (first | exact PkG.nil | refine PkG.cons 0 rfl rfl ?_ | refine PkG.cons 1 rfl rfl ?_ | refine PkG.cons 2 rfl rfl ?_ | refine PkG.cons 3 rfl rfl ?_)
 clear F M; clear a; (try clear w)
 rintro z a w hz F M; try dsimp only at F M
 try simp only [List.cons_append,List.nil_append] at F M
 try dsimp only at hz
 have hws : r = (p + 115792089237316195423570985008687907853269984665640564039457584007913129639936 * q) / 2 ^ (i.toNat + 1) % 115792089210356248762697446949407573529996955224135760342422259061068512044369 := by rw [show i.toNat + 1 = (i + 1).toNat by omega]; exact hv
 have M1 : Sep _ _ _ (blk b5 _ :: _) := M; replace M := M1; clear M1
 refine cutX (X := (Nat)) (m0 := [_]) F [0,1,2,3,4,5,6] rfl M (fun (r2 : Nat) => (r2 = (p + 115792089237316195423570985008687907853269984665640564039457584007913129639936 * q) / 2 ^ i.toNat % 115792089210356248762697446949407573529996955224135760342422259061068512044369)) (fun (r2 : Nat) => []) (fun (r2 : Nat) => [blk b5 (.cells #[u6 (r2 % 18446744073709551616),u6 (r2 / 18446744073709551616 % 18446744073709551616),u6 (r2 / 340282366920938463463374607431768211456 % 18446744073709551616),u6 (r2 / 6277101735386680763835789423207666416102355444464034512896 % 18446744073709551616)] 25 (0,0))]) ?_ ?_
 refine c_if F rfl ?_ ?_
 clear F; intro hc9 F
 try rw [hc9] at F
 skip
 replace F := F.keep [0,1,2,3,4,5,6] rfl
 refine wp_region_t [.rd,.wr,.wr,.wr] [(0,1)] (otOf [0,1,2,3]) mixed (by kernel_rfl) ?_
 refine s_ldaL F rfl rfl rfl rfl ag_25 rfl rfl (cells_whole M.h0) ?_; clear F a; intro a F
 refine s_cqL F M rfl rfl rfl rfl rfl (rfl : _ = some [_]) cb_25 (fun nd_ => c25 1 (by decide) _) (fun _ w _ M => (by (refine pend_take (by exact cells_whole M.h0) ?_); exact pend_none)) ?_; clear F a M; rintro v w rfl M a F
 refine s_cqL F M rfl rfl rfl rfl rfl (rfl : _ = some [_,_]) cb_10 (fun nd_ => c10 ((r + r) % 115792089210356248762697446949407573529996955224135760342422259061068512044369) 1 (Nat.lt_trans (Nat.mod_lt _ (by decide)) (by decide)) (by decide) _) (fun _ w _ M => (by (refine pend_skip rfl ?_); exact pend_none)) ?_; clear F a M; rintro v w rfl M a F
 refine s_stWL F M rfl rfl rfl sz_25 rfl rfl rfl rfl rfl (fun w M => (by (refine pend_skip rfl ?_); exact pend_none)) ?_; clear M; intro w M
 refine t_endM M ?_; clear M; intro w M
 refine joined (((r + r) % 115792089210356248762697446949407573529996955224135760342422259061068512044369 + 1) % 115792089210356248762697446949407573529996955224135760342422259061068512044369) (wide_yes hws (hz.1 (by assumption))) (F.keep [0,1,2,3,4,5,6] rfl) ?_
 try dsimp only [List.cons_append,List.nil_append]
 refine M.pick ?_; repeat (first | exact PkG.nil | refine PkG.cons 0 rfl rfl ?_ | refine PkG.cons 1 rfl rfl ?_ | refine PkG.cons 2 rfl rfl ?_ | refine PkG.cons 3 rfl rfl ?_)
 clear F; intro hc10 F
 try rw [hc10] at F
 skip
 refine wp_skip ?_
 refine joined ((r + r) % 115792089210356248762697446949407573529996955224135760342422259061068512044369) (wide_no hws (fun h => (Bool.eq_false_iff.1 (by assumption)) (hz.2 h))) (F.keep [0,1,2,3,4,5,6] rfl) ?_
 try dsimp only [List.cons_append,List.nil_append]
 refine M.pick ?_; repeat (first | exact PkG.nil | refine PkG.cons 0 rfl rfl ?_ | refine PkG.cons 1 rfl rfl ?_ | refine PkG.cons 2 rfl rfl ?_ | refine PkG.cons 3 rfl rfl ?_)
 clear F M; clear a; (try clear w)
 rintro r2 a w hr2 F M; try dsimp only at F M
 try simp only [List.cons_append,List.nil_append] at F M
 try dsimp only at hr2
 refine wp_region_l [.ind,.ind,.ind] ([0,1,2]) rfl ?_
 refine s_one F rfl ?_; clear F a; intro a F
 refine s_sub F rfl rfl rfl rfl rfl rfl (by unfold In64; omega) ?_; clear F a; intro a F
 refine s_one F rfl ?_; clear F a; intro a F
 refine t_endM M ?_; clear M; intro w M
 refine again ((i - 1),(r2)) (by show _ < _; (try dsimp only); omega) ⟨(by omega),(by omega),(by rw [hr2]; exact Nat.mod_lt _ (by decide)),(by rw [hr2,show (i - 1 + 1).toNat = i.toNat by omega])⟩ (F.keep [6,0,1,2,3,4,5] rfl) ?_
 try dsimp only [List.cons_append,List.nil_append]
 refine M.pick ?_; repeat (first | exact PkG.nil | refine PkG.cons 0 rfl rfl ?_ | refine PkG.cons 1 rfl rfl ?_ | refine PkG.cons 2 rfl rfl ?_ | refine PkG.cons 3 rfl rfl ?_)
 clear F; intro hc11 F
 try rw [hc11] at F
 replace hc11 := of_decide_eq_false hc11
 refine wp_exit ?_
 refine wp_seq ?_
 replace F := F.keep [0,1,2,3,4,5,6] rfl
 refine wp_region_l [.rd,.wr] ([0,1]) rfl ?_
 refine s_lda F rfl rfl rfl rfl ag_25 rfl rfl (cells_whole M.h0) ?_; clear F a; intro a F
 refine s_stW F M.f1 rfl rfl rfl sz_25 rfl rfl rfl rfl rfl ?_; clear M; intro w M
 refine t_endM M ?_; clear M; intro w M
 refine wp_ret ?_
 refine rt1 F rfl (by exact rv_a F rfl ag_25 rfl (cells_whole M.h0)) ?_
 obtain rfl : i = -1 := by omega
 refine ⟨_,rfl,?_,M.chg⟩
 clear M F
 have e : (p + 115792089237316195423570985008687907853269984665640564039457584007913129639936 * q) % 115792089210356248762697446949407573529996955224135760342422259061068512044369 = r := by
   rw [hv]; show _ = _ / 2 ^ 0 % _; rw [Nat.pow_zero,Nat.div_one]
 rw [e]
theorem c32m (P : Nat) (h : P / 115792089237316195423570985008687907853269984665640564039457584007913129639936 < 115792089237316195423570985008687907853269984665640564039457584007913129639936) (w0 : World) : Cl Tryz.prog 32 #[nV P,nV (P / 115792089237316195423570985008687907853269984665640564039457584007913129639936)] w0 (RetQ w0 fun r => r = nV (P % 115792089210356248762697446949407573529996955224135760342422259061068512044369)) := by
 have k := c32 (P % 115792089237316195423570985008687907853269984665640564039457584007913129639936) (P / 115792089237316195423570985008687907853269984665640564039457584007913129639936) (Nat.mod_lt _ (by decide)) h w0
 rwa [nV_mod,Nat.mod_add_div] at k
set_option maxRecDepth 100000 in
set_option maxHeartbeats 400000 in
theorem c11 (p q : Nat) (hp : p < 115792089237316195423570985008687907853269984665640564039457584007913129639936) (hq : q < 115792089237316195423570985008687907853269984665640564039457584007913129639936) (w0 : World) : Cl Tryz.prog 11 #[nV p,nV q] w0 (RetQ w0 fun r => r = nV (p * q % 115792089210356248762697446949407573529996955224135760342422259061068512044369)) := by
 have M : Sep (fun _ => False) w0 w0 _ := Sep.nil _ w0
 refine enter (vs := [_,_]) Tryz.func11 rfl rfl rfl ?_
 intro a F
 refine wp_seq (wp_region_l [.wr,.wr,.wr] ([0,1,2]) rfl ?_)
 refine s_bxA F M rfl rfl rfl rfl rfl ?_; clear F a M; intro b2 w M a F
 refine s_bxA F M rfl rfl rfl rfl rfl ?_; clear F a M; intro b3 w M a F
 refine s_alc F M rfl rfl rfl rfl zr_25 rfl ?_; clear F a M; intro b4 w M a F
 refine t_endM M ?_; clear M; intro w M
 refine wp_seq (wp_region_l [.rd,.rd,.wr,.ind,.ind,.ind,.wr,.wr,.wr,.wr] ([0,1,2,3,4,5,6,7,8,9]) rfl ?_)
 refine s_lda F rfl rfl rfl rfl ag_25 rfl rfl (cells_whole M.h2) ?_; clear F a; intro a F
 refine s_lda F rfl rfl rfl rfl ag_25 rfl rfl (cells_whole M.h1) ?_; clear F a; intro a F
 refine s_cq F M rfl rfl rfl rfl rfl (rfl : _ = some [_,_]) cb_31_N12 (fun nd_ => c31 p q hp hq _) ?_; clear F a M; rintro v w rfl M a F
 refine s_rn 3 F rfl rfl ?_; clear F a; intro a F
 refine s_alc F M rfl rfl rfl rfl zr_25 rfl ?_; clear F a M; intro b5 w M a F
 refine s_alc F M rfl rfl rfl rfl zr_25 rfl ?_; clear F a M; intro b6 w M a F
 refine s_stW F M.f1 rfl rfl rfl sz_25 rfl rfl rfl rfl rfl ?_; clear M; intro w M
 refine s_stW F M.f1 rfl rfl rfl sz_25 rfl rfl rfl rfl rfl ?_; clear M; intro w M
 refine t_endM M ?_; clear M; intro w M
 refine wp_seq ?_
 replace F := F.keep [0,1,2,3,4,5,6] rfl
 refine wp_region_l [.rd,.rd,.wr,.wr] ([0,1,2,3]) rfl ?_
 refine s_lda F rfl rfl rfl rfl ag_25 rfl rfl (cells_whole M.h1) ?_; clear F a; intro a F
 refine s_lda F rfl rfl rfl rfl ag_25 rfl rfl (cells_whole M.h0) ?_; clear F a; intro a F
 refine s_cq F M rfl rfl rfl rfl rfl (rfl : _ = some [_,_]) cb_32_N12 (fun nd_ => c32m (p * q) (hlt hp hq) _) ?_; clear F a M; rintro v w rfl M a F
 refine s_stW F M.f2 rfl rfl rfl sz_25 rfl rfl rfl rfl rfl ?_; clear M; intro w M
 refine t_endM M ?_; clear M; intro w M
 refine wp_ret ?_
 refine rt1 F rfl (by exact rv_a F rfl ag_25 rfl (cells_whole M.h0)) ?_
 exact ⟨_,rfl,rfl,M.chg⟩
end Go.Proofs.YteajeenmojbjhaaGreatDoor
namespace Go.Proofs.YteajeenmojbjhaaGreatDoor
open Go Fw
theorem or63 {x y : Nat} (hx : x < 9223372036854775808) : x ||| (y * 9223372036854775808 % 18446744073709551616) = x + y % 2 * 9223372036854775808 := by
 have e : y * 9223372036854775808 % 18446744073709551616 = y % 2 * 9223372036854775808 := by omega
 rw [e,Nat.or_comm,Nat.mul_comm,← Nat.two_pow_add_eq_or_of_lt (i := 63) hx (y % 2)]
 omega
theorem or63c {x : Nat} (hx : x < 9223372036854775808) : x ||| 9223372036854775808 = x + 9223372036854775808 := by
 have := Nat.two_pow_add_eq_or_of_lt (i := 63) hx 1
 rw [Nat.or_comm]
 rw [show (9223372036854775808 : Nat) = 2 ^ 63 * 1 from rfl,← this]
 omega
def hlv (m x : Nat) : Nat := if x % 2 = 0 then x / 2 else (x + m) / 2
set_option maxRecDepth 100000 in
set_option maxHeartbeats 1000000 in
theorem c74l (x0 x1 x2 x3 : Nat) (h0 : x0 < 18446744073709551616) (h1 : x1 < 18446744073709551616) (h2 : x2 < 18446744073709551616) (h3 : x3 < 18446744073709551616) (z : Bool) (w0 : World) : Cl Tryz.prog 74 #[n4 x0 x1 x2 x3,.bool z] w0 (RetQ w0 fun r => r = nV ((x0 + 18446744073709551616 * x1 + 340282366920938463463374607431768211456 * x2 + 6277101735386680763835789423207666416102355444464034512896 * x3 + if z = true then 115792089237316195423570985008687907853269984665640564039457584007913129639936 else 0) / 2)) := by
 have M : Sep (fun _ => False) w0 w0 _ := Sep.nil _ w0
 refine enter (vs := [_,_]) Tryz.func74 rfl rfl rfl ?_
 intro a F
 refine wp_seq (wp_region_l [.wr,.wr] ([0,1]) rfl ?_)
 refine s_bxA F M rfl rfl rfl rfl rfl ?_; clear F a M; intro b2 w M a F
 refine s_alc F M rfl rfl rfl rfl zr_25 rfl ?_; clear F a M; intro b4 w M a F
 refine t_endM M ?_; clear M; intro w M
 refine wp_seq (wp_seq (wp_region_l [.ind] ([0]) rfl ?_))
 refine s_one F rfl ?_; clear F a; intro a F
 refine t_endM M ?_; clear M; intro w M
 refine wp_block ?_
 refine wp_loop_rounds 5 ?_
 refine (show Code.wp _ _ _ _ _ from ?_)
 refine wp_seq (wp_seq (wp_region_l [.ind,.ind] ([0,1]) rfl ?_))
 refine s_rn 2 F rfl rfl ?_; clear F a; intro a F
 refine t_endM M ?_; clear M; intro w M
 refine c_t F (by rfl) ?_
 refine wp_skip (wp_seq (wp_block (wp_seq ?_)))
 replace F := F.keep [0,1,2,4,5] rfl
 refine wp_region_l [.ind,.ind,.ind,.rd,.ind,.ind,.wr] ([0,1,2,3,4,5,6]) rfl ?_
 refine s_rn 2 F rfl rfl ?_; clear F a; intro a F
 refine s_ia F rfl rfl rfl rfl ar_25 rfl rfl (by omega) (by omega) ?_; clear F a; intro a F
 refine s_ld F rfl rfl rfl rfl sc_23 rfl (by exact cell_of_blk M.h1 (lit rfl)) ?_; clear F a; intro a F
 refine s_ushr 1 2 F rfl rfl rfl rfl rfl rfl (by decide) (by decide) ?_; clear F a; intro a F
 refine s_ia F rfl rfl rfl rfl ar_25 rfl rfl (by omega) (by omega) ?_; clear F a; intro a F
 refine s_st F M.f1 rfl rfl rfl sz_23 rfl rfl rfl (by exact Nat.le_of_ble_eq_true rfl) ?_; clear M; intro w M
 refine t_endM M ?_; clear M; intro w M
 refine wp_seq ?_
 have M1 : Sep _ _ _ (blk b2 _ :: _) := M; replace M := M1; clear M1
 replace M := Fw.Sep.blkC M (rfl : _ = (#[_,_,_,_] : Array Value))
 replace F := F.keep [0,1,2,4,5] rfl
 refine wp_region_l [.ind,.ind] ([0,1]) rfl ?_
 refine s_rn 2 F rfl rfl ?_; clear F a; intro a F
 refine t_endM M ?_; clear M; intro w M
 refine c_t F (by rfl) ?_
 replace F := F.keep [0,1,2,4,5] rfl
 refine wp_region_t [.ind,.ind,.ind,.rd,.ind,.ind,.ind,.rd,.ind,.ind,.ind,.wr] [] (otOf [0,1,2,3,4,5,6,7,8,9,10,11]) mixed (by kernel_rfl) ?_
 refine s_rn 2 F rfl rfl ?_; clear F a; intro a F
 refine s_ia F rfl rfl rfl rfl ar_25 rfl rfl (by omega) (by omega) ?_; clear F a; intro a F
 refine s_ld F rfl rfl rfl rfl sc_23 rfl (by exact cell_of_blk M.h0 (lit rfl)) ?_; clear F a; intro a F
 refine s_one F rfl ?_; clear F a; intro a F
 refine s_add F rfl rfl rfl rfl rfl rfl (by unfold In64; omega) ?_; clear F a; intro a F
 refine s_ia F rfl rfl rfl rfl ar_25 rfl rfl (by omega) (by omega) ?_; clear F a; intro a F
 refine s_ld F rfl rfl rfl rfl sc_23 rfl (by exact cell_of_blk M.h0 (lit rfl)) ?_; clear F a; intro a F
 refine s_ushl 63 9223372036854775808 F rfl rfl rfl rfl rfl rfl (by decide) (by decide) ?_; clear F a; intro a F
 refine s_uor F rfl rfl rfl rfl rfl rfl (by omega) (by omega) ?_; clear F a; intro a F
 refine s_ia F rfl rfl rfl rfl ar_25 rfl rfl (by omega) (by omega) ?_; clear F a; intro a F
 rw [or63 (by omega)] at F
 refine s_st F M rfl rfl rfl sz_23 rfl rfl rfl (by exact Nat.le_of_ble_eq_true rfl) ?_; clear M; intro w M
 refine t_endM M ?_; clear M; intro w M
 have M1 : Sep _ _ _ (blk b2 _ :: _) := M; replace M := M1; clear M1
 replace M := Fw.Sep.blkC M (rfl : _ = (#[_,_,_,_] : Array Value))
 replace F := F.keep [0,1,2,4,5] rfl
 refine wp_region_l [.ind,.ind,.ind] ([0,1,2]) rfl ?_
 refine s_one F rfl ?_; clear F a; intro a F
 refine s_add F rfl rfl rfl rfl rfl rfl (by unfold In64; omega) ?_; clear F a; intro a F
 refine s_one F rfl ?_; clear F a; intro a F
 refine t_endM M ?_; clear M; intro w M
 refine (show Code.wp _ _ _ _ _ from ?_)
 refine wp_seq (wp_seq ?_)
 replace F := F.keep [0,1,2,4,5] rfl
 refine wp_region_l [.ind,.ind] ([0,1]) rfl ?_
 refine s_rn 2 F rfl rfl ?_; clear F a; intro a F
 refine t_endM M ?_; clear M; intro w M
 refine c_t F (by rfl) ?_
 refine wp_skip (wp_seq (wp_block (wp_seq ?_)))
 replace F := F.keep [0,1,2,4,5] rfl
 refine wp_region_l [.ind,.ind,.ind,.rd,.ind,.ind,.wr] ([0,1,2,3,4,5,6]) rfl ?_
 refine s_rn 2 F rfl rfl ?_; clear F a; intro a F
 refine s_ia F rfl rfl rfl rfl ar_25 rfl rfl (by omega) (by omega) ?_; clear F a; intro a F
 refine s_ld F rfl rfl rfl rfl sc_23 rfl (by exact cell_of_blk M.h0 (lit rfl)) ?_; clear F a; intro a F
 refine s_ushr 1 2 F rfl rfl rfl rfl rfl rfl (by decide) (by decide) ?_; clear F a; intro a F
 refine s_ia F rfl rfl rfl rfl ar_25 rfl rfl (by omega) (by omega) ?_; clear F a; intro a F
 refine s_st F M rfl rfl rfl sz_23 rfl rfl rfl (by exact Nat.le_of_ble_eq_true rfl) ?_; clear M; intro w M
 refine t_endM M ?_; clear M; intro w M
 refine wp_seq ?_
 have M1 : Sep _ _ _ (blk b2 _ :: _) := M; replace M := M1; clear M1
 replace M := Fw.Sep.blkC M (rfl : _ = (#[_,_,_,_] : Array Value))
 replace F := F.keep [0,1,2,4,5] rfl
 refine wp_region_l [.ind,.ind] ([0,1]) rfl ?_
 refine s_rn 2 F rfl rfl ?_; clear F a; intro a F
 refine t_endM M ?_; clear M; intro w M
 refine c_t F (by rfl) ?_
 replace F := F.keep [0,1,2,4,5] rfl
 refine wp_region_t [.ind,.ind,.ind,.rd,.ind,.ind,.ind,.rd,.ind,.ind,.ind,.wr] [] (otOf [0,1,2,3,4,5,6,7,8,9,10,11]) mixed (by kernel_rfl) ?_
 refine s_rn 2 F rfl rfl ?_; clear F a; intro a F
 refine s_ia F rfl rfl rfl rfl ar_25 rfl rfl (by omega) (by omega) ?_; clear F a; intro a F
 refine s_ld F rfl rfl rfl rfl sc_23 rfl (by exact cell_of_blk M.h0 (lit rfl)) ?_; clear F a; intro a F
 refine s_one F rfl ?_; clear F a; intro a F
 refine s_add F rfl rfl rfl rfl rfl rfl (by unfold In64; omega) ?_; clear F a; intro a F
 refine s_ia F rfl rfl rfl rfl ar_25 rfl rfl (by omega) (by omega) ?_; clear F a; intro a F
 refine s_ld F rfl rfl rfl rfl sc_23 rfl (by exact cell_of_blk M.h0 (lit rfl)) ?_; clear F a; intro a F
 refine s_ushl 63 9223372036854775808 F rfl rfl rfl rfl rfl rfl (by decide) (by decide) ?_; clear F a; intro a F
 refine s_uor F rfl rfl rfl rfl rfl rfl (by omega) (by omega) ?_; clear F a; intro a F
 refine s_ia F rfl rfl rfl rfl ar_25 rfl rfl (by omega) (by omega) ?_; clear F a; intro a F
 rw [or63 (by omega)] at F
 refine s_st F M rfl rfl rfl sz_23 rfl rfl rfl (by exact Nat.le_of_ble_eq_true rfl) ?_; clear M; intro w M
 refine t_endM M ?_; clear M; intro w M
 have M1 : Sep _ _ _ (blk b2 _ :: _) := M; replace M := M1; clear M1
 replace M := Fw.Sep.blkC M (rfl : _ = (#[_,_,_,_] : Array Value))
 replace F := F.keep [0,1,2,4,5] rfl
 refine wp_region_l [.ind,.ind,.ind] ([0,1,2]) rfl ?_
 refine s_one F rfl ?_; clear F a; intro a F
 refine s_add F rfl rfl rfl rfl rfl rfl (by unfold In64; omega) ?_; clear F a; intro a F
 refine s_one F rfl ?_; clear F a; intro a F
 refine t_endM M ?_; clear M; intro w M
 refine (show Code.wp _ _ _ _ _ from ?_)
 refine wp_seq (wp_seq ?_)
 replace F := F.keep [0,1,2,4,5] rfl
 refine wp_region_l [.ind,.ind] ([0,1]) rfl ?_
 refine s_rn 2 F rfl rfl ?_; clear F a; intro a F
 refine t_endM M ?_; clear M; intro w M
 refine c_t F (by rfl) ?_
 refine wp_skip (wp_seq (wp_block (wp_seq ?_)))
 replace F := F.keep [0,1,2,4,5] rfl
 refine wp_region_l [.ind,.ind,.ind,.rd,.ind,.ind,.wr] ([0,1,2,3,4,5,6]) rfl ?_
 refine s_rn 2 F rfl rfl ?_; clear F a; intro a F
 refine s_ia F rfl rfl rfl rfl ar_25 rfl rfl (by omega) (by omega) ?_; clear F a; intro a F
 refine s_ld F rfl rfl rfl rfl sc_23 rfl (by exact cell_of_blk M.h0 (lit rfl)) ?_; clear F a; intro a F
 refine s_ushr 1 2 F rfl rfl rfl rfl rfl rfl (by decide) (by decide) ?_; clear F a; intro a F
 refine s_ia F rfl rfl rfl rfl ar_25 rfl rfl (by omega) (by omega) ?_; clear F a; intro a F
 refine s_st F M rfl rfl rfl sz_23 rfl rfl rfl (by exact Nat.le_of_ble_eq_true rfl) ?_; clear M; intro w M
 refine t_endM M ?_; clear M; intro w M
 refine wp_seq ?_
 have M1 : Sep _ _ _ (blk b2 _ :: _) := M; replace M := M1; clear M1
 replace M := Fw.Sep.blkC M (rfl : _ = (#[_,_,_,_] : Array Value))
 replace F := F.keep [0,1,2,4,5] rfl
 refine wp_region_l [.ind,.ind] ([0,1]) rfl ?_
 refine s_rn 2 F rfl rfl ?_; clear F a; intro a F
 refine t_endM M ?_; clear M; intro w M
 refine c_t F (by rfl) ?_
 replace F := F.keep [0,1,2,4,5] rfl
 refine wp_region_t [.ind,.ind,.ind,.rd,.ind,.ind,.ind,.rd,.ind,.ind,.ind,.wr] [] (otOf [0,1,2,3,4,5,6,7,8,9,10,11]) mixed (by kernel_rfl) ?_
 refine s_rn 2 F rfl rfl ?_; clear F a; intro a F
 refine s_ia F rfl rfl rfl rfl ar_25 rfl rfl (by omega) (by omega) ?_; clear F a; intro a F
 refine s_ld F rfl rfl rfl rfl sc_23 rfl (by exact cell_of_blk M.h0 (lit rfl)) ?_; clear F a; intro a F
 refine s_one F rfl ?_; clear F a; intro a F
 refine s_add F rfl rfl rfl rfl rfl rfl (by unfold In64; omega) ?_; clear F a; intro a F
 refine s_ia F rfl rfl rfl rfl ar_25 rfl rfl (by omega) (by omega) ?_; clear F a; intro a F
 refine s_ld F rfl rfl rfl rfl sc_23 rfl (by exact cell_of_blk M.h0 (lit rfl)) ?_; clear F a; intro a F
 refine s_ushl 63 9223372036854775808 F rfl rfl rfl rfl rfl rfl (by decide) (by decide) ?_; clear F a; intro a F
 refine s_uor F rfl rfl rfl rfl rfl rfl (by omega) (by omega) ?_; clear F a; intro a F
 refine s_ia F rfl rfl rfl rfl ar_25 rfl rfl (by omega) (by omega) ?_; clear F a; intro a F
 rw [or63 (by omega)] at F
 refine s_st F M rfl rfl rfl sz_23 rfl rfl rfl (by exact Nat.le_of_ble_eq_true rfl) ?_; clear M; intro w M
 refine t_endM M ?_; clear M; intro w M
 have M1 : Sep _ _ _ (blk b2 _ :: _) := M; replace M := M1; clear M1
 replace M := Fw.Sep.blkC M (rfl : _ = (#[_,_,_,_] : Array Value))
 replace F := F.keep [0,1,2,4,5] rfl
 refine wp_region_l [.ind,.ind,.ind] ([0,1,2]) rfl ?_
 refine s_one F rfl ?_; clear F a; intro a F
 refine s_add F rfl rfl rfl rfl rfl rfl (by unfold In64; omega) ?_; clear F a; intro a F
 refine s_one F rfl ?_; clear F a; intro a F
 refine t_endM M ?_; clear M; intro w M
 refine (show Code.wp _ _ _ _ _ from ?_)
 refine wp_seq (wp_seq ?_)
 replace F := F.keep [0,1,2,4,5] rfl
 refine wp_region_l [.ind,.ind] ([0,1]) rfl ?_
 refine s_rn 2 F rfl rfl ?_; clear F a; intro a F
 refine t_endM M ?_; clear M; intro w M
 refine c_t F (by rfl) ?_
 refine wp_skip (wp_seq (wp_block (wp_seq ?_)))
 replace F := F.keep [0,1,2,4,5] rfl
 refine wp_region_l [.ind,.ind,.ind,.rd,.ind,.ind,.wr] ([0,1,2,3,4,5,6]) rfl ?_
 refine s_rn 2 F rfl rfl ?_; clear F a; intro a F
 refine s_ia F rfl rfl rfl rfl ar_25 rfl rfl (by omega) (by omega) ?_; clear F a; intro a F
 refine s_ld F rfl rfl rfl rfl sc_23 rfl (by exact cell_of_blk M.h0 (lit rfl)) ?_; clear F a; intro a F
 refine s_ushr 1 2 F rfl rfl rfl rfl rfl rfl (by decide) (by decide) ?_; clear F a; intro a F
 refine s_ia F rfl rfl rfl rfl ar_25 rfl rfl (by omega) (by omega) ?_; clear F a; intro a F
 refine s_st F M rfl rfl rfl sz_23 rfl rfl rfl (by exact Nat.le_of_ble_eq_true rfl) ?_; clear M; intro w M
 refine t_endM M ?_; clear M; intro w M
 refine wp_seq ?_
 have M1 : Sep _ _ _ (blk b2 _ :: _) := M; replace M := M1; clear M1
 replace M := Fw.Sep.blkC M (rfl : _ = (#[_,_,_,_] : Array Value))
 replace F := F.keep [0,1,2,4,5] rfl
 refine wp_region_l [.ind,.ind] ([0,1]) rfl ?_
 refine s_rn 2 F rfl rfl ?_; clear F a; intro a F
 refine t_endM M ?_; clear M; intro w M
 refine c_f F (by rfl) ?_
 refine wp_seq ?_
 replace F := F.keep [0,1,2,4,5] rfl
 refine wp_region_l [.ind] ([0]) rfl ?_
 refine s_one F rfl ?_; clear F a; intro a F
 refine t_endM M ?_; clear M; intro w M
 refine c_if F rfl ?_ ?_
 clear F; intro hc0 F
 try rw [hc0] at F
 skip
 replace F := F.keep [0,1,2,4,5] rfl
 refine wp_region_l [.ind,.ind,.ind,.rd,.ind,.ind,.wr] ([0,1,2,3,4,5,6]) rfl ?_
 refine s_rn 2 F rfl rfl ?_; clear F a; intro a F
 refine s_ia F rfl rfl rfl rfl ar_25 rfl rfl (by omega) (by omega) ?_; clear F a; intro a F
 refine s_ld F rfl rfl rfl rfl sc_23 rfl (by exact cell_of_blk M.h0 (lit rfl)) ?_; clear F a; intro a F
 refine s_uor (v := 9223372036854775808) F rfl rfl rfl rfl rfl rfl (by omega) (by omega) ?_; clear F a; intro a F
 refine s_ia F rfl rfl rfl rfl ar_25 rfl rfl (by omega) (by omega) ?_; clear F a; intro a F
 rw [or63c (by omega)] at F
 refine s_st F M rfl rfl rfl sz_23 rfl rfl rfl (by exact Nat.le_of_ble_eq_true rfl) ?_; clear M; intro w M
 refine t_endM M ?_; clear M; intro w M
 have M1 : Sep _ _ _ (blk b2 _ :: _) := M; replace M := M1; clear M1
 replace M := Fw.Sep.blkC M (rfl : _ = (#[_,_,_,_] : Array Value))
 replace F := F.keep [0,1,2,4,5] rfl
 refine wp_region_l [.ind,.ind,.ind] ([0,1,2]) rfl ?_
 refine s_one F rfl ?_; clear F a; intro a F
 refine s_add F rfl rfl rfl rfl rfl rfl (by unfold In64; omega) ?_; clear F a; intro a F
 refine s_one F rfl ?_; clear F a; intro a F
 refine t_endM M ?_; clear M; intro w M
 refine (show Code.wp _ _ _ _ _ from ?_)
 refine wp_seq (wp_seq ?_)
 replace F := F.keep [0,1,2,4,5] rfl
 refine wp_region_l [.ind,.ind] ([0,1]) rfl ?_
 refine s_rn 2 F rfl rfl ?_; clear F a; intro a F
 refine t_endM M ?_; clear M; intro w M
 refine c_f F (by rfl) ?_
 refine wp_exit ?_
 refine wp_seq ?_
 replace F := F.keep [0,1,2,4,5] rfl
 refine wp_region_l [.rd,.wr] ([0,1]) rfl ?_
 refine s_lda F rfl rfl rfl rfl ag_25 rfl rfl (cells_whole M.h0) ?_; clear F a; intro a F
 refine s_stW F M.f1 rfl rfl rfl sz_25 rfl rfl rfl rfl rfl ?_; clear M; intro w M
 refine t_endM M ?_; clear M; intro w M
 refine wp_ret ?_
 refine rt1 F rfl (by exact rv_a F rfl ag_25 rfl (cells_whole M.h0)) ?_
 refine ⟨_,rfl,?_,M.chg⟩
 clear M F
 rw [if_pos (by assumption)]
 exact nV_eq (by omega) (by omega) (by omega) (by omega)
 clear F; intro hc1 F
 try rw [hc1] at F
 skip
 refine wp_skip ?_
 have M1 : Sep _ _ _ (blk b2 _ :: _) := M; replace M := M1; clear M1
 replace M := Fw.Sep.blkC M (rfl : _ = (#[_,_,_,_] : Array Value))
 replace F := F.keep [0,1,2,4,5] rfl
 refine wp_region_l [.ind,.ind,.ind] ([0,1,2]) rfl ?_
 refine s_one F rfl ?_; clear F a; intro a F
 refine s_add F rfl rfl rfl rfl rfl rfl (by unfold In64; omega) ?_; clear F a; intro a F
 refine s_one F rfl ?_; clear F a; intro a F
 refine t_endM M ?_; clear M; intro w M
 refine (show Code.wp _ _ _ _ _ from ?_)
 refine wp_seq (wp_seq ?_)
 replace F := F.keep [0,1,2,4,5] rfl
 refine wp_region_l [.ind,.ind] ([0,1]) rfl ?_
 refine s_rn 2 F rfl rfl ?_; clear F a; intro a F
 refine t_endM M ?_; clear M; intro w M
 refine c_f F (by rfl) ?_
 refine wp_exit ?_
 refine wp_seq ?_
 replace F := F.keep [0,1,2,4,5] rfl
 refine wp_region_l [.rd,.wr] ([0,1]) rfl ?_
 refine s_lda F rfl rfl rfl rfl ag_25 rfl rfl (cells_whole M.h0) ?_; clear F a; intro a F
 refine s_stW F M.f1 rfl rfl rfl sz_25 rfl rfl rfl rfl rfl ?_; clear M; intro w M
 refine t_endM M ?_; clear M; intro w M
 refine wp_ret ?_
 refine rt1 F rfl (by exact rv_a F rfl ag_25 rfl (cells_whole M.h0)) ?_
 refine ⟨_,rfl,?_,M.chg⟩
 clear M F
 rw [if_neg (by simp_all)]
 exact nV_eq (by omega) (by omega) (by omega) (by omega)
theorem c74 (p : Nat) (hp : p < 115792089237316195423570985008687907853269984665640564039457584007913129639936) (z : Bool) (w0 : World) : Cl Tryz.prog 74 #[nV p,.bool z] w0 (RetQ w0 fun r => r = nV ((p + if z = true then 115792089237316195423570985008687907853269984665640564039457584007913129639936 else 0) / 2)) := by
 have h := c74l (p % 18446744073709551616) (p / 18446744073709551616 % 18446744073709551616) (p / 340282366920938463463374607431768211456 % 18446744073709551616) (p / 6277101735386680763835789423207666416102355444464034512896 % 18446744073709551616) (Nat.mod_lt _ (by decide)) (Nat.mod_lt _ (by decide)) (Nat.mod_lt _ (by decide)) (Nat.mod_lt _ (by decide)) z w0
 rw [← split4 hp] at h
 exact h
theorem c74m (p : Nat) (z : Bool) (w0 : World) : Cl Tryz.prog 74 #[nV p,.bool z] w0 (RetQ w0 fun r => r = nV ((p % 115792089237316195423570985008687907853269984665640564039457584007913129639936 + if z = true then 115792089237316195423570985008687907853269984665640564039457584007913129639936 else 0) / 2)) := by
 have h := c74 (p % 115792089237316195423570985008687907853269984665640564039457584007913129639936) (Nat.mod_lt _ (by decide)) z w0
 rwa [nV_mod] at h
set_option maxRecDepth 100000 in
set_option maxHeartbeats 400000 in
theorem c75 (p : Nat) (hp : p < 115792089237316195423570985008687907853269984665640564039457584007913129639936) (w0 : World) : Cl Tryz.prog 75 #[nV p] w0 (RetQ w0 fun r => r = nV (hlv 115792089210356248762697446949407573529996955224135760342422259061068512044369 p)) := by
 have M : Sep (fun _ => False) w0 w0 _ := Sep.nil _ w0
 refine enter (vs := [_]) Tryz.func75 rfl rfl rfl ?_
 intro a F
 refine wp_seq (wp_region_l [.wr,.wr] ([0,1]) rfl ?_)
 refine s_bxA F M rfl rfl rfl rfl rfl ?_; clear F a M; intro b1 w M a F
 refine s_alc F M rfl rfl rfl rfl zr_25 rfl ?_; clear F a M; intro b2 w M a F
 refine t_endM M ?_; clear M; intro w M
 refine wp_seq (wp_seq (wp_region_l [.ind,.rd,.ind,.ind] ([0,1,2,3]) rfl ?_))
 refine s_ia F rfl rfl rfl rfl ar_25 rfl rfl (by omega) (by omega) ?_; clear F a; intro a F
 refine s_ld F rfl rfl rfl rfl sc_23 rfl (by exact cell_of_blk M.h1 (lit rfl)) ?_; clear F a; intro a F
 refine s_urem (v := 2) F rfl rfl rfl rfl rfl rfl (by omega) ?_; clear F a; intro a F
 refine s_ucmp (v := 0) F rfl rfl rfl rfl rfl rfl rfl ?_; clear F a; intro a F
 refine t_endM M ?_; clear M; intro w M
 refine c_if F rfl ?_ ?_
 clear F; intro hc0 F
 try rw [hc0] at F
 replace hc0 := of_decide_eq_true hc0
 refine wp_seq ?_
 replace F := F.keep [0,1,2] rfl
 refine wp_region_l [.rd,.wr,.wr] ([0,1,2]) rfl ?_
 refine s_lda F rfl rfl rfl rfl ag_25 rfl rfl (cells_whole M.h1) ?_; clear F a; intro a F
 refine s_cq F M rfl rfl rfl rfl rfl (rfl : _ = some [_,_]) cb_74 (fun nd_ => c74 p hp false _) ?_; clear F a M; rintro v w rfl M a F
 refine s_stW F M rfl rfl rfl sz_25 rfl rfl rfl rfl rfl ?_; clear M; intro w M
 refine t_endM M ?_; clear M; intro w M
 refine wp_ret ?_
 refine rt1 F rfl (by exact rv_a F rfl ag_25 rfl (cells_whole M.h0)) ?_
 refine ⟨_,rfl,?_,M.chg⟩
 clear M F
 unfold hlv
 rw [if_pos (by omega)]
 exact nV_congr (by simp)
 clear F; intro hc1 F
 try rw [hc1] at F
 replace hc1 := of_decide_eq_false hc1
 refine wp_skip (wp_seq ?_)
 replace F := F.keep [0,1,2] rfl
 refine wp_region_t [.rd,.wr,.wr,.ind,.ind,.ind,.wr,.wr,.ind] [(0,1),(0,6)] (.one 0 (.two 1 6 (.two 2 6 (otOf [3,4,5,6,7,8]) (otOf [2,3,4,5,7,8])) (otOf [1,2,3,4,5,7,8]))) mixed (by kernel_rfl) ?_
 refine s_ldaL F rfl rfl rfl rfl ag_25 rfl rfl (cells_whole M.h1) ?_; clear F a; intro a F
 refine t_two ?_ ?_
 refine s_cqL F M rfl rfl rfl rfl rfl (rfl : _ = some []) cb_14 (fun nd_ => c14 _) (fun _ w _ M => (by (refine pend_take (by exact cells_whole M.h1) ?_); exact pend_none)) ?_; clear F a M; rintro v w rfl M a F
 refine t_two ?_ ?_
 refine s_cqL F M rfl rfl rfl rfl rfl (rfl : _ = some [_,_]) cb_30 (fun nd_ => c30 p 115792089210356248762697446949407573529996955224135760342422259061068512044369 hp (by decide) _) (fun _ w _ M => (by (refine pend_skip rfl ?_); exact pend_none)) ?_; clear F a M; rintro v w rfl M a F
 refine s_rn 3 F rfl rfl ?_; clear F a; intro a F
 refine s_alcL F M rfl rfl rfl rfl zr_25 rfl (fun b w M => (by (refine pend_take (by exact cells_whole M.h2) ?_); exact pend_none)) ?_; clear F a M; intro b3 w M a F
 refine s_stWL F M rfl rfl rfl sz_25 rfl rfl rfl rfl rfl (fun w M => (by (refine pend_skip rfl ?_); exact pend_none)) ?_; clear M; intro w M
 refine s_one F rfl ?_; clear F a; intro a F
 refine t_endM M ?_; clear M; intro w M
 refine wp_seq ?_
 replace F := F.keep [0,1,2,3,4] rfl
 refine wp_region_l [.rd,.ind,.wr,.wr] ([0,1,2,3]) rfl ?_
 refine s_lda F rfl rfl rfl rfl ag_25 rfl rfl (cells_whole M.h0) ?_; clear F a; intro a F
 refine s_one F rfl ?_; clear F a; intro a F
 refine s_cq F M rfl rfl rfl rfl rfl (rfl : _ = some [_,_]) cb_74 (fun nd_ => c74m (p + 115792089210356248762697446949407573529996955224135760342422259061068512044369) (decide (115792089237316195423570985008687907853269984665640564039457584007913129639936 ≤ p + 115792089210356248762697446949407573529996955224135760342422259061068512044369)) _) ?_; clear F a M; rintro v w rfl M a F
 refine s_stW F M.f1 rfl rfl rfl sz_25 rfl rfl rfl rfl rfl ?_; clear M; intro w M
 refine t_endM M ?_; clear M; intro w M
 refine wp_ret ?_
 refine rt1 F rfl (by exact rv_a F rfl ag_25 rfl (cells_whole M.h0)) ?_
 refine ⟨_,rfl,?_,M.chg⟩
 clear M F
 unfold hlv
 rw [if_neg (by omega)]
 refine nV_congr ?_
 by_cases h : 115792089237316195423570985008687907853269984665640564039457584007913129639936 ≤ p + 115792089210356248762697446949407573529996955224135760342422259061068512044369
 · rw [if_pos (decide_eq_true h)]; omega
 · rw [if_neg (by simpa using h)]; omega
 refine s_alcL F M rfl rfl rfl rfl zr_25 rfl (fun b w M => (by (refine pend_take (by exact cells_whole M.h2) ?_); exact pend_none)) ?_; clear F a M; intro b3 w M a F
 refine s_cqL F M rfl rfl rfl rfl rfl (rfl : _ = some [_,_]) cb_30 (fun nd_ => c30 p 115792089210356248762697446949407573529996955224135760342422259061068512044369 hp (by decide) _) (fun _ w _ M => (by (refine pend_skip rfl ?_); exact pend_none)) ?_; clear F a M; rintro v w rfl M a F
 refine s_rn 3 F rfl rfl ?_; clear F a; intro a F
 refine s_stWL F M rfl rfl rfl sz_25 rfl rfl rfl rfl rfl (fun w M => (by (refine pend_skip rfl ?_); exact pend_none)) ?_; clear M; intro w M
 refine s_one F rfl ?_; clear F a; intro a F
 refine t_endM M ?_; clear M; intro w M
 refine wp_seq ?_
 replace F := F.keep [0,1,2,3,4] rfl
 refine wp_region_l [.rd,.ind,.wr,.wr] ([0,1,2,3]) rfl ?_
 refine s_lda F rfl rfl rfl rfl ag_25 rfl rfl (cells_whole M.h0) ?_; clear F a; intro a F
 refine s_one F rfl ?_; clear F a; intro a F
 refine s_cq F M rfl rfl rfl rfl rfl (rfl : _ = some [_,_]) cb_74 (fun nd_ => c74m (p + 115792089210356248762697446949407573529996955224135760342422259061068512044369) (decide (115792089237316195423570985008687907853269984665640564039457584007913129639936 ≤ p + 115792089210356248762697446949407573529996955224135760342422259061068512044369)) _) ?_; clear F a M; rintro v w rfl M a F
 refine s_stW F M.f1 rfl rfl rfl sz_25 rfl rfl rfl rfl rfl ?_; clear M; intro w M
 refine t_endM M ?_; clear M; intro w M
 refine wp_ret ?_
 refine rt1 F rfl (by exact rv_a F rfl ag_25 rfl (cells_whole M.h0)) ?_
 refine ⟨_,rfl,?_,M.chg⟩
 clear M F
 unfold hlv
 rw [if_neg (by omega)]
 refine nV_congr ?_
 by_cases h : 115792089237316195423570985008687907853269984665640564039457584007913129639936 ≤ p + 115792089210356248762697446949407573529996955224135760342422259061068512044369
 · rw [if_pos (decide_eq_true h)]; omega
 · rw [if_neg (by simpa using h)]; omega
 refine s_alcL F M rfl rfl rfl rfl zr_25 rfl (fun b w M => (by (refine pend_take (by exact cells_whole M.h2) ?_); exact pend_none)) ?_; clear F a M; intro b3 w M a F
 refine s_cqL F M rfl rfl rfl rfl rfl (rfl : _ = some []) cb_14 (fun nd_ => c14 _) (fun _ w _ M => (by (refine pend_take (by exact cells_whole M.h2) ?_); exact pend_none)) ?_; clear F a M; rintro v w rfl M a F
 refine s_cqL F M rfl rfl rfl rfl rfl (rfl : _ = some [_,_]) cb_30 (fun nd_ => c30 p 115792089210356248762697446949407573529996955224135760342422259061068512044369 hp (by decide) _) (fun _ w _ M => (by (refine pend_skip rfl ?_); exact pend_none)) ?_; clear F a M; rintro v w rfl M a F
 refine s_rn 3 F rfl rfl ?_; clear F a; intro a F
 refine s_stWL F M rfl rfl rfl sz_25 rfl rfl rfl rfl rfl (fun w M => (by (refine pend_skip rfl ?_); exact pend_none)) ?_; clear M; intro w M
 refine s_one F rfl ?_; clear F a; intro a F
 refine t_endM M ?_; clear M; intro w M
 refine wp_seq ?_
 replace F := F.keep [0,1,2,3,4] rfl
 refine wp_region_l [.rd,.ind,.wr,.wr] ([0,1,2,3]) rfl ?_
 refine s_lda F rfl rfl rfl rfl ag_25 rfl rfl (cells_whole M.h0) ?_; clear F a; intro a F
 refine s_one F rfl ?_; clear F a; intro a F
 refine s_cq F M rfl rfl rfl rfl rfl (rfl : _ = some [_,_]) cb_74 (fun nd_ => c74m (p + 115792089210356248762697446949407573529996955224135760342422259061068512044369) (decide (115792089237316195423570985008687907853269984665640564039457584007913129639936 ≤ p + 115792089210356248762697446949407573529996955224135760342422259061068512044369)) _) ?_; clear F a M; rintro v w rfl M a F
 refine s_stW F M.f1 rfl rfl rfl sz_25 rfl rfl rfl rfl rfl ?_; clear M; intro w M
 refine t_endM M ?_; clear M; intro w M
 refine wp_ret ?_
 refine rt1 F rfl (by exact rv_a F rfl ag_25 rfl (cells_whole M.h0)) ?_
 refine ⟨_,rfl,?_,M.chg⟩
 clear M F
 unfold hlv
 rw [if_neg (by omega)]
 refine nV_congr ?_
 by_cases h : 115792089237316195423570985008687907853269984665640564039457584007913129639936 ≤ p + 115792089210356248762697446949407573529996955224135760342422259061068512044369
 · rw [if_pos (decide_eq_true h)]; omega
 · rw [if_neg (by simpa using h)]; omega
end Go.Proofs.YteajeenmojbjhaaGreatDoor
namespace Go.Proofs.YteajeenmojbjhaaGreatDoor
open Go Fw
theorem eqN : EqV Tryz.prog 25 encN := by
 refine ⟨by kernel_rfl,fun k k' w => ?_⟩
 have hu : Tryz.prog.underlying 25 = some (.array 4 23) := by kernel_rfl
 have h3 : Tryz.prog.underlying 23 = some (.int .u64) := by kernel_rfl
 have s3 : scalB Tryz.prog 23 = true := by kernel_rfl
 have hc : Tryz.prog.cellsOf 23 = 1 := by kernel_rfl
 obtain ⟨i,hi⟩ : ∃ i,Tryz.prog.info? 23 = some i := by
   cases h : Tryz.prog.info? 23 with
   | none => exact absurd h (by decide +kernel)
   | some i => exact ⟨i,rfl⟩
 have hsh : ∀ q : N4,(encN q).toArray = #[u6 q.a,u6 q.b,u6 q.c,u6 q.d] := fun _ => rfl
 have d0 : ∀ (a b c d : Nat),(part 23 #[u6 a,u6 b,u6 c,u6 d] 0).run Tryz.prog w = .ok (u6 a) w := fun a b c d => part_scal s3 rfl w
 have d1 : ∀ (a b c d : Nat),(part 23 #[u6 a,u6 b,u6 c,u6 d] 1).run Tryz.prog w = .ok (u6 b) w := fun a b c d => part_scal s3 rfl w
 have d2 : ∀ (a b c d : Nat),(part 23 #[u6 a,u6 b,u6 c,u6 d] 2).run Tryz.prog w = .ok (u6 c) w := fun a b c d => part_scal s3 rfl w
 have d3 : ∀ (a b c d : Nat),(part 23 #[u6 a,u6 b,u6 c,u6 d] 3).run Tryz.prog w = .ok (u6 d) w := fun a b c d => part_scal s3 rfl w
 rw [hsh,hsh,run_equalIn_array w 9999 _ _ hu hi,hc,show List.range 4 = [0,1,2,3] from rfl]
 simp only [Op.eqItems,Nat.mul_one,Nat.zero_mul]
 have q := fun (x y : Nat) => run_equalIn_int (P := Tryz.prog) w 9998 23 .u64 .u64 (x : Int) (y : Int) h3
 obtain ⟨a,b,c,d⟩ := k
 obtain ⟨a',b',c',d'⟩ := k'
 have e : ∀ x y : Nat,((x : Int) == (y : Int)) = decide (x = y) := fun x y => by
   by_cases h : x = y
   · simp [h]
   · have : ¬ (x : Int) = y := by omega
     simp [h,this]
 simp [d0,d1,d2,d3,q,e]
 by_cases h1 : a = a' <;> by_cases h2 : b = b' <;> by_cases h3 : c = c' <;> by_cases h4 : d = d' <;> simp [h1,h2,h3,h4]
section
variable {ops : List Oper} {cl : List Cls} {bad : List (Nat × Nat)} {Q : Act → World → Prop} {n k d : Nat} {t : Ot} {L : Pend} {a : Act} {w : World} {l : List (Nat × Value)}
variable {ty : TypeId} {ps : String} {af : Array Edge} {g : Option (Nat × Bool)} {ty' : TypeId} {x y : Operand}
theorem s_eqn (p q : Nat) (hp : p < 115792089237316195423570985008687907853269984665640564039457584007913129639936) (hq : q < 115792089237316195423570985008687907853269984665640564039457584007913129639936) (F : Fr n a l) (ho : nth ops k = some ⟨some d,.binOp .eql 25 x y ty',ty,ps,af,g⟩) (hw : wn ops l g = some true) (hc : nth cl k = some .ind) (hlt : Nat.blt d n = true)
   (hx : ev l x = some (nV p)) (hy : ev l y = some (nV q)) (h : ∀ a',Fr n a' ((d,.bool (decide (p = q))) :: l) → trunT Tryz.prog ops cl bad Q t L a' w) : trunT Tryz.prog ops cl bad Q (.one k t) L a w := by
 refine s_seq (u := lims p) (v := lims q) eqN F ho hw hc hlt hx hy fun a' F' => h a' ?_
 rwa [show decide (lims p = lims q) = decide (p = q) from decide_eq_decide.2 (lims_inj hp hq)] at F'
theorem s_nen (p q : Nat) (hp : p < 115792089237316195423570985008687907853269984665640564039457584007913129639936) (hq : q < 115792089237316195423570985008687907853269984665640564039457584007913129639936) (F : Fr n a l) (ho : nth ops k = some ⟨some d,.binOp .neq 25 x y ty',ty,ps,af,g⟩) (hw : wn ops l g = some true) (hc : nth cl k = some .ind) (hlt : Nat.blt d n = true)
   (hx : ev l x = some (nV p)) (hy : ev l y = some (nV q)) (h : ∀ a',Fr n a' ((d,.bool (!decide (p = q))) :: l) → trunT Tryz.prog ops cl bad Q t L a' w) : trunT Tryz.prog ops cl bad Q (.one k t) L a w := by
 refine s_sne (u := lims p) (v := lims q) eqN F ho hw hc hlt hx hy fun a' F' => h a' ?_
 rwa [show (!decide (lims p = lims q)) = !decide (p = q) from congrArg (!·) (decide_eq_decide.2 (lims_inj hp hq))] at F'
end
structure IS where
 u : Nat
 v : Nat
 x : Nat
 y : Nat
def ist (m : Nat) (s : IS) : IS :=
 if s.u % 2 = 0 then ⟨s.u / 2,s.v,hlv m s.x,s.y⟩
 else if s.v % 2 = 0 then ⟨s.u,s.v / 2,s.x,hlv m s.y⟩
 else if s.v ≤ s.u then ⟨s.u - s.v,s.v,(s.x + (m - s.y % m)) % m,s.y⟩
 else ⟨s.u,s.v - s.u,s.x,(s.y + (m - s.x % m)) % m⟩
def irun (m : Nat) : Nat → IS → IS
 | 0,s => s
 | n + 1,s => if s.u = 1 ∨ s.v = 1 then s else irun m n (ist m s)
structure IOk (m : Nat) (s : IS) : Prop where
 u : s.u < 115792089237316195423570985008687907853269984665640564039457584007913129639936
 v : s.v < 115792089237316195423570985008687907853269984665640564039457584007913129639936
 x : s.x < m
 y : s.y < m
theorem hlv_lt {m x : Nat} (h : x < m) : hlv m x < m := by
 unfold hlv; split <;> omega
theorem IOk.next {m : Nat} {s : IS} (h : IOk m s) (hm : m < 115792089237316195423570985008687907853269984665640564039457584007913129639936) : IOk m (ist m s) := by
 obtain ⟨h1,h2,h3,h4⟩ := h
 have hm0 : 0 < m := by omega
 unfold ist
 split
 · exact ⟨by dsimp only; omega,h2,hlv_lt h3,h4⟩
 · split
   · exact ⟨h1,by dsimp only; omega,h3,hlv_lt h4⟩
   · split
     · exact ⟨by dsimp only; omega,h2,Nat.mod_lt _ hm0,h4⟩
     · exact ⟨h1,by dsimp only; omega,h3,Nat.mod_lt _ hm0⟩
def invN (m a : Nat) : Nat := if a % m = 0 then 0 else if (irun m 2000 ⟨a % m,m,1,0⟩).u = 1 then (irun m 2000 ⟨a % m,m,1,0⟩).x else (irun m 2000 ⟨a % m,m,1,0⟩).y
theorem irun_go {m n : Nat} {s : IS} (h1 : ¬ s.u = 1) (h2 : ¬ s.v = 1) : irun m (n + 1) s = irun m n (ist m s) := if_neg (fun h => h.elim h1 h2)
theorem irun_end {m n : Nat} {s : IS} (h : s.u = 1 ∨ s.v = 1) : irun m n s = s := by
 cases n with
 | zero => rfl
 | succ n => exact if_pos h
end Go.Proofs.YteajeenmojbjhaaGreatDoor
namespace Go.Proofs.YteajeenmojbjhaaGreatDoor
open Go Fw
theorem cb_75_N15 : callB Tryz.prog 75 = true := by kernel_rfl
theorem cmp_ge {a b : Nat} (h : 0 ≤ cmpN a b) : b ≤ a := by
 unfold cmpN at h; split at h <;> omega
theorem cmp_lt {a b : Nat} (h : ¬ 0 ≤ cmpN a b) : ¬ b ≤ a := by
 unfold cmpN at h; split at h
 · omega
 · split at h <;> omega
theorem inv_ok0 (p : Nat) : IOk 115792089210356248762697446949407573529996955224135760342422259061068512044369 ⟨p % 115792089210356248762697446949407573529996955224135760342422259061068512044369,115792089210356248762697446949407573529996955224135760342422259061068512044369,1,0⟩ := ⟨show p % 115792089210356248762697446949407573529996955224135760342422259061068512044369 < _ by omega,show 115792089210356248762697446949407573529996955224135760342422259061068512044369 < _ by decide,show 1 < _ by decide,show 0 < _ by decide⟩
theorem inv_end {m : Nat} {k : Int} {s s0 : IS} (h : irun m 2000 s0 = irun m (2000 - k.toNat) s) (he : 2000 ≤ k ∨ (s.u = 1 ∨ s.v = 1)) : irun m 2000 s0 = s := by
 rw [h]
 rcases he with he | he
 · rw [show 2000 - k.toNat = 0 by omega]; rfl
 · exact irun_end he
set_option maxRecDepth 100000 in
set_option maxHeartbeats 2000000 in
theorem c27 (p : Nat) (hp : p < 115792089237316195423570985008687907853269984665640564039457584007913129639936) (w0 : World) : Cl Tryz.prog 27 #[nV p] w0 (RetQ w0 fun r => r = nV (invN 115792089210356248762697446949407573529996955224135760342422259061068512044369 p)) := by
 have M : Sep (fun _ => False) w0 w0 _ := Sep.nil _ w0
 refine enter (vs := [_]) Tryz.func27 rfl rfl rfl ?_
 intro a F
 refine wp_seq (wp_region_l [.wr,.wr] ([0,1]) rfl ?_)
 refine s_bxA F M rfl rfl rfl rfl rfl ?_; clear F a M; intro b1 w M a F
 refine s_alc F M rfl rfl rfl rfl zr_25 rfl ?_; clear F a M; intro b2 w M a F
 refine t_endM M ?_; clear M; intro w M
 refine wp_seq (wp_region_l [.rd,.wr,.wr,.wr,.wr,.wr,.wr] ([0,1,2,3,4,5,6]) rfl ?_)
 refine s_lda F rfl rfl rfl rfl ag_25 rfl rfl (cells_whole M.h1) ?_; clear F a; intro a F
 refine s_cq F M rfl rfl rfl rfl rfl (rfl : _ = some [_]) cb_29 (fun nd_ => c29 p hp _) ?_; clear F a M; rintro v w rfl M a F
 refine s_cq F M rfl rfl rfl rfl rfl (rfl : _ = some []) cb_14 (fun nd_ => c14 _) ?_; clear F a M; rintro v w rfl M a F
 refine s_alc F M rfl rfl rfl rfl zr_25 rfl ?_; clear F a M; intro b3 w M a F
 refine s_alc F M rfl rfl rfl rfl zr_25 rfl ?_; clear F a M; intro b4 w M a F
 refine s_stW F M.f1 rfl rfl rfl sz_25 rfl rfl rfl rfl rfl ?_; clear M; intro w M
 refine s_stW F M.f1 rfl rfl rfl sz_25 rfl rfl rfl rfl rfl ?_; clear M; intro w M
 refine t_endM M ?_; clear M; intro w M
 refine wp_seq ?_
 replace F := F.keep [0,1,2,3,4] rfl
 refine wp_region_l [.wr,.ind,.wr,.wr,.wr,.wr] ([0,1,2,3,4,5]) rfl ?_
 refine s_cq F M rfl rfl rfl rfl rfl (rfl : _ = some [_]) cb_25 (fun nd_ => c25 1 (by decide) _) ?_; clear F a M; rintro v w rfl M a F
 refine s_bld F rfl rfl rfl rfl (parts0 F ) (bl_25_) ?_; clear F a; intro a F
 refine s_alc F M rfl rfl rfl rfl zr_25 rfl ?_; clear F a M; intro b5 w M a F
 refine s_alc F M rfl rfl rfl rfl zr_25 rfl ?_; clear F a M; intro b6 w M a F
 refine s_stW F M.f1 rfl rfl rfl sz_25 rfl rfl rfl rfl rfl ?_; clear M; intro w M
 refine s_stW F M.f1 rfl rfl rfl sz_25 rfl rfl rfl rfl rfl ?_; clear M; intro w M
 refine t_endM M ?_; clear M; intro w M
 refine wp_seq ?_
 replace F := F.keep [0,1,2,3,4,5,6] rfl
 refine wp_region_l [.wr,.wr,.wr] ([0,1,2]) rfl ?_
 refine s_cq F M rfl rfl rfl rfl rfl (rfl : _ = some [_]) cb_25 (fun nd_ => c25 1 (by decide) _) ?_; clear F a M; rintro v w rfl M a F
 refine s_alc F M rfl rfl rfl rfl zr_25 rfl ?_; clear F a M; intro b7 w M a F
 refine s_stW F M rfl rfl rfl sz_25 rfl rfl rfl rfl rfl ?_; clear M; intro w M
 refine t_endM M ?_; clear M; intro w M
 refine wp_seq (wp_seq ?_)
 replace F := F.keep [0,1,2,3,4,5,6,7] rfl
 refine wp_region_l [.rd,.ind,.ind] ([0,1,2]) rfl ?_
 refine s_lda F rfl rfl rfl rfl ag_25 rfl rfl (cells_whole M.h4) ?_; clear F a; intro a F
 refine s_bld F rfl rfl rfl rfl (parts0 F ) (bl_25_) ?_; clear F a; intro a F
 refine s_eqn (p % 115792089210356248762697446949407573529996955224135760342422259061068512044369) (0) (by omega) (by omega) F rfl rfl rfl rfl rfl rfl ?_; clear F a; intro a F
 refine t_endM M ?_; clear M; intro w M
 refine c_if F rfl ?_ ?_
 clear F; intro hc0 F
 try rw [hc0] at F
 replace hc0 := of_decide_eq_true hc0
 refine wp_seq ?_
 replace F := F.keep [0,1,2,3,4,5,6,7] rfl
 refine wp_region_l [.rd,.wr] ([0,1]) rfl ?_
 refine s_lda F rfl rfl rfl rfl ag_25 rfl rfl (cells_whole M.h4) ?_; clear F a; intro a F
 refine s_stW F M.f5 rfl rfl rfl sz_25 rfl rfl rfl rfl rfl ?_; clear M; intro w M
 refine t_endM M ?_; clear M; intro w M
 refine wp_ret ?_
 refine rt1 F rfl (by exact rv_a F rfl ag_25 rfl (cells_whole M.h0)) ?_
 refine ⟨_,rfl,?_,M.chg⟩
 clear M F
 unfold invN
 rw [if_pos (by assumption)]
 exact nV_congr (by omega)
 clear F; intro hc1 F
 try rw [hc1] at F
 replace hc1 := of_decide_eq_false hc1
 refine wp_skip (wp_seq (wp_seq ?_))
 have M1 : Sep _ _ _ (blk b6 _ :: _) := M.f1; replace M := M1; clear M1
 replace M := Fw.Sep.blkC M (show _ = (#[u6 (0 % 18446744073709551616),u6 (0 / 18446744073709551616 % 18446744073709551616),u6 (0 / 340282366920938463463374607431768211456 % 18446744073709551616),u6 (0 / 6277101735386680763835789423207666416102355444464034512896 % 18446744073709551616)] : Array Value) from rfl)
 replace F := F.keep [0,1,2,3,4,5,6,7] rfl
 refine wp_region_l [.ind] ([0]) rfl ?_
 refine s_one F rfl ?_; clear F a; intro a F
 refine t_endM M ?_; clear M; intro w M
 refine wp_block ?_
 have M1 : Sep _ _ _ (blk b6 _ :: _) := M; replace M := M1; clear M1
 have M1 : Sep _ _ _ (blk b5 _ :: _) := M.f2; replace M := M1; clear M1
 have M1 : Sep _ _ _ (blk b4 _ :: _) := M.f3; replace M := M1; clear M1
 have M1 : Sep _ _ _ (blk b3 _ :: _) := M.f4; replace M := M1; clear M1
 refine loopX (X := (Int) × (IS)) F [0,1,2,3,4,5,6,7] rfl (fun ((k,s) : (Int) × (IS)) => (0 ≤ k) ∧ (k ≤ 2000) ∧ (IOk 115792089210356248762697446949407573529996955224135760342422259061068512044369 s) ∧ (irun 115792089210356248762697446949407573529996955224135760342422259061068512044369 2000 ⟨p % 115792089210356248762697446949407573529996955224135760342422259061068512044369,115792089210356248762697446949407573529996955224135760342422259061068512044369,1,0⟩ = irun 115792089210356248762697446949407573529996955224135760342422259061068512044369 (2000 - k.toNat) s)) (fun ((k,s) : (Int) × (IS)) => [(8,.int .i64 k)]) (fun ((k,s) : (Int) × (IS)) => [blk b3 (.cells (#[u6 (s.u % 18446744073709551616),u6 (s.u / 18446744073709551616 % 18446744073709551616),u6 (s.u / 340282366920938463463374607431768211456 % 18446744073709551616),u6 (s.u / 6277101735386680763835789423207666416102355444464034512896 % 18446744073709551616)]) 25 (0,0)),blk b4 (.cells (#[u6 (s.v % 18446744073709551616),u6 (s.v / 18446744073709551616 % 18446744073709551616),u6 (s.v / 340282366920938463463374607431768211456 % 18446744073709551616),u6 (s.v / 6277101735386680763835789423207666416102355444464034512896 % 18446744073709551616)]) 25 (0,0)),blk b5 (.cells (#[u6 (s.x % 18446744073709551616),u6 (s.x / 18446744073709551616 % 18446744073709551616),u6 (s.x / 340282366920938463463374607431768211456 % 18446744073709551616),u6 (s.x / 6277101735386680763835789423207666416102355444464034512896 % 18446744073709551616)]) 25 (0,0)),blk b6 (.cells (#[u6 (s.y % 18446744073709551616),u6 (s.y / 18446744073709551616 % 18446744073709551616),u6 (s.y / 340282366920938463463374607431768211456 % 18446744073709551616),u6 (s.y / 6277101735386680763835789423207666416102355444464034512896 % 18446744073709551616)]) 25 (0,0))]) (fun ((k,s) : (Int) × (IS)) => (2000 - k).toNat) ((0),(⟨p % 115792089210356248762697446949407573529996955224135760342422259061068512044369,115792089210356248762697446949407573529996955224135760342422259061068512044369,1,0⟩)) M ⟨(by omega),(by omega),inv_ok0 p,rfl⟩ (F.keep [8,0,1,2,3,4,5,6,7] rfl) ?_
 clear F M; clear a; (try clear w)
 rintro ⟨k,s⟩ a w ⟨k0,k1,hs,hR⟩ F M; try dsimp only at F M
 try simp only [List.cons_append,List.nil_append] at F M
 try dsimp only at k0 k1 hs hR
 have o1 := hs.u
 have o2 := hs.v
 have o3 := hs.x
 have o4 := hs.y
 refine wp_seq (wp_seq (wp_region_l [.ind,.ind,.ind,.rd,.rd,.ind,.ind,.ind,.rd,.rd,.ind,.ind] ([0,1,2,3,4,5,6,7,8,9,10,11]) rfl ?_))
 refine s_rn 3 F rfl rfl ?_; clear F a; intro a F
 refine bsplit F 21 rfl ?_ ?_
 clear F; intro hc2 F
 try rw [hc2] at F
 replace hc2 := of_decide_eq_true hc2
 refine s_lda F rfl rfl rfl rfl ag_25 rfl rfl (cells_whole M.h0) ?_; clear F a; intro a F
 refine s_lda F rfl rfl rfl rfl ag_25 rfl rfl (cells_whole M.h4) ?_; clear F a; intro a F
 refine s_nen (s.u) (1) o1 (by omega) F rfl rfl rfl rfl rfl rfl ?_; clear F a; intro a F
 refine s_rn 2 F rfl rfl ?_; clear F a; intro a F
 refine bsplit F 26 rfl ?_ ?_
 clear F; intro hc3 F
 try rw [hc3] at F
 replace hc3 := nd1 hc3
 refine s_lda F rfl rfl rfl rfl ag_25 rfl rfl (cells_whole M.h1) ?_; clear F a; intro a F
 refine s_lda F rfl rfl rfl rfl ag_25 rfl rfl (cells_whole M.h4) ?_; clear F a; intro a F
 refine s_nen (s.v) (1) o2 (by omega) F rfl rfl rfl rfl rfl rfl ?_; clear F a; intro a F
 refine s_one F rfl ?_; clear F a; intro a F
 refine t_endM M ?_; clear M; intro w M
 refine c_if F rfl ?_ ?_
 clear F; intro hc4 F
 try rw [hc4] at F
 replace hc4 := nd1 hc4
 refine wp_skip (wp_seq (wp_block (wp_block (wp_seq ?_))))
 replace F := F.keep [0,1,2,3,4,5,6,7,8] rfl
 refine wp_region_l [.ind,.rd,.ind,.ind,.ind] ([0,1,2,3,4]) rfl ?_
 refine s_ia F rfl rfl rfl rfl ar_25 rfl rfl (by omega) (by omega) ?_; clear F a; intro a F
 refine s_ld F rfl rfl rfl rfl sc_23 rfl (by exact cell_of_blk M.h0 (lit rfl)) ?_; clear F a; intro a F
 refine s_urem (v := 2) F rfl rfl rfl rfl rfl rfl (by omega) ?_; clear F a; intro a F
 refine s_ucmp (v := 0) F rfl rfl rfl rfl rfl rfl rfl ?_; clear F a; intro a F
 refine s_one F rfl ?_; clear F a; intro a F
 refine t_endM M ?_; clear M; intro w M
 have M1 : Sep _ _ _ (blk b6 _ :: _) := M.f3; replace M := M1; clear M1
 have M1 : Sep _ _ _ (blk b5 _ :: _) := M.f3; replace M := M1; clear M1
 have M1 : Sep _ _ _ (blk b4 _ :: _) := M.f3; replace M := M1; clear M1
 have M1 : Sep _ _ _ (blk b3 _ :: _) := M.f3; replace M := M1; clear M1
 refine cutX (X := (IS)) (m0 := [_,_,_,_]) F [0,1,2,3,4,5,6,7,8] rfl M (fun (s2 : IS) => (s2 = ist 115792089210356248762697446949407573529996955224135760342422259061068512044369 s)) (fun (s2 : IS) => []) (fun (s2 : IS) => [blk b3 (.cells (#[u6 (s2.u % 18446744073709551616),u6 (s2.u / 18446744073709551616 % 18446744073709551616),u6 (s2.u / 340282366920938463463374607431768211456 % 18446744073709551616),u6 (s2.u / 6277101735386680763835789423207666416102355444464034512896 % 18446744073709551616)]) 25 (0,0)),blk b4 (.cells (#[u6 (s2.v % 18446744073709551616),u6 (s2.v / 18446744073709551616 % 18446744073709551616),u6 (s2.v / 340282366920938463463374607431768211456 % 18446744073709551616),u6 (s2.v / 6277101735386680763835789423207666416102355444464034512896 % 18446744073709551616)]) 25 (0,0)),blk b5 (.cells (#[u6 (s2.x % 18446744073709551616),u6 (s2.x / 18446744073709551616 % 18446744073709551616),u6 (s2.x / 340282366920938463463374607431768211456 % 18446744073709551616),u6 (s2.x / 6277101735386680763835789423207666416102355444464034512896 % 18446744073709551616)]) 25 (0,0)),blk b6 (.cells (#[u6 (s2.y % 18446744073709551616),u6 (s2.y / 18446744073709551616 % 18446744073709551616),u6 (s2.y / 340282366920938463463374607431768211456 % 18446744073709551616),u6 (s2.y / 6277101735386680763835789423207666416102355444464034512896 % 18446744073709551616)]) 25 (0,0))]) ?_ ?_
 refine c_if F rfl ?_ ?_
 clear F; intro hc5 F
 try rw [hc5] at F
 replace hc5 := of_decide_eq_true hc5
 refine wp_seq ?_
 replace F := F.keep [0,1,2,3,4,5,6,7,8] rfl
 refine wp_region_l [.rd,.wr,.wr] ([0,1,2]) rfl ?_
 refine s_lda F rfl rfl rfl rfl ag_25 rfl rfl (cells_whole M.h0) ?_; clear F a; intro a F
 refine s_cq F M rfl rfl rfl rfl rfl (rfl : _ = some [_,_]) cb_74 (fun nd_ => c74 s.u o1 false _) ?_; clear F a M; rintro v w rfl M a F
 rw [if_neg (by decide),Nat.add_zero] at F
 refine s_stW F M rfl rfl rfl sz_25 rfl rfl rfl rfl rfl ?_; clear M; intro w M
 refine t_endM M ?_; clear M; intro w M
 replace F := F.keep [0,1,2,3,4,5,6,7,8] rfl
 refine wp_region_l [.rd,.wr,.wr] ([0,1,2]) rfl ?_
 refine s_lda F rfl rfl rfl rfl ag_25 rfl rfl (cells_whole M.h2) ?_; clear F a; intro a F
 refine s_cq F M rfl rfl rfl rfl rfl (rfl : _ = some [_]) cb_75_N15 (fun nd_ => c75 s.x (by omega) _) ?_; clear F a M; rintro v w rfl M a F
 refine s_stW F M.f2 rfl rfl rfl sz_25 rfl rfl rfl rfl rfl ?_; clear M; intro w M
 refine t_endM M ?_; clear M; intro w M
 refine joined (⟨s.u / 2,s.v,hlv 115792089210356248762697446949407573529996955224135760342422259061068512044369 s.x,s.y⟩) (by unfold ist; rw [if_pos (by omega)]) (F.keep [0,1,2,3,4,5,6,7,8] rfl) ?_
 try dsimp only [List.cons_append,List.nil_append]
 refine M.pick ?_; repeat (first | exact PkG.nil | refine PkG.cons 0 rfl rfl ?_ | refine PkG.cons 1 rfl rfl ?_ | refine PkG.cons 2 rfl rfl ?_ | refine PkG.cons 3 rfl rfl ?_ | refine PkG.cons 4 rfl rfl ?_ | refine PkG.cons 5 rfl rfl ?_ | refine PkG.cons 6 rfl rfl ?_)
 clear F; intro hc6 F
 try rw [hc6] at F
 replace hc6 := of_decide_eq_false hc6
 refine wp_seq ?_
 replace F := F.keep [0,1,2,3,4,5,6,7,8] rfl
 refine wp_region_l [.ind,.rd,.ind,.ind,.ind] ([0,1,2,3,4]) rfl ?_
 refine s_ia F rfl rfl rfl rfl ar_25 rfl rfl (by omega) (by omega) ?_; clear F a; intro a F
 refine s_ld F rfl rfl rfl rfl sc_23 rfl (by exact cell_of_blk M.h1 (lit rfl)) ?_; clear F a; intro a F
 refine s_urem (v := 2) F rfl rfl rfl rfl rfl rfl (by omega) ?_; clear F a; intro a F
 refine s_ucmp (v := 0) F rfl rfl rfl rfl rfl rfl rfl ?_; clear F a; intro a F
 refine s_one F rfl ?_; clear F a; intro a F
 refine t_endM M ?_; clear M; intro w M
 refine c_if F rfl ?_ ?_
 clear F; intro hc7 F
 try rw [hc7] at F
 replace hc7 := of_decide_eq_true hc7
 refine wp_seq ?_
 replace F := F.keep [0,1,2,3,4,5,6,7,8] rfl
 refine wp_region_l [.rd,.wr,.wr] ([0,1,2]) rfl ?_
 refine s_lda F rfl rfl rfl rfl ag_25 rfl rfl (cells_whole M.h1) ?_; clear F a; intro a F
 refine s_cq F M rfl rfl rfl rfl rfl (rfl : _ = some [_,_]) cb_74 (fun nd_ => c74 s.v o2 false _) ?_; clear F a M; rintro v w rfl M a F
 rw [if_neg (by decide),Nat.add_zero] at F
 refine s_stW F M.f1 rfl rfl rfl sz_25 rfl rfl rfl rfl rfl ?_; clear M; intro w M
 refine t_endM M ?_; clear M; intro w M
 replace F := F.keep [0,1,2,3,4,5,6,7,8] rfl
 refine wp_region_l [.rd,.wr,.wr] ([0,1,2]) rfl ?_
 refine s_lda F rfl rfl rfl rfl ag_25 rfl rfl (cells_whole M.h3) ?_; clear F a; intro a F
 refine s_cq F M rfl rfl rfl rfl rfl (rfl : _ = some [_]) cb_75_N15 (fun nd_ => c75 s.y (by omega) _) ?_; clear F a M; rintro v w rfl M a F
 refine s_stW F M.f3 rfl rfl rfl sz_25 rfl rfl rfl rfl rfl ?_; clear M; intro w M
 refine t_endM M ?_; clear M; intro w M
 refine joined (⟨s.u,s.v / 2,s.x,hlv 115792089210356248762697446949407573529996955224135760342422259061068512044369 s.y⟩) (by unfold ist; rw [if_neg (by omega),if_pos (by omega)]) (F.keep [0,1,2,3,4,5,6,7,8] rfl) ?_
 try dsimp only [List.cons_append,List.nil_append]
 refine M.pick ?_; repeat (first | exact PkG.nil | refine PkG.cons 0 rfl rfl ?_ | refine PkG.cons 1 rfl rfl ?_ | refine PkG.cons 2 rfl rfl ?_ | refine PkG.cons 3 rfl rfl ?_ | refine PkG.cons 4 rfl rfl ?_ | refine PkG.cons 5 rfl rfl ?_ | refine PkG.cons 6 rfl rfl ?_)
 clear F; intro hc8 F
 try rw [hc8] at F
 replace hc8 := of_decide_eq_false hc8
 refine wp_seq ?_
 replace F := F.keep [0,1,2,3,4,5,6,7,8] rfl
 refine wp_region_l [.rd,.rd,.wr,.ind,.ind] ([0,1,2,3,4]) rfl ?_
 refine s_lda F rfl rfl rfl rfl ag_25 rfl rfl (cells_whole M.h0) ?_; clear F a; intro a F
 refine s_lda F rfl rfl rfl rfl ag_25 rfl rfl (cells_whole M.h1) ?_; clear F a; intro a F
 refine s_cq F M rfl rfl rfl rfl rfl (rfl : _ = some [_,_]) cb_13 (fun nd_ => c13 s.u s.v o1 o2 _) ?_; clear F a M; rintro v w rfl M a F
 refine s_rn 2 F rfl rfl ?_; clear F a; intro a F
 refine t_endM M ?_; clear M; intro w M
 refine c_if F rfl ?_ ?_
 clear F; intro hc9 F
 try rw [hc9] at F
 replace hc9 := of_decide_eq_true hc9
 refine wp_seq ?_
 replace F := F.keep [0,1,2,3,4,5,6,7,8] rfl
 refine wp_region_l [.rd,.rd,.wr,.ind,.ind,.ind,.wr] ([0,1,2,3,4,5,6]) rfl ?_
 refine s_lda F rfl rfl rfl rfl ag_25 rfl rfl (cells_whole M.h0) ?_; clear F a; intro a F
 refine s_lda F rfl rfl rfl rfl ag_25 rfl rfl (cells_whole M.h1) ?_; clear F a; intro a F
 refine s_cq F M rfl rfl rfl rfl rfl (rfl : _ = some [_,_]) cb_28 (fun nd_ => c28 s.u s.v o1 o2 _) ?_; clear F a M; rintro v w rfl M a F
 have hge := cmp_ge (by assumption)
 rw [show nV (s.u + 115792089237316195423570985008687907853269984665640564039457584007913129639936 - s.v) = nV (s.u - s.v) from nV_congr (by omega)] at F
 refine s_rn 3 F rfl rfl ?_; clear F a; intro a F
 refine s_stW F M rfl rfl rfl sz_25 rfl rfl rfl rfl rfl ?_; clear M; intro w M
 refine t_endM M ?_; clear M; intro w M
 replace F := F.keep [0,1,2,3,4,5,6,7,8] rfl
 refine wp_region_l [.rd,.rd,.wr,.wr] ([0,1,2,3]) rfl ?_
 refine s_lda F rfl rfl rfl rfl ag_25 rfl rfl (cells_whole M.h2) ?_; clear F a; intro a F
 refine s_lda F rfl rfl rfl rfl ag_25 rfl rfl (cells_whole M.h3) ?_; clear F a; intro a F
 refine s_cq F M rfl rfl rfl rfl rfl (rfl : _ = some [_,_]) cb_8 (fun nd_ => c8 s.x s.y (by omega) (by omega) _) ?_; clear F a M; rintro v w rfl M a F
 refine s_stW F M.f2 rfl rfl rfl sz_25 rfl rfl rfl rfl rfl ?_; clear M; intro w M
 refine t_endM M ?_; clear M; intro w M
 refine joined (⟨s.u - s.v,s.v,(s.x + (115792089210356248762697446949407573529996955224135760342422259061068512044369 - s.y % 115792089210356248762697446949407573529996955224135760342422259061068512044369)) % 115792089210356248762697446949407573529996955224135760342422259061068512044369,s.y⟩) (by unfold ist; rw [if_neg (by omega),if_neg (by omega),if_pos (cmp_ge (by assumption))]) (F.keep [0,1,2,3,4,5,6,7,8] rfl) ?_
 try dsimp only [List.cons_append,List.nil_append]
 refine M.pick ?_; repeat (first | exact PkG.nil | refine PkG.cons 0 rfl rfl ?_ | refine PkG.cons 1 rfl rfl ?_ | refine PkG.cons 2 rfl rfl ?_ | refine PkG.cons 3 rfl rfl ?_ | refine PkG.cons 4 rfl rfl ?_ | refine PkG.cons 5 rfl rfl ?_ | refine PkG.cons 6 rfl rfl ?_)
 clear F; intro hc10 F
 try rw [hc10] at F
 replace hc10 := of_decide_eq_false hc10
 refine wp_seq ?_
 replace F := F.keep [0,1,2,3,4,5,6,7,8] rfl
 refine wp_region_l [.rd,.rd,.wr,.ind,.ind,.ind,.wr] ([0,1,2,3,4,5,6]) rfl ?_
 refine s_lda F rfl rfl rfl rfl ag_25 rfl rfl (cells_whole M.h1) ?_; clear F a; intro a F
 refine s_lda F rfl rfl rfl rfl ag_25 rfl rfl (cells_whole M.h0) ?_; clear F a; intro a F
 refine s_cq F M rfl rfl rfl rfl rfl (rfl : _ = some [_,_]) cb_28 (fun nd_ => c28 s.v s.u o2 o1 _) ?_; clear F a M; rintro v w rfl M a F
 have hlt := cmp_lt (by assumption)
 rw [show nV (s.v + 115792089237316195423570985008687907853269984665640564039457584007913129639936 - s.u) = nV (s.v - s.u) from nV_congr (by omega)] at F
 refine s_rn 3 F rfl rfl ?_; clear F a; intro a F
 refine s_stW F M.f1 rfl rfl rfl sz_25 rfl rfl rfl rfl rfl ?_; clear M; intro w M
 refine t_endM M ?_; clear M; intro w M
 replace F := F.keep [0,1,2,3,4,5,6,7,8] rfl
 refine wp_region_l [.rd,.rd,.wr,.wr] ([0,1,2,3]) rfl ?_
 refine s_lda F rfl rfl rfl rfl ag_25 rfl rfl (cells_whole M.h3) ?_; clear F a; intro a F
 refine s_lda F rfl rfl rfl rfl ag_25 rfl rfl (cells_whole M.h2) ?_; clear F a; intro a F
 refine s_cq F M rfl rfl rfl rfl rfl (rfl : _ = some [_,_]) cb_8 (fun nd_ => c8 s.y s.x (by omega) (by omega) _) ?_; clear F a M; rintro v w rfl M a F
 refine s_stW F M.f3 rfl rfl rfl sz_25 rfl rfl rfl rfl rfl ?_; clear M; intro w M
 refine t_endM M ?_; clear M; intro w M
 refine joined (⟨s.u,s.v - s.u,s.x,(s.y + (115792089210356248762697446949407573529996955224135760342422259061068512044369 - s.x % 115792089210356248762697446949407573529996955224135760342422259061068512044369)) % 115792089210356248762697446949407573529996955224135760342422259061068512044369⟩) (by unfold ist; rw [if_neg (by omega),if_neg (by omega),if_neg (cmp_lt (by assumption))]) (F.keep [0,1,2,3,4,5,6,7,8] rfl) ?_
 try dsimp only [List.cons_append,List.nil_append]
 refine M.pick ?_; repeat (first | exact PkG.nil | refine PkG.cons 0 rfl rfl ?_ | refine PkG.cons 1 rfl rfl ?_ | refine PkG.cons 2 rfl rfl ?_ | refine PkG.cons 3 rfl rfl ?_ | refine PkG.cons 4 rfl rfl ?_ | refine PkG.cons 5 rfl rfl ?_ | refine PkG.cons 6 rfl rfl ?_)
 clear F M; clear a; (try clear w)
 rintro s2 a w hs2 F M; try dsimp only at F M
 try simp only [List.cons_append,List.nil_append] at F M
 try dsimp only at hs2
 refine wp_region_l [.ind,.ind,.ind] ([0,1,2]) rfl ?_
 refine s_one F rfl ?_; clear F a; intro a F
 refine s_add F rfl rfl rfl rfl rfl rfl (by unfold In64; omega) ?_; clear F a; intro a F
 refine s_one F rfl ?_; clear F a; intro a F
 refine t_endM M ?_; clear M; intro w M
 refine again ((k + 1),(s2)) (by show _ < _; (try dsimp only); omega) ⟨(by omega),(by assumption),(by rw [hs2]; exact hs.next (by decide)),(by rw [hR,show 2000 - k.toNat = (2000 - (k + 1).toNat) + 1 by omega,irun_go (by assumption) (by assumption),hs2])⟩ (F.keep [8,0,1,2,3,4,5,6,7] rfl) ?_
 try dsimp only [List.cons_append,List.nil_append]
 refine M.pick ?_; repeat (first | exact PkG.nil | refine PkG.cons 0 rfl rfl ?_ | refine PkG.cons 1 rfl rfl ?_ | refine PkG.cons 2 rfl rfl ?_ | refine PkG.cons 3 rfl rfl ?_ | refine PkG.cons 4 rfl rfl ?_ | refine PkG.cons 5 rfl rfl ?_ | refine PkG.cons 6 rfl rfl ?_)
 clear F; intro hc11 F
 try rw [hc11] at F
 replace hc11 := nd0 hc11
 refine wp_exit ?_
 refine wp_seq (wp_seq ?_)
 replace F := F.keep [0,1,2,3,4,5,6,7,8] rfl
 refine wp_region_l [.rd,.rd,.ind] ([0,1,2]) rfl ?_
 refine s_lda F rfl rfl rfl rfl ag_25 rfl rfl (cells_whole M.h0) ?_; clear F a; intro a F
 refine s_lda F rfl rfl rfl rfl ag_25 rfl rfl (cells_whole M.h4) ?_; clear F a; intro a F
 refine s_eqn (s.u) (1) o1 (by omega) F rfl rfl rfl rfl rfl rfl ?_; clear F a; intro a F
 refine t_endM M ?_; clear M; intro w M
 refine c_if F rfl ?_ ?_
 clear F; intro hc12 F
 try rw [hc12] at F
 replace hc12 := of_decide_eq_true hc12
 refine wp_seq ?_
 replace F := F.keep [0,1,2,3,4,5,6,7,8] rfl
 refine wp_region_l [.rd,.wr] ([0,1]) rfl ?_
 refine s_lda F rfl rfl rfl rfl ag_25 rfl rfl (cells_whole M.h2) ?_; clear F a; intro a F
 refine s_stW F M.f5 rfl rfl rfl sz_25 rfl rfl rfl rfl rfl ?_; clear M; intro w M
 refine t_endM M ?_; clear M; intro w M
 refine wp_ret ?_
 refine rt1 F rfl (by exact rv_a F rfl ag_25 rfl (cells_whole M.h0)) ?_
 have hE := inv_end hR (by exact .inl (by omega))
 refine ⟨_,rfl,?_,M.chg⟩
 clear M F
 unfold invN
 rw [if_neg (by assumption),hE,if_pos (by assumption)]
 clear F; intro hc13 F
 try rw [hc13] at F
 replace hc13 := of_decide_eq_false hc13
 refine wp_skip (wp_seq ?_)
 replace F := F.keep [0,1,2,3,4,5,6,7,8] rfl
 refine wp_region_l [.rd,.wr] ([0,1]) rfl ?_
 refine s_lda F rfl rfl rfl rfl ag_25 rfl rfl (cells_whole M.h3) ?_; clear F a; intro a F
 refine s_stW F M.f5 rfl rfl rfl sz_25 rfl rfl rfl rfl rfl ?_; clear M; intro w M
 refine t_endM M ?_; clear M; intro w M
 refine wp_ret ?_
 refine rt1 F rfl (by exact rv_a F rfl ag_25 rfl (cells_whole M.h0)) ?_
 have hE := inv_end hR (by exact .inr (by exact .inr (by assumption)))
 refine ⟨_,rfl,?_,M.chg⟩
 clear M F
 unfold invN
 rw [if_neg (by assumption),hE,if_neg (by assumption)]
 clear F; intro hc14 F
 try rw [hc14] at F
 replace hc14 := nd0 hc14
 refine s_rn 4 F rfl rfl ?_; clear F a; intro a F
 refine t_endM M ?_; clear M; intro w M
 refine c_f F rfl ?_
 refine wp_exit ?_
 refine wp_seq (wp_seq ?_)
 replace F := F.keep [0,1,2,3,4,5,6,7,8] rfl
 refine wp_region_l [.rd,.rd,.ind] ([0,1,2]) rfl ?_
 refine s_lda F rfl rfl rfl rfl ag_25 rfl rfl (cells_whole M.h0) ?_; clear F a; intro a F
 refine s_lda F rfl rfl rfl rfl ag_25 rfl rfl (cells_whole M.h4) ?_; clear F a; intro a F
 refine s_eqn (s.u) (1) o1 (by omega) F rfl rfl rfl rfl rfl rfl ?_; clear F a; intro a F
 refine t_endM M ?_; clear M; intro w M
 refine c_if F rfl ?_ ?_
 clear F; intro hc15 F
 try rw [hc15] at F
 replace hc15 := of_decide_eq_true hc15
 refine wp_seq ?_
 replace F := F.keep [0,1,2,3,4,5,6,7,8] rfl
 refine wp_region_l [.rd,.wr] ([0,1]) rfl ?_
 refine s_lda F rfl rfl rfl rfl ag_25 rfl rfl (cells_whole M.h2) ?_; clear F a; intro a F
 refine s_stW F M.f5 rfl rfl rfl sz_25 rfl rfl rfl rfl rfl ?_; clear M; intro w M
 refine t_endM M ?_; clear M; intro w M
 refine wp_ret ?_
 refine rt1 F rfl (by exact rv_a F rfl ag_25 rfl (cells_whole M.h0)) ?_
 have hE := inv_end hR (by exact .inr (by exact .inl (by assumption)))
 refine ⟨_,rfl,?_,M.chg⟩
 clear M F
 unfold invN
 rw [if_neg (by assumption),hE,if_pos (by assumption)]
 clear F; intro hc16 F
 try rw [hc16] at F
 replace hc16 := of_decide_eq_false hc16
 refine wp_skip (wp_seq ?_)
 replace F := F.keep [0,1,2,3,4,5,6,7,8] rfl
 refine wp_region_l [.rd,.wr] ([0,1]) rfl ?_
 refine s_lda F rfl rfl rfl rfl ag_25 rfl rfl (cells_whole M.h3) ?_; clear F a; intro a F
 refine s_stW F M.f5 rfl rfl rfl sz_25 rfl rfl rfl rfl rfl ?_; clear M; intro w M
 refine t_endM M ?_; clear M; intro w M
 refine wp_ret ?_
 refine rt1 F rfl (by exact rv_a F rfl ag_25 rfl (cells_whole M.h0)) ?_
 have hE := inv_end hR (by exact .inl (by omega))
 refine ⟨_,rfl,?_,M.chg⟩
 clear M F
 unfold invN
 rw [if_neg (by assumption),hE,if_neg (by assumption)]
 clear F; intro hc17 F
 try rw [hc17] at F
 replace hc17 := of_decide_eq_false hc17
 refine s_rn 9 F rfl rfl ?_; clear F a; intro a F
 refine t_endM M ?_; clear M; intro w M
 refine c_f F rfl ?_
 refine wp_exit ?_
 refine wp_seq (wp_seq ?_)
 replace F := F.keep [0,1,2,3,4,5,6,7,8] rfl
 refine wp_region_l [.rd,.rd,.ind] ([0,1,2]) rfl ?_
 refine s_lda F rfl rfl rfl rfl ag_25 rfl rfl (cells_whole M.h0) ?_; clear F a; intro a F
 refine s_lda F rfl rfl rfl rfl ag_25 rfl rfl (cells_whole M.h4) ?_; clear F a; intro a F
 refine s_eqn (s.u) (1) o1 (by omega) F rfl rfl rfl rfl rfl rfl ?_; clear F a; intro a F
 refine t_endM M ?_; clear M; intro w M
 refine c_if F rfl ?_ ?_
 clear F; intro hc18 F
 try rw [hc18] at F
 replace hc18 := of_decide_eq_true hc18
 refine wp_seq ?_
 replace F := F.keep [0,1,2,3,4,5,6,7,8] rfl
 refine wp_region_l [.rd,.wr] ([0,1]) rfl ?_
 refine s_lda F rfl rfl rfl rfl ag_25 rfl rfl (cells_whole M.h2) ?_; clear F a; intro a F
 refine s_stW F M.f5 rfl rfl rfl sz_25 rfl rfl rfl rfl rfl ?_; clear M; intro w M
 refine t_endM M ?_; clear M; intro w M
 refine wp_ret ?_
 refine rt1 F rfl (by exact rv_a F rfl ag_25 rfl (cells_whole M.h0)) ?_
 have hE := inv_end hR (by exact .inl (by omega))
 refine ⟨_,rfl,?_,M.chg⟩
 clear M F
 unfold invN
 rw [if_neg (by assumption),hE,if_pos (by assumption)]
 clear F; intro hc19 F
 try rw [hc19] at F
 replace hc19 := of_decide_eq_false hc19
 refine wp_skip (wp_seq ?_)
 replace F := F.keep [0,1,2,3,4,5,6,7,8] rfl
 refine wp_region_l [.rd,.wr] ([0,1]) rfl ?_
 refine s_lda F rfl rfl rfl rfl ag_25 rfl rfl (cells_whole M.h3) ?_; clear F a; intro a F
 refine s_stW F M.f5 rfl rfl rfl sz_25 rfl rfl rfl rfl rfl ?_; clear M; intro w M
 refine t_endM M ?_; clear M; intro w M
 refine wp_ret ?_
 refine rt1 F rfl (by exact rv_a F rfl ag_25 rfl (cells_whole M.h0)) ?_
 have hE := inv_end hR (by exact .inl (by omega))
 refine ⟨_,rfl,?_,M.chg⟩
 clear M F
 unfold invN
 rw [if_neg (by assumption),hE,if_neg (by assumption)]
end Go.Proofs.YteajeenmojbjhaaGreatDoor
namespace Go.Proofs.YteajeenmojbjhaaGreatDoor
open Go Fw
abbrev numR (v : Value) (l : List Nat) : Res := slR v l.length 25 4 (l.flatMap encX)
def lastOf (z : Nat) (l : List Nat) : Nat := (l.getLast?).getD z
def tms (f : Nat) : Nat → List Nat → List Nat
 | _,[] => []
 | z,c :: l => (c + z * f % 115792089210356248762697446949407573529996955224135760342422259061068512044369) % 115792089210356248762697446949407573529996955224135760342422259061068512044369 :: tms f c l
theorem tms_len (f z : Nat) (l : List Nat) : (tms f z l).length = l.length := by
 induction l generalizing z with
 | nil => rfl
 | cons c l ih => simp [tms,ih]
theorem lastOf_cons (z c : Nat) (l : List Nat) : lastOf z (c :: l) = lastOf c l := by
 unfold lastOf
 cases l with
 | nil => rfl
 | cons d l => simp [List.getLast?_cons_cons,List.getLast?_cons]
theorem tms_snoc (f z e : Nat) (l : List Nat) : tms f z (l ++ [e]) = tms f z l ++ [(e + lastOf z l * f % 115792089210356248762697446949407573529996955224135760342422259061068512044369) % 115792089210356248762697446949407573529996955224135760342422259061068512044369] := by
 induction l generalizing z with
 | nil => rfl
 | cons c l ih =>
   show _ :: tms f c (l ++ [e]) = _ :: (tms f c l ++ _)
   rw [ih,lastOf_cons]
theorem lastOf_snoc (z e : Nat) (l : List Nat) : lastOf z (l ++ [e]) = e := by simp [lastOf]
theorem take_snoc {l : List Nat} {i : Nat} {e : Nat} (h : l[i]? = some e) : l.take (i + 1) = l.take i ++ [e] := by rw [List.take_add_one,h]; rfl
theorem lastOf_lt {z : Nat} {l : List Nat} {m : Nat} (hz : z < m) (h : ∀ x ∈ l,x < m) : lastOf z l < m := by
 unfold lastOf
 cases hl : l.getLast? with
 | none => exact hz
 | some e => exact h e (List.mem_of_getLast? hl)
def timesN (f : Nat) (l : List Nat) : List Nat := tms f 0 l ++ [lastOf 0 l * f % 115792089210356248762697446949407573529996955224135760342422259061068512044369]
def negInv (i : Nat) : Nat := (0 + (115792089210356248762697446949407573529996955224135760342422259061068512044369 - invN 115792089210356248762697446949407573529996955224135760342422259061068512044369 i % 115792089210356248762697446949407573529996955224135760342422259061068512044369)) % 115792089210356248762697446949407573529996955224135760342422259061068512044369
theorem invN_lt (p : Nat) : invN 115792089210356248762697446949407573529996955224135760342422259061068512044369 p < 115792089210356248762697446949407573529996955224135760342422259061068512044369 := by
 unfold invN
 have key : ∀ n s,IOk 115792089210356248762697446949407573529996955224135760342422259061068512044369 s → IOk 115792089210356248762697446949407573529996955224135760342422259061068512044369 (irun 115792089210356248762697446949407573529996955224135760342422259061068512044369 n s) := by
   intro n
   induction n with
   | zero => exact fun s h => h
   | succ n ih =>
     intro s h
     unfold irun
     split
     · exact h
     · exact ih _ (h.next (by decide))
 have h := key 2000 _ (inv_ok0 p)
 split
 · decide
 · split
   · exact h.x
   · exact h.y
set_option maxRecDepth 100000 in
set_option maxHeartbeats 400000 in
theorem c26 (i : Int) (h1 : i ≤ 9223372036854775807) (w0 : World) : Cl Tryz.prog 26 #[.int .i64 i] w0 (RetQ w0 fun r => r = nV i.toNat) := by
 have M : Sep (fun _ => False) w0 w0 _ := Sep.nil _ w0
 refine enter (vs := [_]) Tryz.func26 rfl rfl rfl ?_
 intro a F
 refine wp_seq (wp_region_l [.wr] ([0]) rfl ?_)
 refine s_alc F M rfl rfl rfl rfl zr_25 rfl ?_; clear F a M; intro b2 w M a F
 refine t_endM M ?_; clear M; intro w M
 refine wp_seq (wp_region_l [.ind,.ind,.ind,.wr,.wr] ([0,1,2,3,4]) rfl ?_)
 refine s_one F rfl ?_; clear F a; intro a F
 refine s_max F rfl rfl rfl rfl rfl rfl ?_; clear F a; intro a F
 refine s_cu F rfl rfl rfl rfl ik_3 ik_23 rfl ?_; clear F a; intro a F
 rw [show (max i 0) % 18446744073709551616 = ((i.toNat : Nat) : Int) by omega] at F
 refine s_cq F M rfl rfl rfl rfl rfl (rfl : _ = some [_]) cb_25 (fun nd_ => c25 i.toNat (by omega) _) ?_; clear F a M; rintro v w rfl M a F
 refine s_stW F M rfl rfl rfl sz_25 rfl rfl rfl rfl rfl ?_; clear M; intro w M
 refine t_endM M ?_; clear M; intro w M
 refine wp_ret ?_
 refine rt1 F rfl (by exact rv_a F rfl ag_25 rfl (cells_whole M.h0)) ?_
 exact ⟨_,rfl,rfl,M.chg⟩
set_option maxRecDepth 100000 in
set_option maxHeartbeats 2000000 in
theorem c9 (l : List Nat) (hx : ∀ x ∈ l,x < 115792089237316195423570985008687907853269984665640564039457584007913129639936) (hl : l.length ≤ 100000) (i : Int) (h0 : 0 ≤ i) (h1 : i ≤ 9223372036854775807) (v : Value) (w0 : World) (hr : RdSl w0.heap v l.length 4 (l.flatMap encX)) : Cl Tryz.prog 9 #[v,.int .i64 i] w0 (RetS [] w0 (fun r (x : Value) => r = x) fun x => [numR x (timesN (negInv i.toNat) l)]) := by
 have M : Sep (fun b => b ∈ foots ([] : List Res)) w0 w0 _ := Sep.nil _ w0
 have hro := (ro_of hr).nil
 obtain ⟨A,cc,rfl,hcc⟩ := hr.form
 refine enter (vs := [_,_]) Tryz.func9 rfl rfl rfl ?_
 intro a F
 refine wp_seq (wp_region_l [.ind] ([0]) rfl ?_)
 refine s_one F rfl ?_; clear F a; intro a F
 refine t_endM M ?_; clear M; intro w M
 refine wp_seq (wp_region_l [.ind,.ind,.ind,.ind,.wr,.wr,.wr,.wr] ([0,1,2,3,4,5,6,7]) rfl ?_)
 refine s_bld F rfl rfl rfl rfl (parts0 F ) (bl_25_) ?_; clear F a; intro a F
 refine s_one F rfl ?_; clear F a; intro a F
 refine s_cu F rfl rfl rfl rfl ik_3 ik_23 rfl ?_; clear F a; intro a F
 refine s_bld F rfl rfl rfl rfl (parts1 F rfl) (bl_25_0 _) ?_; clear F a; intro a F
 have e1 : (Value.agg #[.int .u64 (i % 18446744073709551616),.int .u64 0,.int .u64 0,.int .u64 0]) = nV i.toNat := by
   rw [show i % 18446744073709551616 = ((i.toNat : Nat) : Int) by omega]
   exact nV_eq (e0 := i.toNat) (e1 := 0) (e2 := 0) (e3 := 0) (by omega) (by omega) (by omega) (by omega)
 rw [e1] at F
 refine s_cq F M rfl rfl rfl rfl rfl (rfl : _ = some [_]) cb_27 (fun nd_ => c27 i.toNat (by omega) _) ?_; clear F a M; rintro v w rfl M a F
 refine s_cq F M rfl rfl rfl rfl rfl (rfl : _ = some [_,_]) cb_8 (fun nd_ => c8 0 (invN 115792089210356248762697446949407573529996955224135760342422259061068512044369 i.toNat) (by decide) (Nat.lt_trans (invN_lt _) (by decide)) _) ?_; clear F a M; rintro v w rfl M a F
 refine s_alc F M rfl rfl rfl rfl zr_25 rfl ?_; clear F a M; intro b5 w M a F
 refine s_stW F M rfl rfl rfl sz_25 rfl rfl rfl rfl rfl ?_; clear M; intro w M
 refine t_endM M ?_; clear M; intro w M
 refine wp_seq ?_
 replace F := F.keep [0,1,4,5] rfl
 refine wp_region_l [.ind] ([0]) rfl ?_
 refine s_one F rfl ?_; clear F a; intro a F
 refine t_endM M ?_; clear M; intro w M
 refine wp_seq (wp_region_l [.ind,.wr,.wr] ([0,1,2]) rfl ?_)
 refine s_bld F rfl rfl rfl rfl (parts0 F ) (bl_25_) ?_; clear F a; intro a F
 refine s_alc F M rfl rfl rfl rfl zr_25 rfl ?_; clear F a M; intro b7 w M a F
 refine s_stW F M rfl rfl rfl sz_25 rfl rfl rfl rfl rfl ?_; clear M; intro w M
 refine t_endM M ?_; clear M; intro w M
 refine wp_seq (wp_seq ?_)
 replace F := F.keep [0,1,4,5,6,7] rfl
 refine wp_region_l [.ind] ([0]) rfl ?_
 refine s_one F rfl ?_; clear F a; intro a F
 refine t_endM M ?_; clear M; intro w M
 refine wp_block ?_
 replace M := M.nilT encX 25 4
 have M1 : Sep _ _ _ (blk b7 _ :: _) := M.f1; replace M := M1; clear M1
 replace M := Fw.Sep.blkC M (show _ = (#[u6 (lastOf 0 ([] : List Nat) % 18446744073709551616),u6 (lastOf 0 ([] : List Nat) / 18446744073709551616 % 18446744073709551616),u6 (lastOf 0 ([] : List Nat) / 340282366920938463463374607431768211456 % 18446744073709551616),u6 (lastOf 0 ([] : List Nat) / 6277101735386680763835789423207666416102355444464034512896 % 18446744073709551616)] : Array Value) from rfl)
 have M1 : Sep _ _ _ (blk b7 _ :: _) := M; replace M := M1; clear M1
 have M1 : Sep _ _ _ (slR _ _ 25 _ _ :: _) := M.f1; replace M := M1; clear M1
 refine loopX (X := (Int) × (Option Addr) × (Nat)) F [0,1,4,5,7] rfl (fun ((j,A,d) : (Int) × (Option Addr) × (Nat)) => (0 ≤ j) ∧ (j ≤ l.length)) (fun ((j,A,d) : (Int) × (Option Addr) × (Nat)) => [(6,.slice A (tms (negInv i.toNat) 0 (l.take j.toNat)).length d),(8,.int .i64 j)]) (fun ((j,A,d) : (Int) × (Option Addr) × (Nat)) => [numR (.slice A (tms (negInv i.toNat) 0 (l.take j.toNat)).length d) (tms (negInv i.toNat) 0 (l.take j.toNat)),blk b7 (.cells (#[u6 (lastOf 0 (l.take j.toNat) % 18446744073709551616),u6 (lastOf 0 (l.take j.toNat) / 18446744073709551616 % 18446744073709551616),u6 (lastOf 0 (l.take j.toNat) / 340282366920938463463374607431768211456 % 18446744073709551616),u6 (lastOf 0 (l.take j.toNat) / 6277101735386680763835789423207666416102355444464034512896 % 18446744073709551616)]) 25 (0,0))]) (fun ((j,A,d) : (Int) × (Option Addr) × (Nat)) => l.length - j.toNat) ((0),(none),(0)) M ⟨(by omega),(by omega)⟩ (F.keep [6,8,0,1,4,5,7] rfl) ?_
 clear F M; clear a; (try clear w)
 rintro ⟨j,A,d⟩ a w ⟨j0,j1⟩ F M; try dsimp only at F M
 try simp only [List.cons_append,List.nil_append] at F M
 try dsimp only at j0 j1
 have hz : lastOf 0 (l.take j.toNat) < 115792089237316195423570985008687907853269984665640564039457584007913129639936 := lastOf_lt (by decide) fun x h => hx x (List.mem_of_mem_take h)
 have htl : (tms (negInv i.toNat) 0 (l.take j.toNat)).length = j.toNat := by rw [tms_len,List.length_take]; omega
 refine wp_seq (wp_seq (wp_region_l [.ind,.ind,.ind,.ind] ([0,1,2,3]) rfl ?_))
 refine s_rn 2 F rfl rfl ?_; clear F a; intro a F
 refine s_len F rfl rfl rfl rfl sl_22 rfl ?_; clear F a; intro a F
 refine s_one F rfl ?_; clear F a; intro a F
 refine t_endM M ?_; clear M; intro w M
 refine c_if F rfl ?_ ?_
 clear F; intro hc0 F
 try rw [hc0] at F
 replace hc0 := of_decide_eq_true hc0
 refine wp_skip (wp_seq (wp_block (wp_seq ?_)))
 replace F := F.keep [0,1,4,5,6,7,8] rfl
 refine wp_region_t [.ind,.ind,.ind,.ind,.rd,.rd,.rd,.wr,.wr,.wr,.wr,.ind] [(4,7)] (otOf [0,1,2,3,4,5,6,7,8,9,10,11]) mixed (by kernel_rfl) ?_
 refine s_rn 3 F rfl rfl ?_; clear F a; intro a F
 refine s_ix F rfl rfl rfl rfl sl_22 rfl rfl (by exact M.chg.ro hro) (by omega) (by omega) ?_; clear F a; intro e25 he25 a F
 refine s_ldaL F rfl rfl rfl rfl ag_25 rfl rfl (rdsX (M.chg.ro hro) (by intro e; rfl) he25) ?_; clear F a; intro a F
 refine s_ldaL F rfl rfl rfl rfl ag_25 rfl rfl (cells_whole M.h1) ?_; clear F a; intro a F
 refine s_ldaL F rfl rfl rfl rfl ag_25 rfl rfl (cells_whole M.h2) ?_; clear F a; intro a F
 refine s_cqL F M rfl rfl rfl rfl rfl (rfl : _ = some [_,_]) cb_11 (fun nd_ => c11 (lastOf 0 (l.take j.toNat)) (negInv i.toNat) hz (Nat.lt_trans (Nat.mod_lt _ (by decide)) (by decide)) _) (fun _ w _ M => (by (refine pend_skip rfl ?_); (refine pend_skip rfl ?_); (refine pend_take (by exact rdsX (M.chg.ro hro) (by intro e; rfl) he25) ?_); exact pend_none)) ?_; clear F a M; rintro v w rfl M a F
 refine s_cqL F M rfl rfl rfl rfl rfl (rfl : _ = some [_,_]) cb_10 (fun nd_ => c10 e25 (lastOf 0 (l.take j.toNat) * negInv i.toNat % 115792089210356248762697446949407573529996955224135760342422259061068512044369) (hx e25 (List.mem_of_getElem? he25)) (Nat.lt_trans (Nat.mod_lt _ (by decide)) (by decide)) _) (fun _ w _ M => (by (refine pend_skip rfl ?_); (refine pend_skip rfl ?_); (refine pend_skip rfl ?_); exact pend_none)) ?_; clear F a M; rintro v w rfl M a F
 refine s_bsL F M rfl rfl rfl rfl (parts1 F rfl) (bs_22_1 _ _ _ _) (fun b w M => (by (refine pend_skip rfl ?_); (refine pend_skip rfl ?_); (refine pend_skip rfl ?_); exact pend_none)) ?_; clear F a M; intro b31 w M a F
 refine s_apE (((e25 + lastOf 0 (l.take j.toNat) * negInv i.toNat % 115792089210356248762697446949407573529996955224135760342422259061068512044369) % 115792089210356248762697446949407573529996955224135760342422259061068512044369 : Nat)) F M.f1 rfl rfl rfl rfl tl_22 rfl rfl (by exact rd_blk M.h0 rfl) rfl (by omega) (fun A c w M => (by (refine pend_skip rfl ?_); (refine pend_skip rfl ?_); (refine pend_skip rfl ?_); exact pend_none)) ?_; clear F a M; intro A32 c32 w M a F
 refine s_one F rfl ?_; clear F a; intro a F
 refine t_endM M ?_; clear M; intro w M
 replace F := F.keep [0,1,4,5,6,7,8] rfl
 refine wp_region_l [.ind,.ind,.ind,.rd,.wr] ([0,1,2,3,4]) rfl ?_
 refine s_rn 2 F rfl rfl ?_; clear F a; intro a F
 refine s_ix F rfl rfl rfl rfl sl_22 rfl rfl (by exact M.chg.ro hro) (by omega) (by omega) ?_; clear F a; intro e35 he35 a F
 try (obtain rfl := Option.some.inj (he25.symm.trans he35))
 refine s_lda F rfl rfl rfl rfl ag_25 rfl rfl (rdsX (M.chg.ro hro) (by intro e; rfl) he35) ?_; clear F a; intro a F
 refine s_stW F M.f2 rfl rfl rfl sz_25 rfl rfl rfl rfl rfl ?_; clear M; intro w M
 refine t_endM M ?_; clear M; intro w M
 replace F := F.keep [0,1,4,5,6,7,8] rfl
 refine wp_region_l [.ind,.ind,.ind] ([0,1,2]) rfl ?_
 refine s_one F rfl ?_; clear F a; intro a F
 refine s_add F rfl rfl rfl rfl rfl rfl (by unfold In64; omega) ?_; clear F a; intro a F
 refine s_one F rfl ?_; clear F a; intro a F
 refine t_endM M ?_; clear M; intro w M
 rw [← tms_snoc,← take_snoc he25,show j.toNat + 1 = (j + 1).toNat by omega] at F M
 have M1 : Sep _ _ _ (blk b7 _ :: _) := M; replace M := M1; clear M1
 replace M := Fw.Sep.blkC M (show _ = (#[u6 (lastOf 0 (l.take (j + 1).toNat) % 18446744073709551616),u6 (lastOf 0 (l.take (j + 1).toNat) / 18446744073709551616 % 18446744073709551616),u6 (lastOf 0 (l.take (j + 1).toNat) / 340282366920938463463374607431768211456 % 18446744073709551616),u6 (lastOf 0 (l.take (j + 1).toNat) / 6277101735386680763835789423207666416102355444464034512896 % 18446744073709551616)] : Array Value) by rw [show (j + 1).toNat = j.toNat + 1 by omega,take_snoc he25,lastOf_snoc])
 refine again ((j + 1),(A32),(c32)) (by show _ < _; (try dsimp only); omega) ⟨(by omega),(by assumption)⟩ (F.keep [6,8,0,1,4,5,7] rfl) ?_
 try dsimp only [List.cons_append,List.nil_append]
 refine M.pick ?_; repeat (first | exact PkG.nil | refine PkG.cons 0 rfl rfl ?_ | refine PkG.cons 1 rfl rfl ?_ | refine PkG.cons 3 rfl rfl ?_)
 clear F; intro hc1 F
 try rw [hc1] at F
 replace hc1 := of_decide_eq_false hc1
 refine wp_exit ?_
 refine wp_seq ?_
 obtain rfl : j = (l.length : Int) := by omega
 rw [Int.toNat_natCast,List.take_length] at F M htl
 replace F := F.keep [0,1,4,5,6,7,8] rfl
 refine wp_region_l [.ind,.rd,.rd,.wr,.wr,.wr,.ind] ([0,1,2,3,4,5,6]) rfl ?_
 refine s_one F rfl ?_; clear F a; intro a F
 refine s_lda F rfl rfl rfl rfl ag_25 rfl rfl (cells_whole M.h1) ?_; clear F a; intro a F
 refine s_lda F rfl rfl rfl rfl ag_25 rfl rfl (cells_whole M.h2) ?_; clear F a; intro a F
 have hlt := lastOf_lt (z := 0) (m := 115792089237316195423570985008687907853269984665640564039457584007913129639936) (by decide) hx
 refine s_cq F M rfl rfl rfl rfl rfl (rfl : _ = some [_,_]) cb_11 (fun nd_ => c11 (lastOf 0 l) (negInv i.toNat) hlt (Nat.lt_trans (Nat.mod_lt _ (by decide)) (by decide)) _) ?_; clear F a M; rintro v w rfl M a F
 refine s_bs F M rfl rfl rfl rfl (parts1 F rfl) (bs_22_1 _ _ _ _) ?_; clear F a M; intro b41 w M a F
 refine s_apE ((lastOf 0 l * negInv i.toNat % 115792089210356248762697446949407573529996955224135760342422259061068512044369 : Nat)) F M.f1 rfl rfl rfl rfl tl_22 rfl rfl (by exact rd_blk M.h0 rfl) rfl (by omega) (fun _ _ _ _ => pend_nil) ?_; clear F a M; intro A42 c42 w M a F
 refine s_one F rfl ?_; clear F a; intro a F
 refine t_endM M ?_; clear M; intro w M
 refine wp_ret ?_
 refine ret1 F rfl rfl ?_
 refine ⟨_,.slice A42 (timesN (negInv i.toNat) l).length c42,rfl,rfl,?_⟩
 have M1 : Sep _ _ _ (slR (.slice A42 _ _) _ _ _ _ :: _) := M; replace M := M1; clear M1
 exact Sep.left (m := [_]) M
end Go.Proofs.YteajeenmojbjhaaGreatDoor
namespace Go.Proofs.YteajeenmojbjhaaGreatDoor
open Go Fw
def PolyOk (l : List Nat) : Prop := 1 ≤ l.length ∧ l.length ≤ 3 ∧ ∀ x ∈ l,x < 115792089210356248762697446949407573529996955224135760342422259061068512044369
theorem take_all {P : Nat → Prop} {l : List Nat} {i : Nat} {e : Nat} (h : l[i]? = some e) (ha : ∀ x ∈ l.take i,P x) (he : P e) : ∀ x ∈ l.take (i + 1),P x := by
 rw [take_snoc h]
 intro x hx
 rcases List.mem_append.1 hx with h | h
 · exact ha x h
 · rw [List.mem_singleton.1 h]; exact he
set_option maxRecDepth 100000 in
set_option maxHeartbeats 1000000 in
theorem c4 (l : List Nat) (hx : ∀ x ∈ l,x < 115792089237316195423570985008687907853269984665640564039457584007913129639936) (hl : l.length ≤ 9223372036854775807) (v : Value) (w0 : World) (hr : RdSl w0.heap v l.length 4 (l.flatMap encX)) : Cl Tryz.prog 4 #[v] w0 (RetQ w0 fun r => ∃ b,r = .bool b ∧ (b = true → PolyOk l)) := by
 have M : Sep (fun _ => False) w0 w0 _ := Sep.nil _ w0
 have hro := ro_of hr
 obtain ⟨A,cc,rfl,hcc⟩ := hr.form
 refine enter (vs := [_]) Tryz.func4 rfl rfl rfl ?_
 intro a F
 refine wp_seq (wp_region_l [.ind] ([0]) rfl ?_)
 refine s_one F rfl ?_; clear F a; intro a F
 refine t_endM M ?_; clear M; intro w M
 refine wp_seq (wp_seq (wp_region_l [.ind,.ind,.ind,.ind,.ind,.ind,.ind,.ind,.ind,.ind,.ind,.rd,.ind,.ind,.ind] ([0,1,2,3,4,5,6,7,8,9,10,11,12,13,14]) rfl ?_))
 refine s_one F rfl ?_; clear F a; intro a F
 refine s_len F rfl rfl rfl rfl sl_22 rfl ?_; clear F a; intro a F
 refine s_rn 2 F rfl rfl ?_; clear F a; intro a F
 refine bsplit F 7 rfl ?_ ?_
 clear F; intro hc0 F
 try rw [hc0] at F
 replace hc0 := of_decide_eq_true hc0
 refine s_rn 11 F rfl rfl ?_; clear F a; intro a F
 refine t_endM M ?_; clear M; intro w M
 refine c_t F rfl ?_
 refine wp_seq ?_
 replace F := F.keep [0,2] rfl
 refine wp_region_l [.ind] ([0]) rfl ?_
 refine s_one F rfl ?_; clear F a; intro a F
 refine t_endM M ?_; clear M; intro w M
 refine wp_ret ?_
 refine ret1 F rfl rfl ?_
 refine ⟨_,rfl,⟨false,rfl,fun h => by cases h⟩,M.chg⟩
 clear F; intro hc1 F
 try rw [hc1] at F
 replace hc1 := of_decide_eq_false hc1
 refine s_one F rfl ?_; clear F a; intro a F
 refine s_len F rfl rfl rfl rfl sl_22 rfl ?_; clear F a; intro a F
 refine s_rn 3 F rfl rfl ?_; clear F a; intro a F
 refine bsplit F 12 rfl ?_ ?_
 clear F; intro hc2 F
 try rw [hc2] at F
 replace hc2 := of_decide_eq_true hc2
 refine s_rn 6 F rfl rfl ?_; clear F a; intro a F
 refine t_endM M ?_; clear M; intro w M
 refine c_t F rfl ?_
 refine wp_seq ?_
 replace F := F.keep [0,2] rfl
 refine wp_region_l [.ind] ([0]) rfl ?_
 refine s_one F rfl ?_; clear F a; intro a F
 refine t_endM M ?_; clear M; intro w M
 refine wp_ret ?_
 refine ret1 F rfl rfl ?_
 refine ⟨_,rfl,⟨false,rfl,fun h => by cases h⟩,M.chg⟩
 clear F; intro hc3 F
 try rw [hc3] at F
 replace hc3 := of_decide_eq_false hc3
 refine s_one F rfl ?_; clear F a; intro a F
 refine s_ix F rfl rfl rfl rfl sl_22 rfl rfl (by exact M.chg.ro hro) (by omega) (by omega) ?_; clear F a; intro e14 he14 a F
 refine s_lda F rfl rfl rfl rfl ag_25 rfl rfl (rdsX (M.chg.ro hro) (by intro e; rfl) he14) ?_; clear F a; intro a F
 refine s_bld F rfl rfl rfl rfl (parts0 F ) (bl_25_) ?_; clear F a; intro a F
 refine s_eqn (e14) (0) (hx e14 (List.mem_of_getElem? he14)) (by omega) F rfl rfl rfl rfl rfl rfl ?_; clear F a; intro a F
 refine s_one F rfl ?_; clear F a; intro a F
 refine t_endM M ?_; clear M; intro w M
 refine c_if F rfl ?_ ?_
 clear F; intro hc4 F
 try rw [hc4] at F
 replace hc4 := of_decide_eq_true hc4
 refine wp_seq ?_
 replace F := F.keep [0,2] rfl
 refine wp_region_l [.ind] ([0]) rfl ?_
 refine s_one F rfl ?_; clear F a; intro a F
 refine t_endM M ?_; clear M; intro w M
 refine wp_ret ?_
 refine ret1 F rfl rfl ?_
 refine ⟨_,rfl,⟨false,rfl,fun h => by cases h⟩,M.chg⟩
 clear F; intro hc5 F
 try rw [hc5] at F
 replace hc5 := of_decide_eq_false hc5
 refine wp_skip (wp_seq (wp_seq ?_))
 replace F := F.keep [0,2] rfl
 refine wp_region_l [.ind] ([0]) rfl ?_
 refine s_one F rfl ?_; clear F a; intro a F
 refine t_endM M ?_; clear M; intro w M
 refine wp_block ?_
 refine loopX (X := (Int)) F [0] rfl (fun (j : Int) => (0 ≤ j) ∧ (j ≤ l.length) ∧ (∀ x ∈ l.take j.toNat,x < 115792089210356248762697446949407573529996955224135760342422259061068512044369)) (fun (j : Int) => [(3,.int .i64 j)]) (fun (j : Int) => []) (fun (j : Int) => l.length - j.toNat) (0) M ⟨(by omega),(by omega),(fun x h => by cases h)⟩ (F.keep [3,0] rfl) ?_
 clear F M; clear a; (try clear w)
 rintro j a w ⟨j0,j1,hj⟩ F M; try dsimp only at F M
 try simp only [List.cons_append,List.nil_append] at F M
 try dsimp only at j0 j1 hj
 refine wp_seq (wp_seq (wp_region_l [.ind,.ind,.ind,.ind] ([0,1,2,3]) rfl ?_))
 refine s_rn 2 F rfl rfl ?_; clear F a; intro a F
 refine s_len F rfl rfl rfl rfl sl_22 rfl ?_; clear F a; intro a F
 refine s_one F rfl ?_; clear F a; intro a F
 refine t_endM M ?_; clear M; intro w M
 refine c_if F rfl ?_ ?_
 clear F; intro hc6 F
 try rw [hc6] at F
 replace hc6 := of_decide_eq_true hc6
 refine wp_skip (wp_seq (wp_block (wp_seq ?_)))
 replace F := F.keep [0,3] rfl
 refine wp_region_l [.ind,.ind,.ind,.rd,.wr,.ind] ([0,1,2,3,4,5]) rfl ?_
 refine s_rn 2 F rfl rfl ?_; clear F a; intro a F
 refine s_ix F rfl rfl rfl rfl sl_22 rfl rfl (by exact M.chg.ro hro) (by omega) (by omega) ?_; clear F a; intro e27 he27 a F
 try (obtain rfl := Option.some.inj (he14.symm.trans he27))
 refine s_lda F rfl rfl rfl rfl ag_25 rfl rfl (rdsX (M.chg.ro hro) (by intro e; rfl) he27) ?_; clear F a; intro a F
 refine s_cq F M rfl rfl rfl rfl rfl (rfl : _ = some [_]) cb_5 (fun nd_ => c5 e27 (hx e27 (List.mem_of_getElem? he27)) _) ?_; clear F a M; rintro v w rfl M a F
 refine s_one F rfl ?_; clear F a; intro a F
 refine t_endM M ?_; clear M; intro w M
 refine c_if F rfl ?_ ?_
 clear F; intro hc7 F
 try rw [hc7] at F
 replace hc7 := nd1 hc7
 refine wp_seq ?_
 replace F := F.keep [0,3] rfl
 refine wp_region_l [.ind] ([0]) rfl ?_
 refine s_one F rfl ?_; clear F a; intro a F
 refine t_endM M ?_; clear M; intro w M
 refine wp_ret ?_
 refine ret1 F rfl rfl ?_
 refine ⟨_,rfl,⟨false,rfl,fun h => by cases h⟩,M.chg⟩
 clear F; intro hc8 F
 try rw [hc8] at F
 replace hc8 := nd0 hc8
 refine wp_skip ?_
 replace F := F.keep [0,3] rfl
 refine wp_region_l [.ind,.ind,.ind] ([0,1,2]) rfl ?_
 refine s_one F rfl ?_; clear F a; intro a F
 refine s_add F rfl rfl rfl rfl rfl rfl (by unfold In64; omega) ?_; clear F a; intro a F
 refine s_one F rfl ?_; clear F a; intro a F
 refine t_endM M ?_; clear M; intro w M
 refine again (j + 1) (by show _ < _; (try dsimp only); omega) ⟨(by omega),(by assumption),(by rw [show (j + 1).toNat = j.toNat + 1 by omega]; exact take_all he27 hj (by omega))⟩ (F.keep [3,0] rfl) ?_
 try dsimp only [List.cons_append,List.nil_append]
 refine M.pick ?_; repeat (exact PkG.nil)
 clear F; intro hc9 F
 try rw [hc9] at F
 replace hc9 := of_decide_eq_false hc9
 refine wp_exit ?_
 refine wp_seq ?_
 replace F := F.keep [0,3] rfl
 refine wp_region_l [.ind] ([0]) rfl ?_
 refine s_one F rfl ?_; clear F a; intro a F
 refine t_endM M ?_; clear M; intro w M
 refine wp_ret ?_
 refine ret1 F rfl rfl ?_
 obtain rfl : j = (l.length : Int) := by omega
 rw [Int.toNat_natCast,List.take_length] at hj
 exact ⟨_,rfl,⟨true,rfl,fun _ => ⟨by omega,by omega,hj⟩⟩,M.chg⟩
end Go.Proofs.YteajeenmojbjhaaGreatDoor
