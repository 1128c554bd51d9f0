/- NS of the seat: lemmas that the walks share. -/
import Derived.Test.YteajeenmojbjhaaGreatDoorProg
import Derived.Test.YteajeenmojbjhaaGreatDoorP2
namespace Go.Proofs.YteajeenmojbjhaaGreatDoor
open Go Fw
theorem zr_25 : zeroB Tryz.prog 25 = some (.agg #[.int .u64 0,.int .u64 0,.int .u64 0,.int .u64 0]) := by kernel_rfl
theorem ar_25 : arrB Tryz.prog 25 = some (4,1) := by kernel_rfl
theorem sc_23 : scalB Tryz.prog 23 = true := by kernel_rfl
theorem sz_23 : sizeB Tryz.prog 23 = some 1 := by kernel_rfl
theorem ag_25 : aggB Tryz.prog 25 = some 4 := by kernel_rfl
theorem sz_25 : sizeB Tryz.prog 25 = some 4 := by kernel_rfl
theorem bl_25_0_1_2_3 : ∀ (x0 : Int) (x1 : Int) (x2 : Int) (x3 : Int),∀ w : World,(Instr.build 25 #[(0,.int .u64 x0),(1,.int .u64 x1),(2,.int .u64 x2),(3,.int .u64 x3)]).run Tryz.prog w = .ok (.agg #[.int .u64 x0,.int .u64 x1,.int .u64 x2,.int .u64 x3]) w := by intros; kernel_rfl
theorem bl_25_0 : ∀ (x0 : Int),∀ w : World,(Instr.build 25 #[(0,.int .u64 x0)]).run Tryz.prog w = .ok (.agg #[.int .u64 x0,.int .u64 0,.int .u64 0,.int .u64 0]) w := by intros; kernel_rfl
theorem cb_14 : callB Tryz.prog 14 = true := by kernel_rfl
theorem cb_13 : callB Tryz.prog 13 = true := by kernel_rfl
theorem cb_5 : callB Tryz.prog 5 = true := by kernel_rfl
theorem cb_28 : callB Tryz.prog 28 = true := by kernel_rfl
theorem cb_29 : callB Tryz.prog 29 = true := by kernel_rfl
theorem cb_30 : callB Tryz.prog 30 = true := by kernel_rfl
theorem fa_136_0 : FA Tryz.prog 136 0 0 := fun _ _ _ => by kernel_rfl
theorem cb_131 : callB Tryz.prog 131 = true := by kernel_rfl
theorem zr_136 : zeroB Tryz.prog 136 = some (.agg #[.int .u64 0,.int .u64 0,.int .u64 0,.int .u64 0,.int .u64 0,.int .u64 0,.int .u64 0,.int .u64 0,.int .u64 0]) := by kernel_rfl
theorem sz_136 : sizeB Tryz.prog 136 = some 9 := by kernel_rfl
theorem ag_136 : aggB Tryz.prog 136 = some 9 := by kernel_rfl
theorem cb_78 : callB Tryz.prog 78 = true := by kernel_rfl
theorem zr_202 : zeroB Tryz.prog 202 = some (.agg #[.int .u64 0,.int .u64 0,.int .u64 0,.int .u64 0,.int .u64 0,.int .u64 0]) := by kernel_rfl
theorem ae_25 : Tryz.prog.underlying 25 = some (.array 4 23) ∧ scalB Tryz.prog 23 = true := ⟨by kernel_rfl,by kernel_rfl⟩
theorem ar_202 : arrB Tryz.prog 202 = some (6,1) := by kernel_rfl
theorem ag_202 : aggB Tryz.prog 202 = some 6 := by kernel_rfl
theorem sz_202 : sizeB Tryz.prog 202 = some 6 := by kernel_rfl
theorem ik_3 : intB Tryz.prog 3 = some .i64 := by kernel_rfl
theorem ik_23 : intB Tryz.prog 23 = some .u64 := by kernel_rfl
theorem bl_25_ : ∀ w : World,(Instr.build 25 #[]).run Tryz.prog w = .ok (.agg #[.int .u64 0,.int .u64 0,.int .u64 0,.int .u64 0]) w := by intros; kernel_rfl
theorem sl_22 : slcB Tryz.prog 22 = some (25,4) := by kernel_rfl
theorem zr_131 : zeroB Tryz.prog 131 = some (.agg #[.int .u64 0,.int .u64 0,.int .u64 0,.int .u64 0,.int .u64 0,.int .u64 0,.int .u64 0,.int .u64 0,.int .u64 0,.int .u64 0,.int .u64 0,.int .u64 0,.int .u64 0,.int .u64 0,.int .u64 0,.int .u64 0]) := by kernel_rfl
theorem ar_131 : arrB Tryz.prog 131 = some (16,1) := by kernel_rfl
theorem sz_131 : sizeB Tryz.prog 131 = some 16 := by kernel_rfl
theorem cb_10 : callB Tryz.prog 10 = true := by kernel_rfl
theorem cb_25 : callB Tryz.prog 25 = true := by kernel_rfl
theorem cb_74 : callB Tryz.prog 74 = true := by kernel_rfl
theorem cb_8 : callB Tryz.prog 8 = true := by kernel_rfl
theorem cb_27 : callB Tryz.prog 27 = true := by kernel_rfl
theorem cb_11 : callB Tryz.prog 11 = true := by kernel_rfl
theorem bs_22_1 : ∀ (x0_0 : Int) (x0_1 : Int) (x0_2 : Int) (x0_3 : Int),News Tryz.prog (Instr.buildSlice 22 1 #[(0,.agg #[.int .u64 x0_0,.int .u64 x0_1,.int .u64 x0_2,.int .u64 x0_3])]) (.cells #[.int .u64 x0_0,.int .u64 x0_1,.int .u64 x0_2,.int .u64 x0_3] 25) fun b => .slice (some ⟨b,0,none⟩) 1 1 := by intros; intro w; kernel_rfl
theorem tl_22 : SlT Tryz.prog 22 25 4 32 (.agg #[.int .u64 0,.int .u64 0,.int .u64 0,.int .u64 0]) := ⟨by kernel_rfl,by kernel_rfl,by kernel_rfl,by kernel_rfl,by decide⟩
theorem sl_26 : slcB Tryz.prog 26 = some (3,1) := by kernel_rfl
theorem sc_3 : scalB Tryz.prog 3 = true := by kernel_rfl
end Go.Proofs.YteajeenmojbjhaaGreatDoor
namespace Go.Proofs.YteajeenmojbjhaaGreatDoor
open Go Fw
structure N4 where
 a : Nat
 b : Nat
 c : Nat
 d : Nat
 deriving DecidableEq
def lims (x : Nat) : N4 := ⟨x % 18446744073709551616,x / 18446744073709551616 % 18446744073709551616,x / 340282366920938463463374607431768211456 % 18446744073709551616,x / 6277101735386680763835789423207666416102355444464034512896 % 18446744073709551616⟩
def encN (x : N4) : List Value := [u6 x.a,u6 x.b,u6 x.c,u6 x.d]
abbrev nV (x : Nat) : Value := .agg #[u6 (x % 18446744073709551616),u6 (x / 18446744073709551616 % 18446744073709551616),u6 (x / 340282366920938463463374607431768211456 % 18446744073709551616),u6 (x / 6277101735386680763835789423207666416102355444464034512896 % 18446744073709551616)]
theorem lims_inj {x y : Nat} (hx : x < 115792089237316195423570985008687907853269984665640564039457584007913129639936) (hy : y < 115792089237316195423570985008687907853269984665640564039457584007913129639936) : lims x = lims y ↔ x = y := by
 refine ⟨fun h => ?_,fun h => by rw [h]⟩
 simp only [lims,N4.mk.injEq] at h
 omega
theorem nV_mod (x : Nat) : nV (x % 115792089237316195423570985008687907853269984665640564039457584007913129639936) = nV x := by
 unfold nV
 rw [show x % 115792089237316195423570985008687907853269984665640564039457584007913129639936 % 18446744073709551616 = x % 18446744073709551616 by omega,show x % 115792089237316195423570985008687907853269984665640564039457584007913129639936 / 18446744073709551616 % 18446744073709551616 = x / 18446744073709551616 % 18446744073709551616 by omega,show x % 115792089237316195423570985008687907853269984665640564039457584007913129639936 / 340282366920938463463374607431768211456 % 18446744073709551616 = x / 340282366920938463463374607431768211456 % 18446744073709551616 by omega,show x % 115792089237316195423570985008687907853269984665640564039457584007913129639936 / 6277101735386680763835789423207666416102355444464034512896 % 18446744073709551616 = x / 6277101735386680763835789423207666416102355444464034512896 % 18446744073709551616 by omega]
theorem mixed : Tryz.prog.follows .mixedOrders = true := by kernel_rfl
theorem x174 (u v c : Nat) (hc : c ≤ 1) : ExtQ Tryz.prog 174 [u6 u,u6 v,u6 c] (.tuple #[u6 ((u + v + c) % 18446744073709551616),u6 ((u + v + c) / 18446744073709551616)]) := fun w => by
 obtain rfl | rfl : c = 0 ∨ c = 1 := by omega
 · kernel_rfl
 · kernel_rfl
theorem x175 (u v c : Nat) (hc : c ≤ 1) : ExtQ Tryz.prog 175 [u6 u,u6 v,u6 c] (.tuple #[u6 ((u + 18446744073709551616 - v - c) % 18446744073709551616),u6 (if u < v + c then 1 else 0)]) := fun w => by
 obtain rfl | rfl : c = 0 ∨ c = 1 := by omega
 · kernel_rfl
 · kernel_rfl
abbrev n4 (a b c d : Nat) : Value := .agg #[u6 a,u6 b,u6 c,u6 d]
theorem nV_eq {x e0 e1 e2 e3 : Nat} (h0 : e0 = x % 18446744073709551616) (h1 : e1 = x / 18446744073709551616 % 18446744073709551616) (h2 : e2 = x / 340282366920938463463374607431768211456 % 18446744073709551616) (h3 : e3 = x / 6277101735386680763835789423207666416102355444464034512896 % 18446744073709551616) : n4 e0 e1 e2 e3 = nV x := by subst h0; subst h1; subst h2; subst h3; rfl
theorem nVb_eq {x e0 e1 e2 e3 : Nat} {b b' : Bool} (h : e0 = x % 18446744073709551616 ∧ e1 = x / 18446744073709551616 % 18446744073709551616 ∧ e2 = x / 340282366920938463463374607431768211456 % 18446744073709551616 ∧ e3 = x / 6277101735386680763835789423207666416102355444464034512896 % 18446744073709551616 ∧ b = b') : Value.tuple #[n4 e0 e1 e2 e3,.bool b] = .tuple #[nV x,.bool b'] := by
 obtain ⟨h0,h1,h2,h3,hb⟩ := h
 subst hb; rw [nV_eq h0 h1 h2 h3]
theorem split4 {a : Nat} (h : a < 115792089237316195423570985008687907853269984665640564039457584007913129639936) : a = a % 18446744073709551616 + 18446744073709551616 * (a / 18446744073709551616 % 18446744073709551616) + 340282366920938463463374607431768211456 * (a / 340282366920938463463374607431768211456 % 18446744073709551616) + 6277101735386680763835789423207666416102355444464034512896 * (a / 6277101735386680763835789423207666416102355444464034512896 % 18446744073709551616) := by omega
theorem add4 {a b x0 x1 x2 x3 y0 y1 y2 y3 c0 c1 c2 c3 : Nat} (ha : a = x0 + 18446744073709551616 * x1 + 340282366920938463463374607431768211456 * x2 + 6277101735386680763835789423207666416102355444464034512896 * x3) (hb : b = y0 + 18446744073709551616 * y1 + 340282366920938463463374607431768211456 * y2 + 6277101735386680763835789423207666416102355444464034512896 * y3) (h0 : x0 < 18446744073709551616) (h1 : x1 < 18446744073709551616) (h2 : x2 < 18446744073709551616) (h3 : x3 < 18446744073709551616) (g0 : y0 < 18446744073709551616) (g1 : y1 < 18446744073709551616) (g2 : y2 < 18446744073709551616) (g3 : y3 < 18446744073709551616) (hc0 : c0 = (x0 + y0 + 0) / 18446744073709551616) (hc1 : c1 = (x1 + y1 + c0) / 18446744073709551616) (hc2 : c2 = (x2 + y2 + c1) / 18446744073709551616) (hc3 : c3 = (x3 + y3 + c2) / 18446744073709551616) : (x0 + y0 + 0) % 18446744073709551616 = (a + b) % 18446744073709551616 ∧ (x1 + y1 + c0) % 18446744073709551616 = (a + b) / 18446744073709551616 % 18446744073709551616 ∧ (x2 + y2 + c1) % 18446744073709551616 = (a + b) / 340282366920938463463374607431768211456 % 18446744073709551616 ∧ (x3 + y3 + c2) % 18446744073709551616 = (a + b) / 6277101735386680763835789423207666416102355444464034512896 % 18446744073709551616 ∧ decide (c3 = 1) = decide (115792089237316195423570985008687907853269984665640564039457584007913129639936 ≤ a + b) := by
 subst ha; subst hb
 refine ⟨by omega,by omega,by omega,by omega,decide_eq_decide.2 ⟨fun _ => by omega,fun _ => by omega⟩⟩
theorem bor_le (x y c : Nat) : (if x < y + c then 1 else 0) ≤ 1 := by split <;> omega
theorem sub1 {x y c c' : Nat} (hx : x < 18446744073709551616) (hy : y < 18446744073709551616) (hc : c ≤ 1) (h : c' = if x < y + c then 1 else 0) : x + 18446744073709551616 * c' = y + c + (x + 18446744073709551616 - y - c) % 18446744073709551616 ∧ (x + 18446744073709551616 - y - c) % 18446744073709551616 < 18446744073709551616 ∧ c' ≤ 1 := by
 subst h; split <;> omega
theorem dmod (x : Nat) : x % 115792089237316195423570985008687907853269984665640564039457584007913129639936 / 18446744073709551616 % 18446744073709551616 = x / 18446744073709551616 % 18446744073709551616 := by omega
theorem dmod2 (x : Nat) : x % 115792089237316195423570985008687907853269984665640564039457584007913129639936 / 340282366920938463463374607431768211456 % 18446744073709551616 = x / 340282366920938463463374607431768211456 % 18446744073709551616 := by omega
theorem dmod3 (x : Nat) : x % 115792089237316195423570985008687907853269984665640564039457584007913129639936 / 6277101735386680763835789423207666416102355444464034512896 % 18446744073709551616 = x / 6277101735386680763835789423207666416102355444464034512896 % 18446744073709551616 := by omega
theorem sub4 {a b x0 x1 x2 x3 y0 y1 y2 y3 c0 c1 c2 c3 : Nat} (ha : a = x0 + 18446744073709551616 * x1 + 340282366920938463463374607431768211456 * x2 + 6277101735386680763835789423207666416102355444464034512896 * x3) (hb : b = y0 + 18446744073709551616 * y1 + 340282366920938463463374607431768211456 * y2 + 6277101735386680763835789423207666416102355444464034512896 * y3) (h0 : x0 < 18446744073709551616) (h1 : x1 < 18446744073709551616) (h2 : x2 < 18446744073709551616) (h3 : x3 < 18446744073709551616) (g0 : y0 < 18446744073709551616) (g1 : y1 < 18446744073709551616) (g2 : y2 < 18446744073709551616) (g3 : y3 < 18446744073709551616) (hc0 : c0 = if x0 < y0 + 0 then 1 else 0) (hc1 : c1 = if x1 < y1 + c0 then 1 else 0) (hc2 : c2 = if x2 < y2 + c1 then 1 else 0) (hc3 : c3 = if x3 < y3 + c2 then 1 else 0) : (x0 + 18446744073709551616 - y0 - 0) % 18446744073709551616 = (a + 115792089237316195423570985008687907853269984665640564039457584007913129639936 - b) % 18446744073709551616 ∧ (x1 + 18446744073709551616 - y1 - c0) % 18446744073709551616 = (a + 115792089237316195423570985008687907853269984665640564039457584007913129639936 - b) / 18446744073709551616 % 18446744073709551616 ∧ (x2 + 18446744073709551616 - y2 - c1) % 18446744073709551616 = (a + 115792089237316195423570985008687907853269984665640564039457584007913129639936 - b) / 340282366920938463463374607431768211456 % 18446744073709551616 ∧ (x3 + 18446744073709551616 - y3 - c2) % 18446744073709551616 = (a + 115792089237316195423570985008687907853269984665640564039457584007913129639936 - b) / 6277101735386680763835789423207666416102355444464034512896 % 18446744073709551616 ∧ decide (c3 = 1) = decide (a < b) := by
 have s0 := sub1 h0 g0 (Nat.zero_le 1) hc0
 have s1 := sub1 h1 g1 s0.2.2 hc1
 have s2 := sub1 h2 g2 s1.2.2 hc2
 have s3 := sub1 h3 g3 s2.2.2 hc3
 generalize (x0 + 18446744073709551616 - y0 - 0) % 18446744073709551616 = r0 at *
 generalize (x1 + 18446744073709551616 - y1 - c0) % 18446744073709551616 = r1 at *
 generalize (x2 + 18446744073709551616 - y2 - c1) % 18446744073709551616 = r2 at *
 generalize (x3 + 18446744073709551616 - y3 - c2) % 18446744073709551616 = r3 at *
 clear hc0 hc1 hc2 hc3
 obtain ⟨s0,t0,u0⟩ := s0
 obtain ⟨s1,t1,u1⟩ := s1
 obtain ⟨s2,t2,u2⟩ := s2
 obtain ⟨s3,t3,u3⟩ := s3
 have k : a + 115792089237316195423570985008687907853269984665640564039457584007913129639936 * c3 = b + (r0 + 18446744073709551616 * r1 + 340282366920938463463374607431768211456 * r2 + 6277101735386680763835789423207666416102355444464034512896 * r3) := by omega
 have kr : r0 + 18446744073709551616 * r1 + 340282366920938463463374607431768211456 * r2 + 6277101735386680763835789423207666416102355444464034512896 * r3 < 115792089237316195423570985008687907853269984665640564039457584007913129639936 := by omega
 have ka : a < 115792089237316195423570985008687907853269984665640564039457584007913129639936 := by omega
 have kb : b < 115792089237316195423570985008687907853269984665640564039457584007913129639936 := by omega
 clear ha hb s0 s1 s2 s3 h0 h1 h2 h3 g0 g1 g2 g3 u0 u1 u2
 have e : (a + 115792089237316195423570985008687907853269984665640564039457584007913129639936 - b) % 115792089237316195423570985008687907853269984665640564039457584007913129639936 = r0 + 18446744073709551616 * r1 + 340282366920938463463374607431768211456 * r2 + 6277101735386680763835789423207666416102355444464034512896 * r3 := by omega
 refine ⟨?_,?_,?_,?_,decide_eq_decide.2 ⟨fun _ => by omega,fun _ => by omega⟩⟩
 · rw [← Nat.mod_mod_of_dvd (a + 115792089237316195423570985008687907853269984665640564039457584007913129639936 - b) (⟨6277101735386680763835789423207666416102355444464034512896,rfl⟩ : 18446744073709551616 ∣ 115792089237316195423570985008687907853269984665640564039457584007913129639936),e]; omega
 · rw [← dmod,e]; omega
 · rw [← dmod2,e]; omega
 · rw [← dmod3,e]; omega
set_option maxRecDepth 100000 in
set_option maxHeartbeats 400000 in
theorem c130l (x0 x1 x2 x3 y0 y1 y2 y3 : Nat) (h0 : x0 < 18446744073709551616) (h1 : x1 < 18446744073709551616) (h2 : x2 < 18446744073709551616) (h3 : x3 < 18446744073709551616) (g0 : y0 < 18446744073709551616) (g1 : y1 < 18446744073709551616) (g2 : y2 < 18446744073709551616) (g3 : y3 < 18446744073709551616) (w0 : World) : Cl Tryz.prog 130 #[n4 x0 x1 x2 x3,n4 y0 y1 y2 y3] w0 (RetQ w0 fun r => r = .tuple #[nV ((x0 + 18446744073709551616 * x1 + 340282366920938463463374607431768211456 * x2 + 6277101735386680763835789423207666416102355444464034512896 * x3) + (y0 + 18446744073709551616 * y1 + 340282366920938463463374607431768211456 * y2 + 6277101735386680763835789423207666416102355444464034512896 * y3)),.bool (decide (115792089237316195423570985008687907853269984665640564039457584007913129639936 ≤ (x0 + 18446744073709551616 * x1 + 340282366920938463463374607431768211456 * x2 + 6277101735386680763835789423207666416102355444464034512896 * x3) + (y0 + 18446744073709551616 * y1 + 340282366920938463463374607431768211456 * y2 + 6277101735386680763835789423207666416102355444464034512896 * y3)))]) := by
 have M : Sep (fun _ => False) w0 w0 _ := Sep.nil _ w0
 refine enter (vs := [_,_]) Tryz.func130 rfl rfl rfl ?_
 intro a F
 refine wp_seq (wp_region_l [.wr,.wr,.wr,.ind] ([0,1,2,3]) rfl ?_)
 refine s_bxA F M rfl rfl rfl rfl rfl ?_; clear F a M; intro b2 w M a F
 refine s_bxA F M rfl rfl rfl rfl rfl ?_; clear F a M; intro b3 w M a F
 refine s_alc F M rfl rfl rfl rfl zr_25 rfl ?_; clear F a M; intro b4 w M a F
 refine s_one F rfl ?_; clear F a; intro a F
 refine t_endM M ?_; clear M; intro w M
 refine wp_seq (wp_region_l [.wr] ([0]) rfl ?_)
 refine s_alc F M rfl rfl rfl rfl zr_25 rfl ?_; clear F a M; intro b6 w M a F
 refine t_endM M ?_; clear M; intro w M
 refine wp_seq (wp_region_l [.ind] ([0]) rfl ?_)
 refine s_one F rfl ?_; clear F a; intro a F
 replace F : Fr _ _ ((7,u6 0) :: _) := F
 refine t_endM M ?_; clear M; intro w M
 refine wp_seq (wp_seq (wp_region_l [.ind] ([0]) rfl ?_))
 refine s_one F rfl ?_; clear F a; intro a F
 refine t_endM M ?_; clear M; intro w M
 refine wp_block ?_
 refine wp_loop_rounds 5 ?_
 refine (show Code.wp _ _ _ _ _ from ?_)
 refine wp_seq (wp_region_l [.ind] ([0]) rfl ?_)
 refine s_one F rfl ?_; clear F a; intro a F
 refine t_endM M ?_; clear M; intro w M
 refine wp_seq (c_t F (by rfl) ?_)
 refine wp_skip (wp_seq (wp_block (wp_seq ?_)))
 replace F := F.keep [0,1,2,3,4,5,6,7,9] rfl
 refine wp_region_l [.ind,.ind] ([0,1]) rfl ?_
 refine s_rn 2 F rfl rfl ?_; clear F a; intro a F
 refine t_endM M ?_; clear M; intro w M
 replace F := F.keep [0,1,2,3,4,5,6,7,8,9] rfl
 refine wp_region_t [.ind,.ind,.ind,.rd,.ind,.ind,.rd,.ind,.ind,.ind,.ind,.ind,.ind,.wr,.ind] [] (otOf [0,1,2,3,4,5,6,7,8,9,10,11,12,13,14]) mixed (by kernel_rfl) ?_
 refine s_rn 2 F rfl rfl ?_; clear F a; intro a F
 refine s_ia F rfl rfl rfl rfl ar_25 rfl rfl (by omega) (by omega) ?_; clear F a; intro a F
 refine s_ld F rfl rfl rfl rfl sc_23 rfl (by exact cell_of_blk M.h3 (lit rfl)) ?_; clear F a; intro a F
 refine s_one F rfl ?_; clear F a; intro a F
 refine s_ia F rfl rfl rfl rfl ar_25 rfl rfl (by omega) (by omega) ?_; clear F a; intro a F
 refine s_ld F rfl rfl rfl rfl sc_23 rfl (by exact cell_of_blk M.h2 (lit rfl)) ?_; clear F a; intro a F
 refine s_one F rfl ?_; clear F a; intro a F
 refine s_ext F rfl rfl rfl rfl rfl (x174 _ _ _ (by omega)) ?_; clear F a; intro a F
 refine s_rn 3 F rfl rfl ?_; clear F a; intro a F
 refine s_ia F rfl rfl rfl rfl ar_25 rfl rfl (by omega) (by omega) ?_; clear F a; intro a F
 refine s_st F M rfl rfl rfl sz_23 rfl rfl rfl (by exact Nat.le_of_ble_eq_true rfl) ?_; clear M; intro w M
 refine s_one F rfl ?_; clear F a; intro a F
 refine t_endM M ?_; clear M; intro w M
 replace F := F.keep [0,1,2,3,4,5,6,7,8,9] rfl
 refine wp_region_l [.ind,.ind] ([0,1]) rfl ?_
 refine s_add F rfl rfl rfl rfl rfl rfl (by unfold In64; omega) ?_; clear F a; intro a F
 refine s_one F rfl ?_; clear F a; intro a F
 refine t_endM M ?_; clear M; intro w M
 refine (show Code.wp _ _ _ _ _ from ?_)
 refine wp_seq ?_
 replace F := F.keep [0,1,2,3,4,5,6,7,8,9] rfl
 refine wp_region_l [.ind] ([0]) rfl ?_
 refine s_one F rfl ?_; clear F a; intro a F
 refine t_endM M ?_; clear M; intro w M
 refine wp_seq (c_t F (by rfl) ?_)
 refine wp_skip (wp_seq (wp_block (wp_seq ?_)))
 replace F := F.keep [0,1,2,3,4,5,6,7,8,9] rfl
 refine wp_region_l [.ind,.ind] ([0,1]) rfl ?_
 refine s_rn 2 F rfl rfl ?_; clear F a; intro a F
 refine t_endM M ?_; clear M; intro w M
 replace F := F.keep [0,1,2,3,4,5,6,7,8,9] rfl
 refine wp_region_t [.ind,.ind,.ind,.rd,.ind,.ind,.rd,.ind,.ind,.ind,.ind,.ind,.ind,.wr,.ind] [] (otOf [0,1,2,3,4,5,6,7,8,9,10,11,12,13,14]) mixed (by kernel_rfl) ?_
 refine s_rn 2 F rfl rfl ?_; clear F a; intro a F
 refine s_ia F rfl rfl rfl rfl ar_25 rfl rfl (by omega) (by omega) ?_; clear F a; intro a F
 refine s_ld F rfl rfl rfl rfl sc_23 rfl (by exact cell_of_blk M.h3 (lit rfl)) ?_; clear F a; intro a F
 refine s_one F rfl ?_; clear F a; intro a F
 refine s_ia F rfl rfl rfl rfl ar_25 rfl rfl (by omega) (by omega) ?_; clear F a; intro a F
 refine s_ld F rfl rfl rfl rfl sc_23 rfl (by exact cell_of_blk M.h2 (lit rfl)) ?_; clear F a; intro a F
 refine s_one F rfl ?_; clear F a; intro a F
 refine s_ext F rfl rfl rfl rfl rfl (x174 _ _ _ (by omega)) ?_; clear F a; intro a F
 refine s_rn 3 F rfl rfl ?_; clear F a; intro a F
 refine s_ia F rfl rfl rfl rfl ar_25 rfl rfl (by omega) (by omega) ?_; clear F a; intro a F
 refine s_st F M rfl rfl rfl sz_23 rfl rfl rfl (by exact Nat.le_of_ble_eq_true rfl) ?_; clear M; intro w M
 refine s_one F rfl ?_; clear F a; intro a F
 refine t_endM M ?_; clear M; intro w M
 replace F := F.keep [0,1,2,3,4,5,6,7,8,9] rfl
 refine wp_region_l [.ind,.ind] ([0,1]) rfl ?_
 refine s_add F rfl rfl rfl rfl rfl rfl (by unfold In64; omega) ?_; clear F a; intro a F
 refine s_one F rfl ?_; clear F a; intro a F
 refine t_endM M ?_; clear M; intro w M
 refine (show Code.wp _ _ _ _ _ from ?_)
 refine wp_seq ?_
 replace F := F.keep [0,1,2,3,4,5,6,7,8,9] rfl
 refine wp_region_l [.ind] ([0]) rfl ?_
 refine s_one F rfl ?_; clear F a; intro a F
 refine t_endM M ?_; clear M; intro w M
 refine wp_seq (c_t F (by rfl) ?_)
 refine wp_skip (wp_seq (wp_block (wp_seq ?_)))
 replace F := F.keep [0,1,2,3,4,5,6,7,8,9] rfl
 refine wp_region_l [.ind,.ind] ([0,1]) rfl ?_
 refine s_rn 2 F rfl rfl ?_; clear F a; intro a F
 refine t_endM M ?_; clear M; intro w M
 replace F := F.keep [0,1,2,3,4,5,6,7,8,9] rfl
 refine wp_region_t [.ind,.ind,.ind,.rd,.ind,.ind,.rd,.ind,.ind,.ind,.ind,.ind,.ind,.wr,.ind] [] (otOf [0,1,2,3,4,5,6,7,8,9,10,11,12,13,14]) mixed (by kernel_rfl) ?_
 refine s_rn 2 F rfl rfl ?_; clear F a; intro a F
 refine s_ia F rfl rfl rfl rfl ar_25 rfl rfl (by omega) (by omega) ?_; clear F a; intro a F
 refine s_ld F rfl rfl rfl rfl sc_23 rfl (by exact cell_of_blk M.h3 (lit rfl)) ?_; clear F a; intro a F
 refine s_one F rfl ?_; clear F a; intro a F
 refine s_ia F rfl rfl rfl rfl ar_25 rfl rfl (by omega) (by omega) ?_; clear F a; intro a F
 refine s_ld F rfl rfl rfl rfl sc_23 rfl (by exact cell_of_blk M.h2 (lit rfl)) ?_; clear F a; intro a F
 refine s_one F rfl ?_; clear F a; intro a F
 refine s_ext F rfl rfl rfl rfl rfl (x174 _ _ _ (by omega)) ?_; clear F a; intro a F
 refine s_rn 3 F rfl rfl ?_; clear F a; intro a F
 refine s_ia F rfl rfl rfl rfl ar_25 rfl rfl (by omega) (by omega) ?_; clear F a; intro a F
 refine s_st F M rfl rfl rfl sz_23 rfl rfl rfl (by exact Nat.le_of_ble_eq_true rfl) ?_; clear M; intro w M
 refine s_one F rfl ?_; clear F a; intro a F
 refine t_endM M ?_; clear M; intro w M
 replace F := F.keep [0,1,2,3,4,5,6,7,8,9] rfl
 refine wp_region_l [.ind,.ind] ([0,1]) rfl ?_
 refine s_add F rfl rfl rfl rfl rfl rfl (by unfold In64; omega) ?_; clear F a; intro a F
 refine s_one F rfl ?_; clear F a; intro a F
 refine t_endM M ?_; clear M; intro w M
 refine (show Code.wp _ _ _ _ _ from ?_)
 refine wp_seq ?_
 replace F := F.keep [0,1,2,3,4,5,6,7,8,9] rfl
 refine wp_region_l [.ind] ([0]) rfl ?_
 refine s_one F rfl ?_; clear F a; intro a F
 refine t_endM M ?_; clear M; intro w M
 refine wp_seq (c_t F (by rfl) ?_)
 refine wp_skip (wp_seq (wp_block (wp_seq ?_)))
 replace F := F.keep [0,1,2,3,4,5,6,7,8,9] rfl
 refine wp_region_l [.ind,.ind] ([0,1]) rfl ?_
 refine s_rn 2 F rfl rfl ?_; clear F a; intro a F
 refine t_endM M ?_; clear M; intro w M
 replace F := F.keep [0,1,2,3,4,5,6,7,8,9] rfl
 refine wp_region_t [.ind,.ind,.ind,.rd,.ind,.ind,.rd,.ind,.ind,.ind,.ind,.ind,.ind,.wr,.ind] [] (otOf [0,1,2,3,4,5,6,7,8,9,10,11,12,13,14]) mixed (by kernel_rfl) ?_
 refine s_rn 2 F rfl rfl ?_; clear F a; intro a F
 refine s_ia F rfl rfl rfl rfl ar_25 rfl rfl (by omega) (by omega) ?_; clear F a; intro a F
 refine s_ld F rfl rfl rfl rfl sc_23 rfl (by exact cell_of_blk M.h3 (lit rfl)) ?_; clear F a; intro a F
 refine s_one F rfl ?_; clear F a; intro a F
 refine s_ia F rfl rfl rfl rfl ar_25 rfl rfl (by omega) (by omega) ?_; clear F a; intro a F
 refine s_ld F rfl rfl rfl rfl sc_23 rfl (by exact cell_of_blk M.h2 (lit rfl)) ?_; clear F a; intro a F
 refine s_one F rfl ?_; clear F a; intro a F
 refine s_ext F rfl rfl rfl rfl rfl (x174 _ _ _ (by omega)) ?_; clear F a; intro a F
 refine s_rn 3 F rfl rfl ?_; clear F a; intro a F
 refine s_ia F rfl rfl rfl rfl ar_25 rfl rfl (by omega) (by omega) ?_; clear F a; intro a F
 refine s_st F M rfl rfl rfl sz_23 rfl rfl rfl (by exact Nat.le_of_ble_eq_true rfl) ?_; clear M; intro w M
 refine s_one F rfl ?_; clear F a; intro a F
 refine t_endM M ?_; clear M; intro w M
 replace F := F.keep [0,1,2,3,4,5,6,7,8,9] rfl
 refine wp_region_l [.ind,.ind] ([0,1]) rfl ?_
 refine s_add F rfl rfl rfl rfl rfl rfl (by unfold In64; omega) ?_; clear F a; intro a F
 refine s_one F rfl ?_; clear F a; intro a F
 refine t_endM M ?_; clear M; intro w M
 refine (show Code.wp _ _ _ _ _ from ?_)
 refine wp_seq ?_
 replace F := F.keep [0,1,2,3,4,5,6,7,8,9] rfl
 refine wp_region_l [.ind] ([0]) rfl ?_
 refine s_one F rfl ?_; clear F a; intro a F
 refine t_endM M ?_; clear M; intro w M
 refine wp_seq ?_
 refine c_f F (by rfl) ?_
 refine wp_exit ?_
 refine wp_seq ?_
 replace F := F.keep [0,1,2,3,4,5,6,7,8,9] rfl
 refine wp_region_l [.rd,.ind,.ind,.wr,.ind] ([0,1,2,3,4]) rfl ?_
 refine s_lda F rfl rfl rfl rfl ag_25 rfl rfl (cells_whole M.h0) ?_; clear F a; intro a F
 refine s_one F rfl ?_; clear F a; intro a F
 refine s_ucmp (v := 1) F rfl rfl rfl rfl rfl rfl rfl ?_; clear F a; intro a F
 refine s_stW F M.f1 rfl rfl rfl sz_25 rfl rfl rfl rfl rfl ?_; clear M; intro w M
 refine s_one F rfl ?_; clear F a; intro a F
 refine t_endM M ?_; clear M; intro w M
 refine wp_ret ?_
 refine rt2 F rfl (by exact rv_a F rfl ag_25 rfl (cells_whole M.h0)) (rv_t F rfl) ?_
 refine ⟨_,rfl,?_,M.chg⟩
 clear M F
 exact nVb_eq (add4 rfl rfl h0 h1 h2 h3 g0 g1 g2 g3 rfl rfl rfl rfl)
theorem c130 (a b : Nat) (ha : a < 115792089237316195423570985008687907853269984665640564039457584007913129639936) (hb : b < 115792089237316195423570985008687907853269984665640564039457584007913129639936) (w0 : World) : Cl Tryz.prog 130 #[nV a,nV b] w0 (RetQ w0 fun r => r = .tuple #[nV (a + b),.bool (decide (115792089237316195423570985008687907853269984665640564039457584007913129639936 ≤ a + b))]) := by
 have h := c130l (a % 18446744073709551616) (a / 18446744073709551616 % 18446744073709551616) (a / 340282366920938463463374607431768211456 % 18446744073709551616) (a / 6277101735386680763835789423207666416102355444464034512896 % 18446744073709551616) (b % 18446744073709551616) (b / 18446744073709551616 % 18446744073709551616) (b / 340282366920938463463374607431768211456 % 18446744073709551616) (b / 6277101735386680763835789423207666416102355444464034512896 % 18446744073709551616) (Nat.mod_lt _ (by decide)) (Nat.mod_lt _ (by decide)) (Nat.mod_lt _ (by decide)) (Nat.mod_lt _ (by decide)) (Nat.mod_lt _ (by decide)) (Nat.mod_lt _ (by decide)) (Nat.mod_lt _ (by decide)) (Nat.mod_lt _ (by decide)) w0
 rw [← split4 ha,← split4 hb] at h
 exact h
set_option maxRecDepth 100000 in
set_option maxHeartbeats 400000 in
theorem c131l (x0 x1 x2 x3 y0 y1 y2 y3 : Nat) (h0 : x0 < 18446744073709551616) (h1 : x1 < 18446744073709551616) (h2 : x2 < 18446744073709551616) (h3 : x3 < 18446744073709551616) (g0 : y0 < 18446744073709551616) (g1 : y1 < 18446744073709551616) (g2 : y2 < 18446744073709551616) (g3 : y3 < 18446744073709551616) (w0 : World) : Cl Tryz.prog 131 #[n4 x0 x1 x2 x3,n4 y0 y1 y2 y3] w0 (RetQ w0 fun r => r = .tuple #[nV ((x0 + 18446744073709551616 * x1 + 340282366920938463463374607431768211456 * x2 + 6277101735386680763835789423207666416102355444464034512896 * x3) + 115792089237316195423570985008687907853269984665640564039457584007913129639936 - (y0 + 18446744073709551616 * y1 + 340282366920938463463374607431768211456 * y2 + 6277101735386680763835789423207666416102355444464034512896 * y3)),.bool (decide ((x0 + 18446744073709551616 * x1 + 340282366920938463463374607431768211456 * x2 + 6277101735386680763835789423207666416102355444464034512896 * x3) < (y0 + 18446744073709551616 * y1 + 340282366920938463463374607431768211456 * y2 + 6277101735386680763835789423207666416102355444464034512896 * y3)))]) := by
 have M : Sep (fun _ => False) w0 w0 _ := Sep.nil _ w0
 refine enter (vs := [_,_]) Tryz.func131 rfl rfl rfl ?_
 intro a F
 refine wp_seq (wp_region_l [.wr,.wr,.wr,.ind] ([0,1,2,3]) rfl ?_)
 refine s_bxA F M rfl rfl rfl rfl rfl ?_; clear F a M; intro b2 w M a F
 refine s_bxA F M rfl rfl rfl rfl rfl ?_; clear F a M; intro b3 w M a F
 refine s_alc F M rfl rfl rfl rfl zr_25 rfl ?_; clear F a M; intro b4 w M a F
 refine s_one F rfl ?_; clear F a; intro a F
 refine t_endM M ?_; clear M; intro w M
 refine wp_seq (wp_region_l [.wr] ([0]) rfl ?_)
 refine s_alc F M rfl rfl rfl rfl zr_25 rfl ?_; clear F a M; intro b6 w M a F
 refine t_endM M ?_; clear M; intro w M
 refine wp_seq (wp_region_l [.ind] ([0]) rfl ?_)
 refine s_one F rfl ?_; clear F a; intro a F
 replace F : Fr _ _ ((7,u6 0) :: _) := F
 refine t_endM M ?_; clear M; intro w M
 refine wp_seq (wp_seq (wp_region_l [.ind] ([0]) rfl ?_))
 refine s_one F rfl ?_; clear F a; intro a F
 refine t_endM M ?_; clear M; intro w M
 refine wp_block ?_
 refine wp_loop_rounds 5 ?_
 refine (show Code.wp _ _ _ _ _ from ?_)
 refine wp_seq (wp_region_l [.ind] ([0]) rfl ?_)
 refine s_one F rfl ?_; clear F a; intro a F
 refine t_endM M ?_; clear M; intro w M
 refine wp_seq (c_t F (by rfl) ?_)
 refine wp_skip (wp_seq (wp_block (wp_seq ?_)))
 replace F := F.keep [0,1,2,3,4,5,6,7,9] rfl
 refine wp_region_l [.ind,.ind] ([0,1]) rfl ?_
 refine s_rn 2 F rfl rfl ?_; clear F a; intro a F
 refine t_endM M ?_; clear M; intro w M
 replace F := F.keep [0,1,2,3,4,5,6,7,8,9] rfl
 refine wp_region_t [.ind,.ind,.ind,.rd,.ind,.ind,.rd,.ind,.ind,.ind,.ind,.ind,.ind,.wr,.ind] [] (otOf [0,1,2,3,4,5,6,7,8,9,10,11,12,13,14]) mixed (by kernel_rfl) ?_
 refine s_rn 2 F rfl rfl ?_; clear F a; intro a F
 refine s_ia F rfl rfl rfl rfl ar_25 rfl rfl (by omega) (by omega) ?_; clear F a; intro a F
 refine s_ld F rfl rfl rfl rfl sc_23 rfl (by exact cell_of_blk M.h3 (lit rfl)) ?_; clear F a; intro a F
 refine s_one F rfl ?_; clear F a; intro a F
 refine s_ia F rfl rfl rfl rfl ar_25 rfl rfl (by omega) (by omega) ?_; clear F a; intro a F
 refine s_ld F rfl rfl rfl rfl sc_23 rfl (by exact cell_of_blk M.h2 (lit rfl)) ?_; clear F a; intro a F
 refine s_one F rfl ?_; clear F a; intro a F
 refine s_ext F rfl rfl rfl rfl rfl (x175 _ _ _ (by decide)) ?_; clear F a; intro a F
 refine s_rn 3 F rfl rfl ?_; clear F a; intro a F
 refine s_ia F rfl rfl rfl rfl ar_25 rfl rfl (by omega) (by omega) ?_; clear F a; intro a F
 refine s_st F M rfl rfl rfl sz_23 rfl rfl rfl (by exact Nat.le_of_ble_eq_true rfl) ?_; clear M; intro w M
 refine s_one F rfl ?_; clear F a; intro a F
 refine t_endM M ?_; clear M; intro w M
 replace F := F.keep [0,1,2,3,4,5,6,7,8,9] rfl
 refine wp_region_l [.ind,.ind] ([0,1]) rfl ?_
 refine s_add F rfl rfl rfl rfl rfl rfl (by unfold In64; omega) ?_; clear F a; intro a F
 refine s_one F rfl ?_; clear F a; intro a F
 refine t_endM M ?_; clear M; intro w M
 refine (show Code.wp _ _ _ _ _ from ?_)
 refine wp_seq ?_
 replace F := F.keep [0,1,2,3,4,5,6,7,8,9] rfl
 refine wp_region_l [.ind] ([0]) rfl ?_
 refine s_one F rfl ?_; clear F a; intro a F
 refine t_endM M ?_; clear M; intro w M
 refine wp_seq (c_t F (by rfl) ?_)
 refine wp_skip (wp_seq (wp_block (wp_seq ?_)))
 replace F := F.keep [0,1,2,3,4,5,6,7,8,9] rfl
 refine wp_region_l [.ind,.ind] ([0,1]) rfl ?_
 refine s_rn 2 F rfl rfl ?_; clear F a; intro a F
 refine t_endM M ?_; clear M; intro w M
 replace F := F.keep [0,1,2,3,4,5,6,7,8,9] rfl
 refine wp_region_t [.ind,.ind,.ind,.rd,.ind,.ind,.rd,.ind,.ind,.ind,.ind,.ind,.ind,.wr,.ind] [] (otOf [0,1,2,3,4,5,6,7,8,9,10,11,12,13,14]) mixed (by kernel_rfl) ?_
 refine s_rn 2 F rfl rfl ?_; clear F a; intro a F
 refine s_ia F rfl rfl rfl rfl ar_25 rfl rfl (by omega) (by omega) ?_; clear F a; intro a F
 refine s_ld F rfl rfl rfl rfl sc_23 rfl (by exact cell_of_blk M.h3 (lit rfl)) ?_; clear F a; intro a F
 refine s_one F rfl ?_; clear F a; intro a F
 refine s_ia F rfl rfl rfl rfl ar_25 rfl rfl (by omega) (by omega) ?_; clear F a; intro a F
 refine s_ld F rfl rfl rfl rfl sc_23 rfl (by exact cell_of_blk M.h2 (lit rfl)) ?_; clear F a; intro a F
 refine s_one F rfl ?_; clear F a; intro a F
 refine s_ext F rfl rfl rfl rfl rfl (x175 _ _ _ (by exact bor_le _ _ _)) ?_; clear F a; intro a F
 refine s_rn 3 F rfl rfl ?_; clear F a; intro a F
 refine s_ia F rfl rfl rfl rfl ar_25 rfl rfl (by omega) (by omega) ?_; clear F a; intro a F
 refine s_st F M rfl rfl rfl sz_23 rfl rfl rfl (by exact Nat.le_of_ble_eq_true rfl) ?_; clear M; intro w M
 refine s_one F rfl ?_; clear F a; intro a F
 refine t_endM M ?_; clear M; intro w M
 replace F := F.keep [0,1,2,3,4,5,6,7,8,9] rfl
 refine wp_region_l [.ind,.ind] ([0,1]) rfl ?_
 refine s_add F rfl rfl rfl rfl rfl rfl (by unfold In64; omega) ?_; clear F a; intro a F
 refine s_one F rfl ?_; clear F a; intro a F
 refine t_endM M ?_; clear M; intro w M
 refine (show Code.wp _ _ _ _ _ from ?_)
 refine wp_seq ?_
 replace F := F.keep [0,1,2,3,4,5,6,7,8,9] rfl
 refine wp_region_l [.ind] ([0]) rfl ?_
 refine s_one F rfl ?_; clear F a; intro a F
 refine t_endM M ?_; clear M; intro w M
 refine wp_seq (c_t F (by rfl) ?_)
 refine wp_skip (wp_seq (wp_block (wp_seq ?_)))
 replace F := F.keep [0,1,2,3,4,5,6,7,8,9] rfl
 refine wp_region_l [.ind,.ind] ([0,1]) rfl ?_
 refine s_rn 2 F rfl rfl ?_; clear F a; intro a F
 refine t_endM M ?_; clear M; intro w M
 replace F := F.keep [0,1,2,3,4,5,6,7,8,9] rfl
 refine wp_region_t [.ind,.ind,.ind,.rd,.ind,.ind,.rd,.ind,.ind,.ind,.ind,.ind,.ind,.wr,.ind] [] (otOf [0,1,2,3,4,5,6,7,8,9,10,11,12,13,14]) mixed (by kernel_rfl) ?_
 refine s_rn 2 F rfl rfl ?_; clear F a; intro a F
 refine s_ia F rfl rfl rfl rfl ar_25 rfl rfl (by omega) (by omega) ?_; clear F a; intro a F
 refine s_ld F rfl rfl rfl rfl sc_23 rfl (by exact cell_of_blk M.h3 (lit rfl)) ?_; clear F a; intro a F
 refine s_one F rfl ?_; clear F a; intro a F
 refine s_ia F rfl rfl rfl rfl ar_25 rfl rfl (by omega) (by omega) ?_; clear F a; intro a F
 refine s_ld F rfl rfl rfl rfl sc_23 rfl (by exact cell_of_blk M.h2 (lit rfl)) ?_; clear F a; intro a F
 refine s_one F rfl ?_; clear F a; intro a F
 refine s_ext F rfl rfl rfl rfl rfl (x175 _ _ _ (by exact bor_le _ _ _)) ?_; clear F a; intro a F
 refine s_rn 3 F rfl rfl ?_; clear F a; intro a F
 refine s_ia F rfl rfl rfl rfl ar_25 rfl rfl (by omega) (by omega) ?_; clear F a; intro a F
 refine s_st F M rfl rfl rfl sz_23 rfl rfl rfl (by exact Nat.le_of_ble_eq_true rfl) ?_; clear M; intro w M
 refine s_one F rfl ?_; clear F a; intro a F
 refine t_endM M ?_; clear M; intro w M
 replace F := F.keep [0,1,2,3,4,5,6,7,8,9] rfl
 refine wp_region_l [.ind,.ind] ([0,1]) rfl ?_
 refine s_add F rfl rfl rfl rfl rfl rfl (by unfold In64; omega) ?_; clear F a; intro a F
 refine s_one F rfl ?_; clear F a; intro a F
 refine t_endM M ?_; clear M; intro w M
 refine (show Code.wp _ _ _ _ _ from ?_)
 refine wp_seq ?_
 replace F := F.keep [0,1,2,3,4,5,6,7,8,9] rfl
 refine wp_region_l [.ind] ([0]) rfl ?_
 refine s_one F rfl ?_; clear F a; intro a F
 refine t_endM M ?_; clear M; intro w M
 refine wp_seq (c_t F (by rfl) ?_)
 refine wp_skip (wp_seq (wp_block (wp_seq ?_)))
 replace F := F.keep [0,1,2,3,4,5,6,7,8,9] rfl
 refine wp_region_l [.ind,.ind] ([0,1]) rfl ?_
 refine s_rn 2 F rfl rfl ?_; clear F a; intro a F
 refine t_endM M ?_; clear M; intro w M
 replace F := F.keep [0,1,2,3,4,5,6,7,8,9] rfl
 refine wp_region_t [.ind,.ind,.ind,.rd,.ind,.ind,.rd,.ind,.ind,.ind,.ind,.ind,.ind,.wr,.ind] [] (otOf [0,1,2,3,4,5,6,7,8,9,10,11,12,13,14]) mixed (by kernel_rfl) ?_
 refine s_rn 2 F rfl rfl ?_; clear F a; intro a F
 refine s_ia F rfl rfl rfl rfl ar_25 rfl rfl (by omega) (by omega) ?_; clear F a; intro a F
 refine s_ld F rfl rfl rfl rfl sc_23 rfl (by exact cell_of_blk M.h3 (lit rfl)) ?_; clear F a; intro a F
 refine s_one F rfl ?_; clear F a; intro a F
 refine s_ia F rfl rfl rfl rfl ar_25 rfl rfl (by omega) (by omega) ?_; clear F a; intro a F
 refine s_ld F rfl rfl rfl rfl sc_23 rfl (by exact cell_of_blk M.h2 (lit rfl)) ?_; clear F a; intro a F
 refine s_one F rfl ?_; clear F a; intro a F
 refine s_ext F rfl rfl rfl rfl rfl (x175 _ _ _ (by exact bor_le _ _ _)) ?_; clear F a; intro a F
 refine s_rn 3 F rfl rfl ?_; clear F a; intro a F
 refine s_ia F rfl rfl rfl rfl ar_25 rfl rfl (by omega) (by omega) ?_; clear F a; intro a F
 refine s_st F M rfl rfl rfl sz_23 rfl rfl rfl (by exact Nat.le_of_ble_eq_true rfl) ?_; clear M; intro w M
 refine s_one F rfl ?_; clear F a; intro a F
 refine t_endM M ?_; clear M; intro w M
 replace F := F.keep [0,1,2,3,4,5,6,7,8,9] rfl
 refine wp_region_l [.ind,.ind] ([0,1]) rfl ?_
 refine s_add F rfl rfl rfl rfl rfl rfl (by unfold In64; omega) ?_; clear F a; intro a F
 refine s_one F rfl ?_; clear F a; intro a F
 refine t_endM M ?_; clear M; intro w M
 refine (show Code.wp _ _ _ _ _ from ?_)
 refine wp_seq ?_
 replace F := F.keep [0,1,2,3,4,5,6,7,8,9] rfl
 refine wp_region_l [.ind] ([0]) rfl ?_
 refine s_one F rfl ?_; clear F a; intro a F
 refine t_endM M ?_; clear M; intro w M
 refine wp_seq ?_
 refine c_f F (by rfl) ?_
 refine wp_exit ?_
 refine wp_seq ?_
 replace F := F.keep [0,1,2,3,4,5,6,7,8,9] rfl
 refine wp_region_l [.rd,.ind,.ind,.wr,.ind] ([0,1,2,3,4]) rfl ?_
 refine s_lda F rfl rfl rfl rfl ag_25 rfl rfl (cells_whole M.h0) ?_; clear F a; intro a F
 refine s_one F rfl ?_; clear F a; intro a F
 refine s_ucmp (v := 1) F rfl rfl rfl rfl rfl rfl rfl ?_; clear F a; intro a F
 refine s_stW F M.f1 rfl rfl rfl sz_25 rfl rfl rfl rfl rfl ?_; clear M; intro w M
 refine s_one F rfl ?_; clear F a; intro a F
 refine t_endM M ?_; clear M; intro w M
 refine wp_ret ?_
 refine rt2 F rfl (by exact rv_a F rfl ag_25 rfl (cells_whole M.h0)) (rv_t F rfl) ?_
 refine ⟨_,rfl,?_,M.chg⟩
 clear M F
 exact nVb_eq (sub4 rfl rfl h0 h1 h2 h3 g0 g1 g2 g3 rfl rfl rfl rfl)
theorem c131 (a b : Nat) (ha : a < 115792089237316195423570985008687907853269984665640564039457584007913129639936) (hb : b < 115792089237316195423570985008687907853269984665640564039457584007913129639936) (w0 : World) : Cl Tryz.prog 131 #[nV a,nV b] w0 (RetQ w0 fun r => r = .tuple #[nV (a + 115792089237316195423570985008687907853269984665640564039457584007913129639936 - b),.bool (decide (a < b))]) := by
 have h := c131l (a % 18446744073709551616) (a / 18446744073709551616 % 18446744073709551616) (a / 340282366920938463463374607431768211456 % 18446744073709551616) (a / 6277101735386680763835789423207666416102355444464034512896 % 18446744073709551616) (b % 18446744073709551616) (b / 18446744073709551616 % 18446744073709551616) (b / 340282366920938463463374607431768211456 % 18446744073709551616) (b / 6277101735386680763835789423207666416102355444464034512896 % 18446744073709551616) (Nat.mod_lt _ (by decide)) (Nat.mod_lt _ (by decide)) (Nat.mod_lt _ (by decide)) (Nat.mod_lt _ (by decide)) (Nat.mod_lt _ (by decide)) (Nat.mod_lt _ (by decide)) (Nat.mod_lt _ (by decide)) (Nat.mod_lt _ (by decide)) w0
 rw [← split4 ha,← split4 hb] at h
 exact h
end Go.Proofs.YteajeenmojbjhaaGreatDoor
namespace Go.Proofs.YteajeenmojbjhaaGreatDoor
open Go Fw
theorem sub_sh {x y c : Nat} (hx : x < 18446744073709551616) (hy : y < 18446744073709551616) (hc : c ≤ 1) : ((x + (18446744073709551616 - y)) % 18446744073709551616 + (18446744073709551616 - c)) % 18446744073709551616 = (x + 18446744073709551616 - y - c) % 18446744073709551616 := by omega
theorem bor_of {x y c : Nat} (z : Bool) (h : z = true ↔ x < y + c) : (z = true → 1 = if x < y + c then 1 else 0) ∧ (z = false → 0 = if x < y + c then 1 else 0) := by
 refine ⟨fun e => ?_,fun e => ?_⟩
 · rw [if_pos (h.1 e)]
 · rw [if_neg (fun g => by rw [h.2 g] at e; cases e)]
set_option maxRecDepth 100000 in
set_option maxHeartbeats 400000 in
theorem c30l (x0 x1 x2 x3 y0 y1 y2 y3 : Nat) (h0 : x0 < 18446744073709551616) (h1 : x1 < 18446744073709551616) (h2 : x2 < 18446744073709551616) (h3 : x3 < 18446744073709551616) (g0 : y0 < 18446744073709551616) (g1 : y1 < 18446744073709551616) (g2 : y2 < 18446744073709551616) (g3 : y3 < 18446744073709551616) (w0 : World) : Cl Tryz.prog 30 #[n4 x0 x1 x2 x3,n4 y0 y1 y2 y3] w0 (RetQ w0 fun r => r = .tuple #[nV ((x0 + 18446744073709551616 * x1 + 340282366920938463463374607431768211456 * x2 + 6277101735386680763835789423207666416102355444464034512896 * x3) + (y0 + 18446744073709551616 * y1 + 340282366920938463463374607431768211456 * y2 + 6277101735386680763835789423207666416102355444464034512896 * y3)),.bool (decide (115792089237316195423570985008687907853269984665640564039457584007913129639936 ≤ (x0 + 18446744073709551616 * x1 + 340282366920938463463374607431768211456 * x2 + 6277101735386680763835789423207666416102355444464034512896 * x3) + (y0 + 18446744073709551616 * y1 + 340282366920938463463374607431768211456 * y2 + 6277101735386680763835789423207666416102355444464034512896 * y3)))]) := by
 have M : Sep (fun _ => False) w0 w0 _ := Sep.nil _ w0
 refine enter (vs := [_,_]) Tryz.func30 rfl rfl rfl ?_
 intro a F
 refine wp_seq (wp_region_l [.wr,.wr,.wr,.ind] ([0,1,2,3]) rfl ?_)
 refine s_bxA F M rfl rfl rfl rfl rfl ?_; clear F a M; intro b2 w M a F
 refine s_bxA F M rfl rfl rfl rfl rfl ?_; clear F a M; intro b3 w M a F
 refine s_alc F M rfl rfl rfl rfl zr_25 rfl ?_; clear F a M; intro b4 w M a F
 refine s_one F rfl ?_; clear F a; intro a F
 refine t_endM M ?_; clear M; intro w M
 refine wp_seq (wp_region_l [.wr] ([0]) rfl ?_)
 refine s_alc F M rfl rfl rfl rfl zr_25 rfl ?_; clear F a M; intro b6 w M a F
 refine t_endM M ?_; clear M; intro w M
 refine wp_seq (wp_region_l [.ind] ([0]) rfl ?_)
 refine s_one F rfl ?_; clear F a; intro a F
 replace F : Fr _ _ ((7,u6 0) :: _) := F
 refine t_endM M ?_; clear M; intro w M
 refine wp_seq (wp_seq (wp_region_l [.ind] ([0]) rfl ?_))
 refine s_one F rfl ?_; clear F a; intro a F
 refine t_endM M ?_; clear M; intro w M
 refine wp_block ?_
 refine wp_loop_rounds 5 ?_
 refine (show Code.wp _ _ _ _ _ from ?_)
 refine wp_seq (wp_seq (wp_region_l [.ind,.ind] ([0,1]) rfl ?_))
 refine s_rn 2 F rfl rfl ?_; clear F a; intro a F
 refine t_endM M ?_; clear M; intro w M
 refine c_t F (by rfl) ?_
 refine wp_skip (wp_seq (wp_block (wp_seq ?_)))
 replace F := F.keep [0,1,2,3,4,5,6,7,8] rfl
 refine wp_region_t [.ind,.ind,.rd,.ind,.ind,.rd,.ind,.ind] [] (otOf [0,1,2,3,4,5,6,7]) mixed (by kernel_rfl) ?_
 refine s_one F rfl ?_; clear F a; intro a F
 refine s_ia F rfl rfl rfl rfl ar_25 rfl rfl (by omega) (by omega) ?_; clear F a; intro a F
 refine s_ld F rfl rfl rfl rfl sc_23 rfl (by exact cell_of_blk M.h3 (lit rfl)) ?_; clear F a; intro a F
 refine s_one F rfl ?_; clear F a; intro a F
 refine s_ia F rfl rfl rfl rfl ar_25 rfl rfl (by omega) (by omega) ?_; clear F a; intro a F
 refine s_ld F rfl rfl rfl rfl sc_23 rfl (by exact cell_of_blk M.h2 (lit rfl)) ?_; clear F a; intro a F
 refine s_uadd F rfl rfl rfl rfl rfl rfl ?_; clear F a; intro a F
 refine s_one F rfl ?_; clear F a; intro a F
 refine t_endM M ?_; clear M; intro w M
 refine wp_seq ?_
 replace F := F.keep [0,1,2,3,4,5,6,7,8,9] rfl
 refine wp_region_l [.ind] ([0]) rfl ?_
 refine s_one F rfl ?_; clear F a; intro a F
 replace F : Fr _ _ ((10,u6 0) :: _) := F
 refine t_endM M ?_; clear M; intro w M
 refine wp_seq (wp_seq (wp_region_l [.ind,.ind,.ind,.rd,.ind] ([0,1,2,3,4]) rfl ?_))
 refine s_rn 2 F rfl rfl ?_; clear F a; intro a F
 refine s_ia F rfl rfl rfl rfl ar_25 rfl rfl (by omega) (by omega) ?_; clear F a; intro a F
 refine s_ld F rfl rfl rfl rfl sc_23 rfl (by exact cell_of_blk M.h3 (lit rfl)) ?_; clear F a; intro a F
 refine s_ucmp F rfl rfl rfl rfl rfl rfl rfl ?_; clear F a; intro a F
 refine t_endM M ?_; clear M; intro w M
 refine cutX (X := (Nat)) (m0 := []) F [0,1,2,3,4,5,6,7,8,9] rfl M (fun (p0 : Nat) => (p0 = (x0 + y0) / 18446744073709551616)) (fun (p0 : Nat) => [(10,u6 p0)]) (fun (p0 : Nat) => []) ?_ ?_
 refine c_if F rfl ?_ ?_
 clear F; intro hc0 F
 try rw [hc0] at F
 replace hc0 := of_decide_eq_true hc0
 replace F := F.keep [0,1,2,3,4,5,6,7,8,9,10] rfl
 refine wp_region_l [.ind] ([0]) rfl ?_
 refine s_one F rfl ?_; clear F a; intro a F
 replace F : Fr _ _ ((10,u6 1) :: _) := F
 refine t_endM M ?_; clear M; intro w M
 refine joined (1) (by omega) (F.keep [10,0,1,2,3,4,5,6,7,8,9] rfl) ?_
 try dsimp only [List.cons_append,List.nil_append]
 refine M.pick ?_; repeat (first | exact PkG.nil | refine PkG.cons 0 rfl rfl ?_ | refine PkG.cons 1 rfl rfl ?_ | refine PkG.cons 2 rfl rfl ?_ | refine PkG.cons 3 rfl rfl ?_)
 clear F; intro hc1 F
 try rw [hc1] at F
 replace hc1 := of_decide_eq_false hc1
 refine wp_skip ?_
 refine joined (0) (by omega) (F.keep [10,0,1,2,3,4,5,6,7,8,9] rfl) ?_
 try dsimp only [List.cons_append,List.nil_append]
 refine M.pick ?_; repeat (first | exact PkG.nil | refine PkG.cons 0 rfl rfl ?_ | refine PkG.cons 1 rfl rfl ?_ | refine PkG.cons 2 rfl rfl ?_ | refine PkG.cons 3 rfl rfl ?_)
 clear F M; clear a; (try clear w)
 rintro p0 a w hp0 F M; try dsimp only at F M
 try simp only [List.cons_append,List.nil_append] at F M
 try dsimp only at hp0
 refine wp_seq (wp_region_l [.ind,.ind,.ind,.ind,.ind,.wr] ([0,1,2,3,4,5]) rfl ?_)
 refine s_rn 3 F rfl rfl ?_; clear F a; intro a F
 refine s_uadd F rfl rfl rfl rfl rfl rfl ?_; clear F a; intro a F
 refine s_ia F rfl rfl rfl rfl ar_25 rfl rfl (by omega) (by omega) ?_; clear F a; intro a F
 rw [Nat.mod_add_mod] at F
 refine s_st F M rfl rfl rfl sz_23 rfl rfl rfl (by exact Nat.le_of_ble_eq_true rfl) ?_; clear M; intro w M
 refine t_endM M ?_; clear M; intro w M
 refine wp_seq (wp_seq ?_)
 replace F := F.keep [0,1,2,3,4,5,6,7,8,9,10] rfl
 refine wp_region_l [.ind,.ind,.rd,.ind,.ind] ([0,1,2,3,4]) rfl ?_
 refine s_one F rfl ?_; clear F a; intro a F
 refine s_ia F rfl rfl rfl rfl ar_25 rfl rfl (by omega) (by omega) ?_; clear F a; intro a F
 refine s_ld F rfl rfl rfl rfl sc_23 rfl (by exact cell_of_blk M.h0 (lit rfl)) ?_; clear F a; intro a F
 refine s_one F rfl ?_; clear F a; intro a F
 refine s_ucmp F rfl rfl rfl rfl rfl rfl rfl ?_; clear F a; intro a F
 refine t_endM M ?_; clear M; intro w M
 refine cutX (X := (Nat)) (m0 := []) F [0,1,2,3,4,5,6,7,8,9] rfl M (fun (k0 : Nat) => (k0 = (x0 + y0 + 0) / 18446744073709551616)) (fun (k0 : Nat) => [(10,u6 k0)]) (fun (k0 : Nat) => []) ?_ ?_
 refine c_if F rfl ?_ ?_
 clear F; intro hc2 F
 try rw [hc2] at F
 replace hc2 := of_decide_eq_true hc2
 replace F := F.keep [0,1,2,3,4,5,6,7,8,9,10] rfl
 refine wp_region_l [.ind] ([0]) rfl ?_
 refine s_one F rfl ?_; clear F a; intro a F
 replace F : Fr _ _ ((10,u6 1) :: _) := F
 refine t_endM M ?_; clear M; intro w M
 refine joined (1) (by omega) (F.keep [10,0,1,2,3,4,5,6,7,8,9] rfl) ?_
 try dsimp only [List.cons_append,List.nil_append]
 refine M.pick ?_; repeat (first | exact PkG.nil | refine PkG.cons 0 rfl rfl ?_ | refine PkG.cons 1 rfl rfl ?_ | refine PkG.cons 2 rfl rfl ?_ | refine PkG.cons 3 rfl rfl ?_)
 clear F; intro hc3 F
 try rw [hc3] at F
 replace hc3 := of_decide_eq_false hc3
 refine wp_skip ?_
 refine joined (p0) (by omega) (F.keep [10,0,1,2,3,4,5,6,7,8,9] rfl) ?_
 try dsimp only [List.cons_append,List.nil_append]
 refine M.pick ?_; repeat (first | exact PkG.nil | refine PkG.cons 0 rfl rfl ?_ | refine PkG.cons 1 rfl rfl ?_ | refine PkG.cons 2 rfl rfl ?_ | refine PkG.cons 3 rfl rfl ?_)
 clear F M; clear a; (try clear w)
 rintro k0 a w hk0 F M; try dsimp only at F M
 try simp only [List.cons_append,List.nil_append] at F M
 try dsimp only at hk0
 refine wp_region_l [.ind,.ind] ([0,1]) rfl ?_
 refine s_rn 2 F rfl rfl ?_; clear F a; intro a F
 refine t_endM M ?_; clear M; intro w M
 replace F := F.keep [0,1,2,3,4,5,6,7,8,9,10] rfl
 refine wp_region_l [.ind,.ind,.ind] ([0,1,2]) rfl ?_
 refine s_one F rfl ?_; clear F a; intro a F
 refine s_add F rfl rfl rfl rfl rfl rfl (by unfold In64; omega) ?_; clear F a; intro a F
 refine s_one F rfl ?_; clear F a; intro a F
 refine t_endM M ?_; clear M; intro w M
 refine (show Code.wp _ _ _ _ _ from ?_)
 refine wp_seq (wp_seq ?_)
 replace F := F.keep [0,1,2,3,4,5,6,7,8,9,10] rfl
 refine wp_region_l [.ind,.ind] ([0,1]) rfl ?_
 refine s_rn 2 F rfl rfl ?_; clear F a; intro a F
 refine t_endM M ?_; clear M; intro w M
 refine c_t F (by rfl) ?_
 refine wp_skip (wp_seq (wp_block (wp_seq ?_)))
 replace F := F.keep [0,1,2,3,4,5,6,7,8,9,10] rfl
 refine wp_region_t [.ind,.ind,.rd,.ind,.ind,.rd,.ind,.ind] [] (otOf [0,1,2,3,4,5,6,7]) mixed (by kernel_rfl) ?_
 refine s_one F rfl ?_; clear F a; intro a F
 refine s_ia F rfl rfl rfl rfl ar_25 rfl rfl (by omega) (by omega) ?_; clear F a; intro a F
 refine s_ld F rfl rfl rfl rfl sc_23 rfl (by exact cell_of_blk M.h3 (lit rfl)) ?_; clear F a; intro a F
 refine s_one F rfl ?_; clear F a; intro a F
 refine s_ia F rfl rfl rfl rfl ar_25 rfl rfl (by omega) (by omega) ?_; clear F a; intro a F
 refine s_ld F rfl rfl rfl rfl sc_23 rfl (by exact cell_of_blk M.h2 (lit rfl)) ?_; clear F a; intro a F
 refine s_uadd F rfl rfl rfl rfl rfl rfl ?_; clear F a; intro a F
 refine s_one F rfl ?_; clear F a; intro a F
 refine t_endM M ?_; clear M; intro w M
 refine wp_seq ?_
 replace F := F.keep [0,1,2,3,4,5,6,7,8,9,10] rfl
 refine wp_region_l [.ind] ([0]) rfl ?_
 refine s_one F rfl ?_; clear F a; intro a F
 replace F : Fr _ _ ((10,u6 0) :: _) := F
 refine t_endM M ?_; clear M; intro w M
 refine wp_seq (wp_seq (wp_region_l [.ind,.ind,.ind,.rd,.ind] ([0,1,2,3,4]) rfl ?_))
 refine s_rn 2 F rfl rfl ?_; clear F a; intro a F
 refine s_ia F rfl rfl rfl rfl ar_25 rfl rfl (by omega) (by omega) ?_; clear F a; intro a F
 refine s_ld F rfl rfl rfl rfl sc_23 rfl (by exact cell_of_blk M.h3 (lit rfl)) ?_; clear F a; intro a F
 refine s_ucmp F rfl rfl rfl rfl rfl rfl rfl ?_; clear F a; intro a F
 refine t_endM M ?_; clear M; intro w M
 refine cutX (X := (Nat)) (m0 := []) F [0,1,2,3,4,5,6,7,8,9] rfl M (fun (p1 : Nat) => (p1 = (x1 + y1) / 18446744073709551616)) (fun (p1 : Nat) => [(10,u6 p1)]) (fun (p1 : Nat) => []) ?_ ?_
 refine c_if F rfl ?_ ?_
 clear F; intro hc4 F
 try rw [hc4] at F
 replace hc4 := of_decide_eq_true hc4
 replace F := F.keep [0,1,2,3,4,5,6,7,8,9,10] rfl
 refine wp_region_l [.ind] ([0]) rfl ?_
 refine s_one F rfl ?_; clear F a; intro a F
 replace F : Fr _ _ ((10,u6 1) :: _) := F
 refine t_endM M ?_; clear M; intro w M
 refine joined (1) (by omega) (F.keep [10,0,1,2,3,4,5,6,7,8,9] rfl) ?_
 try dsimp only [List.cons_append,List.nil_append]
 refine M.pick ?_; repeat (first | exact PkG.nil | refine PkG.cons 0 rfl rfl ?_ | refine PkG.cons 1 rfl rfl ?_ | refine PkG.cons 2 rfl rfl ?_ | refine PkG.cons 3 rfl rfl ?_)
 clear F; intro hc5 F
 try rw [hc5] at F
 replace hc5 := of_decide_eq_false hc5
 refine wp_skip ?_
 refine joined (0) (by omega) (F.keep [10,0,1,2,3,4,5,6,7,8,9] rfl) ?_
 try dsimp only [List.cons_append,List.nil_append]
 refine M.pick ?_; repeat (first | exact PkG.nil | refine PkG.cons 0 rfl rfl ?_ | refine PkG.cons 1 rfl rfl ?_ | refine PkG.cons 2 rfl rfl ?_ | refine PkG.cons 3 rfl rfl ?_)
 clear F M; clear a; (try clear w)
 rintro p1 a w hp1 F M; try dsimp only at F M
 try simp only [List.cons_append,List.nil_append] at F M
 try dsimp only at hp1
 refine wp_seq (wp_region_l [.ind,.ind,.ind,.ind,.ind,.wr] ([0,1,2,3,4,5]) rfl ?_)
 refine s_rn 3 F rfl rfl ?_; clear F a; intro a F
 refine s_uadd F rfl rfl rfl rfl rfl rfl ?_; clear F a; intro a F
 refine s_ia F rfl rfl rfl rfl ar_25 rfl rfl (by omega) (by omega) ?_; clear F a; intro a F
 rw [Nat.mod_add_mod] at F
 refine s_st F M rfl rfl rfl sz_23 rfl rfl rfl (by exact Nat.le_of_ble_eq_true rfl) ?_; clear M; intro w M
 refine t_endM M ?_; clear M; intro w M
 refine wp_seq (wp_seq ?_)
 replace F := F.keep [0,1,2,3,4,5,6,7,8,9,10] rfl
 refine wp_region_l [.ind,.ind,.rd,.ind,.ind] ([0,1,2,3,4]) rfl ?_
 refine s_one F rfl ?_; clear F a; intro a F
 refine s_ia F rfl rfl rfl rfl ar_25 rfl rfl (by omega) (by omega) ?_; clear F a; intro a F
 refine s_ld F rfl rfl rfl rfl sc_23 rfl (by exact cell_of_blk M.h0 (lit rfl)) ?_; clear F a; intro a F
 refine s_one F rfl ?_; clear F a; intro a F
 refine s_ucmp F rfl rfl rfl rfl rfl rfl rfl ?_; clear F a; intro a F
 refine t_endM M ?_; clear M; intro w M
 refine cutX (X := (Nat)) (m0 := []) F [0,1,2,3,4,5,6,7,8,9] rfl M (fun (k1 : Nat) => (k1 = (x1 + y1 + k0) / 18446744073709551616)) (fun (k1 : Nat) => [(10,u6 k1)]) (fun (k1 : Nat) => []) ?_ ?_
 refine c_if F rfl ?_ ?_
 clear F; intro hc6 F
 try rw [hc6] at F
 replace hc6 := of_decide_eq_true hc6
 replace F := F.keep [0,1,2,3,4,5,6,7,8,9,10] rfl
 refine wp_region_l [.ind] ([0]) rfl ?_
 refine s_one F rfl ?_; clear F a; intro a F
 replace F : Fr _ _ ((10,u6 1) :: _) := F
 refine t_endM M ?_; clear M; intro w M
 refine joined (1) (by omega) (F.keep [10,0,1,2,3,4,5,6,7,8,9] rfl) ?_
 try dsimp only [List.cons_append,List.nil_append]
 refine M.pick ?_; repeat (first | exact PkG.nil | refine PkG.cons 0 rfl rfl ?_ | refine PkG.cons 1 rfl rfl ?_ | refine PkG.cons 2 rfl rfl ?_ | refine PkG.cons 3 rfl rfl ?_)
 clear F; intro hc7 F
 try rw [hc7] at F
 replace hc7 := of_decide_eq_false hc7
 refine wp_skip ?_
 refine joined (p1) (by omega) (F.keep [10,0,1,2,3,4,5,6,7,8,9] rfl) ?_
 try dsimp only [List.cons_append,List.nil_append]
 refine M.pick ?_; repeat (first | exact PkG.nil | refine PkG.cons 0 rfl rfl ?_ | refine PkG.cons 1 rfl rfl ?_ | refine PkG.cons 2 rfl rfl ?_ | refine PkG.cons 3 rfl rfl ?_)
 clear F M; clear a; (try clear w)
 rintro k1 a w hk1 F M; try dsimp only at F M
 try simp only [List.cons_append,List.nil_append] at F M
 try dsimp only at hk1
 refine wp_region_l [.ind,.ind] ([0,1]) rfl ?_
 refine s_rn 2 F rfl rfl ?_; clear F a; intro a F
 refine t_endM M ?_; clear M; intro w M
 replace F := F.keep [0,1,2,3,4,5,6,7,8,9,10] rfl
 refine wp_region_l [.ind,.ind,.ind] ([0,1,2]) rfl ?_
 refine s_one F rfl ?_; clear F a; intro a F
 refine s_add F rfl rfl rfl rfl rfl rfl (by unfold In64; omega) ?_; clear F a; intro a F
 refine s_one F rfl ?_; clear F a; intro a F
 refine t_endM M ?_; clear M; intro w M
 refine (show Code.wp _ _ _ _ _ from ?_)
 refine wp_seq (wp_seq ?_)
 replace F := F.keep [0,1,2,3,4,5,6,7,8,9,10] rfl
 refine wp_region_l [.ind,.ind] ([0,1]) rfl ?_
 refine s_rn 2 F rfl rfl ?_; clear F a; intro a F
 refine t_endM M ?_; clear M; intro w M
 refine c_t F (by rfl) ?_
 refine wp_skip (wp_seq (wp_block (wp_seq ?_)))
 replace F := F.keep [0,1,2,3,4,5,6,7,8,9,10] rfl
 refine wp_region_t [.ind,.ind,.rd,.ind,.ind,.rd,.ind,.ind] [] (otOf [0,1,2,3,4,5,6,7]) mixed (by kernel_rfl) ?_
 refine s_one F rfl ?_; clear F a; intro a F
 refine s_ia F rfl rfl rfl rfl ar_25 rfl rfl (by omega) (by omega) ?_; clear F a; intro a F
 refine s_ld F rfl rfl rfl rfl sc_23 rfl (by exact cell_of_blk M.h3 (lit rfl)) ?_; clear F a; intro a F
 refine s_one F rfl ?_; clear F a; intro a F
 refine s_ia F rfl rfl rfl rfl ar_25 rfl rfl (by omega) (by omega) ?_; clear F a; intro a F
 refine s_ld F rfl rfl rfl rfl sc_23 rfl (by exact cell_of_blk M.h2 (lit rfl)) ?_; clear F a; intro a F
 refine s_uadd F rfl rfl rfl rfl rfl rfl ?_; clear F a; intro a F
 refine s_one F rfl ?_; clear F a; intro a F
 refine t_endM M ?_; clear M; intro w M
 refine wp_seq ?_
 replace F := F.keep [0,1,2,3,4,5,6,7,8,9,10] rfl
 refine wp_region_l [.ind] ([0]) rfl ?_
 refine s_one F rfl ?_; clear F a; intro a F
 replace F : Fr _ _ ((10,u6 0) :: _) := F
 refine t_endM M ?_; clear M; intro w M
 refine wp_seq (wp_seq (wp_region_l [.ind,.ind,.ind,.rd,.ind] ([0,1,2,3,4]) rfl ?_))
 refine s_rn 2 F rfl rfl ?_; clear F a; intro a F
 refine s_ia F rfl rfl rfl rfl ar_25 rfl rfl (by omega) (by omega) ?_; clear F a; intro a F
 refine s_ld F rfl rfl rfl rfl sc_23 rfl (by exact cell_of_blk M.h3 (lit rfl)) ?_; clear F a; intro a F
 refine s_ucmp F rfl rfl rfl rfl rfl rfl rfl ?_; clear F a; intro a F
 refine t_endM M ?_; clear M; intro w M
 refine cutX (X := (Nat)) (m0 := []) F [0,1,2,3,4,5,6,7,8,9] rfl M (fun (p2 : Nat) => (p2 = (x2 + y2) / 18446744073709551616)) (fun (p2 : Nat) => [(10,u6 p2)]) (fun (p2 : Nat) => []) ?_ ?_
 refine c_if F rfl ?_ ?_
 clear F; intro hc8 F
 try rw [hc8] at F
 replace hc8 := of_decide_eq_true hc8
 replace F := F.keep [0,1,2,3,4,5,6,7,8,9,10] rfl
 refine wp_region_l [.ind] ([0]) rfl ?_
 refine s_one F rfl ?_; clear F a; intro a F
 replace F : Fr _ _ ((10,u6 1) :: _) := F
 refine t_endM M ?_; clear M; intro w M
 refine joined (1) (by omega) (F.keep [10,0,1,2,3,4,5,6,7,8,9] rfl) ?_
 try dsimp only [List.cons_append,List.nil_append]
 refine M.pick ?_; repeat (first | exact PkG.nil | refine PkG.cons 0 rfl rfl ?_ | refine PkG.cons 1 rfl rfl ?_ | refine PkG.cons 2 rfl rfl ?_ | refine PkG.cons 3 rfl rfl ?_)
 clear F; intro hc9 F
 try rw [hc9] at F
 replace hc9 := of_decide_eq_false hc9
 refine wp_skip ?_
 refine joined (0) (by omega) (F.keep [10,0,1,2,3,4,5,6,7,8,9] rfl) ?_
 try dsimp only [List.cons_append,List.nil_append]
 refine M.pick ?_; repeat (first | exact PkG.nil | refine PkG.cons 0 rfl rfl ?_ | refine PkG.cons 1 rfl rfl ?_ | refine PkG.cons 2 rfl rfl ?_ | refine PkG.cons 3 rfl rfl ?_)
 clear F M; clear a; (try clear w)
 rintro p2 a w hp2 F M; try dsimp only at F M
 try simp only [List.cons_append,List.nil_append] at F M
 try dsimp only at hp2
 refine wp_seq (wp_region_l [.ind,.ind,.ind,.ind,.ind,.wr] ([0,1,2,3,4,5]) rfl ?_)
 refine s_rn 3 F rfl rfl ?_; clear F a; intro a F
 refine s_uadd F rfl rfl rfl rfl rfl rfl ?_; clear F a; intro a F
 refine s_ia F rfl rfl rfl rfl ar_25 rfl rfl (by omega) (by omega) ?_; clear F a; intro a F
 rw [Nat.mod_add_mod] at F
 refine s_st F M rfl rfl rfl sz_23 rfl rfl rfl (by exact Nat.le_of_ble_eq_true rfl) ?_; clear M; intro w M
 refine t_endM M ?_; clear M; intro w M
 refine wp_seq (wp_seq ?_)
 replace F := F.keep [0,1,2,3,4,5,6,7,8,9,10] rfl
 refine wp_region_l [.ind,.ind,.rd,.ind,.ind] ([0,1,2,3,4]) rfl ?_
 refine s_one F rfl ?_; clear F a; intro a F
 refine s_ia F rfl rfl rfl rfl ar_25 rfl rfl (by omega) (by omega) ?_; clear F a; intro a F
 refine s_ld F rfl rfl rfl rfl sc_23 rfl (by exact cell_of_blk M.h0 (lit rfl)) ?_; clear F a; intro a F
 refine s_one F rfl ?_; clear F a; intro a F
 refine s_ucmp F rfl rfl rfl rfl rfl rfl rfl ?_; clear F a; intro a F
 refine t_endM M ?_; clear M; intro w M
 refine cutX (X := (Nat)) (m0 := []) F [0,1,2,3,4,5,6,7,8,9] rfl M (fun (k2 : Nat) => (k2 = (x2 + y2 + k1) / 18446744073709551616)) (fun (k2 : Nat) => [(10,u6 k2)]) (fun (k2 : Nat) => []) ?_ ?_
 refine c_if F rfl ?_ ?_
 clear F; intro hc10 F
 try rw [hc10] at F
 replace hc10 := of_decide_eq_true hc10
 replace F := F.keep [0,1,2,3,4,5,6,7,8,9,10] rfl
 refine wp_region_l [.ind] ([0]) rfl ?_
 refine s_one F rfl ?_; clear F a; intro a F
 replace F : Fr _ _ ((10,u6 1) :: _) := F
 refine t_endM M ?_; clear M; intro w M
 refine joined (1) (by omega) (F.keep [10,0,1,2,3,4,5,6,7,8,9] rfl) ?_
 try dsimp only [List.cons_append,List.nil_append]
 refine M.pick ?_; repeat (first | exact PkG.nil | refine PkG.cons 0 rfl rfl ?_ | refine PkG.cons 1 rfl rfl ?_ | refine PkG.cons 2 rfl rfl ?_ | refine PkG.cons 3 rfl rfl ?_)
 clear F; intro hc11 F
 try rw [hc11] at F
 replace hc11 := of_decide_eq_false hc11
 refine wp_skip ?_
 refine joined (p2) (by omega) (F.keep [10,0,1,2,3,4,5,6,7,8,9] rfl) ?_
 try dsimp only [List.cons_append,List.nil_append]
 refine M.pick ?_; repeat (first | exact PkG.nil | refine PkG.cons 0 rfl rfl ?_ | refine PkG.cons 1 rfl rfl ?_ | refine PkG.cons 2 rfl rfl ?_ | refine PkG.cons 3 rfl rfl ?_)
 clear F M; clear a; (try clear w)
 rintro k2 a w hk2 F M; try dsimp only at F M
 try simp only [List.cons_append,List.nil_append] at F M
 try dsimp only at hk2
 refine wp_region_l [.ind,.ind] ([0,1]) rfl ?_
 refine s_rn 2 F rfl rfl ?_; clear F a; intro a F
 refine t_endM M ?_; clear M; intro w M
 replace F := F.keep [0,1,2,3,4,5,6,7,8,9,10] rfl
 refine wp_region_l [.ind,.ind,.ind] ([0,1,2]) rfl ?_
 refine s_one F rfl ?_; clear F a; intro a F
 refine s_add F rfl rfl rfl rfl rfl rfl (by unfold In64; omega) ?_; clear F a; intro a F
 refine s_one F rfl ?_; clear F a; intro a F
 refine t_endM M ?_; clear M; intro w M
 refine (show Code.wp _ _ _ _ _ from ?_)
 refine wp_seq (wp_seq ?_)
 replace F := F.keep [0,1,2,3,4,5,6,7,8,9,10] rfl
 refine wp_region_l [.ind,.ind] ([0,1]) rfl ?_
 refine s_rn 2 F rfl rfl ?_; clear F a; intro a F
 refine t_endM M ?_; clear M; intro w M
 refine c_t F (by rfl) ?_
 refine wp_skip (wp_seq (wp_block (wp_seq ?_)))
 replace F := F.keep [0,1,2,3,4,5,6,7,8,9,10] rfl
 refine wp_region_t [.ind,.ind,.rd,.ind,.ind,.rd,.ind,.ind] [] (otOf [0,1,2,3,4,5,6,7]) mixed (by kernel_rfl) ?_
 refine s_one F rfl ?_; clear F a; intro a F
 refine s_ia F rfl rfl rfl rfl ar_25 rfl rfl (by omega) (by omega) ?_; clear F a; intro a F
 refine s_ld F rfl rfl rfl rfl sc_23 rfl (by exact cell_of_blk M.h3 (lit rfl)) ?_; clear F a; intro a F
 refine s_one F rfl ?_; clear F a; intro a F
 refine s_ia F rfl rfl rfl rfl ar_25 rfl rfl (by omega) (by omega) ?_; clear F a; intro a F
 refine s_ld F rfl rfl rfl rfl sc_23 rfl (by exact cell_of_blk M.h2 (lit rfl)) ?_; clear F a; intro a F
 refine s_uadd F rfl rfl rfl rfl rfl rfl ?_; clear F a; intro a F
 refine s_one F rfl ?_; clear F a; intro a F
 refine t_endM M ?_; clear M; intro w M
 refine wp_seq ?_
 replace F := F.keep [0,1,2,3,4,5,6,7,8,9,10] rfl
 refine wp_region_l [.ind] ([0]) rfl ?_
 refine s_one F rfl ?_; clear F a; intro a F
 replace F : Fr _ _ ((10,u6 0) :: _) := F
 refine t_endM M ?_; clear M; intro w M
 refine wp_seq (wp_seq (wp_region_l [.ind,.ind,.ind,.rd,.ind] ([0,1,2,3,4]) rfl ?_))
 refine s_rn 2 F rfl rfl ?_; clear F a; intro a F
 refine s_ia F rfl rfl rfl rfl ar_25 rfl rfl (by omega) (by omega) ?_; clear F a; intro a F
 refine s_ld F rfl rfl rfl rfl sc_23 rfl (by exact cell_of_blk M.h3 (lit rfl)) ?_; clear F a; intro a F
 refine s_ucmp F rfl rfl rfl rfl rfl rfl rfl ?_; clear F a; intro a F
 refine t_endM M ?_; clear M; intro w M
 refine cutX (X := (Nat)) (m0 := []) F [0,1,2,3,4,5,6,7,8,9] rfl M (fun (p3 : Nat) => (p3 = (x3 + y3) / 18446744073709551616)) (fun (p3 : Nat) => [(10,u6 p3)]) (fun (p3 : Nat) => []) ?_ ?_
 refine c_if F rfl ?_ ?_
 clear F; intro hc12 F
 try rw [hc12] at F
 replace hc12 := of_decide_eq_true hc12
 replace F := F.keep [0,1,2,3,4,5,6,7,8,9,10] rfl
 refine wp_region_l [.ind] ([0]) rfl ?_
 refine s_one F rfl ?_; clear F a; intro a F
 replace F : Fr _ _ ((10,u6 1) :: _) := F
 refine t_endM M ?_; clear M; intro w M
 refine joined (1) (by omega) (F.keep [10,0,1,2,3,4,5,6,7,8,9] rfl) ?_
 try dsimp only [List.cons_append,List.nil_append]
 refine M.pick ?_; repeat (first | exact PkG.nil | refine PkG.cons 0 rfl rfl ?_ | refine PkG.cons 1 rfl rfl ?_ | refine PkG.cons 2 rfl rfl ?_ | refine PkG.cons 3 rfl rfl ?_)
 clear F; intro hc13 F
 try rw [hc13] at F
 replace hc13 := of_decide_eq_false hc13
 refine wp_skip ?_
 refine joined (0) (by omega) (F.keep [10,0,1,2,3,4,5,6,7,8,9] rfl) ?_
 try dsimp only [List.cons_append,List.nil_append]
 refine M.pick ?_; repeat (first | exact PkG.nil | refine PkG.cons 0 rfl rfl ?_ | refine PkG.cons 1 rfl rfl ?_ | refine PkG.cons 2 rfl rfl ?_ | refine PkG.cons 3 rfl rfl ?_)
 clear F M; clear a; (try clear w)
 rintro p3 a w hp3 F M; try dsimp only at F M
 try simp only [List.cons_append,List.nil_append] at F M
 try dsimp only at hp3
 refine wp_seq (wp_region_l [.ind,.ind,.ind,.ind,.ind,.wr] ([0,1,2,3,4,5]) rfl ?_)
 refine s_rn 3 F rfl rfl ?_; clear F a; intro a F
 refine s_uadd F rfl rfl rfl rfl rfl rfl ?_; clear F a; intro a F
 refine s_ia F rfl rfl rfl rfl ar_25 rfl rfl (by omega) (by omega) ?_; clear F a; intro a F
 rw [Nat.mod_add_mod] at F
 refine s_st F M rfl rfl rfl sz_23 rfl rfl rfl (by exact Nat.le_of_ble_eq_true rfl) ?_; clear M; intro w M
 refine t_endM M ?_; clear M; intro w M
 refine wp_seq (wp_seq ?_)
 replace F := F.keep [0,1,2,3,4,5,6,7,8,9,10] rfl
 refine wp_region_l [.ind,.ind,.rd,.ind,.ind] ([0,1,2,3,4]) rfl ?_
 refine s_one F rfl ?_; clear F a; intro a F
 refine s_ia F rfl rfl rfl rfl ar_25 rfl rfl (by omega) (by omega) ?_; clear F a; intro a F
 refine s_ld F rfl rfl rfl rfl sc_23 rfl (by exact cell_of_blk M.h0 (lit rfl)) ?_; clear F a; intro a F
 refine s_one F rfl ?_; clear F a; intro a F
 refine s_ucmp F rfl rfl rfl rfl rfl rfl rfl ?_; clear F a; intro a F
 refine t_endM M ?_; clear M; intro w M
 refine cutX (X := (Nat)) (m0 := []) F [0,1,2,3,4,5,6,7,8,9] rfl M (fun (k3 : Nat) => (k3 = (x3 + y3 + k2) / 18446744073709551616)) (fun (k3 : Nat) => [(10,u6 k3)]) (fun (k3 : Nat) => []) ?_ ?_
 refine c_if F rfl ?_ ?_
 clear F; intro hc14 F
 try rw [hc14] at F
 replace hc14 := of_decide_eq_true hc14
 replace F := F.keep [0,1,2,3,4,5,6,7,8,9,10] rfl
 refine wp_region_l [.ind] ([0]) rfl ?_
 refine s_one F rfl ?_; clear F a; intro a F
 replace F : Fr _ _ ((10,u6 1) :: _) := F
 refine t_endM M ?_; clear M; intro w M
 refine joined (1) (by omega) (F.keep [10,0,1,2,3,4,5,6,7,8,9] rfl) ?_
 try dsimp only [List.cons_append,List.nil_append]
 refine M.pick ?_; repeat (first | exact PkG.nil | refine PkG.cons 0 rfl rfl ?_ | refine PkG.cons 1 rfl rfl ?_ | refine PkG.cons 2 rfl rfl ?_ | refine PkG.cons 3 rfl rfl ?_)
 clear F; intro hc15 F
 try rw [hc15] at F
 replace hc15 := of_decide_eq_false hc15
 refine wp_skip ?_
 refine joined (p3) (by omega) (F.keep [10,0,1,2,3,4,5,6,7,8,9] rfl) ?_
 try dsimp only [List.cons_append,List.nil_append]
 refine M.pick ?_; repeat (first | exact PkG.nil | refine PkG.cons 0 rfl rfl ?_ | refine PkG.cons 1 rfl rfl ?_ | refine PkG.cons 2 rfl rfl ?_ | refine PkG.cons 3 rfl rfl ?_)
 clear F M; clear a; (try clear w)
 rintro k3 a w hk3 F M; try dsimp only at F M
 try simp only [List.cons_append,List.nil_append] at F M
 try dsimp only at hk3
 refine wp_region_l [.ind,.ind] ([0,1]) rfl ?_
 refine s_rn 2 F rfl rfl ?_; clear F a; intro a F
 refine t_endM M ?_; clear M; intro w M
 replace F := F.keep [0,1,2,3,4,5,6,7,8,9,10] rfl
 refine wp_region_l [.ind,.ind,.ind] ([0,1,2]) rfl ?_
 refine s_one F rfl ?_; clear F a; intro a F
 refine s_add F rfl rfl rfl rfl rfl rfl (by unfold In64; omega) ?_; clear F a; intro a F
 refine s_one F rfl ?_; clear F a; intro a F
 refine t_endM M ?_; clear M; intro w M
 refine (show Code.wp _ _ _ _ _ from ?_)
 refine wp_seq (wp_seq ?_)
 replace F := F.keep [0,1,2,3,4,5,6,7,8,9,10] rfl
 refine wp_region_l [.ind,.ind] ([0,1]) rfl ?_
 refine s_rn 2 F rfl rfl ?_; clear F a; intro a F
 refine t_endM M ?_; clear M; intro w M
 refine c_f F (by rfl) ?_
 refine wp_exit ?_
 refine wp_seq ?_
 replace F := F.keep [0,1,2,3,4,5,6,7,8,9,10] rfl
 refine wp_region_l [.rd,.ind,.ind,.wr,.ind] ([0,1,2,3,4]) rfl ?_
 refine s_lda F rfl rfl rfl rfl ag_25 rfl rfl (cells_whole M.h0) ?_; clear F a; intro a F
 refine s_one F rfl ?_; clear F a; intro a F
 refine s_ucmp (v := 1) F rfl rfl rfl rfl rfl rfl rfl ?_; clear F a; intro a F
 refine s_stW F M.f1 rfl rfl rfl sz_25 rfl rfl rfl rfl rfl ?_; clear M; intro w M
 refine s_one F rfl ?_; clear F a; intro a F
 refine t_endM M ?_; clear M; intro w M
 refine wp_ret ?_
 refine rt2 F rfl (by exact rv_a F rfl ag_25 rfl (cells_whole M.h0)) (rv_t F rfl) ?_
 refine ⟨_,rfl,?_,M.chg⟩
 clear M F
 exact nVb_eq (add4 rfl rfl h0 h1 h2 h3 g0 g1 g2 g3 hk0 hk1 hk2 hk3)
theorem c30 (a b : Nat) (ha : a < 115792089237316195423570985008687907853269984665640564039457584007913129639936) (hb : b < 115792089237316195423570985008687907853269984665640564039457584007913129639936) (w0 : World) : Cl Tryz.prog 30 #[nV a,nV b] w0 (RetQ w0 fun r => r = .tuple #[nV (a + b),.bool (decide (115792089237316195423570985008687907853269984665640564039457584007913129639936 ≤ a + b))]) := by
 have h := c30l (a % 18446744073709551616) (a / 18446744073709551616 % 18446744073709551616) (a / 340282366920938463463374607431768211456 % 18446744073709551616) (a / 6277101735386680763835789423207666416102355444464034512896 % 18446744073709551616) (b % 18446744073709551616) (b / 18446744073709551616 % 18446744073709551616) (b / 340282366920938463463374607431768211456 % 18446744073709551616) (b / 6277101735386680763835789423207666416102355444464034512896 % 18446744073709551616) (Nat.mod_lt _ (by decide)) (Nat.mod_lt _ (by decide)) (Nat.mod_lt _ (by decide)) (Nat.mod_lt _ (by decide)) (Nat.mod_lt _ (by decide)) (Nat.mod_lt _ (by decide)) (Nat.mod_lt _ (by decide)) (Nat.mod_lt _ (by decide)) w0
 rw [← split4 ha,← split4 hb] at h
 exact h
set_option maxRecDepth 100000 in
set_option maxHeartbeats 400000 in
theorem c28l (x0 x1 x2 x3 y0 y1 y2 y3 : Nat) (h0 : x0 < 18446744073709551616) (h1 : x1 < 18446744073709551616) (h2 : x2 < 18446744073709551616) (h3 : x3 < 18446744073709551616) (g0 : y0 < 18446744073709551616) (g1 : y1 < 18446744073709551616) (g2 : y2 < 18446744073709551616) (g3 : y3 < 18446744073709551616) (w0 : World) : Cl Tryz.prog 28 #[n4 x0 x1 x2 x3,n4 y0 y1 y2 y3] w0 (RetQ w0 fun r => r = .tuple #[nV ((x0 + 18446744073709551616 * x1 + 340282366920938463463374607431768211456 * x2 + 6277101735386680763835789423207666416102355444464034512896 * x3) + 115792089237316195423570985008687907853269984665640564039457584007913129639936 - (y0 + 18446744073709551616 * y1 + 340282366920938463463374607431768211456 * y2 + 6277101735386680763835789423207666416102355444464034512896 * y3)),.bool (decide ((x0 + 18446744073709551616 * x1 + 340282366920938463463374607431768211456 * x2 + 6277101735386680763835789423207666416102355444464034512896 * x3) < (y0 + 18446744073709551616 * y1 + 340282366920938463463374607431768211456 * y2 + 6277101735386680763835789423207666416102355444464034512896 * y3)))]) := by
 have M : Sep (fun _ => False) w0 w0 _ := Sep.nil _ w0
 refine enter (vs := [_,_]) Tryz.func28 rfl rfl rfl ?_
 intro a F
 refine wp_seq (wp_region_l [.wr,.wr,.wr,.ind] ([0,1,2,3]) rfl ?_)
 refine s_bxA F M rfl rfl rfl rfl rfl ?_; clear F a M; intro b2 w M a F
 refine s_bxA F M rfl rfl rfl rfl rfl ?_; clear F a M; intro b3 w M a F
 refine s_alc F M rfl rfl rfl rfl zr_25 rfl ?_; clear F a M; intro b4 w M a F
 refine s_one F rfl ?_; clear F a; intro a F
 refine t_endM M ?_; clear M; intro w M
 refine wp_seq (wp_region_l [.wr] ([0]) rfl ?_)
 refine s_alc F M rfl rfl rfl rfl zr_25 rfl ?_; clear F a M; intro b6 w M a F
 refine t_endM M ?_; clear M; intro w M
 refine wp_seq (wp_region_l [.ind] ([0]) rfl ?_)
 refine s_one F rfl ?_; clear F a; intro a F
 replace F : Fr _ _ ((7,u6 0) :: _) := F
 refine t_endM M ?_; clear M; intro w M
 refine wp_seq (wp_seq (wp_region_l [.ind] ([0]) rfl ?_))
 refine s_one F rfl ?_; clear F a; intro a F
 refine t_endM M ?_; clear M; intro w M
 refine wp_block ?_
 refine wp_loop_rounds 5 ?_
 refine (show Code.wp _ _ _ _ _ from ?_)
 refine wp_seq (wp_seq (wp_region_l [.ind,.ind] ([0,1]) rfl ?_))
 refine s_rn 2 F rfl rfl ?_; clear F a; intro a F
 refine t_endM M ?_; clear M; intro w M
 refine c_t F (by rfl) ?_
 refine wp_skip (wp_seq (wp_block (wp_seq ?_)))
 replace F := F.keep [0,1,2,3,4,5,6,7,8] rfl
 refine wp_region_t [.ind,.ind,.rd,.ind,.ind,.rd,.ind,.ind] [] (otOf [0,1,2,3,4,5,6,7]) mixed (by kernel_rfl) ?_
 refine s_one F rfl ?_; clear F a; intro a F
 refine s_ia F rfl rfl rfl rfl ar_25 rfl rfl (by omega) (by omega) ?_; clear F a; intro a F
 refine s_ld F rfl rfl rfl rfl sc_23 rfl (by exact cell_of_blk M.h3 (lit rfl)) ?_; clear F a; intro a F
 refine s_one F rfl ?_; clear F a; intro a F
 refine s_ia F rfl rfl rfl rfl ar_25 rfl rfl (by omega) (by omega) ?_; clear F a; intro a F
 refine s_ld F rfl rfl rfl rfl sc_23 rfl (by exact cell_of_blk M.h2 (lit rfl)) ?_; clear F a; intro a F
 refine s_usub F rfl rfl rfl rfl rfl rfl (by omega) ?_; clear F a; intro a F
 refine s_one F rfl ?_; clear F a; intro a F
 refine t_endM M ?_; clear M; intro w M
 refine wp_seq ?_
 replace F := F.keep [0,1,2,3,4,5,6,7,8,9] rfl
 refine wp_region_l [.ind] ([0]) rfl ?_
 refine s_one F rfl ?_; clear F a; intro a F
 replace F : Fr _ _ ((10,u6 0) :: _) := F
 refine t_endM M ?_; clear M; intro w M
 refine wp_seq (wp_seq ?_)
 have hl0 : 0 ≤ 1 := (by omega)
 refine cutX (X := (Bool)) (m0 := []) F [0,1,2,3,4,5,6,7,8,9,10] rfl M (fun (z0 : Bool) => ((z0 = true ↔ x0 < y0 + 0))) (fun (z0 : Bool) => [(33,.bool z0)]) (fun (z0 : Bool) => []) ?_ ?_
 refine wp_region_t [.ind,.ind,.rd,.ind,.ind,.rd,.ind,.ind,.ind,.ind,.ind,.ind] [] (otOf [0,1,2,3,4,5,6,7,8,9,10,11]) mixed (by kernel_rfl) ?_
 refine s_one F rfl ?_; clear F a; intro a F
 refine s_ia F rfl rfl rfl rfl ar_25 rfl rfl (by omega) (by omega) ?_; clear F a; intro a F
 refine s_ld F rfl rfl rfl rfl sc_23 rfl (by exact cell_of_blk M.h3 (lit rfl)) ?_; clear F a; intro a F
 refine s_one F rfl ?_; clear F a; intro a F
 refine s_ia F rfl rfl rfl rfl ar_25 rfl rfl (by omega) (by omega) ?_; clear F a; intro a F
 refine s_ld F rfl rfl rfl rfl sc_23 rfl (by exact cell_of_blk M.h2 (lit rfl)) ?_; clear F a; intro a F
 refine s_ucmp F rfl rfl rfl rfl rfl rfl rfl ?_; clear F a; intro a F
 refine s_one F rfl ?_; clear F a; intro a F
 refine bsplit F 29 rfl ?_ ?_
 clear F; intro hc0 F
 try rw [hc0] at F
 replace hc0 := of_decide_eq_true hc0
 refine s_rn 4 F rfl rfl ?_; clear F a; intro a F
 refine t_endM M ?_; clear M; intro w M
 refine joined (true) ⟨fun _ => by omega,fun _ => rfl⟩ (F.keep [33,0,1,2,3,4,5,6,7,8,9,10] rfl) ?_
 try dsimp only [List.cons_append,List.nil_append]
 refine M.pick ?_; repeat (first | exact PkG.nil | refine PkG.cons 0 rfl rfl ?_ | refine PkG.cons 1 rfl rfl ?_ | refine PkG.cons 2 rfl rfl ?_ | refine PkG.cons 3 rfl rfl ?_)
 clear F; intro hc1 F
 try rw [hc1] at F
 replace hc1 := of_decide_eq_false hc1
 refine s_rn 2 F rfl rfl ?_; clear F a; intro a F
 refine s_ucmp F rfl rfl rfl rfl rfl rfl rfl ?_; clear F a; intro a F
 refine s_one F rfl ?_; clear F a; intro a F
 refine t_endM M ?_; clear M; intro w M
 refine joined (decide ((x0 + (18446744073709551616 - y0)) % 18446744073709551616 < 0)) ⟨fun h => by have h := of_decide_eq_true h; omega,fun h => decide_eq_true (by omega)⟩ (F.keep [33,0,1,2,3,4,5,6,7,8,9,10] rfl) ?_
 try dsimp only [List.cons_append,List.nil_append]
 refine M.pick ?_; repeat (first | exact PkG.nil | refine PkG.cons 0 rfl rfl ?_ | refine PkG.cons 1 rfl rfl ?_ | refine PkG.cons 2 rfl rfl ?_ | refine PkG.cons 3 rfl rfl ?_)
 clear F M; clear a; (try clear w)
 rintro z0 a w hz0 F M; try dsimp only at F M
 try simp only [List.cons_append,List.nil_append] at F M
 try dsimp only at hz0
 refine cutX (X := (Nat)) (m0 := []) F [0,1,2,3,4,5,6,7,8,9] rfl M (fun (k0 : Nat) => (k0 = if x0 < y0 + 0 then 1 else 0)) (fun (k0 : Nat) => [(10,u6 k0)]) (fun (k0 : Nat) => []) ?_ ?_
 refine c_if F rfl ?_ ?_
 clear F; intro hc2 F
 try rw [hc2] at F
 skip
 replace F := F.keep [0,1,2,3,4,5,6,7,8,9,10] rfl
 refine wp_region_l [.ind] ([0]) rfl ?_
 refine s_one F rfl ?_; clear F a; intro a F
 replace F : Fr _ _ ((10,u6 1) :: _) := F
 refine t_endM M ?_; clear M; intro w M
 refine joined (1) ((bor_of _ hz0).1 (by assumption)) (F.keep [10,0,1,2,3,4,5,6,7,8,9] rfl) ?_
 try dsimp only [List.cons_append,List.nil_append]
 refine M.pick ?_; repeat (first | exact PkG.nil | refine PkG.cons 0 rfl rfl ?_ | refine PkG.cons 1 rfl rfl ?_ | refine PkG.cons 2 rfl rfl ?_ | refine PkG.cons 3 rfl rfl ?_)
 clear F; intro hc3 F
 try rw [hc3] at F
 skip
 refine wp_skip ?_
 refine joined (0) ((bor_of _ hz0).2 (by assumption)) (F.keep [10,0,1,2,3,4,5,6,7,8,9] rfl) ?_
 try dsimp only [List.cons_append,List.nil_append]
 refine M.pick ?_; repeat (first | exact PkG.nil | refine PkG.cons 0 rfl rfl ?_ | refine PkG.cons 1 rfl rfl ?_ | refine PkG.cons 2 rfl rfl ?_ | refine PkG.cons 3 rfl rfl ?_)
 clear F M; clear a; (try clear w)
 rintro k0 a w hk0 F M; try dsimp only at F M
 try simp only [List.cons_append,List.nil_append] at F M
 try dsimp only at hk0
 refine wp_seq (wp_region_l [.ind,.ind,.ind,.ind,.ind,.wr] ([0,1,2,3,4,5]) rfl ?_)
 refine s_rn 3 F rfl rfl ?_; clear F a; intro a F
 refine s_usub F rfl rfl rfl rfl rfl rfl (by omega) ?_; clear F a; intro a F
 refine s_ia F rfl rfl rfl rfl ar_25 rfl rfl (by omega) (by omega) ?_; clear F a; intro a F
 rw [sub_sh h0 g0 hl0] at F
 refine s_st F M rfl rfl rfl sz_23 rfl rfl rfl (by exact Nat.le_of_ble_eq_true rfl) ?_; clear M; intro w M
 refine t_endM M ?_; clear M; intro w M
 replace F := F.keep [0,1,2,3,4,5,6,7,8,9,10] rfl
 refine wp_region_l [.ind,.ind] ([0,1]) rfl ?_
 refine s_rn 2 F rfl rfl ?_; clear F a; intro a F
 refine t_endM M ?_; clear M; intro w M
 replace F := F.keep [0,1,2,3,4,5,6,7,8,9,10] rfl
 refine wp_region_l [.ind,.ind,.ind] ([0,1,2]) rfl ?_
 refine s_one F rfl ?_; clear F a; intro a F
 refine s_add F rfl rfl rfl rfl rfl rfl (by unfold In64; omega) ?_; clear F a; intro a F
 refine s_one F rfl ?_; clear F a; intro a F
 refine t_endM M ?_; clear M; intro w M
 refine (show Code.wp _ _ _ _ _ from ?_)
 refine wp_seq (wp_seq ?_)
 replace F := F.keep [0,1,2,3,4,5,6,7,8,9,10] rfl
 refine wp_region_l [.ind,.ind] ([0,1]) rfl ?_
 refine s_rn 2 F rfl rfl ?_; clear F a; intro a F
 refine t_endM M ?_; clear M; intro w M
 refine c_t F (by rfl) ?_
 refine wp_skip (wp_seq (wp_block (wp_seq ?_)))
 replace F := F.keep [0,1,2,3,4,5,6,7,8,9,10] rfl
 refine wp_region_t [.ind,.ind,.rd,.ind,.ind,.rd,.ind,.ind] [] (otOf [0,1,2,3,4,5,6,7]) mixed (by kernel_rfl) ?_
 refine s_one F rfl ?_; clear F a; intro a F
 refine s_ia F rfl rfl rfl rfl ar_25 rfl rfl (by omega) (by omega) ?_; clear F a; intro a F
 refine s_ld F rfl rfl rfl rfl sc_23 rfl (by exact cell_of_blk M.h3 (lit rfl)) ?_; clear F a; intro a F
 refine s_one F rfl ?_; clear F a; intro a F
 refine s_ia F rfl rfl rfl rfl ar_25 rfl rfl (by omega) (by omega) ?_; clear F a; intro a F
 refine s_ld F rfl rfl rfl rfl sc_23 rfl (by exact cell_of_blk M.h2 (lit rfl)) ?_; clear F a; intro a F
 refine s_usub F rfl rfl rfl rfl rfl rfl (by omega) ?_; clear F a; intro a F
 refine s_one F rfl ?_; clear F a; intro a F
 refine t_endM M ?_; clear M; intro w M
 refine wp_seq ?_
 replace F := F.keep [0,1,2,3,4,5,6,7,8,9,10] rfl
 refine wp_region_l [.ind] ([0]) rfl ?_
 refine s_one F rfl ?_; clear F a; intro a F
 replace F : Fr _ _ ((10,u6 0) :: _) := F
 refine t_endM M ?_; clear M; intro w M
 refine wp_seq (wp_seq ?_)
 have hl1 : k0 ≤ 1 := (by rw [hk0]; exact bor_le _ _ _)
 refine cutX (X := (Bool)) (m0 := []) F [0,1,2,3,4,5,6,7,8,9,10] rfl M (fun (z1 : Bool) => ((z1 = true ↔ x1 < y1 + k0))) (fun (z1 : Bool) => [(33,.bool z1)]) (fun (z1 : Bool) => []) ?_ ?_
 refine wp_region_t [.ind,.ind,.rd,.ind,.ind,.rd,.ind,.ind,.ind,.ind,.ind,.ind] [] (otOf [0,1,2,3,4,5,6,7,8,9,10,11]) mixed (by kernel_rfl) ?_
 refine s_one F rfl ?_; clear F a; intro a F
 refine s_ia F rfl rfl rfl rfl ar_25 rfl rfl (by omega) (by omega) ?_; clear F a; intro a F
 refine s_ld F rfl rfl rfl rfl sc_23 rfl (by exact cell_of_blk M.h3 (lit rfl)) ?_; clear F a; intro a F
 refine s_one F rfl ?_; clear F a; intro a F
 refine s_ia F rfl rfl rfl rfl ar_25 rfl rfl (by omega) (by omega) ?_; clear F a; intro a F
 refine s_ld F rfl rfl rfl rfl sc_23 rfl (by exact cell_of_blk M.h2 (lit rfl)) ?_; clear F a; intro a F
 refine s_ucmp F rfl rfl rfl rfl rfl rfl rfl ?_; clear F a; intro a F
 refine s_one F rfl ?_; clear F a; intro a F
 refine bsplit F 29 rfl ?_ ?_
 clear F; intro hc4 F
 try rw [hc4] at F
 replace hc4 := of_decide_eq_true hc4
 refine s_rn 4 F rfl rfl ?_; clear F a; intro a F
 refine t_endM M ?_; clear M; intro w M
 refine joined (true) ⟨fun _ => by omega,fun _ => rfl⟩ (F.keep [33,0,1,2,3,4,5,6,7,8,9,10] rfl) ?_
 try dsimp only [List.cons_append,List.nil_append]
 refine M.pick ?_; repeat (first | exact PkG.nil | refine PkG.cons 0 rfl rfl ?_ | refine PkG.cons 1 rfl rfl ?_ | refine PkG.cons 2 rfl rfl ?_ | refine PkG.cons 3 rfl rfl ?_)
 clear F; intro hc5 F
 try rw [hc5] at F
 replace hc5 := of_decide_eq_false hc5
 refine s_rn 2 F rfl rfl ?_; clear F a; intro a F
 refine s_ucmp F rfl rfl rfl rfl rfl rfl rfl ?_; clear F a; intro a F
 refine s_one F rfl ?_; clear F a; intro a F
 refine t_endM M ?_; clear M; intro w M
 refine joined (decide ((x1 + (18446744073709551616 - y1)) % 18446744073709551616 < k0)) ⟨fun h => by have h := of_decide_eq_true h; omega,fun h => decide_eq_true (by omega)⟩ (F.keep [33,0,1,2,3,4,5,6,7,8,9,10] rfl) ?_
 try dsimp only [List.cons_append,List.nil_append]
 refine M.pick ?_; repeat (first | exact PkG.nil | refine PkG.cons 0 rfl rfl ?_ | refine PkG.cons 1 rfl rfl ?_ | refine PkG.cons 2 rfl rfl ?_ | refine PkG.cons 3 rfl rfl ?_)
 clear F M; clear a; (try clear w)
 rintro z1 a w hz1 F M; try dsimp only at F M
 try simp only [List.cons_append,List.nil_append] at F M
 try dsimp only at hz1
 refine cutX (X := (Nat)) (m0 := []) F [0,1,2,3,4,5,6,7,8,9] rfl M (fun (k1 : Nat) => (k1 = if x1 < y1 + k0 then 1 else 0)) (fun (k1 : Nat) => [(10,u6 k1)]) (fun (k1 : Nat) => []) ?_ ?_
 refine c_if F rfl ?_ ?_
 clear F; intro hc6 F
 try rw [hc6] at F
 skip
 replace F := F.keep [0,1,2,3,4,5,6,7,8,9,10] rfl
 refine wp_region_l [.ind] ([0]) rfl ?_
 refine s_one F rfl ?_; clear F a; intro a F
 replace F : Fr _ _ ((10,u6 1) :: _) := F
 refine t_endM M ?_; clear M; intro w M
 refine joined (1) ((bor_of _ hz1).1 (by assumption)) (F.keep [10,0,1,2,3,4,5,6,7,8,9] rfl) ?_
 try dsimp only [List.cons_append,List.nil_append]
 refine M.pick ?_; repeat (first | exact PkG.nil | refine PkG.cons 0 rfl rfl ?_ | refine PkG.cons 1 rfl rfl ?_ | refine PkG.cons 2 rfl rfl ?_ | refine PkG.cons 3 rfl rfl ?_)
 clear F; intro hc7 F
 try rw [hc7] at F
 skip
 refine wp_skip ?_
 refine joined (0) ((bor_of _ hz1).2 (by assumption)) (F.keep [10,0,1,2,3,4,5,6,7,8,9] rfl) ?_
 try dsimp only [List.cons_append,List.nil_append]
 refine M.pick ?_; repeat (first | exact PkG.nil | refine PkG.cons 0 rfl rfl ?_ | refine PkG.cons 1 rfl rfl ?_ | refine PkG.cons 2 rfl rfl ?_ | refine PkG.cons 3 rfl rfl ?_)
 clear F M; clear a; (try clear w)
 rintro k1 a w hk1 F M; try dsimp only at F M
 try simp only [List.cons_append,List.nil_append] at F M
 try dsimp only at hk1
 refine wp_seq (wp_region_l [.ind,.ind,.ind,.ind,.ind,.wr] ([0,1,2,3,4,5]) rfl ?_)
 refine s_rn 3 F rfl rfl ?_; clear F a; intro a F
 refine s_usub F rfl rfl rfl rfl rfl rfl (by omega) ?_; clear F a; intro a F
 refine s_ia F rfl rfl rfl rfl ar_25 rfl rfl (by omega) (by omega) ?_; clear F a; intro a F
 rw [sub_sh h1 g1 hl1] at F
 refine s_st F M rfl rfl rfl sz_23 rfl rfl rfl (by exact Nat.le_of_ble_eq_true rfl) ?_; clear M; intro w M
 refine t_endM M ?_; clear M; intro w M
 replace F := F.keep [0,1,2,3,4,5,6,7,8,9,10] rfl
 refine wp_region_l [.ind,.ind] ([0,1]) rfl ?_
 refine s_rn 2 F rfl rfl ?_; clear F a; intro a F
 refine t_endM M ?_; clear M; intro w M
 replace F := F.keep [0,1,2,3,4,5,6,7,8,9,10] rfl
 refine wp_region_l [.ind,.ind,.ind] ([0,1,2]) rfl ?_
 refine s_one F rfl ?_; clear F a; intro a F
 refine s_add F rfl rfl rfl rfl rfl rfl (by unfold In64; omega) ?_; clear F a; intro a F
 refine s_one F rfl ?_; clear F a; intro a F
 refine t_endM M ?_; clear M; intro w M
 refine (show Code.wp _ _ _ _ _ from ?_)
 refine wp_seq (wp_seq ?_)
 replace F := F.keep [0,1,2,3,4,5,6,7,8,9,10] rfl
 refine wp_region_l [.ind,.ind] ([0,1]) rfl ?_
 refine s_rn 2 F rfl rfl ?_; clear F a; intro a F
 refine t_endM M ?_; clear M; intro w M
 refine c_t F (by rfl) ?_
 refine wp_skip (wp_seq (wp_block (wp_seq ?_)))
 replace F := F.keep [0,1,2,3,4,5,6,7,8,9,10] rfl
 refine wp_region_t [.ind,.ind,.rd,.ind,.ind,.rd,.ind,.ind] [] (otOf [0,1,2,3,4,5,6,7]) mixed (by kernel_rfl) ?_
 refine s_one F rfl ?_; clear F a; intro a F
 refine s_ia F rfl rfl rfl rfl ar_25 rfl rfl (by omega) (by omega) ?_; clear F a; intro a F
 refine s_ld F rfl rfl rfl rfl sc_23 rfl (by exact cell_of_blk M.h3 (lit rfl)) ?_; clear F a; intro a F
 refine s_one F rfl ?_; clear F a; intro a F
 refine s_ia F rfl rfl rfl rfl ar_25 rfl rfl (by omega) (by omega) ?_; clear F a; intro a F
 refine s_ld F rfl rfl rfl rfl sc_23 rfl (by exact cell_of_blk M.h2 (lit rfl)) ?_; clear F a; intro a F
 refine s_usub F rfl rfl rfl rfl rfl rfl (by omega) ?_; clear F a; intro a F
 refine s_one F rfl ?_; clear F a; intro a F
 refine t_endM M ?_; clear M; intro w M
 refine wp_seq ?_
 replace F := F.keep [0,1,2,3,4,5,6,7,8,9,10] rfl
 refine wp_region_l [.ind] ([0]) rfl ?_
 refine s_one F rfl ?_; clear F a; intro a F
 replace F : Fr _ _ ((10,u6 0) :: _) := F
 refine t_endM M ?_; clear M; intro w M
 refine wp_seq (wp_seq ?_)
 have hl2 : k1 ≤ 1 := (by rw [hk1]; exact bor_le _ _ _)
 refine cutX (X := (Bool)) (m0 := []) F [0,1,2,3,4,5,6,7,8,9,10] rfl M (fun (z2 : Bool) => ((z2 = true ↔ x2 < y2 + k1))) (fun (z2 : Bool) => [(33,.bool z2)]) (fun (z2 : Bool) => []) ?_ ?_
 refine wp_region_t [.ind,.ind,.rd,.ind,.ind,.rd,.ind,.ind,.ind,.ind,.ind,.ind] [] (otOf [0,1,2,3,4,5,6,7,8,9,10,11]) mixed (by kernel_rfl) ?_
 refine s_one F rfl ?_; clear F a; intro a F
 refine s_ia F rfl rfl rfl rfl ar_25 rfl rfl (by omega) (by omega) ?_; clear F a; intro a F
 refine s_ld F rfl rfl rfl rfl sc_23 rfl (by exact cell_of_blk M.h3 (lit rfl)) ?_; clear F a; intro a F
 refine s_one F rfl ?_; clear F a; intro a F
 refine s_ia F rfl rfl rfl rfl ar_25 rfl rfl (by omega) (by omega) ?_; clear F a; intro a F
 refine s_ld F rfl rfl rfl rfl sc_23 rfl (by exact cell_of_blk M.h2 (lit rfl)) ?_; clear F a; intro a F
 refine s_ucmp F rfl rfl rfl rfl rfl rfl rfl ?_; clear F a; intro a F
 refine s_one F rfl ?_; clear F a; intro a F
 refine bsplit F 29 rfl ?_ ?_
 clear F; intro hc8 F
 try rw [hc8] at F
 replace hc8 := of_decide_eq_true hc8
 refine s_rn 4 F rfl rfl ?_; clear F a; intro a F
 refine t_endM M ?_; clear M; intro w M
 refine joined (true) ⟨fun _ => by omega,fun _ => rfl⟩ (F.keep [33,0,1,2,3,4,5,6,7,8,9,10] rfl) ?_
 try dsimp only [List.cons_append,List.nil_append]
 refine M.pick ?_; repeat (first | exact PkG.nil | refine PkG.cons 0 rfl rfl ?_ | refine PkG.cons 1 rfl rfl ?_ | refine PkG.cons 2 rfl rfl ?_ | refine PkG.cons 3 rfl rfl ?_)
 clear F; intro hc9 F
 try rw [hc9] at F
 replace hc9 := of_decide_eq_false hc9
 refine s_rn 2 F rfl rfl ?_; clear F a; intro a F
 refine s_ucmp F rfl rfl rfl rfl rfl rfl rfl ?_; clear F a; intro a F
 refine s_one F rfl ?_; clear F a; intro a F
 refine t_endM M ?_; clear M; intro w M
 refine joined (decide ((x2 + (18446744073709551616 - y2)) % 18446744073709551616 < k1)) ⟨fun h => by have h := of_decide_eq_true h; omega,fun h => decide_eq_true (by omega)⟩ (F.keep [33,0,1,2,3,4,5,6,7,8,9,10] rfl) ?_
 try dsimp only [List.cons_append,List.nil_append]
 refine M.pick ?_; repeat (first | exact PkG.nil | refine PkG.cons 0 rfl rfl ?_ | refine PkG.cons 1 rfl rfl ?_ | refine PkG.cons 2 rfl rfl ?_ | refine PkG.cons 3 rfl rfl ?_)
 clear F M; clear a; (try clear w)
 rintro z2 a w hz2 F M; try dsimp only at F M
 try simp only [List.cons_append,List.nil_append] at F M
 try dsimp only at hz2
 refine cutX (X := (Nat)) (m0 := []) F [0,1,2,3,4,5,6,7,8,9] rfl M (fun (k2 : Nat) => (k2 = if x2 < y2 + k1 then 1 else 0)) (fun (k2 : Nat) => [(10,u6 k2)]) (fun (k2 : Nat) => []) ?_ ?_
 refine c_if F rfl ?_ ?_
 clear F; intro hc10 F
 try rw [hc10] at F
 skip
 replace F := F.keep [0,1,2,3,4,5,6,7,8,9,10] rfl
 refine wp_region_l [.ind] ([0]) rfl ?_
 refine s_one F rfl ?_; clear F a; intro a F
 replace F : Fr _ _ ((10,u6 1) :: _) := F
 refine t_endM M ?_; clear M; intro w M
 refine joined (1) ((bor_of _ hz2).1 (by assumption)) (F.keep [10,0,1,2,3,4,5,6,7,8,9] rfl) ?_
 try dsimp only [List.cons_append,List.nil_append]
 refine M.pick ?_; repeat (first | exact PkG.nil | refine PkG.cons 0 rfl rfl ?_ | refine PkG.cons 1 rfl rfl ?_ | refine PkG.cons 2 rfl rfl ?_ | refine PkG.cons 3 rfl rfl ?_)
 clear F; intro hc11 F
 try rw [hc11] at F
 skip
 refine wp_skip ?_
 refine joined (0) ((bor_of _ hz2).2 (by assumption)) (F.keep [10,0,1,2,3,4,5,6,7,8,9] rfl) ?_
 try dsimp only [List.cons_append,List.nil_append]
 refine M.pick ?_; repeat (first | exact PkG.nil | refine PkG.cons 0 rfl rfl ?_ | refine PkG.cons 1 rfl rfl ?_ | refine PkG.cons 2 rfl rfl ?_ | refine PkG.cons 3 rfl rfl ?_)
 clear F M; clear a; (try clear w)
 rintro k2 a w hk2 F M; try dsimp only at F M
 try simp only [List.cons_append,List.nil_append] at F M
 try dsimp only at hk2
 refine wp_seq (wp_region_l [.ind,.ind,.ind,.ind,.ind,.wr] ([0,1,2,3,4,5]) rfl ?_)
 refine s_rn 3 F rfl rfl ?_; clear F a; intro a F
 refine s_usub F rfl rfl rfl rfl rfl rfl (by omega) ?_; clear F a; intro a F
 refine s_ia F rfl rfl rfl rfl ar_25 rfl rfl (by omega) (by omega) ?_; clear F a; intro a F
 rw [sub_sh h2 g2 hl2] at F
 refine s_st F M rfl rfl rfl sz_23 rfl rfl rfl (by exact Nat.le_of_ble_eq_true rfl) ?_; clear M; intro w M
 refine t_endM M ?_; clear M; intro w M
 replace F := F.keep [0,1,2,3,4,5,6,7,8,9,10] rfl
 refine wp_region_l [.ind,.ind] ([0,1]) rfl ?_
 refine s_rn 2 F rfl rfl ?_; clear F a; intro a F
 refine t_endM M ?_; clear M; intro w M
 replace F := F.keep [0,1,2,3,4,5,6,7,8,9,10] rfl
 refine wp_region_l [.ind,.ind,.ind] ([0,1,2]) rfl ?_
 refine s_one F rfl ?_; clear F a; intro a F
 refine s_add F rfl rfl rfl rfl rfl rfl (by unfold In64; omega) ?_; clear F a; intro a F
 refine s_one F rfl ?_; clear F a; intro a F
 refine t_endM M ?_; clear M; intro w M
 refine (show Code.wp _ _ _ _ _ from ?_)
 refine wp_seq (wp_seq ?_)
 replace F := F.keep [0,1,2,3,4,5,6,7,8,9,10] rfl
 refine wp_region_l [.ind,.ind] ([0,1]) rfl ?_
 refine s_rn 2 F rfl rfl ?_; clear F a; intro a F
 refine t_endM M ?_; clear M; intro w M
 refine c_t F (by rfl) ?_
 refine wp_skip (wp_seq (wp_block (wp_seq ?_)))
 replace F := F.keep [0,1,2,3,4,5,6,7,8,9,10] rfl
 refine wp_region_t [.ind,.ind,.rd,.ind,.ind,.rd,.ind,.ind] [] (otOf [0,1,2,3,4,5,6,7]) mixed (by kernel_rfl) ?_
 refine s_one F rfl ?_; clear F a; intro a F
 refine s_ia F rfl rfl rfl rfl ar_25 rfl rfl (by omega) (by omega) ?_; clear F a; intro a F
 refine s_ld F rfl rfl rfl rfl sc_23 rfl (by exact cell_of_blk M.h3 (lit rfl)) ?_; clear F a; intro a F
 refine s_one F rfl ?_; clear F a; intro a F
 refine s_ia F rfl rfl rfl rfl ar_25 rfl rfl (by omega) (by omega) ?_; clear F a; intro a F
 refine s_ld F rfl rfl rfl rfl sc_23 rfl (by exact cell_of_blk M.h2 (lit rfl)) ?_; clear F a; intro a F
 refine s_usub F rfl rfl rfl rfl rfl rfl (by omega) ?_; clear F a; intro a F
 refine s_one F rfl ?_; clear F a; intro a F
 refine t_endM M ?_; clear M; intro w M
 refine wp_seq ?_
 replace F := F.keep [0,1,2,3,4,5,6,7,8,9,10] rfl
 refine wp_region_l [.ind] ([0]) rfl ?_
 refine s_one F rfl ?_; clear F a; intro a F
 replace F : Fr _ _ ((10,u6 0) :: _) := F
 refine t_endM M ?_; clear M; intro w M
 refine wp_seq (wp_seq ?_)
 have hl3 : k2 ≤ 1 := (by rw [hk2]; exact bor_le _ _ _)
 refine cutX (X := (Bool)) (m0 := []) F [0,1,2,3,4,5,6,7,8,9,10] rfl M (fun (z3 : Bool) => ((z3 = true ↔ x3 < y3 + k2))) (fun (z3 : Bool) => [(33,.bool z3)]) (fun (z3 : Bool) => []) ?_ ?_
 refine wp_region_t [.ind,.ind,.rd,.ind,.ind,.rd,.ind,.ind,.ind,.ind,.ind,.ind] [] (otOf [0,1,2,3,4,5,6,7,8,9,10,11]) mixed (by kernel_rfl) ?_
 refine s_one F rfl ?_; clear F a; intro a F
 refine s_ia F rfl rfl rfl rfl ar_25 rfl rfl (by omega) (by omega) ?_; clear F a; intro a F
 refine s_ld F rfl rfl rfl rfl sc_23 rfl (by exact cell_of_blk M.h3 (lit rfl)) ?_; clear F a; intro a F
 refine s_one F rfl ?_; clear F a; intro a F
 refine s_ia F rfl rfl rfl rfl ar_25 rfl rfl (by omega) (by omega) ?_; clear F a; intro a F
 refine s_ld F rfl rfl rfl rfl sc_23 rfl (by exact cell_of_blk M.h2 (lit rfl)) ?_; clear F a; intro a F
 refine s_ucmp F rfl rfl rfl rfl rfl rfl rfl ?_; clear F a; intro a F
 refine s_one F rfl ?_; clear F a; intro a F
 refine bsplit F 29 rfl ?_ ?_
 clear F; intro hc12 F
 try rw [hc12] at F
 replace hc12 := of_decide_eq_true hc12
 refine s_rn 4 F rfl rfl ?_; clear F a; intro a F
 refine t_endM M ?_; clear M; intro w M
 refine joined (true) ⟨fun _ => by omega,fun _ => rfl⟩ (F.keep [33,0,1,2,3,4,5,6,7,8,9,10] rfl) ?_
 try dsimp only [List.cons_append,List.nil_append]
 refine M.pick ?_; repeat (first | exact PkG.nil | refine PkG.cons 0 rfl rfl ?_ | refine PkG.cons 1 rfl rfl ?_ | refine PkG.cons 2 rfl rfl ?_ | refine PkG.cons 3 rfl rfl ?_)
 clear F; intro hc13 F
 try rw [hc13] at F
 replace hc13 := of_decide_eq_false hc13
 refine s_rn 2 F rfl rfl ?_; clear F a; intro a F
 refine s_ucmp F rfl rfl rfl rfl rfl rfl rfl ?_; clear F a; intro a F
 refine s_one F rfl ?_; clear F a; intro a F
 refine t_endM M ?_; clear M; intro w M
 refine joined (decide ((x3 + (18446744073709551616 - y3)) % 18446744073709551616 < k2)) ⟨fun h => by have h := of_decide_eq_true h; omega,fun h => decide_eq_true (by omega)⟩ (F.keep [33,0,1,2,3,4,5,6,7,8,9,10] rfl) ?_
 try dsimp only [List.cons_append,List.nil_append]
 refine M.pick ?_; repeat (first | exact PkG.nil | refine PkG.cons 0 rfl rfl ?_ | refine PkG.cons 1 rfl rfl ?_ | refine PkG.cons 2 rfl rfl ?_ | refine PkG.cons 3 rfl rfl ?_)
 clear F M; clear a; (try clear w)
 rintro z3 a w hz3 F M; try dsimp only at F M
 try simp only [List.cons_append,List.nil_append] at F M
 try dsimp only at hz3
 refine cutX (X := (Nat)) (m0 := []) F [0,1,2,3,4,5,6,7,8,9] rfl M (fun (k3 : Nat) => (k3 = if x3 < y3 + k2 then 1 else 0)) (fun (k3 : Nat) => [(10,u6 k3)]) (fun (k3 : Nat) => []) ?_ ?_
 refine c_if F rfl ?_ ?_
 clear F; intro hc14 F
 try rw [hc14] at F
 skip
 replace F := F.keep [0,1,2,3,4,5,6,7,8,9,10] rfl
 refine wp_region_l [.ind] ([0]) rfl ?_
 refine s_one F rfl ?_; clear F a; intro a F
 replace F : Fr _ _ ((10,u6 1) :: _) := F
 refine t_endM M ?_; clear M; intro w M
 refine joined (1) ((bor_of _ hz3).1 (by assumption)) (F.keep [10,0,1,2,3,4,5,6,7,8,9] rfl) ?_
 try dsimp only [List.cons_append,List.nil_append]
 refine M.pick ?_; repeat (first | exact PkG.nil | refine PkG.cons 0 rfl rfl ?_ | refine PkG.cons 1 rfl rfl ?_ | refine PkG.cons 2 rfl rfl ?_ | refine PkG.cons 3 rfl rfl ?_)
 clear F; intro hc15 F
 try rw [hc15] at F
 skip
 refine wp_skip ?_
 refine joined (0) ((bor_of _ hz3).2 (by assumption)) (F.keep [10,0,1,2,3,4,5,6,7,8,9] rfl) ?_
 try dsimp only [List.cons_append,List.nil_append]
 refine M.pick ?_; repeat (first | exact PkG.nil | refine PkG.cons 0 rfl rfl ?_ | refine PkG.cons 1 rfl rfl ?_ | refine PkG.cons 2 rfl rfl ?_ | refine PkG.cons 3 rfl rfl ?_)
 clear F M; clear a; (try clear w)
 rintro k3 a w hk3 F M; try dsimp only at F M
 try simp only [List.cons_append,List.nil_append] at F M
 try dsimp only at hk3
 refine wp_seq (wp_region_l [.ind,.ind,.ind,.ind,.ind,.wr] ([0,1,2,3,4,5]) rfl ?_)
 refine s_rn 3 F rfl rfl ?_; clear F a; intro a F
 refine s_usub F rfl rfl rfl rfl rfl rfl (by omega) ?_; clear F a; intro a F
 refine s_ia F rfl rfl rfl rfl ar_25 rfl rfl (by omega) (by omega) ?_; clear F a; intro a F
 rw [sub_sh h3 g3 hl3] at F
 refine s_st F M rfl rfl rfl sz_23 rfl rfl rfl (by exact Nat.le_of_ble_eq_true rfl) ?_; clear M; intro w M
 refine t_endM M ?_; clear M; intro w M
 replace F := F.keep [0,1,2,3,4,5,6,7,8,9,10] rfl
 refine wp_region_l [.ind,.ind] ([0,1]) rfl ?_
 refine s_rn 2 F rfl rfl ?_; clear F a; intro a F
 refine t_endM M ?_; clear M; intro w M
 replace F := F.keep [0,1,2,3,4,5,6,7,8,9,10] rfl
 refine wp_region_l [.ind,.ind,.ind] ([0,1,2]) rfl ?_
 refine s_one F rfl ?_; clear F a; intro a F
 refine s_add F rfl rfl rfl rfl rfl rfl (by unfold In64; omega) ?_; clear F a; intro a F
 refine s_one F rfl ?_; clear F a; intro a F
 refine t_endM M ?_; clear M; intro w M
 refine (show Code.wp _ _ _ _ _ from ?_)
 refine wp_seq (wp_seq ?_)
 replace F := F.keep [0,1,2,3,4,5,6,7,8,9,10] rfl
 refine wp_region_l [.ind,.ind] ([0,1]) rfl ?_
 refine s_rn 2 F rfl rfl ?_; clear F a; intro a F
 refine t_endM M ?_; clear M; intro w M
 refine c_f F (by rfl) ?_
 refine wp_exit ?_
 refine wp_seq ?_
 replace F := F.keep [0,1,2,3,4,5,6,7,8,9,10] rfl
 refine wp_region_l [.rd,.ind,.ind,.wr,.ind] ([0,1,2,3,4]) rfl ?_
 refine s_lda F rfl rfl rfl rfl ag_25 rfl rfl (cells_whole M.h0) ?_; clear F a; intro a F
 refine s_one F rfl ?_; clear F a; intro a F
 refine s_ucmp (v := 1) F rfl rfl rfl rfl rfl rfl rfl ?_; clear F a; intro a F
 refine s_stW F M.f1 rfl rfl rfl sz_25 rfl rfl rfl rfl rfl ?_; clear M; intro w M
 refine s_one F rfl ?_; clear F a; intro a F
 refine t_endM M ?_; clear M; intro w M
 refine wp_ret ?_
 refine rt2 F rfl (by exact rv_a F rfl ag_25 rfl (cells_whole M.h0)) (rv_t F rfl) ?_
 refine ⟨_,rfl,?_,M.chg⟩
 clear M F
 exact nVb_eq (sub4 rfl rfl h0 h1 h2 h3 g0 g1 g2 g3 hk0 hk1 hk2 hk3)
theorem c28 (a b : Nat) (ha : a < 115792089237316195423570985008687907853269984665640564039457584007913129639936) (hb : b < 115792089237316195423570985008687907853269984665640564039457584007913129639936) (w0 : World) : Cl Tryz.prog 28 #[nV a,nV b] w0 (RetQ w0 fun r => r = .tuple #[nV (a + 115792089237316195423570985008687907853269984665640564039457584007913129639936 - b),.bool (decide (a < b))]) := by
 have h := c28l (a % 18446744073709551616) (a / 18446744073709551616 % 18446744073709551616) (a / 340282366920938463463374607431768211456 % 18446744073709551616) (a / 6277101735386680763835789423207666416102355444464034512896 % 18446744073709551616) (b % 18446744073709551616) (b / 18446744073709551616 % 18446744073709551616) (b / 340282366920938463463374607431768211456 % 18446744073709551616) (b / 6277101735386680763835789423207666416102355444464034512896 % 18446744073709551616) (Nat.mod_lt _ (by decide)) (Nat.mod_lt _ (by decide)) (Nat.mod_lt _ (by decide)) (Nat.mod_lt _ (by decide)) (Nat.mod_lt _ (by decide)) (Nat.mod_lt _ (by decide)) (Nat.mod_lt _ (by decide)) (Nat.mod_lt _ (by decide)) w0
 rw [← split4 ha,← split4 hb] at h
 exact h
end Go.Proofs.YteajeenmojbjhaaGreatDoor
