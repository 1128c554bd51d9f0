/- N18 of the seat. -/
import Derived.Test.YteajeenmojbjhaaGreatDoorP6
namespace Go.Proofs.YteajeenmojbjhaaGreatDoor
open Go Fw
theorem cb_26_N18 : callB Tryz.prog 26 = true := by kernel_rfl
def encI (i : Int) : List Value := [.int .i64 i]
structure PlOk (l : List Int) : Prop where
 nd : l.Pairwise (· ≠ ·)
 rg : ∀ x ∈ l,1 ≤ x ∧ x ≤ 2147483648
theorem take_snocI {l : List Int} {i : Nat} {e : Int} (h : l[i]? = some e) : l.take (i + 1) = l.take i ++ [e] := by rw [List.take_add_one,h]; rfl
theorem take_ne {l : List Int} {i j : Nat} {e x : Int} (h : l[i]? = some e) (hj : l[j]? = some x) (ha : ∀ y ∈ l.take i,l[j]? ≠ some y) (he : ¬ e = x) : ∀ y ∈ l.take (i + 1),l[j]? ≠ some y := by
 rw [take_snocI h]
 intro y hy
 rcases List.mem_append.1 hy with h | h
 · exact ha y h
 · rw [List.mem_singleton.1 h,hj]; exact fun e => he (Option.some.inj e).symm
theorem PlOk.snoc {l : List Int} {i : Nat} {e : Int} (ho : PlOk (l.take i)) (h : l[i]? = some e) (ha : ∀ y ∈ l.take i,l[i]? ≠ some y) (h1 : 1 ≤ e) (h2 : e ≤ 2147483648) : PlOk (l.take (i + 1)) := by
 rw [take_snocI h]
 refine ⟨List.pairwise_append.2 ⟨ho.nd,List.pairwise_singleton _ _,fun x hx y hy e' => ?_⟩,fun x hx => ?_⟩
 · rw [List.mem_singleton.1 hy] at e'
   exact ha x hx (by rw [h,e'])
 · rcases List.mem_append.1 hx with h | h
   · exact ho.rg x h
   · rw [List.mem_singleton.1 h]; exact ⟨h1,h2⟩
set_option maxRecDepth 100000 in
set_option maxHeartbeats 2000000 in
theorem c7 (l : List Int) (hl : l.length ≤ 100000) (v : Value) (w0 : World) (hr : RdSl w0.heap v l.length 1 (l.flatMap encI)) : Cl Tryz.prog 7 #[v] w0 (RetQ w0 fun r => ∃ x b,r = .tuple #[x,.int .i64 b] ∧ (b = 0 → PlOk l)) := by
 have M : Sep (fun _ => False) w0 w0 _ := Sep.nil _ w0
 have hro := ro_of hr
 obtain ⟨A,cc,rfl,hcc⟩ := hr.form
 refine enter (vs := [_]) Tryz.func7 rfl rfl rfl ?_
 intro a F
 refine wp_seq (wp_region_l [.ind,.ind] ([0,1]) rfl ?_)
 refine s_rn 2 F rfl rfl ?_; clear F a; intro a F
 refine t_endM M ?_; clear M; intro w M
 refine wp_seq (wp_seq (wp_region_l [.ind,.ind,.ind] ([0,1,2]) rfl ?_))
 refine s_one F rfl ?_; clear F a; intro a F
 refine s_len F rfl rfl rfl rfl sl_26 rfl ?_; clear F a; intro a F
 refine s_one F rfl ?_; clear F a; intro a F
 refine t_endM M ?_; clear M; intro w M
 refine c_if F rfl ?_ ?_
 clear F; intro hc0 F
 try rw [hc0] at F
 replace hc0 := of_decide_eq_true hc0
 refine wp_seq ?_
 replace F := F.keep [0,2,3] rfl
 refine wp_region_l [.ind,.ind] ([0,1]) rfl ?_
 refine s_rn 2 F rfl rfl ?_; clear F a; intro a F
 refine t_endM M ?_; clear M; intro w M
 refine wp_ret ?_
 refine ret2 F rfl rfl rfl ?_
 exact ⟨_,rfl,⟨_,1,rfl,fun h => absurd h (by decide)⟩,M.chg⟩
 clear F; intro hc1 F
 try rw [hc1] at F
 replace hc1 := of_decide_eq_false hc1
 refine wp_skip (wp_seq (wp_seq ?_))
 replace F := F.keep [0,2,3] rfl
 refine wp_region_l [.ind] ([0]) rfl ?_
 refine s_one F rfl ?_; clear F a; intro a F
 refine t_endM M ?_; clear M; intro w M
 refine wp_block ?_
 refine loopX (X := (Int)) F [0] rfl (fun (j : Int) => (0 ≤ j) ∧ (j ≤ l.length) ∧ (PlOk (l.take j.toNat))) (fun (j : Int) => [(4,.int .i64 j)]) (fun (j : Int) => []) (fun (j : Int) => l.length - j.toNat) (0) M ⟨(by omega),(by omega),⟨.nil,fun x h => by cases h⟩⟩ (F.keep [4,0] rfl) ?_
 clear F M; clear a; (try clear w)
 rintro j a w ⟨j0,j1,hj⟩ F M; try dsimp only at F M
 try simp only [List.cons_append,List.nil_append] at F M
 try dsimp only at j0 j1 hj
 refine wp_seq (wp_seq (wp_region_l [.ind,.ind,.ind,.ind] ([0,1,2,3]) rfl ?_))
 refine s_rn 2 F rfl rfl ?_; clear F a; intro a F
 refine s_len F rfl rfl rfl rfl sl_26 rfl ?_; clear F a; intro a F
 refine s_one F rfl ?_; clear F a; intro a F
 refine t_endM M ?_; clear M; intro w M
 refine c_if F rfl ?_ ?_
 clear F; intro hc2 F
 try rw [hc2] at F
 replace hc2 := of_decide_eq_true hc2
 refine wp_skip (wp_seq (wp_block (wp_seq (wp_seq ?_))))
 replace F := F.keep [0,4] rfl
 refine wp_region_l [.ind,.ind,.ind,.rd,.ind,.ind,.ind,.ind,.ind,.rd,.ind,.ind] ([0,1,2,3,4,5,6,7,8,9,10,11]) rfl ?_
 refine s_rn 2 F rfl rfl ?_; clear F a; intro a F
 refine s_ix F rfl rfl rfl rfl sl_26 rfl rfl (by exact M.chg.ro hro) (by omega) (by omega) ?_; clear F a; intro e22 he22 a F
 refine s_ld F rfl rfl rfl rfl sc_3 rfl (by exact rdX0 (M.chg.ro hro) (by intro e; rfl) he22 rfl) ?_; clear F a; intro a F
 refine s_rn 2 F rfl rfl ?_; clear F a; intro a F
 refine bsplit F 25 rfl ?_ ?_
 clear F; intro hc3 F
 try rw [hc3] at F
 replace hc3 := of_decide_eq_true hc3
 refine s_rn 6 F rfl rfl ?_; clear F a; intro a F
 refine t_endM M ?_; clear M; intro w M
 refine c_t F rfl ?_
 refine wp_seq ?_
 replace F := F.keep [0,4] rfl
 refine wp_region_l [.ind,.ind] ([0,1]) rfl ?_
 refine s_rn 2 F rfl rfl ?_; clear F a; intro a F
 refine t_endM M ?_; clear M; intro w M
 refine wp_ret ?_
 refine ret2 F rfl rfl rfl ?_
 exact ⟨_,rfl,⟨_,1,rfl,fun h => absurd h (by decide)⟩,M.chg⟩
 clear F; intro hc4 F
 try rw [hc4] at F
 replace hc4 := of_decide_eq_false hc4
 refine s_rn 2 F rfl rfl ?_; clear F a; intro a F
 refine s_ix F rfl rfl rfl rfl sl_26 rfl rfl (by exact M.chg.ro hro) (by omega) (by omega) ?_; clear F a; intro e28 he28 a F
 try (obtain rfl := Option.some.inj (he22.symm.trans he28))
 refine s_ld F rfl rfl rfl rfl sc_3 rfl (by exact rdX0 (M.chg.ro hro) (by intro e; rfl) he28 rfl) ?_; clear F a; intro a F
 refine s_rn 2 F rfl rfl ?_; clear F a; intro a F
 refine t_endM M ?_; clear M; intro w M
 refine c_if F rfl ?_ ?_
 clear F; intro hc5 F
 try rw [hc5] at F
 replace hc5 := of_decide_eq_true hc5
 refine wp_seq ?_
 replace F := F.keep [0,4] rfl
 refine wp_region_l [.ind,.ind] ([0,1]) rfl ?_
 refine s_rn 2 F rfl rfl ?_; clear F a; intro a F
 refine t_endM M ?_; clear M; intro w M
 refine wp_ret ?_
 refine ret2 F rfl rfl rfl ?_
 exact ⟨_,rfl,⟨_,1,rfl,fun h => absurd h (by decide)⟩,M.chg⟩
 clear F; intro hc6 F
 try rw [hc6] at F
 replace hc6 := of_decide_eq_false hc6
 refine wp_skip (wp_seq ?_)
 replace F := F.keep [0,4] rfl
 refine wp_region_l [.ind] ([0]) rfl ?_
 refine s_one F rfl ?_; clear F a; intro a F
 refine t_endM M ?_; clear M; intro w M
 refine wp_block ?_
 refine loopX (X := (Int)) F [0,4] rfl (fun (q : Int) => (0 ≤ q) ∧ (q ≤ j) ∧ (∀ y ∈ l.take q.toNat,l[j.toNat]? ≠ some y)) (fun (q : Int) => [(5,.int .i64 q)]) (fun (q : Int) => []) (fun (q : Int) => j.toNat - q.toNat) (0) M ⟨(by omega),(by assumption),(fun x h => by cases h)⟩ (F.keep [5,0,4] rfl) ?_
 clear F M; clear a; (try clear w)
 rintro q a w ⟨q0,q1,hq⟩ F M; try dsimp only at F M
 try simp only [List.cons_append,List.nil_append] at F M
 try dsimp only at q0 q1 hq
 refine wp_seq (wp_seq (wp_region_l [.ind,.ind,.ind] ([0,1,2]) rfl ?_))
 refine s_rn 3 F rfl rfl ?_; clear F a; intro a F
 refine t_endM M ?_; clear M; intro w M
 refine c_if F rfl ?_ ?_
 clear F; intro hc7 F
 try rw [hc7] at F
 replace hc7 := of_decide_eq_true hc7
 refine wp_skip (wp_seq (wp_block (wp_seq ?_)))
 replace F := F.keep [0,4,5] rfl
 refine wp_region_t [.ind,.ind,.ind,.rd,.ind,.ind,.ind,.rd,.ind] [] (otOf [0,1,2,3,4,5,6,7,8]) mixed (by kernel_rfl) ?_
 refine s_rn 2 F rfl rfl ?_; clear F a; intro a F
 refine s_ix F rfl rfl rfl rfl sl_26 rfl rfl (by exact M.chg.ro hro) (by omega) (by omega) ?_; clear F a; intro e39 he39 a F
 try (obtain rfl := Option.some.inj (he22.symm.trans he39))
 try (obtain rfl := Option.some.inj (he28.symm.trans he39))
 refine s_ld F rfl rfl rfl rfl sc_3 rfl (by exact rdX0 (M.chg.ro hro) (by intro e; rfl) he39 rfl) ?_; clear F a; intro a F
 refine s_rn 2 F rfl rfl ?_; clear F a; intro a F
 refine s_ix F rfl rfl rfl rfl sl_26 rfl rfl (by exact M.chg.ro hro) (by omega) (by omega) ?_; clear F a; intro e43 he43 a F
 try (obtain rfl := Option.some.inj (he22.symm.trans he43))
 try (obtain rfl := Option.some.inj (he28.symm.trans he43))
 try (obtain rfl := Option.some.inj (he39.symm.trans he43))
 refine s_ld F rfl rfl rfl rfl sc_3 rfl (by exact rdX0 (M.chg.ro hro) (by intro e; rfl) he43 rfl) ?_; clear F a; intro a F
 refine s_one F rfl ?_; clear F a; intro a F
 refine t_endM M ?_; clear M; intro w M
 refine c_if F rfl ?_ ?_
 clear F; intro hc8 F
 try rw [hc8] at F
 replace hc8 := of_decide_eq_true hc8
 refine wp_seq ?_
 replace F := F.keep [0,4,5] rfl
 refine wp_region_l [.ind,.ind] ([0,1]) rfl ?_
 refine s_rn 2 F rfl rfl ?_; clear F a; intro a F
 refine t_endM M ?_; clear M; intro w M
 refine wp_ret ?_
 refine ret2 F rfl rfl rfl ?_
 exact ⟨_,rfl,⟨_,1,rfl,fun h => absurd h (by decide)⟩,M.chg⟩
 clear F; intro hc9 F
 try rw [hc9] at F
 replace hc9 := of_decide_eq_false hc9
 refine wp_skip ?_
 replace F := F.keep [0,4,5] rfl
 refine wp_region_l [.ind,.ind,.ind] ([0,1,2]) rfl ?_
 refine s_one F rfl ?_; clear F a; intro a F
 refine s_add F rfl rfl rfl rfl rfl rfl (by unfold In64; omega) ?_; clear F a; intro a F
 refine s_one F rfl ?_; clear F a; intro a F
 refine t_endM M ?_; clear M; intro w M
 refine again (q + 1) (by show _ < _; (try dsimp only); omega) ⟨(by omega),(by assumption),(by rw [show (q + 1).toNat = q.toNat + 1 by omega]; exact take_ne he39 he43 hq (by assumption))⟩ (F.keep [5,0,4] rfl) ?_
 try dsimp only [List.cons_append,List.nil_append]
 refine M.pick ?_; repeat (exact PkG.nil)
 clear F; intro hc10 F
 try rw [hc10] at F
 replace hc10 := of_decide_eq_false hc10
 refine wp_exit ?_
 replace F := F.keep [0,4,5] rfl
 refine wp_region_l [.ind,.ind,.ind] ([0,1,2]) rfl ?_
 refine s_one F rfl ?_; clear F a; intro a F
 refine s_add F rfl rfl rfl rfl rfl rfl (by unfold In64; omega) ?_; clear F a; intro a F
 refine s_one F rfl ?_; clear F a; intro a F
 refine t_endM M ?_; clear M; intro w M
 refine again (j + 1) (by show _ < _; (try dsimp only); omega) ⟨(by omega),(by assumption),(by have e := Option.some.inj (he22.symm.trans he28); rw [show (j + 1).toNat = j.toNat + 1 by omega]; exact hj.snoc he22 (by rw [show q.toNat = j.toNat by omega] at hq; exact hq) (by omega) (by omega))⟩ (F.keep [4,0] rfl) ?_
 try dsimp only [List.cons_append,List.nil_append]
 refine M.pick ?_; repeat (exact PkG.nil)
 clear F; intro hc11 F
 try rw [hc11] at F
 replace hc11 := of_decide_eq_false hc11
 refine wp_exit ?_
 refine wp_seq ?_
 have hok : PlOk l := by
   obtain rfl : j = (l.length : Int) := by omega
   rw [Int.toNat_natCast,List.take_length] at hj; exact hj
 replace F := F.keep [0,4] rfl
 refine wp_region_l [.ind] ([0]) rfl ?_
 refine s_one F rfl ?_; clear F a; intro a F
 refine t_endM M ?_; clear M; intro w M
 refine wp_seq (wp_seq (wp_region_l [.ind] ([0]) rfl ?_))
 refine s_one F rfl ?_; clear F a; intro a F
 refine t_endM M ?_; clear M; intro w M
 refine wp_block ?_
 replace M := M.nilT encX 25 4
 have M1 : Sep _ _ _ (slR _ _ 25 _ _ :: _) := M; replace M := M1; clear M1
 refine loopX (X := (Int) × (Option Addr) × (Nat) × (List Nat)) F [0,4] rfl (fun ((j,A,d,ws) : (Int) × (Option Addr) × (Nat) × (List Nat)) => (0 ≤ j) ∧ (j ≤ l.length) ∧ (ws.length = j.toNat)) (fun ((j,A,d,ws) : (Int) × (Option Addr) × (Nat) × (List Nat)) => [(6,.slice A ws.length d),(7,.int .i64 j)]) (fun ((j,A,d,ws) : (Int) × (Option Addr) × (Nat) × (List Nat)) => [numR (.slice A ws.length d) ws]) (fun ((j,A,d,ws) : (Int) × (Option Addr) × (Nat) × (List Nat)) => l.length - j.toNat) ((0),(none),(0),([])) M ⟨(by omega),(by omega),(by trivial)⟩ (F.keep [6,7,0,4] rfl) ?_
 clear F M; clear a; (try clear w)
 rintro ⟨j,A,d,ws⟩ a w ⟨j0,j1,hn⟩ F M; try dsimp only at F M
 try simp only [List.cons_append,List.nil_append] at F M
 try dsimp only at j0 j1 hn
 refine wp_seq (wp_seq (wp_region_l [.ind,.ind,.ind,.ind] ([0,1,2,3]) rfl ?_))
 refine s_rn 2 F rfl rfl ?_; clear F a; intro a F
 refine s_len F rfl rfl rfl rfl sl_26 rfl ?_; clear F a; intro a F
 refine s_one F rfl ?_; clear F a; intro a F
 refine t_endM M ?_; clear M; intro w M
 refine c_if F rfl ?_ ?_
 clear F; intro hc12 F
 try rw [hc12] at F
 replace hc12 := of_decide_eq_true hc12
 refine wp_skip (wp_seq (wp_block (wp_seq ?_)))
 replace F := F.keep [0,4,6,7] rfl
 refine wp_region_l [.wr,.wr,.wr,.wr,.wr,.wr] ([0,1,2,3,4,5]) rfl ?_
 refine s_cq F M rfl rfl rfl rfl rfl (rfl : _ = some [_]) cb_25 (fun nd_ => c25 1 (by decide) _) ?_; clear F a M; rintro v w rfl M a F
 refine s_cq F M rfl rfl rfl rfl rfl (rfl : _ = some [_]) cb_25 (fun nd_ => c25 1 (by decide) _) ?_; clear F a M; rintro v w rfl M a F
 refine s_alc F M rfl rfl rfl rfl zr_25 rfl ?_; clear F a M; intro b8 w M a F
 refine s_alc F M rfl rfl rfl rfl zr_25 rfl ?_; clear F a M; intro b9 w M a F
 refine s_stW F M.f1 rfl rfl rfl sz_25 rfl rfl rfl rfl rfl ?_; clear M; intro w M
 refine s_stW F M.f1 rfl rfl rfl sz_25 rfl rfl rfl rfl rfl ?_; clear M; intro w M
 refine t_endM M ?_; clear M; intro w M
 refine wp_seq (wp_seq ?_)
 replace F := F.keep [0,4,6,7,8,9] rfl
 refine wp_region_l [.ind] ([0]) rfl ?_
 refine s_one F rfl ?_; clear F a; intro a F
 refine t_endM M ?_; clear M; intro w M
 refine wp_block ?_
 have M1 : Sep _ _ _ (blk b8 _ :: _) := M.f1; replace M := M1; clear M1
 replace M := Fw.Sep.blkC M (show _ = (#[u6 (1 % 18446744073709551616),u6 (1 / 18446744073709551616 % 18446744073709551616),u6 (1 / 340282366920938463463374607431768211456 % 18446744073709551616),u6 (1 / 6277101735386680763835789423207666416102355444464034512896 % 18446744073709551616)] : Array Value) from rfl)
 have M1 : Sep _ _ _ (blk b9 _ :: _) := M.f1; replace M := M1; clear M1
 replace M := Fw.Sep.blkC M (show _ = (#[u6 (1 % 18446744073709551616),u6 (1 / 18446744073709551616 % 18446744073709551616),u6 (1 / 340282366920938463463374607431768211456 % 18446744073709551616),u6 (1 / 6277101735386680763835789423207666416102355444464034512896 % 18446744073709551616)] : Array Value) from rfl)
 have M1 : Sep _ _ _ (blk b9 _ :: _) := M; replace M := M1; clear M1
 have M1 : Sep _ _ _ (blk b8 _ :: _) := M.f1; replace M := M1; clear M1
 refine loopX (X := (Int) × (Nat) × (Nat)) F [0,4,6,7,8,9] rfl (fun ((q,y,z) : (Int) × (Nat) × (Nat)) => (0 ≤ q) ∧ (q ≤ l.length) ∧ (y < 115792089237316195423570985008687907853269984665640564039457584007913129639936) ∧ (z < 115792089237316195423570985008687907853269984665640564039457584007913129639936)) (fun ((q,y,z) : (Int) × (Nat) × (Nat)) => [(10,.int .i64 q)]) (fun ((q,y,z) : (Int) × (Nat) × (Nat)) => [blk b8 (.cells (#[u6 (y % 18446744073709551616),u6 (y / 18446744073709551616 % 18446744073709551616),u6 (y / 340282366920938463463374607431768211456 % 18446744073709551616),u6 (y / 6277101735386680763835789423207666416102355444464034512896 % 18446744073709551616)]) 25 (0,0)),blk b9 (.cells (#[u6 (z % 18446744073709551616),u6 (z / 18446744073709551616 % 18446744073709551616),u6 (z / 340282366920938463463374607431768211456 % 18446744073709551616),u6 (z / 6277101735386680763835789423207666416102355444464034512896 % 18446744073709551616)]) 25 (0,0))]) (fun ((q,y,z) : (Int) × (Nat) × (Nat)) => l.length - q.toNat) ((0),(1),(1)) M ⟨(by omega),(by omega),(by omega),(by omega)⟩ (F.keep [10,0,4,6,7,8,9] rfl) ?_
 clear F M; clear a; (try clear w)
 rintro ⟨q,y,z⟩ a w ⟨q0,q1,hy,hz⟩ F M; try dsimp only at F M
 try simp only [List.cons_append,List.nil_append] at F M
 try dsimp only at q0 q1 hy hz
 refine wp_seq (wp_seq (wp_region_l [.ind,.ind,.ind,.ind] ([0,1,2,3]) rfl ?_))
 refine s_rn 2 F rfl rfl ?_; clear F a; intro a F
 refine s_len F rfl rfl rfl rfl sl_26 rfl ?_; clear F a; intro a F
 refine s_one F rfl ?_; clear F a; intro a F
 refine t_endM M ?_; clear M; intro w M
 refine c_if F rfl ?_ ?_
 clear F; intro hc13 F
 try rw [hc13] at F
 replace hc13 := of_decide_eq_true hc13
 refine wp_skip (wp_seq (wp_block (wp_seq ?_)))
 replace F := F.keep [0,4,6,7,8,9,10] rfl
 refine wp_region_l [.ind,.ind,.ind] ([0,1,2]) rfl ?_
 refine s_rn 3 F rfl rfl ?_; clear F a; intro a F
 refine t_endM M ?_; clear M; intro w M
 have M1 : Sep _ _ _ (blk b9 _ :: _) := M.f1; replace M := M1; clear M1
 have M1 : Sep _ _ _ (blk b8 _ :: _) := M.f1; replace M := M1; clear M1
 refine cutX (X := (Nat) × (Nat)) (m0 := [_,_]) F [0,4,6,7,8,9,10] rfl M (fun ((y2,z2) : (Nat) × (Nat)) => (y2 < 115792089237316195423570985008687907853269984665640564039457584007913129639936) ∧ (z2 < 115792089237316195423570985008687907853269984665640564039457584007913129639936)) (fun ((y2,z2) : (Nat) × (Nat)) => []) (fun ((y2,z2) : (Nat) × (Nat)) => [blk b8 (.cells (#[u6 (y2 % 18446744073709551616),u6 (y2 / 18446744073709551616 % 18446744073709551616),u6 (y2 / 340282366920938463463374607431768211456 % 18446744073709551616),u6 (y2 / 6277101735386680763835789423207666416102355444464034512896 % 18446744073709551616)]) 25 (0,0)),blk b9 (.cells (#[u6 (z2 % 18446744073709551616),u6 (z2 / 18446744073709551616 % 18446744073709551616),u6 (z2 / 340282366920938463463374607431768211456 % 18446744073709551616),u6 (z2 / 6277101735386680763835789423207666416102355444464034512896 % 18446744073709551616)]) 25 (0,0))]) ?_ ?_
 refine c_if F rfl ?_ ?_
 clear F; intro hc14 F
 try rw [hc14] at F
 replace hc14 := nd1 hc14
 refine wp_seq ?_
 replace F := F.keep [0,4,6,7,8,9,10] rfl
 refine wp_region_t [.rd,.ind,.ind,.ind,.rd,.wr,.wr,.wr] [(0,5)] (otOf [0,1,2,3,4,5,6,7]) mixed (by kernel_rfl) ?_
 refine s_ldaL F rfl rfl rfl rfl ag_25 rfl rfl (cells_whole M.h0) ?_; clear F a; intro a F
 refine s_rn 2 F rfl rfl ?_; clear F a; intro a F
 refine s_ix F rfl rfl rfl rfl sl_26 rfl rfl (by exact M.chg.ro hro) (by omega) (by omega) ?_; clear F a; intro e66 he66 a F
 refine s_ldL F rfl rfl rfl rfl sc_3 rfl (by exact rdX0 (M.chg.ro hro) (by intro e; rfl) he66 rfl) ?_; clear F a; intro a F
 refine s_cqL F M rfl rfl rfl rfl rfl (rfl : _ = some [_]) cb_26_N18 (fun nd_ => c26 e66 (by have := hok.rg e66 (List.mem_of_getElem? he66); omega) _) (fun _ w _ M => (by (refine pend_skip rfl ?_); (refine pend_take (by exact cells_whole M.h0) ?_); exact pend_none)) ?_; clear F a M; rintro v w rfl M a F
 refine s_cqL F M rfl rfl rfl rfl rfl (rfl : _ = some [_,_]) cb_11 (fun nd_ => c11 y e66.toNat hy (by have := hok.rg e66 (List.mem_of_getElem? he66); omega) _) (fun _ w _ M => (by (refine pend_skip rfl ?_); (refine pend_skip rfl ?_); exact pend_none)) ?_; clear F a M; rintro v w rfl M a F
 refine s_stWL F M rfl rfl rfl sz_25 rfl rfl rfl rfl rfl (fun w M => (by (refine pend_skip rfl ?_); (refine pend_skip rfl ?_); exact pend_none)) ?_; clear M; intro w M
 refine t_endM M ?_; clear M; intro w M
 replace F := F.keep [0,4,6,7,8,9,10] rfl
 refine wp_region_t [.rd,.ind,.ind,.ind,.rd,.wr,.ind,.ind,.ind,.rd,.wr,.wr,.wr,.wr] [(0,5),(0,10),(0,11),(9,5)] (otOf [0,1,2,3,4,6,7,8,9,5,10,11,12,13]) mixed (by kernel_rfl) ?_
 refine s_ldaL F rfl rfl rfl rfl ag_25 rfl rfl (cells_whole M.h1) ?_; clear F a; intro a F
 refine s_rn 2 F rfl rfl ?_; clear F a; intro a F
 refine s_ix F rfl rfl rfl rfl sl_26 rfl rfl (by exact M.chg.ro hro) (by omega) (by omega) ?_; clear F a; intro e73 he73 a F
 try (obtain rfl := Option.some.inj (he66.symm.trans he73))
 refine s_ldL F rfl rfl rfl rfl sc_3 rfl (by exact rdX0 (M.chg.ro hro) (by intro e; rfl) he73 rfl) ?_; clear F a; intro a F
 refine s_rn 2 F rfl rfl ?_; clear F a; intro a F
 refine s_ix F rfl rfl rfl rfl sl_26 rfl rfl (by exact M.chg.ro hro) (by omega) (by omega) ?_; clear F a; intro e78 he78 a F
 try (obtain rfl := Option.some.inj (he66.symm.trans he78))
 try (obtain rfl := Option.some.inj (he73.symm.trans he78))
 refine s_ldL F rfl rfl rfl rfl sc_3 rfl (by exact rdX0 (M.chg.ro hro) (by intro e; rfl) he78 rfl) ?_; clear F a; intro a F
 refine s_cqL F M rfl rfl rfl rfl rfl (rfl : _ = some [_]) cb_26_N18 (fun nd_ => c26 e66 (by have := hok.rg e66 (List.mem_of_getElem? he66); omega) _) (fun _ w _ M => (by (refine pend_take (by exact rdX0 (M.chg.ro hro) (by intro e; rfl) he78 rfl) ?_); (refine pend_skip rfl ?_); (refine pend_take (by exact cells_whole M.h1) ?_); exact pend_none)) ?_; clear F a M; rintro v w rfl M a F
 refine s_cqL F M rfl rfl rfl rfl rfl (rfl : _ = some [_]) cb_26_N18 (fun nd_ => c26 e78 (by have := hok.rg e78 (List.mem_of_getElem? he78); omega) _) (fun _ w _ M => (by (refine pend_skip rfl ?_); (refine pend_skip rfl ?_); (refine pend_take (by exact cells_whole M.h1) ?_); exact pend_none)) ?_; clear F a M; rintro v w rfl M a F
 refine s_cqL F M rfl rfl rfl rfl rfl (rfl : _ = some [_,_]) cb_8 (fun nd_ => c8 e66.toNat e78.toNat (by have := hok.rg e66 (List.mem_of_getElem? he66); omega) (by have := hok.rg e78 (List.mem_of_getElem? he78); omega) _) (fun _ w _ M => (by (refine pend_skip rfl ?_); (refine pend_skip rfl ?_); (refine pend_take (by exact cells_whole M.h1) ?_); exact pend_none)) ?_; clear F a M; rintro v w rfl M a F
 refine s_cqL F M rfl rfl rfl rfl rfl (rfl : _ = some [_,_]) cb_11 (fun nd_ => c11 z ((e66.toNat + (115792089210356248762697446949407573529996955224135760342422259061068512044369 - e78.toNat % 115792089210356248762697446949407573529996955224135760342422259061068512044369)) % 115792089210356248762697446949407573529996955224135760342422259061068512044369) hz (by omega) _) (fun _ w _ M => (by (refine pend_skip rfl ?_); (refine pend_skip rfl ?_); (refine pend_skip rfl ?_); exact pend_none)) ?_; clear F a M; rintro v w rfl M a F
 refine s_stWL F M.f1 rfl rfl rfl sz_25 rfl rfl rfl rfl rfl (fun w M => (by (refine pend_skip rfl ?_); (refine pend_skip rfl ?_); (refine pend_skip rfl ?_); exact pend_none)) ?_; clear M; intro w M
 refine t_endM M ?_; clear M; intro w M
 refine joined (((y * e66.toNat % 115792089210356248762697446949407573529996955224135760342422259061068512044369)),((z * ((e66.toNat + (115792089210356248762697446949407573529996955224135760342422259061068512044369 - e78.toNat % 115792089210356248762697446949407573529996955224135760342422259061068512044369)) % 115792089210356248762697446949407573529996955224135760342422259061068512044369) % 115792089210356248762697446949407573529996955224135760342422259061068512044369))) ⟨(by omega),(by omega)⟩ (F.keep [0,4,6,7,8,9,10] rfl) ?_
 try dsimp only [List.cons_append,List.nil_append]
 refine M.pick ?_; repeat (first | exact PkG.nil | refine PkG.cons 0 rfl rfl ?_ | refine PkG.cons 1 rfl rfl ?_ | refine PkG.cons 2 rfl rfl ?_)
 clear F; intro hc15 F
 try rw [hc15] at F
 replace hc15 := nd0 hc15
 refine wp_skip ?_
 refine joined ((y),(z)) ⟨hy,hz⟩ (F.keep [0,4,6,7,8,9,10] rfl) ?_
 try dsimp only [List.cons_append,List.nil_append]
 refine M.pick ?_; repeat (first | exact PkG.nil | refine PkG.cons 0 rfl rfl ?_ | refine PkG.cons 1 rfl rfl ?_ | refine PkG.cons 2 rfl rfl ?_)
 clear F M; clear a; (try clear w)
 rintro ⟨y2,z2⟩ a w ⟨hy2,hz2⟩ F M; try dsimp only at F M
 try simp only [List.cons_append,List.nil_append] at F M
 try dsimp only at hy2 hz2
 refine wp_region_l [.ind,.ind,.ind] ([0,1,2]) rfl ?_
 refine s_one F rfl ?_; clear F a; intro a F
 refine s_add F rfl rfl rfl rfl rfl rfl (by unfold In64; omega) ?_; clear F a; intro a F
 refine s_one F rfl ?_; clear F a; intro a F
 refine t_endM M ?_; clear M; intro w M
 refine again ((q + 1),(y2),(z2)) (by show _ < _; (try dsimp only); omega) ⟨(by omega),(by assumption),(by assumption),(by assumption)⟩ (F.keep [10,0,4,6,7,8,9] rfl) ?_
 try dsimp only [List.cons_append,List.nil_append]
 refine M.pick ?_; repeat (first | exact PkG.nil | refine PkG.cons 0 rfl rfl ?_ | refine PkG.cons 1 rfl rfl ?_ | refine PkG.cons 2 rfl rfl ?_)
 clear F; intro hc16 F
 try rw [hc16] at F
 replace hc16 := of_decide_eq_false hc16
 refine wp_exit ?_
 replace F := F.keep [0,4,6,7,8,9,10] rfl
 refine wp_region_t [.ind,.rd,.rd,.wr,.wr,.wr,.wr,.ind] [(1,3)] (otOf [0,1,2,3,4,5,6,7]) mixed (by kernel_rfl) ?_
 refine s_one F rfl ?_; clear F a; intro a F
 refine s_ldaL F rfl rfl rfl rfl ag_25 rfl rfl (cells_whole M.h0) ?_; clear F a; intro a F
 refine s_ldaL F rfl rfl rfl rfl ag_25 rfl rfl (cells_whole M.h1) ?_; clear F a; intro a F
 refine s_cqL F M rfl rfl rfl rfl rfl (rfl : _ = some [_]) cb_27 (fun nd_ => c27 z hz _) (fun _ w _ M => (by (refine pend_skip rfl ?_); (refine pend_take (by exact cells_whole M.h0) ?_); exact pend_none)) ?_; clear F a M; rintro v w rfl M a F
 refine s_cqL F M rfl rfl rfl rfl rfl (rfl : _ = some [_,_]) cb_11 (fun nd_ => c11 y (invN 115792089210356248762697446949407573529996955224135760342422259061068512044369 z) hy (Nat.lt_trans (invN_lt _) (by decide)) _) (fun _ w _ M => (by (refine pend_skip rfl ?_); (refine pend_skip rfl ?_); exact pend_none)) ?_; clear F a M; rintro v w rfl M a F
 refine s_bsL F M rfl rfl rfl rfl (parts1 F rfl) (bs_22_1 _ _ _ _) (fun b w M => (by (refine pend_skip rfl ?_); (refine pend_skip rfl ?_); exact pend_none)) ?_; clear F a M; intro b88 w M a F
 refine s_apE ((y * invN 115792089210356248762697446949407573529996955224135760342422259061068512044369 z % 115792089210356248762697446949407573529996955224135760342422259061068512044369 : Nat)) F M.f3 rfl rfl rfl rfl tl_22 rfl rfl (by exact rd_blk M.h0 rfl) rfl (by omega) (fun A c w M => (by (refine pend_skip rfl ?_); (refine pend_skip rfl ?_); exact pend_none)) ?_; clear F a M; intro A89 c89 w M a F
 refine s_one F rfl ?_; clear F a; intro a F
 refine t_endM M ?_; clear M; intro w M
 replace F := F.keep [0,4,6,7,8,9,10] rfl
 refine wp_region_l [.ind,.ind,.ind] ([0,1,2]) rfl ?_
 refine s_one F rfl ?_; clear F a; intro a F
 refine s_add F rfl rfl rfl rfl rfl rfl (by unfold In64; omega) ?_; clear F a; intro a F
 refine s_one F rfl ?_; clear F a; intro a F
 refine t_endM M ?_; clear M; intro w M
 refine again ((j + 1),(A89),(c89),(ws ++ [y * invN 115792089210356248762697446949407573529996955224135760342422259061068512044369 z % 115792089210356248762697446949407573529996955224135760342422259061068512044369])) (by show _ < _; (try dsimp only); omega) ⟨(by omega),(by assumption),(by rw [List.length_append]; show ws.length + 1 = _; omega)⟩ (F.keep [6,7,0,4] rfl) ?_
 try dsimp only [List.cons_append,List.nil_append]
 refine M.pick ?_; repeat (first | exact PkG.nil | refine PkG.cons 0 rfl rfl ?_)
 clear F; intro hc17 F
 try rw [hc17] at F
 replace hc17 := of_decide_eq_false hc17
 refine wp_exit ?_
 refine wp_seq ?_
 replace F := F.keep [0,4,6,7] rfl
 refine wp_region_l [.ind,.ind,.ind] ([0,1,2]) rfl ?_
 refine s_rn 3 F rfl rfl ?_; clear F a; intro a F
 refine t_endM M ?_; clear M; intro w M
 refine wp_ret ?_
 refine ret2 F rfl rfl rfl ?_
 exact ⟨_,rfl,⟨_,0,rfl,fun _ => hok⟩,M.chg⟩
end Go.Proofs.YteajeenmojbjhaaGreatDoor
namespace Go.Proofs.YteajeenmojbjhaaGreatDoor
open Go Fw
def Cg (a b : Nat) : Prop := a % 115792089210356248762697446949407573529996955224135760342422259061068512044369 = b % 115792089210356248762697446949407573529996955224135760342422259061068512044369
theorem Cg.rfl' (a : Nat) : Cg a a := rfl
theorem Cg.symm {a b : Nat} (h : Cg a b) : Cg b a := Eq.symm h
theorem Cg.trans {a b c : Nat} (h : Cg a b) (h' : Cg b c) : Cg a c := Eq.trans h h'
theorem Cg.add {a b c d : Nat} (h : Cg a b) (h' : Cg c d) : Cg (a + c) (b + d) := by
 unfold Cg at *; rw [Nat.add_mod,h,h',← Nat.add_mod]
theorem Cg.mul {a b c d : Nat} (h : Cg a b) (h' : Cg c d) : Cg (a * c) (b * d) := by
 unfold Cg at *; rw [Nat.mul_mod,h,h',← Nat.mul_mod]
theorem Cg.mod (a : Nat) : Cg (a % 115792089210356248762697446949407573529996955224135760342422259061068512044369) a := Nat.mod_mod _ _
theorem horner_t (f i : Nat) : ∀ (l : List Nat) (z : Nat),Cg (horner i (tms f z l ++ [lastOf z l * f % 115792089210356248762697446949407573529996955224135760342422259061068512044369])) (z * f + (1 + f * i) * horner i l)
 | [],z => by
   show Cg ((0 * i + z * f % 115792089210356248762697446949407573529996955224135760342422259061068512044369) % 115792089210356248762697446949407573529996955224135760342422259061068512044369) _
   refine (Cg.mod _).trans ?_
   rw [Nat.zero_mul,Nat.zero_add]
   exact Cg.mod _
 | c :: l,z => by
   rw [lastOf_cons]
   show Cg ((horner i (tms f c l ++ [lastOf c l * f % 115792089210356248762697446949407573529996955224135760342422259061068512044369]) * i + (c + z * f % 115792089210356248762697446949407573529996955224135760342422259061068512044369) % 115792089210356248762697446949407573529996955224135760342422259061068512044369) % 115792089210356248762697446949407573529996955224135760342422259061068512044369) (z * f + (1 + f * i) * ((horner i l * i + c) % 115792089210356248762697446949407573529996955224135760342422259061068512044369))
   refine (Cg.mod _).trans (((horner_t f i l c).mul (.rfl' i)).add ((Cg.mod _).trans ((Cg.rfl' c).add (Cg.mod (z * f))))|>.trans ?_)
   refine Cg.trans ?_ ((Cg.rfl' (z * f)).add ((Cg.rfl' (1 + f * i)).mul (Cg.mod _).symm))
   rw [show (c * f + (1 + f * i) * horner i l) * i + (c + z * f) = z * f + (1 + f * i) * (horner i l * i + c) by grind]
   exact .rfl' _
theorem horner_times (f i : Nat) (l : List Nat) : Cg (horner i (timesN f l)) ((1 + f * i) * horner i l) := by
 have h := horner_t f i l 0
 rwa [Nat.zero_mul,Nat.zero_add] at h
theorem times_len (f : Nat) (l : List Nat) : (timesN f l).length = l.length + 1 := by
 unfold timesN; rw [List.length_append,tms_len]; rfl
theorem times_lt (f : Nat) (l : List Nat) : ∀ x ∈ timesN f l,x < 115792089210356248762697446949407573529996955224135760342422259061068512044369 := by
 have key : ∀ (l : List Nat) (z : Nat),∀ x ∈ tms f z l,x < 115792089210356248762697446949407573529996955224135760342422259061068512044369 := by
   intro l
   induction l with
   | nil => exact fun z x h => by cases h
   | cons c l ih =>
     intro z x h
     rcases List.mem_cons.1 h with h | h
     · rw [h]; exact Nat.mod_lt _ (by decide)
     · exact ih c x h
 intro x h
 rcases List.mem_append.1 h with h | h
 · exact key l 0 x h
 · rw [List.mem_singleton.1 h]; exact Nat.mod_lt _ (by decide)
theorem times_head (f c : Nat) (l : List Nat) : (timesN f (c :: l)).head? = some (c % 115792089210356248762697446949407573529996955224135760342422259061068512044369) := by
 show some ((c + 0 * f % 115792089210356248762697446949407573529996955224135760342422259061068512044369) % 115792089210356248762697446949407573529996955224135760342422259061068512044369) = _
 rw [Nat.zero_mul]; rfl
def prodN (pl : List Int) : List Nat := pl.foldl (fun w i => timesN (negInv i.toNat) w) [1]
theorem prod_snoc (pl : List Int) (i : Int) : prodN (pl ++ [i]) = timesN (negInv i.toNat) (prodN pl) := by unfold prodN; rw [List.foldl_append]; rfl
theorem prod_len (pl : List Int) : (prodN pl).length = pl.length + 1 := by
 have key : ∀ (pl : List Int) (w : List Nat),(pl.foldl (fun w i => timesN (negInv i.toNat) w) w).length = w.length + pl.length := by
   intro pl
   induction pl with
   | nil => exact fun w => rfl
   | cons i pl ih => intro w; rw [List.foldl_cons,ih,times_len,List.length_cons]; omega
 have h := key pl [1]
 refine h.trans ?_
 show 1 + _ = _; omega
theorem prod_head (pl : List Int) : (prodN pl).head? = some 1 := by
 have key : ∀ (pl : List Int) (w : List Nat),w.head? = some 1 → (pl.foldl (fun w i => timesN (negInv i.toNat) w) w).head? = some 1 := by
   intro pl
   induction pl with
   | nil => exact fun w h => h
   | cons i pl ih =>
     intro w h
     rw [List.foldl_cons]
     refine ih _ ?_
     cases w with
     | nil => cases h
     | cons c w => rw [times_head,Option.some.inj h]
 exact key pl [1] rfl
theorem prod_zero (hi : ∀ i : Nat,1 ≤ i → i ≤ 2147483648 → invN 115792089210356248762697446949407573529996955224135760342422259061068512044369 i * i % 115792089210356248762697446949407573529996955224135760342422259061068512044369 = 1) {pl : List Int} (h : PlOk pl) {i : Int} (hm : i ∈ pl) : Cg (horner i.toNat (prodN pl)) 0 := by
 have key : ∀ (pl : List Int) (w : List Nat),(∀ x ∈ pl,1 ≤ x ∧ x ≤ 2147483648) → (i ∈ pl ∨ Cg (horner i.toNat w) 0) → Cg (horner i.toNat (pl.foldl (fun w i => timesN (negInv i.toNat) w) w)) 0 := by
   intro pl
   induction pl with
   | nil => exact fun w _ h => h.elim (fun h => by cases h) id
   | cons p pl ih =>
     intro w hr h
     rw [List.foldl_cons]
     refine ih _ (fun x hx => hr x (List.mem_cons_of_mem _ hx)) ?_
     rcases h with h | h
     · rcases List.mem_cons.1 h with h | h
       · right
         subst h
         have hr' := hr i List.mem_cons_self
         have hv := hi i.toNat (by omega) (by omega)
         have hl := invN_lt i.toNat
         refine (horner_times _ _ _).trans ?_
         have h0 : Cg (1 + negInv i.toNat * i.toNat) 0 := by
           have e : Cg (1 + negInv i.toNat * i.toNat) (invN 115792089210356248762697446949407573529996955224135760342422259061068512044369 i.toNat * i.toNat + (115792089210356248762697446949407573529996955224135760342422259061068512044369 - invN 115792089210356248762697446949407573529996955224135760342422259061068512044369 i.toNat) * i.toNat) := by
             refine Cg.add ?_ (Cg.mul ?_ (.rfl' _))
             · show 1 % 115792089210356248762697446949407573529996955224135760342422259061068512044369 = _; rw [hv]
             · show negInv _ % _ = _
               unfold negInv
               rw [Nat.zero_add,Nat.mod_eq_of_lt hl,Nat.mod_mod]
           refine e.trans ?_
           rw [← Nat.add_mul,show invN 115792089210356248762697446949407573529996955224135760342422259061068512044369 i.toNat + (115792089210356248762697446949407573529996955224135760342422259061068512044369 - invN 115792089210356248762697446949407573529996955224135760342422259061068512044369 i.toNat) = 115792089210356248762697446949407573529996955224135760342422259061068512044369 by omega]
           show 115792089210356248762697446949407573529996955224135760342422259061068512044369 * _ % 115792089210356248762697446949407573529996955224135760342422259061068512044369 = 0 % 115792089210356248762697446949407573529996955224135760342422259061068512044369
           rw [Nat.mul_mod_right]
         have := h0.mul (Cg.rfl' (horner i.toNat w))
         rwa [Nat.zero_mul] at this
       · exact .inl h
     · right
       refine (horner_times _ _ _).trans ?_
       have := (Cg.rfl' (1 + negInv p.toNat * i.toNat)).mul h
       rwa [Nat.mul_zero] at this
 exact key pl [1] h.rg (.inl hm)
def yN (d : Nat) : List Nat → List Nat → List Nat
 | c :: l,w :: ws => (c + d * w % 115792089210356248762697446949407573529996955224135760342422259061068512044369) % 115792089210356248762697446949407573529996955224135760342422259061068512044369 :: yN d l ws
 | _,_ => []
theorem yN_len (d : Nat) : ∀ (l ws : List Nat),l.length = ws.length → (yN d l ws).length = l.length
 | [],[],_ => rfl
 | c :: l,w :: ws,h => by show (yN d l ws).length + 1 = _; rw [yN_len d l ws (by simpa using h)]; rfl
theorem yN_horner (d i : Nat) : ∀ (l ws : List Nat),l.length = ws.length → Cg (horner i (yN d l ws)) (horner i l + d * horner i ws)
 | [],[],_ => rfl
 | c :: l,w :: ws,h => by
   show Cg ((horner i (yN d l ws) * i + (c + d * w % 115792089210356248762697446949407573529996955224135760342422259061068512044369) % 115792089210356248762697446949407573529996955224135760342422259061068512044369) % 115792089210356248762697446949407573529996955224135760342422259061068512044369) ((horner i l * i + c) % 115792089210356248762697446949407573529996955224135760342422259061068512044369 + d * ((horner i ws * i + w) % 115792089210356248762697446949407573529996955224135760342422259061068512044369))
   refine (Cg.mod _).trans ((((yN_horner d i l ws (by simpa using h)).mul (.rfl' i)).add ((Cg.mod _).trans ((Cg.rfl' c).add (Cg.mod (d * w))))).trans ?_)
   refine Cg.trans ?_ ((Cg.mod _).symm.add ((Cg.rfl' d).mul (Cg.mod _).symm))
   rw [show (horner i l + d * horner i ws) * i + (c + d * w) = horner i l * i + c + d * (horner i ws * i + w) by grind]
   exact .rfl' _
theorem horner_eq {x : Nat} {l l' : List Nat} (h : Cg (horner x l) (horner x l')) : horner x l = horner x l' := by
 have h1 := horner_lt x l
 have h2 := horner_lt x l'
 unfold Cg at h
 rwa [Nat.mod_eq_of_lt h1,Nat.mod_eq_of_lt h2] at h
theorem y_agree (hi : ∀ i : Nat,1 ≤ i → i ≤ 2147483648 → invN 115792089210356248762697446949407573529996955224135760342422259061068512044369 i * i % 115792089210356248762697446949407573529996955224135760342422259061068512044369 = 1) {pl : List Int} (h : PlOk pl) {i : Int} (hm : i ∈ pl) (d : Nat) (l : List Nat) (hl : l.length = pl.length + 1) : horner i.toNat (yN d l (prodN pl)) = horner i.toNat l := by
 refine horner_eq ((yN_horner d _ l _ (by rw [prod_len,hl])).trans ?_)
 have := (Cg.rfl' (horner i.toNat l)).add ((Cg.rfl' d).mul (prod_zero hi h hm))
 rwa [Nat.mul_zero,Nat.add_zero] at this
theorem y_zero (pl : List Int) (s c : Nat) (l : List Nat) (hs : s < 115792089210356248762697446949407573529996955224135760342422259061068512044369) (hc : c < 115792089210356248762697446949407573529996955224135760342422259061068512044369) : horner 0 (yN ((s + (115792089210356248762697446949407573529996955224135760342422259061068512044369 - c % 115792089210356248762697446949407573529996955224135760342422259061068512044369)) % 115792089210356248762697446949407573529996955224135760342422259061068512044369) (c :: l) (prodN pl)) = s := by
 have hh := prod_head pl
 cases hp : prodN pl with
 | nil => rw [hp] at hh; cases hh
 | cons w ws =>
   rw [hp] at hh
   obtain rfl : w = 1 := Option.some.inj hh
   show (horner 0 _ * 0 + (c + (s + (115792089210356248762697446949407573529996955224135760342422259061068512044369 - c % 115792089210356248762697446949407573529996955224135760342422259061068512044369)) % 115792089210356248762697446949407573529996955224135760342422259061068512044369 * 1 % 115792089210356248762697446949407573529996955224135760342422259061068512044369) % 115792089210356248762697446949407573529996955224135760342422259061068512044369) % 115792089210356248762697446949407573529996955224135760342422259061068512044369 = s
   rw [Nat.mul_zero]
   omega
end Go.Proofs.YteajeenmojbjhaaGreatDoor
namespace Go.Proofs.YteajeenmojbjhaaGreatDoor
open Go Fw
structure Jn (a : Nat) (s : IS) : Prop where
 u0 : 1 ≤ s.u
 v0 : 1 ≤ s.v
 co : Nat.Coprime s.u s.v
 hu : Cg s.u (s.x * a)
 hv : Cg s.v (s.y * a)
theorem two_inj {x y : Nat} (h : Cg (2 * x) (2 * y)) : Cg x y := by
 have e : ∀ z,Cg (57896044605178124381348723474703786764998477612067880171211129530534256022185 * (2 * z)) z := fun z => by
   rw [show 57896044605178124381348723474703786764998477612067880171211129530534256022185 * (2 * z) = z + 115792089210356248762697446949407573529996955224135760342422259061068512044369 * z by omega]
   exact Nat.add_mul_mod_self_left _ _ _
 exact (e x).symm.trans (((Cg.rfl' 57896044605178124381348723474703786764998477612067880171211129530534256022185).mul h).trans (e y))
theorem add_neg (x y : Nat) : Cg (x + y + (115792089210356248762697446949407573529996955224135760342422259061068512044369 - y % 115792089210356248762697446949407573529996955224135760342422259061068512044369)) x := by
 have h := Nat.div_add_mod y 115792089210356248762697446949407573529996955224135760342422259061068512044369
 have hl : y % 115792089210356248762697446949407573529996955224135760342422259061068512044369 < 115792089210356248762697446949407573529996955224135760342422259061068512044369 := Nat.mod_lt _ (by decide)
 rw [show x + y + (115792089210356248762697446949407573529996955224135760342422259061068512044369 - y % 115792089210356248762697446949407573529996955224135760342422259061068512044369) = x + 115792089210356248762697446949407573529996955224135760342422259061068512044369 * (y / 115792089210356248762697446949407573529996955224135760342422259061068512044369 + 1) by rw [Nat.mul_add]; generalize 115792089210356248762697446949407573529996955224135760342422259061068512044369 * (y / 115792089210356248762697446949407573529996955224135760342422259061068512044369) = t at *; generalize y % 115792089210356248762697446949407573529996955224135760342422259061068512044369 = r at *; omega]
 exact Nat.add_mul_mod_self_left _ _ _
theorem hlv_two (x : Nat) : Cg (2 * hlv 115792089210356248762697446949407573529996955224135760342422259061068512044369 x) x := by
 unfold Cg hlv
 split
 · rw [show 2 * (x / 2) = x by omega]
 · rw [show 2 * ((x + 115792089210356248762697446949407573529996955224135760342422259061068512044369) / 2) = x + 115792089210356248762697446949407573529996955224135760342422259061068512044369 by omega]
   exact Nat.add_mod_right _ _
theorem Cg.half {u x a : Nat} (he : u % 2 = 0) (h : Cg u (x * a)) : Cg (u / 2) (hlv 115792089210356248762697446949407573529996955224135760342422259061068512044369 x * a) := by
 refine two_inj ?_
 rw [show 2 * (u / 2) = u by omega,← Nat.mul_assoc]
 exact h.trans ((hlv_two x).symm.mul (.rfl' a))
theorem Cg.less {u v x y a : Nat} (hl : v ≤ u) (h : Cg u (x * a)) (h' : Cg v (y * a)) : Cg (u - v) ((x + (115792089210356248762697446949407573529996955224135760342422259061068512044369 - y % 115792089210356248762697446949407573529996955224135760342422259061068512044369)) % 115792089210356248762697446949407573529996955224135760342422259061068512044369 * a) := by
 have h1 : Cg (u - v + v) ((x + (115792089210356248762697446949407573529996955224135760342422259061068512044369 - y % 115792089210356248762697446949407573529996955224135760342422259061068512044369)) % 115792089210356248762697446949407573529996955224135760342422259061068512044369 * a + v) := by
   rw [Nat.sub_add_cancel hl]
   refine h.trans (Cg.symm ?_)
   refine (((Cg.mod _).mul (.rfl' a)).add (h'.trans ((Cg.mod y).symm.mul (.rfl' a)))).trans ?_
   rw [← Nat.add_mul]
   refine Cg.mul ?_ (.rfl' a)
   rw [Nat.add_right_comm]
   have h := add_neg x (y % 115792089210356248762697446949407573529996955224135760342422259061068512044369)
   rwa [Nat.mod_mod] at h
 exact (add_neg _ v).symm.trans ((h1.add (.rfl' _)).trans (add_neg _ v))
theorem co_half {u v : Nat} (he : u % 2 = 0) (h : Nat.Coprime u v) : Nat.Coprime (u / 2) v :=
 Nat.Coprime.coprime_dvd_left ⟨2,by omega⟩ h
theorem co_sub {u v : Nat} (hl : v ≤ u) (h : Nat.Coprime u v) : Nat.Coprime (u - v) v := by
 unfold Nat.Coprime at *
 rw [← h]
 conv => rhs; rw [show u = u - v + v by omega]
 generalize u - v = t
 exact (Nat.gcd_add_right_left_of_dvd _ (Nat.dvd_refl v)).symm
theorem Jn.next {a : Nat} {s : IS} (J : Jn a s) (h1 : ¬ s.u = 1) (h2 : ¬ s.v = 1) : Jn a (ist 115792089210356248762697446949407573529996955224135760342422259061068512044369 s) := by
 obtain ⟨u0,v0,co,hu,hv⟩ := J
 unfold ist
 split
 · exact ⟨by dsimp only; omega,v0,co_half (by assumption) co,Cg.half (by assumption) hu,hv⟩
 · split
   · exact ⟨u0,by dsimp only; omega,(co_half (by assumption) co.symm).symm,hu,Cg.half (by assumption) hv⟩
   · have hne : s.u ≠ s.v := fun e => by
       rw [e] at co
       have := (Nat.gcd_self s.v).symm.trans co
       omega
     split
     · exact ⟨by dsimp only; omega,v0,co_sub (by assumption) co,Cg.less (by assumption) hu hv,hv⟩
     · exact ⟨u0,by dsimp only; omega,(co_sub (by omega) co.symm).symm,hu,Cg.less (by omega) hv hu⟩
theorem run_end {a : Nat} : ∀ (n k : Nat) (s : IS),Jn a s → s.u * s.v < 2 ^ k → (2 * k + 1 ≤ n ∨ (2 * k ≤ n ∧ (s.u % 2 = 0 ∨ s.v % 2 = 0))) → Jn a (irun 115792089210356248762697446949407573529996955224135760342422259061068512044369 n s) ∧ ((irun 115792089210356248762697446949407573529996955224135760342422259061068512044369 n s).u = 1 ∨ (irun 115792089210356248762697446949407573529996955224135760342422259061068512044369 n s).v = 1)
 | 0,k,s,J,hp,hn => by
   have hk : k = 0 := by omega
   subst hk
   have := Nat.mul_le_mul J.u0 J.v0
   omega
 | n + 1,k,s,J,hp,hn => by
   by_cases h : s.u = 1 ∨ s.v = 1
   · rw [irun_end h]; exact ⟨J,h⟩
   · have h1 : ¬ s.u = 1 := fun e => h (.inl e)
     have h2 : ¬ s.v = 1 := fun e => h (.inr e)
     rw [irun_go h1 h2]
     have J' := J.next h1 h2
     have hmul := Nat.mul_le_mul J.u0 J.v0
     obtain _ | k := k
     · omega
     · have hpow : 2 ^ (k + 1) = 2 * 2 ^ k := by rw [Nat.pow_succ,Nat.mul_comm]
       by_cases hu : s.u % 2 = 0
       · refine run_end n k _ J' ?_ (.inl (by omega))
         unfold ist; rw [if_pos hu]
         show s.u / 2 * s.v < _
         have : s.u * s.v = 2 * (s.u / 2 * s.v) := by rw [← Nat.mul_assoc]; congr 1; omega
         omega
       · by_cases hv : s.v % 2 = 0
         · refine run_end n k _ J' ?_ (.inl (by omega))
           unfold ist; rw [if_neg hu,if_pos hv]
           show s.u * (s.v / 2) < _
           have : s.u * s.v = 2 * (s.u * (s.v / 2)) := by rw [Nat.mul_left_comm]; congr 1; omega
           omega
         · refine run_end n (k + 1) _ J' ?_ (.inr ⟨by omega,?_⟩)
           · unfold ist; rw [if_neg hu,if_neg hv]
             split
             · exact Nat.lt_of_le_of_lt (Nat.mul_le_mul (Nat.sub_le _ _) (Nat.le_refl _)) hp
             · exact Nat.lt_of_le_of_lt (Nat.mul_le_mul (Nat.le_refl _) (Nat.sub_le _ _)) hp
           · unfold ist; rw [if_neg hu,if_neg hv]
             split
             · left; dsimp only; omega
             · right; dsimp only; omega
theorem invN_of {a : Nat} (h1 : 1 ≤ a) (h2 : a ≤ 2147483648) (hc : Nat.Coprime a 115792089210356248762697446949407573529996955224135760342422259061068512044369) : invN 115792089210356248762697446949407573529996955224135760342422259061068512044369 a * a % 115792089210356248762697446949407573529996955224135760342422259061068512044369 = 1 := by
 have ha : a % 115792089210356248762697446949407573529996955224135760342422259061068512044369 = a := Nat.mod_eq_of_lt (Nat.lt_of_le_of_lt h2 (by decide))
 have J0 : Jn a ⟨a,115792089210356248762697446949407573529996955224135760342422259061068512044369,1,0⟩ := ⟨h1,show 1 ≤ 115792089210356248762697446949407573529996955224135760342422259061068512044369 by decide,hc,by show Cg a (1 * a); rw [Nat.one_mul]; exact .rfl' a,by show Cg 115792089210356248762697446949407573529996955224135760342422259061068512044369 (0 * a); rw [Nat.zero_mul]; show 115792089210356248762697446949407573529996955224135760342422259061068512044369 % 115792089210356248762697446949407573529996955224135760342422259061068512044369 = 0 % 115792089210356248762697446949407573529996955224135760342422259061068512044369; decide⟩
 obtain ⟨J,he⟩ := run_end 2000 288 _ J0 (Nat.lt_of_le_of_lt (Nat.mul_le_mul h2 (Nat.le_refl 115792089210356248762697446949407573529996955224135760342422259061068512044369)) (by decide +kernel)) (.inl (by decide))
 unfold invN
 rw [ha,if_neg (by omega)]
 split
 · have h := J.hu
   rename_i h'
   rw [h'] at h
   exact h.symm
 · have h := J.hv
   rw [he.resolve_left (by assumption)] at h
   exact h.symm
end Go.Proofs.YteajeenmojbjhaaGreatDoor
namespace Go.Proofs.YteajeenmojbjhaaGreatDoor
open Go Fw
def npm (n : Nat) : Nat → Nat → Nat → Nat
 | 0,_,_ => 1
 | k + 1,g,e => if e = 0 then 1 else if e % 2 = 0 then npm n k (g * g % n) (e / 2) else g * npm n k (g * g % n) (e / 2) % n
theorem npm_eq (n : Nat) : ∀ (k g e : Nat),e < 2 ^ k → npm n k g e % n = g ^ e % n
 | 0,g,e,h => by
   have : e = 0 := by simpa using h
   subst this; rfl
 | k + 1,g,e,h => by
   have ih := npm_eq n k (g * g % n) (e / 2) (by rw [Nat.pow_succ] at h; omega)
   rw [← Nat.pow_mod] at ih
   have hp : (g * g) ^ (e / 2) = g ^ (2 * (e / 2)) := by rw [Nat.pow_mul,Nat.pow_two]
   rw [hp] at ih
   unfold npm
   split
   · rename_i h0; subst h0; rfl
   · split
     · rw [ih]; congr 2; omega
     · rw [Nat.mod_mod,Nat.mul_mod,ih,← Nat.mul_mod,← Nat.pow_succ']; congr 2; omega
theorem nleast (p : Nat → Prop) : ∀ n,p n → ∃ m,p m ∧ ∀ k < m,¬ p k := fun n => by
 induction n using Nat.strongRecOn with
 | _ n ih =>
   intro h
   rcases Classical.em (∃ k,k < n ∧ p k) with ⟨k,hk,hp⟩ | hn
   · exact ih k hk hp
   · exact ⟨n,h,fun k hk hp => hn ⟨k,hk,hp⟩⟩
theorem npigeon : ∀ (n m : Nat) (f : Nat → Nat),(∀ i,i < m → f i < n) → (∀ i j,i < m → j < m → f i = f j → i = j) → m ≤ n
 | 0,m,f,h,_ => by
   rcases Nat.eq_zero_or_pos m with h0 | h0
   · omega
   · exact absurd (h 0 h0) (Nat.not_lt_zero _)
 | n + 1,m,f,h,hi => by
   rcases Classical.em (∃ k,k < m ∧ f k = n) with ⟨k,hk,he⟩ | hn
   · have := npigeon n (m - 1) (fun i => if i < k then f i else f (i + 1)) (fun i hi' => by
       show (if i < k then f i else f (i + 1)) < n
       split
       · have h1 := h i (by omega)
         have : f i ≠ n := fun e => by have := hi i k (by omega) hk (e.trans he.symm); omega
         omega
       · have h1 := h (i + 1) (by omega)
         have : f (i + 1) ≠ n := fun e => by have := hi (i + 1) k (by omega) hk (e.trans he.symm); omega
         omega) (fun i j hi' hj' e => by
       have e : (if i < k then f i else f (i + 1)) = (if j < k then f j else f (j + 1)) := e
       split at e <;> split at e
       · exact hi _ _ (by omega) (by omega) e
       · have := hi _ _ (by omega) (by omega) e; omega
       · have := hi _ _ (by omega) (by omega) e; omega
       · have := hi _ _ (by omega) (by omega) e; omega)
     omega
   · have := npigeon n m f (fun i hi' => by
       have h1 := h i hi'
       have : f i ≠ n := fun e => hn ⟨i,hi',e⟩
       omega) hi
     omega
section
variable {d g N : Nat}
theorem norder (hd : 1 < d) (hN : 0 < N) (h1 : g ^ N % d = 1) : ∃ t,0 < t ∧ t < d ∧ (∀ m,g ^ m % d = 1 → t ∣ m) ∧ ∀ k,g ^ (t * k) % d = 1 := by
 obtain ⟨t,⟨ht0,ht⟩,hm⟩ := nleast (fun n => 0 < n ∧ g ^ n % d = 1) N ⟨hN,h1⟩
 have red : ∀ a b,g ^ (t * a + b) % d = g ^ b % d := fun a b => by
   rw [Nat.pow_add,Nat.pow_mul,Nat.mul_mod,Nat.pow_mod,ht,Nat.one_pow,Nat.mod_eq_of_lt hd,Nat.one_mul,Nat.mod_mod]
 have hdv : ∀ m,g ^ m % d = 1 → t ∣ m := fun m h => by
   have e := Nat.div_add_mod m t
   rw [← e,red] at h
   have hl := Nat.mod_lt m ht0
   rcases Nat.eq_zero_or_pos (m % t) with h0 | h0
   · exact Nat.dvd_of_mod_eq_zero h0
   · exact absurd ⟨h0,h⟩ (hm _ hl)
 refine ⟨t,ht0,?_,hdv,fun k => by have h := red k 0; rw [Nat.add_zero] at h; rw [h,Nat.pow_zero,Nat.mod_eq_of_lt hd]⟩
 have inv : ∀ i,i ≤ t → g ^ i % d * (g ^ (t - i) % d) % d = 1 := fun i hi => by
   rw [← Nat.mul_mod,← Nat.pow_add,show i + (t - i) = t by omega,ht]
 have ne0 : ∀ i,i ≤ t → g ^ i % d ≠ 0 := fun i hi e => by
   have := inv i hi
   rw [e,Nat.zero_mul,Nat.zero_mod] at this
   omega
 have inj : ∀ i j,i < t → j < t → i < j → g ^ i % d = g ^ j % d → False := fun i j hi hj hl e => by
   have h := inv i (by omega)
   rw [e,← Nat.mul_mod,← Nat.pow_add,show j + (t - i) = t * 1 + (j - i) by omega,red] at h
   exact hm (j - i) (by omega) ⟨by omega,h⟩
 have := npigeon (d - 1) t (fun i => g ^ i % d - 1) (fun i hi => by
   have h1 : g ^ i % d < d := Nat.mod_lt _ (by omega)
   have h2 := ne0 i (by omega)
   show g ^ i % d - 1 < d - 1
   omega) (fun i j hi hj e => by
   have h1 := ne0 i (by omega)
   have h2 := ne0 j (by omega)
   have e : g ^ i % d - 1 = g ^ j % d - 1 := e
   have e : g ^ i % d = g ^ j % d := by omega
   rcases Nat.lt_trichotomy i j with h | h | h
   · exact (inj i j hi hj h e).elim
   · exact h
   · exact (inj j i hj hi h e.symm).elim)
 omega
theorem nhas {t q m : Nat} (hq : ∀ x,x ∣ q → x = 1 ∨ x = q) (h : t ∣ q * m) (hn : ¬ t ∣ m) : q ∣ t := by
 have hg : Nat.gcd t q ∣ q := Nat.gcd_dvd_right _ _
 rcases hq _ hg with e | e
 · exact absurd ((show Nat.Coprime t q from e).dvd_of_dvd_mul_left h) hn
 · rw [← e]; exact Nat.gcd_dvd_left _ _
end
theorem nnot_one {d Q g m r : Nat} (hd : 1 < d) (hdQ : d ∣ Q) (hp : g ^ m % Q = r + 1) (hc : Nat.gcd r Q = 1) : ¬ g ^ m % d = 1 := fun h => by
 have h1 : (r + 1) % d = 1 := by rw [← hp,Nat.mod_mod_of_dvd _ hdQ]; exact h
 have h2 : d ∣ r := by
   have e := Nat.div_add_mod (r + 1) d
   rw [h1] at e
   exact ⟨(r + 1) / d,by omega⟩
 have := Nat.dvd_gcd h2 hdQ
 rw [hc] at this
 have := Nat.le_of_dvd (by decide) this
 omega
theorem nprm (q : Nat) (h : (List.range q).all (fun x => x == 0 || x == 1 || !(q % x == 0)) = true) (h0 : 0 < q) : ∀ x,x ∣ q → x = 1 ∨ x = q := fun x hx => by
 have hl := Nat.le_of_dvd h0 hx
 rcases Nat.lt_or_ge x q with hlt | hge
 · have := List.all_eq_true.1 h x (List.mem_range.2 hlt)
   simp only [Bool.or_eq_true,Bool.not_eq_true',beq_eq_false_iff_ne,beq_iff_eq] at this
   rcases this with (h1 | h1) | h1
   · subst h1
     have := Nat.eq_zero_of_zero_dvd hx
     omega
   · exact .inl h1
   · exact absurd (Nat.mod_eq_zero_of_dvd hx) h1
 · exact .inr (by omega)
theorem nkey1 {Q K G d q m t : Nat} (hd : 1 < d) (hQ : d ∣ Q) (ht : t ∣ q * m) (htk : ∀ k,G ^ (t * k) % d = 1) (hq : ∀ x,x ∣ q → x = 1 ∨ x = q) (hlt : m < 2 ^ K) (hb : (npm Q K G m != 0 && Nat.blt (npm Q K G m) Q && Nat.gcd (npm Q K G m - 1) Q == 1) = true) : q ∣ t := by
 simp only [Bool.and_eq_true,bne_iff_ne,beq_iff_eq,Nat.blt_eq] at hb
 obtain ⟨⟨b1,b2⟩,b3⟩ := hb
 have hp := npm_eq Q K G m hlt
 rw [Nat.mod_eq_of_lt b2] at hp
 refine nhas hq ht fun ⟨k,hk⟩ => nnot_one hd hQ (r := npm Q K G m - 1) (m := m) (g := G) (by omega) b3 ?_
 rw [hk]; exact htk k
theorem nbig1 {Q K G d B m1 m2 m3 m4 : Nat} (hB : ∀ t,0 < t → 71 * 131 * 373 * 3407 ∣ t → B < t) (hd : 1 < d) (hQ : d ∣ Q) (hQ1 : 1 < Q) (hK : Q < 2 ^ K) (hp : npm Q K G (Q - 1) = 1) (e1 : 71 * m1 = Q - 1) (e2 : 131 * m2 = Q - 1) (e3 : 373 * m3 = Q - 1) (e4 : 3407 * m4 = Q - 1)
   (b1 : (npm Q K G m1 != 0 && Nat.blt (npm Q K G m1) Q && Nat.gcd (npm Q K G m1 - 1) Q == 1) = true) (b2 : (npm Q K G m2 != 0 && Nat.blt (npm Q K G m2) Q && Nat.gcd (npm Q K G m2 - 1) Q == 1) = true)
   (b3 : (npm Q K G m3 != 0 && Nat.blt (npm Q K G m3) Q && Nat.gcd (npm Q K G m3 - 1) Q == 1) = true) (b4 : (npm Q K G m4 != 0 && Nat.blt (npm Q K G m4) Q && Nat.gcd (npm Q K G m4 - 1) Q == 1) = true) : B < d := by
 have hN := npm_eq Q K G (Q - 1) (Nat.lt_of_le_of_lt (Nat.sub_le _ _) hK)
 rw [hp] at hN
 have hN := hN.symm.trans (Nat.mod_eq_of_lt hQ1)
 have h1 : G ^ (Q - 1) % d = 1 := by rw [← Nat.mod_mod_of_dvd _ hQ,hN]; exact (Nat.mod_eq_of_lt hd)
 obtain ⟨t,t0,tl,td,tk⟩ := norder hd (Nat.sub_pos_of_lt hQ1) h1
 have ht := td _ h1
 have lt : ∀ q m,1 ≤ q → q * m = Q - 1 → m < 2 ^ K := fun q m h e => Nat.lt_of_le_of_lt (Nat.le_trans (Nat.le_mul_of_pos_left m h) (e ▸ Nat.sub_le Q 1)) hK
 have d1 := nkey1 hd hQ (by rw [e1]; exact ht) tk (nprm 71 (by decide +kernel) (by decide +kernel)) (lt 71 _ (by decide) e1) b1
 have d2 := nkey1 hd hQ (by rw [e2]; exact ht) tk (nprm 131 (by decide +kernel) (by decide +kernel)) (lt 131 _ (by decide) e2) b2
 have d3 := nkey1 hd hQ (by rw [e3]; exact ht) tk (nprm 373 (by decide +kernel) (by decide +kernel)) (lt 373 _ (by decide) e3) b3
 have d4 := nkey1 hd hQ (by rw [e4]; exact ht) tk (nprm 3407 (by decide +kernel) (by decide +kernel)) (lt 3407 _ (by decide) e4) b4
 have m1 : 71 * 131 ∣ t := Nat.Coprime.mul_dvd_of_dvd_of_dvd (by decide +kernel) d1 d2
 have m2 : 71 * 131 * 373 ∣ t := Nat.Coprime.mul_dvd_of_dvd_of_dvd (by decide +kernel) m1 d3
 have m3 : 71 * 131 * 373 * 3407 ∣ t := Nat.Coprime.mul_dvd_of_dvd_of_dvd (by decide +kernel) m2 d4
 exact Nat.lt_trans (hB t t0 m3) tl
theorem nbig_div {d : Nat} (hd : 1 < d) (hQ : d ∣ 115792089210356248762697446949407573529996955224135760342422259061068512044369) : 2147483648 < d :=
 nbig1 (Q := 115792089210356248762697446949407573529996955224135760342422259061068512044369) (B := 2147483648) (hB := fun t h0 h => Nat.lt_of_lt_of_le (by decide) (Nat.le_of_dvd h0 h)) (K := 256) (G := 7) (m1 := 1630874495920510545953485168301515120140802186255433244259468437479838197808) (m2 := 883909077941650753913720969079447126183182864306379849942154649321133679728) (m3 := 310434555523743294269966345708867489356560201673286220757164233407690380816) (m4 := 33986524570107498903051789536075014244202217559182788477376653672165691824) hd hQ (by decide +kernel) (by decide +kernel) (by decide +kernel) (by decide +kernel) (by decide +kernel) (by decide +kernel) (by decide +kernel) (by decide +kernel) (by decide +kernel) (by decide +kernel) (by decide +kernel)
theorem coQ {a : Nat} (h1 : 1 ≤ a) (h2 : a ≤ 2147483648) : Nat.Coprime a 115792089210356248762697446949407573529996955224135760342422259061068512044369 := by
 rcases Nat.lt_or_ge 1 (Nat.gcd a 115792089210356248762697446949407573529996955224135760342422259061068512044369) with h | h
 · have := nbig_div h (Nat.gcd_dvd_right _ _)
   have := Nat.le_of_dvd (by omega) (Nat.gcd_dvd_left a 115792089210356248762697446949407573529996955224135760342422259061068512044369)
   omega
 · have : 0 < Nat.gcd a 115792089210356248762697446949407573529996955224135760342422259061068512044369 := Nat.gcd_pos_of_pos_left _ (by omega)
   show Nat.gcd a 115792089210356248762697446949407573529996955224135760342422259061068512044369 = 1
   omega
theorem invN_all (a : Nat) (h1 : 1 ≤ a) (h2 : a ≤ 2147483648) : invN 115792089210356248762697446949407573529996955224135760342422259061068512044369 a * a % 115792089210356248762697446949407573529996955224135760342422259061068512044369 = 1 := invN_of h1 h2 (coQ h1 h2)
end Go.Proofs.YteajeenmojbjhaaGreatDoor
namespace Go.Proofs.YteajeenmojbjhaaGreatDoor
open Go Fw
set_option maxRecDepth 100000 in
set_option maxHeartbeats 1000000 in
theorem c179l (x0 x1 x2 x3 : Nat) (h0 : x0 < 18446744073709551616) (h1 : x1 < 18446744073709551616) (h2 : x2 < 18446744073709551616) (h3 : x3 < 18446744073709551616) (z : Bool) (w0 : World) : Cl Tryz.prog 179 #[n4 x0 x1 x2 x3,.bool z] w0 (RetQ w0 fun r => r = nV ((x0 + 18446744073709551616 * x1 + 340282366920938463463374607431768211456 * x2 + 6277101735386680763835789423207666416102355444464034512896 * x3 + if z = true then 115792089237316195423570985008687907853269984665640564039457584007913129639936 else 0) / 2)) := by
 have M : Sep (fun _ => False) w0 w0 _ := Sep.nil _ w0
 refine enter (vs := [_,_]) Tryz.func179 rfl rfl rfl ?_
 intro a F
 refine wp_seq (wp_region_l [.wr,.wr] ([0,1]) rfl ?_)
 refine s_bxA F M rfl rfl rfl rfl rfl ?_; clear F a M; intro b2 w M a F
 refine s_alc F M rfl rfl rfl rfl zr_25 rfl ?_; clear F a M; intro b4 w M a F
 refine t_endM M ?_; clear M; intro w M
 refine wp_seq (wp_seq (wp_region_l [.ind] ([0]) rfl ?_))
 refine s_one F rfl ?_; clear F a; intro a F
 refine t_endM M ?_; clear M; intro w M
 refine wp_block ?_
 refine wp_loop_rounds 5 ?_
 refine (show Code.wp _ _ _ _ _ from ?_)
 refine wp_seq (wp_region_l [.ind] ([0]) rfl ?_)
 refine s_one F rfl ?_; clear F a; intro a F
 refine t_endM M ?_; clear M; intro w M
 refine wp_seq (c_t F (by rfl) ?_)
 refine wp_skip (wp_seq (wp_block (wp_seq ?_)))
 replace F := F.keep [0,1,2,4,7] rfl
 refine wp_region_l [.ind,.ind] ([0,1]) rfl ?_
 refine s_rn 2 F rfl rfl ?_; clear F a; intro a F
 refine t_endM M ?_; clear M; intro w M
 refine wp_seq ?_
 replace F := F.keep [0,1,2,4,5,7] rfl
 refine wp_region_l [.ind] ([0]) rfl ?_
 refine s_one F rfl ?_; clear F a; intro a F
 replace F : Fr _ _ ((6,u6 0) :: _) := F
 refine t_endM M ?_; clear M; intro w M
 refine wp_seq (wp_seq (wp_region_l [.ind,.ind] ([0,1]) rfl ?_))
 refine s_rn 2 F rfl rfl ?_; clear F a; intro a F
 refine t_endM M ?_; clear M; intro w M
 refine c_t F (by rfl) ?_
 have M1 : Sep _ _ _ (blk b2 _ :: _) := M.f1; replace M := M1; clear M1
 replace M := Fw.Sep.blkC M (rfl : _ = (#[_,_,_,_] : Array Value))
 replace F := F.keep [0,1,2,4,5,6,7] rfl
 refine wp_region_l [.ind,.ind,.ind,.rd,.ind] ([0,1,2,3,4]) rfl ?_
 refine s_one F rfl ?_; clear F a; intro a F
 refine s_add F rfl rfl rfl rfl rfl rfl (by unfold In64; omega) ?_; clear F a; intro a F
 refine s_ia F rfl rfl rfl rfl ar_25 rfl rfl (by omega) (by omega) ?_; clear F a; intro a F
 refine s_ld F rfl rfl rfl rfl sc_23 rfl (by exact cell_of_blk M.h0 (lit rfl)) ?_; clear F a; intro a F
 refine s_one F rfl ?_; clear F a; intro a F
 refine t_endM M ?_; clear M; intro w M
 have M1 : Sep _ _ _ (blk b2 _ :: _) := M; replace M := M1; clear M1
 replace M := Fw.Sep.blkC M (rfl : _ = (#[_,_,_,_] : Array Value))
 replace F := F.keep [0,1,2,4,5,6,7] rfl
 refine wp_region_l [.ind,.ind,.ind,.rd,.ind,.ind,.ind,.ind,.ind,.wr] ([0,1,2,3,4,5,6,7,8,9]) rfl ?_
 refine s_rn 2 F rfl rfl ?_; clear F a; intro a F
 refine s_ia F rfl rfl rfl rfl ar_25 rfl rfl (by omega) (by omega) ?_; clear F a; intro a F
 refine s_ld F rfl rfl rfl rfl sc_23 rfl (by exact cell_of_blk M.h0 (lit rfl)) ?_; clear F a; intro a F
 refine s_ushr 1 2 F rfl rfl rfl rfl rfl rfl (by decide) (by decide) ?_; clear F a; intro a F
 refine s_one F rfl ?_; clear F a; intro a F
 refine s_ushl 63 9223372036854775808 F rfl rfl rfl rfl rfl rfl (by decide) (by decide) ?_; clear F a; intro a F
 skip
 refine s_uor F rfl rfl rfl rfl rfl rfl (by omega) (by omega) ?_; clear F a; intro a F
 refine s_ia F rfl rfl rfl rfl ar_25 rfl rfl (by omega) (by omega) ?_; clear F a; intro a F
 refine s_st F M rfl rfl rfl sz_23 rfl rfl rfl (by exact Nat.le_of_ble_eq_true rfl) ?_; clear M; intro w M
 refine t_endM M ?_; clear M; intro w M
 replace F := F.keep [0,1,2,4,5,6,7] rfl
 refine wp_region_l [.ind,.ind] ([0,1]) rfl ?_
 refine s_add F rfl rfl rfl rfl rfl rfl (by unfold In64; omega) ?_; clear F a; intro a F
 refine s_one F rfl ?_; clear F a; intro a F
 refine t_endM M ?_; clear M; intro w M
 refine (show Code.wp _ _ _ _ _ from ?_)
 refine wp_seq ?_
 replace F := F.keep [0,1,2,4,5,6,7] rfl
 refine wp_region_l [.ind] ([0]) rfl ?_
 refine s_one F rfl ?_; clear F a; intro a F
 refine t_endM M ?_; clear M; intro w M
 refine wp_seq (c_t F (by rfl) ?_)
 refine wp_skip (wp_seq (wp_block (wp_seq ?_)))
 replace F := F.keep [0,1,2,4,5,6,7] rfl
 refine wp_region_l [.ind,.ind] ([0,1]) rfl ?_
 refine s_rn 2 F rfl rfl ?_; clear F a; intro a F
 refine t_endM M ?_; clear M; intro w M
 refine wp_seq ?_
 replace F := F.keep [0,1,2,4,5,6,7] rfl
 refine wp_region_l [.ind] ([0]) rfl ?_
 refine s_one F rfl ?_; clear F a; intro a F
 replace F : Fr _ _ ((6,u6 0) :: _) := F
 refine t_endM M ?_; clear M; intro w M
 refine wp_seq (wp_seq (wp_region_l [.ind,.ind] ([0,1]) rfl ?_))
 refine s_rn 2 F rfl rfl ?_; clear F a; intro a F
 refine t_endM M ?_; clear M; intro w M
 refine c_t F (by rfl) ?_
 have M1 : Sep _ _ _ (blk b2 _ :: _) := M; replace M := M1; clear M1
 replace M := Fw.Sep.blkC M (rfl : _ = (#[_,_,_,_] : Array Value))
 replace F := F.keep [0,1,2,4,5,6,7] rfl
 refine wp_region_l [.ind,.ind,.ind,.rd,.ind] ([0,1,2,3,4]) rfl ?_
 refine s_one F rfl ?_; clear F a; intro a F
 refine s_add F rfl rfl rfl rfl rfl rfl (by unfold In64; omega) ?_; clear F a; intro a F
 refine s_ia F rfl rfl rfl rfl ar_25 rfl rfl (by omega) (by omega) ?_; clear F a; intro a F
 refine s_ld F rfl rfl rfl rfl sc_23 rfl (by exact cell_of_blk M.h0 (lit rfl)) ?_; clear F a; intro a F
 refine s_one F rfl ?_; clear F a; intro a F
 refine t_endM M ?_; clear M; intro w M
 have M1 : Sep _ _ _ (blk b2 _ :: _) := M; replace M := M1; clear M1
 replace M := Fw.Sep.blkC M (rfl : _ = (#[_,_,_,_] : Array Value))
 replace F := F.keep [0,1,2,4,5,6,7] rfl
 refine wp_region_l [.ind,.ind,.ind,.rd,.ind,.ind,.ind,.ind,.ind,.wr] ([0,1,2,3,4,5,6,7,8,9]) rfl ?_
 refine s_rn 2 F rfl rfl ?_; clear F a; intro a F
 refine s_ia F rfl rfl rfl rfl ar_25 rfl rfl (by omega) (by omega) ?_; clear F a; intro a F
 refine s_ld F rfl rfl rfl rfl sc_23 rfl (by exact cell_of_blk M.h0 (lit rfl)) ?_; clear F a; intro a F
 refine s_ushr 1 2 F rfl rfl rfl rfl rfl rfl (by decide) (by decide) ?_; clear F a; intro a F
 refine s_one F rfl ?_; clear F a; intro a F
 refine s_ushl 63 9223372036854775808 F rfl rfl rfl rfl rfl rfl (by decide) (by decide) ?_; clear F a; intro a F
 skip
 refine s_uor F rfl rfl rfl rfl rfl rfl (by omega) (by omega) ?_; clear F a; intro a F
 refine s_ia F rfl rfl rfl rfl ar_25 rfl rfl (by omega) (by omega) ?_; clear F a; intro a F
 refine s_st F M rfl rfl rfl sz_23 rfl rfl rfl (by exact Nat.le_of_ble_eq_true rfl) ?_; clear M; intro w M
 refine t_endM M ?_; clear M; intro w M
 replace F := F.keep [0,1,2,4,5,6,7] rfl
 refine wp_region_l [.ind,.ind] ([0,1]) rfl ?_
 refine s_add F rfl rfl rfl rfl rfl rfl (by unfold In64; omega) ?_; clear F a; intro a F
 refine s_one F rfl ?_; clear F a; intro a F
 refine t_endM M ?_; clear M; intro w M
 refine (show Code.wp _ _ _ _ _ from ?_)
 refine wp_seq ?_
 replace F := F.keep [0,1,2,4,5,6,7] rfl
 refine wp_region_l [.ind] ([0]) rfl ?_
 refine s_one F rfl ?_; clear F a; intro a F
 refine t_endM M ?_; clear M; intro w M
 refine wp_seq (c_t F (by rfl) ?_)
 refine wp_skip (wp_seq (wp_block (wp_seq ?_)))
 replace F := F.keep [0,1,2,4,5,6,7] rfl
 refine wp_region_l [.ind,.ind] ([0,1]) rfl ?_
 refine s_rn 2 F rfl rfl ?_; clear F a; intro a F
 refine t_endM M ?_; clear M; intro w M
 refine wp_seq ?_
 replace F := F.keep [0,1,2,4,5,6,7] rfl
 refine wp_region_l [.ind] ([0]) rfl ?_
 refine s_one F rfl ?_; clear F a; intro a F
 replace F : Fr _ _ ((6,u6 0) :: _) := F
 refine t_endM M ?_; clear M; intro w M
 refine wp_seq (wp_seq (wp_region_l [.ind,.ind] ([0,1]) rfl ?_))
 refine s_rn 2 F rfl rfl ?_; clear F a; intro a F
 refine t_endM M ?_; clear M; intro w M
 refine c_t F (by rfl) ?_
 have M1 : Sep _ _ _ (blk b2 _ :: _) := M; replace M := M1; clear M1
 replace M := Fw.Sep.blkC M (rfl : _ = (#[_,_,_,_] : Array Value))
 replace F := F.keep [0,1,2,4,5,6,7] rfl
 refine wp_region_l [.ind,.ind,.ind,.rd,.ind] ([0,1,2,3,4]) rfl ?_
 refine s_one F rfl ?_; clear F a; intro a F
 refine s_add F rfl rfl rfl rfl rfl rfl (by unfold In64; omega) ?_; clear F a; intro a F
 refine s_ia F rfl rfl rfl rfl ar_25 rfl rfl (by omega) (by omega) ?_; clear F a; intro a F
 refine s_ld F rfl rfl rfl rfl sc_23 rfl (by exact cell_of_blk M.h0 (lit rfl)) ?_; clear F a; intro a F
 refine s_one F rfl ?_; clear F a; intro a F
 refine t_endM M ?_; clear M; intro w M
 have M1 : Sep _ _ _ (blk b2 _ :: _) := M; replace M := M1; clear M1
 replace M := Fw.Sep.blkC M (rfl : _ = (#[_,_,_,_] : Array Value))
 replace F := F.keep [0,1,2,4,5,6,7] rfl
 refine wp_region_l [.ind,.ind,.ind,.rd,.ind,.ind,.ind,.ind,.ind,.wr] ([0,1,2,3,4,5,6,7,8,9]) rfl ?_
 refine s_rn 2 F rfl rfl ?_; clear F a; intro a F
 refine s_ia F rfl rfl rfl rfl ar_25 rfl rfl (by omega) (by omega) ?_; clear F a; intro a F
 refine s_ld F rfl rfl rfl rfl sc_23 rfl (by exact cell_of_blk M.h0 (lit rfl)) ?_; clear F a; intro a F
 refine s_ushr 1 2 F rfl rfl rfl rfl rfl rfl (by decide) (by decide) ?_; clear F a; intro a F
 refine s_one F rfl ?_; clear F a; intro a F
 refine s_ushl 63 9223372036854775808 F rfl rfl rfl rfl rfl rfl (by decide) (by decide) ?_; clear F a; intro a F
 skip
 refine s_uor F rfl rfl rfl rfl rfl rfl (by omega) (by omega) ?_; clear F a; intro a F
 refine s_ia F rfl rfl rfl rfl ar_25 rfl rfl (by omega) (by omega) ?_; clear F a; intro a F
 refine s_st F M rfl rfl rfl sz_23 rfl rfl rfl (by exact Nat.le_of_ble_eq_true rfl) ?_; clear M; intro w M
 refine t_endM M ?_; clear M; intro w M
 replace F := F.keep [0,1,2,4,5,6,7] rfl
 refine wp_region_l [.ind,.ind] ([0,1]) rfl ?_
 refine s_add F rfl rfl rfl rfl rfl rfl (by unfold In64; omega) ?_; clear F a; intro a F
 refine s_one F rfl ?_; clear F a; intro a F
 refine t_endM M ?_; clear M; intro w M
 refine (show Code.wp _ _ _ _ _ from ?_)
 refine wp_seq ?_
 replace F := F.keep [0,1,2,4,5,6,7] rfl
 refine wp_region_l [.ind] ([0]) rfl ?_
 refine s_one F rfl ?_; clear F a; intro a F
 refine t_endM M ?_; clear M; intro w M
 refine wp_seq (c_t F (by rfl) ?_)
 refine wp_skip (wp_seq (wp_block (wp_seq ?_)))
 replace F := F.keep [0,1,2,4,5,6,7] rfl
 refine wp_region_l [.ind,.ind] ([0,1]) rfl ?_
 refine s_rn 2 F rfl rfl ?_; clear F a; intro a F
 refine t_endM M ?_; clear M; intro w M
 refine wp_seq ?_
 replace F := F.keep [0,1,2,4,5,6,7] rfl
 refine wp_region_l [.ind] ([0]) rfl ?_
 refine s_one F rfl ?_; clear F a; intro a F
 replace F : Fr _ _ ((6,u6 0) :: _) := F
 refine t_endM M ?_; clear M; intro w M
 refine wp_seq (wp_seq (wp_region_l [.ind,.ind] ([0,1]) rfl ?_))
 refine s_rn 2 F rfl rfl ?_; clear F a; intro a F
 refine t_endM M ?_; clear M; intro w M
 refine c_f F (by rfl) ?_
 refine wp_seq ?_
 replace F := F.keep [0,1,2,4,5,6,7] rfl
 refine wp_region_l [.ind] ([0]) rfl ?_
 refine s_one F rfl ?_; clear F a; intro a F
 refine t_endM M ?_; clear M; intro w M
 refine c_if F rfl ?_ ?_
 clear F; intro hc0 F
 try rw [hc0] at F
 skip
 replace F := F.keep [0,1,2,4,5,6,7] rfl
 refine wp_region_l [.ind] ([0]) rfl ?_
 refine s_one F rfl ?_; clear F a; intro a F
 replace F : Fr _ _ ((6,u6 1) :: _) := F
 refine t_endM M ?_; clear M; intro w M
 have M1 : Sep _ _ _ (blk b2 _ :: _) := M; replace M := M1; clear M1
 replace M := Fw.Sep.blkC M (rfl : _ = (#[_,_,_,_] : Array Value))
 refine wp_region_l [.ind,.ind,.ind,.rd,.ind,.ind,.ind,.ind,.ind,.wr] ([0,1,2,3,4,5,6,7,8,9]) rfl ?_
 refine s_rn 2 F rfl rfl ?_; clear F a; intro a F
 refine s_ia F rfl rfl rfl rfl ar_25 rfl rfl (by omega) (by omega) ?_; clear F a; intro a F
 refine s_ld F rfl rfl rfl rfl sc_23 rfl (by exact cell_of_blk M.h0 (lit rfl)) ?_; clear F a; intro a F
 refine s_ushr 1 2 F rfl rfl rfl rfl rfl rfl (by decide) (by decide) ?_; clear F a; intro a F
 refine s_one F rfl ?_; clear F a; intro a F
 refine s_ushl 63 9223372036854775808 F rfl rfl rfl rfl rfl rfl (by decide) (by decide) ?_; clear F a; intro a F
 skip
 refine s_uor F rfl rfl rfl rfl rfl rfl (by omega) (by omega) ?_; clear F a; intro a F
 refine s_ia F rfl rfl rfl rfl ar_25 rfl rfl (by omega) (by omega) ?_; clear F a; intro a F
 refine s_st F M rfl rfl rfl sz_23 rfl rfl rfl (by exact Nat.le_of_ble_eq_true rfl) ?_; clear M; intro w M
 refine t_endM M ?_; clear M; intro w M
 replace F := F.keep [0,1,2,4,5,6,7] rfl
 refine wp_region_l [.ind,.ind] ([0,1]) rfl ?_
 refine s_add F rfl rfl rfl rfl rfl rfl (by unfold In64; omega) ?_; clear F a; intro a F
 refine s_one F rfl ?_; clear F a; intro a F
 refine t_endM M ?_; clear M; intro w M
 refine (show Code.wp _ _ _ _ _ from ?_)
 refine wp_seq ?_
 replace F := F.keep [0,1,2,4,5,6,7] rfl
 refine wp_region_l [.ind] ([0]) rfl ?_
 refine s_one F rfl ?_; clear F a; intro a F
 refine t_endM M ?_; clear M; intro w M
 refine wp_seq ?_
 refine c_f F (by rfl) ?_
 refine wp_exit ?_
 refine wp_seq ?_
 replace F := F.keep [0,1,2,4,5,6,7] rfl
 refine wp_region_l [.rd,.wr] ([0,1]) rfl ?_
 refine s_lda F rfl rfl rfl rfl ag_25 rfl rfl (cells_whole M.h0) ?_; clear F a; intro a F
 refine s_stW F M.f1 rfl rfl rfl sz_25 rfl rfl rfl rfl rfl ?_; clear M; intro w M
 refine t_endM M ?_; clear M; intro w M
 refine wp_ret ?_
 refine rt1 F rfl (by exact rv_a F rfl ag_25 rfl (cells_whole M.h0)) ?_
 refine ⟨_,rfl,?_,M.chg⟩
 clear M F
 rw [if_pos (by assumption)]
 have o0 := or63 (x := x0 / 2) (y := x1) (by omega)
 have o1 := or63 (x := x1 / 2) (y := x2) (by omega)
 have o2 := or63 (x := x2 / 2) (y := x3) (by omega)
 have o3 := or63c (x := x3 / 2) (by omega)
 have o4 := Nat.or_zero (x3 / 2)
 have o5 := or63 (x := x3 / 2) (y := 1) (by omega)
 have o6 := or63 (x := x3 / 2) (y := 0) (by omega)
 exact nV_eq (by omega) (by omega) (by omega) (by omega)
 clear F; intro hc1 F
 try rw [hc1] at F
 skip
 refine wp_skip ?_
 have M1 : Sep _ _ _ (blk b2 _ :: _) := M; replace M := M1; clear M1
 replace M := Fw.Sep.blkC M (rfl : _ = (#[_,_,_,_] : Array Value))
 replace F := F.keep [0,1,2,4,5,6,7] rfl
 refine wp_region_l [.ind,.ind,.ind,.rd,.ind,.ind,.ind,.ind,.ind,.wr] ([0,1,2,3,4,5,6,7,8,9]) rfl ?_
 refine s_rn 2 F rfl rfl ?_; clear F a; intro a F
 refine s_ia F rfl rfl rfl rfl ar_25 rfl rfl (by omega) (by omega) ?_; clear F a; intro a F
 refine s_ld F rfl rfl rfl rfl sc_23 rfl (by exact cell_of_blk M.h0 (lit rfl)) ?_; clear F a; intro a F
 refine s_ushr 1 2 F rfl rfl rfl rfl rfl rfl (by decide) (by decide) ?_; clear F a; intro a F
 refine s_one F rfl ?_; clear F a; intro a F
 refine s_ushl 63 9223372036854775808 F rfl rfl rfl rfl rfl rfl (by decide) (by decide) ?_; clear F a; intro a F
 skip
 refine s_uor F rfl rfl rfl rfl rfl rfl (by omega) (by omega) ?_; clear F a; intro a F
 refine s_ia F rfl rfl rfl rfl ar_25 rfl rfl (by omega) (by omega) ?_; clear F a; intro a F
 refine s_st F M rfl rfl rfl sz_23 rfl rfl rfl (by exact Nat.le_of_ble_eq_true rfl) ?_; clear M; intro w M
 refine t_endM M ?_; clear M; intro w M
 replace F := F.keep [0,1,2,4,5,6,7] rfl
 refine wp_region_l [.ind,.ind] ([0,1]) rfl ?_
 refine s_add F rfl rfl rfl rfl rfl rfl (by unfold In64; omega) ?_; clear F a; intro a F
 refine s_one F rfl ?_; clear F a; intro a F
 refine t_endM M ?_; clear M; intro w M
 refine (show Code.wp _ _ _ _ _ from ?_)
 refine wp_seq ?_
 replace F := F.keep [0,1,2,4,5,6,7] rfl
 refine wp_region_l [.ind] ([0]) rfl ?_
 refine s_one F rfl ?_; clear F a; intro a F
 refine t_endM M ?_; clear M; intro w M
 refine wp_seq ?_
 refine c_f F (by rfl) ?_
 refine wp_exit ?_
 refine wp_seq ?_
 replace F := F.keep [0,1,2,4,5,6,7] rfl
 refine wp_region_l [.rd,.wr] ([0,1]) rfl ?_
 refine s_lda F rfl rfl rfl rfl ag_25 rfl rfl (cells_whole M.h0) ?_; clear F a; intro a F
 refine s_stW F M.f1 rfl rfl rfl sz_25 rfl rfl rfl rfl rfl ?_; clear M; intro w M
 refine t_endM M ?_; clear M; intro w M
 refine wp_ret ?_
 refine rt1 F rfl (by exact rv_a F rfl ag_25 rfl (cells_whole M.h0)) ?_
 refine ⟨_,rfl,?_,M.chg⟩
 clear M F
 rw [if_neg (by simp_all)]
 have o0 := or63 (x := x0 / 2) (y := x1) (by omega)
 have o1 := or63 (x := x1 / 2) (y := x2) (by omega)
 have o2 := or63 (x := x2 / 2) (y := x3) (by omega)
 have o3 := or63c (x := x3 / 2) (by omega)
 have o4 := Nat.or_zero (x3 / 2)
 have o5 := or63 (x := x3 / 2) (y := 1) (by omega)
 have o6 := or63 (x := x3 / 2) (y := 0) (by omega)
 exact nV_eq (by omega) (by omega) (by omega) (by omega)
theorem c179 (p : Nat) (hp : p < 115792089237316195423570985008687907853269984665640564039457584007913129639936) (z : Bool) (w0 : World) : Cl Tryz.prog 179 #[nV p,.bool z] w0 (RetQ w0 fun r => r = nV ((p + if z = true then 115792089237316195423570985008687907853269984665640564039457584007913129639936 else 0) / 2)) := by
 have h := c179l (p % 18446744073709551616) (p / 18446744073709551616 % 18446744073709551616) (p / 340282366920938463463374607431768211456 % 18446744073709551616) (p / 6277101735386680763835789423207666416102355444464034512896 % 18446744073709551616) (Nat.mod_lt _ (by decide)) (Nat.mod_lt _ (by decide)) (Nat.mod_lt _ (by decide)) (Nat.mod_lt _ (by decide)) z w0
 rw [← split4 hp] at h
 exact h
end Go.Proofs.YteajeenmojbjhaaGreatDoor
namespace Go.Proofs.YteajeenmojbjhaaGreatDoor
open Go Fw
theorem cb_4_N23 : callB Tryz.prog 4 = true := by kernel_rfl
theorem cb_6_N23 : callB Tryz.prog 6 = true := by kernel_rfl
theorem cb_7_N23 : callB Tryz.prog 7 = true := by kernel_rfl
theorem cb_9_N23 : callB Tryz.prog 9 = true := by kernel_rfl
theorem cb_12_N23 : callB Tryz.prog 12 = true := by kernel_rfl
theorem yN_snoc (d : Nat) : ∀ (l ws : List Nat) (j c w : Nat),l[j]? = some c → ws[j]? = some w → yN d (l.take (j + 1)) ws = yN d (l.take j) ws ++ [(c + d * w % 115792089210356248762697446949407573529996955224135760342422259061068512044369) % 115792089210356248762697446949407573529996955224135760342422259061068512044369]
 | [],_,_,_,_,h,_ => by simp at h
 | _ :: _,[],_,_,_,_,h => by simp at h
 | x :: l,y :: ws,0,c,w,h,h' => by
   simp only [List.getElem?_cons_zero,Option.some.injEq] at h h'
   subst h; subst h'
   simp [yN]
 | x :: l,y :: ws,j + 1,c,w,h,h' => by
   have := yN_snoc d l ws j c w (by simpa using h) (by simpa using h')
   show _ :: yN d (l.take (j + 1)) ws = _ :: (yN d (l.take j) ws ++ _)
   rw [this]
theorem y_zero2 {pl : List Int} {l : List Nat} {s c : Nat} (h : l[Int.toNat 0]? = some c) (hs : s < 115792089210356248762697446949407573529996955224135760342422259061068512044369) (hc : c < 115792089210356248762697446949407573529996955224135760342422259061068512044369) : horner 0 (yN ((s + (115792089210356248762697446949407573529996955224135760342422259061068512044369 - c % 115792089210356248762697446949407573529996955224135760342422259061068512044369)) % 115792089210356248762697446949407573529996955224135760342422259061068512044369) l (prodN pl)) = s := by
 cases l with
 | nil => simp at h
 | cons x l =>
   have : x = c := by simpa using h
   subst this
   exact y_zero pl s x l hs hc
theorem yN_lt (d : Nat) : ∀ (l ws : List Nat),∀ x ∈ yN d l ws,x < 115792089210356248762697446949407573529996955224135760342422259061068512044369
 | [],_,_,h => by simp [yN] at h
 | _ :: _,[],_,h => by simp [yN] at h
 | c :: l,w :: ws,x,h => by
   rcases List.mem_cons.1 h with rfl | h
   · exact Nat.mod_lt _ (by decide)
   · exact yN_lt d l ws x h
theorem yN_le (d : Nat) : ∀ (l ws : List Nat),(yN d l ws).length ≤ l.length
 | [],_ => by simp [yN]
 | _ :: _,[] => by simp [yN]
 | c :: l,w :: ws => by show (yN d l ws).length + 1 ≤ l.length + 1; have := yN_le d l ws; omega
theorem prod_lt (pl : List Int) : ∀ x ∈ prodN pl,x < 115792089210356248762697446949407573529996955224135760342422259061068512044369 := by
 have key : ∀ (pl : List Int) (w : List Nat),(∀ x ∈ w,x < 115792089210356248762697446949407573529996955224135760342422259061068512044369) → ∀ x ∈ pl.foldl (fun w i => timesN (negInv i.toNat) w) w,x < 115792089210356248762697446949407573529996955224135760342422259061068512044369 := by
   intro pl
   induction pl with
   | nil => exact fun w h => h
   | cons i pl ih => exact fun w h => ih _ (times_lt _ _)
 exact key pl [1] (by intro x hx; rw [List.mem_singleton.1 hx]; decide)
set_option maxRecDepth 100000 in
set_option maxHeartbeats 2000000 in
theorem c3 (G : World → Prop) (hGc : ∀ w u,G w → Chg (fun _ => False) w u → G u) (h6 : ∀ w,G w → Cl Tryz.prog 6 #[] w (RetQ w fun r => r = .bool true)) (l : List Nat) (hx : ∀ x ∈ l,x < 115792089237316195423570985008687907853269984665640564039457584007913129639936) (hl : l.length ≤ 9223372036854775807) (o : Nat) (ho : o < 115792089237316195423570985008687907853269984665640564039457584007913129639936) (pl : List Int) (hp : pl.length ≤ 9223372036854775807) (v0 v2 : Value) (w0 : World) (hr0 : RdSl w0.heap v0 l.length 4 (l.flatMap encX)) (hr2 : RdSl w0.heap v2 pl.length 1 (pl.flatMap encI)) (hG : G w0) : Cl Tryz.prog 3 #[v0,nV o,v2] w0 (RetQ w0 fun r => r = .bool true) := by
 have M : Sep (fun _ => False) w0 w0 _ := Sep.nil _ w0
 have hro0 := ro_of hr0
 obtain ⟨A0,cc0,rfl,hcc0⟩ := hr0.form
 have hro2 := ro_of hr2
 obtain ⟨A2,cc2,rfl,hcc2⟩ := hr2.form
 refine enter (vs := [_,_,_]) Tryz.func3 rfl rfl rfl ?_
 intro a F
 refine wp_seq (wp_region_l [.wr,.ind] ([0,1]) rfl ?_)
 refine s_bxA F M rfl rfl rfl rfl rfl ?_; clear F a M; intro b4 w M a F
 refine s_one F rfl ?_; clear F a; intro a F
 refine t_endM M ?_; clear M; intro w M
 refine wp_seq (wp_seq (wp_region_l [.ind,.wr,.ind,.ind,.ind,.ind,.ind,.ind,.ind,.ind,.ind,.ind,.rd,.wr,.ind,.ind] ([0,1,2,3,4,5,6,7,8,9,10,11,12,13,14,15]) rfl ?_))
 refine s_one F rfl ?_; clear F a; intro a F
 refine s_cq F M rfl rfl rfl rfl rfl (rfl : _ = some [_]) cb_4_N23 (fun nd_ => c4 l hx hl _ _ (by exact (M.drewN nd_).chg.ro hro0)) ?_; clear F a M; rintro v w ⟨bp,rfl,hbp⟩ M a F
 refine s_rn 2 F rfl rfl ?_; clear F a; intro a F
 refine bsplit F 18 rfl ?_ ?_
 clear F; intro hc0 F
 try rw [hc0] at F
 replace hc0 := nt hc0
 refine s_rn 12 F rfl rfl ?_; clear F a; intro a F
 refine t_endM M ?_; clear M; intro w M
 refine c_t F rfl ?_
 refine wp_seq ?_
 replace F := F.keep [0,1,2,4,6] rfl
 refine wp_region_l [.wr,.ind] ([0,1]) rfl ?_
 refine s_cq F M rfl rfl rfl rfl rfl (rfl : _ = some []) cb_6_N23 (fun nd_ => h6 _ (hGc _ _ hG (M.drewN nd_).chg)) ?_; clear F a M; rintro v w rfl M a F
 refine s_one F rfl ?_; clear F a; intro a F
 refine t_endM M ?_; clear M; intro w M
 refine wp_ret ?_
 refine ret1 F rfl rfl ?_
 exact ⟨_,rfl,rfl,M.chg⟩
 clear F; intro hc1 F
 try rw [hc1] at F
 replace hc1 := nf hc1
 refine s_one F rfl ?_; clear F a; intro a F
 refine s_len F rfl rfl rfl rfl sl_26 rfl ?_; clear F a; intro a F
 refine s_one F rfl ?_; clear F a; intro a F
 refine s_len F rfl rfl rfl rfl sl_22 rfl ?_; clear F a; intro a F
 refine s_sub F rfl rfl rfl rfl rfl rfl (by unfold In64; omega) ?_; clear F a; intro a F
 refine s_rn 3 F rfl rfl ?_; clear F a; intro a F
 refine bsplit F 26 rfl ?_ ?_
 clear F; intro hc2 F
 try rw [hc2] at F
 replace hc2 := nd1 hc2
 refine s_rn 4 F rfl rfl ?_; clear F a; intro a F
 refine t_endM M ?_; clear M; intro w M
 refine c_t F rfl ?_
 refine wp_seq ?_
 replace F := F.keep [0,1,2,4,6] rfl
 refine wp_region_l [.wr,.ind] ([0,1]) rfl ?_
 refine s_cq F M rfl rfl rfl rfl rfl (rfl : _ = some []) cb_6_N23 (fun nd_ => h6 _ (hGc _ _ hG (M.drewN nd_).chg)) ?_; clear F a M; rintro v w rfl M a F
 refine s_one F rfl ?_; clear F a; intro a F
 refine t_endM M ?_; clear M; intro w M
 refine wp_ret ?_
 refine ret1 F rfl rfl ?_
 exact ⟨_,rfl,rfl,M.chg⟩
 clear F; intro hc3 F
 try rw [hc3] at F
 replace hc3 := nd0 hc3
 refine s_lda F rfl rfl rfl rfl ag_25 rfl rfl (cells_whole M.h0) ?_; clear F a; intro a F
 refine s_cq F M rfl rfl rfl rfl rfl (rfl : _ = some [_]) cb_5 (fun nd_ => c5 o ho _) ?_; clear F a M; rintro v w rfl M a F
 refine s_rn 2 F rfl rfl ?_; clear F a; intro a F
 refine t_endM M ?_; clear M; intro w M
 refine c_if F rfl ?_ ?_
 clear F; intro hc4 F
 try rw [hc4] at F
 replace hc4 := nd1 hc4
 refine wp_seq ?_
 replace F := F.keep [0,1,2,4,6] rfl
 refine wp_region_l [.wr,.ind] ([0,1]) rfl ?_
 refine s_cq F M rfl rfl rfl rfl rfl (rfl : _ = some []) cb_6_N23 (fun nd_ => h6 _ (hGc _ _ hG (M.drewN nd_).chg)) ?_; clear F a M; rintro v w rfl M a F
 refine s_one F rfl ?_; clear F a; intro a F
 refine t_endM M ?_; clear M; intro w M
 refine wp_ret ?_
 refine ret1 F rfl rfl ?_
 exact ⟨_,rfl,rfl,M.chg⟩
 clear F; intro hc5 F
 try rw [hc5] at F
 replace hc5 := nd0 hc5
 refine wp_skip (wp_seq (wp_seq ?_))
 replace F := F.keep [0,1,2,4,6] rfl
 refine wp_region_l [.ind,.ind,.ind] ([0,1,2]) rfl ?_
 refine s_one F rfl ?_; clear F a; intro a F
 refine s_len F rfl rfl rfl rfl sl_26 rfl ?_; clear F a; intro a F
 refine s_one F rfl ?_; clear F a; intro a F
 refine t_endM M ?_; clear M; intro w M
 refine c_if F rfl ?_ ?_
 clear F; intro hc6 F
 try rw [hc6] at F
 replace hc6 := of_decide_eq_true hc6
 refine wp_seq ?_
 replace F := F.keep [0,1,2,4,6] rfl
 refine wp_region_l [.wr,.ind] ([0,1]) rfl ?_
 refine s_cq F M rfl rfl rfl rfl rfl (rfl : _ = some []) cb_6_N23 (fun nd_ => h6 _ (hGc _ _ hG (M.drewN nd_).chg)) ?_; clear F a M; rintro v w rfl M a F
 refine s_one F rfl ?_; clear F a; intro a F
 refine t_endM M ?_; clear M; intro w M
 refine wp_ret ?_
 refine ret1 F rfl rfl ?_
 exact ⟨_,rfl,rfl,M.chg⟩
 clear F; intro hc7 F
 try rw [hc7] at F
 replace hc7 := of_decide_eq_false hc7
 refine wp_skip (wp_seq (wp_seq ?_))
 obtain ⟨k1,k2,k3⟩ := hbp hc1
 replace F := F.keep [0,1,2,4,6] rfl
 refine wp_region_l [.ind,.wr,.ind,.ind,.ind,.ind,.ind] ([0,1,2,3,4,5,6]) rfl ?_
 refine s_one F rfl ?_; clear F a; intro a F
 refine s_cq F M rfl rfl rfl rfl rfl (rfl : _ = some [_]) cb_7_N23 (fun nd_ => c7 pl (by omega) _ _ ((M.drewN nd_).chg.ro hro2)) ?_; clear F a M; rintro v w ⟨xw,ew,rfl,hew⟩ M a F
 refine s_rn 5 F rfl rfl ?_; clear F a; intro a F
 refine t_endM M ?_; clear M; intro w M
 refine wp_seq ?_
 replace F := F.keep [0,1,2,4,6,8] rfl
 refine wp_region_l [.ind,.ind] ([0,1]) rfl ?_
 refine s_rn 2 F rfl rfl ?_; clear F a; intro a F
 refine t_endM M ?_; clear M; intro w M
 refine c_if F rfl ?_ ?_
 clear F; intro hc8 F
 try rw [hc8] at F
 replace hc8 := nd1 hc8
 refine wp_seq ?_
 replace F := F.keep [0,1,2,4,6,8] rfl
 refine wp_region_l [.wr,.ind] ([0,1]) rfl ?_
 refine s_cq F M rfl rfl rfl rfl rfl (rfl : _ = some []) cb_6_N23 (fun nd_ => h6 _ (hGc _ _ hG (M.drewN nd_).chg)) ?_; clear F a M; rintro v w rfl M a F
 refine s_one F rfl ?_; clear F a; intro a F
 refine t_endM M ?_; clear M; intro w M
 refine wp_ret ?_
 refine ret1 F rfl rfl ?_
 exact ⟨_,rfl,rfl,M.chg⟩
 clear F; intro hc9 F
 try rw [hc9] at F
 replace hc9 := nd0 hc9
 refine wp_skip (wp_seq ?_)
 refine cutX (X := (Nat) × (Nat)) (m0 := []) F [0,1,2,4,6,8] rfl M (fun ((d9,e46) : (Nat) × (Nat)) => (l[Int.toNat 0]? = some e46)) (fun ((d9,e46) : (Nat) × (Nat)) => [(9,.pointer (some ⟨d9,0,none⟩))]) (fun ((d9,e46) : (Nat) × (Nat)) => [blk d9 (.cells (#[u6 (((o + (115792089210356248762697446949407573529996955224135760342422259061068512044369 - e46 % 115792089210356248762697446949407573529996955224135760342422259061068512044369)) % 115792089210356248762697446949407573529996955224135760342422259061068512044369) % 18446744073709551616),u6 (((o + (115792089210356248762697446949407573529996955224135760342422259061068512044369 - e46 % 115792089210356248762697446949407573529996955224135760342422259061068512044369)) % 115792089210356248762697446949407573529996955224135760342422259061068512044369) / 18446744073709551616 % 18446744073709551616),u6 (((o + (115792089210356248762697446949407573529996955224135760342422259061068512044369 - e46 % 115792089210356248762697446949407573529996955224135760342422259061068512044369)) % 115792089210356248762697446949407573529996955224135760342422259061068512044369) / 340282366920938463463374607431768211456 % 18446744073709551616),u6 (((o + (115792089210356248762697446949407573529996955224135760342422259061068512044369 - e46 % 115792089210356248762697446949407573529996955224135760342422259061068512044369)) % 115792089210356248762697446949407573529996955224135760342422259061068512044369) / 6277101735386680763835789423207666416102355444464034512896 % 18446744073709551616)]) 25 (0,0))]) ?_ ?_
 replace F := F.keep [0,1,2,4,6,8] rfl
 refine wp_region_t [.rd,.ind,.ind,.rd,.wr,.wr,.wr] [(0,5),(3,5)] (.one 0 (.one 1 (.one 2 (.one 3 (.two 4 5 (otOf [5,6]) (otOf [4,6])))))) mixed (by kernel_rfl) ?_
 refine s_ldaL F rfl rfl rfl rfl ag_25 rfl rfl (cells_whole M.h0) ?_; clear F a; intro a F
 refine s_one F rfl ?_; clear F a; intro a F
 refine s_ix F rfl rfl rfl rfl sl_22 rfl rfl (by exact M.chg.ro hro0) (by omega) (by omega) ?_; clear F a; intro e46 he46 a F
 refine s_ldaL F rfl rfl rfl rfl ag_25 rfl rfl (rdsX (M.chg.ro hro0) (by intro e; rfl) he46) ?_; clear F a; intro a F
 refine t_two ?_ ?_
 refine s_cqL F M rfl rfl rfl rfl rfl (rfl : _ = some [_,_]) cb_8 (fun nd_ => c8 o e46 ho (hx e46 (List.mem_of_getElem? he46)) _) (fun _ w _ M => (by (refine pend_skip rfl ?_); (refine pend_skip rfl ?_); exact pend_none)) ?_; clear F a M; rintro v w rfl M a F
 refine s_alcL F M rfl rfl rfl rfl zr_25 rfl (fun b w M => (by (refine pend_take (by exact rdsX (M.chg.ro hro0) (by intro e; rfl) he46) ?_); (refine pend_take (by exact cells_whole M.h1) ?_); exact pend_none)) ?_; clear F a M; intro b9 w M a F
 refine s_stWL F M rfl rfl rfl sz_25 rfl rfl rfl rfl rfl (fun w M => (by (refine pend_skip rfl ?_); (refine pend_skip rfl ?_); exact pend_none)) ?_; clear M; intro w M
 refine t_endM M ?_; clear M; intro w M
 refine joined ((b9),(e46)) he46 (F.keep [9,0,1,2,4,6,8] rfl) ?_
 try dsimp only [List.cons_append,List.nil_append]
 refine M.pick ?_; repeat (first | exact PkG.nil | refine PkG.cons 0 rfl rfl ?_ | refine PkG.cons 1 rfl rfl ?_)
 refine s_alcL F M rfl rfl rfl rfl zr_25 rfl (fun b w M => (by (refine pend_take (by exact rdsX (M.chg.ro hro0) (by intro e; rfl) he46) ?_); (refine pend_take (by exact cells_whole M.h1) ?_); exact pend_none)) ?_; clear F a M; intro b9 w M a F
 refine s_cqL F M rfl rfl rfl rfl rfl (rfl : _ = some [_,_]) cb_8 (fun nd_ => c8 o e46 ho (hx e46 (List.mem_of_getElem? he46)) _) (fun _ w _ M => (by (refine pend_skip rfl ?_); (refine pend_skip rfl ?_); exact pend_none)) ?_; clear F a M; rintro v w rfl M a F
 refine s_stWL F M rfl rfl rfl sz_25 rfl rfl rfl rfl rfl (fun w M => (by (refine pend_skip rfl ?_); (refine pend_skip rfl ?_); exact pend_none)) ?_; clear M; intro w M
 refine t_endM M ?_; clear M; intro w M
 refine joined ((b9),(e46)) he46 (F.keep [9,0,1,2,4,6,8] rfl) ?_
 try dsimp only [List.cons_append,List.nil_append]
 refine M.pick ?_; repeat (first | exact PkG.nil | refine PkG.cons 0 rfl rfl ?_ | refine PkG.cons 1 rfl rfl ?_)
 clear F M; clear a; (try clear w)
 rintro ⟨d9,e46⟩ a w he46 F M; try dsimp only at F M
 try simp only [List.cons_append,List.nil_append] at F M
 try dsimp only at he46
 refine wp_seq ?_
 have hpk : PlOk pl := hew (by omega)
 refine wp_region_l [.ind,.wr,.ind] ([0,1,2]) rfl ?_
 refine s_bld F rfl rfl rfl rfl (parts1 F rfl) (bl_25_0 _) ?_; clear F a; intro a F
 refine s_bs F M rfl rfl rfl rfl (parts1 F rfl) (bs_22_1 _ _ _ _) ?_; clear F a M; intro b50 w M a F
 refine s_one F rfl ?_; clear F a; intro a F
 refine t_endM M ?_; clear M; intro w M
 refine wp_seq (wp_seq ?_)
 replace F := F.keep [0,1,2,4,6,8,9,10] rfl
 refine wp_region_l [.ind] ([0]) rfl ?_
 refine s_one F rfl ?_; clear F a; intro a F
 refine t_endM M ?_; clear M; intro w M
 refine wp_block ?_
 replace M := sl_of_blk (m := 1) (sz := 4) M rfl
 replace M := (show Sep _ _ _ (numR (.slice (some ⟨b50,0,none⟩) (prodN (pl.take (0 : Int).toNat)).length 1) (prodN (pl.take (0 : Int).toNat)) :: _) from M)
 have M1 : Sep _ _ _ (slR _ _ 25 _ _ :: _) := M; replace M := M1; clear M1
 refine loopX (X := (Int) × (Option Addr) × (Nat)) F [0,1,2,4,6,8,9] rfl (fun ((j,A,d) : (Int) × (Option Addr) × (Nat)) => (0 ≤ j) ∧ (j ≤ pl.length)) (fun ((j,A,d) : (Int) × (Option Addr) × (Nat)) => [(10,.slice A (prodN (pl.take j.toNat)).length d),(11,.int .i64 j)]) (fun ((j,A,d) : (Int) × (Option Addr) × (Nat)) => [numR (.slice A (prodN (pl.take j.toNat)).length d) (prodN (pl.take j.toNat))]) (fun ((j,A,d) : (Int) × (Option Addr) × (Nat)) => pl.length - j.toNat) ((0),(some ⟨b50,0,none⟩),(1)) M ⟨(by omega),(by omega)⟩ (F.keep [10,11,0,1,2,4,6,8,9] rfl) ?_
 clear F M; clear a; (try clear w)
 rintro ⟨j,A,d⟩ a w ⟨j0,j1⟩ F M; try dsimp only at F M
 try simp only [List.cons_append,List.nil_append] at F M
 try dsimp only at j0 j1
 refine wp_seq (wp_seq (wp_region_l [.ind,.ind,.ind,.ind] ([0,1,2,3]) rfl ?_))
 refine s_rn 2 F rfl rfl ?_; clear F a; intro a F
 refine s_len F rfl rfl rfl rfl sl_26 rfl ?_; clear F a; intro a F
 refine s_one F rfl ?_; clear F a; intro a F
 refine t_endM M ?_; clear M; intro w M
 refine c_if F rfl ?_ ?_
 clear F; intro hc10 F
 try rw [hc10] at F
 replace hc10 := of_decide_eq_true hc10
 refine wp_skip (wp_seq (wp_block ?_))
 replace F := F.keep [0,1,2,4,6,8,9,10,11] rfl
 refine wp_region_l [.ind,.ind,.ind,.ind,.rd,.wr,.ind] ([0,1,2,3,4,5,6]) rfl ?_
 refine s_rn 3 F rfl rfl ?_; clear F a; intro a F
 refine s_ix F rfl rfl rfl rfl sl_26 rfl rfl (by exact M.chg.ro hro2) (by omega) (by omega) ?_; clear F a; intro e60 he60 a F
 refine s_ld F rfl rfl rfl rfl sc_3 rfl (by exact rdX0 (M.chg.ro hro2) (by intro e; rfl) he60 rfl) ?_; clear F a; intro a F
 refine s_call (m := []) F M rfl rfl rfl rfl rfl (rfl : _ = some [_,_]) cb_9_N23 (fun nd_ => c9 (prodN (pl.take j.toNat)) (fun x h => Nat.lt_trans (prod_lt _ x h) (by decide)) (by rw [prod_len,List.length_take]; omega) e60 (by have := hpk.rg e60 (List.mem_of_getElem? he60); omega) (by have := hpk.rg e60 (List.mem_of_getElem? he60); omega) _ _ (by exact SlOk.rd (M.drewN nd_).h0)) ?_; clear F a M; rintro v xv w rfl M a F; (try simp only [List.cons_append,List.nil_append] at M)
 replace M := M.f1.tl
 obtain ⟨A62,c62,rfl⟩ := SlOk.form M.h0
 rw [← prod_snoc,← take_snocI he60,show j.toNat + 1 = (j + 1).toNat by omega] at F M
 refine s_one F rfl ?_; clear F a; intro a F
 refine t_endM M ?_; clear M; intro w M
 replace F := F.keep [0,1,2,4,6,8,9,10,11] rfl
 refine wp_region_l [.ind,.ind,.ind] ([0,1,2]) rfl ?_
 refine s_one F rfl ?_; clear F a; intro a F
 refine s_add F rfl rfl rfl rfl rfl rfl (by unfold In64; omega) ?_; clear F a; intro a F
 refine s_one F rfl ?_; clear F a; intro a F
 refine t_endM M ?_; clear M; intro w M
 refine again ((j + 1),(A62),(c62)) (by show _ < _; (try dsimp only); omega) ⟨(by omega),(by assumption)⟩ (F.keep [10,11,0,1,2,4,6,8,9] rfl) ?_
 try dsimp only [List.cons_append,List.nil_append]
 refine M.pick ?_; repeat (first | exact PkG.nil | refine PkG.cons 0 rfl rfl ?_ | refine PkG.cons 1 rfl rfl ?_ | refine PkG.cons 2 rfl rfl ?_)
 clear F; intro hc11 F
 try rw [hc11] at F
 replace hc11 := of_decide_eq_false hc11
 refine wp_exit ?_
 refine wp_seq ?_
 obtain rfl : j = (pl.length : Int) := by omega
 rw [Int.toNat_natCast,List.take_length] at F M
 have hpln : (prodN pl).length = l.length := by rw [prod_len]; omega
 replace F := F.keep [0,1,2,4,6,8,9,10,11] rfl
 refine wp_region_l [.ind] ([0]) rfl ?_
 refine s_one F rfl ?_; clear F a; intro a F
 refine t_endM M ?_; clear M; intro w M
 refine wp_seq (wp_seq (wp_region_l [.ind] ([0]) rfl ?_))
 refine s_one F rfl ?_; clear F a; intro a F
 refine t_endM M ?_; clear M; intro w M
 refine wp_block ?_
 replace M := M.nilT encX 25 4
 have M1 : Sep _ _ _ (slR _ _ 25 _ _ :: _) := M; replace M := M1; clear M1
 refine loopX (X := (Int) × (Option Addr) × (Nat)) F [0,1,2,4,6,8,9,10,11] rfl (fun ((j,A,d) : (Int) × (Option Addr) × (Nat)) => (0 ≤ j) ∧ (j ≤ l.length)) (fun ((j,A,d) : (Int) × (Option Addr) × (Nat)) => [(12,.slice A (yN ((o + (115792089210356248762697446949407573529996955224135760342422259061068512044369 - e46 % 115792089210356248762697446949407573529996955224135760342422259061068512044369)) % 115792089210356248762697446949407573529996955224135760342422259061068512044369) (l.take j.toNat) (prodN pl)).length d),(13,.int .i64 j)]) (fun ((j,A,d) : (Int) × (Option Addr) × (Nat)) => [numR (.slice A (yN ((o + (115792089210356248762697446949407573529996955224135760342422259061068512044369 - e46 % 115792089210356248762697446949407573529996955224135760342422259061068512044369)) % 115792089210356248762697446949407573529996955224135760342422259061068512044369) (l.take j.toNat) (prodN pl)).length d) (yN ((o + (115792089210356248762697446949407573529996955224135760342422259061068512044369 - e46 % 115792089210356248762697446949407573529996955224135760342422259061068512044369)) % 115792089210356248762697446949407573529996955224135760342422259061068512044369) (l.take j.toNat) (prodN pl))]) (fun ((j,A,d) : (Int) × (Option Addr) × (Nat)) => l.length - j.toNat) ((0),(none),(0)) M ⟨(by omega),(by omega)⟩ (F.keep [12,13,0,1,2,4,6,8,9,10,11] rfl) ?_
 clear F M; clear a; (try clear w)
 rintro ⟨j,A,d⟩ a w ⟨j0,j1⟩ F M; try dsimp only at F M
 try simp only [List.cons_append,List.nil_append] at F M
 try dsimp only at j0 j1
 have hyl0 : (yN ((o + (115792089210356248762697446949407573529996955224135760342422259061068512044369 - e46 % 115792089210356248762697446949407573529996955224135760342422259061068512044369)) % 115792089210356248762697446949407573529996955224135760342422259061068512044369) (l.take j.toNat) (prodN pl)).length ≤ 3 := by
   have := yN_le ((o + (115792089210356248762697446949407573529996955224135760342422259061068512044369 - e46 % 115792089210356248762697446949407573529996955224135760342422259061068512044369)) % 115792089210356248762697446949407573529996955224135760342422259061068512044369) (l.take j.toNat) (prodN pl)
   rw [List.length_take] at this
   omega
 refine wp_seq (wp_seq (wp_region_l [.ind,.ind,.ind,.ind] ([0,1,2,3]) rfl ?_))
 refine s_rn 2 F rfl rfl ?_; clear F a; intro a F
 refine s_len F rfl rfl rfl rfl sl_22 rfl ?_; clear F a; intro a F
 refine s_one F rfl ?_; clear F a; intro a F
 refine t_endM M ?_; clear M; intro w M
 refine c_if F rfl ?_ ?_
 clear F; intro hc12 F
 try rw [hc12] at F
 replace hc12 := of_decide_eq_true hc12
 refine wp_skip (wp_seq (wp_block ?_))
 replace F := F.keep [0,1,2,4,6,8,9,10,11,12,13] rfl
 refine wp_region_t [.ind,.ind,.ind,.ind,.rd,.rd,.ind,.ind,.ind,.rd,.wr,.wr,.wr,.wr,.ind] [(4,10)] (otOf [0,1,2,3,4,5,6,7,8,9,10,11,12,13,14]) mixed (by kernel_rfl) ?_
 refine s_rn 3 F rfl rfl ?_; clear F a; intro a F
 refine s_ix F rfl rfl rfl rfl sl_22 rfl rfl (by exact M.chg.ro hro0) (by omega) (by omega) ?_; clear F a; intro e72 he72 a F
 refine s_ldaL F rfl rfl rfl rfl ag_25 rfl rfl (rdsX (M.chg.ro hro0) (by intro e; rfl) he72) ?_; clear F a; intro a F
 refine s_ldaL F rfl rfl rfl rfl ag_25 rfl rfl (cells_whole M.h2) ?_; clear F a; intro a F
 refine s_rn 2 F rfl rfl ?_; clear F a; intro a F
 refine s_ix F rfl rfl rfl rfl sl_22 rfl rfl (by exact SlOk.rd M.h1) (by omega) (by omega) ?_; clear F a; intro e77 he77 a F
 try (obtain rfl := Option.some.inj (he72.symm.trans he77))
 refine s_ldaL F rfl rfl rfl rfl ag_25 rfl rfl (rdsX (SlOk.rd M.h1) (by intro e; rfl) he77) ?_; clear F a; intro a F
 refine s_cqL F M rfl rfl rfl rfl rfl (rfl : _ = some [_,_]) cb_11 (fun nd_ => c11 ((o + (115792089210356248762697446949407573529996955224135760342422259061068512044369 - e46 % 115792089210356248762697446949407573529996955224135760342422259061068512044369)) % 115792089210356248762697446949407573529996955224135760342422259061068512044369) e77 (Nat.lt_trans (Nat.mod_lt _ (by decide)) (by decide)) (Nat.lt_trans (prod_lt _ e77 (List.mem_of_getElem? he77)) (by decide)) _) (fun _ w _ M => (by (refine pend_skip rfl ?_); (refine pend_skip rfl ?_); (refine pend_take (by exact rdsX (M.chg.ro hro0) (by intro e; rfl) he72) ?_); exact pend_none)) ?_; clear F a M; rintro v w rfl M a F
 refine s_cqL F M rfl rfl rfl rfl rfl (rfl : _ = some [_,_]) cb_10 (fun nd_ => c10 e72 (((o + (115792089210356248762697446949407573529996955224135760342422259061068512044369 - e46 % 115792089210356248762697446949407573529996955224135760342422259061068512044369)) % 115792089210356248762697446949407573529996955224135760342422259061068512044369) * e77 % 115792089210356248762697446949407573529996955224135760342422259061068512044369) (hx e72 (List.mem_of_getElem? he72)) (Nat.lt_trans (Nat.mod_lt _ (by decide)) (by decide)) _) (fun _ w _ M => (by (refine pend_skip rfl ?_); (refine pend_skip rfl ?_); (refine pend_skip rfl ?_); exact pend_none)) ?_; clear F a M; rintro v w rfl M a F
 refine s_bsL F M rfl rfl rfl rfl (parts1 F rfl) (bs_22_1 _ _ _ _) (fun b w M => (by (refine pend_skip rfl ?_); (refine pend_skip rfl ?_); (refine pend_skip rfl ?_); exact pend_none)) ?_; clear F a M; intro b81 w M a F
 refine s_apE (((e72 + ((o + (115792089210356248762697446949407573529996955224135760342422259061068512044369 - e46 % 115792089210356248762697446949407573529996955224135760342422259061068512044369)) % 115792089210356248762697446949407573529996955224135760342422259061068512044369) * e77 % 115792089210356248762697446949407573529996955224135760342422259061068512044369) % 115792089210356248762697446949407573529996955224135760342422259061068512044369 : Nat)) F M.f1 rfl rfl rfl rfl tl_22 rfl rfl (by exact rd_blk M.h0 rfl) rfl (by omega) (fun A c w M => (by (refine pend_skip rfl ?_); (refine pend_skip rfl ?_); (refine pend_skip rfl ?_); exact pend_none)) ?_; clear F a M; intro A82 c82 w M a F
 refine s_one F rfl ?_; clear F a; intro a F
 refine t_endM M ?_; clear M; intro w M
 replace F := F.keep [0,1,2,4,6,8,9,10,11,12,13] rfl
 refine wp_region_l [.ind,.ind,.ind] ([0,1,2]) rfl ?_
 refine s_one F rfl ?_; clear F a; intro a F
 refine s_add F rfl rfl rfl rfl rfl rfl (by unfold In64; omega) ?_; clear F a; intro a F
 refine s_one F rfl ?_; clear F a; intro a F
 refine t_endM M ?_; clear M; intro w M
 rw [← yN_snoc ((o + (115792089210356248762697446949407573529996955224135760342422259061068512044369 - e46 % 115792089210356248762697446949407573529996955224135760342422259061068512044369)) % 115792089210356248762697446949407573529996955224135760342422259061068512044369) l (prodN pl) j.toNat e72 e77 he72 he77,show j.toNat + 1 = (j + 1).toNat by omega] at F M
 refine again ((j + 1),(A82),(c82)) (by show _ < _; (try dsimp only); omega) ⟨(by omega),(by assumption)⟩ (F.keep [12,13,0,1,2,4,6,8,9,10,11] rfl) ?_
 try dsimp only [List.cons_append,List.nil_append]
 refine M.pick ?_; repeat (first | exact PkG.nil | refine PkG.cons 0 rfl rfl ?_ | refine PkG.cons 2 rfl rfl ?_ | refine PkG.cons 3 rfl rfl ?_ | refine PkG.cons 4 rfl rfl ?_)
 clear F; intro hc13 F
 try rw [hc13] at F
 replace hc13 := of_decide_eq_false hc13
 refine wp_exit ?_
 refine wp_seq (wp_seq ?_)
 obtain rfl : j = (l.length : Int) := by omega
 rw [Int.toNat_natCast,List.take_length] at F M
 have hyl : (yN ((o + (115792089210356248762697446949407573529996955224135760342422259061068512044369 - e46 % 115792089210356248762697446949407573529996955224135760342422259061068512044369)) % 115792089210356248762697446949407573529996955224135760342422259061068512044369) l (prodN pl)).length = l.length := yN_len _ _ _ (by omega)
 replace F := F.keep [0,1,2,4,6,8,9,10,11,12,13] rfl
 refine wp_region_l [.ind] ([0]) rfl ?_
 refine s_one F rfl ?_; clear F a; intro a F
 refine t_endM M ?_; clear M; intro w M
 refine wp_block ?_
 refine loopX (X := (Int)) F [0,1,2,4,8,9,10,11,12,13] rfl (fun (j : Int) => (0 ≤ j) ∧ (j ≤ pl.length)) (fun (j : Int) => [(14,.int .i64 j)]) (fun (j : Int) => []) (fun (j : Int) => pl.length - j.toNat) (0) M ⟨(by omega),(by assumption)⟩ (F.keep [14,0,1,2,4,8,9,10,11,12,13] rfl) ?_
 clear F M; clear a; (try clear w)
 rintro j a w ⟨j0,j1⟩ F M; try dsimp only at F M
 try simp only [List.cons_append,List.nil_append] at F M
 try dsimp only at j0 j1
 refine wp_seq (wp_seq (wp_region_l [.ind,.ind,.ind,.ind] ([0,1,2,3]) rfl ?_))
 refine s_rn 2 F rfl rfl ?_; clear F a; intro a F
 refine s_len F rfl rfl rfl rfl sl_26 rfl ?_; clear F a; intro a F
 refine s_one F rfl ?_; clear F a; intro a F
 refine t_endM M ?_; clear M; intro w M
 refine c_if F rfl ?_ ?_
 clear F; intro hc14 F
 try rw [hc14] at F
 replace hc14 := of_decide_eq_true hc14
 refine wp_skip (wp_seq (wp_block (wp_seq ?_)))
 replace F := F.keep [0,1,2,4,8,9,10,11,12,13,14] rfl
 refine wp_region_t [.ind,.ind,.ind,.ind,.rd,.wr,.ind,.ind,.ind,.ind,.rd,.wr,.ind] [(10,5)] (otOf [0,1,2,3,4,6,7,8,9,10,5,11,12]) mixed (by kernel_rfl) ?_
 refine s_rn 3 F rfl rfl ?_; clear F a; intro a F
 refine s_ix F rfl rfl rfl rfl sl_26 rfl rfl (by exact M.chg.ro hro2) (by omega) (by omega) ?_; clear F a; intro e92 he92 a F
 refine s_ldL F rfl rfl rfl rfl sc_3 rfl (by exact rdX0 (M.chg.ro hro2) (by intro e; rfl) he92 rfl) ?_; clear F a; intro a F
 refine s_rn 3 F rfl rfl ?_; clear F a; intro a F
 refine s_ix F rfl rfl rfl rfl sl_26 rfl rfl (by exact M.chg.ro hro2) (by omega) (by omega) ?_; clear F a; intro e98 he98 a F
 try (obtain rfl := Option.some.inj (he92.symm.trans he98))
 refine s_ldL F rfl rfl rfl rfl sc_3 rfl (by exact rdX0 (M.chg.ro hro2) (by intro e; rfl) he98 rfl) ?_; clear F a; intro a F
 refine s_cqL F M rfl rfl rfl rfl rfl (rfl : _ = some [_,_]) cb_12_N23 (fun nd_ => c12 (yN ((o + (115792089210356248762697446949407573529996955224135760342422259061068512044369 - e46 % 115792089210356248762697446949407573529996955224135760342422259061068512044369)) % 115792089210356248762697446949407573529996955224135760342422259061068512044369) l (prodN pl)) (fun x h => Nat.lt_trans (yN_lt _ _ _ x h) (by decide)) (by omega) e92 (by have := hpk.rg e92 (List.mem_of_getElem? he92); omega) _ _ (by exact SlOk.rd (M.drewN nd_).h0)) (fun _ w _ M => (by (refine pend_take (by exact rdX0 (M.chg.ro hro2) (by intro e; rfl) he98 rfl) ?_); (refine pend_skip rfl ?_); exact pend_none)) ?_; clear F a M; rintro v w rfl M a F
 refine s_cqL F M rfl rfl rfl rfl rfl (rfl : _ = some [_,_]) cb_12_N23 (fun nd_ => c12 l hx (by omega) e92 (by have := hpk.rg e92 (List.mem_of_getElem? he92); omega) _ _ ((M.drewN nd_).chg.ro hro0)) (fun _ w _ M => (by (refine pend_skip rfl ?_); (refine pend_skip rfl ?_); exact pend_none)) ?_; clear F a M; rintro v w rfl M a F
 refine s_nen (horner e92.toNat (yN ((o + (115792089210356248762697446949407573529996955224135760342422259061068512044369 - e46 % 115792089210356248762697446949407573529996955224135760342422259061068512044369)) % 115792089210356248762697446949407573529996955224135760342422259061068512044369) l (prodN pl))) (horner e92.toNat l) (Nat.lt_trans (horner_lt _ _) (by decide)) (Nat.lt_trans (horner_lt _ _) (by decide)) F rfl rfl rfl rfl rfl rfl ?_; clear F a; intro a F
 refine t_endM M ?_; clear M; intro w M
 refine c_if F rfl ?_ ?_
 clear F; intro hc15 F
 try rw [hc15] at F
 replace hc15 := nd1 hc15
 refine wp_seq ?_
 replace F := F.keep [0,1,2,4,8,9,10,11,12,13,14] rfl
 refine wp_region_l [.ind] ([0]) rfl ?_
 refine s_one F rfl ?_; clear F a; intro a F
 refine t_endM M ?_; clear M; intro w M
 refine wp_ret ?_
 refine ret1 F rfl rfl ?_
 exact absurd (y_agree invN_all hpk (List.mem_of_getElem? he92) _ l (by omega)) (by assumption)
 clear F; intro hc16 F
 try rw [hc16] at F
 replace hc16 := nd0 hc16
 refine wp_skip ?_
 replace F := F.keep [0,1,2,4,8,9,10,11,12,13,14] rfl
 refine wp_region_l [.ind,.ind,.ind] ([0,1,2]) rfl ?_
 refine s_one F rfl ?_; clear F a; intro a F
 refine s_add F rfl rfl rfl rfl rfl rfl (by unfold In64; omega) ?_; clear F a; intro a F
 refine s_one F rfl ?_; clear F a; intro a F
 refine t_endM M ?_; clear M; intro w M
 refine again (j + 1) (by show _ < _; (try dsimp only); omega) ⟨(by omega),(by assumption)⟩ (F.keep [14,0,1,2,4,8,9,10,11,12,13] rfl) ?_
 try dsimp only [List.cons_append,List.nil_append]
 refine M.pick ?_; repeat (first | exact PkG.nil | refine PkG.cons 0 rfl rfl ?_ | refine PkG.cons 1 rfl rfl ?_ | refine PkG.cons 2 rfl rfl ?_ | refine PkG.cons 3 rfl rfl ?_)
 clear F; intro hc17 F
 try rw [hc17] at F
 replace hc17 := of_decide_eq_false hc17
 refine wp_exit ?_
 refine wp_seq ?_
 replace F := F.keep [0,1,2,4,8,9,10,11,12,13,14] rfl
 refine wp_region_t [.ind,.wr,.rd,.ind,.ind,.wr,.ind,.ind] [(2,1)] (otOf [0,2,1,3,4,5,6,7]) mixed (by kernel_rfl) ?_
 refine s_one F rfl ?_; clear F a; intro a F
 refine s_ldaL F rfl rfl rfl rfl ag_25 rfl rfl (cells_whole M.h3) ?_; clear F a; intro a F
 refine s_cqL F M rfl rfl rfl rfl rfl (rfl : _ = some [_,_]) cb_12_N23 (fun nd_ => c12 (yN ((o + (115792089210356248762697446949407573529996955224135760342422259061068512044369 - e46 % 115792089210356248762697446949407573529996955224135760342422259061068512044369)) % 115792089210356248762697446949407573529996955224135760342422259061068512044369) l (prodN pl)) (fun x h => Nat.lt_trans (yN_lt _ _ _ x h) (by decide)) (by omega) 0 (by decide) _ _ (by exact SlOk.rd (M.drewN nd_).h0)) (fun _ w _ M => (by (refine pend_take (by exact cells_whole M.h3) ?_); exact pend_none)) ?_; clear F a M; rintro v w rfl M a F
 refine s_eqn (horner 0 (yN ((o + (115792089210356248762697446949407573529996955224135760342422259061068512044369 - e46 % 115792089210356248762697446949407573529996955224135760342422259061068512044369)) % 115792089210356248762697446949407573529996955224135760342422259061068512044369) l (prodN pl))) (o) (Nat.lt_trans (horner_lt _ _) (by decide)) ho F rfl rfl rfl rfl rfl rfl ?_; clear F a; intro a F
 refine s_one F rfl ?_; clear F a; intro a F
 refine bsplit F 106 rfl ?_ ?_
 clear F; intro hc18 F
 try rw [hc18] at F
 replace hc18 := of_decide_eq_true hc18
 refine s_cqL F M rfl rfl rfl rfl rfl (rfl : _ = some []) cb_6_N23 (fun nd_ => h6 _ (hGc _ _ hG (M.drewN nd_).chg)) (fun _ w _ M => (by (refine pend_skip rfl ?_); exact pend_none)) ?_; clear F a M; rintro v w rfl M a F
 refine s_rn 2 F rfl rfl ?_; clear F a; intro a F
 refine t_endM M ?_; clear M; intro w M
 refine wp_ret ?_
 refine ret1 F rfl rfl ?_
 exact ⟨_,rfl,rfl,M.chg⟩
 clear F; intro hc19 F
 try rw [hc19] at F
 replace hc19 := of_decide_eq_false hc19
 refine s_rn 3 F rfl rfl ?_; clear F a; intro a F
 refine t_endM M ?_; clear M; intro w M
 refine wp_ret ?_
 refine ret1 F rfl rfl ?_
 exact absurd (y_zero2 he46 hc5 (k3 e46 (List.mem_of_getElem? he46))) (by assumption)
end Go.Proofs.YteajeenmojbjhaaGreatDoor
