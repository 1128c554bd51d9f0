/- A1 of the seat. -/
import Derived.Test.YtboibdmflblphaaV3
import Derived.Test.YtboibdmflblphaaFw13
import Derived.Test.YtboibdmflblphaaAgrS
namespace Go.Proofs.Ytboibdmflblphaa
open Go Fw

open VoteM AgrM

/-! ### a part in memory -/
def wC (w : Wrd) : Nat → Value
 | 0 => .int .i64 w.kind
 | 1 => .int .i64 w.frm
 | 2 => .int .i64 w.round
 | 3 => .int .i64 w.valid
 | _ => .string w.value
def pF (Ps : List Wrd) (j : Nat) : Value := wC (propL Ps ((j / 5 : Nat) : Int)) (j % 5)
def hF (a : ASt) : Nat → Value
 | 0 => .int .i64 a.n
 | 1 => .int .i64 a.me
 | 2 => .int .i64 a.h
 | 3 => .string a.own
 | 4 => .int .i64 a.round
 | 5 => .int .i64 a.step
 | 6 => .string a.lock
 | 7 => .int .i64 a.lockR
 | 8 => .string a.val
 | 9 => .int .i64 a.valR
 | _ => undef
def tF (a : ASt) (vb : Nat) (mu : Value) : Nat → Value
 | 0 => .pointer (some ⟨vb, 0, none⟩)
 | 1 => .bool a.seen
 | 2 => .bool a.done
 | 3 => .string a.dec
 | 4 => mu
 | _ => undef
def aF (a : ASt) (vb : Nat) (mu : Value) (j : Nat) : Value := if j < 10 then hF a j else if j < 330 then pF a.Ps (j - 10) else tF a vb mu (j - 330)
abbrev aO (a : ASt) (vb : Nat) (mu : Value) : Obj := .cells (cellsF 335 (aF a vb mu)) 144 (0, 0)
abbrev sayV (ob : Nat) : Value := .func (.func 107) #[] #[.pointer (some ⟨ob, 0, none⟩)]
section
variable {a a' : ASt} {vb : Nat} {mu : Value}
theorem aF_head {i : Nat} {v : Value} (hi : i < 10) (hv : hF a' i = v) (ho : ∀ j, j ≠ i → hF a j = hF a' j) (hP : a.Ps = a'.Ps) (ht : ∀ j, tF a vb mu j = tF a' vb mu j) : upd (aF a vb mu) i v = aF a' vb mu := by
 funext j
 unfold upd aF
 by_cases e : j = i
 · subst e; rw [if_pos rfl, if_pos hi, hv]
 · rw [if_neg e, ho j e, hP, ht]
theorem aF_tail {i : Nat} {v mu' : Value} (hi : 330 ≤ i) (hv : tF a' vb mu' (i - 330) = v) (hh : ∀ j, hF a j = hF a' j) (hP : a.Ps = a'.Ps) (ht : ∀ j, j ≠ i - 330 → tF a vb mu j = tF a' vb mu' j) : upd (aF a vb mu) i v = aF a' vb mu' := by
 funext j
 unfold upd aF
 by_cases e : j = i
 · subst e; rw [if_pos rfl, if_neg (by omega), if_neg (by omega), hv]
 · rw [if_neg e, hh, hP]
   split
   · rfl
   · split
     · rfl
     · exact ht _ (by omega)
end
section
variable (a : ASt) (vb : Nat) (mu : Value)
theorem aF_round (r : Int) : upd (aF a vb mu) 4 (.int .i64 r) = aF { a with round := r } vb mu := aF_head (by decide) rfl (fun j hj => by unfold hF; split <;> first | rfl | omega) rfl fun _ => rfl
theorem aF_step (r : Int) : upd (aF a vb mu) 5 (.int .i64 r) = aF { a with step := r } vb mu := aF_head (by decide) rfl (fun j hj => by unfold hF; split <;> first | rfl | omega) rfl fun _ => rfl
theorem aF_lock (s : ByteArray) : upd (aF a vb mu) 6 (.string s) = aF { a with lock := s } vb mu := aF_head (by decide) rfl (fun j hj => by unfold hF; split <;> first | rfl | omega) rfl fun _ => rfl
theorem aF_lockR (r : Int) : upd (aF a vb mu) 7 (.int .i64 r) = aF { a with lockR := r } vb mu := aF_head (by decide) rfl (fun j hj => by unfold hF; split <;> first | rfl | omega) rfl fun _ => rfl
theorem aF_val (s : ByteArray) : upd (aF a vb mu) 8 (.string s) = aF { a with val := s } vb mu := aF_head (by decide) rfl (fun j hj => by unfold hF; split <;> first | rfl | omega) rfl fun _ => rfl
theorem aF_valR (r : Int) : upd (aF a vb mu) 9 (.int .i64 r) = aF { a with valR := r } vb mu := aF_head (by decide) rfl (fun j hj => by unfold hF; split <;> first | rfl | omega) rfl fun _ => rfl
theorem aF_seen (b : Bool) : upd (aF a vb mu) 331 (.bool b) = aF { a with seen := b } vb mu := aF_tail (by decide) rfl (fun _ => rfl) rfl fun j hj => by unfold tF; split <;> first | rfl | omega
theorem aF_mouth (mu' : Value) : upd (aF a vb mu) 334 mu' = aF a vb mu' := aF_tail (by decide) rfl (fun _ => rfl) rfl fun j hj => by unfold tF; split <;> first | rfl | omega
theorem aF_done (b : Bool) : upd (aF a vb mu) 332 (.bool b) = aF { a with done := b } vb mu := aF_tail (by decide) rfl (fun _ => rfl) rfl fun j hj => by unfold tF; split <;> first | rfl | omega
theorem aF_dec (s : ByteArray) : upd (aF a vb mu) 333 (.string s) = aF { a with dec := s } vb mu := aF_tail (by decide) rfl (fun _ => rfl) rfl fun j hj => by unfold tF; split <;> first | rfl | omega
end


theorem aF_prop {a : ASt} (vb : Nat) (mu : Value) {w : Wrd} (h0 : 0 ≤ w.round) (h1 : w.round < 64) (hne : ∀ w ∈ a.Ps, w.value ≠ VoteM.empty) (he : (propL a.Ps w.round).value = VoteM.empty) :
   setCells (cellsF 335 (aF a vb mu)) (10 + w.round.toNat * 5) (encW w) = cellsF 335 (aF { a with Ps := a.Ps ++ [w] } vb mu) := by
 rw [setCellsF]
 refine cellsF_eq fun j hj => ?_
 have hl : (encW w).length = 5 := rfl
 rw [hl]
 by_cases h : 10 + w.round.toNat * 5 ≤ j ∧ j < 10 + w.round.toNat * 5 + 5
 · rw [if_pos h]
   unfold aF
   rw [if_neg (by omega), if_pos (by omega)]
   unfold pF
   rw [prop_snoc hne he, if_pos (by omega)]
   have : j - (10 + w.round.toNat * 5) = 0 ∨ j - (10 + w.round.toNat * 5) = 1 ∨ j - (10 + w.round.toNat * 5) = 2 ∨ j - (10 + w.round.toNat * 5) = 3 ∨ j - (10 + w.round.toNat * 5) = 4 := by omega
   have e2 : (j - 10) % 5 = j - (10 + w.round.toNat * 5) := by omega
   rw [e2]
   rcases this with e | e | e | e | e <;> rw [e] <;> rfl
 · rw [if_neg h]
   unfold aF
   split
   · rfl
   · split
     · unfold pF
       rw [prop_snoc hne he, if_neg (by omega)]
     · have ht : ∀ k, tF a vb mu k = tF { a with Ps := a.Ps ++ [w] } vb mu k := fun _ => rfl
       exact ht _
theorem wC5 (w : Wrd) : cellsF 5 (wC w) = (encW w).toArray := by
 have e5 : List.range 5 = [0, 1, 2, 3, 4] := by decide
 unfold cellsF
 rw [e5]
 rfl
theorem pF_word {Ps : List Wrd} {r : Int} (h0 : 0 ≤ r) : (cellsF 5 fun j => pF Ps (r.toNat * 5 + j)) = (encW (propL Ps r)).toArray := by
 have e : ∀ j, j < 5 → pF Ps (r.toNat * 5 + j) = wC (propL Ps r) j := fun j hj => by
   unfold pF
   have e1 : (((r.toNat * 5 + j) / 5 : Nat) : Int) = r := by omega
   have e2 : (r.toNat * 5 + j) % 5 = j := by omega
   rw [e1, e2]
 exact (cellsF_eq e).trans (wC5 _)
theorem aF_word {a : ASt} {vb : Nat} {mu : Value} {r : Int} (h0 : 0 ≤ r) (h1 : r < 64) : (encW (propL a.Ps r)).toArray = cellsF 5 fun j => aF a vb mu (10 + r.toNat * 5 + j) := by
 rw [← pF_word h0]
 refine cellsF_eq fun j hj => ?_
 unfold aF
 rw [if_neg (by omega), if_pos (by omega), show 10 + r.toNat * 5 + j - 10 = r.toNat * 5 + j by omega]
theorem aF_all {a : ASt} {vb : Nat} {mu : Value} : cellsF 320 (pF a.Ps) = cellsF 320 fun j => aF a vb mu (10 + j) := by
 refine cellsF_eq fun j hj => ?_
 unfold aF
 rw [if_neg (by omega), if_pos (by omega), show 10 + j - 10 = j by omega]
theorem aF_val2 {a : ASt} {vb : Nat} {mu : Value} {r : Int} (h0 : 0 ≤ r) (h1 : r < 64) : aF a vb mu (10 + r.toNat * 5 + 4) = .string (propL a.Ps r).value := by
 unfold aF
 rw [if_neg (by omega), if_pos (by omega)]
 unfold pF
 have e1 : (((10 + r.toNat * 5 + 4 - 10) / 5 : Nat) : Int) = r := by omega
 have e2 : (10 + r.toNat * 5 + 4 - 10) % 5 = 4 := by omega
 rw [e1, e2]
 rfl

set_option maxRecDepth 100000 in
set_option maxHeartbeats 400000 in
theorem c35 (n h r : Int) (w0 : World) : Cl Try.prog 35 #[.int .i64 n, .int .i64 h, .int .i64 r] w0 (RetQ w0 fun v => v = .int .i64 (leader n h r)) := by
 have M : Sep (fun _ => False) w0 w0 _ := Sep.nil _ w0
 refine enter (vs := [_, _, _]) Try.func35 rfl rfl rfl ?_
 intro a F
 refine wp_seq ?_
 refine wp_region_l [.ind] ([0]) rfl ?_
 refine s_I F rfl rfl rfl rfl rfl rfl ?_; clear F a; intro a F
 refine t_endM M ?_; (clear M; try clear w); intro w M
 refine wp_seq ?_
 refine wp_seq ?_
 refine wp_region_l [.ind, .ind, .ind, .ind, .ind, .ind, .ind, .ind, .ind, .ind, .ind, .ind, .ind, .ind, .ind, .ind, .ind, .ind, .ind, .ind, .ind, .ind] ([0, 1, 2, 3, 4, 5, 6, 7, 8, 9, 10, 11, 12, 13, 14, 15, 16, 17, 18, 19, 20, 21]) rfl ?_
 refine s_rn 3 F rfl rfl ?_; clear F a; intro a F
 refine bsplit F 9 rfl ?_ ?_
 clear F; intro hc0 F
 try rw [hc0] at F
 replace hc0 := of_decide_eq_true hc0
 refine s_rn 19 F rfl rfl ?_; clear F a; intro a F
 refine t_endM M ?_; (clear M; try clear w); intro w M
 refine c_t F rfl ?_
 refine wp_seq ?_
 replace F := F.keep [0, 1, 2, 6] rfl
 refine wp_region_l [.ind] ([0]) rfl ?_
 refine s_I F rfl rfl rfl rfl rfl rfl ?_; clear F a; intro a F
 refine t_endM M ?_; (clear M; try clear w); intro w M
 refine wp_ret ?_
 refine ret1 F rfl rfl ?_
 refine ⟨_, rfl, ?_, M.chg⟩
 unfold leader
 rw [if_pos (by omega)]
 clear F; intro hc1 F
 try rw [hc1] at F
 replace hc1 := of_decide_eq_false hc1
 refine s_rn 4 F rfl rfl ?_; clear F a; intro a F
 refine bsplit F 13 rfl ?_ ?_
 clear F; intro hc2 F
 try rw [hc2] at F
 replace hc2 := of_decide_eq_true hc2
 refine s_rn 15 F rfl rfl ?_; clear F a; intro a F
 refine t_endM M ?_; (clear M; try clear w); intro w M
 refine c_t F rfl ?_
 refine wp_seq ?_
 replace F := F.keep [0, 1, 2, 6] rfl
 refine wp_region_l [.ind] ([0]) rfl ?_
 refine s_I F rfl rfl rfl rfl rfl rfl ?_; clear F a; intro a F
 refine t_endM M ?_; (clear M; try clear w); intro w M
 refine wp_ret ?_
 refine ret1 F rfl rfl ?_
 refine ⟨_, rfl, ?_, M.chg⟩
 unfold leader
 rw [if_pos (by omega)]
 clear F; intro hc3 F
 try rw [hc3] at F
 replace hc3 := of_decide_eq_false hc3
 refine s_rn 4 F rfl rfl ?_; clear F a; intro a F
 refine bsplit F 17 rfl ?_ ?_
 clear F; intro hc4 F
 try rw [hc4] at F
 replace hc4 := of_decide_eq_true hc4
 refine s_rn 11 F rfl rfl ?_; clear F a; intro a F
 refine t_endM M ?_; (clear M; try clear w); intro w M
 refine c_t F rfl ?_
 refine wp_seq ?_
 replace F := F.keep [0, 1, 2, 6] rfl
 refine wp_region_l [.ind] ([0]) rfl ?_
 refine s_I F rfl rfl rfl rfl rfl rfl ?_; clear F a; intro a F
 refine t_endM M ?_; (clear M; try clear w); intro w M
 refine wp_ret ?_
 refine ret1 F rfl rfl ?_
 refine ⟨_, rfl, ?_, M.chg⟩
 unfold leader
 rw [if_pos (by omega)]
 clear F; intro hc5 F
 try rw [hc5] at F
 replace hc5 := of_decide_eq_false hc5
 refine s_rn 4 F rfl rfl ?_; clear F a; intro a F
 refine bsplit F 21 rfl ?_ ?_
 clear F; intro hc6 F
 try rw [hc6] at F
 replace hc6 := of_decide_eq_true hc6
 refine s_rn 7 F rfl rfl ?_; clear F a; intro a F
 refine t_endM M ?_; (clear M; try clear w); intro w M
 refine c_t F rfl ?_
 refine wp_seq ?_
 replace F := F.keep [0, 1, 2, 6] rfl
 refine wp_region_l [.ind] ([0]) rfl ?_
 refine s_I F rfl rfl rfl rfl rfl rfl ?_; clear F a; intro a F
 refine t_endM M ?_; (clear M; try clear w); intro w M
 refine wp_ret ?_
 refine ret1 F rfl rfl ?_
 refine ⟨_, rfl, ?_, M.chg⟩
 unfold leader
 rw [if_pos (by omega)]
 clear F; intro hc7 F
 try rw [hc7] at F
 replace hc7 := of_decide_eq_false hc7
 refine s_rn 4 F rfl rfl ?_; clear F a; intro a F
 refine bsplit F 25 rfl ?_ ?_
 clear F; intro hc8 F
 try rw [hc8] at F
 replace hc8 := of_decide_eq_true hc8
 refine s_rn 3 F rfl rfl ?_; clear F a; intro a F
 refine t_endM M ?_; (clear M; try clear w); intro w M
 refine c_t F rfl ?_
 refine wp_seq ?_
 replace F := F.keep [0, 1, 2, 6] rfl
 refine wp_region_l [.ind] ([0]) rfl ?_
 refine s_I F rfl rfl rfl rfl rfl rfl ?_; clear F a; intro a F
 refine t_endM M ?_; (clear M; try clear w); intro w M
 refine wp_ret ?_
 refine ret1 F rfl rfl ?_
 refine ⟨_, rfl, ?_, M.chg⟩
 unfold leader
 rw [if_pos (by omega)]
 clear F; intro hc9 F
 try rw [hc9] at F
 replace hc9 := of_decide_eq_false hc9
 refine s_rn 3 F rfl rfl ?_; clear F a; intro a F
 refine t_endM M ?_; (clear M; try clear w); intro w M
 refine c_if F rfl ?_ ?_
 clear F; intro hc10 F
 try rw [hc10] at F
 replace hc10 := of_decide_eq_true hc10
 refine wp_seq ?_
 replace F := F.keep [0, 1, 2, 6] rfl
 refine wp_region_l [.ind] ([0]) rfl ?_
 refine s_I F rfl rfl rfl rfl rfl rfl ?_; clear F a; intro a F
 refine t_endM M ?_; (clear M; try clear w); intro w M
 refine wp_ret ?_
 refine ret1 F rfl rfl ?_
 refine ⟨_, rfl, ?_, M.chg⟩
 unfold leader
 rw [if_pos (by omega)]
 clear F; intro hc11 F
 try rw [hc11] at F
 replace hc11 := of_decide_eq_false hc11
 refine wp_skip ?_
 refine wp_seq ?_
 have he9 := Int.emod_lt_of_pos (h + r) (show 0 < n by omega)
 have he8 := Int.emod_nonneg (h + r) (show n ≠ 0 by omega)
 replace F := F.keep [0, 1, 2, 6] rfl
 refine wp_region_l [.ind, .ind, .ind, .ind, .ind, .ind, .ind] ([0, 1, 2, 3, 4, 5, 6]) rfl ?_
 refine s_rn 2 F rfl rfl ?_; clear F a; intro a F
 refine s_add F rfl rfl rfl rfl rfl rfl (by unfold In64; omega) ?_; clear F a; intro a F
 refine s_I F rfl rfl rfl rfl rfl rfl ?_; clear F a; intro a F
 refine s_rem F rfl rfl rfl rfl rfl rfl (by omega) ?_; clear F a; intro a F
 rw [Int.tmod_eq_emod_of_nonneg (by omega)] at F
 refine s_add F rfl rfl rfl rfl rfl rfl (by unfold In64; omega) ?_; clear F a; intro a F
 refine s_I F rfl rfl rfl rfl rfl rfl ?_; clear F a; intro a F
 refine t_endM M ?_; (clear M; try clear w); intro w M
 refine wp_ret ?_
 refine ret1 F rfl rfl ?_
 refine ⟨_, rfl, ?_, M.chg⟩
 unfold leader
 rw [if_neg (by omega)]
set_option maxRecDepth 100000 in
set_option maxHeartbeats 400000 in
theorem c36 (n h r : Int) (w0 : World) : Cl Try.prog 36 #[.int .i64 n, .int .i64 h, .int .i64 r] w0 (RetQ w0 fun v => v = .int .i64 (leader n h r)) := by
 have M : Sep (fun _ => False) w0 w0 _ := Sep.nil _ w0
 refine enter (vs := [_, _, _]) Try.func36 rfl rfl rfl ?_
 intro a F
 refine wp_seq ?_
 refine wp_region_l [.ind] ([0]) rfl ?_
 refine s_I F rfl rfl rfl rfl rfl rfl ?_; clear F a; intro a F
 refine t_endM M ?_; (clear M; try clear w); intro w M
 refine wp_seq ?_
 refine wp_seq ?_
 refine wp_region_l [.ind, .ind, .ind, .ind, .ind, .ind, .ind, .ind, .ind, .ind, .ind, .ind, .ind, .ind, .ind, .ind, .ind, .ind, .ind, .ind, .ind, .ind] ([0, 1, 2, 3, 4, 5, 6, 7, 8, 9, 10, 11, 12, 13, 14, 15, 16, 17, 18, 19, 20, 21]) rfl ?_
 refine s_rn 3 F rfl rfl ?_; clear F a; intro a F
 refine bsplit F 9 rfl ?_ ?_
 clear F; intro hc0 F
 try rw [hc0] at F
 replace hc0 := of_decide_eq_true hc0
 refine s_rn 19 F rfl rfl ?_; clear F a; intro a F
 refine t_endM M ?_; (clear M; try clear w); intro w M
 refine c_t F rfl ?_
 refine wp_seq ?_
 replace F := F.keep [0, 1, 2, 6] rfl
 refine wp_region_l [.ind] ([0]) rfl ?_
 refine s_I F rfl rfl rfl rfl rfl rfl ?_; clear F a; intro a F
 refine t_endM M ?_; (clear M; try clear w); intro w M
 refine wp_ret ?_
 refine ret1 F rfl rfl ?_
 refine ⟨_, rfl, ?_, M.chg⟩
 unfold leader
 rw [if_pos (by omega)]
 clear F; intro hc1 F
 try rw [hc1] at F
 replace hc1 := of_decide_eq_false hc1
 refine s_rn 4 F rfl rfl ?_; clear F a; intro a F
 refine bsplit F 13 rfl ?_ ?_
 clear F; intro hc2 F
 try rw [hc2] at F
 replace hc2 := of_decide_eq_true hc2
 refine s_rn 15 F rfl rfl ?_; clear F a; intro a F
 refine t_endM M ?_; (clear M; try clear w); intro w M
 refine c_t F rfl ?_
 refine wp_seq ?_
 replace F := F.keep [0, 1, 2, 6] rfl
 refine wp_region_l [.ind] ([0]) rfl ?_
 refine s_I F rfl rfl rfl rfl rfl rfl ?_; clear F a; intro a F
 refine t_endM M ?_; (clear M; try clear w); intro w M
 refine wp_ret ?_
 refine ret1 F rfl rfl ?_
 refine ⟨_, rfl, ?_, M.chg⟩
 unfold leader
 rw [if_pos (by omega)]
 clear F; intro hc3 F
 try rw [hc3] at F
 replace hc3 := of_decide_eq_false hc3
 refine s_rn 4 F rfl rfl ?_; clear F a; intro a F
 refine bsplit F 17 rfl ?_ ?_
 clear F; intro hc4 F
 try rw [hc4] at F
 replace hc4 := of_decide_eq_true hc4
 refine s_rn 11 F rfl rfl ?_; clear F a; intro a F
 refine t_endM M ?_; (clear M; try clear w); intro w M
 refine c_t F rfl ?_
 refine wp_seq ?_
 replace F := F.keep [0, 1, 2, 6] rfl
 refine wp_region_l [.ind] ([0]) rfl ?_
 refine s_I F rfl rfl rfl rfl rfl rfl ?_; clear F a; intro a F
 refine t_endM M ?_; (clear M; try clear w); intro w M
 refine wp_ret ?_
 refine ret1 F rfl rfl ?_
 refine ⟨_, rfl, ?_, M.chg⟩
 unfold leader
 rw [if_pos (by omega)]
 clear F; intro hc5 F
 try rw [hc5] at F
 replace hc5 := of_decide_eq_false hc5
 refine s_rn 4 F rfl rfl ?_; clear F a; intro a F
 refine bsplit F 21 rfl ?_ ?_
 clear F; intro hc6 F
 try rw [hc6] at F
 replace hc6 := of_decide_eq_true hc6
 refine s_rn 7 F rfl rfl ?_; clear F a; intro a F
 refine t_endM M ?_; (clear M; try clear w); intro w M
 refine c_t F rfl ?_
 refine wp_seq ?_
 replace F := F.keep [0, 1, 2, 6] rfl
 refine wp_region_l [.ind] ([0]) rfl ?_
 refine s_I F rfl rfl rfl rfl rfl rfl ?_; clear F a; intro a F
 refine t_endM M ?_; (clear M; try clear w); intro w M
 refine wp_ret ?_
 refine ret1 F rfl rfl ?_
 refine ⟨_, rfl, ?_, M.chg⟩
 unfold leader
 rw [if_pos (by omega)]
 clear F; intro hc7 F
 try rw [hc7] at F
 replace hc7 := of_decide_eq_false hc7
 refine s_rn 4 F rfl rfl ?_; clear F a; intro a F
 refine bsplit F 25 rfl ?_ ?_
 clear F; intro hc8 F
 try rw [hc8] at F
 replace hc8 := of_decide_eq_true hc8
 refine s_rn 3 F rfl rfl ?_; clear F a; intro a F
 refine t_endM M ?_; (clear M; try clear w); intro w M
 refine c_t F rfl ?_
 refine wp_seq ?_
 replace F := F.keep [0, 1, 2, 6] rfl
 refine wp_region_l [.ind] ([0]) rfl ?_
 refine s_I F rfl rfl rfl rfl rfl rfl ?_; clear F a; intro a F
 refine t_endM M ?_; (clear M; try clear w); intro w M
 refine wp_ret ?_
 refine ret1 F rfl rfl ?_
 refine ⟨_, rfl, ?_, M.chg⟩
 unfold leader
 rw [if_pos (by omega)]
 clear F; intro hc9 F
 try rw [hc9] at F
 replace hc9 := of_decide_eq_false hc9
 refine s_rn 3 F rfl rfl ?_; clear F a; intro a F
 refine t_endM M ?_; (clear M; try clear w); intro w M
 refine c_if F rfl ?_ ?_
 clear F; intro hc10 F
 try rw [hc10] at F
 replace hc10 := of_decide_eq_true hc10
 refine wp_seq ?_
 replace F := F.keep [0, 1, 2, 6] rfl
 refine wp_region_l [.ind] ([0]) rfl ?_
 refine s_I F rfl rfl rfl rfl rfl rfl ?_; clear F a; intro a F
 refine t_endM M ?_; (clear M; try clear w); intro w M
 refine wp_ret ?_
 refine ret1 F rfl rfl ?_
 refine ⟨_, rfl, ?_, M.chg⟩
 unfold leader
 rw [if_pos (by omega)]
 clear F; intro hc11 F
 try rw [hc11] at F
 replace hc11 := of_decide_eq_false hc11
 refine wp_skip ?_
 refine wp_seq ?_
 have he9 := Int.emod_lt_of_pos (h + r) (show 0 < n by omega)
 have he8 := Int.emod_nonneg (h + r) (show n ≠ 0 by omega)
 replace F := F.keep [0, 1, 2, 6] rfl
 refine wp_region_l [.ind, .ind, .ind, .ind, .ind, .ind, .ind] ([0, 1, 2, 3, 4, 5, 6]) rfl ?_
 refine s_rn 2 F rfl rfl ?_; clear F a; intro a F
 refine s_add F rfl rfl rfl rfl rfl rfl (by unfold In64; omega) ?_; clear F a; intro a F
 refine s_I F rfl rfl rfl rfl rfl rfl ?_; clear F a; intro a F
 refine s_rem F rfl rfl rfl rfl rfl rfl (by omega) ?_; clear F a; intro a F
 rw [Int.tmod_eq_emod_of_nonneg (by omega)] at F
 refine s_add F rfl rfl rfl rfl rfl rfl (by unfold In64; omega) ?_; clear F a; intro a F
 refine s_I F rfl rfl rfl rfl rfl rfl ?_; clear F a; intro a F
 refine t_endM M ?_; (clear M; try clear w); intro w M
 refine wp_ret ?_
 refine ret1 F rfl rfl ?_
 refine ⟨_, rfl, ?_, M.chg⟩
 unfold leader
 rw [if_neg (by omega)]
end Go.Proofs.Ytboibdmflblphaa
