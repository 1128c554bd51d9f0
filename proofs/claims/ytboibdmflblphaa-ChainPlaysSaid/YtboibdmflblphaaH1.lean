/- H1 of the seat. -/
import Derived.Test.YtboibdmflblphaaA9
import Derived.Test.YtboibdmflblphaaFw15
import Derived.Test.YtboibdmflblphaaChnM
namespace Go.Proofs.Ytboibdmflblphaa
open Go Fw
theorem st_9_H1 : strB Try.prog 9 = true := by kernel_rfl
theorem fa_166_5_H1 : FA Try.prog 166 5 5 := fun _ _ _ => by kernel_rfl
theorem sc_69_H1 : scalB Try.prog 69 = true := by kernel_rfl
theorem sl_69_H1 : slcB Try.prog 69 = some (9, 1) := by kernel_rfl
theorem sc_9_H1 : scalB Try.prog 9 = true := by kernel_rfl
theorem sld_69_H1 : slcB Try.prog 69 = some (9, 1) := by kernel_rfl
theorem zr_9_H1 : zeroB Try.prog 9 = some (.string { data := #[] }) := by kernel_rfl
theorem sl_22_H1 : slcB Try.prog 22 = some (32, 5) := by kernel_rfl
theorem ag_32_H1 : aggB Try.prog 32 = some 5 := by kernel_rfl
theorem zr_32_H1 : zeroB Try.prog 32 = some (.agg #[.int .i64 0, .int .i64 0, .int .i64 0, .int .i64 0, .string { data := #[] }]) := by kernel_rfl
theorem sz_32_H1 : sizeB Try.prog 32 = some 5 := by kernel_rfl
theorem bl_104_0_1_H1 : ∀ (x0 : Int) (x1_0 : Int) (x1_1 : Int) (x1_2 : Int) (x1_3 : Int) (x1_4 : ByteArray), ∀ w : World, (Instr.build 104 #[(0, .int .i64 x0), (1, .agg #[.int .i64 x1_0, .int .i64 x1_1, .int .i64 x1_2, .int .i64 x1_3, .string x1_4])]).run Try.prog w = .ok (.agg #[.int .i64 x0, .int .i64 x1_0, .int .i64 x1_1, .int .i64 x1_2, .int .i64 x1_3, .string x1_4]) w := by intros; kernel_rfl
theorem bs_92_1_H1 : ∀ (x0_0 : Int) (x0_1_0 : Int) (x0_1_1 : Int) (x0_1_2 : Int) (x0_1_3 : Int) (x0_1_4 : ByteArray), News Try.prog (Instr.buildSlice 92 1 #[(0, .agg #[.int .i64 x0_0, .int .i64 x0_1_0, .int .i64 x0_1_1, .int .i64 x0_1_2, .int .i64 x0_1_3, .string x0_1_4])]) (.cells #[.int .i64 x0_0, .int .i64 x0_1_0, .int .i64 x0_1_1, .int .i64 x0_1_2, .int .i64 x0_1_3, .string x0_1_4] 104) fun b => .slice (some ⟨b, 0, none⟩) 1 1 := by intros; intro w; kernel_rfl
theorem tl_92_H1 : SlT Try.prog 92 104 6 56 (.agg #[.int .i64 0, .int .i64 0, .int .i64 0, .int .i64 0, .int .i64 0, .string { data := #[] }]) := ⟨by kernel_rfl, by kernel_rfl, by kernel_rfl, by kernel_rfl, by decide⟩
theorem bs_69_0_H1 : ∀ (_ : Unit), News Try.prog (Instr.buildSlice 69 0 #[]) (.cells #[] 9) fun b => .slice (some ⟨b, 0, none⟩) 0 0 := by intros; intro w; kernel_rfl
theorem tl_69_H1 : SlT Try.prog 69 9 1 16 (.string { data := #[] }) := ⟨by kernel_rfl, by kernel_rfl, by kernel_rfl, by kernel_rfl, by decide⟩
open VoteM AgrM CouM ChnM

def encS (s : ByteArray) : List Value := [.string s]
def encTo (x : To) : List Value := [.int .i64 x.node, .int .i64 x.w.kind, .int .i64 x.w.frm, .int .i64 x.w.round, .int .i64 x.w.valid, .string x.w.value]
abbrev strR (v : Value) (l : List ByteArray) : Res := slR v l.length 9 1 (l.flatMap encS)
abbrev tlR (v : Value) (l : List To) : Res := slR v l.length 104 6 (l.flatMap encTo)
/-- A chain's own cells. -/
abbrev chO (c : Chn) (pv lv wv : Value) : Obj := .cells #[.int .i64 c.n, .int .i64 c.t, .int .i64 c.me, .bool c.begun, pv, lv, wv] 166 (0, 0)
theorem Fw.Sep.toE {w0 w : World} {r : List Res} (M : Sep (fun _ => False) w0 w r) : Sep (fun b => b ∈ foots ([] : List Res)) w0 w r := by
 have e : (fun b => b ∈ foots ([] : List Res)) = fun _ => False := by funext b; simp [foots]
 rw [e]; exact M
theorem Fw.Sep.sl0 {S : Nat → Prop} {w0 w : World} {r : List Res} {b E sz : Nat} (M : Sep S w0 w (blk b (.cells #[] E (0, 0)) :: r)) : Sep S w0 w (slR (.slice (some ⟨b, 0, none⟩) 0 0) ([] : List Nat).length E sz ([] : List Value) :: r) :=
 M.turn (q := slR (.slice (some ⟨b, 0, none⟩) 0 0) 0 E sz []) rfl fun h => ⟨by simp, .inr ⟨b, 0, [], rfl, Nat.le_refl _, h, by simp⟩⟩
theorem rd_none {h : Array Obj} {A : Option Addr} {c : Nat} {l : List ByteArray} (hr : RdSl h (.slice A l.length c) l.length 1 (l.flatMap encS)) (hA : A = none) : l = [] := by
 obtain ⟨_, A', c', e, _, hp⟩ := hr
 cases l with
 | nil => rfl
 | cons x l =>
   obtain ⟨_, _, _, _, _, e', _⟩ := hp (by simp)
   subst hA
   simp only [Value.slice.injEq] at e
   rw [← e.1] at e'
   cases e'
theorem lt_some {h : Array Obj} {b : Nat} {o : Obj} (hb : h[b]? = some o) : b < h.size := by
 obtain ⟨h1, _⟩ := Array.getElem?_eq_some_iff.1 hb
 exact h1
theorem idxV {l : List ByteArray} {v : ByteArray} : (0 ≤ (((idxB l v).map Int.ofNat).getD (-1)) ∧ ∃ i, idxB l v = some i ∧ i < l.length ∧ (((idxB l v).map Int.ofNat).getD (-1)) = (i : Int)) ∨ ((((idxB l v).map Int.ofNat).getD (-1)) = -1 ∧ idxB l v = none) := by
 cases h : idxB l v with
 | none => exact .inr ⟨rfl, rfl⟩
 | some i => exact .inl ⟨by simp, i, rfl, idx_lt h, rfl⟩
theorem take_next {α : Type} {p : α → Prop} {l : List α} {k : Nat} {e : α} (h : ∀ x ∈ l.take k, p x) (he : l[k]? = some e) (hp : p e) : ∀ x ∈ l.take (k + 1), p x := by
 rw [List.take_add_one, he]
 intro x hx
 rcases List.mem_append.1 hx with hx | hx
 · exact h x hx
 · rw [List.mem_singleton.1 hx]; exact hp
theorem tl_next {h : Nat} {l : List Wrd} {k : Nat} {e : Wrd} (he : l[k]? = some e) : tallsO h (l.take k) ++ [(⟨(h : Int), e⟩ : To)] = tallsO h (l.take (k + 1)) := by
 rw [List.take_add_one, he]
 exact tallsO_snoc.symm

set_option maxRecDepth 100000 in
set_option maxHeartbeats 400000 in
theorem c97 (v : ByteArray) (w0 : World) : Cl Try.prog 97 #[.string v] w0 (RetQ w0 fun r => r = .bool (mayB v)) := by
 have M : Sep (fun _ => False) w0 w0 _ := Sep.nil _ w0
 refine enter (vs := [_]) Try.func97 rfl rfl rfl ?_
 intro a F
 refine wp_seq ?_
 refine wp_region_l [.ind] ([0]) rfl ?_
 refine s_I F rfl rfl rfl rfl rfl rfl ?_; clear F a; intro a F
 refine t_endM M ?_; (clear M; try clear w); intro w M
 refine wp_seq ?_
 refine wp_region_l [.ind, .ind, .ind, .ind, .ind, .ind, .ind, .ind] ([0, 1, 2, 3, 4, 5, 6, 7]) rfl ?_
 refine s_rn 3 F rfl rfl ?_; clear F a; intro a F
 refine bsplit F 5 rfl ?_ ?_
 clear F; intro hc0 F
 try rw [hc0] at F
 replace hc0 := nd1 hc0
 refine s_I F rfl rfl rfl rfl rfl rfl ?_; clear F a; intro a F
 refine s_lenS F rfl rfl rfl rfl st_9_H1 rfl ?_; clear F a; intro a F
 refine s_rn 3 F rfl rfl ?_; clear F a; intro a F
 refine t_endM M ?_; (clear M; try clear w); intro w M
 refine wp_ret ?_
 refine ret1 F rfl rfl ?_
 refine ⟨_, rfl, ?_, M.chg⟩
 congr 1
 clear M F
 have he0 : VoteM.empty = { data := #[] } := rfl
 unfold mayB
 rw [he0]
 grind
 clear F; intro hc1 F
 try rw [hc1] at F
 replace hc1 := nd0 hc1
 refine s_rn 5 F rfl rfl ?_; clear F a; intro a F
 refine t_endM M ?_; (clear M; try clear w); intro w M
 refine wp_ret ?_
 refine ret1 F rfl rfl ?_
 refine ⟨_, rfl, ?_, M.chg⟩
 congr 1
 clear M F
 have he0 : VoteM.empty = { data := #[] } := rfl
 unfold mayB
 rw [he0]
 grind
set_option maxRecDepth 100000 in
set_option maxHeartbeats 400000 in
theorem c98 (c : Chn) (b : Nat) (pv wv : Value) (LA : Option Addr) (LC : Nat) (w0 : World) (hb : w0.heap[b]? = some (chO c pv (.slice LA c.log.length LC) wv)) : Cl Try.prog 98 #[.pointer (some ⟨b, 0, none⟩)] w0 (RetQ w0 fun r => r = .bool c.over) := by
 have M : Sep (fun _ => False) w0 w0 _ := Sep.nil _ w0
 refine enter (vs := [_]) Try.func98 rfl rfl rfl ?_
 intro a F
 refine wp_seq ?_
 refine wp_region_l [.ind] ([0]) rfl ?_
 refine s_I F rfl rfl rfl rfl rfl rfl ?_; clear F a; intro a F
 refine t_endM M ?_; (clear M; try clear w); intro w M
 refine wp_seq ?_
 refine wp_region_l [.ind, .ind, .ind, .rd, .ind, .ind, .ind] ([0, 1, 2, 3, 4, 5, 6]) rfl ?_
 refine s_rn 2 F rfl rfl ?_; clear F a; intro a F
 refine s_fa0 F rfl rfl rfl rfl fa_166_5_H1 rfl ?_; clear F a; intro a F
 refine s_ld F rfl rfl rfl rfl sc_69_H1 rfl (by exact old_cell M id hb (lit rfl)) ?_; clear F a; intro a F
 refine s_len F rfl rfl rfl rfl sl_69_H1 rfl ?_; clear F a; intro a F
 refine s_rn 2 F rfl rfl ?_; clear F a; intro a F
 refine t_endM M ?_; (clear M; try clear w); intro w M
 refine wp_ret ?_
 refine ret1 F rfl rfl ?_
 refine ⟨_, rfl, ?_, M.chg⟩
 congr 1
 clear M F
 unfold Chn.over
 rw [decide_eq_decide]
 omega
set_option maxRecDepth 100000 in
set_option maxHeartbeats 400000 in
theorem c119 (l : List ByteArray) (hl : l.length ≤ 100000) (x : ByteArray) (v : Value) (w0 : World) (hr : RdSl w0.heap v l.length 1 (l.flatMap encS)) : Cl Try.prog 119 #[v, .string x] w0 (RetQ w0 fun r => r = .int .i64 (((idxB l x).map Int.ofNat).getD (-1))) := by
 have M : Sep (fun _ => False) w0 w0 _ := Sep.nil _ w0
 have hro := ro_of hr
 obtain ⟨A, cc, rfl, hcc⟩ := hr.form
 refine enter (vs := [_, _]) Try.func119 rfl rfl rfl ?_
 intro a F
 refine wp_seq ?_
 refine wp_region_l [.ind] ([0]) rfl ?_
 refine s_I F rfl rfl rfl rfl rfl rfl ?_; clear F a; intro a F
 refine t_endM M ?_; (clear M; try clear w); intro w M
 refine wp_seq ?_
 refine wp_seq ?_
 refine wp_region_l [.ind, .ind, .ind] ([0, 1, 2]) rfl ?_
 refine s_I F rfl rfl rfl rfl rfl rfl ?_; clear F a; intro a F
 refine s_len F rfl rfl rfl rfl sl_69_H1 rfl ?_; clear F a; intro a F
 refine s_I F rfl rfl rfl rfl rfl rfl ?_; clear F a; intro a F
 refine t_endM M ?_; (clear M; try clear w); intro w M
 refine wp_block ?_
 refine loopX (X := (Int)) F [0, 1, 7] rfl (fun (i : Int) => (0 ≤ i) ∧ (i ≤ l.length) ∧ (∀ y ∈ l.take i.toNat, y ≠ x)) (fun (i : Int) => [(8, .int .i64 i)]) (fun (i : Int) => []) (fun (i : Int) => l.length - i.toNat) (0) M ⟨(by omega), (by omega), (by simp)⟩ (F.keep [8, 0, 1, 7] rfl) ?_
 clear F M; clear a; (try clear w)
 rintro i a w ⟨i0, i1, hn⟩ F M; try dsimp only at F M
 try simp only [List.cons_append, List.nil_append] at F M
 try dsimp only at i0 i1 hn
 refine wp_seq ?_
 refine wp_region_l [.ind] ([0]) rfl ?_
 refine s_bin F rfl rfl rfl rfl rfl rfl rfl ?_; clear F a; intro a F
 refine t_endM M ?_; (clear M; try clear w); intro w M
 refine wp_seq ?_
 refine c_if F rfl ?_ ?_
 clear F; intro hc0 F
 try rw [hc0] at F
 replace hc0 := of_decide_eq_true hc0
 refine wp_skip ?_
 refine wp_seq ?_
 refine wp_block ?_
 refine wp_seq ?_
 replace F := F.keep [0, 1, 7, 8] rfl
 refine wp_region_l [.ind, .ind] ([0, 1]) rfl ?_
 refine s_rn 2 F rfl rfl ?_; clear F a; intro a F
 refine t_endM M ?_; (clear M; try clear w); intro w M
 refine wp_seq ?_
 replace F := F.keep [0, 1, 5, 7, 8] rfl
 refine wp_region_l [.ind, .ind, .ind, .ind, .rd, .ind] ([0, 1, 2, 3, 4, 5]) rfl ?_
 refine s_rn 3 F rfl rfl ?_; clear F a; intro a F
 refine s_ix F rfl rfl rfl rfl sl_69_H1 rfl rfl (by exact M.chg.ro hro) (by omega) (by omega) ?_; clear F a; intro e14 he14 a F
 refine s_ld F rfl rfl rfl rfl sc_9_H1 rfl (by exact rdX0 (M.chg.ro hro) (by intro e; rfl) he14 rfl) ?_; clear F a; intro a F
 refine s_bin F rfl rfl rfl rfl rfl rfl rfl ?_; clear F a; intro a F
 refine t_endM M ?_; (clear M; try clear w); intro w M
 refine c_if F rfl ?_ ?_
 clear F; intro hc1 F
 try rw [hc1] at F
 replace hc1 := of_decide_eq_true hc1
 refine wp_seq ?_
 replace F := F.keep [0, 1, 5, 7, 8] rfl
 refine wp_region_l [.ind, .ind] ([0, 1]) rfl ?_
 refine s_rn 2 F rfl rfl ?_; clear F a; intro a F
 refine t_endM M ?_; (clear M; try clear w); intro w M
 refine wp_ret ?_
 refine ret1 F rfl rfl ?_
 refine ⟨_, rfl, ?_, M.chg⟩
 rw [idx_at (k := i.toNat) (by rw [he14]; exact congrArg some (Eq.symm (by assumption))) hn]
 show Value.int .i64 i = .int .i64 (i.toNat : Int)
 congr 1
 omega
 clear F; intro hc2 F
 try rw [hc2] at F
 replace hc2 := of_decide_eq_false hc2
 refine wp_skip ?_
 replace F := F.keep [0, 1, 5, 7, 8] rfl
 refine wp_region_l [.ind, .ind] ([0, 1]) rfl ?_
 refine s_add F rfl rfl rfl rfl rfl rfl (by unfold In64; omega) ?_; clear F a; intro a F
 refine s_I F rfl rfl rfl rfl rfl rfl ?_; clear F a; intro a F
 refine t_endM M ?_; (clear M; try clear w); intro w M
 refine again (i + 1) (by show _ < _; (try dsimp only); omega) ⟨(by omega), (by assumption), (by rw [show (i + 1).toNat = i.toNat + 1 by omega]; exact take_next hn he14 (fun e => absurd e.symm (by assumption)))⟩ (F.keep [8, 0, 1, 7] rfl) ?_
 try dsimp only [List.cons_append, List.nil_append]
 refine M.pick ?_; repeat (exact PkG.nil)
 clear F; intro hc3 F
 try rw [hc3] at F
 replace hc3 := of_decide_eq_false hc3
 refine wp_exit ?_
 refine wp_seq ?_
 replace F := F.keep [0, 1, 7, 8] rfl
 refine wp_region_l [.ind] ([0]) rfl ?_
 refine s_I F rfl rfl rfl rfl rfl rfl ?_; clear F a; intro a F
 refine t_endM M ?_; (clear M; try clear w); intro w M
 refine wp_ret ?_
 refine ret1 F rfl rfl ?_
 refine ⟨_, rfl, ?_, M.chg⟩
 rw [take_all (by omega)] at hn
 rw [idx_no hn]
 rfl
set_option maxRecDepth 100000 in
set_option maxHeartbeats 400000 in
theorem c120 (xs : List ByteArray) (i : Nat) (hi : i < xs.length) (A : Option Addr) (c : Nat) (w0 : World) (ho : Own w0.heap [slR (.slice A xs.length c) xs.length 9 1 (xs.flatMap encS)]) : Cl Try.prog 120 #[.slice A xs.length c, .int .i64 i, .int .i64 ((i : Int) + 1)] w0 (RetS [slR (.slice A xs.length c) xs.length 9 1 (xs.flatMap encS)] w0 (fun v (x : Value) => v = x) fun x => [slR x (xs.eraseIdx i).length 9 1 ((xs.eraseIdx i).flatMap encS)]) := by
 obtain ⟨hl, h | ⟨b, c, rest, e, hcap, hbk, hall⟩⟩ := ho.ok (slR (.slice A xs.length c) xs.length 9 1 (xs.flatMap encS)) (by simp)
 · omega
 injection e with e1 _ e3
 subst e1; subst e3
 have hfl2 : ((xs.drop (i + 1)).flatMap encS).length = (xs.length - (i + 1)) * 1 := by rw [flat_len (sz := 1) (fun _ => rfl), List.length_drop]
 have hfit : i * 1 + (xs.length - (i + 1)) * 1 ≤ c * 1 := by omega
 have hend1 : ((xs.length : Nat) : Int).toNat - (((i + (xs.drop (i + 1)).length : Nat) : Int)).toNat = 1 := by rw [List.length_drop]; omega
 have hend2 : (((i + (xs.drop (i + 1)).length : Nat) : Int)).toNat = xs.length - 1 := by rw [List.length_drop]; omega
 have hfit2 : (xs.length - 1) * 1 + 1 * 1 ≤ c * 1 := by omega
 have M : Sep (fun b_ => b_ ∈ foots [slR (.slice (some ⟨b, 0, none⟩) xs.length c) xs.length 9 1 (xs.flatMap encS)]) w0 w0 _ := (Sep.start ho).turn (q := blk b (.cells (xs.flatMap encS ++ rest).toArray 9 (0, 0))) rfl fun _ => hbk
 refine enter (vs := [_, _, _]) Try.func120 rfl rfl rfl ?_
 intro a F
 refine wp_seq ?_
 refine wp_region_l [.ind] ([0]) rfl ?_
 refine s_I F rfl rfl rfl rfl rfl rfl ?_; clear F a; intro a F
 refine t_endM M ?_; (clear M; try clear w); intro w M
 refine wp_seq ?_
 refine wp_region_l [.ind, .ind, .ind, .ind, .ind, .ind] ([0, 1, 2, 3, 4, 5]) rfl ?_
 refine s_rn 4 F rfl rfl ?_; clear F a; intro a F
 refine s_len F rfl rfl rfl rfl sl_69_H1 rfl ?_; clear F a; intro a F
 refine s_slc3 F rfl rfl rfl rfl sld_69_H1 rfl rfl rfl rfl (by omega) (by omega) (by omega) (by omega) ?_; clear F a; intro a v13 F
 refine t_endM M ?_; (clear M; try clear w); intro w M
 refine wp_seq ?_
 refine wp_seq ?_
 replace F := F.keep [0, 1, 2, 6] rfl
 refine wp_region_l [.ind, .ind, .ind] ([0, 1, 2]) rfl ?_
 refine s_rn 3 F rfl rfl ?_; clear F a; intro a F
 refine t_endM M ?_; (clear M; try clear w); intro w M
 refine c_if F rfl ?_ ?_
 clear F; intro hc0 F
 try rw [hc0] at F
 replace hc0 := of_decide_eq_true hc0
 exfalso
 omega
 clear F; intro hc1 F
 try rw [hc1] at F
 replace hc1 := of_decide_eq_false hc1
 refine wp_skip ?_
 refine wp_seq ?_
 replace F := F.keep [0, 1, 2, 6] rfl
 refine wp_region_l [.ind, .ind, .ind] ([0, 1, 2]) rfl ?_
 refine s_I F rfl rfl rfl rfl rfl rfl ?_; clear F a; intro a F
 refine s_len F rfl rfl rfl rfl sl_69_H1 rfl ?_; clear F a; intro a F
 refine s_I F rfl rfl rfl rfl rfl rfl ?_; clear F a; intro a F
 refine t_endM M ?_; (clear M; try clear w); intro w M
 refine wp_seq ?_
 have hsrc : RdSl w.heap (.slice (cutA (some ⟨b, 0, none⟩) c ((i : Int) + 1).toNat 1) (((xs.length : Nat) : Int).toNat - ((i : Int) + 1).toNat) (c - ((i : Int) + 1).toNat)) (xs.drop (i + 1)).length 1 ((xs.drop (i + 1)).flatMap encS) := by
   have := RdSl.suf (enc := encS) (sz := 1) (l := xs) (A := some ⟨b, 0, none⟩) (c := c) ⟨hl, _, _, rfl, hcap, fun _ => ⟨b, 0, _, _, _, rfl, M.h0, fun j u hu => by
     have hlt : j < (xs.flatMap encS).length := (List.getElem?_eq_some_iff.1 hu).1
     simp [List.getElem?_append_left hlt, hu]⟩⟩ (fun _ => rfl) (i + 1) (by omega)
   rwa [show ((xs.length : Nat) : Int).toNat = xs.length by omega, show ((i : Int) + 1).toNat = i + 1 by omega]
 replace F := F.keep [0, 1, 2, 6, 7] rfl
 refine wp_region_t [.ind, .ind, .ind, .ind, .ind, .ind, .wr, .ind] [] (otOf [0, 1, 2, 3, 4, 5, 6, 7]) mixed (by kernel_rfl) ?_
 refine s_rn 2 F rfl rfl ?_; clear F a; intro a F
 refine s_slcC F rfl rfl rfl rfl sld_69_H1 rfl rfl rfl hcap (by omega) (by omega) (by omega) ?_; clear F a; intro a F
 refine s_rn 2 F rfl rfl ?_; clear F a; intro a F
 refine s_slcC F rfl rfl rfl rfl sld_69_H1 rfl rfl rfl hcap (by omega) (by omega) (by omega) ?_; clear F a; intro a F
 rw [show Int.toNat 0 = 0 from rfl, cutA0, Nat.sub_zero, Nat.sub_zero, Int.toNat_natCast i] at F
 refine s_apI F M rfl rfl rfl rfl sld_69_H1 rfl rfl hsrc (flat_one (fun _ => rfl) _) (by rw [List.length_drop]; omega) (by rw [List.size_toArray, hall, hfl2]; exact hfit) ?_; (clear F a M; try clear w); intro w M a F
 refine s_I F rfl rfl rfl rfl rfl rfl ?_; clear F a; intro a F
 refine t_endM M ?_; (clear M; try clear w); intro w M
 refine wp_seq ?_
 replace F := F.keep [0, 1, 2, 6, 7] rfl
 refine wp_region_l [.ind, .ind, .ind, .ind, .ind, .wr] ([0, 1, 2, 3, 4, 5]) rfl ?_
 refine s_rn 2 F rfl rfl ?_; clear F a; intro a F
 refine s_len F rfl rfl rfl rfl sl_69_H1 rfl ?_; clear F a; intro a F
 refine s_I F rfl rfl rfl rfl rfl rfl ?_; clear F a; intro a F
 refine s_slcC F rfl rfl rfl rfl sld_69_H1 rfl rfl rfl (by rw [List.length_drop]; omega) (by omega) (by omega) (by omega) ?_; clear F a; intro a F
 rw [hend1, cutA1 (by omega), hend2] at F
 refine s_clr F M rfl rfl rfl sld_69_H1 zr_9_H1 rfl rfl rfl (by decide) (by rw [setCells_size, List.size_toArray, hall]; exact hfit2) ?_; (clear M; try clear w); intro w M
 refine t_endM M ?_; (clear M; try clear w); intro w M
 refine wp_seq ?_
 replace F := F.keep [0, 1, 2, 6, 7] rfl
 refine wp_region_l [.ind, .ind] ([0, 1]) rfl ?_
 refine s_rn 2 F rfl rfl ?_; clear F a; intro a F
 refine t_endM M ?_; (clear M; try clear w); intro w M
 refine wp_ret ?_
 refine ret1 F rfl rfl ?_
 obtain ⟨rest', hc1, hc2⟩ := cut_cells (enc := encS) (sz := 1) (fun _ => rfl) (rest := rest) (zs := (Builtin.zeroCells (Value.string { data := #[] }).cells 1).toList) hi (by simp [Builtin.zeroCells, Value.cells])
 have hel : (xs.eraseIdx i).length = xs.length - 1 := List.length_eraseIdx_of_lt hi
 refine ⟨_, .slice (some ⟨b, 0, none⟩) (xs.eraseIdx i).length c, rfl, ?_, ?_⟩
 · rw [hel, List.length_drop]
   congr 1
   omega
 · have M2 := M.turn (q := slR (.slice (some ⟨b, 0, none⟩) (xs.eraseIdx i).length c) (xs.eraseIdx i).length 9 1 ((xs.eraseIdx i).flatMap encS)) rfl fun hh => ⟨flat_len (enc := encS) (sz := 1) (fun _ => rfl) _, .inr ⟨b, c, rest', rfl, by rw [hel]; omega, ?_, by rw [hc2]; exact hall⟩⟩
   · exact Sep.left (r := []) M2
   · refine Eq.trans hh ?_
     rw [← hc1]
set_option maxRecDepth 100000 in
set_option maxHeartbeats 400000 in
theorem c121 (c : Chn) (b : Nat) (pv wv : Value) (LA : Option Addr) (LC : Nat) (l : List Wrd) (hl : l.length ≤ 100000) (v : Value) (w0 : World) (hb : w0.heap[b]? = some (chO c pv (.slice LA c.log.length LC) wv)) (hr : RdSl w0.heap v l.length 5 (l.flatMap encW)) : Cl Try.prog 121 #[.pointer (some ⟨b, 0, none⟩), v] w0 (RetS [] w0 (fun r (x : Value) => r = x) fun x => [tlR x (tallsO c.log.length l)]) := by
 have M : Sep (fun b => b ∈ foots ([] : List Res)) w0 w0 _ := Sep.nil _ w0
 have hro := (ro_of hr).nil
 obtain ⟨A, cc, rfl, hcc⟩ := hr.form
 refine enter (vs := [_, _]) Try.func121 rfl rfl rfl ?_
 intro a F
 refine wp_seq ?_
 refine wp_region_l [.ind] ([0]) rfl ?_
 refine s_I F rfl rfl rfl rfl rfl rfl ?_; clear F a; intro a F
 refine t_endM M ?_; (clear M; try clear w); intro w M
 refine wp_seq ?_
 replace M := M.nilT encTo 104 6
 refine wp_region_l [.ind] ([0]) rfl ?_
 refine s_I F rfl rfl rfl rfl rfl rfl ?_; clear F a; intro a F
 refine t_endM M ?_; (clear M; try clear w); intro w M
 refine wp_seq ?_
 refine wp_seq ?_
 refine wp_region_l [.ind, .ind, .ind] ([0, 1, 2]) rfl ?_
 refine s_I F rfl rfl rfl rfl rfl rfl ?_; clear F a; intro a F
 refine s_len F rfl rfl rfl rfl sl_22_H1 rfl ?_; clear F a; intro a F
 refine s_I F rfl rfl rfl rfl rfl rfl ?_; clear F a; intro a F
 refine t_endM M ?_; (clear M; try clear w); intro w M
 refine wp_block ?_
 have M1 : Sep _ _ _ (slR _ _ 104 _ _ :: _) := M; replace M := M1; clear M1
 refine loopX (X := (Nat) × (Option Addr) × (Nat)) F [0, 1, 4, 8, 9] rfl (fun ((i, A, d) : (Nat) × (Option Addr) × (Nat)) => (i ≤ l.length)) (fun ((i, A, d) : (Nat) × (Option Addr) × (Nat)) => [(5, .slice A (tallsO c.log.length (l.take i)).length d), (10, .int .i64 (i : Int))]) (fun ((i, A, d) : (Nat) × (Option Addr) × (Nat)) => [tlR (.slice A (tallsO c.log.length (l.take i)).length d) (tallsO c.log.length (l.take i))]) (fun ((i, A, d) : (Nat) × (Option Addr) × (Nat)) => l.length - i) ((0), (none), (0)) M (by omega) (F.keep [5, 10, 0, 1, 4, 8, 9] rfl) ?_
 clear F M; clear a; (try clear w)
 rintro ⟨i, A, d⟩ a w i1 F M; try dsimp only at F M
 try simp only [List.cons_append, List.nil_append] at F M
 try dsimp only at i1
 have hql : (tallsO c.log.length (l.take i)).length = i := by rw [tallsO_len, List.length_take]; omega
 refine wp_seq ?_
 refine wp_region_l [.ind] ([0]) rfl ?_
 refine s_bin F rfl rfl rfl rfl rfl rfl rfl ?_; clear F a; intro a F
 refine t_endM M ?_; (clear M; try clear w); intro w M
 refine wp_seq ?_
 refine c_if F rfl ?_ ?_
 clear F; intro hc0 F
 try rw [hc0] at F
 replace hc0 := of_decide_eq_true hc0
 refine wp_skip ?_
 refine wp_seq ?_
 refine wp_block ?_
 refine wp_seq ?_
 replace F := F.keep [0, 1, 4, 5, 8, 9, 10] rfl
 refine wp_region_l [.ind, .rd, .wr, .wr] ([0, 1, 2, 3]) rfl ?_
 refine s_ix F rfl rfl rfl rfl sl_22_H1 rfl rfl (by exact M.chg.ro hro) (by omega) (by omega) ?_; clear F a; intro e12 he12 a F
 refine s_lda F rfl rfl rfl rfl ag_32_H1 rfl rfl (rdsX (M.chg.ro hro) (by intro e; rfl) he12) ?_; clear F a; intro a F
 refine s_alc F M rfl rfl rfl rfl zr_32_H1 rfl ?_; (clear F a M; try clear w); intro b7 w M a F
 refine s_stW F M rfl rfl rfl sz_32_H1 rfl rfl rfl rfl rfl ?_; (clear M; try clear w); intro w M
 refine t_endM M ?_; (clear M; try clear w); intro w M
 replace F := F.keep [0, 1, 4, 5, 7, 8, 9, 10] rfl
 refine wp_region_t [.ind, .ind, .ind, .ind, .rd, .ind, .rd, .ind, .wr, .wr, .ind] [] (otOf [0, 1, 2, 3, 4, 5, 6, 7, 8, 9, 10]) mixed (by kernel_rfl) ?_
 refine s_rn 3 F rfl rfl ?_; clear F a; intro a F
 refine s_fa0 F rfl rfl rfl rfl fa_166_5_H1 rfl ?_; clear F a; intro a F
 refine s_ld F rfl rfl rfl rfl sc_69_H1 rfl (by exact old_cell M (by simp [foots]) hb (lit rfl)) ?_; clear F a; intro a F
 refine s_len F rfl rfl rfl rfl sl_69_H1 rfl ?_; clear F a; intro a F
 refine s_lda F rfl rfl rfl rfl ag_32_H1 rfl rfl (cells_whole M.h0) ?_; clear F a; intro a F
 refine s_bld F rfl rfl rfl rfl (parts2 F rfl rfl) (bl_104_0_1_H1 _ _ _ _ _ _) ?_; clear F a; intro a F
 refine s_bs F M rfl rfl rfl rfl (parts1 F rfl) (bs_92_1_H1 _ _ _ _ _ _) ?_; (clear F a M; try clear w); intro b22 w M a F
 refine s_apE ((⟨(c.log.length : Int), e12⟩ : To)) F M.f2 rfl rfl rfl rfl tl_92_H1 rfl rfl (by exact rd_blk M.h0 rfl) rfl (by omega) (fun _ _ _ _ => pend_nil) ?_; (clear F a M; try clear w); intro A23 c23 w M a F
 refine s_I F rfl rfl rfl rfl rfl rfl ?_; clear F a; intro a F
 refine t_endM M ?_; (clear M; try clear w); intro w M
 replace F := F.keep [0, 1, 4, 5, 7, 8, 9, 10] rfl
 refine wp_region_l [.ind, .ind] ([0, 1]) rfl ?_
 refine s_add F rfl rfl rfl rfl rfl rfl (by unfold In64; omega) ?_; clear F a; intro a F
 refine s_I F rfl rfl rfl rfl rfl rfl ?_; clear F a; intro a F
 refine t_endM M ?_; (clear M; try clear w); intro w M
 rw [Int.toNat_natCast] at he12
 rw [tl_next he12] at F M
 refine again ((i + 1), (A23), (c23)) (by show _ < _; (try dsimp only); omega) (by omega) (F.keep [5, 10, 0, 1, 4, 8, 9] rfl) ?_
 try dsimp only [List.cons_append, List.nil_append]
 refine M.pick ?_; repeat (first | exact PkG.nil | refine PkG.cons 0 rfl rfl ?_)
 clear F; intro hc1 F
 try rw [hc1] at F
 replace hc1 := of_decide_eq_false hc1
 refine wp_exit ?_
 refine wp_seq ?_
 obtain rfl : i = l.length := by omega
 rw [List.take_length] at F M
 replace F := F.keep [0, 1, 4, 5, 8, 9, 10] rfl
 refine wp_region_l [.ind, .ind] ([0, 1]) rfl ?_
 refine s_rn 2 F rfl rfl ?_; clear F a; intro a F
 refine t_endM M ?_; (clear M; try clear w); intro w M
 refine wp_ret ?_
 refine ret1 F rfl rfl ?_
 refine ⟨_, .slice A (tallsO c.log.length l).length d, rfl, rfl, ?_⟩
 refine M.pick ?_; repeat (first | exact PkG.nil | refine PkG.cons 0 rfl rfl ?_)
set_option maxRecDepth 100000 in
set_option maxHeartbeats 400000 in
theorem c101 (l : List ByteArray) (hl : l.length ≤ 100000) (v : Value) (w0 : World) (hr : RdSl w0.heap v l.length 1 (l.flatMap encS)) : Cl Try.prog 101 #[v] w0 (RetS [] w0 (fun r (x : Value) => r = x) fun x => [strR x l]) := by
 have M : Sep (fun _ => False) w0 w0 _ := Sep.nil _ w0
 have hro := ro_of hr
 obtain ⟨A, cc, rfl, hcc⟩ := hr.form
 refine enter (vs := [_]) Try.func101 rfl rfl rfl ?_
 intro a F
 refine wp_seq ?_
 refine wp_region_l [.ind] ([0]) rfl ?_
 refine s_I F rfl rfl rfl rfl rfl rfl ?_; clear F a; intro a F
 refine t_endM M ?_; (clear M; try clear w); intro w M
 refine wp_seq ?_
 refine wp_seq ?_
 refine wp_region_l [.ind, .ind] ([0, 1]) rfl ?_
 refine s_I F rfl rfl rfl rfl rfl rfl ?_; clear F a; intro a F
 refine s_sn F rfl rfl rfl rfl sl_69_H1 rfl ?_; clear F a; intro a F
 refine t_endM M ?_; (clear M; try clear w); intro w M
 refine c_if F rfl ?_ ?_
 clear F; intro hc0 F
 try rw [hc0] at F
 skip
 refine wp_seq ?_
 replace F := F.keep [0, 2] rfl
 refine wp_region_l [.ind] ([0]) rfl ?_
 refine s_I F rfl rfl rfl rfl rfl rfl ?_; clear F a; intro a F
 refine t_endM M ?_; (clear M; try clear w); intro w M
 refine wp_ret ?_
 refine ret1 F rfl rfl ?_
 obtain rfl := rd_none hr (by simpa using hc0)
 refine ⟨_, _, rfl, rfl, ?_⟩
 exact Sep.left (r := []) (M.nilS 9 1).toE
 clear F; intro hc1 F
 try rw [hc1] at F
 skip
 refine wp_skip ?_
 refine wp_seq ?_
 replace F := F.keep [0, 2] rfl
 refine wp_region_l [.wr, .ind, .wr, .ind] ([0, 1, 2, 3]) rfl ?_
 refine s_bs F M rfl rfl rfl rfl (parts0 F ) (bs_69_0_H1 ()) ?_; (clear F a M; try clear w); intro b5 w M a F
 replace M := Fw.Sep.sl0 (sz := 1) M
 refine s_I F rfl rfl rfl rfl rfl rfl ?_; clear F a; intro a F
 replace M : Sep _ _ _ (slR (.slice (some ⟨b5, 0, none⟩) 0 0) ([] : List ByteArray).length 9 1 (([] : List ByteArray).flatMap encS) :: _) := M
 refine s_apM (l) F M rfl rfl rfl rfl tl_69_H1 rfl rfl (by exact M.chg.ro hro) (by intro e; rfl) (by simp; omega) (fun _ _ _ _ => pend_nil) ?_; (clear F a M; try clear w); intro A7 c7 w M a F
 refine s_I F rfl rfl rfl rfl rfl rfl ?_; clear F a; intro a F
 refine t_endM M ?_; (clear M; try clear w); intro w M
 refine wp_ret ?_
 refine ret1 F rfl rfl ?_
 refine ⟨_, _, rfl, rfl, ?_⟩
 exact Sep.left (r := []) M.toE
end Go.Proofs.Ytboibdmflblphaa
