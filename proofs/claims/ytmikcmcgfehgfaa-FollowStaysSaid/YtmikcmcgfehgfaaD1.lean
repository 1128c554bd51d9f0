/- D1 of the seat. -/
import Derived.Test.YtmikcmcgfehgfaaFw9
import Derived.Test.YtmikcmcgfehgfaaProg
import Derived.Test.YtmikcmcgfehgfaaFlwM
namespace Go.Proofs.Ytmikcmcgfehgfaa
open Go Fw
theorem pt_25_D1 : ptrB Try.prog 25 = true := by kernel_rfl
theorem fa_74_0_D1 : FA Try.prog 74 0 0 := fun _ _ _ => by kernel_rfl
theorem sc_72_D1 : scalB Try.prog 72 = true := by kernel_rfl
theorem mp_72_D1 : mapB Try.prog 72 = some (9, 3) := by kernel_rfl
theorem sz_72_D1 : sizeB Try.prog 72 = some 1 := by kernel_rfl
theorem zr_3_D1 : zeroB Try.prog 3 = some (.int .i64 0) := by kernel_rfl
theorem fa_74_2_D1 : FA Try.prog 74 2 2 := fun _ _ _ => by kernel_rfl
theorem sc_4_D1 : scalB Try.prog 4 = true := by kernel_rfl
theorem fa_74_1_D1 : FA Try.prog 74 1 1 := fun _ _ _ => by kernel_rfl
theorem sz_9_D1 : sizeB Try.prog 9 = some 1 := by kernel_rfl
theorem sz_4_D1 : sizeB Try.prog 4 = some 1 := by kernel_rfl
open FlwM
theorem mixed : Try.prog.follows .mixedOrders = true := by kernel_rfl

def encA (a : Ans) : List Value := [.int .i64 a.frm, .int .i64 a.height, .string a.value]
def encS (s : ByteArray) : Value := .string s
def encT (s : ByteArray) : List Value := [.string s]
def encI (i : Int) : List Value := [.int .i64 i]
theorem keS : KE Try.prog 9 encS := by
  have h9 : Try.prog.underlying 9 = some .string := by kernel_rfl
  refine ⟨fun e k w => ?_, fun k k' w => ?_, ⟨_, Try.underlying9, fun k k' => .inr ?_⟩, fun k => ?_⟩
  · kernel_rfl
  · have := run_equalIn_string (P := Try.prog) w 9999 9 k k' h9
    simpa [Op.equal, Op.maxDepth, encS, bytes_toList_inj] using this
  · simp only [encS, Instr.sameNow, Option.some.injEq]
    rw [beq_toListBytes, bytes_toList_inj]
  · have : (k == k) = true := by rw [beq_toListBytes]; simp
    simp [encS, Instr.sameBits, this]
def cntD (L : List Ans) (h : Int) (k : ByteArray) : Option Value := if cnt L h k = 0 then none else some (.int .i64 (cnt L h k : Nat))
theorem cntD_get (L : List Ans) (h : Int) (k : ByteArray) : (cntD L h k).getD (.int .i64 0) = .int .i64 (cnt L h k : Nat) := by
  unfold cntD
  split
  · rename_i h; rw [h]; rfl
  · rfl
theorem cntD_snoc (L : List Ans) (a : Ans) (k : ByteArray) : (if k = a.value then some (Value.int .i64 ((cnt L a.height a.value : Nat) + 1)) else cntD L a.height k) = cntD (L ++ [a]) a.height k := by
  simp only [cntD, cnt_snoc]
  by_cases h : k = a.value
  · subst h; simp
  · have h' : ¬ a.value = k := fun e => h e.symm
    simp [h, h']
theorem cntD_other (L : List Ans) (a : Ans) (h : Int) (hh : a.height ≠ h) (k : ByteArray) : cntD (L ++ [a]) h k = cntD L h k := by
  simp [cntD, cnt_snoc, hh]

/-- The cells of a Follow. -/
structure FlwF (f : Nat → Value) (t : Int) (L : List Ans) (mp : Nat → Option Nat) : Prop where
  tt : f 0 = .int .i64 t
  heard : ∀ h i : Int, 0 ≤ h → h < 64 → 0 ≤ i → i < 8 → f (1 + h.toNat * 8 + i.toNat * 1) = .bool (heard L h i)
  map : ∀ h : Int, 0 ≤ h → h < 64 → f (513 + h.toNat * 3) = .map (mp h.toNat)
  first : ∀ h : Int, 0 ≤ h → h < 64 → f (513 + h.toNat * 3 + 1) = .string ((told t L h).getD empty)
  td : ∀ h : Int, 0 ≤ h → h < 64 → f (513 + h.toNat * 3 + 2) = .bool (told t L h).isSome

/-- A height's map. -/
def tlyR (mp : Nat → Option Nat) (L : List Ans) (h : Nat) : Res := match mp h with
  | none => pureR (∀ k, cnt L (h : Int) k = 0)
  | some mb => mapX encS mb (cntD L (h : Int))
def flwB (b : Nat) (mp : Nat → Option Nat) (t : Int) (L : List Ans) : Res :=
  ⟨11, [b], fun h => (Wf L ∧ 0 ≤ t ∧ t ≤ 2) ∧ ∃ f, h[b]? = some (.cells (cellsF 705 f) 77 (0, 0)) ∧ FlwF f t L mp, fun h h' hb ⟨W, f, h1, h2⟩ => ⟨W, f, (hb b (by simp)).trans h1, h2⟩⟩
def flwR (b : Nat) (mp : Nat → Option Nat) (t : Int) (L : List Ans) : Res :=
  ⟨12, [b] ++ (bigR (tlyR mp L) (List.range 64)).foot, fun h => (flwB b mp t L).ok h ∧ (bigR (tlyR mp L) (List.range 64)).ok h, fun h h' hb ⟨h1, h2⟩ => ⟨(flwB b mp t L).loc h h' (fun x hx => hb x (List.mem_append_left _ hx)) h1, (bigR (tlyR mp L) (List.range 64)).loc h h' (fun x hx => hb x (List.mem_append_right _ hx)) h2⟩⟩
section
variable {S : Nat → Prop} {w0 w : World} {r : List Res} {b : Nat} {mp : Nat → Option Nat} {t : Int} {L : List Ans}
theorem Fw.Sep.flwOpen (M : Sep S w0 w (flwR b mp t L :: r)) : ∃ f, FlwF f t L mp ∧ (Wf L ∧ 0 ≤ t ∧ t ≤ 2) ∧ Sep S w0 w (blk b (.cells (cellsF 705 f) 77 (0, 0)) :: bigR (tlyR mp L) (List.range 64) :: r) := by
  obtain ⟨⟨W, f, h1, h2⟩, _⟩ := M.h0
  exact ⟨f, h2, W, M.apart (p := blk b (.cells (cellsF 705 f) 77 (0, 0))) (q := bigR (tlyR mp L) (List.range 64)) rfl fun h => ⟨h1, h.2⟩⟩
theorem Fw.Sep.flwShut {f : Nat → Value} (M : Sep S w0 w (blk b (.cells (cellsF 705 f) 77 (0, 0)) :: bigR (tlyR mp L) (List.range 64) :: r)) (C : FlwF f t L mp) (W : Wf L ∧ 0 ≤ t ∧ t ≤ 2) : Sep S w0 w (flwR b mp t L :: r) :=
  M.two (p' := flwR b mp t L) rfl fun h1 h2 => ⟨⟨W, f, h1, C⟩, h2⟩
end
theorem flw_cell {b : Nat} {mp : Nat → Option Nat} {t : Int} {L : List Ans} {h : Array Obj} (hc : (flwR b mp t L).ok h) : (Wf L ∧ 0 ≤ t ∧ t ≤ 2) ∧ ∃ f, h[b]? = some (.cells (cellsF 705 f) 77 (0, 0)) ∧ FlwF f t L mp := hc.1

/-- What 'add' leaves. -/
def talF (f : Nat → Value) (off mb : Nat) (x first : ByteArray) (td q : Bool) : Nat → Value := fun j =>
  if j = off then .map (some mb) else if j = off + 1 then .string (if !td && q then x else first) else if j = off + 2 then .bool (td || q) else f j
def f0 (t : Int) (i : Nat) : Value := if i = 0 then .int .i64 t else if i < 513 then .bool false else if (i - 513) % 3 = 0 then .map none else if (i - 513) % 3 = 1 then .string { data := #[] } else .bool false
theorem bl77 : ∀ (x0 : Int) (w : World), (Instr.build 77 #[(0, .int .i64 x0)]).run Try.prog w = .ok (.agg (cellsF 705 (f0 x0))) w := by intros; kernel_rfl
def new (t : Int) : Int := min (max t 0) 2
theorem f0_ok (t : Int) : FlwF (f0 t) t [] fun _ => none := by
  refine ⟨rfl, fun h i h1 h2 h3 h4 => ?_, fun h h1 h2 => ?_, fun h h1 h2 => ?_, fun h h1 h2 => ?_⟩
  · unfold f0
    rw [if_neg (by omega), if_pos (by omega)]
    rfl
  · unfold f0
    rw [if_neg (by omega), if_neg (by omega), if_pos (by omega)]
  · unfold f0
    rw [if_neg (by omega), if_neg (by omega), if_neg (by omega), if_pos (by omega)]
    rfl
  · unfold f0
    rw [if_neg (by omega), if_neg (by omega), if_neg (by omega), if_neg (by omega)]
    rfl

set_option maxRecDepth 100000 in
set_option maxHeartbeats 400000 in
theorem c38 (b : Nat) (h : Int) (w0 : World) : Cl Try.prog 38 #[.pointer (some ⟨b, 0, none⟩), .int .i64 h] w0 (RetQ w0 fun v => v = .bool (decide (0 ≤ h ∧ h < 64))) := by
  have M : Sep (fun _ => False) w0 w0 _ := Sep.nil _ w0
  refine enter (vs := [_, _]) Try.func38 rfl rfl rfl ?_
  intro a F
  refine wp_seq ?_
  refine wp_region_l [.ind] ([0]) rfl ?_
  refine s_I F rfl rfl rfl rfl rfl rfl ?_; clear F a; intro a F
  refine t_endM M ?_; (clear M; try clear w); intro w M
  refine wp_seq ?_
  refine wp_region_l [.ind, .ind, .ind, .ind, .ind, .ind, .ind, .ind, .ind, .ind, .ind] ([0, 1, 2, 3, 4, 5, 6, 7, 8, 9, 10]) rfl ?_
  refine s_I F rfl rfl rfl rfl rfl rfl ?_; clear F a; intro a F
  refine s_pne F rfl rfl rfl rfl pt_25_D1 rfl ?_; clear F a; intro a F
  replace F : Fr _ _ ((6, Value.bool true) :: _) := F
  refine s_I F rfl rfl rfl rfl rfl rfl ?_; clear F a; intro a F
  refine s_I F rfl rfl rfl rfl rfl rfl ?_; clear F a; intro a F
  refine s_bin F rfl rfl rfl rfl rfl rfl rfl ?_; clear F a; intro a F
  refine s_I F rfl rfl rfl rfl rfl rfl ?_; clear F a; intro a F
  refine s_I F rfl rfl rfl rfl rfl rfl ?_; clear F a; intro a F
  refine bsplit F 11 rfl ?_ ?_
  ·
    clear F; intro hc0 F
    try rw [hc0] at F
    replace hc0 := of_decide_eq_true hc0
    refine s_I F rfl rfl rfl rfl rfl rfl ?_; clear F a; intro a F
    refine s_bin F rfl rfl rfl rfl rfl rfl rfl ?_; clear F a; intro a F
    refine s_I F rfl rfl rfl rfl rfl rfl ?_; clear F a; intro a F
    refine s_I F rfl rfl rfl rfl rfl rfl ?_; clear F a; intro a F
    refine t_endM M ?_; (clear M; try clear w); intro w M
    refine wp_ret ?_
    refine ret1 F rfl rfl ?_
    -- end 0
    refine ⟨_, rfl, ?_, M.chg⟩
    congr 1
    clear M F
    grind
  ·
    clear F; intro hc1 F
    try rw [hc1] at F
    replace hc1 := of_decide_eq_false hc1
    refine s_no F rfl rfl rfl rfl ?_; clear F a; intro a F
    refine s_no F rfl rfl rfl rfl ?_; clear F a; intro a F
    refine s_I F rfl rfl rfl rfl rfl rfl ?_; clear F a; intro a F
    refine s_I F rfl rfl rfl rfl rfl rfl ?_; clear F a; intro a F
    refine t_endM M ?_; (clear M; try clear w); intro w M
    refine wp_ret ?_
    refine ret1 F rfl rfl ?_
    -- end 1
    refine ⟨_, rfl, ?_, M.chg⟩
    congr 1
    clear M F
    rw [decide_eq_false (by omega)]; done
set_option maxRecDepth 100000 in
set_option maxHeartbeats 400000 in
theorem c38n (h : Int) (w0 : World) : Cl Try.prog 38 #[.pointer none, .int .i64 h] w0 (RetQ w0 fun v => v = .bool false) := by
  have M : Sep (fun _ => False) w0 w0 _ := Sep.nil _ w0
  refine enter (vs := [_, _]) Try.func38 rfl rfl rfl ?_
  intro a F
  refine wp_seq ?_
  refine wp_region_l [.ind] ([0]) rfl ?_
  refine s_I F rfl rfl rfl rfl rfl rfl ?_; clear F a; intro a F
  refine t_endM M ?_; (clear M; try clear w); intro w M
  refine wp_seq ?_
  refine wp_region_l [.ind, .ind, .ind, .ind, .ind, .ind, .ind, .ind, .ind, .ind, .ind] ([0, 1, 2, 3, 4, 5, 6, 7, 8, 9, 10]) rfl ?_
  refine s_I F rfl rfl rfl rfl rfl rfl ?_; clear F a; intro a F
  refine s_pne F rfl rfl rfl rfl pt_25_D1 rfl ?_; clear F a; intro a F
  replace F : Fr _ _ ((6, Value.bool false) :: _) := F
  refine s_I F rfl rfl rfl rfl rfl rfl ?_; clear F a; intro a F
  refine s_no F rfl rfl rfl rfl ?_; clear F a; intro a F
  refine s_no F rfl rfl rfl rfl ?_; clear F a; intro a F
  refine s_I F rfl rfl rfl rfl rfl rfl ?_; clear F a; intro a F
  refine s_I F rfl rfl rfl rfl rfl rfl ?_; clear F a; intro a F
  refine s_no F rfl rfl rfl rfl ?_; clear F a; intro a F
  refine s_no F rfl rfl rfl rfl ?_; clear F a; intro a F
  refine s_I F rfl rfl rfl rfl rfl rfl ?_; clear F a; intro a F
  refine s_I F rfl rfl rfl rfl rfl rfl ?_; clear F a; intro a F
  refine t_endM M ?_; (clear M; try clear w); intro w M
  refine wp_ret ?_
  refine ret1 F rfl rfl ?_
  -- end 0
  exact ⟨_, rfl, rfl, M.chg⟩
set_option maxRecDepth 100000 in
set_option maxHeartbeats 400000 in
theorem c14 (t : Int) (w0 : World) : Cl Try.prog 14 #[.int .i64 t] w0 (RetS [] w0 (fun v (b : Nat) => v = .pointer (some ⟨b, 0, none⟩)) fun b => [flwR b (fun _ => none) (new t) []]) := by
  have M : Sep (fun b => b ∈ foots ([] : List Res)) w0 w0 _ := Sep.nil _ w0
  refine enter (vs := [_]) Try.func14 rfl rfl rfl ?_
  intro a F
  refine wp_seq ?_
  refine wp_region_l [.ind] ([0]) rfl ?_
  refine s_I F rfl rfl rfl rfl rfl rfl ?_; clear F a; intro a F
  refine t_endM M ?_; (clear M; try clear w); intro w M
  refine wp_seq ?_
  refine wp_region_l [.ind, .ind, .ind, .ind, .wr, .ind] ([0, 1, 2, 3, 4, 5]) rfl ?_
  refine s_I F rfl rfl rfl rfl rfl rfl ?_; clear F a; intro a F
  refine s_max F rfl rfl rfl rfl rfl rfl ?_; clear F a; intro a F
  refine s_min F rfl rfl rfl rfl rfl rfl ?_; clear F a; intro a F
  refine s_bld F rfl rfl rfl rfl (parts1 F rfl) (bl77 _) ?_; clear F a; intro a F
  refine s_bxA F M rfl rfl rfl rfl rfl ?_; (clear F a M; try clear w); intro b7 w M a F
  refine s_I F rfl rfl rfl rfl rfl rfl ?_; clear F a; intro a F
  refine t_endM M ?_; (clear M; try clear w); intro w M
  refine wp_ret ?_
  refine ret1 F rfl rfl ?_
  -- end 0
  refine ⟨_, b7, rfl, rfl, ?_⟩
  refine Sep.left (r := []) (Fw.Sep.flwShut (f := f0 (new t)) ?_ (f0_ok _) ⟨.nil, by unfold new; omega, by unfold new; omega⟩)
  have M1 : Sep _ _ _ (bigR (tlyR (fun _ => none) []) (List.range 64) :: _) := M.pureIn (by simp [bigR, tlyR, pureR]) (fun x _ k => rfl)
  exact M1.f1
set_option maxRecDepth 100000 in
set_option maxHeartbeats 400000 in
theorem c39a (b off : Nat) (f : Nat → Value) (x first : ByteArray) (td : Bool) (need : Int) (h0 : f off = .map none) (h1 : f (off + 1) = .string first) (h2 : f (off + 2) = .bool td) (hoff : off + 2 < 705) (w0 : World) (ho : Own w0.heap [blk b (.cells (cellsF 705 f) 77 (0, 0))]) : Cl Try.prog 39 #[.pointer (some ⟨b, off, none⟩), .string x, .int .i64 need] w0 (RetS [blk b (.cells (cellsF 705 f) 77 (0, 0))] w0 (fun v (_ : Nat) => v = .tuple #[]) fun mb => [blk b (.cells (cellsF 705 (talF f off mb x first td (decide (need ≤ (0 + 1 : Int))))) 77 (0, 0)), mapX encS mb (fun k => if k = x then some (Value.int .i64 (0 + 1)) else none)]) := by
  have M : Sep (fun b_ => b_ ∈ foots [blk b (.cells (cellsF 705 f) 77 (0, 0))]) w0 w0 _ := Sep.start ho
  refine enter (vs := [_, _, _]) Try.func39 rfl rfl rfl ?_
  intro a F
  refine wp_seq ?_
  refine wp_seq ?_
  refine wp_region_l [.ind, .ind, .ind, .rd, .ind] ([0, 1, 2, 3, 4]) rfl ?_
  refine s_I F rfl rfl rfl rfl rfl rfl ?_; clear F a; intro a F
  refine s_I F rfl rfl rfl rfl rfl rfl ?_; clear F a; intro a F
  refine s_fa F rfl rfl rfl rfl fa_74_0_D1 rfl ?_; clear F a; intro a F
  refine s_ld F rfl rfl rfl rfl sc_72_D1 rfl (by exact cell_of_blk M.h0 (gf (h0) (by omega))) ?_; clear F a; intro a F
  refine s_mn F rfl rfl rfl rfl mp_72_D1 rfl ?_; clear F a; intro a F
  refine t_endM M ?_; (clear M; try clear w); intro w M
  refine c_t F rfl ?_
  replace F := F.keep [0, 1, 2] rfl
  refine wp_region_l [.ind, .wr, .ind, .ind, .wr] ([0, 1, 2, 3, 4]) rfl ?_
  refine s_I F rfl rfl rfl rfl rfl rfl ?_; clear F a; intro a F
  refine s_mm F M rfl rfl rfl rfl ?_; (clear F a M; try clear w); intro b12 w M a F
  refine s_I F rfl rfl rfl rfl rfl rfl ?_; clear F a; intro a F
  refine s_fa F rfl rfl rfl rfl fa_74_0_D1 rfl ?_; clear F a; intro a F
  refine s_sf F M.f1 rfl rfl rfl sz_72_D1 rfl rfl rfl (by omega) ?_; (clear M; try clear w); intro w M
  refine t_endM M ?_; (clear M; try clear w); intro w M
  refine wp_seq ?_
  replace M := M.f1.mapNew encS
  obtain ⟨mb, hmb⟩ : ∃ mb, mb = b12 := ⟨_, rfl⟩
  subst hmb
  replace F := F.keep [0, 1, 2] rfl
  refine wp_region_l [.ind, .ind, .ind, .rd, .ind, .rd, .ind, .wr] ([0, 1, 2, 3, 4, 5, 6, 7]) rfl ?_
  refine s_I F rfl rfl rfl rfl rfl rfl ?_; clear F a; intro a F
  refine s_I F rfl rfl rfl rfl rfl rfl ?_; clear F a; intro a F
  refine s_fa F rfl rfl rfl rfl fa_74_0_D1 rfl ?_; clear F a; intro a F
  refine s_ld F rfl rfl rfl rfl sc_72_D1 rfl (by exact cell_of_blk M.h1 (gf (upd_at) (by omega))) ?_; clear F a; intro a F
  refine s_I F rfl rfl rfl rfl rfl rfl ?_; clear F a; intro a F
  refine s_lk keS (_) F rfl rfl rfl rfl mp_72_D1 zr_3_D1 rfl rfl (by exact M.h0) ?_; clear F a; intro a F
  refine s_add F rfl rfl rfl rfl rfl rfl (by unfold In64; omega) ?_; clear F a; intro a F
  have M1 : Sep _ _ _ (mapR _ _ _ _ :: _) := M; replace M := M1; clear M1
  refine s_mu keS (_) F M rfl rfl rfl mp_72_D1 rfl rfl rfl (fun _ _ => pend_nil) ?_; (clear M; try clear w); intro w M
  refine t_endM M ?_; (clear M; try clear w); intro w M
  refine wp_seq ?_
  replace F := F.keep [0, 1, 2] rfl
  refine wp_region_l [.ind, .ind, .ind, .rd, .ind, .ind, .ind, .ind, .ind, .rd, .ind, .rd, .ind, .ind, .ind] ([0, 1, 2, 3, 4, 5, 6, 7, 8, 9, 10, 11, 12, 13, 14]) rfl ?_
  refine s_I F rfl rfl rfl rfl rfl rfl ?_; clear F a; intro a F
  refine s_I F rfl rfl rfl rfl rfl rfl ?_; clear F a; intro a F
  refine s_fa F rfl rfl rfl rfl fa_74_2_D1 rfl ?_; clear F a; intro a F
  refine s_ld F rfl rfl rfl rfl sc_4_D1 rfl (by exact cell_of_blk M.h1 (gf ((upd_ne (by omega)).trans h2) (by omega))) ?_; clear F a; intro a F
  refine s_I F rfl rfl rfl rfl rfl rfl ?_; clear F a; intro a F
  refine s_I F rfl rfl rfl rfl rfl rfl ?_; clear F a; intro a F
  refine bsplit F 27 rfl ?_ ?_
  ·
    clear F; intro hc0 F
    try rw [hc0] at F
    replace hc0 := nt hc0
    refine s_I F rfl rfl rfl rfl rfl rfl ?_; clear F a; intro a F
    refine s_I F rfl rfl rfl rfl rfl rfl ?_; clear F a; intro a F
    refine s_fa F rfl rfl rfl rfl fa_74_0_D1 rfl ?_; clear F a; intro a F
    refine s_ld F rfl rfl rfl rfl sc_72_D1 rfl (by exact cell_of_blk M.h1 (gf (upd_at) (by omega))) ?_; clear F a; intro a F
    refine s_I F rfl rfl rfl rfl rfl rfl ?_; clear F a; intro a F
    refine s_lk keS (_) F rfl rfl rfl rfl mp_72_D1 zr_3_D1 rfl rfl (by exact M.h0) ?_; clear F a; intro a F
    refine s_I F rfl rfl rfl rfl rfl rfl ?_; clear F a; intro a F
    rw [if_pos rfl, Option.getD_some] at F
    refine s_bin F rfl rfl rfl rfl rfl rfl rfl ?_; clear F a; intro a F
    refine s_I F rfl rfl rfl rfl rfl rfl ?_; clear F a; intro a F
    refine t_endM M ?_; (clear M; try clear w); intro w M
    refine c_if F rfl ?_ ?_
    ·
      clear F; intro hc1 F
      try rw [hc1] at F
      replace hc1 := of_decide_eq_true hc1
      replace F := F.keep [0, 1, 2] rfl
      refine wp_region_l [.ind, .ind, .ind, .ind, .ind, .wr, .ind, .ind, .wr] ([0, 1, 2, 3, 4, 5, 6, 7, 8]) rfl ?_
      refine s_I F rfl rfl rfl rfl rfl rfl ?_; clear F a; intro a F
      refine s_I F rfl rfl rfl rfl rfl rfl ?_; clear F a; intro a F
      refine s_I F rfl rfl rfl rfl rfl rfl ?_; clear F a; intro a F
      refine s_I F rfl rfl rfl rfl rfl rfl ?_; clear F a; intro a F
      refine s_fa F rfl rfl rfl rfl fa_74_1_D1 rfl ?_; clear F a; intro a F
      refine s_sf F M.f1 rfl rfl rfl sz_9_D1 rfl rfl rfl (by omega) ?_; (clear M; try clear w); intro w M
      refine s_I F rfl rfl rfl rfl rfl rfl ?_; clear F a; intro a F
      refine s_fa F rfl rfl rfl rfl fa_74_2_D1 rfl ?_; clear F a; intro a F
      refine s_sf F M rfl rfl rfl sz_4_D1 rfl rfl rfl (by omega) ?_; (clear M; try clear w); intro w M
      refine t_endM M ?_; (clear M; try clear w); intro w M
      refine (ret0 F rfl ?_).2
      -- end 0
      refine ⟨_, mb, rfl, rfl, ?_⟩
      have M1 : Sep _ _ _ (mapR _ _ _ _ :: _) := M.f1; replace M := M1; clear M1
      replace M := M.mapShut (D' := (fun k => if k = x then some (Value.int .i64 (0 + 1)) else none)) (fun k => by split <;> rfl)
      have M1 : Sep _ _ _ (blk b _ :: _) := M.f1; replace M := M1; clear M1
      refine Sep.left (r := []) (Sep.blkEq M ?_)
      congr 2
      funext j
      clear M F ho
      unfold talF
      try simp only [upd]
      grind
    ·
      clear F; intro hc2 F
      try rw [hc2] at F
      replace hc2 := of_decide_eq_false hc2
      refine wp_skip ?_
      refine (ret0 F rfl ?_).2
      -- end 1
      refine ⟨_, mb, rfl, rfl, ?_⟩
      have M1 : Sep _ _ _ (mapR _ _ _ _ :: _) := M; replace M := M1; clear M1
      replace M := M.mapShut (D' := (fun k => if k = x then some (Value.int .i64 (0 + 1)) else none)) (fun k => by split <;> rfl)
      have M1 : Sep _ _ _ (blk b _ :: _) := M.f1; replace M := M1; clear M1
      refine Sep.left (r := []) (Sep.blkEq M ?_)
      congr 2
      funext j
      clear M F ho
      unfold talF
      try simp only [upd]
      grind
  ·
    clear F; intro hc3 F
    try rw [hc3] at F
    replace hc3 := nf hc3
    refine s_no F rfl rfl rfl rfl ?_; clear F a; intro a F
    refine s_no F rfl rfl rfl rfl ?_; clear F a; intro a F
    refine s_no F rfl rfl rfl rfl ?_; clear F a; intro a F
    refine s_no F rfl rfl rfl rfl ?_; clear F a; intro a F
    refine s_no F rfl rfl rfl rfl ?_; clear F a; intro a F
    refine s_no F rfl rfl rfl rfl ?_; clear F a; intro a F
    refine s_no F rfl rfl rfl rfl ?_; clear F a; intro a F
    refine s_no F rfl rfl rfl rfl ?_; clear F a; intro a F
    refine s_I F rfl rfl rfl rfl rfl rfl ?_; clear F a; intro a F
    refine t_endM M ?_; (clear M; try clear w); intro w M
    refine c_f F rfl ?_
    refine wp_skip ?_
    refine (ret0 F rfl ?_).2
    -- end 2
    refine ⟨_, mb, rfl, rfl, ?_⟩
    have M1 : Sep _ _ _ (mapR _ _ _ _ :: _) := M; replace M := M1; clear M1
    replace M := M.mapShut (D' := (fun k => if k = x then some (Value.int .i64 (0 + 1)) else none)) (fun k => by split <;> rfl)
    have M1 : Sep _ _ _ (blk b _ :: _) := M.f1; replace M := M1; clear M1
    refine Sep.left (r := []) (Sep.blkEq M ?_)
    congr 2
    funext j
    clear M F ho
    unfold talF
    try simp only [upd]
    grind
set_option maxRecDepth 100000 in
set_option maxHeartbeats 400000 in
theorem c39b (b off : Nat) (f : Nat → Value) (x first : ByteArray) (td : Bool) (need : Int) (mb N n : Nat) (D : ByteArray → Option Value) (h0 : f off = .map (some mb)) (h1 : f (off + 1) = .string first) (h2 : f (off + 2) = .bool td) (hoff : off + 2 < 705) (hD : (D x).getD (.int .i64 0) = .int .i64 (n : Nat)) (hn : n ≤ 100000) (w0 : World) (ho : Own w0.heap [blk b (.cells (cellsF 705 f) 77 (0, 0)), mapR encS mb D N]) : Cl Try.prog 39 #[.pointer (some ⟨b, off, none⟩), .string x, .int .i64 need] w0 (RetS [blk b (.cells (cellsF 705 f) 77 (0, 0)), mapR encS mb D N] w0 (fun v (_ : Nat) => v = .tuple #[]) fun mb => [blk b (.cells (cellsF 705 (talF f off mb x first td (decide (need ≤ ((n : Int) + 1))))) 77 (0, 0)), mapX encS mb (fun k => if k = x then some (Value.int .i64 ((n : Int) + 1)) else D k)]) := by
  have M : Sep (fun b_ => b_ ∈ foots [blk b (.cells (cellsF 705 f) 77 (0, 0)), mapR encS mb D N]) w0 w0 _ := Sep.start ho
  refine enter (vs := [_, _, _]) Try.func39 rfl rfl rfl ?_
  intro a F
  refine wp_seq ?_
  refine wp_seq ?_
  refine wp_region_l [.ind, .ind, .ind, .rd, .ind] ([0, 1, 2, 3, 4]) rfl ?_
  refine s_I F rfl rfl rfl rfl rfl rfl ?_; clear F a; intro a F
  refine s_I F rfl rfl rfl rfl rfl rfl ?_; clear F a; intro a F
  refine s_fa F rfl rfl rfl rfl fa_74_0_D1 rfl ?_; clear F a; intro a F
  refine s_ld F rfl rfl rfl rfl sc_72_D1 rfl (by exact cell_of_blk M.h0 (gf (h0) (by omega))) ?_; clear F a; intro a F
  refine s_mn F rfl rfl rfl rfl mp_72_D1 rfl ?_; clear F a; intro a F
  refine t_endM M ?_; (clear M; try clear w); intro w M
  refine c_f F rfl ?_
  refine wp_skip ?_
  refine wp_seq ?_
  
  replace F := F.keep [0, 1, 2] rfl
  refine wp_region_l [.ind, .ind, .ind, .rd, .ind, .rd, .ind, .wr] ([0, 1, 2, 3, 4, 5, 6, 7]) rfl ?_
  refine s_I F rfl rfl rfl rfl rfl rfl ?_; clear F a; intro a F
  refine s_I F rfl rfl rfl rfl rfl rfl ?_; clear F a; intro a F
  refine s_fa F rfl rfl rfl rfl fa_74_0_D1 rfl ?_; clear F a; intro a F
  refine s_ld F rfl rfl rfl rfl sc_72_D1 rfl (by exact cell_of_blk M.h0 (gf (h0) (by omega))) ?_; clear F a; intro a F
  refine s_I F rfl rfl rfl rfl rfl rfl ?_; clear F a; intro a F
  refine s_lk keS (_) F rfl rfl rfl rfl mp_72_D1 zr_3_D1 rfl rfl (by exact M.h1) ?_; clear F a; intro a F
  rw [hD] at F
  refine s_add F rfl rfl rfl rfl rfl rfl (by unfold In64; omega) ?_; clear F a; intro a F
  have M1 : Sep _ _ _ (mapR _ _ _ _ :: _) := M.f1; replace M := M1; clear M1
  refine s_mu keS (_) F M rfl rfl rfl mp_72_D1 rfl rfl rfl (fun _ _ => pend_nil) ?_; (clear M; try clear w); intro w M
  refine t_endM M ?_; (clear M; try clear w); intro w M
  refine wp_seq ?_
  replace F := F.keep [0, 1, 2] rfl
  refine wp_region_l [.ind, .ind, .ind, .rd, .ind, .ind, .ind, .ind, .ind, .rd, .ind, .rd, .ind, .ind, .ind] ([0, 1, 2, 3, 4, 5, 6, 7, 8, 9, 10, 11, 12, 13, 14]) rfl ?_
  refine s_I F rfl rfl rfl rfl rfl rfl ?_; clear F a; intro a F
  refine s_I F rfl rfl rfl rfl rfl rfl ?_; clear F a; intro a F
  refine s_fa F rfl rfl rfl rfl fa_74_2_D1 rfl ?_; clear F a; intro a F
  refine s_ld F rfl rfl rfl rfl sc_4_D1 rfl (by exact cell_of_blk M.h1 (gf (h2) (by omega))) ?_; clear F a; intro a F
  refine s_I F rfl rfl rfl rfl rfl rfl ?_; clear F a; intro a F
  refine s_I F rfl rfl rfl rfl rfl rfl ?_; clear F a; intro a F
  refine bsplit F 27 rfl ?_ ?_
  ·
    clear F; intro hc0 F
    try rw [hc0] at F
    replace hc0 := nt hc0
    refine s_I F rfl rfl rfl rfl rfl rfl ?_; clear F a; intro a F
    refine s_I F rfl rfl rfl rfl rfl rfl ?_; clear F a; intro a F
    refine s_fa F rfl rfl rfl rfl fa_74_0_D1 rfl ?_; clear F a; intro a F
    refine s_ld F rfl rfl rfl rfl sc_72_D1 rfl (by exact cell_of_blk M.h1 (gf (h0) (by omega))) ?_; clear F a; intro a F
    refine s_I F rfl rfl rfl rfl rfl rfl ?_; clear F a; intro a F
    refine s_lk keS (_) F rfl rfl rfl rfl mp_72_D1 zr_3_D1 rfl rfl (by exact M.h0) ?_; clear F a; intro a F
    refine s_I F rfl rfl rfl rfl rfl rfl ?_; clear F a; intro a F
    rw [if_pos rfl, Option.getD_some] at F
    refine s_bin F rfl rfl rfl rfl rfl rfl rfl ?_; clear F a; intro a F
    refine s_I F rfl rfl rfl rfl rfl rfl ?_; clear F a; intro a F
    refine t_endM M ?_; (clear M; try clear w); intro w M
    refine c_if F rfl ?_ ?_
    ·
      clear F; intro hc1 F
      try rw [hc1] at F
      replace hc1 := of_decide_eq_true hc1
      replace F := F.keep [0, 1, 2] rfl
      refine wp_region_l [.ind, .ind, .ind, .ind, .ind, .wr, .ind, .ind, .wr] ([0, 1, 2, 3, 4, 5, 6, 7, 8]) rfl ?_
      refine s_I F rfl rfl rfl rfl rfl rfl ?_; clear F a; intro a F
      refine s_I F rfl rfl rfl rfl rfl rfl ?_; clear F a; intro a F
      refine s_I F rfl rfl rfl rfl rfl rfl ?_; clear F a; intro a F
      refine s_I F rfl rfl rfl rfl rfl rfl ?_; clear F a; intro a F
      refine s_fa F rfl rfl rfl rfl fa_74_1_D1 rfl ?_; clear F a; intro a F
      refine s_sf F M.f1 rfl rfl rfl sz_9_D1 rfl rfl rfl (by omega) ?_; (clear M; try clear w); intro w M
      refine s_I F rfl rfl rfl rfl rfl rfl ?_; clear F a; intro a F
      refine s_fa F rfl rfl rfl rfl fa_74_2_D1 rfl ?_; clear F a; intro a F
      refine s_sf F M rfl rfl rfl sz_4_D1 rfl rfl rfl (by omega) ?_; (clear M; try clear w); intro w M
      refine t_endM M ?_; (clear M; try clear w); intro w M
      refine (ret0 F rfl ?_).2
      -- end 0
      refine ⟨_, mb, rfl, rfl, ?_⟩
      have M1 : Sep _ _ _ (mapR _ _ _ _ :: _) := M.f1; replace M := M1; clear M1
      replace M := M.mapShut (D' := (fun k => if k = x then some (Value.int .i64 ((n : Int) + 1)) else D k)) (fun k => by split <;> rfl)
      have M1 : Sep _ _ _ (blk b _ :: _) := M.f1; replace M := M1; clear M1
      refine Sep.left (r := []) (Sep.blkEq M ?_)
      congr 2
      funext j
      clear M F ho
      unfold talF
      try simp only [upd]
      grind
    ·
      clear F; intro hc2 F
      try rw [hc2] at F
      replace hc2 := of_decide_eq_false hc2
      refine wp_skip ?_
      refine (ret0 F rfl ?_).2
      -- end 1
      refine ⟨_, mb, rfl, rfl, ?_⟩
      have M1 : Sep _ _ _ (mapR _ _ _ _ :: _) := M; replace M := M1; clear M1
      replace M := M.mapShut (D' := (fun k => if k = x then some (Value.int .i64 ((n : Int) + 1)) else D k)) (fun k => by split <;> rfl)
      have M1 : Sep _ _ _ (blk b _ :: _) := M.f1; replace M := M1; clear M1
      refine Sep.left (r := []) (Sep.blkEq M ?_)
      congr 2
      funext j
      clear M F ho
      unfold talF
      try simp only [upd]
      grind
  ·
    clear F; intro hc3 F
    try rw [hc3] at F
    replace hc3 := nf hc3
    refine s_no F rfl rfl rfl rfl ?_; clear F a; intro a F
    refine s_no F rfl rfl rfl rfl ?_; clear F a; intro a F
    refine s_no F rfl rfl rfl rfl ?_; clear F a; intro a F
    refine s_no F rfl rfl rfl rfl ?_; clear F a; intro a F
    refine s_no F rfl rfl rfl rfl ?_; clear F a; intro a F
    refine s_no F rfl rfl rfl rfl ?_; clear F a; intro a F
    refine s_no F rfl rfl rfl rfl ?_; clear F a; intro a F
    refine s_no F rfl rfl rfl rfl ?_; clear F a; intro a F
    refine s_I F rfl rfl rfl rfl rfl rfl ?_; clear F a; intro a F
    refine t_endM M ?_; (clear M; try clear w); intro w M
    refine c_f F rfl ?_
    refine wp_skip ?_
    refine (ret0 F rfl ?_).2
    -- end 2
    refine ⟨_, mb, rfl, rfl, ?_⟩
    have M1 : Sep _ _ _ (mapR _ _ _ _ :: _) := M; replace M := M1; clear M1
    replace M := M.mapShut (D' := (fun k => if k = x then some (Value.int .i64 ((n : Int) + 1)) else D k)) (fun k => by split <;> rfl)
    have M1 : Sep _ _ _ (blk b _ :: _) := M.f1; replace M := M1; clear M1
    refine Sep.left (r := []) (Sep.blkEq M ?_)
    congr 2
    funext j
    clear M F ho
    unfold talF
    try simp only [upd]
    grind
end Go.Proofs.Ytmikcmcgfehgfaa
