/- B1 of the seat. -/
import Derived.Test.YtboibdmflblphaaA9
import Derived.Test.YtboibdmflblphaaFw14
import Derived.Test.YtboibdmflblphaaCouM
namespace Go.Proofs.Ytboibdmflblphaa
open Go Fw
theorem sld_155_B1 : slcB Try.prog 155 = some (160, 6) := by kernel_rfl
theorem zr_160_B1 : zeroB Try.prog 160 = some (.agg #[.int .i64 0, .int .i64 0, .int .i64 0, .int .i64 0, .int .i64 0, .string { data := #[] }]) := by kernel_rfl
theorem sl_155_B1 : slcB Try.prog 155 = some (160, 6) := by kernel_rfl
open VoteM AgrM CouM

theorem keI : KE Try.prog 3 (fun i : Int => .int .i64 i) := by
  have h3 : Try.prog.underlying 3 = some (.int .i64) := by kernel_rfl
  refine ⟨fun e k w => ?_, fun k k' w => ?_, ⟨_, Try.underlying3, fun k k' => .inr ?_⟩, fun k => ?_⟩
  · kernel_rfl
  · have := run_equalIn_int (P := Try.prog) w 9999 3 .i64 .i64 k k' h3
    rw [show (k == k') = decide (k = k') by rw [Bool.eq_iff_iff]; simp] at this
    exact this
  · have : (k == k') = decide (k = k') := by rw [Bool.eq_iff_iff]; simp
    simp [Instr.sameNow, this]
  · simp [Instr.sameBits]
/-! ### a world in memory -/
def encTo (x : To) : List Value := [.int .i64 x.node, .int .i64 x.w.kind, .int .i64 x.w.frm, .int .i64 x.w.round, .int .i64 x.w.valid, .string x.w.value]
def encN (b : Nat) : List Value := [.pointer (some ⟨b, 0, none⟩)]
def opnD (o : Int → Bool) (k : Int) : Option Value := if o k = true then some (.bool true) else none
theorem opnD_get (o : Int → Bool) (k : Int) : (opnD o k).getD (.bool false) = .bool (o k) := by
  unfold opnD
  cases h : o k
  · rw [if_neg (by decide)]; rfl
  · rw [if_pos rfl]; rfl
structure Gc where
  b : Nat
  mb : Nat
  bs : List Nat
  gs : List Ga
  A : Option Addr
  c : Nat
  vw : Value
abbrev agZ : Ga × ASt → Res := fun p => agR p.1 p.2
abbrev cOv (γ : Gc) (v : Value) : Obj := .cells #[.slice γ.A γ.bs.length γ.c, .map (some γ.mb), v] 157 (0, 0)
abbrev cO (γ : Gc) : Obj := cOv γ γ.vw
abbrev ndR (γ : Gc) : Res := slR (.slice γ.A γ.bs.length γ.c) γ.bs.length 50 1 (γ.bs.flatMap encN)
abbrev mpR (γ : Gc) (C : Cou) : Res := mapX (fun i : Int => .int .i64 i) γ.mb (opnD C.opn)
abbrev toR (v : Value) (way : List To) : Res := slR v way.length 160 6 (way.flatMap encTo)
def couL (γ : Gc) (C : Cou) : List Res := [blk γ.b (cO γ), ndR γ, mpR γ C, bigR agZ (γ.gs.zip C.As), toR γ.vw C.way, pureR (γ.gs.map (·.b) = γ.bs ∧ γ.gs.length = C.As.length)]
def couR (γ : Gc) (C : Cou) : Res := bigR id (couL γ C)
section
variable {S : Nat → Prop} {w0 w : World} {r : List Res} {γ : Gc} {C : Cou}
theorem Fw.Sep.couOpen (M : Sep S w0 w (couR γ C :: r)) : (γ.gs.map (·.b) = γ.bs ∧ γ.gs.length = C.As.length) ∧ Sep S w0 w (blk γ.b (cO γ) :: ndR γ :: mpR γ C :: bigR agZ (γ.gs.zip C.As) :: toR γ.vw C.way :: r) := by
  have M1 : Sep S w0 w (couL γ C ++ r) := Fw.Sep.unjoin M
  have M2 : Sep S w0 w (blk γ.b (cO γ) :: ndR γ :: mpR γ C :: bigR agZ (γ.gs.zip C.As) :: toR γ.vw C.way :: pureR (γ.gs.map (·.b) = γ.bs ∧ γ.gs.length = C.As.length) :: r) := M1
  exact ⟨M2.h5, M2.f5.tl⟩
theorem Fw.Sep.couShut (M : Sep S w0 w (blk γ.b (cO γ) :: ndR γ :: mpR γ C :: bigR agZ (γ.gs.zip C.As) :: toR γ.vw C.way :: r)) (h : γ.gs.map (·.b) = γ.bs ∧ γ.gs.length = C.As.length) : Sep S w0 w (couR γ C :: r) := by
  have M1 : Sep S w0 w (pureR (γ.gs.map (·.b) = γ.bs ∧ γ.gs.length = C.As.length) :: blk γ.b (cO γ) :: ndR γ :: mpR γ C :: bigR agZ (γ.gs.zip C.As) :: toR γ.vw C.way :: r) := M.pureIn rfl h
  have M2 : Sep S w0 w (couL γ C ++ r) := M1.perm (by
    show List.Perm (pureR _ :: blk γ.b (cO γ) :: ndR γ :: mpR γ C :: bigR agZ (γ.gs.zip C.As) :: toR γ.vw C.way :: r) (([blk γ.b (cO γ), ndR γ, mpR γ C, bigR agZ (γ.gs.zip C.As), toR γ.vw C.way] ++ (pureR (γ.gs.map (·.b) = γ.bs ∧ γ.gs.length = C.As.length) :: r)))
    exact (List.perm_middle (l₁ := [blk γ.b (cO γ), ndR γ, mpR γ C, bigR agZ (γ.gs.zip C.As), toR γ.vw C.way])).symm)
  exact Fw.Sep.join M2
end
theorem ro_mem {S : Nat → Prop} {w0 : World} {α : Type} {f : α → Res} {xs : List α} {x : α} (h : Ro S w0 (bigR f xs)) (hx : x ∈ xs) : Ro S w0 (f x) :=
  ⟨h.ok x hx, fun b hb => h.lt b (List.mem_flatMap.2 ⟨x, hx, hb⟩)⟩
structure CouOk (w0 : World) (γ : Gc) (C : Cou) : Prop where
  o : w0.heap[γ.b]? = some (cO γ)
  nd : Ro (fun _ => False) w0 (rdR (.slice γ.A γ.bs.length γ.c) γ.bs.length 1 (γ.bs.flatMap encN))
  a : ∀ p ∈ γ.gs.zip C.As, Ro (fun _ => False) w0 (agR p.1 p.2)
  w : SlOk w0.heap γ.vw C.way.length 160 6 (C.way.flatMap encTo)
  l : γ.gs.map (·.b) = γ.bs ∧ γ.gs.length = C.As.length
theorem cou_ok {w0 : World} {γ : Gc} {C : Cou} (h : Ro (fun _ => False) w0 (couR γ C)) : CouOk w0 γ C := by
  have m : ∀ x ∈ couL γ C, Ro (fun _ => False) w0 x := fun x hx => ro_mem (f := id) h hx
  have h1 := m (ndR γ) (by simp [couL])
  refine ⟨(m (blk γ.b (cO γ)) (by simp [couL])).ok, ro_of (SlOk.rd h1.ok), fun p hp => ro_mem (f := agZ) (m (bigR agZ (γ.gs.zip C.As)) (by simp [couL])) hp, (m (toR γ.vw C.way) (by simp [couL])).ok, (m (pureR (γ.gs.map (·.b) = γ.bs ∧ γ.gs.length = C.As.length)) (by simp [couL])).ok⟩
theorem zip_at {α β : Type} {l : List α} {m : List β} {i : Nat} {a : α} {b : β} (h1 : l[i]? = some a) (h2 : m[i]? = some b) : (l.zip m)[i]? = some (a, b) := by
  simp [List.getElem?_zip_eq_some, h1, h2]
theorem zip_set {α β : Type} : ∀ {l : List α} {m : List β} {i : Nat} {a : α} {b : β}, (l.zip m).set i (a, b) = (l.set i a).zip (m.set i b)
  | [], m, i, a, b => by simp
  | x :: l, [], i, a, b => by cases i <;> simp
  | x :: l, y :: m, 0, a, b => by simp
  | x :: l, y :: m, i + 1, a, b => by simp [zip_set]
theorem g_at {gs : List Ga} {bs : List Nat} {i : Nat} {b : Nat} (h : gs.map (·.b) = bs) (hb : bs[i]? = some b) : ∃ g, gs[i]? = some g ∧ g.b = b := by
  rw [← h, List.getElem?_map] at hb
  cases hg : gs[i]? with
  | none => rw [hg] at hb; cases hb
  | some g => rw [hg] at hb; exact ⟨g, rfl, by simpa using hb⟩
theorem map_set_b {gs : List Ga} {bs : List Nat} {i : Nat} {g g' : Ga} (h : gs.map (·.b) = bs) (hg : gs[i]? = some g) (e : g'.b = g.b) : (gs.set i g').map (·.b) = bs := by
  rw [List.map_set, e, ← h]
  obtain ⟨h1, h2⟩ := List.getElem?_eq_some_iff.1 hg
  refine List.ext_getElem? fun j => ?_
  rw [List.getElem?_set]
  by_cases ej : i = j
  · subst ej; rw [if_pos rfl, List.getElem?_map, hg]; simp [h1]
  · rw [if_neg ej]
def decd (C : Cou) (nd : Int) : ByteArray × Bool := if hon C nd = true then match C.As[nd.toNat - 1]? with
  | some a => (a.dec, a.done)
  | none => (VoteM.empty, false) else (VoteM.empty, false)
theorem decd_at {C : Cou} {nd : Int} {a : ASt} (h : hon C nd = true) (ha : C.As[nd.toNat - 1]? = some a) : decd C nd = (a.dec, a.done) := by unfold decd; rw [if_pos h, ha]
theorem decd_no {C : Cou} {nd : Int} (h : hon C nd = false) : decd C nd = (VoteM.empty, false) := by unfold decd; rw [if_neg (by rw [h]; decide)]
theorem encTo_len (x : To) : (encTo x).length = 6 := rfl

set_option maxRecDepth 100000 in
set_option maxHeartbeats 400000 in
theorem c118 (xs : List To) (i : Nat) (hi : i < xs.length) (A : Option Addr) (c : Nat) (w0 : World) (ho : Own w0.heap [slR (.slice A xs.length c) xs.length 160 6 (xs.flatMap encTo)]) : Cl Try.prog 118 #[.slice A xs.length c, .int .i64 i, .int .i64 ((i : Int) + 1)] w0 (RetS [slR (.slice A xs.length c) xs.length 160 6 (xs.flatMap encTo)] w0 (fun v (x : Value) => v = x) fun x => [slR x (xs.eraseIdx i).length 160 6 ((xs.eraseIdx i).flatMap encTo)]) := by
  obtain ⟨hl, h | ⟨b, c, rest, e, hcap, hbk, hall⟩⟩ := ho.ok (slR (.slice A xs.length c) xs.length 160 6 (xs.flatMap encTo)) (by simp)
  · omega
  injection e with e1 _ e3
  subst e1; subst e3
  have hfl2 : ((xs.drop (i + 1)).flatMap encTo).length = (xs.length - (i + 1)) * 6 := by rw [flat_len (sz := 6) (fun _ => rfl), List.length_drop]
  have hfit : i * 6 + (xs.length - (i + 1)) * 6 ≤ c * 6 := by omega
  have hend1 : ((xs.length : Nat) : Int).toNat - (((i + (xs.drop (i + 1)).length : Nat) : Int)).toNat = 1 := by rw [List.length_drop]; omega
  have hend2 : (((i + (xs.drop (i + 1)).length : Nat) : Int)).toNat = xs.length - 1 := by rw [List.length_drop]; omega
  have hfit2 : (xs.length - 1) * 6 + 1 * 6 ≤ c * 6 := by omega
  have M : Sep (fun b_ => b_ ∈ foots [slR (.slice (some ⟨b, 0, none⟩) xs.length c) xs.length 160 6 (xs.flatMap encTo)]) w0 w0 _ := (Sep.start ho).turn (q := blk b (.cells (xs.flatMap encTo ++ rest).toArray 160 (0, 0))) rfl fun _ => hbk
  refine enter (vs := [_, _, _]) Try.func118 rfl rfl rfl ?_
  intro a F
  refine wp_seq ?_
  refine wp_region_l [.ind] ([0]) rfl ?_
  refine s_I F rfl rfl rfl rfl rfl rfl ?_; clear F a; intro a F
  refine t_endM M ?_; (clear M; try clear w); intro w M
  refine wp_seq ?_
  refine wp_region_l [.ind, .ind, .ind, .ind, .ind, .ind] ([0, 1, 2, 3, 4, 5]) rfl ?_
  refine s_I F rfl rfl rfl rfl rfl rfl ?_; clear F a; intro a F
  refine s_I F rfl rfl rfl rfl rfl rfl ?_; clear F a; intro a F
  refine s_I F rfl rfl rfl rfl rfl rfl ?_; clear F a; intro a F
  refine s_I F rfl rfl rfl rfl rfl rfl ?_; clear F a; intro a F
  refine s_len F rfl rfl rfl rfl sl_155_B1 rfl ?_; clear F a; intro a F
  refine s_slc3 F rfl rfl rfl rfl sld_155_B1 rfl rfl rfl rfl (by omega) (by omega) (by omega) (by omega) ?_; clear F a; intro a v13 F
  refine t_endM M ?_; (clear M; try clear w); intro w M
  refine wp_seq ?_
  refine wp_seq ?_
  replace F := F.keep [0, 1, 2, 6] rfl
  refine wp_region_l [.ind, .ind, .ind] ([0, 1, 2]) rfl ?_
  refine s_I F rfl rfl rfl rfl rfl rfl ?_; clear F a; intro a F
  refine s_I F rfl rfl rfl rfl rfl rfl ?_; clear F a; intro a F
  refine s_bin F rfl rfl rfl rfl rfl rfl rfl ?_; clear F a; intro a F
  refine t_endM M ?_; (clear M; try clear w); intro w M
  refine c_if F rfl ?_ ?_
  ·
    clear F; intro hc0 F
    try rw [hc0] at F
    replace hc0 := of_decide_eq_true hc0
    exfalso
    omega
  ·
    clear F; intro hc1 F
    try rw [hc1] at F
    replace hc1 := of_decide_eq_false hc1
    refine wp_skip ?_
    refine wp_seq ?_
    replace F := F.keep [0, 1, 2, 6] rfl
    refine wp_region_l [.ind, .ind, .ind] ([0, 1, 2]) rfl ?_
    refine s_I F rfl rfl rfl rfl rfl rfl ?_; clear F a; intro a F
    refine s_len F rfl rfl rfl rfl sl_155_B1 rfl ?_; clear F a; intro a F
    refine s_I F rfl rfl rfl rfl rfl rfl ?_; clear F a; intro a F
    refine t_endM M ?_; (clear M; try clear w); intro w M
    refine wp_seq ?_
    have hsrc : RdSl w.heap (.slice (cutA (some ⟨b, 0, none⟩) c ((i : Int) + 1).toNat 6) (((xs.length : Nat) : Int).toNat - ((i : Int) + 1).toNat) (c - ((i : Int) + 1).toNat)) (xs.drop (i + 1)).length 6 ((xs.drop (i + 1)).flatMap encTo) := by
      have := RdSl.suf (enc := encTo) (sz := 6) (l := xs) (A := some ⟨b, 0, none⟩) (c := c) ⟨hl, _, _, rfl, hcap, fun _ => ⟨b, 0, _, _, _, rfl, M.h0, fun j u hu => by
        have hlt : j < (xs.flatMap encTo).length := (List.getElem?_eq_some_iff.1 hu).1
        simp [List.getElem?_append_left hlt, hu]⟩⟩ (fun _ => rfl) (i + 1) (by omega)
      rwa [show ((xs.length : Nat) : Int).toNat = xs.length by omega, show ((i : Int) + 1).toNat = i + 1 by omega]
    replace F := F.keep [0, 1, 2, 6, 7] rfl
    refine wp_region_t [.ind, .ind, .ind, .ind, .ind, .ind, .wr, .ind] [] (otOf [0, 1, 2, 3, 4, 5, 6, 7]) mixed (by kernel_rfl) ?_
    refine s_I F rfl rfl rfl rfl rfl rfl ?_; clear F a; intro a F
    refine s_I F rfl rfl rfl rfl rfl rfl ?_; clear F a; intro a F
    refine s_slcC F rfl rfl rfl rfl sld_155_B1 rfl rfl rfl hcap (by omega) (by omega) (by omega) ?_; clear F a; intro a F
    refine s_I F rfl rfl rfl rfl rfl rfl ?_; clear F a; intro a F
    refine s_I F rfl rfl rfl rfl rfl rfl ?_; clear F a; intro a F
    refine s_slcC F rfl rfl rfl rfl sld_155_B1 rfl rfl rfl hcap (by omega) (by omega) (by omega) ?_; clear F a; intro a F
    rw [show Int.toNat 0 = 0 from rfl, cutA0, Nat.sub_zero, Nat.sub_zero, Int.toNat_natCast i] at F
    refine s_apI F M rfl rfl rfl rfl sld_155_B1 rfl rfl hsrc (flat_one (fun _ => rfl) _) (by rw [List.length_drop]; omega) (by rw [List.size_toArray, hall, hfl2]; exact hfit) ?_; (clear F a M; try clear w); intro w M a F
    refine s_I F rfl rfl rfl rfl rfl rfl ?_; clear F a; intro a F
    refine t_endM M ?_; (clear M; try clear w); intro w M
    refine wp_seq ?_
    replace F := F.keep [0, 1, 2, 6, 7] rfl
    refine wp_region_l [.ind, .ind, .ind, .ind, .ind, .wr] ([0, 1, 2, 3, 4, 5]) rfl ?_
    refine s_I F rfl rfl rfl rfl rfl rfl ?_; clear F a; intro a F
    refine s_I F rfl rfl rfl rfl rfl rfl ?_; clear F a; intro a F
    refine s_len F rfl rfl rfl rfl sl_155_B1 rfl ?_; clear F a; intro a F
    refine s_I F rfl rfl rfl rfl rfl rfl ?_; clear F a; intro a F
    refine s_slcC F rfl rfl rfl rfl sld_155_B1 rfl rfl rfl (by rw [List.length_drop]; omega) (by omega) (by omega) (by omega) ?_; clear F a; intro a F
    rw [hend1, cutA1 (by omega), hend2] at F
    refine s_clr F M rfl rfl rfl sld_155_B1 zr_160_B1 rfl rfl rfl (by decide) (by rw [setCells_size, List.size_toArray, hall]; exact hfit2) ?_; (clear M; try clear w); intro w M
    refine t_endM M ?_; (clear M; try clear w); intro w M
    refine wp_seq ?_
    replace F := F.keep [0, 1, 2, 6, 7] rfl
    refine wp_region_l [.ind, .ind] ([0, 1]) rfl ?_
    refine s_I F rfl rfl rfl rfl rfl rfl ?_; clear F a; intro a F
    refine s_I F rfl rfl rfl rfl rfl rfl ?_; clear F a; intro a F
    refine t_endM M ?_; (clear M; try clear w); intro w M
    refine wp_ret ?_
    refine ret1 F rfl rfl ?_
    -- end 0
    obtain ⟨rest', hc1, hc2⟩ := cut_cells (enc := encTo) (sz := 6) (fun _ => rfl) (rest := rest) (zs := (Builtin.zeroCells (Value.agg #[.int .i64 0, .int .i64 0, .int .i64 0, .int .i64 0, .int .i64 0, .string { data := #[] }]).cells 1).toList) hi (by simp [Builtin.zeroCells, Value.cells])
    have hel : (xs.eraseIdx i).length = xs.length - 1 := List.length_eraseIdx_of_lt hi
    refine ⟨_, .slice (some ⟨b, 0, none⟩) (xs.eraseIdx i).length c, rfl, ?_, ?_⟩
    · rw [hel, List.length_drop]
      congr 1
      omega
    · have M2 := M.turn (q := slR (.slice (some ⟨b, 0, none⟩) (xs.eraseIdx i).length c) (xs.eraseIdx i).length 160 6 ((xs.eraseIdx i).flatMap encTo)) rfl fun hh => ⟨flat_len (enc := encTo) (sz := 6) (fun _ => rfl) _, .inr ⟨b, c, rest', rfl, by rw [hel]; omega, ?_, by rw [hc2]; exact hall⟩⟩
      · exact Sep.left (r := []) M2
      · refine Eq.trans hh ?_
        rw [← hc1]
end Go.Proofs.Ytboibdmflblphaa
