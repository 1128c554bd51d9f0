/- K6 of the seat. -/
import Derived.Test.YtibomfgeemhogaaK5
namespace Go.Proofs.Ytibomfgeemhogaa
open Go Fw

open CastM CasM

section
variable {S : Nat → Prop} {w0 w : World} {r : List Res} {K : KSt} {V : Key → AC} {k : Key} {c : CSt} {x : AC}
theorem fnd_spec {ks : List Key} (h : k ∈ ks) : 0 ≤ fnd ks k ∧ fnd ks k < ks.length ∧ ks[(fnd ks k).toNat]? = some k := by
  have hlt : ks.idxOf k < ks.length := List.idxOf_lt_length_of_mem h
  unfold fnd
  rw [if_pos h]
  refine ⟨by omega, by omega, ?_⟩
  rw [Int.toNat_natCast, List.getElem?_eq_getElem hlt, List.getElem_idxOf hlt]
theorem fnd_neg {ks : List Key} (h : fnd ks k < 0) : k ∉ ks := fun hk => by have := (fnd_spec hk).1; omega
theorem fnd_pos {ks : List Key} (h : ¬ fnd ks k < 0) : k ∈ ks := by
  by_cases hk : k ∈ ks
  · exact hk
  · exfalso; apply h; unfold fnd; rw [if_neg hk]; omega
theorem fnd_idx {ks : List Key} (h : k ∈ ks) : fnd ks k = (ks.idxOf k : Nat) := if_pos h
theorem oes_new (h : k ∉ K.ks) : oes K V ++ [⟨k, CastM.new K.n K.t k.1, none, 0⟩] = oes (K.open1 k) (upd1 V k (none, 0)) := by
  have ho : K.open1 k = { K with ks := K.ks ++ [k], C := upd1 K.C k (CastM.new K.n K.t k.1) } := by unfold KSt.open1; rw [if_neg h]
  rw [ho]
  unfold oes
  rw [List.map_append]
  congr 1
  · refine List.map_congr_left fun y hy => ?_
    have : y ≠ k := fun e => h (e ▸ hy)
    show _ = OE.mk y (upd1 K.C k _ y) _ _
    rw [upd1_ne this, upd1_ne this]
  · show _ = [OE.mk k (upd1 K.C k _ k) _ _]
    rw [upd1_at, upd1_at]
theorem fnd_new (h : k ∉ K.ks) : ((oes K V).length : Int) = fnd (K.open1 k).ks k := by
  have ho : K.open1 k = { K with ks := K.ks ++ [k], C := upd1 K.C k (CastM.new K.n K.t k.1) } := by unfold KSt.open1; rw [if_neg h]
  rw [ho]
  show _ = fnd (K.ks ++ [k]) k
  rw [fnd_idx (by simp), oes_len, List.idxOf_append, if_neg h]
  simp
theorem lR_new (M : Sep S w0 w (lR K V K.ks :: r)) (h : k ∉ K.ks) : Sep S w0 w (lR (K.open1 k) (upd1 V k (none, 0)) (K.open1 k).ks :: r) := by
  have ho : K.open1 k = { K with ks := K.ks ++ [k], C := upd1 K.C k (CastM.new K.n K.t k.1) } := by unfold KSt.open1; rw [if_neg h]
  rw [ho]
  let f := fun y => slR (.slice (upd1 V k (none, 0) y).1 (upd1 K.C k (CastM.new K.n K.t k.1) y).L.length (upd1 V k (none, 0) y).2) (upd1 K.C k (CastM.new K.n K.t k.1) y).L.length 38 3 ((upd1 K.C k (CastM.new K.n K.t k.1) y).L.flatMap encM)
  have M1 := M.bigCongr (g := f) (fun y hy => by
    have : y ≠ k := fun e => h (e ▸ hy)
    show _ = slR _ _ _ _ _
    rw [upd1_ne this, upd1_ne this])
  have M2 := M1.nilS 38 3
  have e : slR (.slice none 0 0) 0 38 3 [] = f k := by
    show _ = slR _ _ _ _ _
    rw [upd1_at, upd1_at]; rfl
  rw [e] at M2
  exact Fw.Sep.bigSnoc (f := f) M2
theorem lOut (M : Sep S w0 w (lR K V K.ks :: r)) (h : k ∈ K.ks) : Sep S w0 w (slR (.slice (V k).1 (K.C k).L.length (V k).2) (K.C k).L.length 38 3 ((K.C k).L.flatMap encM) :: lR K V (K.ks.erase k) :: r) :=
  (Fw.Sep.bigPerm M (List.perm_cons_erase h)).bigUncons
theorem lIn (M : Sep S w0 w (slR (.slice x.1 c.L.length x.2) c.L.length 38 3 (c.L.flatMap encM) :: lR K V (K.ks.erase k) :: r)) (h : k ∈ K.ks) (hn : K.ks.Nodup) : Sep S w0 w (lR (K.set k c) (upd1 V k x) (K.set k c).ks :: r) := by
  let f := fun y => slR (.slice (upd1 V k x y).1 (upd1 K.C k c y).L.length (upd1 V k x y).2) (upd1 K.C k c y).L.length 38 3 ((upd1 K.C k c y).L.flatMap encM)
  have M1 := M.f1.bigCongr (g := f) (fun y hy => by
    have : y ≠ k := fun e => (List.Nodup.not_mem_erase hn) (e ▸ hy)
    show _ = slR _ _ _ _ _
    rw [upd1_ne this, upd1_ne this])
  have M2 := M1.f1
  have e : slR (.slice x.1 c.L.length x.2) c.L.length 38 3 (c.L.flatMap encM) = f k := by
    show _ = slR _ _ _ _ _
    rw [upd1_at, upd1_at]
  rw [e] at M2
  exact (Fw.Sep.bigCons (f := f) M2).bigPerm (List.perm_cons_erase h).symm
theorem oes_set (h : k ∈ K.ks) (hn : K.ks.Nodup) : (oes K V).set (fnd K.ks k).toNat ⟨k, c, x.1, x.2⟩ = oes (K.set k c) (upd1 V k x) := by
  obtain ⟨h0, h1, h2⟩ := fnd_spec h
  refine List.ext_getElem? fun i => ?_
  show _ = (K.ks.map fun y => OE.mk y (upd1 K.C k c y) (upd1 V k x y).1 (upd1 V k x y).2)[i]?
  unfold oes
  rw [List.getElem?_set, List.getElem?_map, List.getElem?_map, List.length_map]
  by_cases hi : (fnd K.ks k).toNat = i
  · subst hi
    rw [if_pos rfl, if_pos (by omega), h2]
    simp only [Option.map_some]
    rw [upd1_at, upd1_at]
  · rw [if_neg hi]
    cases hk : K.ks[i]? with
    | none => rfl
    | some y =>
      have hy : y ≠ k := fun e => by
        subst e
        have := List.getElem?_inj (i := i) (j := (fnd K.ks y).toNat) (by have := (List.getElem?_eq_some_iff.1 hk).1; exact this) hn
        exact hi (this.1 (hk.trans h2.symm)).symm
      simp only [Option.map_some]
      rw [upd1_ne hy, upd1_ne hy]
theorem rF_upd2 {n t : Int} {s s' : Value} {tv : Nat → Value} : upd (rF n t s tv) 2 s' = rF n t s' tv := by
  funext j
  match j with
  | 0 => rfl
  | 1 => rfl
  | 2 => rfl
  | j + 3 => rw [upd_ne (by omega)]; rfl
theorem rF_updT {n t : Int} {s : Value} {tv : Nat → Value} {f : Int} {v : Value} : upd (rF n t s tv) (3 + f.toNat * 1) v = rF n t s (upd1 tv f.toNat v) := by
  funext j
  by_cases h : j = 3 + f.toNat * 1
  · subst h; rw [upd_at, rF_told, upd1_at]
  · rw [upd_ne h]
    match j, h with
    | 0, _ => rfl
    | 1, _ => rfl
    | 2, _ => rfl
    | j + 3, h =>
      show tv j = upd1 tv f.toNat v j
      rw [upd1_ne (by omega)]
theorem erase_idx {ks : List Key} (h : k ∈ ks) : ks.erase k = ks.take (fnd ks k).toNat ++ ks.drop ((fnd ks k).toNat + 1) := by
  rw [fnd_idx h, Int.toNat_natCast, List.erase_eq_eraseIdx_of_idxOf (i := ks.idxOf k) rfl, List.eraseIdx_eq_take_drop_succ]
theorem oes_tell {f : Int} (h : (f, K.len f) ∈ K.ks) : ([] ++ (oes K V).take (fnd K.ks (f, K.len f)).toNat) ++ (oes K V).drop ((fnd K.ks (f, K.len f)).toNat + 1) = oes (K.tell f) V := by
  show _ = (K.ks.erase (f, K.len f)).map _
  rw [erase_idx h, List.map_append, List.map_take, List.map_drop, List.nil_append]
  rfl
theorem lR_tell {f : Int} (M : Sep S w0 w (lR K V K.ks :: r)) (h : (f, K.len f) ∈ K.ks) : Sep S w0 w (lR (K.tell f) V (K.tell f).ks :: r) := (lOut M h).tl
theorem tv_tell {f : Int} {rv : Nat → AC} {v : AC} : upd1 (tvR K rv) f.toNat (.slice v.1 (K.T f.toNat ++ [(K.C (f, K.len f)).body]).length v.2) = tvR (K.tell f) (upd1 rv f.toNat v) := by
  funext j
  by_cases h : j = f.toNat
  · subst h
    rw [upd1_at]
    show _ = Value.slice (upd1 rv f.toNat v f.toNat).1 (upd1 K.T f.toNat _ f.toNat).length (upd1 rv f.toNat v f.toNat).2
    rw [upd1_at, upd1_at]
  · rw [upd1_ne h]
    show _ = Value.slice (upd1 rv f.toNat v j).1 (upd1 K.T f.toNat _ j).length (upd1 rv f.toNat v j).2
    rw [upd1_ne h, upd1_ne h]; rfl
theorem kT_tell {f : Int} {rv : Nat → AC} {v : AC} (M : Sep S w0 w (slR (.slice v.1 (K.T f.toNat ++ [(K.C (f, K.len f)).body]).length v.2) (K.T f.toNat ++ [(K.C (f, K.len f)).body]).length 9 1 ((K.T f.toNat ++ [(K.C (f, K.len f)).body]).flatMap encS) :: bigR (tR (tvR K rv) K.T) ((List.range 8).eraseIdx f.toNat) :: r)) (hf : f.toNat < 8) :
    Sep S w0 w (kT (tvR (K.tell f) (upd1 rv f.toNat v)) (K.tell f).T :: r) := by
  rw [← tv_tell]
  have eT : (K.tell f).T = upd1 K.T f.toNat (K.T f.toNat ++ [(K.C (f, K.len f)).body]) := rfl
  let tv' := upd1 (tvR K rv) f.toNat (.slice v.1 (K.T f.toNat ++ [(K.C (f, K.len f)).body]).length v.2)
  have M1 := M.f1.bigCongr (g := tR tv' (K.tell f).T) (fun x hx => by
    have : x ≠ f.toNat := eraseIdx_range hf x hx
    unfold tR
    rw [eT]
    show _ = slR (upd1 (tvR K rv) f.toNat _ x) _ _ _ _
    rw [upd1_ne this, upd1_ne this])
  have M2 := M1.f1
  have e : slR (.slice v.1 (K.T f.toNat ++ [(K.C (f, K.len f)).body]).length v.2) (K.T f.toNat ++ [(K.C (f, K.len f)).body]).length 9 1 ((K.T f.toNat ++ [(K.C (f, K.len f)).body]).flatMap encS) = tR tv' (K.tell f).T f.toNat := by
    unfold tR
    rw [eT]
    show _ = slR (upd1 (tvR K rv) f.toNat _ f.toNat) _ _ _ _
    rw [upd1_at, upd1_at]
  rw [e] at M2
  exact M2.bigCons.bigPerm (perm_get (xs := List.range 8) (i := f.toNat) (x := f.toNat) (by simp [hf])).symm

theorem mid_n {q : Wd} : (K.mid q).n = K.n := open1_n
theorem mid_t {q : Wd} : (K.mid q).t = K.t := open1_t
theorem tv_mid {q : Wd} {rv : Nat → AC} : tvR (K.mid q) rv = tvR K rv := by unfold tvR; rw [mid_T]
theorem mid_in {q : Wd} {rv : Nat → AC} {xA A6 : Option Addr} {xC c6 : Nat} (M : Sep S w0 w (slR (.slice xA (((K.open1 (q.frm, q.seq)).C (q.frm, q.seq)).take q.m).1.L.length xC) (((K.open1 (q.frm, q.seq)).C (q.frm, q.seq)).take q.m).1.L.length 38 3 ((((K.open1 (q.frm, q.seq)).C (q.frm, q.seq)).take q.m).1.L.flatMap encM) :: lR (K.open1 (q.frm, q.seq)) V ((K.open1 (q.frm, q.seq)).ks.erase (q.frm, q.seq)) :: oR A6 c6 (K.mid q) (upd1 V (q.frm, q.seq) (xA, xC)) :: kT (tvR K rv) K.T :: r)) (hn : (K.open1 (q.frm, q.seq)).ks.Nodup) :
    Sep S w0 w (rR ⟨A6, c6, upd1 V (q.frm, q.seq) (xA, xC), rv⟩ (K.mid q) :: r) := by
  have M1 := lIn (x := (xA, xC)) M open1_mem hn
  refine Fw.Sep.join (L := [oR A6 c6 (K.mid q) (upd1 V (q.frm, q.seq) (xA, xC)), lR (K.mid q) (upd1 V (q.frm, q.seq) (xA, xC)) (K.mid q).ks, kT (tvR (K.mid q) rv) (K.mid q).T]) ?_
  rw [tv_mid, mid_T]
  exact M1.f1
theorem tell_in' {f : Int} {rv : Nat → AC} {v : AC} {A : Option Addr} {c : Nat} (M : Sep S w0 w (oR A c (K.tell f) V :: lR K V K.ks :: slR (.slice v.1 (K.T f.toNat ++ [(K.C (f, K.len f)).body]).length v.2) (K.T f.toNat ++ [(K.C (f, K.len f)).body]).length 9 1 ((K.T f.toNat ++ [(K.C (f, K.len f)).body]).flatMap encS) :: bigR (tR (tvR K rv) K.T) ((List.range 8).eraseIdx f.toNat) :: r)) (h : (f, K.len f) ∈ K.ks) (hf : f.toNat < 8) :
    Sep S w0 w (rR ⟨A, c, V, upd1 rv f.toNat v⟩ (K.tell f) :: r) := by
  have M1 := kT_tell M.f3.f3 hf
  have M2 := lR_tell M1.f2 h
  exact Fw.Sep.join (L := [oR A c (K.tell f) V, lR (K.tell f) V (K.tell f).ks, kT (tvR (K.tell f) (upd1 rv f.toNat v)) (K.tell f).T]) M2.f2
theorem same_in {K' : KSt} {A : Option Addr} {c : Nat} (M : Sep S w0 w (slR (.slice A (([] : List OE) ++ oes K V).length c) (([] : List OE) ++ oes K V).length 106 9 ((([] : List OE) ++ oes K V).flatMap encO) :: lR K V K.ks :: r)) (h : K' = K) : Sep S w0 w (oR A c K' V :: lR K' V K'.ks :: r) := by
  subst h; exact M
end

end Go.Proofs.Ytibomfgeemhogaa
