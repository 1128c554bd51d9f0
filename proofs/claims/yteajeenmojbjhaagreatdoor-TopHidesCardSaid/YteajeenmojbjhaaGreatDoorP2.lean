/-
 More operations: maps and slices against nil, max and min; maps whose size nobody asks for.
-/
import Derived.Test.YteajeenmojbjhaaGreatDoorP1
import Derived.WalkSpells
import Derived.Defers
import Derived.KernelRfl
import Derived.OrdersIn
import Derived.LoopNIn
import Derived.RangeFuncIn
import Derived.RangeFuncRecord
import Derived.RangeFuncLeaves
import Derived.ProofKit
import Derived.OpenShut
import Derived.Lib.SmallJoins
namespace Go.Proofs.YteajeenmojbjhaaGreatDoor.Fw
open Go
section
variable {P : Program} {ops : List Oper} {cl : List Cls} {bad : List (Nat × Nat)} {Q : Act → World → Prop} {n k d : Nat} {t : Ot} {L : Pend} {a : Act} {w : World} {l : List (Nat × Value)}
variable {ty : TypeId} {ps : String} {af : Array Edge} {g : Option (Nat × Bool)}
theorem s_max {x y : Operand} {tys : Array TypeId} {u v : Int} (F : Fr n a l) (ho : nth ops k = some ⟨some d,.call ⟨.builtin .max,#[x,y],tys⟩,ty,ps,af,g⟩) (hw : wn ops l g = some true) (hc : nth cl k = some .ind) (hlt : Nat.blt d n = true)
  (hx : ev l x = some (.int .i64 u)) (hy : ev l y = some (.int .i64 v)) (h : ∀ a',Fr n a' ((d,.int .i64 (max u v)) :: l) → trunT P ops cl bad Q t L a' w) : trunT P ops cl bad Q (.one k t) L a w := by
 refine s_ind F ho hw hc rfl hlt (fun w' => ?_) h
 have e : (if v > u then v else u) = max u v := by split <;> omega
 simp [execOp,resolve,invoke,builtin,F.ev hx,F.ev hy,Builtin.max_,Builtin.max2,e]
end
section
variable {S : Nat → Prop} {w0 w : World} {r : List Res} {κ : Type} [DecidableEq κ] {enc : κ → Value} {b : Nat} {D D' : κ → Option Value}
end
section
variable {S : Nat → Prop} {w0 w : World} {α : Type} {f g : α → Res} {r : List Res}
end
section
variable {P : Program} {ops : List Oper} {cl : List Cls} {bad : List (Nat × Nat)} {Q : Act → World → Prop} {n k : Nat} {t : Ot} {L : Pend} {a : Act} {w : World} {l : List (Nat × Value)}
variable {ty : TypeId} {ps : String} {af : Array Edge} {g : Option (Nat × Bool)} {κ : Type} [DecidableEq κ] {kt : TypeId} {enc : κ → Value}
end
end Go.Proofs.YteajeenmojbjhaaGreatDoor.Fw
namespace Go.Proofs.YteajeenmojbjhaaGreatDoor.Fw
open Go
section
variable {P : Program} {ops : List Oper} {cl : List Cls} {bad : List (Nat × Nat)} {Q : Act → World → Prop} {n k d : Nat} {t : Ot} {L : Pend} {a : Act} {w : World} {l : List (Nat × Value)}
variable {ty : TypeId} {ps : String} {af : Array Edge} {g : Option (Nat × Bool)}
theorem s_mkf {fn : Fn} {first captured : Array Operand} {fs cs : List Value} (F : Fr n a l) (ho : nth ops k = some ⟨some d,.makeFunc fn first captured,ty,ps,af,g⟩) (hw : wn ops l g = some true) (hc : nth cl k = some .ind) (hlt : Nat.blt d n = true)
  (hf : evs l first.toList = some fs) (hcs : evs l captured.toList = some cs) (h : ∀ a',Fr n a' ((d,.func fn fs.toArray cs.toArray) :: l) → trunT P ops cl bad Q t L a' w) : trunT P ops cl bad Q (.one k t) L a w := by
 refine s_ind F ho hw hc rfl hlt (fun w' => ?_) h
 have e1 : first.map a.eval = fs.toArray := by
  have := F.evs hf
  apply Array.toList_inj.1
  simpa using this
 have e2 : captured.map a.eval = cs.toArray := by
  have := F.evs hcs
  apply Array.toList_inj.1
  simpa using this
 simp [execOp,Instr.makeFunc,e1,e2]
theorem part_agg {e sz : Nat} (hs : aggB P e = some sz) {cs : Array Value} {o : Nat} (w : World) : (part e cs o).run P w = .ok (.agg (cs.extract o (o + sz))) w := by
 unfold aggB at hs
 split at hs <;> try (cases hs; done)
 all_goals
  simp only [Option.some.injEq] at hs
  rename_i h1 h2
  have h3 : (isAgg e).run P w = .ok true w := by simp [isAgg,run_underlying h1]
  have h4 : (sizeOf e).run P w = .ok sz w := by simp [sizeOf,typeInfo,h2,hs]
  simp only [part,Sem.run_bind,h3,h4,Result.andThen_ok,if_true,Sem.run_pure]
end
end Go.Proofs.YteajeenmojbjhaaGreatDoor.Fw
namespace Go.Proofs.YteajeenmojbjhaaGreatDoor.Fw
open Go
section
variable {P : Program} {ops : List Oper} {cl : List Cls} {bad : List (Nat × Nat)} {Q : Act → World → Prop} {n k d : Nat} {t : Ot} {L : Pend} {a : Act} {w : World} {l : List (Nat × Value)}
def wD (D : List Deferred) (a : Act) : Act := { a with defers := D }
theorem wD_put {D : List Deferred} {d : Option Tmp} {v : Value} : (wD D a).put d v = wD D (a.put d v) := by cases d <;> rfl
theorem wD_eval {D : List Deferred} : (wD D a).eval = a.eval := by
 funext x
 cases x <;> rfl
theorem stepT_wD {D : List Deferred} {k : Nat} {L : Pend} {K K' : Pend → Act → World → Prop} (hK : ∀ L a w,K L a w → K' L (wD D a) w) (h : stepT P ops cl bad k L K a w) : stepT P ops cl bad k L K' (wD D a) w := by
 unfold stepT at *
 cases ho : nth ops k with
 | none => rw [ho] at h; exact h.elim
 | some o =>
  simp only [ho] at h ⊢
  have e1 : (wD D a).tmps = a.tmps := rfl
  rw [e1]
  by_cases hw : Region.wanted o (yielded ops.toArray a.tmps) = true
  ·rw [if_pos hw] at h ⊢
   cases hc : nth cl k with
   | none =>
    simp only [hc] at h
    intro n
    have := h n
    rw [wD_eval]
    exact this.mono fun v w' ⟨h1,h2⟩ => ⟨h1,by rw [wD_put]; exact hK _ _ _ h2⟩
   | some c =>
    cases c with
    | ind =>
     simp only [hc] at h
     obtain ⟨v,h1,h2⟩ := h
     exact ⟨v,by rw [wD_eval]; exact h1,by rw [wD_put]; exact hK _ _ _ h2⟩
    | rd =>
     simp only [hc] at h
     obtain ⟨v,C,h1,h2,h3,h4⟩ := h
     exact ⟨v,C,h1,h2,by rw [wD_eval]; exact h3,by rw [wD_put]; exact hK _ _ _ h4⟩
    | wr =>
     simp only [hc] at h
     intro n
     have := h n
     rw [wD_eval]
     exact this.mono fun v w' ⟨h1,h2⟩ => ⟨h1,by rw [wD_put]; exact hK _ _ _ h2⟩
  ·rw [if_neg hw] at h ⊢
   rw [wD_put]
   exact hK _ _ _ h
theorem trunT_wD {D : List Deferred} : ∀ (t : Ot) (L : Pend) (a : Act) (w : World),trunT P ops cl bad (fun a w => Q (wD D a) w) t L a w → trunT P ops cl bad Q t L (wD D a) w
 | .done,_,_,_,h => h
 | .one _ t,_,_,_,h => stepT_wD (fun L a w h => trunT_wD t L a w h) h
 | .two _ _ tx ty,_,_,_,h => ⟨stepT_wD (fun L a w h => trunT_wD tx L a w h) h.1,stepT_wD (fun L a w h => trunT_wD ty L a w h) h.2⟩
 | .alt _ tx r,_,_,_,h => ⟨stepT_wD (fun L a w h => trunT_wD tx L a w h) h.1,trunT_wD r _ _ _ h.2⟩
variable {ty ty2 : TypeId} {ps ps2 : String} {af af2 : Array Edge} {tys : Array TypeId}
variable {fn : Func} {R : Ending → World → Prop}
end
end Go.Proofs.YteajeenmojbjhaaGreatDoor.Fw
namespace Go.Proofs.YteajeenmojbjhaaGreatDoor.Fw
open Go
def cutT : Nat → Ot → Option (List Nat × Ot)
 | 0,t => some ([],t)
 | m + 1,.one k t => match cutT m t with
  | some (ks,r) => some (k :: ks,r)
  | none => none
 | _ + 1,_ => none
def evB (l : List (Nat × Value)) (op : Op) : Option Value :=
 match evI l op with
 | some v => some v
 | none => match op with
  | .binOp b _ x y _ => match ev l x,ev l y with
   | some u,some v => binI b u v
   | _,_ => none
  | _ => none
def runO (ops : List Oper) (cl : List Cls) (n : Nat) (l : List (Nat × Value)) (k : Nat) : Option (List (Nat × Value)) :=
 match nth ops k with
 | some o => match o.dst with
  | some d => match Nat.blt d n with
   | true => match wn ops l o.guard with
    | some false => some ((d,undef) :: l)
    | some true => match nth cl k with
     | some .ind => match evB l o.op with
      | some v => some ((d,v) :: l)
      | none => none
     | _ => none
    | none => none
   | false => none
  | none => none
 | none => none
def runI (ops : List Oper) (cl : List Cls) (n : Nat) : List Nat → List (Nat × Value) → Option (List (Nat × Value))
 | [],l => some l
 | k :: r,l => match runO ops cl n l k with
  | some l' => runI ops cl n r l'
  | none => none
section
variable {P : Program} {ops : List Oper} {cl : List Cls} {bad : List (Nat × Nat)} {Q : Act → World → Prop} {n k : Nat} {t : Ot} {L : Pend} {a : Act} {w : World} {l : List (Nat × Value)}
theorem s_B {d : Nat} {o : Oper} {v : Value} (F : Fr n a l) (ho : nth ops k = some o) (hw : wn ops l o.guard = some true) (hc : nth cl k = some .ind) (hd : o.dst = some d) (hlt : Nat.blt d n = true)
  (hv : evB l o.op = some v) (h : ∀ a',Fr n a' ((d,v) :: l) → trunT P ops cl bad Q t L a' w) : trunT P ops cl bad Q (.one k t) L a w := by
 unfold evB at hv
 split at hv
 ·rename_i u hu
  simp only [Option.some.injEq] at hv
  subst hv
  exact s_I F ho hw hc hd hlt hu h
 ·split at hv
  ·rename_i b tx x y ty hop
   split at hv
   ·rename_i u u' hu hu'
    obtain ⟨dst,op,ty2,ps,af,g⟩ := o
    simp only at hop hd hw
    subst hop; subst hd
    exact s_bin F ho hw hc hlt hu hu' hv h
   ·cases hv
  ·cases hv
theorem s_one {l' : List (Nat × Value)} (F : Fr n a l) (hr : runO ops cl n l k = some l') (h : ∀ a',Fr n a' l' → trunT P ops cl bad Q t L a' w) : trunT P ops cl bad Q (.one k t) L a w := by
 unfold runO at hr
 split at hr
 ·rename_i o ho
  split at hr
  ·rename_i d hd
   split at hr
   ·rename_i hlt
    split at hr
    ·rename_i hw
     simp only [Option.some.injEq] at hr
     subst hr
     exact s_no F ho hw hd hlt h
    ·rename_i hw
     split at hr
     ·rename_i hc
      split at hr
      ·rename_i v hv
       simp only [Option.some.injEq] at hr
       subst hr
       exact s_B F ho hw hc hd hlt hv h
      ·cases hr
     ·cases hr
    ·cases hr
   ·cases hr
  ·cases hr
 ·cases hr
theorem s_rn {t0 : Ot} {ks : List Nat} {l' : List (Nat × Value)} (m : Nat) (F : Fr n a l) (hs : cutT m t0 = some (ks,t)) (hr : runI ops cl n ks l = some l') (h : ∀ a',Fr n a' l' → trunT P ops cl bad Q t L a' w) : trunT P ops cl bad Q t0 L a w := by
 induction m generalizing t0 ks l a with
 | zero =>
  simp only [cutT,Option.some.injEq,Prod.mk.injEq] at hs
  obtain ⟨rfl,rfl⟩ := hs
  simp only [runI,Option.some.injEq] at hr
  subst hr
  exact h a F
 | succ m ih =>
  cases t0 with
  | done => cases hs
  | two => cases hs
  | alt => cases hs
  | one k t1 =>
   simp only [cutT] at hs
   split at hs
   ·rename_i ks1 r1 hs1
    simp only [Option.some.injEq,Prod.mk.injEq] at hs
    obtain ⟨rfl,rfl⟩ := hs
    simp only [runI] at hr
    split at hr
    ·rename_i l1 h1
     exact s_one F h1 fun a' F' => ih F' hs1 hr
    ·cases hr
   ·cases hs
end
end Go.Proofs.YteajeenmojbjhaaGreatDoor.Fw
namespace Go.Proofs.YteajeenmojbjhaaGreatDoor.Fw
open Go
abbrev u6 (a : Nat) : Value := .int .u64 (a : Int)
theorem wrap6 (x : Int) : IntKind.u64.wrap x = x % 18446744073709551616 := by simp [IntKind.wrap,IntKind.bits,IntKind.signed]
theorem bv6 {a : Nat} (h : a < 18446744073709551616) : (BitVec.ofInt 64 (a : Int)).toNat = a := by
 rw [BitVec.toNat_ofInt]
 omega
section
variable {P : Program} {ops : List Oper} {cl : List Cls} {bad : List (Nat × Nat)} {Q : Act → World → Prop} {n k d : Nat} {t : Ot} {L : Pend} {a : Act} {w : World} {l : List (Nat × Value)}
variable {ty : TypeId} {ps : String} {af : Array Edge} {g : Option (Nat × Bool)} {tx ty' : TypeId} {x y : Operand} {u v : Nat}
theorem s_uadd (F : Fr n a l) (ho : nth ops k = some ⟨some d,.binOp .add tx x y ty',ty,ps,af,g⟩) (hw : wn ops l g = some true) (hc : nth cl k = some .ind) (hlt : Nat.blt d n = true)
  (hx : ev l x = some (u6 u)) (hy : ev l y = some (u6 v)) (h : ∀ a',Fr n a' ((d,u6 ((u + v) % 18446744073709551616)) :: l) → trunT P ops cl bad Q t L a' w) : trunT P ops cl bad Q (.one k t) L a w :=
 s_ind F ho hw hc rfl hlt (fun w' => by
  simp only [execOp,F.ev hx,F.ev hy]
  simp [eqGuard,Go.binOp,Op.intArith,wrap6]) h
theorem s_usub (F : Fr n a l) (ho : nth ops k = some ⟨some d,.binOp .sub tx x y ty',ty,ps,af,g⟩) (hw : wn ops l g = some true) (hc : nth cl k = some .ind) (hlt : Nat.blt d n = true)
  (hx : ev l x = some (u6 u)) (hy : ev l y = some (u6 v)) (hv : v ≤ 18446744073709551616) (h : ∀ a',Fr n a' ((d,u6 ((u + (18446744073709551616 - v)) % 18446744073709551616)) :: l) → trunT P ops cl bad Q t L a' w) : trunT P ops cl bad Q (.one k t) L a w :=
 s_ind F ho hw hc rfl hlt (fun w' => by
  have e : ((u : Int) - v) % 18446744073709551616 = (((u + (18446744073709551616 - v)) % 18446744073709551616 : Nat) : Int) := by omega
  simp only [execOp,F.ev hx,F.ev hy]
  simp [eqGuard,Go.binOp,Op.intArith,wrap6,e]) h
theorem s_umul (F : Fr n a l) (ho : nth ops k = some ⟨some d,.binOp .mul tx x y ty',ty,ps,af,g⟩) (hw : wn ops l g = some true) (hc : nth cl k = some .ind) (hlt : Nat.blt d n = true)
  (hx : ev l x = some (u6 u)) (hy : ev l y = some (u6 v)) (h : ∀ a',Fr n a' ((d,u6 ((u * v) % 18446744073709551616)) :: l) → trunT P ops cl bad Q t L a' w) : trunT P ops cl bad Q (.one k t) L a w :=
 s_ind F ho hw hc rfl hlt (fun w' => by
  simp only [execOp,F.ev hx,F.ev hy]
  simp [eqGuard,Go.binOp,Op.intArith,wrap6]) h
theorem s_uand (F : Fr n a l) (ho : nth ops k = some ⟨some d,.binOp .and tx x y ty',ty,ps,af,g⟩) (hw : wn ops l g = some true) (hc : nth cl k = some .ind) (hlt : Nat.blt d n = true)
  (hx : ev l x = some (u6 u)) (hy : ev l y = some (u6 v)) (hu : u < 18446744073709551616) (hv : v < 18446744073709551616) (h : ∀ a',Fr n a' ((d,u6 (u &&& v)) :: l) → trunT P ops cl bad Q t L a' w) : trunT P ops cl bad Q (.one k t) L a w :=
 s_ind F ho hw hc rfl hlt (fun w' => by
  have e1 : (BitVec.ofInt 64 (u : Int) &&& BitVec.ofInt 64 (v : Int)).toNat = u &&& v := by rw [BitVec.toNat_and,bv6 hu,bv6 hv]
  have h2 : u &&& v < 18446744073709551616 := Nat.and_lt_two_pow u (n := 64) hv
  have e2 : (((u &&& v : Nat) : Int)) % 18446744073709551616 = ((u &&& v : Nat) : Int) := by omega
  simp only [execOp,F.ev hx,F.ev hy]
  have e3 : Go.binOp .and tx (u6 u) (u6 v) = pure (.int .u64 (IntKind.u64.wrap ((BitVec.ofInt 64 (u : Int) &&& BitVec.ofInt 64 (v : Int)).toNat : Nat))) := rfl
  rw [e3,e1,wrap6,e2]
  simp [eqGuard]) h
theorem s_uandm (s m : Nat) (F : Fr n a l) (ho : nth ops k = some ⟨some d,.binOp .and tx x y ty',ty,ps,af,g⟩) (hw : wn ops l g = some true) (hc : nth cl k = some .ind) (hlt : Nat.blt d n = true)
  (hx : ev l x = some (u6 u)) (hy : ev l y = some (u6 (m - 1))) (hu : u < 18446744073709551616) (hm : 2 ^ s = m) (hv : m - 1 < 18446744073709551616) (h : ∀ a',Fr n a' ((d,u6 (u % m)) :: l) → trunT P ops cl bad Q t L a' w) : trunT P ops cl bad Q (.one k t) L a w := by
 refine s_uand F ho hw hc hlt hx hy hu hv fun a' F' => h a' ?_
 have e : u &&& (m - 1) = u % m := by rw [← hm]; exact Nat.and_two_pow_sub_one_eq_mod u s
 rw [e] at F'
 exact F'
theorem s_uor (F : Fr n a l) (ho : nth ops k = some ⟨some d,.binOp .or tx x y ty',ty,ps,af,g⟩) (hw : wn ops l g = some true) (hc : nth cl k = some .ind) (hlt : Nat.blt d n = true)
  (hx : ev l x = some (u6 u)) (hy : ev l y = some (u6 v)) (hu : u < 18446744073709551616) (hv : v < 18446744073709551616) (h : ∀ a',Fr n a' ((d,u6 (u ||| v)) :: l) → trunT P ops cl bad Q t L a' w) : trunT P ops cl bad Q (.one k t) L a w :=
 s_ind F ho hw hc rfl hlt (fun w' => by
  have e1 : (BitVec.ofInt 64 (u : Int) ||| BitVec.ofInt 64 (v : Int)).toNat = u ||| v := by rw [BitVec.toNat_or,bv6 hu,bv6 hv]
  have h2 : u ||| v < 18446744073709551616 := Nat.or_lt_two_pow (n := 64) hu hv
  have e2 : (((u ||| v : Nat) : Int)) % 18446744073709551616 = ((u ||| v : Nat) : Int) := by omega
  simp only [execOp,F.ev hx,F.ev hy]
  have e3 : Go.binOp .or tx (u6 u) (u6 v) = pure (.int .u64 (IntKind.u64.wrap ((BitVec.ofInt 64 (u : Int) ||| BitVec.ofInt 64 (v : Int)).toNat : Nat))) := rfl
  rw [e3,e1,wrap6,e2]
  simp [eqGuard]) h
theorem s_ushr {K : IntKind} (s m : Nat) (F : Fr n a l) (ho : nth ops k = some ⟨some d,.binOp .shr tx x y ty',ty,ps,af,g⟩) (hw : wn ops l g = some true) (hc : nth cl k = some .ind) (hlt : Nat.blt d n = true)
  (hx : ev l x = some (u6 u)) (hy : ev l y = some (.int K (s : Int))) (hs : s ≤ 64) (hm : 2 ^ s = m) (h : ∀ a',Fr n a' ((d,u6 (u / m)) :: l) → trunT P ops cl bad Q t L a' w) : trunT P ops cl bad Q (.one k t) L a w :=
 s_ind F ho hw hc rfl hlt (fun w' => by
  have e1 : Op.shift .shr .u64 (u : Int) K (s : Int) = pure (.int .u64 ((u : Int).fdiv (2 ^ min (s : Int).toNat 64))) := by
   unfold Op.shift
   rw [if_neg (by omega)]; rfl
  have e2 : (u : Int).fdiv (2 ^ min (s : Int).toNat 64) = ((u / m : Nat) : Int) := by
   rw [Int.toNat_natCast,Nat.min_eq_left hs,Int.fdiv_eq_ediv_of_nonneg _ (Int.pow_nonneg (by decide)),← hm]
   rw [show ((2 : Int) ^ s) = ((2 ^ s : Nat) : Int) by rw [Int.natCast_pow]; rfl]
   generalize 2 ^ s = z
   norm_cast
  simp only [execOp,F.ev hx,F.ev hy]
  have e3 : Go.binOp .shr tx (u6 u) (.int K (s : Int)) = Op.shift .shr .u64 (u : Int) K (s : Int) := rfl
  rw [e3,e1,e2]
  simp [eqGuard]) h
theorem s_ushl {K : IntKind} (s m : Nat) (F : Fr n a l) (ho : nth ops k = some ⟨some d,.binOp .shl tx x y ty',ty,ps,af,g⟩) (hw : wn ops l g = some true) (hc : nth cl k = some .ind) (hlt : Nat.blt d n = true)
  (hx : ev l x = some (u6 u)) (hy : ev l y = some (.int K (s : Int))) (hs : s ≤ 64) (hm : 2 ^ s = m) (h : ∀ a',Fr n a' ((d,u6 (u * m % 18446744073709551616)) :: l) → trunT P ops cl bad Q t L a' w) : trunT P ops cl bad Q (.one k t) L a w :=
 s_ind F ho hw hc rfl hlt (fun w' => by
  have e1 : Op.shift .shl .u64 (u : Int) K (s : Int) = pure (.int .u64 (IntKind.u64.wrap ((u : Int) * 2 ^ min (s : Int).toNat 64))) := by
   unfold Op.shift
   rw [if_neg (by omega)]; rfl
  have e2 : ((u : Int) * 2 ^ min (s : Int).toNat 64) % 18446744073709551616 = ((u * m % 18446744073709551616 : Nat) : Int) := by
   rw [Int.toNat_natCast,Nat.min_eq_left hs,← hm,show ((2 : Int) ^ s) = ((2 ^ s : Nat) : Int) by rw [Int.natCast_pow]; rfl,← Int.natCast_mul]
   generalize u * 2 ^ s = z
   omega
  simp only [execOp,F.ev hx,F.ev hy]
  have e3 : Go.binOp .shl tx (u6 u) (.int K (s : Int)) = Op.shift .shl .u64 (u : Int) K (s : Int) := rfl
  rw [e3,e1,wrap6,e2]
  simp [eqGuard]) h
theorem s_urem (F : Fr n a l) (ho : nth ops k = some ⟨some d,.binOp .rem tx x y ty',ty,ps,af,g⟩) (hw : wn ops l g = some true) (hc : nth cl k = some .ind) (hlt : Nat.blt d n = true)
  (hx : ev l x = some (u6 u)) (hy : ev l y = some (u6 v)) (hv : 0 < v) (h : ∀ a',Fr n a' ((d,u6 (u % v)) :: l) → trunT P ops cl bad Q t L a' w) : trunT P ops cl bad Q (.one k t) L a w := by
 refine s_rem F ho hw hc hlt hx hy (by omega) ?_
 rw [Int.tmod_eq_emod_of_nonneg (by omega),← Int.natCast_emod]
 exact h
theorem s_ixv {T E : TypeId} {m : Nat} {i : Int} {cs : Array Value} {v : Value} (F : Fr n a l) (ho : nth ops k = some ⟨some d,.index T x y,ty,ps,af,g⟩) (hw : wn ops l g = some true) (hc : nth cl k = some .ind) (hlt : Nat.blt d n = true)
  (hT : arrB P T = some (m,1)) (hS : P.underlying T = some (.array m E) ∧ scalB P E = true) (hx : ev l x = some (.agg cs)) (hy : ev l y = some (.int .i64 i)) (h0 : 0 ≤ i) (h1 : i < m) (hv : nth cs.toList i.toNat = some v)
  (h : ∀ a',Fr n a' ((d,v) :: l) → trunT P ops cl bad Q t L a' w) : trunT P ops cl bad Q (.one k t) L a w :=
 s_ind F ho hw hc rfl hlt (fun w' => by
  have hp : (part E cs i.toNat).run P w' = .ok v w' := part_scal hS.2 (by rw [nth_eq] at hv; simpa using hv) w'
  simp only [execOp,F.ev hx,F.ev hy]
  obtain ⟨e,ii,h2,h3,h4⟩ := arrB_spec hT
  have he : e = E := by
   rw [hS.1] at h2
   simp only [Option.some.injEq,TypeDesc.array.injEq] at h2
   exact h2.2.symm
  subst he
  simp [Instr.index,asIntOf,run_underlying hS.1,h0,h1,sizeOf,typeInfo,h3,h4,hp]) h
def cmpU : BinOp → Nat → Nat → Option Bool
 | .lss,a,b => some (decide (a < b))
 | .leq,a,b => some (decide (a ≤ b))
 | .gtr,a,b => some (decide (b < a))
 | .geq,a,b => some (decide (b ≤ a))
 | .eql,a,b => some (decide (a = b))
 | .neq,a,b => some (!decide (a = b))
 | _,_,_ => none
theorem s_ucmp {op : BinOp} {r : Bool} (F : Fr n a l) (ho : nth ops k = some ⟨some d,.binOp op tx x y ty',ty,ps,af,g⟩) (hw : wn ops l g = some true) (hc : nth cl k = some .ind) (hlt : Nat.blt d n = true)
  (hx : ev l x = some (u6 u)) (hy : ev l y = some (u6 v)) (hr : cmpU op u v = some r) (h : ∀ a',Fr n a' ((d,.bool r) :: l) → trunT P ops cl bad Q t L a' w) : trunT P ops cl bad Q (.one k t) L a w :=
 s_ind F ho hw hc rfl hlt (fun w' => by
  simp only [execOp,F.ev hx,F.ev hy]
  have e : ((u : Int) = (v : Int)) = (u = v) := propext ⟨fun h => by omega,fun h => by omega⟩
  have e1 : ((u : Int) < (v : Int)) = (u < v) := by simp
  have e2 : ((u : Int) ≤ (v : Int)) = (u ≤ v) := by simp
  cases op <;> simp only [cmpU,Option.some.injEq,reduceCtorEq] at hr <;> subst hr
  case eql => have q : Go.binOp .eql tx (u6 u) (u6 v) = Op.intCmp .eql u v := rfl; rw [q]; simp only [eqGuard,Op.intCmp,e]; by_cases h9 : u = v <;> simp [h9] <;> omega
  case neq => have q : Go.binOp .neq tx (u6 u) (u6 v) = Op.intCmp .neq u v := rfl; rw [q]; simp only [eqGuard,Op.intCmp,e]; by_cases h9 : u = v <;> simp [h9] <;> omega
  case lss => have q : Go.binOp .lss tx (u6 u) (u6 v) = Op.intCmp .lss u v := rfl; rw [q]; simp [eqGuard,Op.intCmp]
  case leq => have q : Go.binOp .leq tx (u6 u) (u6 v) = Op.intCmp .leq u v := rfl; rw [q]; simp [eqGuard,Op.intCmp]
  case gtr => have q : Go.binOp .gtr tx (u6 u) (u6 v) = Op.intCmp .gtr u v := rfl; rw [q]; simp [eqGuard,Op.intCmp]
  case geq => have q : Go.binOp .geq tx (u6 u) (u6 v) = Op.intCmp .geq u v := rfl; rw [q]; simp [eqGuard,Op.intCmp]) h
def ExtQ (P : Program) (f : FuncId) (vs : List Value) (r : Value) : Prop := ∀ w,(callFunc f vs.toArray).run P w = .ok (.value r) w
theorem s_ext {f : FuncId} {xs : Array Operand} {tys : Array TypeId} {vs : List Value} {r : Value} (F : Fr n a l) (ho : nth ops k = some ⟨some d,.call ⟨.value (.func f),xs,tys⟩,ty,ps,af,g⟩) (hw : wn ops l g = some true) (hc : nth cl k = some .ind) (hlt : Nat.blt d n = true)
  (hx : evs l xs.toList = some vs) (hr : ExtQ P f vs r) (h : ∀ a',Fr n a' ((d,r) :: l) → trunT P ops cl bad Q t L a' w) : trunT P ops cl bad Q (.one k t) L a w :=
 s_ind F ho hw hc rfl hlt (fun w' => by
  have e : execOp a.eval ⟨some d,.call ⟨.value (.func f),xs,tys⟩,ty,ps,af,g⟩ = callFunc f (#[] ++ xs.map a.eval ++ #[]) := rfl
  have e2 : xs.map a.eval = vs.toArray := by
   have := F.evs hx
   exact Array.ext' (by rw [Array.toList_map,this])
  rw [e,e2]
  have h1 : (#[] ++ vs.toArray ++ #[] : Array Value) = vs.toArray := by rw [Array.append_empty,Array.empty_append]
  rw [h1]
  exact hr w') h
end
end Go.Proofs.YteajeenmojbjhaaGreatDoor.Fw
namespace Go.Proofs.YteajeenmojbjhaaGreatDoor.Fw
open Go
theorem rd_at {w : World} {b off m c sz : Nat} {cs : Array Value} {T : TypeId} {fz : Nat × Nat} {xs : List Value} (hb : w.heap[b]? = some (.cells cs T fz)) (hl : xs.length = m * sz) (hc : m ≤ c) (hp : ∀ j u,xs[j]? = some u → cs[off + j]? = some u) : RdSl w.heap (.slice (some ⟨b,off,none⟩) m c) m sz xs :=
 ⟨hl,some ⟨b,off,none⟩,c,rfl,hc,fun _ => ⟨b,off,cs,T,fz,rfl,hb,hp⟩⟩
section
variable {P : Program} {ops : List Oper} {cl : List Cls} {bad : List (Nat × Nat)} {Q : Act → World → Prop} {n k d : Nat} {t : Ot} {L : Pend} {a : Act} {w : World} {l : List (Nat × Value)}
variable {ty : TypeId} {ps : String} {af : Array Edge} {g : Option (Nat × Bool)}
theorem s_slA {T : TypeId} {x : Operand} {lo hi : Option Operand} {b off m sz : Nat} {i j : Int} (F : Fr n a l) (ho : nth ops k = some ⟨some d,.slice T x lo hi none,ty,ps,af,g⟩) (hw : wn ops l g = some true) (hc : nth cl k = some .ind) (hlt : Nat.blt d n = true)
  (hT : arrB P T = some (m,sz)) (hx : ev l x = some (.pointer (some ⟨b,off,none⟩))) (hlo : evO l 0 lo = some i) (hhi : evO l m hi = some j) (h0 : 0 ≤ i) (h1 : i ≤ j) (h2 : j ≤ m) (h3 : i < m)
  (h : ∀ a',Fr n a' ((d,.slice (some ⟨b,off + i.toNat * sz,none⟩) (j.toNat - i.toNat) (m - i.toNat)) :: l) → trunT P ops cl bad Q t L a' w) : trunT P ops cl bad Q (.one k t) L a w := by
 refine s_ind F ho hw hc rfl hlt (fun w' => ?_) h
 obtain ⟨e,inf,h4,h5,h6⟩ := arrB_spec hT
 have hlo' : (match (lo.map a.eval) with | some v => Instr.sliceBound v j.toNat BoundsCode.sliceB | none => pure 0 : Sem Nat).run P w' = .ok i.toNat w' := by
  cases lo with
  | none => simp only [evO,Option.some.injEq] at hlo; subst hlo; rfl
  | some y =>
   simp only [evO] at hlo
   split at hlo <;> simp only [Option.some.injEq,reduceCtorEq] at hlo
   rename_i i' hy
   subst hlo
   exact run_sb (F.ev hy) h0 (by omega) w'
 have hhi' : (match (hi.map a.eval) with | some v => Instr.sliceBound v m BoundsCode.sliceAlen | none => pure m : Sem Nat).run P w' = .ok j.toNat w' := by
  cases hi with
  | none => simp only [evO,Option.some.injEq] at hhi; subst hhi; rfl
  | some y =>
   simp only [evO] at hhi
   split at hhi <;> simp only [Option.some.injEq,reduceCtorEq] at hhi
   rename_i i' hy
   subst hhi
   exact run_sb (F.ev hy) (by omega) (by omega) w'
 have hne : ¬ m = i.toNat := by omega
 have hsb : (Instr.sliceBounds false m m (lo.map a.eval) (hi.map a.eval) none).run P w' = .ok (i.toNat,j.toNat,m) w' := by
  unfold Instr.sliceBounds
  cases lo <;> cases hi <;> simp only [Option.map_none,Option.map_some] at hlo' hhi' <;> simp [hlo',hhi'] <;> (try simp only [Sem.run_pure,Result.ok.injEq,and_true] at hlo') <;> (try simp only [Sem.run_pure,Result.ok.injEq,and_true] at hhi') <;> (try (rw [← hhi'] at hlo'; simp [hlo'])) <;> (try simp_all)
 have hsa : (Instr.sureAddr (.pointer (some ⟨b,off,none⟩))).run P w' = .ok ⟨b,off,none⟩ w' := rfl
 have e : execOp a.eval ⟨some d,.slice T x lo hi none,ty,ps,af,g⟩ = (do pure (.value (← Instr.sliceAt T (a.eval x) (lo.map a.eval) (hi.map a.eval) none))) := rfl
 rw [e,F.ev hx]
 simp [Instr.sliceAt,run_underlying h4,hsb,hsa,sizeOf,typeInfo,h5,h6,add_at,hne]
theorem s_cpy {S : Nat → Prop} {w0 : World} {T T2 E : TypeId} {sz b off m c n0 : Nat} {x y : Operand} {u : Value} {xs : List Value} {cs : Array Value} {B : TypeId} {r : List Res} (F : Fr n a l) (M : Sep S w0 w (blk b (.cells cs B (0,0)) :: r)) (ho : nth ops k = some ⟨some d,.call ⟨.builtin .copy,#[x,y],#[T,T2]⟩,ty,ps,af,g⟩) (hw : wn ops l g = some true) (hc : nth cl k = some .wr) (hlt : Nat.blt d n = true)
  (hT : slcB P T = some (E,sz)) (hx : ev l x = some (.slice (some ⟨b,off,none⟩) m c)) (hy : ev l y = some u) (hu : RdSl w.heap u n0 sz xs) (h1 : xs.all oneC = true) (hm : n0 ≤ m) (hsz : off + n0 * sz ≤ cs.size)
  (h : ∀ w',Sep S w0 w' (blk b (.cells (setCells cs off xs) B (0,0)) :: r) → ∀ a',Fr n a' ((d,.int .i64 n0) :: l) → trunT P ops cl [] Q t L a' w') : trunT P ops cl [] Q (.one k t) L a w := by
 refine s_wr (R := fun v' w' => v' = .int .i64 n0 ∧ Sep S w0 w' (blk b (.cells (setCells cs off xs) B (0,0)) :: r)) F ho hw hc rfl hlt (fun nd => ?_) (fun v' w' ⟨h2,h3⟩ => h2 ▸ h w' h3)
 obtain ⟨i,hu2,hi,hisz⟩ := slcB_spec hT
 have hu0 : RdSl (w.drewN nd).heap u n0 sz xs := hu
 have hnew := run_firstCells (P := P) (w := w.drewN nd) hu0
 obtain ⟨hnl,A,c',rfl,hmc,_⟩ := hu
 obtain ⟨w',hst,M'⟩ := run_storeCells (P := P) (off := off) xs 0 _ (w.drewN nd) (M.drewN nd) (by omega) (fun v hv => List.all_eq_true.1 h1 v hv)
 have hmin : Nat.min n0 m = n0 := Nat.min_eq_left hm
 have huT : ∀ w : World,(underlying T).run P w = .ok (.slice E) w := fun w => run_underlying hu2 w
 have hsv : ∀ w : World,(sizeOf E).run P w = .ok sz w := fun w => by simp [sizeOf,typeInfo,hi,hisz]
 have hrun : (Builtin.copy_ #[T,T2] ty #[.slice (some ⟨b,off,none⟩) m c,.slice A n0 c']).run P (w.drewN nd) = .ok (.int .i64 n0) w' := by
  unfold Builtin.copy_
  simp [huT,Builtin.lenOf,hsv,hmin,hnew,hst,goInt]
 simp only [execOp,resolve,invoke,builtin,List.map_toArray,List.map_cons,List.map_nil,F.ev hx,F.ev hy,Sem.run_bind,Sem.run_pure,hrun,Result.andThen_ok,Goes]
 exact ⟨by first | rfl | trivial,by simpa using M'⟩
end
end Go.Proofs.YteajeenmojbjhaaGreatDoor.Fw
namespace Go.Proofs.YteajeenmojbjhaaGreatDoor.Fw
open Go
def wrF (r : Option Nat) : Fence := { Fence.wide with round := r }
section
variable {P : Program} {r : Option Nat} {m : Nat} {o : Oper} {Q : Exit → Act → World → Prop}
theorem callsIn_wr {f : FuncId} {args : Array Value} {w : World} {R : Ending → World → Prop} (h : Calls P f args w R) : CallsIn (wrF r) m P f args w R := (callsIn_wide (n := m)).2 h
theorem Goes.wpIn {a : Act} {w : World} {K : Act → World → Prop} (hnd : ∀ c,o.op ≠ .defer c) (h : Goes P (fun v w' => K (a.put o.dst v) w') ((execOp a.eval o).run P w)) : o.wpIn (wrF r) m P a w K Q := by
 refine ⟨fun _ _ => trivial,?_⟩
 rw [Oper.semAt_eq _ _ _ hnd]
 generalize (execOp a.eval o).run P w = x at *
 cases x with
 | ok nx w' =>
  cases nx <;> simp only [Goes] at h <;> simp only [Oper.uponIn] <;> first
   | exact h
   | exact h.elim
   | (refine ⟨fun hh => (by cases hh),(callsIn_wr h).mono fun e w'' ⟨v,e1,e2⟩ => ?_⟩; subst e1; exact e2)
 | halt x w' => exact h.elim
variable {ops : List Oper} {cl : List Cls} {bad : List (Nat × Nat)}
def noDfr (ops : List Oper) : Bool := ops.all fun o => match o.op with | .defer _ => false | _ => true
theorem noDfr_ok (h : noDfr ops = true) {k : Nat} {o : Oper} (ho : ops[k]? = some o) : ∀ c,o.op ≠ .defer c := fun c e => by
 have := List.all_eq_true.1 h o (List.mem_of_getElem? ho)
 rw [e] at this
 cases this
theorem stepT_soundIn (hd : noDfr ops = true) {k : Nat} {L : Pend} {K : Pend → Act → World → Prop} {K' : Act → World → Prop} {a : Act} {w : World}
  (h : ∀ M a w m,K M a w → K' a (w.drewN m)) (hh : stepT P ops cl bad k L K a w) (n : Nat) : wpOpIn (wrF r) m P ops.toArray Q k K' a (w.drewN n) := by
 unfold stepT at hh
 unfold wpOpIn
 rw [nth_eq] at hh
 simp only [List.getElem?_toArray]
 cases ho : ops[k]? with
 | none => rw [ho] at hh; exact hh.elim
 | some o =>
  have hnd := noDfr_ok hd ho
  simp only [ho] at hh ⊢
  by_cases hw : Region.wanted o (yielded ops.toArray a.tmps) = true
  ·rw [if_pos hw] at hh ⊢
   have wr : (∀ n,Goes P (fun v w' => pend bad k L w' ∧ K L (a.put o.dst v) w') ((execOp a.eval o).run P (w.drewN n))) → o.wpIn (wrF r) m P a (w.drewN n) K' Q :=
    fun hh => Goes.wpIn hnd ((hh n).mono fun v w' ⟨_,h2⟩ => h _ _ _ 0 h2)
   cases hc : nth cl k with
   | none => simp only [hc] at hh; exact wr hh
   | some c =>
    cases c with
    | ind =>
     simp only [hc] at hh
     obtain ⟨v,h1,h2⟩ := hh
     refine Goes.wpIn hnd ?_
     rw [h1]
     exact h _ _ _ _ h2
    | rd =>
     simp only [hc] at hh
     obtain ⟨v,C,h1,h2,h3,h4⟩ := hh
     refine Goes.wpIn hnd ((h3 _ (h1 w n h2)).mono ?_)
     rintro u w' ⟨rfl,m',rfl⟩
     rw [World.drewN_drewN]
     exact h _ _ _ _ h4
    | wr => simp only [hc] at hh; exact wr hh
  ·rw [if_neg hw] at hh ⊢
   exact ⟨fun _ _ => trivial,h _ _ _ _ hh⟩
theorem anyT_soundIn (hd : noDfr ops = true) {Q' : Exit → Act → World → Prop} {Q : Act → World → Prop} (hQ : ∀ a w,Q a w → Q' .normal a w) : ∀ (fuel : Nat) (listed : Array Bool) (L : Pend) (a : Act) (w : World) (n : Nat),
  anyT P ops cl bad Q fuel listed L a w → wpAnyIn (wrF r) m P .any ops.toArray Q' fuel listed a (w.drewN n)
 | 0,_,_,_,_,n,h => ⟨h.1,hQ _ _ (h.2 n)⟩
 | fuel + 1,_,_,_,_,n,h => ⟨fun h0 => hQ _ _ (h.1 h0 n),fun i hi => stepT_soundIn hd (fun M a w m' => anyT_soundIn hd hQ fuel _ M a w m') (h.2 i hi) n⟩
theorem wpIn_region_t {id : Nat} {a : Act} {w : World} (cl : List Cls) (bad : List (Nat × Nat)) (t : Ot) (hm : P.follows .mixedOrders = true) (hd : noDfr ops = true)
  (hok : (Region.noSelect ops.toArray && okT ops cl bad (masks [] ops) ops.length t []) = true)
  (h : trunT P ops cl bad (fun a w => Q .normal a w) t [] a w) : (Code.region id ops.toArray true).wpIn (wrF r) m P Q a w := by
 simp only [Bool.and_eq_true] at hok
 refine wpIn_region_any hm ?_
 have h0 : Closed ops (Array.replicate ops.toArray.size false) := fun j o _ hl => by
  rcases Nat.lt_or_ge j ops.length with h | h
  ·simp [h] at hl
  ·simp [h] at hl
 have hl : Lists ops.length (Array.replicate ops.toArray.size false) [] := ⟨by simp,fun j hj => by simp [hj],by simp⟩
 exact anyT_soundIn hd (fun a w h => h) ops.toArray.size _ [] a w 1 (anyT_of_trunT hok.1 t ops.length _ [] [] a w hl h0 hok.2 h)
theorem wpIn_region_l {id : Nat} {a : Act} {w : World} (cl : List Cls) (l : List Nat) (hl : List.range ops.length = l) (hd : noDfr ops = true) (h : trunT P ops cl [] (fun a w => Q .normal a w) (otOf l) [] a w) : (Code.region id ops.toArray false).wpIn (wrF r) m P Q a w := by
 have key : ∀ (l : List Nat) (L : Pend) (a : Act) (w : World) (n : Nat),trunT P ops cl [] (fun a w => Q .normal a w) (otOf l) L a w → wpOpsIn (wrF r) m P ops.toArray Q l a (w.drewN n) := by
  intro l
  induction l with
  | nil => intro L a w n h; exact h n
  | cons k l ih =>
   intro L a w n h
   rw [wpOpsIn_cons]
   exact stepT_soundIn hd (fun M a w n h => ih M a w n h) h n
 refine wpIn_region ?_
 have := key _ [] a w 0 h
 rw [World.drewN_zero] at this
 simpa [hl] using this
theorem opsR_val {ops : Array Oper} {i : Nat} {rest : List Nat} {a : Act} {w : World} (v : Value) (ho : ops[i]? = some o) (hg : o.guard = none) (hnd : ∀ c,o.op ≠ .defer c) (hr : (execOp a.eval o).run P w = .ok (.value v) w) (h : wpOpsIn (wrF r) m P ops Q rest (a.put o.dst v) w) : wpOpsIn (wrF r) m P ops Q (i :: rest) a w := by
 rw [wpOpsIn_cons]
 unfold wpOpIn
 have hw : Region.wanted o (yielded ops a.tmps) = true := by unfold Region.wanted; rw [hg]
 simp only [ho,hw,if_true]
 exact Goes.wpIn hnd (by rw [hr]; exact h)
theorem opsR_round {ops : Array Oper} {i : Nat} {rest : List Nat} {a : Act} {w : World} {l : Nat} {f : FuncId} {tmps : Array Value} {assign body : Code} (ho : ops[i]? = some o) (hg : o.guard = none) (hnd : ∀ c,o.op ≠ .defer c) (hr : (execOp a.eval o).run P w = .ok (.round l f tmps assign body) w)
  (h : RoundIn (wrF r) (m - 1) P l f tmps assign body w fun e w'' => ∃ v,e = .returned v ∧ wpOpsIn (wrF r) m P ops Q rest (a.put o.dst v) w'') : wpOpsIn (wrF r) m P ops Q (i :: rest) a w := by
 rw [wpOpsIn_cons]
 unfold wpOpIn
 have hw : Region.wanted o (yielded ops a.tmps) = true := by unfold Region.wanted; rw [hg]
 simp only [ho,hw,if_true]
 refine ⟨fun _ _ => trivial,?_⟩
 rw [Oper.semAt_eq _ _ _ hnd,hr]
 exact ⟨fun h => (by cases h),h.mono fun e w'' ⟨v,e1,e2⟩ => by subst e1; exact e2⟩
end
section
variable {P : Program} {r : Option Nat} {m n : Nat} {Q : Exit → Act → World → Prop}
theorem rounds_ind {c : Code} {I : Nat → Act → World → Prop} (hs : ∀ k a w,I (k + 1) a w → c.wpIn (wrF r) m P (Exit.then (I k) Q) a w) (h0 : ∀ a w,I 0 a w → c.wpIn (wrF r) m P (Exit.then (fun _ _ => False) Q) a w) : ∀ k a w,I k a w → Code.roundsIn (wrF r) m P c Q (k + 1) a w
 | 0,a,w,h => wpIn_mono (h0 a w h) fun e a w q => by cases e <;> exact q
 | k + 1,a,w,h => wpIn_mono (hs k a w h) fun e a w q => by
   cases e <;> first | exact q | exact rounds_ind hs h0 k _ _ q
theorem enterM {f : FuncId} {fn : Func} {c : Code} {vs : List Value} {w : World} {R : Ending → World → Prop} (hf : P.funcs[f]? = some fn) (hb : fn.body = some c) (hn : fn.ntmps = n) (hvs : Nat.ble vs.length n = true)
  (h : ∀ a,Fr n a (enum 0 vs) → c.wpIn (wrF none) m P (bodyPostM (wrF none) m P fn R) a w) : Cl P f vs.toArray w R := by
 have hle : vs.length ≤ n := Nat.le_of_ble_eq_true hvs
 refine .mk <| (callsIn_wide (n := m)).1 (callsIn_of_wp_marks (F := wrF none) hf hb trivial (h _ ⟨by simp [hn]; omega,rfl,fun i v hv => ?_⟩))
 obtain ⟨_,h2⟩ := lk_enum vs 0 i v hv
 simp only [Nat.sub_zero] at h2
 have hlt : i < vs.length := (List.getElem?_eq_some_iff.1 h2).1
 simp only
 rw [Array.getElem?_append_left (by simpa using hlt)]
 simpa using h2
theorem enterI {f : FuncId} {fn : Func} {c : Code} {vs : List Value} {w : World} {R : Ending → World → Prop} (hf : P.funcs[f]? = some fn) (hb : fn.body = some c) (hn : fn.ntmps = n) (hvs : Nat.ble vs.length n = true)
  (h : ∀ a,Fr n a (enum 0 vs) → c.wpIn (wrF none) m P (bodyPost P fn R) a w) : CallsIn (wrF none) m P f vs.toArray w R := by
 have hle : vs.length ≤ n := Nat.le_of_ble_eq_true hvs
 refine callsIn_of_wp (F := wrF none) hf hb trivial (h _ ⟨by simp [hn]; omega,rfl,fun i v hv => ?_⟩)
 obtain ⟨_,h2⟩ := lk_enum vs 0 i v hv
 simp only [Nat.sub_zero] at h2
 have hlt : i < vs.length := (List.getElem?_eq_some_iff.1 h2).1
 simp only
 rw [Array.getElem?_append_left (by simpa using hlt)]
 simpa using h2
end
end Go.Proofs.YteajeenmojbjhaaGreatDoor.Fw
namespace Go.Proofs.YteajeenmojbjhaaGreatDoor.Fw
open Go Go.ChangeShapes Go.WideShapes Go.ChangeAt Go.RowKit
section
variable {H : Type} {enc : TypeId × Value → H} {P : Program}
theorem Chg.below {W W' : World} (h : Chg (fun _ => False) W W') : Below W.heap.size W W' := ⟨h.os,h.tape,h.out,h.size,fun k hk => h.keep k hk id⟩
theorem Chg.kept {W W' : World} (h : Chg (fun _ => False) W W') (may : MemPlace → Prop) : W.keptBut W' may := by
 refine ⟨h.os,h.out,fun i hi => ?_⟩
 rw [h.keep i hi id]
 cases W.heap[i]? with
 | none => trivial
 | some o => cases o <;> simp
theorem trodAll_stays (hl : laidOutB P = true) {W W' : World} {sp' : Nat → Bool} : ∀ {ts : List TypeId} {vs : List Value} {ds : List (DataW H)} {ps : List MemPlace},(∀ t ∈ ts,P.readableRec t = true ∧ t < P.types.size) →
  DataW.TrodAll enc P W 0 (fun _ => true) true ts vs ds ps → (∀ p ∈ ps,W.sameAt W' p) → (∀ p ∈ ps,sp' p.block = true) → DataW.TrodAll enc P W' 0 sp' true ts vs ds ps
 | [],vs,ds,ps,_,h,_,_ => by
  obtain ⟨rfl,rfl,rfl⟩ := trodAll_nil h
  exact trodAll_mk0
 | t :: ts,vs,ds,ps,hr,h,hs,hsp => by
  obtain ⟨v,vs',d,ds',p,q,rfl,rfl,rfl,h1,h2⟩ := trodAll_cons h
  have := hr t List.mem_cons_self
  exact trodAll_cons_mk (WideElems.Trod_stays hl this.1 this.2 h1 (fun x hx => hs x (List.mem_append_left _ hx)) (fun x hx => hsp x (List.mem_append_left _ hx)))
   (trodAll_stays hl (fun t ht => hr t (List.mem_cons_of_mem _ ht)) h2 (fun x hx => hs x (List.mem_append_right _ hx)) (fun x hx => hsp x (List.mem_append_right _ hx)))
theorem post_of_sameB {f : Func} {s : ChangeSpec} {apart fresh handsOn again : Bool} {W W' : World} {args : Array Value} {v : Value} {ds gs : List (DataW H)} {before pa pv : List MemPlace}
  (hW : DataW.Whole enc P f.params.toList s.vars apart W args.toList ds gs before)
  (hres : ∀ (b : Nat) (sp : Nat → Bool) (hd : Bool),DataW.TrodAll enc P W' b sp hd f.resultTypes.toList (v.resultList f.resultTypes.size) (s.fn H (ds ++ gs)).results [])
  (hargs : ∀ sp : Nat → Bool,(∀ p ∈ before,sp p.block = true) → DataW.TrodAll enc P W' 0 sp true f.params.toList args.toList (s.fn H (ds ++ gs)).args pa)
  (hvars : ∀ sp : Nat → Bool,(∀ p ∈ before,sp p.block = true) → DataW.TrodVars enc P W' sp s.vars (s.fn H (ds ++ gs)).vars pv)
  (hps : before = pa ++ pv) (hk : W.keptBut W' (· ∈ before)) (hfz : ∀ a,a.block < W.heap.size → W'.frozen? a = W.frozen? a)
  (hok : ∀ (j : Nat) (t : TypeId) (r : Value),f.resultTypes[j]? = some t → (v.resultList f.resultTypes.size)[j]? = some r → Value.okWide P W' .any 0 t r) :
  s.post enc P f apart fresh handsOn again W args v W' := by
 have hold : ∀ p ∈ before,(fun b => decide (b < W.heap.size)) p.block = true := fun p hp => by simpa using hW.lt p hp
 have hlt := hW.lt
 refine ⟨ds,gs,before,[],pa,pv,hW,hres _ _ _,hargs _ hold,hvars _ hold,World.keptBut_mono (fun p hp => ⟨hp,?_⟩) hk,fun _ => ?_⟩
 ·rw [hps,List.mem_append] at hp
  exact Or.inr hp
 ·obtain ⟨_,_,_,_,_,hz,hn⟩ := hW
  refine ⟨hok,_,_,([] ++ pa) ++ pv,⟨[] ++ pa,pv,trodAll_append (hargs _ (fun _ _ => rfl)) (hres _ _ _),hvars _ (fun _ _ => rfl),rfl,?_,?_⟩,?_⟩
  ·intro b off hp
   have hm : MemPlace.cell b off ∈ before := by rw [hps]; simpa using hp
   rw [hfz ⟨b,off,none⟩ (hlt _ hm)]
   exact hz b off hm
  ·intro ha
   have := hn ha
   rw [hps] at this
   simpa using this
  ·intro p hp _
   rw [hps]
   simpa using hp
theorem law_post {f : Func} {s : ChangeSpec} {tb : TypeId} {W W' : World} {args : Array Value} {ds gs : List (DataW H)} {before : List MemPlace} (hl : laidOutB P = true) (hr : ∀ t ∈ f.params.toList,P.readableRec t = true ∧ t < P.types.size)
  (hv : s.vars = []) (ht : f.resultTypes = #[tb]) (hb : P.underlying tb = some .bool) (hW : DataW.Whole enc P f.params.toList s.vars false W args.toList ds gs before)
  (hfn : s.fn H (ds ++ gs) = { results := [.lit (.bool true)],args := ds }) (hc : Chg (fun _ => False) W W') : s.post enc P f false true false false W args (.bool true) W' := by
 have hlt := hW.lt
 obtain ⟨p,q,hA,hV,hpq,hfz,hnd⟩ := hW
 rw [hv] at hV
 obtain ⟨rfl,rfl⟩ := trodVars_none hV
 refine post_of_sameB (pa := p) (pv := []) ⟨p,[],hA,by rw [hv]; exact hV,hpq,hfz,hnd⟩ (fun _ _ _ => ?_) (fun sp hsp => ?_) (fun _ _ => ?_) hpq (hc.kept _) hc.fz ?_
 ·rw [hfn,ht]
  exact trodAll_mk1 (shut_bool hb _)
 ·rw [hfn]
  subst hpq
  rw [List.append_nil] at hlt hsp
  exact trodAll_stays hl hr hA (fun x hx => hc.below.same (hlt x hx)) (fun x hx => hsp x hx)
 ·rw [hfn,hv]
  rfl
 ·exact ok_one ht rfl (okWide_bool_mk hb _)
end
section
variable {H : Type} {enc : TypeId × Value → H} {P : Program} {w : World} {base : Nat} {spare : Nat → Bool} {held : Bool}
def flatFs (g : TypeId → Option (List TypeId)) (P : Program) : List Field → Nat → Option (List TypeId)
 | [],_ => some []
 | f :: fs,off =>
  if f.offset = off then
   match g f.type with
   | some L => if P.cellsOf f.type = L.length then
     match flatFs g P fs (off + L.length) with
     | some R => some (L ++ R)
     | none => none
    else none
   | none => none
  else none
def flatT (P : Program) : Nat → TypeId → Option (List TypeId)
 | 0,_ => none
 | n + 1,t => match P.underlying t with
  | some (.struct fs) => match flatFs (flatT P n) P fs.toList 0 with
   | some L => if P.cellsOf t = L.length then some L else none
   | none => none
  | some (.int _) | some .bool | some .string | some (.slice _) => some [t]
  | some (.array m e) => match P.underlying e with
   | some (.int _) => if P.cellsOf e = 1 ∧ P.cellsOf t = m then some (List.replicate m e) else none
   | _ => none
  | _ => none
def Leaf (enc : TypeId × Value → H) (P : Program) (w : World) (base : Nat) (spare : Nat → Bool) (held : Bool) (t : TypeId) (c : Value) : Prop := ∃ fuel y,DataW.trod enc P w base spare held fuel t [c] = some y
def Lvs (enc : TypeId × Value → H) (P : Program) (w : World) (base : Nat) (spare : Nat → Bool) (held : Bool) (L : List TypeId) (cs : List Value) : Prop := cs.length = L.length ∧ ∀ (j : Nat) (tl : TypeId),L[j]? = some tl → ∃ c,cs[j]? = some c ∧ Leaf enc P w base spare held tl c
theorem leaves_fs {g : TypeId → Option (List TypeId)} {cs : List Value} (hg : ∀ t L fuel ds y,g t = some L → DataW.trod enc P w base spare held fuel t ds = some y → Lvs enc P w base spare held L ds) {n : Nat} {fs : Array Field} {xs : List (DataW H × List MemPlace)} (hx : xs.length = fs.size)
  (hf : ∀ (i : Nat) (f : Field),fs[i]? = some f → DataW.trod enc P w base spare held n f.type ((cs.drop f.offset).take (P.cellsOf f.type)) = xs[i]?) : ∀ (l : List Field) (i off : Nat) (R : List TypeId),fs.toList.drop i = l → flatFs g P l off = some R → ∀ j tl,R[j]? = some tl → ∃ c,cs[off + j]? = some c ∧ Leaf enc P w base spare held tl c
 | [],_,_,R,_,hR,j,tl,hj => by simp only [flatFs,Option.some.injEq] at hR; subst hR; simp at hj
 | f :: l,i,off,R,hl,hR,j,tl,hj => by
  simp only [flatFs] at hR
  split at hR
  ·rename_i hoff
   cases hgf : g f.type with
   | none => rw [hgf] at hR; cases hR
   | some L =>
    rw [hgf] at hR
    simp only at hR
    split at hR
    ·rename_i hcl
     cases hR2 : flatFs g P l (off + L.length) with
     | none => rw [hR2] at hR; cases hR
     | some R2 =>
      rw [hR2] at hR
      simp only [Option.some.injEq] at hR
      subst hR
      have hfi : fs[i]? = some f := by
       have : (fs.toList.drop i)[0]? = some f := by rw [hl]; rfl
       simpa using this
      have hi : i < fs.size := (Array.getElem?_eq_some_iff.1 hfi).1
      have ht := hf i f hfi
      rw [List.getElem?_eq_getElem (by omega)] at ht
      obtain ⟨h1,h2⟩ := hg _ _ _ _ _ hgf ht
      rcases Nat.lt_or_ge j L.length with hjl | hjl
      ·rw [List.getElem?_append_left hjl] at hj
       obtain ⟨c,hc,hleaf⟩ := h2 j tl hj
       refine ⟨c,?_,hleaf⟩
       rw [List.getElem?_take] at hc
       split at hc
       ·rw [List.getElem?_drop,hoff] at hc; exact hc
       ·cases hc
      ·rw [List.getElem?_append_right hjl] at hj
       have := leaves_fs hg hx hf l (i + 1) (off + L.length) R2 (by rw [← List.drop_drop,hl]; rfl) hR2 (j - L.length) tl hj
       rw [show off + L.length + (j - L.length) = off + j by omega] at this
       exact this
    ·cases hR
  ·cases hR
theorem trod_leaves : ∀ (n : Nat) (t : TypeId) (L : List TypeId) (fuel : Nat) (cs : List Value) (x : DataW H × List MemPlace),flatT P n t = some L → DataW.trod enc P w base spare held fuel t cs = some x → Lvs enc P w base spare held L cs
 | 0,_,_,_,_,_,h,_ => by simp [flatT] at h
 | n + 1,t,L,fuel,cs,x,h,ht => by
  simp only [flatT] at h
  have one : ∀ c,cs = [c] → L = [t] → Lvs enc P w base spare held L cs := fun c h1 h2 => by
   subst h1; subst h2
   refine ⟨rfl,fun j tl hj => ?_⟩
   cases j with
   | zero => simp at hj; subst hj; exact ⟨c,rfl,fuel,x,ht⟩
   | succ j => simp at hj
  split at h <;> try (cases h; done)
  ·rename_i fs hu
   cases hR : flatFs (flatT P n) P fs.toList 0 with
   | none => rw [hR] at h; cases h
   | some R =>
    rw [hR] at h
    simp only at h
    split at h
    ·rename_i hcl
     simp only [Option.some.injEq] at h
     subst h
     obtain ⟨xs,m,_,_,hlen,hxs,hf⟩ := DataW.trod_struct hu ht
     refine ⟨by rw [hlen,hcl],fun j tl hj => ?_⟩
     have := leaves_fs (fun t L fuel ds y h1 h2 => trod_leaves n t L fuel ds y h1 h2) hxs hf fs.toList 0 0 R rfl hR j tl hj
     simpa using this
    ·cases h
  ·rename_i k hu
   obtain ⟨m,h1,_⟩ := DataW.trod_int hu ht
   simp only [Option.some.injEq] at h
   exact one _ h1 h.symm
  ·rename_i hu
   obtain ⟨m,h1,_⟩ := DataW.trod_bool hu ht
   simp only [Option.some.injEq] at h
   exact one _ h1 h.symm
  ·rename_i hu
   obtain ⟨m,h1,_⟩ := DataW.trod_string hu ht
   simp only [Option.some.injEq] at h
   exact one _ h1 h.symm
  ·rename_i e hu
   simp only [Option.some.injEq] at h
   rcases Go.Deep.open_slice hu ht with ⟨h1,_⟩ | ⟨a,len,cap,m,n',D,Pl,h1,_⟩
   ·exact one _ h1 h.symm
   ·exact one _ h1 h.symm
  ·rename_i m e hu
   split at h <;> try (cases h; done)
   rename_i k he
   split at h
   ·rename_i hc
    simp only [Option.some.injEq] at h
    subst h
    obtain ⟨xs,fu,_,_,hlen,hxl,hel⟩ := DataW.trod_array hu ht
    refine ⟨by rw [hlen,hc.2,List.length_replicate],fun j tl hj => ?_⟩
    rw [List.getElem?_replicate] at hj
    split at hj
    ·rename_i hjm
     cases hj
     have h1 := hel j hjm
     rw [hc.1,Nat.mul_one] at h1
     have hjl : j < cs.length := by rw [hlen,hc.2]; exact hjm
     have h3 : (cs.drop j).take 1 = [cs[j]] := by rw [List.drop_eq_getElem_cons hjl]; rfl
     have h2 : xs[j]? = some xs[j] := List.getElem?_eq_getElem (by omega)
     rw [h3,h2] at h1
     exact ⟨cs[j],List.getElem?_eq_getElem hjl,fu,_,h1⟩
    ·cases hj
   ·cases h
theorem Leaf.int {t : TypeId} {c : Value} (hu : P.underlying t = some (.int .i64)) (h : Leaf enc P w base spare held t c) : ∃ n,c = .int .i64 n ∧ In64 n := by
 obtain ⟨fuel,y,h⟩ := h
 obtain ⟨n,h1,_,hw⟩ := DataW.trod_int hu h
 refine ⟨n,by simpa using h1,?_⟩
 simpa [In64,Lit.wf,IntKind.min,IntKind.max,IntKind.signed,IntKind.bits] using hw
theorem open_leaf {t : TypeId} {v : Value} {d : DataW H} {p : List MemPlace} (hc : v.cells = #[v]) (h : DataW.Trod enc P w base spare held t v d p) : Leaf enc P w base spare held t v := by
 obtain ⟨fuel,hf⟩ := h
 rw [hc] at hf
 exact ⟨fuel,_,hf⟩
theorem Leaf.slice {α : Type} {f : α → List Value} {ok : α → Prop} {t e : TypeId} {L : List TypeId} {n : Nat} {c : Value} (hu : P.underlying t = some (.slice e)) (hL : flatT P n e = some L) (hC : P.cellsOf e = L.length) (hpos : 0 < L.length)
  (hdec : ∀ cs,Lvs enc P w base spare held L cs → ∃ a,cs = f a ∧ ok a) (h : Leaf enc P w base spare held t c) :
  ∃ l : List α,RdSl w.heap c l.length L.length (l.flatMap f) ∧ (∀ a ∈ l,ok a) ∧ l.length ≤ maxLen ∧ ∀ b ∈ ownB c,0 < l.length → b < w.heap.size := by
 obtain ⟨fuel,y,h⟩ := h
 rcases Go.Deep.open_slice hu h with ⟨h1,_⟩ | ⟨a,len,cap,m,n',D,Pl,h1,hb,hlc,hcm,hm,_,hi⟩
 ·simp only [List.cons.injEq,and_true] at h1
  subst h1
  exact ⟨[],⟨by simp,none,0,rfl,Nat.le_refl _,fun h => absurd h (by simp)⟩,by simp,by simp,by simp [ownB]⟩
 ·simp only [List.cons.injEq,and_true] at h1
  subst h1
  have hlm : len ≤ m := by rw [hm]; split <;> omega
  have hel : ∀ i,i < len → ∃ x,f x = (f x) ∧ ok x ∧ ∀ j u,(f x)[j]? = some u → w.cell? (a.add (i * L.length + j)) = some u := fun i hil => by
   obtain ⟨cs',hc,ht⟩ := hi i (by omega)
   have hlv := trod_leaves n e L n' cs' _ hL ht
   obtain ⟨x,hx,hok⟩ := hdec cs' hlv
   obtain ⟨_,hcl,hat⟩ := World.cells?_some hc
   refine ⟨x,rfl,hok,fun j u hu => ?_⟩
   have hjl : j < cs'.length := by rw [hx]; exact (List.getElem?_eq_some_iff.1 hu).1
   have := hat j (by omega)
   rw [Go.Deep.add_add,hC] at this
   rw [this,hx,hu]
  have hflen : ∀ i,i < len → ∃ x,ok x ∧ (f x).length = L.length ∧ ∀ j u,(f x)[j]? = some u → w.cell? (a.add (i * L.length + j)) = some u := fun i hil => by
   obtain ⟨cs',hc,ht⟩ := hi i (by omega)
   have hlv := trod_leaves n e L n' cs' _ hL ht
   obtain ⟨x,hx,hok⟩ := hdec cs' hlv
   obtain ⟨_,hcl,hat⟩ := World.cells?_some hc
   refine ⟨x,hok,by rw [← hx]; exact hlv.1,fun j u hu => ?_⟩
   have hjl : j < cs'.length := by rw [hx]; exact (List.getElem?_eq_some_iff.1 hu).1
   have := hat j (by omega)
   rw [Go.Deep.add_add,hC] at this
   rw [this,hx,hu]
  clear hel
  have key : ∀ k,k ≤ len → ∃ l : List α,l.length = k ∧ (∀ x ∈ l,ok x ∧ (f x).length = L.length) ∧ ∀ j u,(l.flatMap f)[j]? = some u → w.cell? (a.add j) = some u := by
   intro k
   induction k with
   | zero => intro _; exact ⟨[],rfl,by simp,by simp⟩
   | succ k ih =>
    intro hk
    obtain ⟨l,h1,h2,h3⟩ := ih (by omega)
    obtain ⟨x,hok,hlen,hc⟩ := hflen k (by omega)
    have hfl : (l.flatMap f).length = k * L.length := by
     clear h3
     subst h1
     induction l with
     | nil => simp
     | cons y l ih' =>
      simp only [List.flatMap_cons,List.length_append,List.length_cons,Nat.add_mul,Nat.one_mul]
      rw [(h2 y List.mem_cons_self).2]
      have : (l.flatMap f).length = l.length * L.length := by
       have : ∀ l : List α,(∀ x ∈ l,(f x).length = L.length) → (l.flatMap f).length = l.length * L.length := by
        intro l
        induction l with
        | nil => simp
        | cons z l ih'' => intro hz; simp only [List.flatMap_cons,List.length_append,List.length_cons,Nat.add_mul,Nat.one_mul]; rw [hz z List.mem_cons_self,ih'' (fun x hx => hz x (List.mem_cons_of_mem _ hx))]; omega
       exact this l (fun x hx => (h2 x (List.mem_cons_of_mem _ hx)).2)
      omega
    refine ⟨l ++ [x],by simp [h1],fun y hy => ?_,fun j u hj => ?_⟩
    ·rcases List.mem_append.1 hy with hy | hy
     ·exact h2 y hy
     ·simp at hy; subst hy; exact ⟨hok,hlen⟩
    ·simp only [List.flatMap_append,List.flatMap_cons,List.flatMap_nil,List.append_nil] at hj
     rcases Nat.lt_or_ge j (l.flatMap f).length with hjl | hjl
     ·rw [List.getElem?_append_left hjl] at hj; exact h3 j u hj
     ·rw [List.getElem?_append_right hjl,hfl] at hj
      have := hc (j - k * L.length) u hj
      rw [show k * L.length + (j - k * L.length) = j by omega] at this
      exact this
  obtain ⟨l,h1,h2,h3⟩ := key len (Nat.le_refl _)
  have hfl : (l.flatMap f).length = len * L.length := by
   have : ∀ l : List α,(∀ x ∈ l,(f x).length = L.length) → (l.flatMap f).length = l.length * L.length := by
    intro l
    induction l with
    | nil => simp
    | cons z l ih'' => intro hz; simp only [List.flatMap_cons,List.length_append,List.length_cons,Nat.add_mul,Nat.one_mul]; rw [hz z List.mem_cons_self,ih'' (fun x hx => hz x (List.mem_cons_of_mem _ hx))]; omega
   rw [this l (fun x hx => (h2 x hx).2),h1]
  subst h1
  have cell0 : 0 < l.length → ∃ b off arr T fz,a = ⟨b,off,none⟩ ∧ w.heap[b]? = some (.cells arr T fz) ∧ b < w.heap.size := fun h0 => by
   have hlt : 0 < (l.flatMap f).length := by rw [hfl]; exact Nat.mul_pos h0 hpos
   have hc := h3 0 _ (List.getElem?_eq_getElem hlt)
   have ha : a.add 0 = a := rfl
   rw [ha] at hc
   unfold World.cell? at hc
   cases hb : w.heap[a.block]? with
   | none => rw [hb] at hc; cases hc
   | some o =>
    rw [hb] at hc
    cases o <;> simp only [reduceCtorEq] at hc
    rename_i arr T fz
    split at hc
    ·cases hc
    ·rename_i hs
     refine ⟨a.block,a.off,arr,T,fz,?_,hb,(Array.getElem?_eq_some_iff.1 hb).1⟩
     cases a
     simp at hs
     simp [hs]
  refine ⟨l,⟨hfl,some a,cap,rfl,hlc,fun h0 => ?_⟩,fun x hx => (h2 x hx).1,by omega,fun b hb h0 => ?_⟩
  ·obtain ⟨b,off,arr,T,fz,rfl,hbk,_⟩ := cell0 h0
   refine ⟨b,off,arr,T,fz,rfl,hbk,fun j u hj => ?_⟩
   have := h3 j u hj
   rw [add_at] at this
   unfold World.cell? at this
   simpa [hbk] using this
  ·obtain ⟨b',off,arr,T,fz,rfl,hbk,hlt⟩ := cell0 h0
   simp [ownB] at hb
   omega
end
end Go.Proofs.YteajeenmojbjhaaGreatDoor.Fw
