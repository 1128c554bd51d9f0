/-
 What asks no memory: places, parts, lengths, conversions.
-/
import Derived.Test.YteajeenmojbjhaaGreatDoorP8
import Derived.Laws.Sem
import Derived.Laws.BytesString
namespace Go.Proofs.YteajeenmojbjhaaGreatDoor.Ev
open Go Fw
section
variable {P : Program} {σ : Sg} {fn : List Nat} {ns : Ns} {e f : List AV} {a : Act} {tt : Nat → Option TI} {x y v : AV}
theorem dn {k a : Nat} : den σ (.n k a) = some (.int (kd k) (.ofNat a)) := by simp only [den]
theorem dm {k a : Nat} : den σ (.m k a) = some (.int (kd k) (.negSucc a)) := by simp only [den]
theorem db {b : Bool} : den σ (.bool b) = some (.bool b) := by simp only [den]
theorem den_mkptr {b o : Nat} {g : Nat × Nat} (h : σ b = some g) : den σ (.ptr b o) = some (.pointer (some ⟨g.1,o,none⟩)) := by simp only [den,h]
theorem den_mksl {b o l c : Nat} {g : Nat × Nat} (h : σ b = some g) : den σ (.sl b o l c) = some (.slice (some ⟨g.1,o,none⟩) l c) := by simp only [den,h]
theorem x_fa {T i : Nat} {ox : Operand} {fs : List (Nat × Nat × Bool)} {off sz : Nat} {ag : Bool} {d : TypeDesc} (hd : P.underlying T = some d) (hk : KdOk P d (.st fs)) (hf : nthA i fs = some (off,sz,ag)) (hz : sz ≠ 0)
  (hv : evU (.fa off) x = some v) (hx : den σ x = some (a.eval ox)) : XOk P σ a (.fieldAddr T ox i) v := by
 obtain ⟨b,o,rfl,h⟩ := isP_some.1 hv
 rw [fN_eq] at h; cases h
 obtain ⟨g,hg,hX⟩ := den_ptr hx
 obtain ⟨F,rfl,_,hF⟩ := hk
 rw [nthA_eq] at hf
 obtain ⟨fl,ti,df,h1,h2,h3,h4,_,_⟩ := hF _ _ _ _ hf
 refine ⟨_,den_mkptr hg,fun dst ty ps af gg w => ?_⟩
 have hs := size_run h3 h4 w
 simp only [execOp,hX,Instr.fieldAt,Sem.run_bind,run_underlying hd,Result.andThen_ok,h1,Instr.sureAddr,Sem.run_pure,fieldPlace,hs,hz,if_false,add_at,h2]
 rfl
theorem x_iaA {T n sz : Nat} {ag : Bool} {ox oy : Operand} {d : TypeDesc} (hd : P.underlying T = some d) (hk : KdOk P d (.arr n sz ag)) (hv : evB (.iaA n sz) x y = some v) (hx : den σ x = some (a.eval ox)) (hy : den σ y = some (a.eval oy)) : XOk P σ a (.indexAddr T ox oy) v := by
 obtain ⟨b,o,rfl,h⟩ := isP_some.1 hv
 obtain ⟨k,i,rfl,h1⟩ := isN_some.1 h
 obtain ⟨h2,h3⟩ := gd_some.1 h1
 rw [blt_iff] at h2
 rw [fN_eq] at h3; cases h3
 obtain ⟨g,hg,hX⟩ := den_ptr hx
 have hY := den_n hy
 obtain ⟨el,ti,de,rfl,h5,h6,_,_⟩ := hk
 refine ⟨_,den_mkptr hg,fun dst ty ps af gg w => ?_⟩
 have hs := size_run h5 h6 w
 have hi : (0 : Int) ≤ (i : Int) ∧ (i : Int) < n := by omega
 simp [execOp,hX,hY,Instr.indexAt,asIntOf,run_underlying hd,Instr.sureAddr,hi,hs,add_at,h2]
theorem x_iaS {T sz eb el : Nat} {z : List AV} {u8 : Bool} {ox oy : Operand} {d : TypeDesc} (hd : P.underlying T = some d) (hk : KdOk P d (.slc el sz eb z u8)) (hv : evB (.iaS sz) x y = some v) (hx : den σ x = some (a.eval ox)) (hy : den σ y = some (a.eval oy)) : XOk P σ a (.indexAddr T ox oy) v := by
 obtain ⟨k,i,rfl,h⟩ := isN_some.1 hv
 have hY := den_n hy
 obtain ⟨rfl,⟨ti,_,h5,h6,_⟩,_⟩ := hk
 have hs := size_run (P := P) h5 h6
 rcases isL_some.1 h with ⟨rfl,h'⟩ | ⟨b,o,l,c,rfl,h'⟩ | ⟨b,o,l,c,rfl,h'⟩ | ⟨_,_,_,_,_,rfl,h'⟩
 ·cases h'
 ·obtain ⟨h2,h3⟩ := gd_some.1 h'
  rw [blt_iff] at h2
  rw [fN_eq] at h3; cases h3
  obtain ⟨g,hg,hX⟩ := den_sl hx
  refine ⟨_,den_mkptr hg,fun dst ty ps af gg w => ?_⟩
  have hi : (0 : Int) ≤ (i : Int) ∧ (i : Int) < l := by omega
  simp [execOp,hX,hY,Instr.indexAt,asIntOf,run_underlying hd,hi,hs w,add_at,h2]
 ·obtain ⟨h2,h3⟩ := gd_some.1 h'
  rw [blt_iff] at h2
  rw [fN_eq] at h3; cases h3
  obtain ⟨g,hg,_,hX⟩ := den_su hx
  refine ⟨_,den_mkptr hg,fun dst ty ps af gg w => ?_⟩
  have hi : (0 : Int) ≤ (i : Int) ∧ (i : Int) < l := by omega
  simp [execOp,hX,hY,Instr.indexAt,asIntOf,run_underlying hd,hi,hs w,add_at,h2]
 ·cases h'
theorem x_idS {T : Nat} {ox oy : Operand} {d : TypeDesc} (hd : P.underlying T = some d) (hk : KdOk P d .str) (hv : evB .idS x y = some v) (hx : den σ x = some (a.eval ox)) (hy : den σ y = some (a.eval oy)) : XOk P σ a (.index T ox oy) v := by
 obtain ⟨s,rfl,h⟩ := isS_some.1 hv
 obtain ⟨k,i,rfl,h1⟩ := isN_some.1 h
 obtain ⟨c,h2,h3⟩ := ob_some.1 h1
 rw [mkN_eq] at h3; cases h3
 obtain ⟨hX,ha⟩ := str_inv hx
 have hY := den_n hy
 have hk : d = .string := hk
 subst hk
 rw [nthA_eq] at h2
 have hlt : i < s.length := (List.getElem?_eq_some_iff.1 h2).1
 have hc : c < 256 := all_lt ha c (List.mem_of_getElem? h2)
 have hlt' : i < (strOf s).size := by rw [strOf_size]; exact hlt
 have hget : (strOf s)[i]? = some (UInt8.ofNat c) := by
  rw [getElem?_pos (strOf s) i hlt']
  show some ((strOf s).data[i]'hlt') = _
  have : s[i] = c := by rw [List.getElem?_eq_getElem hlt] at h2; exact Option.some.inj h2
  simp [strOf,this]
 refine ⟨.int .u8 (c : Nat),(dn (k := 4)),fun dst ty ps af gg w => ?_⟩
 have hi : (0 : Int) ≤ (i : Int) := by omega
 have hu : ((UInt8.ofNat c).toNat : Int) = c := by
  rw [UInt8.toNat_ofNat']; omega
 simp [execOp,hX,hY,Instr.index,asIntOf,run_underlying hd,hi,hget]
 omega
theorem x_idA {T n : Nat} {ox oy : Operand} {d : TypeDesc} (hd : P.underlying T = some d) (hk : KdOk P d (.arr n 1 false)) (hv : evB (.idA n) x y = some v) (hx : den σ x = some (a.eval ox)) (hy : den σ y = some (a.eval oy)) : XOk P σ a (.index T ox oy) v := by
 obtain ⟨s,rfl,h⟩ := isA_some.1 hv
 obtain ⟨k,i,rfl,h1⟩ := isN_some.1 h
 obtain ⟨h2,h3⟩ := gd_some.1 h1
 rw [blt_iff] at h2
 rw [nthA_eq] at h3
 obtain ⟨L,hL,hX⟩ := den_agg hx
 have hY := den_n hy
 obtain ⟨el,ti,de,rfl,h5,h6,h7,h8⟩ := hk
 obtain ⟨u,hu,hden⟩ := denL_get hL h3
 refine ⟨u,hden,fun dst ty ps af gg w => ?_⟩
 have hs := size_run h5 h6 w
 have hag := isAgg_run h7 w
 rw [h8] at hag
 have hi : (0 : Int) ≤ (i : Int) ∧ (i : Int) < n := by omega
 simp [execOp,hX,hY,Instr.index,asIntOf,run_underlying hd,hi,hs,part,hag,hu,h2]
theorem pick2_some {f g : Nat → Nat → Bool} {pm mp : Bool} (h : pick2 x y f g pm mp = some v) : ∃ k z1 z2,Num x k z1 ∧ Num y k z2 ∧
  ((∃ a b,z1 = .ofNat a ∧ z2 = .ofNat b ∧ v = bif2 (f a b) x y) ∨ (∃ a b,z1 = .ofNat a ∧ z2 = .negSucc b ∧ v = bif2 pm x y) ∨ (∃ a b,z1 = .negSucc a ∧ z2 = .ofNat b ∧ v = bif2 mp x y) ∨ (∃ a b,z1 = .negSucc a ∧ z2 = .negSucc b ∧ v = bif2 (g a b) x y)) := by
 unfold pick2 at h
 simp only [isI_some,gd_some,beq_iff,Option.some.injEq] at h
 rcases h with ⟨k1,a,rfl,⟨k2,b,rfl,rfl,h⟩ | ⟨k2,b,rfl,rfl,h⟩⟩ | ⟨k1,a,rfl,⟨k2,b,rfl,rfl,h⟩ | ⟨k2,b,rfl,rfl,h⟩⟩
 ·exact ⟨k1,_,_,.n a rfl rfl,.n b rfl rfl,.inl ⟨a,b,rfl,rfl,h.symm⟩⟩
 ·exact ⟨k1,_,_,.n a rfl rfl,.m b rfl rfl,.inr (.inl ⟨a,b,rfl,rfl,h.symm⟩)⟩
 ·exact ⟨k1,_,_,.m a rfl rfl,.n b rfl rfl,.inr (.inr (.inl ⟨a,b,rfl,rfl,h.symm⟩))⟩
 ·exact ⟨k1,_,_,.m a rfl rfl,.m b rfl rfl,.inr (.inr (.inr ⟨a,b,rfl,rfl,h.symm⟩))⟩
theorem x_max {ox oy : Operand} {tys : Array TypeId} (hv : evB .max x y = some v) (hx : den σ x = some (a.eval ox)) (hy : den σ y = some (a.eval oy)) : XOk P σ a (.call ⟨.builtin .max,⟨[ox,oy]⟩,tys⟩) v := by
 obtain ⟨k,z1,z2,n1,n2,h⟩ := pick2_some hv
 have key : v = bif2 (decide (z2 ≤ z1)) x y := by
  simp only [ble_dec] at h
  rcases h with ⟨p,q,rfl,rfl,h⟩ | ⟨p,q,rfl,rfl,h⟩ | ⟨p,q,rfl,rfl,h⟩ | ⟨p,q,rfl,rfl,h⟩
  ·have e : decide (Int.ofNat q ≤ Int.ofNat p) = decide (q ≤ p) := by rw [Bool.eq_iff_iff]; simp [Int.negSucc_eq] <;> omega
   rw [h,e]
  ·have e : decide (Int.negSucc q ≤ Int.ofNat p) = true := by rw [Bool.eq_iff_iff]; simp [Int.negSucc_eq] <;> omega
   rw [h,e]
  ·have e : decide (Int.ofNat q ≤ Int.negSucc p) = false := by rw [Bool.eq_iff_iff]; simp [Int.negSucc_eq] <;> omega
   rw [h,e]
  ·have e : decide (Int.negSucc q ≤ Int.negSucc p) = decide (p ≤ q) := by rw [Bool.eq_iff_iff]; simp [Int.negSucc_eq] <;> omega
   rw [h,e]
 have h1 := n1.val hx; have h2 := n2.val hy
 refine ⟨.int (kd k) (if z2 > z1 then z2 else z1),?_,fun dst ty ps af gg w => ?_⟩
 ·rw [key,bif2_if]
  by_cases hz : z2 ≤ z1
  ·rw [if_pos (by simpa using hz),if_neg (by omega),hx,h1]
  ·rw [if_neg (by simpa using hz),if_pos (by omega),hy,h2]
 ·simp [execOp,resolve,invoke,builtin,Builtin.max_,Builtin.max2,h1,h2]
theorem x_min {ox oy : Operand} {tys : Array TypeId} (hv : evB .min x y = some v) (hx : den σ x = some (a.eval ox)) (hy : den σ y = some (a.eval oy)) : XOk P σ a (.call ⟨.builtin .min,⟨[ox,oy]⟩,tys⟩) v := by
 obtain ⟨k,z1,z2,n1,n2,h⟩ := pick2_some hv
 have key : v = bif2 (decide (z1 ≤ z2)) x y := by
  simp only [ble_dec] at h
  rcases h with ⟨p,q,rfl,rfl,h⟩ | ⟨p,q,rfl,rfl,h⟩ | ⟨p,q,rfl,rfl,h⟩ | ⟨p,q,rfl,rfl,h⟩
  ·have e : decide (Int.ofNat p ≤ Int.ofNat q) = decide (p ≤ q) := by rw [Bool.eq_iff_iff]; simp [Int.negSucc_eq] <;> omega
   rw [h,e]
  ·have e : decide (Int.ofNat p ≤ Int.negSucc q) = false := by rw [Bool.eq_iff_iff]; simp [Int.negSucc_eq] <;> omega
   rw [h,e]
  ·have e : decide (Int.negSucc p ≤ Int.ofNat q) = true := by rw [Bool.eq_iff_iff]; simp [Int.negSucc_eq] <;> omega
   rw [h,e]
  ·have e : decide (Int.negSucc p ≤ Int.negSucc q) = decide (q ≤ p) := by rw [Bool.eq_iff_iff]; simp [Int.negSucc_eq] <;> omega
   rw [h,e]
 have h1 := n1.val hx; have h2 := n2.val hy
 refine ⟨.int (kd k) (if z2 < z1 then z2 else z1),?_,fun dst ty ps af gg w => ?_⟩
 ·rw [key,bif2_if]
  by_cases hz : z1 ≤ z2
  ·rw [if_pos (by simpa using hz),if_neg (by omega),hx,h1]
  ·rw [if_neg (by simpa using hz),if_pos (by omega),hy,h2]
 ·simp [execOp,resolve,invoke,builtin,Builtin.min_,Builtin.min2,h1,h2]
theorem x_nck {ox : Operand} (hv : evU .nck x = some v) (hx : den σ x = some (a.eval ox)) : XOk P σ a (.nilCheck ox) v := by
 obtain ⟨b,o,rfl,h⟩ := isP_some.1 hv
 cases h
 obtain ⟨g,hg,hX⟩ := den_ptr hx
 exact ⟨_,den_mkptr hg,fun dst ty ps af gg w => by simp [execOp,hX]⟩
theorem x_not {T : Nat} {ox : Operand} (hv : evU .not x = some v) (hx : den σ x = some (a.eval ox)) : XOk P σ a (.unOp .not T ox) v := by
 obtain ⟨b,rfl,h⟩ := isB_some.1 hv
 rw [mkB_eq] at h; cases h
 have hX := den_bool hx
 exact ⟨_,(by first | exact dn | exact dm | exact db),fun dst ty ps af gg w => by simp [execOp,hX,Op.unary,notB_eq]⟩
theorem x_neg {T k : Nat} {ox : Operand} (hv : evU (if ksig k then .negS k (2 ^ (kbits k - 1)) else .negU k (2 ^ kbits k)) x = some v) (hx : den σ x = some (a.eval ox)) : XOk P σ a (.unOp .neg T ox) v := by
 split at hv
 ·rename_i hk
  rcases isI_some.1 hv with ⟨k1,p,rfl,h⟩ | ⟨k1,p,rfl,h⟩
  ·obtain ⟨h1,h2⟩ := gd_some.1 h
   rw [beq_iff] at h1; subst h1
   obtain ⟨h3,h4,h5⟩ := diff_some h2
   have hX := den_n hx
   refine ⟨_,h3.den σ,fun dst ty ps af gg w => ?_⟩
   have := wrap_s hk h4 h5
   simp only [Int.ofNat_eq_natCast] at hX
   simp only [Int.ofNat_zero] at this
   simp only [execOp,hX,Op.unary,Op.intArith,Sem.run_bind,Sem.run_pure,Result.andThen_ok]
   rw [show (0 : Int) - (p : Int) = ((0 : Nat) : Int) - p by simp]
   rw [show ((0 : Nat) : Int) = 0 by rfl,this]
  ·obtain ⟨h1,h2⟩ := gd_some.1 h
   rw [beq_iff] at h1; subst h1
   obtain ⟨h3,rfl⟩ := mkNl_some.1 h2
   have h3' : p + 1 < 2 ^ (kbits k - 1) := h3
   have hX := den_m hx
   refine ⟨.int (kd k) (.ofNat (p + 1)),dn,fun dst ty ps af gg w => ?_⟩
   have : (kd k).wrap (0 - Int.negSucc p) = .ofNat (p + 1) := by
    rw [show (0 - Int.negSucc p) = ((p + 1 : Nat) : Int) by rw [Int.negSucc_eq]; omega]
    exact wrap_s hk (by omega) (by omega)
   simp only [execOp,hX,Op.unary,Op.intArith,Sem.run_bind,Sem.run_pure,Result.andThen_ok,this]
 ·rename_i hk
  have hk : ksig k = false := by simpa using hk
  obtain ⟨k1,p,rfl,h⟩ := isN_some.1 hv
  obtain ⟨h1,h2⟩ := gd_some.1 h
  rw [beq_iff] at h1; subst h1
  rw [mkN_eq] at h2; cases h2
  have hX := den_n hx
  refine ⟨_,(by first | exact dn | exact dm | exact db),fun dst ty ps af gg w => ?_⟩
  have hlt : p % 2 ^ kbits k < 2 ^ kbits k := Nat.mod_lt _ (Nat.two_pow_pos _)
  have := sub_u (P := P) (tx := 0) (a := 0) (b := p) hk w
  simp only [Go.binOp,ne_eq,not_true,if_false,Nat.zero_add] at this
  simp only [execOp,hX,Op.unary,Sem.run_bind]
  have this' : (Op.intArith .sub (kd k) 0 (Int.ofNat p)).run P w = .ok (.int (kd k) (.ofNat ((2 ^ kbits k - p % 2 ^ kbits k) % 2 ^ kbits k))) w := this
  rw [this']; rfl
theorem x_cvt {S T k k0 : Nat} {K K0 : IntKind} {ox : Operand} (hS : P.underlying S = some (.int K0)) (hT : P.underlying T = some (.int K)) (hK : kc K = k) (hv : evU (if ksig k then .cvS k (2 ^ kbits k) (2 ^ (kbits k - 1)) else .cvU k (2 ^ kbits k)) x = some v) (hx : den σ x = some (a.eval ox)) : XOk P σ a (.convert S T ox) v := by
 have hkd := kind_int hK
 have hp := kbits_pos k
 have run : ∀ (K1 : IntKind) (z : Int),a.eval ox = .int K1 z → ∀ (dst : Option Tmp) (ty : TypeId) (ps : String) (af : Array Edge) (g : Option (Nat × Bool)) (w : World),(execOp a.eval ⟨dst,.convert S T ox,ty,ps,af,g⟩).run P w = .ok (.value (.int (kd k) ((kd k).wrap z))) w := fun K1 z hX dst ty ps af g w => by
  rw [hkd]
  simp [execOp,hX,Go.convert,run_underlying hS,run_underlying hT,Conv.intToInt]
 have hneg : ∀ p : Nat,(Int.negSucc p) % ((2 ^ kbits k : Nat) : Int) = ((2 ^ kbits k - 1 - p % 2 ^ kbits k : Nat) : Int) := fun p => by
  have hlt : p % 2 ^ kbits k < 2 ^ kbits k := Nat.mod_lt _ (Nat.two_pow_pos _)
  have e := Nat.div_add_mod p (2 ^ kbits k)
  generalize 2 ^ kbits k = M at *
  have h1 : Int.negSucc p = ((M - 1 - p % M : Nat) : Int) + M * (-(1 + ((p / M : Nat) : Int))) := by
   have h3 : (p : Int) = M * ((p / M : Nat) : Int) + ((p % M : Nat) : Int) := by exact_mod_cast e.symm
   have h2 : ((M - 1 - p % M : Nat) : Int) = M - 1 - ((p % M : Nat) : Int) := by omega
   rw [Int.negSucc_eq,h2,Int.mul_neg,Int.mul_add,Int.mul_one]
   omega
  rw [h1,Int.add_mul_emod_self_left]
  exact Int.emod_eq_of_lt (by omega) (by omega)
 split at hv
 ·rename_i hk
  have e1 : (2 ^ kbits k : Int) = ((2 ^ kbits k : Nat) : Int) := by push_cast; rfl
  have e2 : (2 ^ (kbits k - 1) : Int) = ((2 ^ (kbits k - 1) : Nat) : Int) := by push_cast; rfl
  have e3 : 2 ^ kbits k = 2 * 2 ^ (kbits k - 1) := by
   rw [show kbits k = (kbits k - 1) + 1 by omega,Nat.pow_succ]; simp; omega
  have wr : ∀ (z : Int) (r : Nat),z % ((2 ^ kbits k : Nat) : Int) = r → (kd k).wrap z = if r < 2 ^ (kbits k - 1) then (r : Int) else (r : Int) - ((2 ^ kbits k : Nat) : Int) := fun z r h => by
   unfold IntKind.wrap
   rw [kd_sig,hk,kd_bits,e1,e2]
   simp only [h,Bool.true_and]
   by_cases hr : r < 2 ^ (kbits k - 1)
   ·rw [if_pos hr,if_neg (by simp only [decide_eq_true_eq]; omega)]
   ·rw [if_neg hr,if_pos (by simp only [decide_eq_true_eq]; omega)]
  rcases isI_some.1 hv with ⟨k1,p,rfl,h⟩ | ⟨k1,p,rfl,h⟩
  ·rw [fN_eq,bif2_if] at h
   have hr : p % 2 ^ kbits k < 2 ^ kbits k := Nat.mod_lt _ (Nat.two_pow_pos _)
   have hw := wr (Int.ofNat p) (p % 2 ^ kbits k) (by norm_cast)
   have h : (if Nat.blt (p % 2 ^ kbits k) (2 ^ (kbits k - 1)) = true then mkN k (p % 2 ^ kbits k) else mkM k (2 ^ kbits k - 1 - p % 2 ^ kbits k)) = some v := h
   generalize p % 2 ^ kbits k = r at *
   split at h
   ·rename_i hb
    rw [blt_iff] at hb
    rw [mkN_eq] at h; cases h
    exact ⟨_,(by first | exact dn | exact dm | exact db),fun dst ty ps af g w => by rw [run _ _ (den_n hx),hw,if_pos hb]; rfl⟩
   ·rename_i hb
    rw [blt_iff] at hb
    rw [mkM_eq] at h; cases h
    refine ⟨_,(by first | exact dn | exact dm | exact db),fun dst ty ps af g w => ?_⟩
    rw [run _ _ (den_n hx),hw,if_neg hb]
    congr 3
    rw [Int.negSucc_eq]; omega
  ·rw [fN_eq,bif2_if] at h
   have hr : p % 2 ^ kbits k < 2 ^ kbits k := Nat.mod_lt _ (Nat.two_pow_pos _)
   have hw := wr (Int.negSucc p) (2 ^ kbits k - 1 - p % 2 ^ kbits k) (hneg p)
   have h : (if Nat.blt (p % 2 ^ kbits k) (2 ^ (kbits k - 1)) = true then mkM k (p % 2 ^ kbits k) else mkN k (2 ^ kbits k - 1 - p % 2 ^ kbits k)) = some v := h
   generalize p % 2 ^ kbits k = r at *
   split at h
   ·rename_i hb
    rw [blt_iff] at hb
    rw [mkM_eq] at h; cases h
    refine ⟨_,(by first | exact dn | exact dm | exact db),fun dst ty ps af g w => ?_⟩
    rw [run _ _ (den_m hx),hw,if_neg (by omega)]
    congr 3
    rw [Int.negSucc_eq]; omega
   ·rename_i hb
    rw [blt_iff] at hb
    rw [mkN_eq] at h; cases h
    refine ⟨_,(by first | exact dn | exact dm | exact db),fun dst ty ps af g w => ?_⟩
    rw [run _ _ (den_m hx),hw,if_pos (by omega)]
    rfl
 ·rename_i hk
  have hk : ksig k = false := by simpa using hk
  have e1 : (2 ^ kbits k : Int) = ((2 ^ kbits k : Nat) : Int) := by push_cast; rfl
  rcases isI_some.1 hv with ⟨k1,p,rfl,h⟩ | ⟨k1,p,rfl,h⟩
  ·rw [mkN_eq] at h; cases h
   exact ⟨_,(by first | exact dn | exact dm | exact db),fun dst ty ps af g w => by rw [run _ _ (den_n hx),Int.ofNat_eq_natCast,wrap_un hk]; rfl⟩
  ·rw [mkN_eq] at h; cases h
   exact ⟨_,(by first | exact dn | exact dm | exact db),fun dst ty ps af g w => by rw [run _ _ (den_m hx),wrap_u hk,e1,hneg]; rfl⟩
theorem x_inv {T k : Nat} {ox : Operand} (hk : ksig k = false) (hv : evU (.inv k (2 ^ kbits k)) x = some v) (hx : den σ x = some (a.eval ox)) : XOk P σ a (.unOp .xor T ox) v := by
 obtain ⟨k1,p,rfl,h⟩ := isN_some.1 hv
 obtain ⟨h1,h2⟩ := gd_some.1 h
 rw [beq_iff] at h1; subst h1
 obtain ⟨h3,h4⟩ := gd_some.1 h2
 rw [blt_iff] at h3
 rw [mkN_eq] at h4; cases h4
 have hX := den_n hx
 refine ⟨_,(by first | exact dn | exact dm | exact db),fun dst ty ps af gg w => ?_⟩
 have hs : (kd k).signed = false := by rw [kd_sig,hk]
 have hmax : (kd k).max = ((2 ^ kbits k - 1 : Nat) : Int) := by
  unfold IntKind.max
  rw [hs,kd_bits]
  have := Nat.two_pow_pos (kbits k)
  simp
  have e1 : (2 ^ kbits k : Int) = ((2 ^ kbits k : Nat) : Int) := by push_cast; rfl
  rw [e1]; omega
 have hpos := Nat.two_pow_pos (kbits k)
 have key : (BitVec.ofInt (kd k).bits ((2 ^ kbits k - 1 : Nat) : Int) ^^^ BitVec.ofInt (kd k).bits (Int.ofNat p)).toNat = 2 ^ kbits k - 1 - p := by
  rw [BitVec.toNat_xor,Int.ofNat_eq_natCast,ofInt_n (by rw [kd_bits]; omega),ofInt_n (by rw [kd_bits]; exact h3)]
  rw [Nat.xor_comm]
  apply Nat.eq_of_testBit_eq
  intro i
  rw [Nat.testBit_xor,Nat.testBit_two_pow_sub_one,show 2 ^ kbits k - 1 - p = 2 ^ kbits k - (p + 1) by omega,Nat.testBit_two_pow_sub_succ h3]
  by_cases hi : i < kbits k
  ·simp [hi]
  ·have : p.testBit i = false := Nat.testBit_lt_two_pow (Nat.lt_of_lt_of_le h3 (Nat.pow_le_pow_right (by omega) (by omega)))
   simp [hi,this]
 have hw : (kd k).wrap ((2 ^ kbits k - 1 - p : Nat) : Int) = ((2 ^ kbits k - 1 - p : Nat) : Int) := wrap_n (by unfold lim; simp only [hk,Bool.false_eq_true,if_false]; omega)
 simp only [execOp,hX,Op.unary,hs,Bool.false_eq_true,if_false,hmax,Op.intBits,Sem.run_bind,Sem.run_pure,Result.andThen_ok,key]
 rw [hw]; rfl
end
end Go.Proofs.YteajeenmojbjhaaGreatDoor.Ev
namespace Go.Proofs.YteajeenmojbjhaaGreatDoor.Ev
open Go Fw
section
variable {P : Program} {σ : Sg} {fn : List Nat} {ns : Ns} {e f : List AV} {a : Act} {tt : Nat → Option TI} {x y v : AV}
def Bd (a : Act) (l : Option Operand) (d n : Nat) : Prop := (l = none ∧ n = d) ∨ ∃ x K,l = some x ∧ a.eval x = .int K (n : Nat)
theorem evOd_run (hO : OpR σ fn ns e f a) {l : Option Operand} {o : Option O} {d : Nat} {k : Nat → Option AV} {r : AV} (hc : cOo fn ns l = some o) (h : evOd o d e f k = some r) : ∃ n,k n = some r ∧ Bd a l d n ∧ (l = none ↔ o = none) := by
 cases l with
 | none =>
  simp only [cOo,Option.some.injEq] at hc
  subst hc
  exact ⟨d,h,.inl ⟨rfl,rfl⟩,by simp⟩
 | some x =>
  simp only [cOo] at hc
  cases ho : cO fn ns x with
  | none => simp [ho] at hc
  | some o' =>
   simp only [ho,Option.map_some,Option.some.injEq] at hc
   subst hc
   have h : ob (evO o' e f) (fun v => isN v fun _ a => k a) = some r := h
   obtain ⟨v,h1,h2⟩ := ob_some.1 h
   obtain ⟨K,n,rfl,h3⟩ := isN_some.1 h2
   exact ⟨n,h3,.inr ⟨x,kd K,rfl,den_n (hO _ _ _ ho h1)⟩,by simp⟩
theorem bound_run {K : IntKind} {i y : Nat} {c : BoundsCode} (h : i ≤ y) (w : World) : (Instr.sliceBound (.int K (i : Nat)) y c).run P w = .ok i w := by
 have : (0 : Int) ≤ (i : Int) ∧ (i : Int) ≤ y := by omega
 simp [Instr.sliceBound,asIntOf,this,h]
theorem bounds_run {s : Bool} {len cap l h m : Nat} {lo hi mx : Option Operand} (hm : Bd a mx cap m) (hh : Bd a hi len h) (hl : Bd a lo 0 l) (h1 : m ≤ cap) (h2 : h ≤ m) (h3 : l ≤ h) (h4 : hi = none → mx = none) (w : World) :
  (Instr.sliceBounds s len cap (lo.map a.eval) (hi.map a.eval) (mx.map a.eval)).run P w = .ok (l,h,m) w := by
 unfold Instr.sliceBounds
 rcases hm with ⟨rfl,rfl⟩ | ⟨x,K,rfl,hx⟩
 ·rcases hh with ⟨rfl,rfl⟩ | ⟨y,K',rfl,hy⟩
  ·rcases hl with ⟨rfl,rfl⟩ | ⟨z,K'',rfl,hz⟩
   ·simp
   ·simp [hz,bound_run h3]
  ·rcases hl with ⟨rfl,rfl⟩ | ⟨z,K'',rfl,hz⟩
   ·simp [hy,bound_run h2]
   ·simp [hy,hz,bound_run h2,bound_run h3]
 ·rcases hh with ⟨rfl,rfl⟩ | ⟨y,K',rfl,hy⟩
  ·cases h4 rfl
  ·rcases hl with ⟨rfl,rfl⟩ | ⟨z,K'',rfl,hz⟩
   ·simp [hx,hy,bound_run h1,bound_run h2]
   ·simp [hx,hy,hz,bound_run h1,bound_run h2,bound_run h3]
theorem strOf_extract {s : List Nat} {l h : Nat} : (strOf s).extract l h = strOf ((s.drop l).take (h - l)) := by
 apply ByteArray.ext
 simp only [ByteArray.data_extract,strOf]
 apply Array.toList_inj.1
 simp [Array.toList_extract,List.extract_eq_take_drop,List.map_take,List.map_drop]
theorem x_sls (hO : OpR σ fn ns e f a) {T : Nat} {ox : Operand} {lo hi : Option Operand} {ol oh : Option O} {o : O} {d : TypeDesc} (hd : P.underlying T = some d) (hk : KdOk P d .str) (hx : cO fn ns ox = some o) (hl : cOo fn ns lo = some ol) (hh : cOo fn ns hi = some oh)
  (hv : evX (.sls o ol oh) e f = some v) : XOk P σ a (.slice T ox lo hi none) v := by
 have hv : (ob (evO o e f) fun x => isS x fun s => fN (len2 s) fun len => evOd oh len e f fun h => evOd ol 0 e f fun l => gd (Nat.ble h len) (gd (Nat.ble l h) (ob (dropA l s) fun r => ob (takeA (Nat.sub h l) r) fun r => some (.str r)))) = some v := hv
 obtain ⟨x,h1,h2⟩ := ob_some.1 hv
 obtain ⟨s,rfl,h3⟩ := isS_some.1 h2
 rw [fN_eq,len2_eq] at h3
 obtain ⟨h,h4,bh,_⟩ := evOd_run hO hh h3
 obtain ⟨l,h5,bl,_⟩ := evOd_run hO hl h4
 obtain ⟨h6,h7⟩ := gd_some.1 h5
 obtain ⟨h8,h9⟩ := gd_some.1 h7
 rw [ble_iff] at h6 h8
 obtain ⟨r,h10,h11⟩ := ob_some.1 h9
 obtain ⟨r',h12,h13⟩ := ob_some.1 h11
 obtain ⟨_,rfl⟩ := dropA_eq _ _ h10
 obtain ⟨_,rfl⟩ := takeA_eq _ _ h12
 cases h13
 obtain ⟨hX,ha⟩ := str_inv (hO _ _ _ hx h1)
 have hk : d = .string := hk
 subst hk
 refine ⟨_,den_str (List.all_eq_true.2 fun c hc => List.all_eq_true.1 ha c (List.mem_of_mem_drop (List.mem_of_mem_take hc))),fun dst ty ps af g w => ?_⟩
 have hb := bounds_run (P := P) (s := false) (cap := s.length) (m := s.length) (mx := none) (.inl ⟨rfl,rfl⟩) bh bl (Nat.le_refl _) h6 h8 (fun _ => rfl) w
 simp only [Option.map_none] at hb
 simp only [execOp,hX,Instr.sliceAt,Sem.run_bind,run_underlying hd,Result.andThen_ok,Instr.slice,Option.map_none,Option.isSome_none,Bool.false_eq_true,if_false,Sem.run_pure,strOf_size,hb,strOf_extract]
 rfl
theorem add_some (b o k : Nat) : (some (⟨b,o,none⟩ : Addr)).map (·.add k) = some ⟨b,o + k,none⟩ := by simp [add_at]
theorem x_sla (hO : OpR σ fn ns e f a) {T n sz : Nat} {ag : Bool} {ox : Operand} {lo hi mx : Option Operand} {ol oh om : Option O} {o : O} {d : TypeDesc} (hd : P.underlying T = some d) (hk : KdOk P d (.arr n sz ag)) (hx : cO fn ns ox = some o) (hl : cOo fn ns lo = some ol) (hh : cOo fn ns hi = some oh) (hm : cOo fn ns mx = some om)
  (hn : oh = none → om = none) (hv : evX (.sla n sz o ol oh om) e f = some v) : XOk P σ a (.slice T ox lo hi mx) v := by
 have hv : (ob (evO o e f) fun x => isP x fun b off => evOd om n e f fun m => evOd oh n e f fun h => evOd ol 0 e f fun l => gd (Nat.ble m n) (gd (Nat.ble h m) (gd (Nat.ble l h)
    (fN (Nat.add off (bif2 (Nat.beq m l) 0 (Nat.mul l sz))) fun off' => fN (Nat.sub h l) fun n => fN (Nat.sub m l) fun c => some (.sl b off' n c))))) = some v := hv
 obtain ⟨x,h1,h2⟩ := ob_some.1 hv
 obtain ⟨b,off,rfl,h3⟩ := isP_some.1 h2
 obtain ⟨m,h4,bm,im⟩ := evOd_run hO hm h3
 obtain ⟨h,h5,bh,ih⟩ := evOd_run hO hh h4
 obtain ⟨l,h6,bl,_⟩ := evOd_run hO hl h5
 obtain ⟨h7,h8⟩ := gd_some.1 h6
 obtain ⟨h9,h10⟩ := gd_some.1 h8
 obtain ⟨h11,h12⟩ := gd_some.1 h10
 rw [ble_iff] at h7 h9 h11
 rw [fN_eq,fN_eq,fN_eq] at h12
 cases h12
 obtain ⟨g,hg,hX⟩ := den_ptr (hO _ _ _ hx h1)
 obtain ⟨el,ti,de,rfl,h13,h14,_,_⟩ := hk
 refine ⟨_,den_mksl hg,fun dst ty ps af gg w => ?_⟩
 have hb := bounds_run (P := P) (s := false) bm bh bl h7 h9 h11 (fun e => im.2 (hn (ih.1 e))) w
 have hs := size_run h13 h14 w
 simp only [execOp,hX,Instr.sliceAt,Sem.run_bind,run_underlying hd,Result.andThen_ok,Instr.sureAddr,Sem.run_pure,hb,hs]
 rw [bif2_if]
 by_cases hml : m = l
 ·rw [if_pos hml,if_pos (beq_iff.2 hml)]; rfl
 ·rw [if_neg hml,if_neg (fun hh => hml (beq_iff.1 hh)),add_at]; rfl
theorem x_sll (hO : OpR σ fn ns e f a) {T sz eb el : Nat} {z : List AV} {u8 : Bool} {ox : Operand} {lo hi mx : Option Operand} {ol oh om : Option O} {o : O} {d : TypeDesc} (hd : P.underlying T = some d) (hk : KdOk P d (.slc el sz eb z u8)) (hx : cO fn ns ox = some o) (hl : cOo fn ns lo = some ol) (hh : cOo fn ns hi = some oh) (hm : cOo fn ns mx = some om)
  (hn : oh = none → om = none) (hv : evX (.sll sz o ol oh om) e f = some v) : XOk P σ a (.slice T ox lo hi mx) v := by
 obtain ⟨rfl,⟨ti,_,h13,h14,_⟩,_⟩ := hk
 have hs := size_run (P := P) h13 h14
 have run : ∀ (A : Option Addr) (len cap l h m : Nat),a.eval ox = .slice A len cap → Bd a mx cap m → Bd a hi len h → Bd a lo 0 l → m ≤ cap → h ≤ m → l ≤ h → ∀ (dst : Option Tmp) (ty : TypeId) (ps : String) (af : Array Edge) (g : Option (Nat × Bool)) (w : World),
   (execOp a.eval ⟨dst,.slice T ox lo hi mx,ty,ps,af,g⟩).run P w = .ok (.value (.slice (if m = l then A else A.map (·.add (l * sz))) (h - l) (m - l))) w := fun A len cap l h m hX bm bh bl h1 h2 h3 dst ty ps af g w => by
  have hb := bounds_run (P := P) (s := true) bm bh bl h1 h2 h3 (fun e => by
   rcases bm with ⟨rfl,_⟩ | ⟨x,K,rfl,_⟩
   ·rfl
   ·exfalso
    cases hi with
    | some _ => cases e
    | none =>
     simp only [cOo,Option.some.injEq] at hh
     simp only [cOo,Option.map_eq_some_iff] at hm
     obtain ⟨o',_,rfl⟩ := hm
     exact absurd (hn hh.symm) (by simp)) w
  simp only [execOp,hX,Instr.sliceAt,Sem.run_bind,run_underlying hd,Result.andThen_ok,Instr.slice,hb,hs w,Sem.run_pure]
 have hv : (ob (evO o e f) fun x => isL x _ _ _ _) = some v := hv
 obtain ⟨x,h1,h2⟩ := ob_some.1 hv
 have hX0 := hO _ _ _ hx h1
 rcases isL_some.1 h2 with ⟨rfl,h3⟩ | ⟨b,off,len,cap,rfl,h3⟩ | ⟨b,off,len,dd,rfl,h3⟩ | ⟨b,off,dd,p,zz,rfl,h3⟩
 ·obtain ⟨m,h4,bm,im⟩ := evOd_run hO hm h3
  obtain ⟨h,h5,bh,ih⟩ := evOd_run hO hh h4
  obtain ⟨l,h6,bl,_⟩ := evOd_run hO hl h5
  obtain ⟨h7,h8⟩ := gd_some.1 h6
  obtain ⟨h9,h10⟩ := gd_some.1 h8
  obtain ⟨h11,h12⟩ := gd_some.1 h10
  rw [ble_iff] at h7 h9 h11
  cases h12
  have hX := den_nils hX0
  refine ⟨.slice none 0 0,by simp only [den],fun dst ty ps af gg w => ?_⟩
  rw [run _ _ _ l h m hX bm bh bl h7 h9 h11]
  have : m = 0 := by omega
  have : l = 0 := by omega
  have : h = 0 := by omega
  subst_vars
  rfl
 ·obtain ⟨m,h4,bm,im⟩ := evOd_run hO hm h3
  obtain ⟨h,h5,bh,ih⟩ := evOd_run hO hh h4
  obtain ⟨l,h6,bl,_⟩ := evOd_run hO hl h5
  obtain ⟨h7,h8⟩ := gd_some.1 h6
  obtain ⟨h9,h10⟩ := gd_some.1 h8
  obtain ⟨h11,h12⟩ := gd_some.1 h10
  rw [ble_iff] at h7 h9 h11
  rw [fN_eq,fN_eq,fN_eq] at h12
  cases h12
  obtain ⟨g,hg,hX⟩ := den_sl hX0
  refine ⟨_,den_mksl hg,fun dst ty ps af gg w => ?_⟩
  rw [run _ _ _ l h m hX bm bh bl h7 h9 h11,bif2_if]
  by_cases hml : m = l
  ·rw [if_pos hml,if_pos (beq_iff.2 hml)]; rfl
  ·rw [if_neg hml,if_neg (fun hh => hml (beq_iff.1 hh)),add_some]; rfl
 ·obtain ⟨g,hg,hle,hX⟩ := den_su hX0
  cases om with
  | none =>
   have hmx : mx = none := by
    cases mx with
    | none => rfl
    | some _ => simp only [cOo,Option.map_eq_some_iff] at hm; obtain ⟨_,_,h⟩ := hm; cases h
   subst hmx
   have h3 : (evOd oh len e f fun h => evOd ol 0 e f fun l => gd (Nat.ble h len) (gd (Nat.ble l h) (bif2 (Nat.blt l len)
     (fN (Nat.add off (Nat.mul l sz)) fun off' => fN (Nat.sub h l) fun n => fN (Nat.add dd l) fun d' => some (.su b off' n d'))
     (fN (Nat.mul l sz) fun p => fN (Nat.add dd l) fun d' => some (.emp b off d' p false))))) = some v := h3
   obtain ⟨h,h5,bh,ih⟩ := evOd_run hO hh h3
   obtain ⟨l,h6,bl,_⟩ := evOd_run hO hl h5
   obtain ⟨h7,h8⟩ := gd_some.1 h6
   obtain ⟨h9,h10⟩ := gd_some.1 h8
   rw [ble_iff] at h7 h9
   rw [bif2_if] at h10
   have hr := run _ _ _ l h (g.2 - dd) hX (.inl ⟨rfl,rfl⟩) bh bl (Nat.le_refl _) (by omega) h9
   split at h10
   ·rename_i hlt
    rw [blt_iff] at hlt
    rw [fN_eq,fN_eq,fN_eq] at h10
    cases h10
    have e1 : Nat.sub h l = h - l := rfl
    have e2 : Nat.add dd l = dd + l := rfl
    have e3 : Nat.add off (Nat.mul l sz) = off + l * sz := rfl
    rw [e1,e2,e3]
    refine ⟨.slice (some ⟨g.1,off + l * sz,none⟩) (h - l) (g.2 - (dd + l)),by simp only [den,hg]; rw [if_pos (by omega)],fun dst ty ps af gg w => ?_⟩
    rw [hr,if_neg (by omega),add_some,show g.2 - dd - l = g.2 - (dd + l) by omega]
   ·rename_i hlt
    rw [blt_iff] at hlt
    rw [fN_eq,fN_eq] at h10
    cases h10
    have hl2 : l = h := by omega
    have hl3 : len = h := by omega
    subst hl2
    subst hl3
    have e2 : ∀ q,Nat.add dd q = dd + q := fun _ => rfl
    have e3 : ∀ q,Nat.mul q sz = q * sz := fun _ => rfl
    rw [e2,e3]
    refine ⟨.slice (some ⟨g.1,if g.2 = dd + _ then off else off + _ * sz,none⟩) 0 (g.2 - (dd + _)),by simp only [den,hg]; rw [if_pos (by omega)]; simp only [Bool.false_eq_true,if_false]; rfl,fun dst ty ps af gg w => ?_⟩
    rw [hr,Nat.sub_sub]
    by_cases hc : g.2 = dd + len
    ·rw [if_pos (by omega),if_pos hc,Nat.sub_self]
    ·rw [if_neg (by omega),if_neg hc,add_some,Nat.sub_self]
  | some o' =>
   have h3 : (ob (evO o' e f) fun v => isN v fun _ m => evOd oh len e f fun h => evOd ol 0 e f fun l => gd (Nat.ble m len) (gd (Nat.ble h m) (gd (Nat.ble l h)
     (fN (Nat.add off (bif2 (Nat.beq m l) 0 (Nat.mul l sz))) fun off' => fN (Nat.sub h l) fun n => fN (Nat.sub m l) fun c => some (.sl b off' n c))))) = some v := h3
   have h3' : evOd (some o') 0 e f (fun m => evOd oh len e f fun h => evOd ol 0 e f fun l => gd (Nat.ble m len) (gd (Nat.ble h m) (gd (Nat.ble l h)
     (fN (Nat.add off (bif2 (Nat.beq m l) 0 (Nat.mul l sz))) fun off' => fN (Nat.sub h l) fun n => fN (Nat.sub m l) fun c => some (.sl b off' n c))))) = some v := h3
   obtain ⟨m,h4,bm0,im⟩ := evOd_run hO hm h3'
   have bm : Bd a mx (g.2 - dd) m := by
    rcases bm0 with ⟨e,_⟩ | h
    ·exact absurd (im.1 e) (by simp)
    ·exact .inr h
   obtain ⟨h,h5,bh,ih⟩ := evOd_run hO hh h4
   obtain ⟨l,h6,bl,_⟩ := evOd_run hO hl h5
   obtain ⟨h7,h8⟩ := gd_some.1 h6
   obtain ⟨h9,h10⟩ := gd_some.1 h8
   obtain ⟨h11,h12⟩ := gd_some.1 h10
   rw [ble_iff] at h7 h9 h11
   rw [fN_eq,fN_eq,fN_eq] at h12
   cases h12
   refine ⟨_,den_mksl hg,fun dst ty ps af gg w => ?_⟩
   rw [run _ _ _ l h m hX bm bh bl (by omega) h9 h11,bif2_if]
   by_cases hml : m = l
   ·rw [if_pos hml,if_pos (beq_iff.2 hml)]; rfl
   ·rw [if_neg hml,if_neg (fun hh => hml (beq_iff.1 hh)),add_some]; rfl
 ·obtain ⟨g,hg,hle,hX⟩ := den_emp hX0
  cases om with
  | none => cases h3
  | some o' =>
   have h3' : evOd (some o') 0 e f (fun m => evOd oh 0 e f fun h => evOd ol 0 e f fun l => gd (Nat.ble m 0) (gd (Nat.ble h m) (gd (Nat.ble l h) (some (.emp b off dd p true))))) = some v := h3
   obtain ⟨m,h4,bm0,im⟩ := evOd_run hO hm h3'
   have bm : Bd a mx (if zz then 0 else g.2 - dd) m := by
    rcases bm0 with ⟨e,_⟩ | h
    ·exact absurd (im.1 e) (by simp)
    ·exact .inr h
   obtain ⟨h,h5,bh,ih⟩ := evOd_run hO hh h4
   obtain ⟨l,h6,bl,_⟩ := evOd_run hO hl h5
   obtain ⟨h7,h8⟩ := gd_some.1 h6
   obtain ⟨h9,h10⟩ := gd_some.1 h8
   obtain ⟨h11,h12⟩ := gd_some.1 h10
   rw [ble_iff] at h7 h9 h11
   cases h12
   have : m = 0 := by omega
   have : h = 0 := by omega
   have : l = 0 := by omega
   subst_vars
   refine ⟨.slice (some ⟨g.1,if g.2 = dd then off else off + p,none⟩) 0 0,by simp only [den,hg]; rw [if_pos hle]; simp,fun dst ty ps af gg w => ?_⟩
   rw [run _ _ _ 0 0 0 hX bm bh bl (by omega) (Nat.le_refl _) (Nat.le_refl _),if_pos rfl]
end
end Go.Proofs.YteajeenmojbjhaaGreatDoor.Ev
namespace Go.Proofs.YteajeenmojbjhaaGreatDoor.Ev
open Go Fw
section
variable {P : Program} {σ : Sg} {fn : List Nat} {ns : Ns} {e f : List AV} {a : Act} {tt : Nat → Option TI} {x y v : AV}
theorem cells_den : ∀ {v : AV} {X : Value},den σ v = some X → denL σ (cellsA v) = some X.cells.toList
 | .agg l,X,h => by obtain ⟨L,h1,rfl⟩ := den_agg h; simpa [cellsA,Value.cells] using h1
 | .undef,X,h => by have e := h; simp only [den,Option.some.injEq] at e; subst e; exact denL_cons h denL_nil
 | .bool b,X,h => by have e := h; simp only [den,Option.some.injEq] at e; subst e; exact denL_cons h denL_nil
 | .n k a,X,h => by have e := h; simp only [den,Option.some.injEq] at e; subst e; exact denL_cons h denL_nil
 | .m k a,X,h => by have e := h; simp only [den,Option.some.injEq] at e; subst e; exact denL_cons h denL_nil
 | .str s,X,h => by obtain ⟨rfl,_⟩ := str_inv h; exact denL_cons h denL_nil
 | .nilp,X,h => by have e := h; simp only [den,Option.some.injEq] at e; subst e; exact denL_cons h denL_nil
 | .ptr b o,X,h => by obtain ⟨g,_,rfl⟩ := den_ptr h; exact denL_cons h denL_nil
 | .nils,X,h => by have e := h; simp only [den,Option.some.injEq] at e; subst e; exact denL_cons h denL_nil
 | .sl b o l c,X,h => by obtain ⟨g,_,rfl⟩ := den_sl h; exact denL_cons h denL_nil
 | .su b o l c,X,h => by obtain ⟨g,_,_,rfl⟩ := den_su h; exact denL_cons h denL_nil
 | .emp b o l c z,X,h => by obtain ⟨g,_,_,rfl⟩ := den_emp h; exact denL_cons h denL_nil
 | .fn g a b,X,h => by obtain ⟨A,B,_,_,rfl⟩ := den_fn h; exact denL_cons h denL_nil
 | .nilf,X,h => by have e := h; simp only [den,Option.some.injEq] at e; subst e; exact denL_cons h denL_nil
 | .ifc t u,X,h => by obtain ⟨U,_,rfl⟩ := den_ifc h; exact denL_cons h denL_nil
 | .nili,X,h => by have e := h; simp only [den,Option.some.injEq] at e; subst e; exact denL_cons h denL_nil
 | .tup l,X,h => by obtain ⟨L,_,rfl⟩ := den_tup h; exact denL_cons h denL_nil
theorem setCells_over (arr : Array Value) (off : Nat) (vs : List Value) (h : off + vs.length ≤ arr.size) : setCells arr off vs = (over arr.toList off vs).toArray := by
 apply Array.ext_getElem?
 intro i
 rw [setCells_get]
 unfold over
 simp only [List.getElem?_toArray]
 by_cases h1 : off ≤ i ∧ i < off + vs.length ∧ i < arr.size
 ·rw [if_pos h1,List.append_assoc,List.getElem?_append_right (by simp; omega),List.getElem?_append_left (by simp; omega)]
  simp only [List.length_take,Array.length_toList]
  rw [Nat.min_eq_left (by omega)]
 ·rw [if_neg h1]
  rcases Nat.lt_or_ge i off with h2 | h2
  ·rw [List.append_assoc,List.getElem?_append_left (by simp; omega),List.getElem?_take_of_lt h2]; simp
  ·rcases Nat.lt_or_ge i arr.size with h3 | h3
   ·rw [List.getElem?_append_right (by simp; omega),List.getElem?_drop]
    simp only [List.length_append,List.length_take,Array.length_toList]
    rw [show off + vs.length + (i - (min off arr.size + vs.length)) = i by omega]; simp
   ·rw [List.getElem?_append_right (by simp; omega),List.getElem?_drop]
    simp only [List.length_append,List.length_take,Array.length_toList]
    rw [show off + vs.length + (i - (min off arr.size + vs.length)) = i by omega]; simp
theorem fold_set (off : Nat) : ∀ (vs : List Value) (k : Nat) (cs : Array Value),(vs.zipIdx k).foldl (fun cs p => cs.setIfInBounds (off + p.2) p.1) cs = setCells cs (off + k) vs
 | [],_,_ => rfl
 | v :: vs,k,cs => by
  simp only [List.zipIdx_cons,List.foldl_cons,setCells]
  rw [fold_set off vs (k + 1) _]; rfl
theorem fill_cons {place : Nat → Option (Nat × Nat)} {cells : Array Value} {i off sz : Nat} {v : Value} {rest : List (Nat × Value)} (hp : place i = some (off,sz)) (hs : v.cells.size = sz) (hl : off + sz ≤ cells.size) :
  Instr.fill place cells ((i,v) :: rest) = Instr.fill place (over cells.toList off v.cells.toList).toArray rest := by
 have h2 : ¬ (off + v.cells.size > cells.size) := by omega
 have : (v.cells.zipIdx.foldl (fun cs (c,j) => cs.setIfInBounds (off + j) c) cells) = (over cells.toList off v.cells.toList).toArray := by
  rw [← Array.foldl_toList,Array.toList_zipIdx]
  have := fold_set off v.cells.toList 0 cells
  rw [Nat.add_zero,setCells_over _ _ _ (by simp; omega)] at this
  exact this
 simp only [Instr.fill,hp,hs,ne_eq,not_true,decide_false,Bool.false_or,this]
 rw [if_neg (by simp; omega)]
theorem fill_run (hO : OpR σ fn ns e f a) {place : Nat → Option (Nat × Nat)} {prt : List (Nat × Operand) → Option (List (Nat × Nat × O))}
  (hnil : prt [] = some []) (hcons : ∀ i x l q,prt ((i,x) :: l) = some q → ∃ off sz o r,q = (off,sz,o) :: r ∧ place i = some (off,sz) ∧ cO fn ns x = some o ∧ prt l = some r) :
  ∀ (ps : List (Nat × Operand)) (qs : List (Nat × Nat × O)) (z r : List AV) (Z : List Value),prt ps = some qs → fillA qs e f z = some r → denL σ z = some Z → ∃ R,denL σ r = some R ∧ Instr.fill place Z.toArray (ps.map fun p => (p.1,a.eval p.2)) = some R.toArray
 | [],qs,z,r,Z,h1,h2,h3 => by
  rw [hnil] at h1; cases h1
  have h2 : some z = some r := h2
  cases h2
  exact ⟨Z,h3,rfl⟩
 | (i,x) :: ps,qs,z,r,Z,h1,h2,h3 => by
  obtain ⟨off,sz,o,rest,rfl,hp,ho,hr⟩ := hcons i x ps qs h1
  have h2 : (ob (evO o e f) fun v => gd (Nat.beq (len2 (cellsA v)) sz) (ob (overA off (cellsA v) z) fun z' => fillA rest e f z')) = some r := h2
  obtain ⟨v,h4,h5⟩ := ob_some.1 h2
  obtain ⟨h6,h7⟩ := gd_some.1 h5
  obtain ⟨z',h8,h9⟩ := ob_some.1 h7
  rw [beq_iff,len2_eq] at h6
  obtain ⟨hle,rfl⟩ := overA_eq _ _ _ h8
  have hX := hO _ _ _ ho h4
  have hc := cells_den hX
  have hcl := denL_length hc
  have hZ := denL_length h3
  obtain ⟨R,hR,hf⟩ := fill_run hO hnil hcons ps rest _ r _ hr h9 (denL_over h3 hc)
  refine ⟨R,hR,?_⟩
  rw [List.map_cons,fill_cons hp (by rw [← Array.length_toList,hcl]; exact h6) (by simp; omega)]
  exact hf
theorem mapM_run {α β : Type} {g : α → Sem β} {h : α → β} {w : World} : ∀ (l : List α),(∀ x ∈ l,(g x).run P w = .ok (h x) w) → (l.mapM g).run P w = .ok (l.map h) w
 | [],_ => by simp
 | x :: l,hh => by
  rw [List.mapM_cons]
  simp only [Sem.run_bind,hh x List.mem_cons_self,Result.andThen_ok,mapM_run l fun y hy => hh y (List.mem_cons_of_mem _ hy),Sem.run_pure,List.map_cons]
theorem x_bldS (hO : OpR σ fn ns e f a) {T : Nat} {ti : TI} {fs : List (Nat × Nat × Bool)} {ps : Array (Nat × Operand)} {qs : List (Nat × Nat × O)} (ht : TyOk P T ti) (hkd : ti.kd = .st fs) (hc : partsS fn fs ns ps.toList = some qs) (hv : evX (.bld ti.z qs) e f = some v) : XOk P σ a (.build T ps) v := by
 obtain ⟨d,hd,hk⟩ := ht.under
 rw [hkd] at hk
 obtain ⟨F,rfl,hsz,hF⟩ := hk
 obtain ⟨zv,hz1,_,_,hz2⟩ := ht.zero
 have hv : (ob (fillA qs e f ti.z) fun r => some (.agg r)) = some v := hv
 obtain ⟨r,h1,h2⟩ := ob_some.1 hv
 cases h2
 let pl : Array (Nat × Nat) := (fs.map fun q => (q.1,q.2.1)).toArray
 have hpl : ∀ (i off sz : Nat) (ag : Bool),nthA i fs = some (off,sz,ag) → pl[i]? = some (off,sz) := fun i off sz ag h => by
  rw [nthA_eq] at h
  simp [pl,h]
 obtain ⟨R,hR,hf⟩ := fill_run (place := fun i => pl[i]?) (prt := partsS fn fs ns) hO rfl (fun i x l q h => by
  simp only [partsS] at h
  split at h
  ·rename_i off sz ag o r h3 h4 h5
   cases h
   exact ⟨off,sz,o,r,rfl,hpl _ _ _ _ h3,h4,h5⟩
  ·cases h) ps.toList qs ti.z r zv.cells.toList hc h1 (hz1 σ)
 refine ⟨.agg R.toArray,by simp only [den,hR],fun dst ty pos af g w => ?_⟩
 have hm : (F.mapM fun f => do pure (f.offset,← sizeOf f.type) : Sem (Array (Nat × Nat))).run P w = .ok pl w := by
  have := mapM_run (P := P) (g := fun f : Field => (do pure (f.offset,← sizeOf f.type) : Sem (Nat × Nat))) (h := fun f : Field => (f.offset,((P.info? f.type).map (·.size)).getD 0)) (w := w) F.toList (fun fl hfl => by
   obtain ⟨j,hj⟩ := List.getElem?_of_mem hfl
   have hlt : j < fs.length := by rw [← hsz]; have := (List.getElem?_eq_some_iff.1 hj).1; simpa using this
   obtain ⟨f',i,df,h3,h4,h5,h6,_,_⟩ := hF j (fs[j]).1 (fs[j]).2.1 (fs[j]).2.2 (by simp [hlt])
   have : f' = fl := by
    have hj' : F[j]? = some fl := by simpa using hj
    rw [h3] at hj'; exact Option.some.inj hj'
   subst this
   simp [size_run h5 rfl,h5])
  rw [Array.mapM_eq_mapM_toList,← bind_pure_comp,Sem.run_bind,this]
  simp only [Result.andThen_ok,Function.comp,Sem.run_pure,pl]
  congr 2
  apply List.ext_getElem?
  intro j
  simp only [List.getElem?_map,Array.getElem?_toList]
  rcases Nat.lt_or_ge j fs.length with hlt | hge
  ·obtain ⟨f',i,df,h3,h4,h5,h6,_,_⟩ := hF j (fs[j]).1 (fs[j]).2.1 (fs[j]).2.2 (by simp [hlt])
   simp [h3,hlt,h4,h5,h6]
  ·rw [List.getElem?_eq_none hge,Array.getElem?_eq_none (by omega)]; rfl
 have hp : ps.map (fun (i,x) => (i,a.eval x)) = (ps.toList.map fun p => (p.1,a.eval p.2)).toArray := by
  apply Array.toList_inj.1; simp
 simp only [execOp,Instr.build,Sem.run_bind,hz2,Result.andThen_ok,run_underlying hd,hm,hp]
 try simp only [List.toList_toArray]
 have hf' : Instr.fill (fun x => pl[x]?) zv.cells (ps.toList.map fun p => (p.1,a.eval p.2)) = some R.toArray := by simpa using hf
 rw [hf']
 simp
theorem x_bldA (hO : OpR σ fn ns e f a) {T n sz : Nat} {ag : Bool} {ti : TI} {ps : Array (Nat × Operand)} {qs : List (Nat × Nat × O)} (ht : TyOk P T ti) (hkd : ti.kd = .arr n sz ag) (hc : partsA fn sz ns ps.toList = some qs) (hv : evX (.bld ti.z qs) e f = some v) : XOk P σ a (.build T ps) v := by
 obtain ⟨d,hd,hk⟩ := ht.under
 rw [hkd] at hk
 obtain ⟨el,i,de,rfl,h5,h6,_,_⟩ := hk
 obtain ⟨zv,hz1,_,_,hz2⟩ := ht.zero
 have hv : (ob (fillA qs e f ti.z) fun r => some (.agg r)) = some v := hv
 obtain ⟨r,h1,h2⟩ := ob_some.1 hv
 cases h2
 obtain ⟨R,hR,hf⟩ := fill_run (place := fun i => some (i * sz,sz)) (prt := partsA fn sz ns) hO rfl (fun i x l q h => by
  simp only [partsA] at h
  split at h
  ·rename_i o r h3 h4
   cases h
   exact ⟨i * sz,sz,o,r,rfl,rfl,h3,h4⟩
  ·cases h) ps.toList qs ti.z r zv.cells.toList hc h1 (hz1 σ)
 refine ⟨.agg R.toArray,by simp only [den,hR],fun dst ty pos af g w => ?_⟩
 have hp : ps.map (fun (i,x) => (i,a.eval x)) = (ps.toList.map fun p => (p.1,a.eval p.2)).toArray := by
  apply Array.toList_inj.1; simp
 have hf' : Instr.fill (fun i => some (i * sz,sz)) zv.cells (ps.toList.map fun p => (p.1,a.eval p.2)) = some R.toArray := by simpa using hf
 simp only [execOp,Instr.build,Sem.run_bind,hz2,Result.andThen_ok,run_underlying hd,size_run h5 h6,hp]
 try simp only [List.toList_toArray]
 rw [hf']
 simp
theorem x_ext {i : Nat} {ox : Operand} (hv : evU (.ext i) x = some v) (hx : den σ x = some (a.eval ox)) : XOk P σ a (.extract ox i) v := by
 obtain ⟨l,rfl,h⟩ := isT_some.1 hv
 rw [nthA_eq] at h
 obtain ⟨L,hL,hX⟩ := den_tup hx
 obtain ⟨u,h1,h2⟩ := denL_get hL h
 exact ⟨u,h2,fun dst ty ps af g w => by simp [execOp,hX,Instr.extract,h1]⟩
theorem x_lenS {T : Nat} {ox : Operand} {d : TypeDesc} (hd : P.underlying T = some d) (hk : KdOk P d .str) (hv : evU .lenS x = some v) (hx : den σ x = some (a.eval ox)) : XOk P σ a (.call ⟨.builtin .len,⟨[ox]⟩,⟨[T]⟩⟩) v := by
 obtain ⟨s,rfl,h⟩ := isS_some.1 hv
 rw [mkN_eq,len2_eq] at h; cases h
 obtain ⟨hX,_⟩ := str_inv hx
 have hk : d = .string := hk
 subst hk
 refine ⟨_,dn,fun dst ty ps af g w => ?_⟩
 simp [execOp,resolve,invoke,builtin,Builtin.len_,hX,run_underlying hd,goInt,strOf_size]
 rfl
theorem x_lenL {T el sz eb : Nat} {z : List AV} {u8 : Bool} {ox : Operand} {d : TypeDesc} (hd : P.underlying T = some d) (hk : KdOk P d (.slc el sz eb z u8)) (hv : evU .lenL x = some v) (hx : den σ x = some (a.eval ox)) : XOk P σ a (.call ⟨.builtin .len,⟨[ox]⟩,⟨[T]⟩⟩) v := by
 obtain ⟨rfl,_⟩ := hk
 have key : ∀ (A : Option Addr) (n c : Nat),a.eval ox = .slice A n c → v = .n 3 n → XOk P σ a (.call ⟨.builtin .len,⟨[ox]⟩,⟨[T]⟩⟩) v := fun A n c hX h => by
  subst h
  refine ⟨_,dn,fun dst ty ps af g w => ?_⟩
  simp [execOp,resolve,invoke,builtin,Builtin.len_,hX,run_underlying hd,goInt]
  rfl
 rcases isL_some.1 hv with ⟨rfl,h⟩ | ⟨b,o,l,c,rfl,h⟩ | ⟨b,o,l,c,rfl,h⟩ | ⟨b,o,l,c,zz,rfl,h⟩
 ·cases h; exact key _ _ _ (den_nils hx) rfl
 ·rw [mkN_eq] at h; cases h
  obtain ⟨g,_,hX⟩ := den_sl hx
  exact key _ _ _ hX rfl
 ·rw [mkN_eq] at h; cases h
  obtain ⟨g,_,_,hX⟩ := den_su hx
  exact key _ _ _ hX rfl
 ·cases h
  obtain ⟨g,_,_,hX⟩ := den_emp hx
  exact key _ _ _ hX rfl
theorem x_lenA {T n sz : Nat} {ag : Bool} {ox : Operand} {d : TypeDesc} (hd : P.underlying T = some d) (hk : KdOk P d (.arr n sz ag)) (hv : evU (.con 3 n) x = some v) : XOk P σ a (.call ⟨.builtin .len,⟨[ox]⟩,⟨[T]⟩⟩) v := by
 obtain ⟨el,i,de,rfl,_⟩ := hk
 have hv : some (AV.n 3 n) = some v := hv
 cases hv
 refine ⟨_,dn,fun dst ty ps af g w => ?_⟩
 simp [execOp,resolve,invoke,builtin,Builtin.len_,run_underlying hd,goInt]
 rfl
theorem x_mki {T : Nat} {ox : Operand} {d : TypeDesc} (hd : P.underlying T = some d) (hn : ∀ ms,d ≠ .interface ms) (hv : evU (.mki T) x = some v) (hx : den σ x = some (a.eval ox)) : XOk P σ a (.makeInterface T ox) v := by
 have hv : some (AV.ifc T x) = some v := hv
 cases hv
 refine ⟨.iface T (a.eval ox),by simp only [den,hx],fun dst ty ps af g w => ?_⟩
 simp only [execOp,Instr.makeInterface,Sem.run_bind,run_underlying hd,Result.andThen_ok]
 cases d <;> first | rfl | exact absurd rfl (hn _)
theorem x_tas {S T : Nat} {ox : Operand} {ti : TI} {d : TypeDesc} (ht : TyOk P T ti) (hd : P.underlying T = some d) (hn : ∀ ms,d ≠ .interface ms) (hv : evU (.tas T ti.z ti.agg) x = some v) (hx : den σ x = some (a.eval ox)) : XOk P σ a (.typeAssert ox S T true) v := by
 obtain ⟨zv,z1,z2,z3,z4⟩ := ht.zero
 have hz : den σ (Bool.rec (motive := fun _ => AV) (List.rec (motive := fun _ => AV) .undef (fun v _ _ => v) ti.z) (.agg ti.z) ti.agg) = some zv := by
  cases hag : ti.agg with
  | true =>
   show den σ (.agg ti.z) = _
   simp only [den,z1 σ]
   rw [z2 hag]; simp [Value.cells]
  | false =>
   have h1 := z3 hag
   have h2 := z1 σ
   rw [h1] at h2
   cases hz' : ti.z with
   | nil => rw [hz'] at h2; simp [denL] at h2
   | cons u r =>
    rw [hz'] at h2
    obtain ⟨p,q,h3,h4,_⟩ := denL_cons_inv h2
    show den σ u = _
    rw [h4]; simp at h3; rw [h3.1]
 have hf : den σ (.tup [Bool.rec (motive := fun _ => AV) (List.rec (motive := fun _ => AV) .undef (fun v _ _ => v) ti.z) (.agg ti.z) ti.agg,.bool false]) = some (.tuple #[zv,.bool false]) := by
  simp only [den,denL,hz]
 rcases isC_some.1 hv with ⟨rfl,h⟩ | ⟨t,u,rfl,h⟩
 ·cases h
  have hX := den_nili hx
  refine ⟨_,hf,fun dst ty ps af g w => ?_⟩
  simp only [execOp,Instr.typeAssert,hX,Sem.run_bind,run_underlying hd,Result.andThen_ok]
  cases d <;> first | (simp [z4]; done) | exact absurd rfl (hn _)
 ·obtain ⟨U,hU,hX⟩ := den_ifc hx
  have h2 : (if Nat.beq T t = true then some (AV.tup [u,.bool true]) else some (.tup [Bool.rec (motive := fun _ => AV) (List.rec (motive := fun _ => AV) .undef (fun v _ _ => v) ti.z) (.agg ti.z) ti.agg,.bool false])) = some v := by rw [← bif2_if]; exact h
  clear h
  split at h2
  ·rename_i htt
   rw [beq_iff] at htt; subst htt
   cases h2
   refine ⟨.tuple #[U,.bool true],by simp only [den,denL,hU],fun dst ty ps af g w => ?_⟩
   simp only [execOp,Instr.typeAssert,hX,Sem.run_bind,run_underlying hd,Result.andThen_ok]
   cases d <;> first | (simp; done) | exact absurd rfl (hn _)
  ·rename_i htt
   cases h2
   have hne : ¬ t = T := fun h => htt (beq_iff.2 h.symm)
   refine ⟨_,hf,fun dst ty ps af g w => ?_⟩
   simp only [execOp,Instr.typeAssert,hX,Sem.run_bind,run_underlying hd,Result.andThen_ok]
   cases d <;> first | (simp [z4,hne]; done) | exact absurd rfl (hn _)
theorem x_fld {T i off sz : Nat} {ag : Bool} {fs : List (Nat × Nat × Bool)} {ox : Operand} {d : TypeDesc} (hd : P.underlying T = some d) (hk : KdOk P d (.st fs)) (hf : nthA i fs = some (off,sz,ag)) (hv : evU (if ag then .fldN off sz else .fld1 off) x = some v) (hx : den σ x = some (a.eval ox)) : XOk P σ a (.field T ox i) v := by
 obtain ⟨F,rfl,_,hF⟩ := hk
 rw [nthA_eq] at hf
 obtain ⟨fl,ti,df,h1,h2,h3,h4,h5,h6⟩ := hF _ _ _ _ hf
 have hag := isAgg_run (P := P) h5
 have hs := size_run (P := P) h3 h4
 cases ag with
 | true =>
  obtain ⟨l,rfl,h⟩ := isA_some.1 hv
  obtain ⟨r,h7,h8⟩ := ob_some.1 h
  obtain ⟨r',h9,h10⟩ := ob_some.1 h8
  cases h10
  obtain ⟨hl1,rfl⟩ := dropA_eq _ _ h7
  obtain ⟨hl2,rfl⟩ := takeA_eq _ _ h9
  obtain ⟨L,hL,hX⟩ := den_agg hx
  refine ⟨.agg ((L.drop off).take sz).toArray,by simp only [den]; rw [denL_take sz (denL_drop off hL)],fun dst ty ps af g w => ?_⟩
  have e : L.toArray.extract off (off + sz) = ((L.drop off).take sz).toArray := by
   apply Array.toList_inj.1
   simp [Array.toList_extract,List.extract_eq_take_drop]
  simp [execOp,Instr.field,hX,run_underlying hd,h1,asAgg,part,hag w,h6,hs w,h2,e]
 | false =>
  obtain ⟨l,rfl,h⟩ := isA_some.1 hv
  rw [nthA_eq] at h
  obtain ⟨L,hL,hX⟩ := den_agg hx
  obtain ⟨u,h7,h8⟩ := denL_get hL h
  refine ⟨u,h8,fun dst ty ps af g w => ?_⟩
  simp [execOp,Instr.field,hX,run_underlying hd,h1,asAgg,part,hag w,h6,h2,h7]
end
end Go.Proofs.YteajeenmojbjhaaGreatDoor.Ev
namespace Go.Proofs.YteajeenmojbjhaaGreatDoor.Ev
open Go Fw
structure Tabs (P : Program) (tt : Nat → Option TI) : Prop where
 ty : ∀ t ti,tt t = some ti → TyOk P t ti
 eq : ∀ t ti,tt t = some ti → ti.flat ≠ [] → EqOk P t ti.flat
 pz : ∀ t ti e,tt t = some ti → ti.kd = .ptr e → ∃ i,P.info? e = some i ∧ i.size ≠ 0
 ex : Exts P
 zl : ∀ t ti,tt t = some ti → ti.z.length = ti.sz
 s1 : ∀ t ti,tt t = some ti → ti.agg = false → ti.sz = 1
 dp : 0 < P.depth
section
variable {P : Program} {σ : Sg} {fn : List Nat} {ns : Ns} {e f : List AV} {a : Act} {tt : Nat → Option TI} {v : AV}
theorem ox_some {o : Option O} {g : O → X} {x : X} (h : ox o g = some x) : ∃ p,o = some p ∧ x = g p := by
 cases o with
 | none => cases h
 | some p => exact ⟨p,rfl,(Option.some.inj h).symm⟩
theorem ox2_some {o o' : Option O} {g : O → O → X} {x : X} (h : ox2 o o' g = some x) : ∃ p q,o = some p ∧ o' = some q ∧ x = g p q := by
 unfold ox2 at h
 split at h
 ·cases h; exact ⟨_,_,rfl,rfl,rfl⟩
 ·cases h
theorem evu {c : U} {o : O} (hv : evX (.u c o) e f = some v) : ∃ x,evO o e f = some x ∧ evU c x = some v := ob_some.1 hv
theorem evb {c : B} {o o' : O} (hv : evX (.b c o o') e f = some v) : ∃ x y,evO o e f = some x ∧ evO o' e f = some y ∧ evB c x y = some v := by
 have hv : (ob (evO o e f) fun x => ob (evO o' e f) fun y => evB c x y) = some v := hv
 obtain ⟨x,h1,h2⟩ := ob_some.1 hv
 obtain ⟨y,h3,h4⟩ := ob_some.1 h2
 exact ⟨x,y,h1,h3,h4⟩
theorem evfn {g : FuncId} : a.eval (.func g) = .func (.func g) #[] #[] := rfl
theorem x_adc (hE : Exts P) (hO : OpR σ fn ns e f a) {sub : Bool} {x y z : Operand} {p q r : O} {tys : Array TypeId} (hx : cO fn ns x = some p) (hy : cO fn ns y = some q) (hz : cO fn ns z = some r) (hv : evX (.adc sub p q r) e f = some v) :
  XOk P σ a (.call ⟨.value (.func (if sub then 175 else 174)),⟨[x,y,z]⟩,tys⟩) v := by
 have hv : (ob (evO p e f) fun x => ob (evO q e f) fun y => ob (evO r e f) fun z => isN z fun k c => gd (Nat.beq k 7) (gd (Nat.ble c 1) (nn 7 x y fun a b => gd (Nat.blt a M64) (gd (Nat.blt b M64)
   (bif2 sub (fN (Nat.mod (Nat.sub (Nat.add a M64) (Nat.add b c)) M64) fun s => some (AV.tup [.n 7 s,.n 7 (bif2 (Nat.ble (Nat.add b c) a) 0 1)]))
    (fN (Nat.mod (Nat.add a (Nat.add b c)) M64) fun s => fN (Nat.div (Nat.add a (Nat.add b c)) M64) fun d => some (.tup [.n 7 s,.n 7 d]))))))) = some v := hv
 obtain ⟨X,h1,h2⟩ := ob_some.1 hv
 obtain ⟨Y,h3,h4⟩ := ob_some.1 h2
 obtain ⟨Z,h5,h6⟩ := ob_some.1 h4
 obtain ⟨k,c,rfl,h7⟩ := isN_some.1 h6
 obtain ⟨h8,h9⟩ := gd_some.1 h7
 rw [beq_iff] at h8; subst h8
 obtain ⟨h10,h11⟩ := gd_some.1 h9
 obtain ⟨m,n,rfl,rfl,h12⟩ := nn_some.1 h11
 obtain ⟨h13,h14⟩ := gd_some.1 h12
 obtain ⟨h15,h16⟩ := gd_some.1 h14
 rw [ble_iff] at h10
 rw [blt_iff] at h13 h15
 have hX := den_n (hO _ _ _ hx h1)
 have hY := den_n (hO _ _ _ hy h3)
 have hZ := den_n (hO _ _ _ hz h5)
 have hk : kd 7 = .u64 := rfl
 rw [hk] at hX hY hZ
 simp only [fN_eq] at h16
 cases sub with
 | true =>
  have h16 : some (AV.tup [.n 7 ((m + M64 - (n + c)) % M64),.n 7 (bif2 (Nat.ble (n + c) m) 0 1)]) = some v := h16
  cases h16
  refine ⟨.tuple #[.int .u64 ((m + M64 - (n + c)) % M64 : Nat),.int .u64 (if n + c ≤ m then 0 else 1 : Nat)],?_,fun dst ty ps af g w => ?_⟩
  ·simp only [den,denL,hk,bif2_if,ble_iff]; rfl
  ·have := hE.sub m n c w h13 h15 h10
   simp only [if_true]
   have ha : (⟨[x,y,z]⟩ : Array Operand).map a.eval = #[a.eval x,a.eval y,a.eval z] := by simp
   simp only [execOp,resolve,ha,evfn,Deferred.ofValue,Sem.run_bind,Sem.run_pure,Result.andThen_ok,invoke,Array.append_empty,Array.empty_append]
   rw [hX,hY,hZ]
   exact this
 | false =>
  have h16 : some (AV.tup [.n 7 ((m + (n + c)) % M64),.n 7 ((m + (n + c)) / M64)]) = some v := h16
  cases h16
  refine ⟨.tuple #[.int .u64 ((m + (n + c)) % M64 : Nat),.int .u64 ((m + (n + c)) / M64 : Nat)],?_,fun dst ty ps af g w => ?_⟩
  ·simp only [den,denL,hk]; rfl
  ·have := hE.add m n c w h13 h15 h10
   simp only [Bool.false_eq_true,if_false]
   have ha : (⟨[x,y,z]⟩ : Array Operand).map a.eval = #[a.eval x,a.eval y,a.eval z] := by simp
   simp only [execOp,resolve,ha,evfn,Deferred.ofValue,Sem.run_bind,Sem.run_pure,Result.andThen_ok,invoke,Array.append_empty,Array.empty_append]
   rw [hX,hY,hZ]
   exact this
theorem x_cmp (hE : Exts P) (hO : OpR σ fn ns e f a) {x y : Operand} {p q : O} {tys : Array TypeId} (hx : cO fn ns x = some p) (hy : cO fn ns y = some q) (hv : evX (.cmp p q) e f = some v) :
  XOk P σ a (.call ⟨.value (.func 221),⟨[x,y]⟩,tys⟩) v := by
 have hv : (ob (evO p e f) fun x => ob (evO q e f) fun y => isS x fun s => isS y fun t => gd (beqL s t) (some (AV.n 3 0))) = some v := hv
 obtain ⟨X,h1,h2⟩ := ob_some.1 hv
 obtain ⟨Y,h3,h4⟩ := ob_some.1 h2
 obtain ⟨s,rfl,h5⟩ := isS_some.1 h4
 obtain ⟨t,rfl,h6⟩ := isS_some.1 h5
 obtain ⟨h7,h8⟩ := gd_some.1 h6
 rw [beqL_iff] at h7; subst h7
 cases h8
 obtain ⟨hX,_⟩ := str_inv (hO _ _ _ hx h1)
 obtain ⟨hY,_⟩ := str_inv (hO _ _ _ hy h3)
 refine ⟨_,dn,fun dst ty ps af g w => ?_⟩
 have ha : (⟨[x,y]⟩ : Array Operand).map a.eval = #[a.eval x,a.eval y] := by simp
 simp only [execOp,resolve,ha,evfn,Deferred.ofValue,Sem.run_bind,Sem.run_pure,Result.andThen_ok,invoke,Array.append_empty,Array.empty_append]
 rw [hX,hY]
 exact hE.cmp _ w
theorem x_esc (hE : Exts P) (hO : OpR σ fn ns e f a) {x : Operand} {p : O} {tys : Array TypeId} (hx : cO fn ns x = some p) (hv : evX (.mv p) e f = some v) :
  XOk P σ a (.call ⟨.value (.func 149),⟨[x]⟩,tys⟩) v := by
 have hv : evO p e f = some v := hv
 refine ⟨_,hO _ _ _ hx hv,fun dst ty ps af g w => ?_⟩
 have ha : (⟨[x]⟩ : Array Operand).map a.eval = #[a.eval x] := by simp
 simp only [execOp,resolve,ha,evfn,Deferred.ofValue,Sem.run_bind,Sem.run_pure,Result.andThen_ok,invoke,Array.append_empty,Array.empty_append]
 exact hE.esc _ w
theorem usd0 {tys : Array TypeId} {ty : TypeId} {n c : Nat} : Builtin.unsafeSliceData_ tys ty #[.slice none n c] = pure (.pointer none) := rfl
theorem usd1 {tys : Array TypeId} {ty : TypeId} {p : Addr} {n c : Nat} : Builtin.unsafeSliceData_ tys ty #[.slice (some p) n c] = (if c ≠ 0 then pure (.pointer (some p)) else do if (← viewAt p.block).isSome then pure (.pointer (some p)) else pure (.pointer (some ⟨← newObj (.view p (← elemOf ty)),0,none⟩))) := rfl
theorem x_sdat {ox : Operand} {tys : Array TypeId} {x : AV} (hv : evU .sdat x = some v) (hx : den σ x = some (a.eval ox)) : XOk P σ a (.call ⟨.builtin .unsafeSliceData,⟨[ox]⟩,tys⟩) v := by
 rcases isL_some.1 hv with ⟨rfl,h⟩ | ⟨b,o,l,c,rfl,h⟩ | ⟨b,o,l,c,rfl,h⟩ | ⟨b,o,l,c,zz,rfl,h⟩
 ·cases h
  have hX := den_nils hx
  exact ⟨.pointer none,by simp only [den],fun dst ty ps af g w => by simp [execOp,resolve,invoke,builtin,hX,usd0]⟩
 ·obtain ⟨h1,h2⟩ := gd_some.1 h
  rw [blt_iff] at h1
  cases h2
  obtain ⟨g,hg,hX⟩ := den_sl hx
  refine ⟨_,den_mkptr hg,fun dst ty ps af gg w => ?_⟩
  have : c ≠ 0 := by omega
  simp [execOp,resolve,invoke,builtin,hX,usd1,this]
 ·obtain ⟨h1,h2⟩ := gd_some.1 h
  rw [blt_iff] at h1
  cases h2
  obtain ⟨g,hg,hle,hX⟩ := den_su hx
  refine ⟨_,den_mkptr hg,fun dst ty ps af gg w => ?_⟩
  have : ¬ (g.2 - c = 0) := by omega
  simp [execOp,resolve,invoke,builtin,hX,usd1,this]
 ·cases h
theorem kd_ne_ifc {d : TypeDesc} {k : TK} (hk : KdOk P d k) (h1 : k ≠ .ifc) (h2 : k ≠ .other) : ∀ ms,d ≠ .interface ms := by
 intro ms hd
 subst hd
 cases k <;> simp only [KdOk,reduceCtorEq,ne_eq,not_true,false_and,exists_const,and_false,not_false_eq_true] at hk h1 h2
 all_goals first | (obtain ⟨_,h,_⟩ := hk; cases h; done) | (obtain ⟨_,_,_,h,_⟩ := hk; cases h; done)
theorem cX_run (T : Tabs P tt) (hO : OpR σ fn ns e f a) {op : Op} {x : X} (hc : cX tt fn ns op = some x) (hv : evX x e f = some v) : XOk P σ a op v := by
 unfold cX at hc
 split at hc
 ·
  obtain ⟨o,ho,rfl⟩ := ox_some hc
  exact ⟨_,hO _ _ _ ho hv,fun dst ty ps af g w => by simp [execOp]⟩
 ·obtain ⟨o,ho,rfl⟩ := ox_some hc
  exact ⟨_,hO _ _ _ ho hv,fun dst ty ps af g w => by simp [execOp]⟩
 ·
  split at hc
  ·rename_i c a' b' _ oc oa ob' h1 h2 h3
   cases hc
   have hv : (ob (evO oc e f) fun v => isB v fun t => ob (evO oa e f) fun x => ob (evO ob' e f) fun y => some (bif2 t x y)) = some v := hv
   obtain ⟨V,h4,h5⟩ := ob_some.1 hv
   obtain ⟨t,rfl,h6⟩ := isB_some.1 h5
   obtain ⟨x,h7,h8⟩ := ob_some.1 h6
   obtain ⟨y,h9,h10⟩ := ob_some.1 h8
   cases h10
   have hC := den_bool (hO _ _ _ h1 h4)
   cases t with
   | true => exact ⟨_,hO _ _ _ h2 h7,fun dst ty ps af g w => by simp [execOp,hC,asBool]⟩
   | false => exact ⟨_,hO _ _ _ h3 h9,fun dst ty ps af g w => by simp [execOp,hC,asBool]⟩
  ·cases hc
 ·
  obtain ⟨o,ho,rfl⟩ := ox_some hc
  obtain ⟨x,h1,h2⟩ := evu hv
  exact x_nck h2 (hO _ _ _ ho h1)
 ·
  split at hc
  ·rename_i fs hk
   obtain ⟨ti,ht,hkd⟩ := map_kd hk
   obtain ⟨d,hd,hkk⟩ := (T.ty _ _ ht).under
   rw [hkd] at hkk
   split at hc
   ·rename_i off sz ag hf
    split at hc
    ·cases hc
    ·rename_i hz
     obtain ⟨o,ho,rfl⟩ := ox_some hc
     obtain ⟨x,h1,h2⟩ := evu hv
     exact x_fa hd hkk hf hz h2 (hO _ _ _ ho h1)
   ·cases hc
  ·cases hc
 ·
  split at hc
  ·rename_i n sz ag hk
   obtain ⟨ti,ht,hkd⟩ := map_kd hk
   obtain ⟨d,hd,hkk⟩ := (T.ty _ _ ht).under
   rw [hkd] at hkk
   obtain ⟨p,q,hp,hq,rfl⟩ := ox2_some hc
   obtain ⟨x,y,h1,h2,h3⟩ := evb hv
   exact x_iaA hd hkk h3 (hO _ _ _ hp h1) (hO _ _ _ hq h2)
  ·rename_i el sz eb z u8 hk
   obtain ⟨ti,ht,hkd⟩ := map_kd hk
   obtain ⟨d,hd,hkk⟩ := (T.ty _ _ ht).under
   rw [hkd] at hkk
   obtain ⟨p,q,hp,hq,rfl⟩ := ox2_some hc
   obtain ⟨x,y,h1,h2,h3⟩ := evb hv
   exact x_iaS hd hkk h3 (hO _ _ _ hp h1) (hO _ _ _ hq h2)
  ·cases hc
 ·
  split at hc
  ·rename_i b hb
   obtain ⟨p,q,hp,hq,rfl⟩ := ox2_some hc
   obtain ⟨x,y,h1,h2,h3⟩ := evb hv
   exact x_bin T.ty T.eq T.pz hb h3 (hO _ _ _ hp h1) (hO _ _ _ hq h2)
  ·cases hc
 ·
  split at hc
  ·rename_i k hk
   obtain ⟨ti,ht,hkd⟩ := map_kd hk
   split at hc
   ·obtain ⟨o,ho,rfl⟩ := ox_some hc
    obtain ⟨x,h1,h2⟩ := evu hv
    exact x_neg h2 (hO _ _ _ ho h1)
   ·split at hc
    ·cases hc
    ·rename_i hs
     obtain ⟨o,ho,rfl⟩ := ox_some hc
     obtain ⟨x,h1,h2⟩ := evu hv
     exact x_inv (by simpa using hs) h2 (hO _ _ _ ho h1)
   ·cases hc
  ·split at hc
   ·obtain ⟨o,ho,rfl⟩ := ox_some hc
    obtain ⟨x,h1,h2⟩ := evu hv
    exact x_not h2 (hO _ _ _ ho h1)
   ·cases hc
  ·cases hc
 ·
  split at hc
  ·rename_i k0 k hk0 hk
   obtain ⟨ti0,ht0,hkd0⟩ := map_kd hk0
   obtain ⟨d0,hd0,hkk0⟩ := (T.ty _ _ ht0).under
   rw [hkd0] at hkk0
   obtain ⟨K0,rfl,_⟩ := hkk0
   obtain ⟨ti,ht,hkd⟩ := map_kd hk
   obtain ⟨d,hd,hkk⟩ := (T.ty _ _ ht).under
   rw [hkd] at hkk
   obtain ⟨K,rfl,hK⟩ := hkk
   obtain ⟨o,ho,rfl⟩ := ox_some hc
   obtain ⟨x,h1,h2⟩ := evu hv
   exact x_cvt (k0 := k0) hd0 hd hK h2 (hO _ _ _ ho h1)
  ·cases hc
 ·
  split at hc
  ·cases hc
  ·cases hc
  ·cases hc
  ·rename_i k hne1 hne2 hk
   obtain ⟨ti,ht,hkd⟩ := map_kd hk
   obtain ⟨d,hd,hkk⟩ := (T.ty _ _ ht).under
   rw [hkd] at hkk
   obtain ⟨o,ho,rfl⟩ := ox_some hc
   obtain ⟨x,h1,h2⟩ := evu hv
   exact x_mki hd (kd_ne_ifc hkk (fun h => hne1 h) (fun h => hne2 h)) h2 (hO _ _ _ ho h1)
 ·
  split at hc
  ·rename_i ti ht
   obtain ⟨d,hd,hkk⟩ := (T.ty _ _ ht).under
   split at hc
   ·cases hc
   ·cases hc
   ·rename_i hne1 hne2
    obtain ⟨o,ho,rfl⟩ := ox_some hc
    obtain ⟨x,h1,h2⟩ := evu hv
    exact x_tas (T.ty _ _ ht) hd (kd_ne_ifc hkk (fun h => hne1 h) (fun h => hne2 h)) h2 (hO _ _ _ ho h1)
   ·cases hc
  ·cases hc
 ·
  obtain ⟨o,ho,rfl⟩ := ox_some hc
  obtain ⟨x,h1,h2⟩ := evu hv
  exact x_ext h2 (hO _ _ _ ho h1)
 ·
  split at hc
  ·rename_i fs hk
   obtain ⟨ti,ht,hkd⟩ := map_kd hk
   obtain ⟨d,hd,hkk⟩ := (T.ty _ _ ht).under
   rw [hkd] at hkk
   split at hc
   ·rename_i off sz hf
    obtain ⟨o,ho,rfl⟩ := ox_some hc
    obtain ⟨x,h1,h2⟩ := evu hv
    exact x_fld hd hkk hf h2 (hO _ _ _ ho h1)
   ·rename_i off sz hf
    obtain ⟨o,ho,rfl⟩ := ox_some hc
    obtain ⟨x,h1,h2⟩ := evu hv
    exact x_fld hd hkk hf h2 (hO _ _ _ ho h1)
   ·cases hc
  ·cases hc
 ·
  split at hc
  ·rename_i hk
   obtain ⟨ti,ht,hkd⟩ := map_kd hk
   obtain ⟨d,hd,hkk⟩ := (T.ty _ _ ht).under
   rw [hkd] at hkk
   obtain ⟨p,q,hp,hq,rfl⟩ := ox2_some hc
   obtain ⟨x,y,h1,h2,h3⟩ := evb hv
   exact x_idS hd hkk h3 (hO _ _ _ hp h1) (hO _ _ _ hq h2)
  ·rename_i n hk
   obtain ⟨ti,ht,hkd⟩ := map_kd hk
   obtain ⟨d,hd,hkk⟩ := (T.ty _ _ ht).under
   rw [hkd] at hkk
   obtain ⟨p,q,hp,hq,rfl⟩ := ox2_some hc
   obtain ⟨x,y,h1,h2,h3⟩ := evb hv
   exact x_idA hd hkk h3 (hO _ _ _ hp h1) (hO _ _ _ hq h2)
  ·cases hc
 ·
  split at hc
  ·rename_i x lo hi mx _ _ _ _ _ o ol oh hk h1 h2 h3 h4
   obtain ⟨ti,ht,hkd⟩ := map_kd hk
   obtain ⟨d,hd,hkk⟩ := (T.ty _ _ ht).under
   rw [hkd] at hkk
   cases hc
   have : mx = none := by
    cases mx with
    | none => rfl
    | some _ => simp only [cOo,Option.map_eq_some_iff] at h4; obtain ⟨_,_,h⟩ := h4; cases h
   subst this
   exact x_sls hO hd hkk h1 h2 h3 hv
  ·rename_i x lo hi mx _ _ _ _ _ el sz eb z u8 o ol oh om hk h1 h2 h3 h4
   obtain ⟨ti,ht,hkd⟩ := map_kd hk
   obtain ⟨d,hd,hkk⟩ := (T.ty _ _ ht).under
   rw [hkd] at hkk
   split at hc
   ·cases hc
   ·rename_i hne
    cases hc
    refine x_sll hO hd hkk h1 h2 h3 h4 (fun e => ?_) hv
    subst e
    cases om with
    | none => rfl
    | some q => exact absurd rfl (hne q rfl)
  ·rename_i x lo hi mx _ _ _ _ _ n sz ag o ol oh om hk h1 h2 h3 h4
   obtain ⟨ti,ht,hkd⟩ := map_kd hk
   obtain ⟨d,hd,hkk⟩ := (T.ty _ _ ht).under
   rw [hkd] at hkk
   split at hc
   ·cases hc
   ·rename_i hne
    cases hc
    refine x_sla hO hd hkk h1 h2 h3 h4 (fun e => ?_) hv
    subst e
    cases om with
    | none => rfl
    | some q => exact absurd rfl (hne q rfl)
  ·cases hc
 ·
  split at hc
  ·rename_i ti ht
   split at hc
   ·rename_i fs hkd
    obtain ⟨qs,h1,rfl⟩ := Option.map_eq_some_iff.1 hc
    exact x_bldS hO (T.ty _ _ ht) hkd h1 hv
   ·rename_i n sz ag hkd
    obtain ⟨qs,h1,rfl⟩ := Option.map_eq_some_iff.1 hc
    exact x_bldA hO (T.ty _ _ ht) hkd h1 hv
   ·cases hc
  ·cases hc
 ·
  split at hc
  ·rename_i g fs cs _ _ xs ys h1 h2
   cases hc
   have hv : (ob (evOs xs e f) fun x => ob (evOs ys e f) fun y => some (AV.fn g x y)) = some v := hv
   obtain ⟨p,h3,h4⟩ := ob_some.1 hv
   obtain ⟨q,h5,h6⟩ := ob_some.1 h4
   cases h6
   refine ⟨.func (.func g) (fs.toList.map a.eval).toArray (cs.toList.map a.eval).toArray,by simp only [den,hO.list h1 h3,hO.list h2 h5],fun dst ty ps af gg w => ?_⟩
   have e1 : fs.map a.eval = (fs.toList.map a.eval).toArray := by apply Array.toList_inj.1; simp
   have e2 : cs.map a.eval = (cs.toList.map a.eval).toArray := by apply Array.toList_inj.1; simp
   simp only [execOp,Instr.makeFunc,Sem.run_bind,Sem.run_pure,Result.andThen_ok,e1,e2]
  ·cases hc
 ·
  split at hc
  ·rename_i hk
   obtain ⟨ti,ht,hkd⟩ := map_kd hk
   obtain ⟨d,hd,hkk⟩ := (T.ty _ _ ht).under
   rw [hkd] at hkk
   obtain ⟨o,ho,rfl⟩ := ox_some hc
   obtain ⟨x,h1,h2⟩ := evu hv
   exact x_lenS hd hkk h2 (hO _ _ _ ho h1)
  ·rename_i el sz eb z u8 hk
   obtain ⟨ti,ht,hkd⟩ := map_kd hk
   obtain ⟨d,hd,hkk⟩ := (T.ty _ _ ht).under
   rw [hkd] at hkk
   obtain ⟨o,ho,rfl⟩ := ox_some hc
   obtain ⟨x,h1,h2⟩ := evu hv
   exact x_lenL hd hkk h2 (hO _ _ _ ho h1)
  ·rename_i n sz ag hk
   obtain ⟨ti,ht,hkd⟩ := map_kd hk
   obtain ⟨d,hd,hkk⟩ := (T.ty _ _ ht).under
   rw [hkd] at hkk
   obtain ⟨o,ho,rfl⟩ := ox_some hc
   obtain ⟨x,h1,h2⟩ := evu hv
   exact x_lenA (x := x) hd hkk h2
  ·cases hc
 ·obtain ⟨p,q,hp,hq,rfl⟩ := ox2_some hc
  obtain ⟨x,y,h1,h2,h3⟩ := evb hv
  exact x_max h3 (hO _ _ _ hp h1) (hO _ _ _ hq h2)
 ·obtain ⟨p,q,hp,hq,rfl⟩ := ox2_some hc
  obtain ⟨x,y,h1,h2,h3⟩ := evb hv
  exact x_min h3 (hO _ _ _ hp h1) (hO _ _ _ hq h2)
 ·obtain ⟨o,ho,rfl⟩ := ox_some hc
  obtain ⟨x,h1,h2⟩ := evu hv
  exact x_sdat h2 (hO _ _ _ ho h1)
 ·split at hc
  ·rename_i h1 h2 h3
   cases hc
   exact x_adc T.ex hO (sub := false) h1 h2 h3 hv
  ·cases hc
 ·split at hc
  ·rename_i h1 h2 h3
   cases hc
   exact x_adc T.ex hO (sub := true) h1 h2 h3 hv
  ·cases hc
 ·obtain ⟨p,q,hp,hq,rfl⟩ := ox2_some hc
  exact x_cmp T.ex hO hp hq hv
 ·obtain ⟨o,ho,rfl⟩ := ox_some hc
  exact x_esc T.ex hO ho hv
 ·cases hc
end
end Go.Proofs.YteajeenmojbjhaaGreatDoor.Ev
namespace Go.Proofs.YteajeenmojbjhaaGreatDoor.Ev
open Go Fw
theorem hget_cons {q b : Nat} {o : Bl} {h : Hp} : hget q (.cons b o h) = if b = q then some o else hget q h := by
 have e : hget q (.cons b o h) = Bool.rec (motive := fun _ => Option Bl) (hget q h) (some o) (Nat.beq b q) := rfl
 rw [e]
 cases hb : Nat.beq b q with
 | true => rw [beq_iff] at hb; rw [if_pos hb]
 | false =>
  have : ¬ b = q := fun e => by rw [← beq_iff,hb] at e; cases e
  rw [if_neg this]
theorem hset_get {q : Nat} {o' : Bl} : ∀ {h h' : Hp},hset q o' h = some h' → (∃ o,hget q h = some o) ∧ ∀ b,hget b h' = if b = q then some o' else hget b h
 | .nil,h',e => by cases e
 | .cons b o t,h',e => by
  have e : (Bool.rec (motive := fun _ => Option Hp) (ob (hset q o' t) fun t' => some (.cons b o t')) (some (.cons b o' t)) (Nat.beq b q)) = some h' := e
  cases hb : Nat.beq b q with
  | true =>
   rw [hb] at e
   rw [beq_iff] at hb; subst hb
   cases e
   refine ⟨⟨o,by rw [hget_cons,if_pos rfl]⟩,fun c => ?_⟩
   rw [hget_cons,hget_cons]
   by_cases hc : c = b
   ·rw [if_pos hc,if_pos hc.symm]
   ·rw [if_neg hc,if_neg (fun h => hc h.symm),if_neg (fun h => hc h.symm)]
  | false =>
   rw [hb] at e
   have hne : ¬ b = q := fun e => by rw [← beq_iff,hb] at e; cases e
   obtain ⟨t',h1,h2⟩ := ob_some.1 e
   cases h2
   obtain ⟨⟨o0,h3⟩,h4⟩ := hset_get h1
   refine ⟨⟨o0,by rw [hget_cons,if_neg hne]; exact h3⟩,fun c => ?_⟩
   rw [hget_cons,hget_cons,h4]
   by_cases hc : b = c
   ·subst hc
    rw [if_pos rfl,if_neg hne,if_pos rfl]
   ·rw [if_neg hc]
    by_cases hq : c = q
    ·rw [if_pos hq,if_pos hq]
    ·rw [if_neg hq,if_neg hq,if_neg hc]
theorem hnew_get {q : Nat} {o' : Bl} : ∀ {h h' : Hp},hnew q o' h = some h' → ∀ b,hget b h' = if b = q then some o' else hget b h
 | .nil,h',e,c => by
  have e : some (Hp.cons q o' .nil) = some h' := e
  cases e
  rw [hget_cons]
  by_cases hc : c = q
  ·rw [if_pos hc,if_pos hc.symm]
  ·rw [if_neg hc,if_neg (fun h => hc h.symm)]
 | .cons b o t,h',e,c => by
  have e : (Bool.rec (motive := fun _ => Option Hp)
   (Bool.rec (motive := fun _ => Option Hp) (ob (hnew q o' t) fun t' => some (.cons b o t')) none (Nat.beq b q)) (some (.cons q o' (.cons b o t))) (Nat.blt b q)) = some h' := e
  cases hl : Nat.blt b q with
  | true =>
   rw [hl] at e
   cases e
   rw [hget_cons]
   by_cases hc : c = q
   ·rw [if_pos hc,if_pos hc.symm]
   ·rw [if_neg hc,if_neg (fun h => hc h.symm)]
  | false =>
   rw [hl] at e
   cases hb : Nat.beq b q with
   | true => rw [hb] at e; cases e
   | false =>
    rw [hb] at e
    have hne : ¬ b = q := fun e => by rw [← beq_iff,hb] at e; cases e
    obtain ⟨t',h1,h2⟩ := ob_some.1 e
    cases h2
    have h4 := hnew_get h1 c
    rw [hget_cons,hget_cons,h4]
    by_cases hc : b = c
    ·subst hc
     rw [if_pos rfl,if_neg hne,if_pos rfl]
    ·rw [if_neg hc]
     by_cases hq : c = q
     ·rw [if_pos hq,if_pos hq]
     ·rw [if_neg hq,if_neg hq,if_neg hc]
theorem hdel_get {q : Nat} : ∀ {h h' : Hp},hdel q h = some h' → ∀ b o,b ≠ q → hget b h' = some o → hget b h = some o
 | .nil,h',e => by cases e
 | .cons b o t,h',e => fun c oc hcq hg => by
  have e : (Bool.rec (motive := fun _ => Option Hp) (ob (hdel q t) fun t' => some (.cons b o t')) (some t) (Nat.beq b q)) = some h' := e
  cases hb : Nat.beq b q with
  | true =>
   rw [hb] at e
   rw [beq_iff] at hb; subst hb
   cases e
   rw [hget_cons,if_neg (fun h => hcq h.symm)]; exact hg
  | false =>
   rw [hb] at e
   obtain ⟨t',h1,h2⟩ := ob_some.1 e
   cases h2
   rw [hget_cons] at hg ⊢
   by_cases hc : b = c
   ·rw [if_pos hc] at hg ⊢; exact hg
   ·rw [if_neg hc] at hg ⊢; exact hdel_get h1 c oc hcq hg
def Srt : Hp → Prop
 | .nil => True
 | .cons b _ t => (∀ c o,hget c t = some o → c < b) ∧ Srt t
theorem hset_srt {q : Nat} {o' : Bl} : ∀ {h h' : Hp},Srt h → hset q o' h = some h' → Srt h'
 | .nil,h',_,e => by cases e
 | .cons b o t,h',hs,e => by
  have e : (Bool.rec (motive := fun _ => Option Hp) (ob (hset q o' t) fun t' => some (.cons b o t')) (some (.cons b o' t)) (Nat.beq b q)) = some h' := e
  cases hb : Nat.beq b q with
  | true => rw [hb] at e; cases e; exact hs
  | false =>
   rw [hb] at e
   obtain ⟨t',h1,h2⟩ := ob_some.1 e
   cases h2
   obtain ⟨⟨o0,h3⟩,h4⟩ := hset_get h1
   refine ⟨fun c oc hc => ?_,hset_srt hs.2 h1⟩
   rw [h4] at hc
   split at hc
   ·rename_i e; subst e; exact hs.1 _ _ h3
   ·exact hs.1 _ _ hc
theorem hnew_srt {q : Nat} {o' : Bl} : ∀ {h h' : Hp},Srt h → hnew q o' h = some h' → Srt h'
 | .nil,h',_,e => by
  have e : some (Hp.cons q o' .nil) = some h' := e
  cases e
  exact ⟨fun c o hc => (by cases hc),trivial⟩
 | .cons b o t,h',hs,e => by
  have e : (Bool.rec (motive := fun _ => Option Hp)
   (Bool.rec (motive := fun _ => Option Hp) (ob (hnew q o' t) fun t' => some (.cons b o t')) none (Nat.beq b q)) (some (.cons q o' (.cons b o t))) (Nat.blt b q)) = some h' := e
  cases hl : Nat.blt b q with
  | true =>
   rw [hl] at e
   rw [blt_iff] at hl
   cases e
   refine ⟨fun c oc hc => ?_,hs⟩
   rw [hget_cons] at hc
   split at hc
   ·omega
   ·have := hs.1 c oc hc; omega
  | false =>
   rw [hl] at e
   cases hb : Nat.beq b q with
   | true => rw [hb] at e; cases e
   | false =>
    rw [hb] at e
    have hne : ¬ b = q := fun e => by rw [← beq_iff,hb] at e; cases e
    have hnl : ¬ b < q := fun e => by rw [← blt_iff,hl] at e; cases e
    obtain ⟨t',h1,h2⟩ := ob_some.1 e
    cases h2
    refine ⟨fun c oc hc => ?_,hnew_srt hs.2 h1⟩
    rw [hnew_get h1] at hc
    split at hc
    ·omega
    ·exact hs.1 _ _ hc
theorem hdel_srt {q : Nat} : ∀ {h h' : Hp},Srt h → hdel q h = some h' → Srt h' ∧ hget q h' = none
 | .nil,h',_,e => by cases e
 | .cons b o t,h',hs,e => by
  have e : (Bool.rec (motive := fun _ => Option Hp) (ob (hdel q t) fun t' => some (.cons b o t')) (some t) (Nat.beq b q)) = some h' := e
  cases hb : Nat.beq b q with
  | true =>
   rw [hb] at e
   rw [beq_iff] at hb; subst hb
   cases e
   refine ⟨hs.2,?_⟩
   cases hg : hget b t with
   | none => rfl
   | some o' => exact absurd (hs.1 b o' hg) (Nat.lt_irrefl _)
  | false =>
   rw [hb] at e
   have hne : ¬ b = q := fun e => by rw [← beq_iff,hb] at e; cases e
   obtain ⟨t',h1,h2⟩ := ob_some.1 e
   cases h2
   obtain ⟨h3,h4⟩ := hdel_srt hs.2 h1
   refine ⟨⟨fun c oc hc => ?_,h3⟩,by rw [hget_cons,if_neg hne]; exact h4⟩
   by_cases hcq : c = q
   ·subst hcq; rw [h4] at hc; cases hc
   ·exact hs.1 c oc (hdel_get h1 c oc hcq hc)
structure Old (w0 w : World) : Prop where
 size : w0.heap.size ≤ w.heap.size
 keep : ∀ b,b < w0.heap.size → w.heap[b]? = w0.heap[b]?
 os : w.os = w0.os
 tape : w.tape = w0.tape
 out : w.output = w0.output
theorem Old.refl (w : World) : Old w w := ⟨Nat.le_refl _,fun _ _ => rfl,rfl,rfl,rfl⟩
theorem Old.trans {w0 w w' : World} (h : Old w0 w) (h' : Old w w') : Old w0 w' :=
 ⟨Nat.le_trans h.size h'.size,fun b hb => (h'.keep b (Nat.lt_of_lt_of_le hb h.size)).trans (h.keep b hb),h'.os.trans h.os,h'.tape.trans h.tape,h'.out.trans h.out⟩
theorem Old.drewN {w0 w : World} (h : Old w0 w) (n : Nat) : Old w0 (w.drewN n) := ⟨h.size,h.keep,h.os,h.tape,h.out⟩
theorem Old.of_chg {w0 w : World} (h : Chg (fun _ => False) w0 w) : Old w0 w := ⟨h.size,fun b hb => h.keep b hb id,h.os,h.tape,h.out⟩
def FzOk (fz : Nat × Nat) (n : Nat) : Prop := ∀ off,off < n → ¬ (fz.1 ≤ off ∧ off < fz.2)
def BlOk (σ : Sg) (g : Nat × Nat) (hp : Array Obj) : Bl → Prop
 | .ex T n cs => ∃ vs fz,hp[g.1]? = some (.cells (List.toArray vs) T fz) ∧ denL σ cs = some vs ∧ cs.length = n ∧ FzOk fz vs.length
 | .gr T e cs => ∃ vs rest fz,hp[g.1]? = some (.cells (List.toArray (vs ++ rest)) T fz) ∧ denL σ cs = some vs ∧ (vs ++ rest).length = g.2 * e ∧ FzOk fz (vs ++ rest).length
 | .ro T n cs => ∃ (vs : List Value) (fz : TypeId × Nat × Nat),hp[g.1]? = some (.cells (List.toArray vs) fz.1 fz.2) ∧ denL σ cs = some vs ∧ cs.length = n
def isRo : Bl → Bool | .ro .. => true | _ => false
theorem BlOk.ext {σ σ' : Sg} {g : Nat × Nat} {hp hp' : Array Obj} (he : Ext σ σ') (hh : hp'[g.1]? = hp[g.1]?) : ∀ {o : Bl},BlOk σ g hp o → BlOk σ' g hp' o
 | .ex T n cs,⟨vs,fz,h1,h2,h3,h4⟩ => ⟨vs,fz,hh.trans h1,denL_ext he _ _ h2,h3,h4⟩
 | .gr T e cs,⟨vs,r,fz,h1,h2,h3,h4⟩ => ⟨vs,r,fz,hh.trans h1,denL_ext he _ _ h2,h3,h4⟩
 | .ro T n cs,⟨vs,fz,h1,h2,h3⟩ => ⟨vs,fz,hh.trans h1,denL_ext he _ _ h2,h3⟩
theorem BlOk.lt {σ : Sg} {g : Nat × Nat} {hp : Array Obj} : ∀ {o : Bl},BlOk σ g hp o → g.1 < hp.size
 | .ex T n cs,⟨vs,fz,h1,_⟩ => (Array.getElem?_eq_some_iff.1 h1).1
 | .gr T e cs,⟨vs,r,fz,h1,_⟩ => (Array.getElem?_eq_some_iff.1 h1).1
 | .ro T n cs,⟨vs,fz,h1,_⟩ => (Array.getElem?_eq_some_iff.1 h1).1
structure Fresh (σ : Sg) (base n : Nat) (X : List Nat) (nx : Nat) : Prop where
 hi : ∀ b,nx ≤ b → σ b = none
 op : ∀ k,k < n → k ∉ X → σ (base + k) = none
 le : base + n ≤ nx
structure Lay (σ : Sg) (h : Hp) (w0 w : World) : Prop where
 srt : Srt h
 old : Old w0 w
 blk : ∀ b o,hget b h = some o → ∃ g,σ b = some g ∧ BlOk σ g w.heap o ∧ (isRo o = false → w0.heap.size ≤ g.1)
 inj : ∀ b b' o o' g g',hget b h = some o → hget b' h = some o' → σ b = some g → σ b' = some g' → g.1 = g'.1 → b = b'
theorem Lay.drewN {σ : Sg} {h : Hp} {w0 w : World} (L : Lay σ h w0 w) (n : Nat) : Lay σ h w0 (w.drewN n) := ⟨L.srt,L.old.drewN n,L.blk,L.inj⟩
theorem Lay.quiet {σ : Sg} {h : Hp} {w0 w w' : World} (L : Lay σ h w0 w) (hq : Old w w') : Lay σ h w0 w' :=
 ⟨L.srt,L.old.trans hq,fun b o hb => by
  obtain ⟨g,h1,h2,h3⟩ := L.blk b o hb
  exact ⟨g,h1,h2.ext (Ext.refl _) (hq.keep _ h2.lt),h3⟩,L.inj⟩
section
variable {P : Program} {σ : Sg} {h : Hp} {w0 w : World}
def Cells (w : World) (a off : Nat) (vs : List Value) : Prop := ∀ j x,vs[j]? = some x → w.cell? ⟨a,off + j,none⟩ = some x
theorem Cells.drewN {a off : Nat} {vs : List Value} (h : Cells w a off vs) (n : Nat) : Cells (w.drewN n) a off vs := h
theorem BlOk.cells {g : Nat × Nat} {o : Bl} (hb : BlOk σ g w.heap o) {cs : List AV} (hc : blC o (fun cs => some cs) = some cs) : ∃ vs,denL σ cs = some vs ∧ Cells w g.1 0 vs := by
 cases o with
 | ex T n c =>
  have hc : some c = some cs := hc
  cases hc
  obtain ⟨vs,fz,h1,h2,_⟩ := hb
  exact ⟨vs,h2,fun j x hj => cell_of_blk h1 (by simpa using hj)⟩
 | gr T n c =>
  have hc : some c = some cs := hc
  cases hc
  obtain ⟨vs,r,fz,h1,h2,_⟩ := hb
  exact ⟨vs,h2,fun j x hj => cell_of_blk h1 (by
   simp only [Nat.zero_add,List.getElem?_toArray]
   rw [List.getElem?_append_left (List.getElem?_eq_some_iff.1 hj).1]; exact hj)⟩
 | ro T n c =>
  have hc : some c = some cs := hc
  cases hc
  obtain ⟨vs,fz,h1,h2,_⟩ := hb
  exact ⟨vs,h2,fun j x hj => cell_of_blk h1 (by simpa using hj)⟩
theorem blC_some {o : Bl} {α : Type} {F : List AV → Option α} {r : α} (hc : blC o F = some r) : ∃ cs,blC o (fun cs => some cs) = some cs ∧ F cs = some r := by
 cases o <;> exact ⟨_,rfl,hc⟩
theorem Cells.part {a off : Nat} {vs : List Value} (hc : Cells w a 0 vs) (sz : Nat) : Cells w a off ((vs.drop off).take sz) := fun j x hj => by
 have hlt : j < sz := by
  have := (List.getElem?_eq_some_iff.1 hj).1
  simp only [List.length_take] at this; omega
 rw [List.getElem?_take_of_lt hlt,List.getElem?_drop] at hj
 have := hc (off + j) x hj
 rw [Nat.zero_add] at this; exact this
theorem blN_run {g : Nat × Nat} {o : Bl} (hb : BlOk σ g w.heap o) {off sz : Nat} {us : List AV} (hn : blN o off sz = some us) : ∃ vs,denL σ us = some vs ∧ vs.length = sz ∧ Cells w g.1 off vs := by
 have key : ∀ {c : List AV} {ws : List Value},denL σ c = some ws → Cells w g.1 0 ws → (ob (dropA off c) fun r => takeA sz r) = some us → ∃ vs,denL σ us = some vs ∧ vs.length = sz ∧ Cells w g.1 off vs := fun {c ws} hd hc h => by
  obtain ⟨r,h1,h2⟩ := ob_some.1 h
  obtain ⟨h3,rfl⟩ := dropA_eq _ _ h1
  obtain ⟨h4,rfl⟩ := takeA_eq _ _ h2
  have hl := denL_length hd
  exact ⟨(ws.drop off).take sz,denL_take sz (denL_drop off hd),by simp at h4 ⊢; omega,hc.part sz⟩
 have whole : ∀ {c : List AV} {n : Nat} {ws : List Value},denL σ c = some ws → c.length = n → Cells w g.1 0 ws → bif2 (band (Nat.beq off 0) (Nat.beq n sz)) (some c) (ob (dropA off c) fun r => takeA sz r) = some us → ∃ vs,denL σ us = some vs ∧ vs.length = sz ∧ Cells w g.1 off vs := fun {c n ws} hd hl hc h => by
  rw [bif2_if,band_eq] at h
  split at h
  ·rename_i hbb
   simp only [Bool.and_eq_true,beq_iff] at hbb
   obtain ⟨rfl,rfl⟩ := hbb
   cases h
   exact ⟨ws,hd,by rw [denL_length hd,hl],hc⟩
  ·exact key hd hc h
 cases o with
 | ex T n c =>
  obtain ⟨vs,h2,h3⟩ := hb.cells (cs := c) rfl
  obtain ⟨_,_,_,_,hl,_⟩ := hb
  exact whole h2 hl h3 hn
 | gr T n c =>
  obtain ⟨vs,h2,h3⟩ := hb.cells (cs := c) rfl
  exact key h2 h3 hn
 | ro T n c =>
  obtain ⟨vs,h2,h3⟩ := hb.cells (cs := c) rfl
  obtain ⟨_,_,_,_,hl⟩ := hb
  exact whole h2 hl h3 hn
theorem rdN_run (L : Lay σ h w0 w) {b off sz : Nat} {us : List AV} (hr : rdN b off sz h = some us) : ∃ g vs,σ b = some g ∧ denL σ us = some vs ∧ vs.length = sz ∧ Cells w g.1 off vs := by
 obtain ⟨o,h1,h2⟩ := ob_some.1 hr
 obtain ⟨g,h3,h4,_⟩ := L.blk b o h1
 obtain ⟨vs,h5,h6,h7⟩ := blN_run h4 h2
 exact ⟨g,vs,h3,h5,h6,h7⟩
theorem rd1_run (L : Lay σ h w0 w) {b off : Nat} {v : AV} (hr : rd1 b off h = some v) : ∃ g x,σ b = some g ∧ den σ v = some x ∧ Cells w g.1 off [x] := by
 obtain ⟨o,h1,h2⟩ := ob_some.1 hr
 obtain ⟨g,h3,h4,_⟩ := L.blk b o h1
 obtain ⟨cs,h5,h6⟩ := blC_some h2
 obtain ⟨vs,h7,h8⟩ := h4.cells h5
 rw [nthA_eq] at h6
 obtain ⟨x,h9,h10⟩ := denL_get h7 h6
 refine ⟨g,x,h3,h10,fun j y hj => ?_⟩
 cases j with
 | zero =>
  simp only [List.getElem?_cons_zero,Option.some.injEq] at hj
  subst hj
  have := h8 off x h9
  rw [Nat.zero_add] at this; exact this
 | succ j => simp at hj
def PinC (σ : Sg) (b off : Nat) (vs : List AV) (C : World → Prop) : Prop := ∀ (σ' : Sg) (h' : Hp) (w0' w' : World),Ext σ σ' → Lay σ' h' w0' w' → rdN b off vs.length h' = some vs → C w'
theorem bytes_of : ∀ {l : List AV} {s : List Nat},ofCells l = some s → ∀ {σ vs},denL σ l = some vs → s.all (fun c => Nat.blt c 256) = true ∧ vs = s.map fun c => .int .u8 (c : Nat)
 | [],s,h,σ,vs,hd => by
  have h : some [] = some s := h
  cases h
  simp only [denL,Option.some.injEq] at hd
  subst hd
  exact ⟨rfl,rfl⟩
 | v :: l,s,h,σ,vs,hd => by
  have h : (isN v fun k c => gd (Nat.beq k 4) (gd (Nat.blt c 256) (ob (ofCells l) fun r => some (c :: r)))) = some s := h
  obtain ⟨k,c,rfl,h1⟩ := isN_some.1 h
  obtain ⟨h2,h3⟩ := gd_some.1 h1
  obtain ⟨h4,h5⟩ := gd_some.1 h3
  obtain ⟨r,h6,h7⟩ := ob_some.1 h5
  cases h7
  rw [beq_iff] at h2; subst h2
  obtain ⟨x,rs,rfl,h8,h9⟩ := denL_cons_inv hd
  obtain ⟨h10,rfl⟩ := bytes_of h6 h9
  have := den_n h8
  subst this
  exact ⟨by rw [List.all_cons,h10,Bool.and_true]; exact h4,rfl⟩
theorem load_cells {w : World} {a off : Nat} {vs : List Value} (hc : Cells w a off vs) : (loadCells ⟨a,off,none⟩ vs.length).run P w = .ok vs.toArray w := by
 have key : ∀ (r i : Nat) (acc : Array Value),i + r = vs.length → acc = (vs.take i).toArray → (loadCellsFrom ⟨a,off,none⟩ i r acc).run P w = .ok vs.toArray w := by
  intro r
  induction r with
  | zero =>
   intro i acc hi hacc
   simp only [loadCellsFrom,Sem.run_pure]
   rw [hacc,List.take_of_length_le (by omega)]
  | succ r ih =>
   intro i acc hi hacc
   have hlt : i < vs.length := by omega
   have hcell := hc i vs[i] (by simp [hlt])
   simp only [loadCellsFrom,Sem.run_bind,load,add_at]
   rw [show (Sem.load Mode.plain ⟨a,off + i,none⟩ Sem.pure).run P w = .ok vs[i] w from by simp [Sem.run,hcell]]
   simp only [Result.andThen_ok]
   refine ih (i + 1) _ (by omega) ?_
   rw [hacc,List.take_add_one,List.getElem?_eq_getElem hlt]
   simp
 exact key vs.length 0 #[] (by omega) (by simp)
theorem b2s_run {w : World} {a off n c : Nat} {s : List Nat} (hc : Cells w a off (s.map fun c => .int .u8 (c : Nat))) (hn : n = s.length) (ha : s.all (fun c => Nat.blt c 256) = true) : (Conv.bytesToString (.slice (some ⟨a,off,none⟩) n c)).run P w = .ok (.string (strOf s)) w := by
 subst hn
 have hl := load_cells (P := P) hc
 simp only [List.length_map] at hl
 have e : (s.map fun c => Value.int .u8 (c : Nat)) = (s.map fun c => ((c : Nat) : Int)).map (Value.int .u8) := by simp
 rw [e] at hl
 rw [run_bytesToString w ⟨a,off,none⟩ s.length c _ hl]
 congr 2
 have key : ∀ (s : List Nat) (b : ByteArray),(s.map fun c => ((c : Nat) : Int)).foldl (fun r n => r.push (UInt8.ofNat n.toNat)) b = b ++ strOf s := by
  intro s
  induction s with
  | nil => intro b; apply ByteArray.ext; simp [strOf]
  | cons c s ih =>
   intro b
   simp only [List.map_cons,List.foldl_cons,ih,Int.toNat_natCast]
   apply ByteArray.ext
   simp [strOf,ByteArray.data_append,ByteArray.data_push]
 rw [key]
 apply ByteArray.ext
 simp [ByteArray.data_append]
def LOk (P : Program) (σ : Sg) (a : Act) (w : World) (op : Op) (v : AV) (b off : Nat) (vs : List AV) : Prop :=
 ∃ u C,den σ v = some u ∧ (∀ (w' : World) n,C w' → C (w'.drewN n)) ∧ C w ∧ PinC σ b off vs C ∧
  ∀ (dst : Option Tmp) (ty : TypeId) (ps : String) (af : Array Edge) (g : Option (Nat × Bool)) (w' : World),C w' → (execOp a.eval ⟨dst,op,ty,ps,af,g⟩).run P w' = .ok (.value u) w'
theorem pin_cells {b off : Nat} {us : List AV} {g : Nat × Nat} {vs : List Value} (hg : σ b = some g) (hd : denL σ us = some vs) : PinC σ b off us fun w' => Cells w' g.1 off vs := fun σ' h' w0' w' he L' hr => by
 obtain ⟨g',vs',h1,h2,_,h4⟩ := rdN_run L' hr
 rw [he b g hg] at h1
 cases h1
 rw [denL_ext he _ _ hd] at h2
 cases h2
 exact h4
variable {fn : List Nat} {ns : Ns} {e f : List AV} {a : Act} {tt : Nat → Option TI} {v : AV}
theorem lo_ok {α : Type} {o : Option α} {F : α → LR} {v : AV} {b off : Nat} {vs : List AV} (h : evL.lo o F = .ok v b off vs) : ∃ x,o = some x ∧ F x = .ok v b off vs := by
 cases o with
 | none => cases h
 | some x => exact ⟨x,rfl,h⟩
theorem lP_ok {p : AV} {F : Nat → Nat → LR} {v : AV} {b off : Nat} {vs : List AV} (h : evL.lP p F = .ok v b off vs) : ∃ b' o',p = .ptr b' o' ∧ F b' o' = .ok v b off vs := by
 cases p <;> first | exact ⟨_,_,rfl,h⟩ | cases h
theorem lL_ok {p : AV} {z : LR} {F : Nat → Nat → Nat → LR} {v : AV} {b off : Nat} {vs : List AV} (h : evL.lL p z F = .ok v b off vs) : ((p = .nils ∨ ∃ b o d q z,p = .emp b o d q z) ∧ z = .ok v b off vs) ∨ (∃ b' o' l' c',p = .sl b' o' l' c' ∧ F b' o' l' = .ok v b off vs) ∨ (∃ b' o' l' c',p = .su b' o' l' c' ∧ F b' o' l' = .ok v b off vs) := by
 cases p <;> first | exact .inl ⟨.inl rfl,h⟩ | exact .inl ⟨.inr ⟨_,_,_,_,_,rfl⟩,h⟩ | exact .inr (.inl ⟨_,_,_,_,rfl,h⟩) | exact .inr (.inr ⟨_,_,_,_,rfl,h⟩) | cases h
theorem cL_run (T : Tabs P tt) (hO : OpR σ fn ns e f a) (L : Lay σ h w0 w) {op : Op} {l : LD} {b off : Nat} {vs : List AV} (hc : cL tt fn ns op = some l) (hv : evL l e f h = .ok v b off vs) : LOk P σ a w op v b off vs := by
 unfold cL at hc
 split at hc
 ·
  split at hc
  ·rename_i ti o ht ho
   have hag := (T.ty _ _ ht).isAgg
   have hsz := (T.ty _ _ ht).size
   cases hag' : ti.agg with
   | true =>
    rw [hag'] at hc hag; cases hc
    have hv : (evL.lo (evO o e f) fun p => evL.lP p fun b off => evL.lo (rdN b off ti.sz h) fun vs => .ok (.agg vs) b off vs) = .ok v b off vs := hv
    obtain ⟨p,h1,h2⟩ := lo_ok hv
    obtain ⟨b',o',rfl,h3⟩ := lP_ok h2
    obtain ⟨us,h4,h5⟩ := lo_ok h3
    cases h5
    obtain ⟨g,hg,hX⟩ := den_ptr (hO _ _ _ ho h1)
    obtain ⟨g',ws,h6,h7,h8,h9⟩ := rdN_run L h4
    rw [hg] at h6; cases h6
    refine ⟨.agg ws.toArray,fun w' => Cells w' g.1 off ws,by simp only [den,h7],fun _ n hC => hC.drewN n,h9,pin_cells hg h7,fun dst ty ps af gg w' hC => ?_⟩
    have hl := load_cells (P := P) hC
    rw [h8] at hl
    simp only [execOp,hX,Instr.loadAt,Instr.sureAddr,Sem.run_bind,Sem.run_pure,Result.andThen_ok,loadVar,hag w',hsz w',if_true,hl]
   | false =>
    rw [hag'] at hc hag; cases hc
    have hv : (evL.lo (evO o e f) fun p => evL.lP p fun b off => evL.lo (rd1 b off h) fun v => .ok v b off [v]) = .ok v b off vs := hv
    obtain ⟨p,h1,h2⟩ := lo_ok hv
    obtain ⟨b',o',rfl,h3⟩ := lP_ok h2
    obtain ⟨u,h4,h5⟩ := lo_ok h3
    cases h5
    obtain ⟨g,hg,hX⟩ := den_ptr (hO _ _ _ ho h1)
    obtain ⟨g',x,h6,h7,h9⟩ := rd1_run L h4
    rw [hg] at h6; cases h6
    refine ⟨x,fun w' => Cells w' g.1 off [x],h7,fun _ n hC => hC.drewN n,h9,pin_cells hg (denL_cons h7 denL_nil),fun dst ty ps af gg w' hC => ?_⟩
    have hcell := hC 0 x rfl
    simp only [Nat.add_zero] at hcell
    simp only [execOp,hX,Instr.loadAt,Instr.sureAddr,Sem.run_bind,Sem.run_pure,Result.andThen_ok,loadVar,hag w',Bool.false_eq_true,if_false,load]
    rw [show (Sem.load Mode.plain ⟨g.1,off,none⟩ Sem.pure).run P w' = .ok x w' from by simp [Sem.run,hcell]]
    rfl
  ·cases hc
 ·
  split at hc
  ·rename_i S Td ox _ _ el sz eb z hS hT
   obtain ⟨tiS,htS,hkS⟩ := map_kd hS
   obtain ⟨dS,hdS,hkkS⟩ := (T.ty _ _ htS).under
   rw [hkS] at hkkS
   obtain ⟨rfl,_,hu8⟩ := hkkS
   have hu8 := hu8 rfl
   obtain ⟨tiT,htT,hkT⟩ := map_kd hT
   obtain ⟨dT,hdT,hkkT⟩ := (T.ty _ _ htT).under
   rw [hkT] at hkkT
   have hkkT : dT = .string := hkkT
   subst hkkT
   obtain ⟨o,ho,rfl⟩ := Option.map_eq_some_iff.1 hc
   have hv : (evL.lo (evO o e f) fun s => evL.lL s (.ok (.str []) 0 0 []) fun b off len => evL.lo (rdN b off len h) fun vs => evL.lo (ofCells vs) fun s => .ok (.str s) b off vs) = .ok v b off vs := hv
   obtain ⟨p,h1,h2⟩ := lo_ok hv
   have hX0 := hO _ _ _ ho h1
   have run : ∀ (A : Option Addr) (n c : Nat) (u : ByteArray) (w' : World),a.eval ox = .slice A n c → (Conv.bytesToString (.slice A n c)).run P w' = .ok (.string u) w' → ∀ (dst : Option Tmp) (ty : TypeId) (ps : String) (af : Array Edge) (g : Option (Nat × Bool)),(execOp a.eval ⟨dst,.convert S Td ox,ty,ps,af,g⟩).run P w' = .ok (.value (.string u)) w' := fun A n c u w' hX hr dst ty ps af g => by
    simp only [execOp,hX,Sem.run_bind,run_convert_bytes_string w' S Td el A n c hdS hu8 hdT,hr,Result.andThen_ok,Sem.run_pure]
   have cells : ∀ (b' o' l' : Nat) (g : Nat × Nat) (c : Nat),σ b' = some g → a.eval ox = .slice (some ⟨g.1,o',none⟩) l' c → (evL.lo (rdN b' o' l' h) fun vs => evL.lo (ofCells vs) fun s => LR.ok (.str s) b' o' vs) = .ok v b off vs → LOk P σ a w (.convert S Td ox) v b off vs := fun b' o' l' g c hg hX h3 => by
    obtain ⟨us,h4,h5⟩ := lo_ok h3
    obtain ⟨s,h6,h7⟩ := lo_ok h5
    cases h7
    obtain ⟨g',ws,h8,h9,h10,h11⟩ := rdN_run L h4
    rw [hg] at h8; cases h8
    obtain ⟨h12,rfl⟩ := bytes_of h6 h9
    refine ⟨_,fun w' => Cells w' g.1 off (s.map fun c => .int .u8 (c : Nat)),den_str h12,fun _ n hC => hC.drewN n,h11,pin_cells hg h9,fun dst ty ps af gg w' hC => ?_⟩
    exact run _ _ _ _ w' hX (b2s_run hC (by simpa using h10.symm) h12) dst ty ps af gg
   rcases lL_ok h2 with ⟨hz,h3⟩ | ⟨b',o',l',c',rfl,h3⟩ | ⟨b',o',l',c',rfl,h3⟩
   ·cases h3
    refine ⟨.string (strOf []),fun _ => True,den_str rfl,fun _ _ _ => trivial,trivial,fun _ _ _ _ _ _ _ => trivial,fun dst ty ps af gg w' _ => ?_⟩
    rcases hz with rfl | ⟨_,_,_,_,_,rfl⟩
    ·exact run _ _ _ _ w' (den_nils hX0) (by rfl) dst ty ps af gg
    ·obtain ⟨g,_,_,hX⟩ := den_emp hX0
     exact run _ _ _ _ w' hX (b2s_run (s := []) (fun j x hj => by simp at hj) rfl rfl) dst ty ps af gg
   ·obtain ⟨g,hg,hX⟩ := den_sl hX0
    exact cells b' o' l' g _ hg hX h3
   ·obtain ⟨g,hg,_,hX⟩ := den_su hX0
    exact cells b' o' l' g _ hg hX h3
  ·cases hc
 ·cases hc
end
end Go.Proofs.YteajeenmojbjhaaGreatDoor.Ev
namespace Go.Proofs.YteajeenmojbjhaaGreatDoor.Ev
open Go Fw
structure Only (a : Nat) (o : Obj) (w w' : World) : Prop where
 at_ : w'.heap[a]? = some o
 size : w'.heap.size = w.heap.size
 keep : ∀ b,b ≠ a → w'.heap[b]? = w.heap[b]?
 os : w'.os = w.os
 tape : w'.tape = w.tape
 out : w'.output = w.output
section
variable {P : Program} {σ : Sg} {h h' : Hp} {w0 w : World} {base n nx : Nat} {X : List Nat}
theorem oneA_den {v : AV} {x : Value} (h1 : oneA v = true) (hd : den σ v = some x) : oneC x = true := by
 cases v <;> first
  | (cases h1; done)
  | (simp only [den,Option.some.injEq] at hd; subst hd; rfl)
  | (obtain ⟨rfl,_⟩ := str_inv hd; rfl)
  | (obtain ⟨g,_,rfl⟩ := den_ptr hd; rfl)
  | (obtain ⟨g,_,rfl⟩ := den_sl hd; rfl)
  | (obtain ⟨g,_,_,rfl⟩ := den_su hd; rfl)
  | (obtain ⟨g,_,_,rfl⟩ := den_emp hd; rfl)
  | (obtain ⟨A,B,_,_,rfl⟩ := den_fn hd; rfl)
  | (obtain ⟨U,_,rfl⟩ := den_ifc hd; rfl)
theorem ones_den : ∀ {l : List AV} {xs : List Value},ones l = true → denL σ l = some xs → ∀ x ∈ xs,oneC x = true
 | [],xs,_,hd => by simp only [denL,Option.some.injEq] at hd; subst hd; simp
 | v :: l,xs,h1,hd => by
  have h1 : (Bool.rec (motive := fun _ => Bool) false (ones l) (oneA v)) = true := h1
  obtain ⟨x,r,rfl,h2,h3⟩ := denL_cons_inv hd
  cases hv : oneA v with
  | false => rw [hv] at h1; cases h1
  | true =>
   rw [hv] at h1
   intro y hy
   rcases List.mem_cons.1 hy with rfl | hy
   ·exact oneA_den hv h2
   ·exact ones_den h1 h3 y hy
theorem store_cells {a off : Nat} {T : TypeId} {fz : Nat × Nat} : ∀ (vs : List Value) (i : Nat) (cs : Array Value) (w : World),w.heap[a]? = some (.cells cs T fz) → off + i + vs.length ≤ cs.size → FzOk fz cs.size → (∀ v ∈ vs,oneC v = true) →
  ∃ w',(storeCells ⟨a,off,none⟩ vs i).run P w = .ok () w' ∧ Only a (.cells (setCells cs (off + i) vs) T fz) w w'
 | [],i,cs,w,hb,_,_,_ => ⟨w,by simp [storeCells],hb,rfl,fun _ _ => rfl,rfl,rfl,rfl⟩
 | v :: vs,i,cs,w,hb,hl,hf,h1 => by
  simp only [List.length_cons] at hl
  have hlt : off + i < cs.size := by omega
  have hc : w.cell? ⟨a,off + i,none⟩ = some cs[off + i] := cell_of_blk hb (by simp [hlt])
  have hfr : w.frozen? ⟨a,off + i,none⟩ = false := by
   have := hf (off + i) hlt
   simp only [World.frozen?,hb]
   simpa using this
  have hst : (store ⟨a,off + i,none⟩ v).run P w = .ok () (w.setCell ⟨a,off + i,none⟩ v) := by
   have := h1 v List.mem_cons_self
   unfold store
   cases v <;> first
    | (cases this; done)
    | simp [Sem.run,hc,hfr]
  have hal : a < w.heap.size := (Array.getElem?_eq_some_iff.1 hb).1
  have hbe : w.heap[a] = .cells cs T fz := by rw [Array.getElem?_eq_getElem hal] at hb; exact Option.some.inj hb
  have hb1 : (w.setCell ⟨a,off + i,none⟩ v).heap[a]? = some (.cells (cs.setIfInBounds (off + i) v) T fz) := by
   simp only [World.setCell,Array.getElem?_modify,if_true,hb,Option.map_some,Option.isSome_none,Bool.false_eq_true,if_false]
  obtain ⟨w',hr,ho⟩ := store_cells (off := off) vs (i + 1) _ _ hb1 (by simp; omega) (by simpa using hf) (fun u hu => h1 u (List.mem_cons_of_mem _ hu))
  refine ⟨w',?_,?_,?_,fun b hne => ?_,ho.os,ho.tape,ho.out⟩
  ·simp only [storeCells,add_at,Sem.run_bind,hst,Result.andThen_ok,hr]
  ·have := ho.at_
   rw [← Nat.add_assoc] at this
   exact this
  ·rw [ho.size]; simp [World.setCell]
  ·rw [ho.keep b hne]
   simp [World.setCell,Array.getElem?_modify,Ne.symm hne]
theorem Lay.only (L : Lay σ h w0 w) {b : Nat} {o o' : Bl} {g : Nat × Nat} {ob : Obj} {w' : World} (hb : hget b h = some o) (hr : isRo o = false) (hg : σ b = some g) (hs : hset b o' h = some h') (hr' : isRo o' = false) (ho : Only g.1 ob w w') (hok : BlOk σ g w'.heap o') : Lay σ h' w0 w' := by
 obtain ⟨_,hget'⟩ := hset_get hs
 obtain ⟨g0,h1,h2,h3⟩ := L.blk b o hb
 rw [hg] at h1; cases h1
 have hge := h3 hr
 refine ⟨hset_srt L.srt hs,⟨by rw [ho.size]; exact L.old.size,fun c hc => ?_,ho.os.trans L.old.os,ho.tape.trans L.old.tape,ho.out.trans L.old.out⟩,fun c oc hc => ?_,fun c c' oc oc' gc gc' h4 h5 h6 h7 h8 => ?_⟩
 ·rw [ho.keep c (by omega)]; exact L.old.keep c hc
 ·rw [hget'] at hc
  by_cases hcb : c = b
  ·subst hcb
   rw [if_pos rfl] at hc
   cases hc
   exact ⟨g,hg,hok,fun _ => hge⟩
  ·rw [if_neg hcb] at hc
   obtain ⟨gc,h4,h5,h6⟩ := L.blk c oc hc
   refine ⟨gc,h4,h5.ext (Ext.refl _) (ho.keep _ fun e => hcb (L.inj c b oc o gc g hc hb h4 hg e)),h6⟩
 ·have k1 : ∃ o1,hget c h = some o1 := by
   rw [hget'] at h4
   split at h4
   ·rename_i e; subst e; exact ⟨o,hb⟩
   ·exact ⟨_,h4⟩
  have k2 : ∃ o2,hget c' h = some o2 := by
   rw [hget'] at h5
   split at h5
   ·rename_i e; subst e; exact ⟨o,hb⟩
   ·exact ⟨_,h5⟩
  obtain ⟨o1,k1⟩ := k1
  obtain ⟨o2,k2⟩ := k2
  exact L.inj c c' o1 o2 gc gc' k1 k2 h6 h7 h8
def upd (σ : Sg) (q : Nat) (g : Nat × Nat) : Sg := fun b => if b = q then some g else σ b
theorem upd_self {q : Nat} {g : Nat × Nat} : upd σ q g q = some g := by simp [upd]
theorem upd_ext {q : Nat} {g : Nat × Nat} (hq : σ q = none) : Ext σ (upd σ q g) := fun b g' hb => by
 unfold upd
 split
 ·rename_i e; subst e; rw [hq] at hb; cases hb
 ·exact hb
structure Aft (σ σ' : Sg) (base n : Nat) (X : List Nat) (k nx' : Nat) : Prop where
 fr : Fresh σ' base n (k :: X) nx'
 low : ∀ b,b < base → σ' b = σ b
theorem Fresh.use {k : Nat} {g : Nat × Nat} (F : Fresh σ base n X nx) (hk : k < n) : Aft σ (upd σ (base + k) g) base n X k nx := by
 have := F.le
 refine ⟨⟨fun b hb => ?_,fun k' hk' hX => ?_,F.le⟩,fun b hb => ?_⟩
 ·unfold upd; rw [if_neg (by omega)]; exact F.hi b hb
 ·have hne : k' ≠ k := fun e => hX (by rw [e]; exact List.mem_cons_self)
  unfold upd; rw [if_neg (by omega)]; exact F.op k' hk' fun h => hX (List.mem_cons_of_mem _ h)
 ·unfold upd; rw [if_neg (by omega)]
theorem Fresh.skip {k : Nat} (F : Fresh σ base n X nx) : Aft σ σ base n X k nx := ⟨⟨F.hi,fun k' hk' hX => F.op k' hk' fun h => hX (List.mem_cons_of_mem _ h),F.le⟩,fun _ _ => rfl⟩
theorem Lay.new (L : Lay σ h w0 w) {q κ : Nat} {o' : Bl} {ob : Obj} {w' : World} (hq : σ q = none) (hn : hnew q o' h = some h') (hw : w'.heap = w.heap.push ob) (hos : w'.os = w.os) (htp : w'.tape = w.tape) (hout : w'.output = w.output)
  (hok : BlOk (upd σ q (w.heap.size,κ)) (w.heap.size,κ) w'.heap o') : Lay (upd σ q (w.heap.size,κ)) h' w0 w' := by
 have hget' := hnew_get hn
 have he := upd_ext (g := (w.heap.size,κ)) hq
 have hsame : ∀ b,b < w.heap.size → w'.heap[b]? = w.heap[b]? := fun b hb => by
  rw [hw,Array.getElem?_push_lt hb]; simp [hb]
 refine ⟨hnew_srt L.srt hn,L.old.trans ⟨by rw [hw]; simp,hsame,hos,htp,hout⟩,fun c oc hc => ?_,fun c c' oc oc' gc gc' h4 h5 h6 h7 h8 => ?_⟩
 ·rw [hget'] at hc
  by_cases hcq : c = q
  ·subst hcq
   rw [if_pos rfl] at hc
   cases hc
   exact ⟨_,upd_self,hok,fun _ => L.old.size⟩
  ·rw [if_neg hcq] at hc
   obtain ⟨g,h1,h2,h3⟩ := L.blk c oc hc
   exact ⟨g,he _ _ h1,h2.ext he (hsame _ h2.lt),h3⟩
 ·have other : ∀ {c oc gc},c ≠ q → hget c h' = some oc → upd σ q (w.heap.size,κ) c = some gc → ∃ o1,hget c h = some o1 ∧ σ c = some gc ∧ gc.1 < w.heap.size := fun {c oc gc} hne h1 h2 => by
   rw [hget',if_neg hne] at h1
   have h2 : σ c = some gc := by
    unfold upd at h2
    rwa [if_neg hne] at h2
   obtain ⟨g,h3,h4,_⟩ := L.blk c oc h1
   rw [h2] at h3; cases h3
   exact ⟨oc,h1,h2,h4.lt⟩
  by_cases hc : c = q
  ·by_cases hc' : c' = q
   ·rw [hc,hc']
   ·obtain ⟨_,_,_,hlt⟩ := other hc' h5 h7
    subst hc
    rw [upd_self] at h6; cases h6
    simp only at h8; omega
  ·obtain ⟨o1,k1,k2,hlt⟩ := other hc h4 h6
   by_cases hc' : c' = q
   ·subst hc'
    rw [upd_self] at h7; cases h7
    simp only at h8; omega
   ·obtain ⟨o2,k3,k4,_⟩ := other hc' h5 h7
    exact L.inj c c' o1 o2 gc gc' k1 k3 k2 k4 h8
theorem Lay.del (L : Lay σ h w0 w) {b : Nat} (hd : hdel b h = some h') : Lay σ h' w0 w := by
 obtain ⟨h1,h2⟩ := hdel_srt L.srt hd
 have hg : ∀ c oc,hget c h' = some oc → hget c h = some oc := fun c oc hc => by
  by_cases hcb : c = b
  ·subst hcb; rw [h2] at hc; cases hc
  ·exact hdel_get hd c oc hcb hc
 exact ⟨h1,L.old,fun c oc hc => L.blk c oc (hg _ _ hc),fun c c' oc oc' g g' k1 k2 => L.inj c c' oc oc' g g' (hg _ _ k1) (hg _ _ k2)⟩
theorem Lay.move (L : Lay σ h w0 w) {b q : Nat} {o o' : Bl} {g : Nat × Nat} {ob : Obj} {h1 : Hp} {w' : World} (hb : hget b h = some o) (hr : isRo o = false) (hg : σ b = some g) (hd : hdel b h = some h1) (hn : hnew q o' h1 = some h') (hq : σ q = none) (ho : Only g.1 ob w w') (hok : BlOk (upd σ q g) g w'.heap o') : Lay (upd σ q g) h' w0 w' := by
 have L1 := L.del hd
 obtain ⟨_,hnone⟩ := hdel_srt L.srt hd
 obtain ⟨g0,k1,k2,k3⟩ := L.blk b o hb
 rw [hg] at k1; cases k1
 have hge := k3 hr
 have hget' := hnew_get hn
 have he := upd_ext (g := g) hq
 have old : ∀ {c oc gc},c ≠ q → hget c h' = some oc → upd σ q g c = some gc → hget c h1 = some oc ∧ σ c = some gc ∧ gc.1 ≠ g.1 := fun {c oc gc} hne h2 h3 => by
  rw [hget',if_neg hne] at h2
  have h3 : σ c = some gc := by
   unfold upd at h3
   rwa [if_neg hne] at h3
  have hcb : c ≠ b := fun e => by subst e; rw [hnone] at h2; cases h2
  exact ⟨h2,h3,fun e => hcb (L.inj c b oc o gc g (hdel_get hd c oc hcb h2) hb h3 hg e)⟩
 refine ⟨hnew_srt L1.srt hn,⟨by rw [ho.size]; exact L.old.size,fun c hc => ?_,ho.os.trans L.old.os,ho.tape.trans L.old.tape,ho.out.trans L.old.out⟩,fun c oc hc => ?_,fun c c' oc oc' gc gc' h4 h5 h6 h7 h8 => ?_⟩
 ·rw [ho.keep c (by omega)]; exact L.old.keep c hc
 ·by_cases hcq : c = q
  ·subst hcq
   rw [hget',if_pos rfl] at hc
   cases hc
   exact ⟨g,upd_self,hok,fun _ => hge⟩
  ·have hc1 := hc
   rw [hget',if_neg hcq] at hc
   obtain ⟨gc,h4,h5,h6⟩ := L1.blk c oc hc
   exact ⟨gc,he _ _ h4,h5.ext he (ho.keep _ (old hcq hc1 (he _ _ h4)).2.2),h6⟩
 ·by_cases hc : c = q
  ·by_cases hc' : c' = q
   ·rw [hc,hc']
   ·obtain ⟨_,_,hne⟩ := old hc' h5 h7
    subst hc
    rw [upd_self] at h6; cases h6
    exact absurd h8.symm hne
  ·obtain ⟨k4,k5,hne⟩ := old hc h4 h6
   by_cases hc' : c' = q
   ·subst hc'
    rw [upd_self] at h7; cases h7
    exact absurd h8 hne
   ·obtain ⟨k6,k7,_⟩ := old hc' h5 h7
    exact L1.inj c c' oc oc' gc gc' k4 k6 k5 k7 h8
end
end Go.Proofs.YteajeenmojbjhaaGreatDoor.Ev
namespace Go.Proofs.YteajeenmojbjhaaGreatDoor.Ev
open Go Fw
section
variable (P : Program) (σ : Sg) (h : Hp) (w0 : World) (a : Act) (base n : Nat) (X : List Nat) (nx k : Nat)
def MOk (op : Op) (r : MR) : Prop := ∀ v h' nx',r = .ok v h' nx' → ∀ w,Lay σ h w0 w → Fresh σ base n X nx → k < n → k ∉ X → ∀ (dst : Option Tmp) (ty : TypeId) (ps : String) (af : Array Edge) (g : Option (Nat × Bool)),
 Goes P (fun u w' => ∃ σ',Ext σ σ' ∧ den σ' v = some u ∧ Lay σ' h' w0 w' ∧ Aft σ σ' base n X k nx') ((execOp a.eval ⟨dst,op,ty,ps,af,g⟩).run P w)
end
section
variable {P : Program} {σ : Sg} {h : Hp} {w0 : World} {a : Act} {base n : Nat} {X : List Nat} {nx k : Nat} {fn : List Nat} {ns : Ns} {e f : List AV} {tt : Nat → Option TI}
variable {call : Nat → List AV → Hp → Nat → MR} {pf : Nat → List AV → Option AV}
theorem om_ok {α : Type} {o : Option α} {F : α → MR} {v : AV} {h' : Hp} {nx' : Nat} (hh : om o F = .ok v h' nx') : ∃ x,o = some x ∧ F x = .ok v h' nx' := by
 cases o with
 | none => cases hh
 | some x => exact ⟨x,rfl,hh⟩
theorem gm_ok {b : Bool} {r : MR} {v : AV} {h' : Hp} {nx' : Nat} (hh : gm b r = .ok v h' nx') : b = true ∧ r = .ok v h' nx' := by
 cases b with
 | false => cases hh
 | true => exact ⟨rfl,hh⟩
theorem toM_ok {o : Option MR} {v : AV} {h' : Hp} {nx' : Nat} (hh : toM o = .ok v h' nx') : o = some (.ok v h' nx') := by
 cases o with
 | none => cases hh
 | some x => exact congrArg some hh
theorem fz0 (n : Nat) : FzOk (0,0) n := fun _ _ h => absurd h.2 (Nat.not_lt_zero _)
theorem mk_new {w : World} (L : Lay σ h w0 w) (F : Fresh σ base n X nx) (hk : k < n) (hX : k ∉ X) {T sz κ : Nat} {cs : List AV} {vs : List Value} {h' : Hp} (hn : hnew (base + k) (.ex T sz cs) h = some h') (hd : denL σ cs = some vs) (hl : cs.length = sz) :
  Ext σ (upd σ (base + k) (w.heap.size,κ)) ∧ Lay (upd σ (base + k) (w.heap.size,κ)) h' w0 { w with heap := w.heap.push (.cells vs.toArray T) } ∧ Aft σ (upd σ (base + k) (w.heap.size,κ)) base n X k nx := by
 have hq : σ (base + k) = none := F.op k hk hX
 have he := upd_ext (g := (w.heap.size,κ)) hq
 exact ⟨he,L.new hq hn rfl rfl rfl rfl ⟨vs,(0,0),by simp,denL_ext he _ _ hd,hl,fz0 _⟩,F.use hk⟩
theorem m_al {T : Nat} {ti : TI} (ht : TyOk P T ti) (hs : ti.z.length = ti.sz) : MOk P σ h w0 a base n X nx k (.alloc T) (evM call pf (.al T ti.sz ti.z) (base + k) e f h nx) := by
 intro v h' nx' hr w L F hk hX dst ty ps af g
 have hr : om (hnew (base + k) (.ex T ti.sz ti.z) h) (fun h' => .ok (.ptr (base + k) 0) h' nx) = .ok v h' nx' := hr
 obtain ⟨h1,h2,h3⟩ := om_ok hr
 cases h3
 obtain ⟨zv,z1,_,_,z2⟩ := ht.zero
 obtain ⟨he,L',F'⟩ := mk_new (κ := 0) L F hk hX h2 (z1 σ) hs
 have hrun : (Instr.alloc T true (.tuple #[])).run P w = .ok (.pointer (some ⟨w.heap.size,0,none⟩)) { w with heap := w.heap.push (.cells zv.cells T) } := by
  simp [Instr.alloc,z2,newVar,newRow,newObj,Sem.run]
 simp only [execOp,Sem.run_bind,hrun,Result.andThen_ok,Sem.run_pure,Goes]
 refine ⟨_,he,den_mkptr upd_self,?_,F'⟩
 simpa using L'
theorem m_box (hO : OpR σ fn ns e f a) {T : Nat} {ti : TI} {x : Operand} {o : O} (hx : cO fn ns x = some o) : MOk P σ h w0 a base n X nx k (.box T x) (evM call pf (.box T ti.sz o) (base + k) e f h nx) := by
 intro v h' nx' hr w L F hk hX dst ty ps af g
 have hr : om (evO o e f) (fun v => gm (Nat.beq (len2 (cellsA v)) ti.sz) (om (hnew (base + k) (.ex T ti.sz (cellsA v)) h) fun h' => .ok (.ptr (base + k) 0) h' nx)) = .ok v h' nx' := hr
 obtain ⟨u,h1,h2⟩ := om_ok hr
 obtain ⟨h3,h4⟩ := gm_ok h2
 obtain ⟨h5,h6,h7⟩ := om_ok h4
 cases h7
 rw [beq_iff,len2_eq] at h3
 have hX' := hO _ _ _ hx h1
 obtain ⟨he,L',F'⟩ := mk_new (κ := 0) L F hk hX h6 (cells_den hX') h3
 simp only [execOp,Instr.box,newVar,newRow,newObj,Sem.run_bind,Sem.run,Result.andThen_ok,Goes,Sem.run_pure]
 refine ⟨_,he,den_mkptr upd_self,?_,F'⟩
 simpa using L'
theorem wr1_run {w : World} (L : Lay σ h w0 w) {b off : Nat} {g : Nat × Nat} {u : AV} {x : Value} {h' : Hp} (hg : σ b = some g) (hd : den σ u = some x) (hw : wr1 b off u h = some h') : ∃ w',(storeCells ⟨g.1,off,none⟩ [x]).run P w = .ok () w' ∧ Lay σ h' w0 w' := by
 have hw : gd (oneA u) (ob (hget b h) fun o => ob (blW o fun cs => setA off cs u) fun o' => hset b o' h) = some h' := hw
 obtain ⟨h0,h1⟩ := gd_some.1 hw
 obtain ⟨o,h2,h3⟩ := ob_some.1 h1
 obtain ⟨o',h4,h5⟩ := ob_some.1 h3
 obtain ⟨g',k1,k2,_⟩ := L.blk b o h2
 rw [hg] at k1; cases k1
 have hone := oneA_den h0 hd
 cases o with
 | ex T m cs =>
  have h4 : ob (setA off cs u) (fun c => some (Bl.ex T m c)) = some o' := h4
  obtain ⟨c,h6,h7⟩ := ob_some.1 h4
  cases h7
  obtain ⟨h8,rfl⟩ := setA_eq _ _ _ h6
  obtain ⟨vs,fz,k3,k4,k5,k6⟩ := k2
  have hl := denL_length k4
  obtain ⟨w',hr,ho⟩ := store_cells (P := P) (off := off) [x] 0 vs.toArray w k3 (by simp; omega) (by simpa using k6) (by simpa using hone)
  have e : setCells vs.toArray (off + 0) [x] = (vs.set off x).toArray := by simp [setCells]
  rw [e] at ho
  exact ⟨w',hr,L.only h2 rfl hg h5 rfl ho ⟨_,fz,ho.at_,denL_set k4 hd,by simpa using k5,by simpa using k6⟩⟩
 | gr T m cs =>
  have h4 : ob (setA off cs u) (fun c => some (Bl.gr T m c)) = some o' := h4
  obtain ⟨c,h6,h7⟩ := ob_some.1 h4
  cases h7
  obtain ⟨h8,rfl⟩ := setA_eq _ _ _ h6
  obtain ⟨vs,rest,fz,k3,k4,k5,k6⟩ := k2
  have hl := denL_length k4
  obtain ⟨w',hr,ho⟩ := store_cells (P := P) (off := off) [x] 0 (vs ++ rest).toArray w k3 (by simp; omega) (by simpa using k6) (by simpa using hone)
  have e : setCells (vs ++ rest).toArray (off + 0) [x] = (vs.set off x ++ rest).toArray := by
   simp only [setCells,Nat.add_zero,List.setIfInBounds_toArray]
   rw [List.set_append,if_pos (by omega)]
  rw [e] at ho
  exact ⟨w',hr,L.only h2 rfl hg h5 rfl ho ⟨_,rest,fz,ho.at_,denL_set k4 hd,by simpa using k5,by simpa using k6⟩⟩
 | ro T m cs => cases h4
theorem over_append {α : Type} {l r vs : List α} {k : Nat} (h : k + vs.length ≤ l.length) : over (l ++ r) k vs = over l k vs ++ r := by
 unfold over
 rw [List.take_append_of_le_length (by omega),List.drop_append_of_le_length (by omega)]
 simp
theorem over_length {α : Type} {l vs : List α} {k : Nat} (h : k + vs.length ≤ l.length) : (over l k vs).length = l.length := by
 unfold over; simp; omega
theorem over_all {α : Type} {l vs : List α} (h : vs.length = l.length) : over l 0 vs = vs := by
 unfold over; simp [h]
theorem wrN_run {w : World} (L : Lay σ h w0 w) {b off sz : Nat} {g : Nat × Nat} {us : List AV} {xs : List Value} {h' : Hp} (hg : σ b = some g) (hd : denL σ us = some xs) (hl : us.length = sz) (hw : wrN b off sz us h = some h') : ∃ w',(storeCells ⟨g.1,off,none⟩ xs).run P w = .ok () w' ∧ Lay σ h' w0 w' := by
 have hw : gd (ones us) (ob (hget b h) fun o => ob (blS o off sz us) fun o' => hset b o' h) = some h' := hw
 obtain ⟨h0,h1⟩ := gd_some.1 hw
 obtain ⟨o,h2,h3⟩ := ob_some.1 h1
 obtain ⟨o',h4,h5⟩ := ob_some.1 h3
 obtain ⟨g',k1,k2,_⟩ := L.blk b o h2
 rw [hg] at k1; cases k1
 have hone := ones_den h0 hd
 have hxl := denL_length hd
 cases o with
 | ex T m cs =>
  obtain ⟨vs,fz,k3,k4,k5,k6⟩ := k2
  have hvl := denL_length k4
  have h4' : bif2 (band (Nat.beq off 0) (Nat.beq m sz)) (some (Bl.ex T m us)) (ob (overA off us cs) fun c => some (.ex T m c)) = some o' := h4
  clear h4
  have key : off + us.length ≤ cs.length ∧ o' = .ex T m (over cs off us) := by
   rw [bif2_if,band_eq] at h4'
   split at h4'
   ·rename_i hb
    simp only [Bool.and_eq_true,beq_iff] at hb
    obtain ⟨rfl,rfl⟩ := hb
    cases h4'
    rw [over_all (by omega)]
    exact ⟨by omega,rfl⟩
   ·obtain ⟨c,h6,h7⟩ := ob_some.1 h4'
    cases h7
    obtain ⟨h8,rfl⟩ := overA_eq _ _ _ h6
    exact ⟨h8,rfl⟩
  obtain ⟨hle,rfl⟩ := key
  obtain ⟨w',hr,ho⟩ := store_cells (P := P) (off := off) xs 0 vs.toArray w k3 (by simp; omega) (by simpa using k6) hone
  rw [setCells_over _ _ _ (by simp; omega),Nat.add_zero] at ho
  simp only [List.toList_toArray] at ho
  exact ⟨w',hr,L.only h2 rfl hg h5 rfl ho ⟨_,fz,ho.at_,denL_over k4 hd,by rw [over_length hle]; exact k5,by rw [over_length (by omega)]; exact k6⟩⟩
 | gr T m cs =>
  obtain ⟨vs,rest,fz,k3,k4,k5,k6⟩ := k2
  have hvl := denL_length k4
  have h4 : ob (overA off us cs) (fun c => some (Bl.gr T m c)) = some o' := h4
  obtain ⟨c,h6,h7⟩ := ob_some.1 h4
  cases h7
  obtain ⟨hle,rfl⟩ := overA_eq _ _ _ h6
  obtain ⟨w',hr,ho⟩ := store_cells (P := P) (off := off) xs 0 (vs ++ rest).toArray w k3 (by simp; omega) (by simpa using k6) hone
  rw [setCells_over _ _ _ (by simp; omega),Nat.add_zero] at ho
  simp only [List.toList_toArray] at ho
  rw [over_append (by omega)] at ho
  have hl2 : (over vs off xs ++ rest).length = (vs ++ rest).length := by rw [List.length_append,over_length (by omega),List.length_append]
  exact ⟨w',hr,L.only h2 rfl hg h5 rfl ho ⟨_,rest,fz,ho.at_,denL_over k4 hd,by rw [hl2]; exact k5,by rw [hl2]; exact k6⟩⟩
 | ro T m cs => cases h4
theorem m_st1 (hO : OpR σ fn ns e f a) {T : Nat} {ti : TI} (ht : TyOk P T ti) (hs : ti.sz = 1) {p x : Operand} {op ox : O} (hp : cO fn ns p = some op) (hx : cO fn ns x = some ox) : MOk P σ h w0 a base n X nx k (.store T p x) (evM call pf (.st1 op ox) (base + k) e f h nx) := by
 intro v h' nx' hr w L F hk hX dst ty ps af g
 have hr := toM_ok (o := ob (evO op e f) fun p => ob (evO ox e f) fun v => isP p fun b off => ob (wr1 b off v h) fun h' => some (.ok .undef h' nx)) hr
 obtain ⟨q,h1,h2⟩ := ob_some.1 hr
 obtain ⟨u,h3,h4⟩ := ob_some.1 h2
 obtain ⟨b,off,rfl,h5⟩ := isP_some.1 h4
 obtain ⟨h'',h6,h7⟩ := ob_some.1 h5
 cases h7
 obtain ⟨gg,hg,hP⟩ := den_ptr (hO _ _ _ hp h1)
 have hV := hO _ _ _ hx h3
 obtain ⟨w',hst,L'⟩ := wr1_run (P := P) L hg hV h6
 have h0 : oneA u = true := (gd_some.1 h6).1
 have hcells : (a.eval x).cells = #[a.eval x] := by have := oneA_den h0 hV; revert this; cases a.eval x <;> first | (intro _; rfl) | (intro h; cases h)
 simp only [execOp,hP,Instr.storeAt,Instr.sureAddr,Sem.run_bind,Sem.run_pure,Result.andThen_ok,storeVar,ht.size w,hcells,hs,List.size_toArray,List.length_singleton,ne_eq,not_true,if_false,hst,Goes]
 exact ⟨σ,Ext.refl _,by simp only [den,undef],L',F.skip⟩
theorem m_stN (hO : OpR σ fn ns e f a) {T : Nat} {ti : TI} (ht : TyOk P T ti) {p x : Operand} {op ox : O} (hp : cO fn ns p = some op) (hx : cO fn ns x = some ox) : MOk P σ h w0 a base n X nx k (.store T p x) (evM call pf (.stN ti.sz op ox) (base + k) e f h nx) := by
 intro v h' nx' hr w L F hk hX dst ty ps af g
 have hr := toM_ok (o := ob (evO op e f) fun p => ob (evO ox e f) fun v => isP p fun b off => isA v fun vs => gd (Nat.beq (len2 vs) ti.sz) (ob (wrN b off ti.sz vs h) fun h' => some (.ok .undef h' nx))) hr
 obtain ⟨q,h1,h2⟩ := ob_some.1 hr
 obtain ⟨u,h3,h4⟩ := ob_some.1 h2
 obtain ⟨b,off,rfl,h5⟩ := isP_some.1 h4
 obtain ⟨us,rfl,h6⟩ := isA_some.1 h5
 obtain ⟨h7,h8⟩ := gd_some.1 h6
 obtain ⟨h'',h9,h10⟩ := ob_some.1 h8
 cases h10
 rw [beq_iff,len2_eq] at h7
 obtain ⟨gg,hg,hP⟩ := den_ptr (hO _ _ _ hp h1)
 obtain ⟨xs,hd,hV⟩ := den_agg (hO _ _ _ hx h3)
 obtain ⟨w',hst,L'⟩ := wrN_run (P := P) L hg hd h7 h9
 have hxl := denL_length hd
 have hsz : (Value.agg xs.toArray).cells.size = ti.sz := by simp [Value.cells]; omega
 simp only [execOp,hP,hV,Instr.storeAt,Instr.sureAddr,Sem.run_bind,Sem.run_pure,Result.andThen_ok,storeVar,ht.size w,hsz,ne_eq,not_true,if_false]
 simp only [Value.cells,List.toList_toArray,hst,Goes]
 exact ⟨σ,Ext.refl _,by simp only [den,undef],L',F.skip⟩
end
end Go.Proofs.YteajeenmojbjhaaGreatDoor.Ev
namespace Go.Proofs.YteajeenmojbjhaaGreatDoor.Ev
open Go Fw
section
variable {P : Program} {σ : Sg} {h : Hp} {w0 : World} {a : Act} {base n : Nat} {X : List Nat} {nx k : Nat} {fn : List Nat} {ns : Ns} {e f : List AV} {tt : Nat → Option TI}
variable {call : Nat → List AV → Hp → Nat → MR} {pf : Nat → List AV → Option AV}
theorem range_zero (z : Array Value) : ∀ m : Nat,(List.range (m * z.size)).map (fun i => z[i % z.size]!) = (List.replicate m z.toList).flatten
 | 0 => by simp
 | m + 1 => by
  rw [Nat.add_mul,Nat.one_mul,List.range_add,List.map_append,range_zero z m,List.replicate_succ',List.flatten_append]
  congr 1
  simp only [List.map_map,List.flatten_cons,List.flatten_nil,List.append_nil]
  apply List.ext_getElem?
  intro i
  simp only [List.getElem?_map,List.getElem?_range',Function.comp,Array.getElem?_toList]
  rcases Nat.lt_or_ge i z.size with hi | hi
  ·rw [List.getElem?_range hi]
   simp only [Option.map_some,Nat.mul_add_mod_self_right,Nat.mod_eq_of_lt hi]
   simp [hi,Nat.mod_eq_of_lt hi]
  ·rw [List.getElem?_eq_none (by simpa using hi),Array.getElem?_eq_none hi]; rfl
theorem zero_cells (z : Array Value) (m : Nat) : Builtin.zeroCells z m = (List.replicate m z.toList).flatten.toArray := by
 apply Array.toList_inj.1
 rw [← range_zero z m]
 simp [Builtin.zeroCells]
theorem denL_rep {z : List AV} {zs : List Value} (hz : denL σ z = some zs) : ∀ m : Nat,denL σ (List.replicate m z).flatten = some (List.replicate m zs).flatten
 | 0 => denL_nil
 | m + 1 => by
  simp only [List.replicate_succ,List.flatten_cons]
  exact denL_append hz (denL_rep hz m)
theorem rep_length {α : Type} (z : List α) (m : Nat) : (List.replicate m z).flatten.length = m * z.length := by
 induction m with
 | zero => simp
 | succ m ih => rw [List.replicate_succ,List.flatten_cons,List.length_append,ih,Nat.add_mul]; omega
inductive Src (P : Program) (w : World) (U : TypeId) (sz eb : Nat) (zc : Array Value) (x : Value) (m : Nat) (VS : List Value) : Prop
 | sl (E' : TypeId) (A : Option Addr) (c : Nat) (hU : P.underlying U = some (.slice E')) (hx : x = .slice A m c) (hr : (Builtin.firstCells sz m x).run P w = .ok VS.toArray w) (hr1 : (Builtin.firstCells sz m x).run P (w.drewN 1) = .ok VS.toArray (w.drewN 1))
 | str (s : ByteArray) (hU : P.underlying U = some .string) (hx : x = .string s) (hs : s.size = m) (hr : ∀ w,(Builtin.firstCells sz m x).run P w = .ok VS.toArray w)
 | zer (K K' : IntKind) (hU : P.underlying U = some (.int K)) (hx : x = .int K' (m : Nat)) (hm : m < 1073741824) (hb : m * eb < 1073741824) (hz : VS = (List.replicate m zc.toList).flatten)
structure ElT (P : Program) (T E : TypeId) (sz eb : Nat) (zv : Value) : Prop where
 u : P.underlying T = some (.slice E)
 szr : ∀ w,(sizeOf E).run P w = .ok sz w
 ti : ∃ i,i.bytes = eb ∧ ∀ w,(typeInfo E).run P w = .ok i w
 z : ∀ w,(zeroValue E).run P w = .ok zv w
 pos : 0 < eb
 zs : zv.cells.size = sz
theorem app_in {T U E ty : TypeId} {sz eb m : Nat} {zv x : Value} {VS : List Value} (hT : ElT P T E sz eb zv) {w w' : World} (hs : Src P w U sz eb zv.cells x m VS) {base : Option Addr} {len cap : Nat} (hfit : len + m ≤ cap)
  (hst : match base with | some A => (storeCells (A.add (len * sz)) VS).run P w = .ok () w' | none => w' = w) : (Builtin.append_ #[T,U] ty #[.slice base len cap,x]).run P w = .ok (.slice base (len + m) cap) w' := by
 obtain ⟨hu,hsz,⟨i,hib,hti⟩,hz,hpos,hzs⟩ := hT
 unfold Builtin.append_
 rcases hs with ⟨E',A,c,hU,rfl,hr,hr1⟩ | ⟨s,hU,rfl,rfl,hr⟩ | ⟨K,K',hU,rfl,hm,hmb,rfl⟩
 ·simp only [List.getElem?_toArray,List.getElem?_cons_zero,List.getElem?_cons_succ,Sem.run_bind,run_underlying hu,run_underlying hU,hsz,Result.andThen_ok,Sem.run_pure,Bool.false_eq_true,if_false,Builtin.lenOf]
  rw [if_pos hfit]
  simp only [Bool.not_false,if_true,Sem.run_bind,hr,Result.andThen_ok,Sem.run_pure]
  cases base with
  | none => simp only at hst; subst hst; simp
  | some A => simp only at hst; simp [hst]
 ·simp only [List.getElem?_toArray,List.getElem?_cons_zero,List.getElem?_cons_succ,Sem.run_bind,run_underlying hu,run_underlying hU,hsz,Result.andThen_ok,Sem.run_pure,Bool.false_eq_true,if_false,Builtin.lenOf]
  rw [if_pos hfit]
  simp only [Bool.not_false,if_true,Sem.run_bind,hr,Result.andThen_ok,Sem.run_pure]
  cases base with
  | none => simp only at hst; subst hst; simp
  | some A => simp only at hst; simp [hst]
 ·have hwr : IntKind.i64.wrap (m : Int) = m := wrap_in ⟨by omega,by omega⟩
  have hneg : ¬ ((m : Int) < 0) := by omega
  have hbig : ¬ ((m : Int) * (i.bytes : Int) > 2 ^ 48) := by
   rw [hib]
   have : (m : Int) * (eb : Int) ≤ 2 ^ 48 := by exact_mod_cast (by omega : m * eb ≤ 2 ^ 48)
   omega
  simp only [List.getElem?_toArray,List.getElem?_cons_zero,List.getElem?_cons_succ,Sem.run_bind,run_underlying hu,run_underlying hU,hsz,Result.andThen_ok,Sem.run_pure,if_true,asInt,asIntOf,hwr,hneg,if_false,hti,hbig,Int.toNat_natCast]
  rw [if_pos hfit]
  by_cases h0 : m * sz = 0
  ·have hVS : (List.replicate m zv.cells.toList).flatten = [] := List.eq_nil_of_length_eq_zero (by rw [rep_length]; simpa [hzs] using h0)
   rw [hVS] at hst
   simp only [Bool.not_true,Bool.false_eq_true,if_false,h0,if_true,Sem.run_bind,Sem.run_pure,Result.andThen_ok]
   cases base with
   | none => simp only at hst; subst hst; simp
   | some A => simp only at hst; simp [hst]
  ·simp only [Bool.not_true,Bool.false_eq_true,if_false,h0,Sem.run_bind,Sem.run_pure,Result.andThen_ok,hz,zero_cells]
   cases base with
   | none => simp only at hst; subst hst; simp
   | some A => simp only at hst; simp [hst]
theorem app_new {T U E ty : TypeId} {sz eb m : Nat} {zv x : Value} {VS : List Value} (hT : ElT P T E sz eb zv) {w : World} (hs : Src P w U sz eb zv.cells x m VS) {base : Option Addr} {len cap : Nat} {OS : List Value} (hno : cap < len + m) (hb : (len + m) * eb < 1073741824)
  (hold : (Builtin.firstCells sz len (.slice base len cap)).run P (w.drewN 1) = .ok OS.toArray (w.drewN 1)) :
  ∃ nc,len + m ≤ nc ∧ (Builtin.append_ #[T,U] ty #[.slice base len cap,x]).run P w = .ok (.slice (some ⟨w.heap.size,0,none⟩) (len + m) nc) { (w.drewN 1) with heap := w.heap.push (.cells (OS ++ VS ++ (List.replicate (nc - (len + m)) zv.cells.toList).flatten).toArray E) } := by
 obtain ⟨hu,hsz,⟨i,hib,hti⟩,hz,hpos,hzs⟩ := hT
 have hnd : (len + m) < 1073741824 := Nat.lt_of_le_of_lt (Nat.le_mul_of_pos_right _ hpos) hb
 have hcapb : ¬ (Builtin.nextslicecap (len + m) cap * eb > 2 ^ 48) := by
  have h1 := nextslicecap_le hno
  have h2 := Nat.mul_le_mul_right eb h1
  have h3 : 2 * (len + m) * eb = 2 * ((len + m) * eb) := by rw [Nat.mul_assoc]
  omega
 let nc := (Question.appendCap (len + m) cap E).cut (w.tape w.drawn (.appendCap (len + m) cap E))
 have hch : (choose (.appendCap (len + m) cap E)).run P w = .ok nc (w.drewN 1) := by
  simp [choose,Sem.run,Question.forced,World.drewN,nc]
 have hask : ∀ q (w : World),(askRoom q).run P w = .ok () w := fun q w => by
  unfold askRoom; split <;> simp [mark,Sem.run]
 have hncge : len + m ≤ nc := by simp [nc,Question.cut]
 refine ⟨nc,hncge,?_⟩
 unfold Builtin.append_
 rcases hs with ⟨E',A,c,hU,rfl,hr,hr1⟩ | ⟨s,hU,rfl,rfl,hr⟩ | ⟨K,K',hU,rfl,hm,hmb,rfl⟩
 ·simp only [List.getElem?_toArray,List.getElem?_cons_zero,List.getElem?_cons_succ,Sem.run_bind,run_underlying hu,run_underlying hU,hsz,Result.andThen_ok,Sem.run_pure,Bool.false_eq_true,if_false,Builtin.lenOf]
  rw [if_neg (by omega)]
  simp only [Sem.run_bind,hti,Result.andThen_ok,Bool.not_false,if_true,Sem.run_ite,Sem.run_pure]
  rw [if_neg (by rintro ⟨h,_⟩; have : IntKind.i64.max = 9223372036854775807 := by decide
                 omega),if_neg (by rw [hib]; exact hcapb)]
  simp only [hch,Result.andThen_ok,hask,hold,hr1,hz,zero_cells]
  simp only [newRow,newObj,Sem.run_bind,Sem.run,Result.andThen_ok,Sem.run_pure]
  simp [World.drewN]; rfl
 ·simp only [List.getElem?_toArray,List.getElem?_cons_zero,List.getElem?_cons_succ,Sem.run_bind,run_underlying hu,run_underlying hU,hsz,Result.andThen_ok,Sem.run_pure,Bool.false_eq_true,if_false,Builtin.lenOf]
  rw [if_neg (by omega)]
  simp only [Sem.run_bind,hti,Result.andThen_ok,Bool.not_false,if_true,Sem.run_ite,Sem.run_pure]
  rw [if_neg (by rintro ⟨h,_⟩; have : IntKind.i64.max = 9223372036854775807 := by decide
                 omega),if_neg (by rw [hib]; exact hcapb)]
  simp only [hch,Result.andThen_ok,hask,hold,hr,hz,zero_cells]
  simp only [newRow,newObj,Sem.run_bind,Sem.run,Result.andThen_ok,Sem.run_pure]
  simp [World.drewN]; rfl
 ·have hwr : IntKind.i64.wrap (m : Int) = m := wrap_in ⟨by omega,by omega⟩
  have hneg : ¬ ((m : Int) < 0) := by omega
  have hbig : ¬ ((m : Int) * (i.bytes : Int) > 2 ^ 48) := by
   rw [hib]
   have : (m : Int) * (eb : Int) ≤ 2 ^ 48 := by exact_mod_cast (by omega : m * eb ≤ 2 ^ 48)
   omega
  simp only [List.getElem?_toArray,List.getElem?_cons_zero,List.getElem?_cons_succ,Sem.run_bind,run_underlying hu,run_underlying hU,hsz,Result.andThen_ok,Sem.run_pure,if_true,asInt,asIntOf,hwr,hneg,if_false,hti,hbig,Int.toNat_natCast]
  rw [if_neg (by omega)]
  simp only [Sem.run_bind,hti,Result.andThen_ok,Bool.not_true,Bool.false_eq_true,if_true,if_false,Sem.run_ite,Sem.run_pure]
  rw [if_neg (by rintro ⟨h,_⟩; have : IntKind.i64.max = 9223372036854775807 := by decide
                 omega),if_neg (by rw [hib]; exact hcapb)]
  by_cases h0 : m * sz = 0
  ·have hVS : (List.replicate m zv.cells.toList).flatten = [] := List.eq_nil_of_length_eq_zero (by rw [rep_length]; simpa [hzs] using h0)
   rw [hVS]
   simp only [h0,if_true,hch,Result.andThen_ok,hask,hold,hz,zero_cells,Sem.run_pure]
   simp only [newRow,newObj,Sem.run_bind,Sem.run,Result.andThen_ok,Sem.run_pure]
   simp [World.drewN]; rfl
  ·simp only [h0,if_false,hch,Result.andThen_ok,hask,hold,hz,zero_cells,Sem.run_pure,Sem.run_bind]
   simp only [newRow,newObj,Sem.run_bind,Sem.run,Result.andThen_ok,Sem.run_pure]
   simp [World.drewN]; rfl
theorem first_sl {w : World} {A : Option Addr} {n' c : Nat} {sz : Nat} {xs : List Value} (h1 : ∀ p,A = some p → ∃ b off,p = ⟨b,off,none⟩ ∧ Cells w b off xs) (h2 : A = none → xs = []) (hl : xs.length = n' * sz) : (Builtin.firstCells sz n' (.slice A n' c)).run P w = .ok xs.toArray w := by
 cases A with
 | none => rw [h2 rfl]; rfl
 | some p =>
  obtain ⟨b,off,rfl,hc⟩ := h1 p rfl
  have := load_cells (P := P) hc
  rw [hl] at this
  exact this
theorem slC_run {w : World} (L : Lay σ h w0 w) {sz : Nat} {s : AV} {K : Nat → List AV → Option MR} {r : MR} {S : Value} (hd : den σ s = some S) (hh : slC sz s h K = some r) : ∃ m vs xs A c,K m vs = some r ∧ S = .slice A m c ∧ denL σ vs = some xs ∧ xs.length = m * sz ∧ (∀ p,A = some p → ∃ b off,p = ⟨b,off,none⟩ ∧ Cells w b off xs) ∧ (A = none → xs = []) := by
 rcases isL_some.1 hh with ⟨rfl,h1⟩ | ⟨b,off,len,cap,rfl,h1⟩ | ⟨b,off,len,d,rfl,h1⟩ | ⟨b,off,d,p,z,rfl,h1⟩
 ·exact ⟨0,[],[],none,0,h1,den_nils hd,denL_nil,by simp,(fun _ e => by cases e),fun _ => rfl⟩
 ·obtain ⟨vs,h2,h3⟩ := ob_some.1 h1
  obtain ⟨g,xs,h4,h5,h6,h7⟩ := rdN_run L h2
  obtain ⟨g',h8,h9⟩ := den_sl hd
  rw [h4] at h8; cases h8
  exact ⟨len,vs,xs,_,cap,h3,h9,h5,h6,(fun q e => by cases e; exact ⟨_,_,rfl,h7⟩),fun e => by cases e⟩
 ·obtain ⟨vs,h2,h3⟩ := ob_some.1 h1
  obtain ⟨g,xs,h4,h5,h6,h7⟩ := rdN_run L h2
  obtain ⟨g',h8,_,h9⟩ := den_su hd
  rw [h4] at h8; cases h8
  exact ⟨len,vs,xs,_,_,h3,h9,h5,h6,(fun q e => by cases e; exact ⟨_,_,rfl,h7⟩),fun e => by cases e⟩
 ·obtain ⟨g',h8,_,h9⟩ := den_emp hd
  exact ⟨0,[],[],_,_,h1,h9,denL_nil,by simp,(fun q e => by cases e; exact ⟨_,_,rfl,fun j x hj => by simp at hj⟩),fun _ => rfl⟩
theorem append_run {w : World} (L : Lay σ h w0 w) (F : Fresh σ base n X nx) (hk : k < n) (hX : k ∉ X) {T U E ty : TypeId} {sz eb m : Nat} {zv S x : Value} {s v : AV} {vs : List AV} {VS : List Value} {h' : Hp} {nx' : Nat} (hT : ElT P T E sz eb zv) (hsrc : Src P w U sz eb zv.cells x m VS)
  (hS : den σ s = some S) (hvs : denL σ vs = some VS) (hvl : VS.length = m * sz) (hap : append E sz eb (base + k) s m vs h nx = some (.ok v h' nx')) :
  ∃ u w' σ',(Builtin.append_ #[T,U] ty #[S,x]).run P w = .ok u w' ∧ Ext σ σ' ∧ den σ' v = some u ∧ Lay σ' h' w0 w' ∧ Aft σ σ' base n X k nx' := by
 have hq : σ (base + k) = none := F.op k hk hX
 have mk : ∀ (bs : Option Addr) (len cap : Nat) (old : List AV) (OS : List Value),S = .slice bs len cap → cap < len + m → denL σ old = some OS → OS.length = len * sz → (Builtin.firstCells sz len (.slice bs len cap)).run P (w.drewN 1) = .ok OS.toArray (w.drewN 1) → append.new E sz eb (base + k) m vs h nx len old = some (.ok v h' nx') →
   ∃ u w' σ',(Builtin.append_ #[T,U] ty #[S,x]).run P w = .ok u w' ∧ Ext σ σ' ∧ den σ' v = some u ∧ Lay σ' h' w0 w' ∧ Aft σ σ' base n X k nx' := fun bs len cap old OS hS' hno hod hol hold hn => by
  have hn : (ob (appA old vs) fun c => gd (Nat.blt (Nat.mul (Nat.add len m) eb) 1073741824) (ob (hnew (base + k) (.gr E sz c) h) fun h' => fN (Nat.add len m) fun l => some (MR.ok (.su (base + k) 0 l 0) h' nx))) = some (.ok v h' nx') := hn
  rw [appA_eq] at hn
  obtain ⟨c,h1,h2⟩ := ob_some.1 hn
  cases h1
  obtain ⟨h3,h4⟩ := gd_some.1 h2
  obtain ⟨hh,h5,h6⟩ := ob_some.1 h4
  rw [fN_eq] at h6
  cases h6
  rw [blt_iff] at h3
  have h3 : (len + m) * eb < 1073741824 := h3
  obtain ⟨nc,hnc,hrun⟩ := app_new (ty := ty) hT hsrc hno h3 hold
  rw [← hS'] at hrun
  have he := upd_ext (g := (w.heap.size,nc)) hq
  have hzl := hT.zs
  refine ⟨_,_,_,hrun,he,?_,L.new (κ := nc) hq h5 rfl rfl rfl rfl ⟨OS ++ VS,(List.replicate (nc - (len + m)) zv.cells.toList).flatten,(0,0),by simp,denL_ext he _ _ (denL_append hod hvs),?_,fz0 _⟩,F.use hk⟩
  ·show den _ (.su (base + k) 0 (len + m) 0) = _
   simp only [den,upd_self]
   rw [if_pos (by simpa using hnc)]; simp
  ·simp only [List.length_append,rep_length,Array.length_toList,hol,hvl,hzl]
   rw [← Nat.add_mul,← Nat.add_mul]
   congr 1; omega
 unfold append at hap
 rw [bif2_if] at hap
 split at hap
 ·
  rename_i h0
  rw [beq_iff] at h0; subst h0
  have hV0 : VS = [] := List.eq_nil_of_length_eq_zero (by simpa using hvl)
  subst hV0
  have stay : ∀ (bs : Option Addr) (len cap : Nat),S = .slice bs len cap → len ≤ cap → some (MR.ok s h nx) = some (.ok v h' nx') → ∃ u w' σ',(Builtin.append_ #[T,U] ty #[S,x]).run P w = .ok u w' ∧ Ext σ σ' ∧ den σ' v = some u ∧ Lay σ' h' w0 w' ∧ Aft σ σ' base n X k nx' := fun bs len cap hS' hle he => by
   cases he
   have := app_in (ty := ty) (w' := w) hT hsrc (base := bs) (len := len) (cap := cap) (by omega) (by cases bs with | none => rfl | some A => simp [storeCells])
   rw [← hS',Nat.add_zero,← hS'] at this
   exact ⟨S,w,σ,this,Ext.refl _,hS,L,F.skip⟩
  rcases isL_some.1 hap with ⟨rfl,h1⟩ | ⟨b,off,len,cap,rfl,h1⟩ | ⟨b,off,len,d,rfl,h1⟩ | ⟨b,off,d,p,z,rfl,h1⟩
  ·exact stay _ _ _ (den_nils hS) (Nat.le_refl _) h1
  ·obtain ⟨h2,h3⟩ := gd_some.1 h1
   rw [ble_iff] at h2
   obtain ⟨g,_,h4⟩ := den_sl hS
   exact stay _ _ _ h4 h2 h3
  ·obtain ⟨g,_,hle,h4⟩ := den_su hS
   exact stay _ _ _ h4 (by omega) h1
  ·obtain ⟨g,_,hle,h4⟩ := den_emp hS
   exact stay _ _ _ h4 (Nat.zero_le _) h1
 ·rename_i h0
  have hm0 : 0 < m := by
   rcases Nat.eq_zero_or_pos m with h | h
   ·exact absurd (beq_iff.2 h) h0
   ·exact h
  rcases isL_some.1 hap with ⟨rfl,h1⟩ | ⟨b,off,len,cap,rfl,h1⟩ | ⟨b,off,len,d,rfl,h1⟩ | ⟨b,off,d,p,z,rfl,h1⟩
  ·exact mk none 0 0 [] [] (den_nils hS) (by omega) denL_nil (by simp) rfl h1
  ·obtain ⟨g,hg,hS'⟩ := den_sl hS
   rw [bif2_if] at h1
   split at h1
   ·rename_i hfit
    rw [ble_iff] at hfit
    obtain ⟨hh,h2,h3⟩ := ob_some.1 h1
    rw [fN_eq] at h3
    cases h3
    obtain ⟨w',hst,L'⟩ := wrN_run (P := P) L hg hvs (by rw [← denL_length hvs,hvl]; rfl) h2
    have := app_in (ty := ty) (w' := w') hT hsrc (base := some ⟨g.1,off,none⟩) (len := len) (cap := cap) hfit (by simp only [add_at]; exact hst)
    rw [← hS'] at this
    exact ⟨_,w',σ,this,Ext.refl _,den_mksl hg,L',F.skip⟩
   ·rename_i hfit
    rw [ble_iff] at hfit
    obtain ⟨h2,h3⟩ := gd_some.1 h1
    obtain ⟨old,h4,h5⟩ := ob_some.1 h3
    obtain ⟨g',OS,h6,h7,h8,h9⟩ := rdN_run L h4
    rw [hg] at h6; cases h6
    have hfit' : ¬ len + m ≤ cap := hfit
    exact mk _ len cap old OS hS' (by omega) h7 h8 (first_sl (fun p e => by cases e; exact ⟨_,_,rfl,h9.drewN 1⟩) (fun e => by cases e) h8) h5
  ·obtain ⟨g,hg,hle,hS'⟩ := den_su hS
   obtain ⟨h2,h3⟩ := gd_some.1 h1
   rw [band_eq,Bool.and_eq_true,beq_iff,beq_iff] at h2
   obtain ⟨rfl,rfl⟩ := h2
   obtain ⟨o,h4,h5⟩ := ob_some.1 h3
   cases o with
   | ex T' c cs => cases h5
   | ro T' c cs => cases h5
   | gr T' ee cs =>
    have h5 : gd (ones vs) (gd (band (Nat.beq E T') (Nat.beq ee sz)) (ob (takeA (Nat.mul len sz) cs) fun old => ob (hdel b h) fun h' => ob (appA old vs) fun c => gd (Nat.blt (Nat.mul (Nat.add len m) eb) 1073741824) (ob (hnew (base + k) (.gr E sz c) h') fun h'' => fN (Nat.add len m) fun l => some (MR.ok (.su (base + k) 0 l 0) h'' nx)))) = some (.ok v h' nx') := h5
    obtain ⟨hone,h5'⟩ := gd_some.1 h5
    obtain ⟨h6,h7⟩ := gd_some.1 h5'
    rw [band_eq,Bool.and_eq_true,beq_iff,beq_iff] at h6
    obtain ⟨rfl,rfl⟩ := h6
    obtain ⟨old,h8,h9⟩ := ob_some.1 h7
    obtain ⟨hd1,h10,h11⟩ := ob_some.1 h9
    rw [appA_eq] at h11
    obtain ⟨c,h12,h13⟩ := ob_some.1 h11
    cases h12
    obtain ⟨h14,h15⟩ := gd_some.1 h13
    obtain ⟨hn1,h16,h17⟩ := ob_some.1 h15
    rw [fN_eq] at h17
    cases h17
    rw [blt_iff] at h14
    have h14 : (len + m) * eb < 1073741824 := h14
    obtain ⟨htl,rfl⟩ := takeA_eq _ _ h8
    have htl : len * ee ≤ cs.length := htl
    obtain ⟨g',k1,k2,_⟩ := L.blk b _ h4
    rw [hg] at k1; cases k1
    obtain ⟨ws,rest,fz,k3,k4,k5,k6⟩ := k2
    have hwl := denL_length k4
    have hod : denL σ (cs.take (len * ee)) = some (ws.take (len * ee)) := denL_take _ k4
    have hol : (ws.take (len * ee)).length = len * ee := by rw [List.length_take]; omega
    by_cases hfit : len + m ≤ g.2
    ·
     have hfl : len * ee + VS.length ≤ (ws ++ rest).length := by
      rw [k5,hvl,← Nat.add_mul]; exact Nat.mul_le_mul_right _ hfit
     obtain ⟨w',hst,ho⟩ := store_cells (P := P) (off := 0 + len * ee) VS 0 (ws ++ rest).toArray w k3 (by simp only [List.size_toArray]; omega) (by simpa using k6) (ones_den hone hvs)
     rw [setCells_over _ _ _ (by simp only [List.size_toArray]; omega)] at ho
     have hin := app_in (ty := ty) (w' := w') hT hsrc (base := some ⟨g.1,0,none⟩) (len := len) (cap := g.2 - 0) hfit (by simp only [add_at]; exact hst)
     rw [← hS'] at hin
     have he := upd_ext (g := g) hq
     refine ⟨_,w',_,hin,he,?_,L.move (q := base + k) (g := g) h4 rfl hg h10 h16 hq ho ⟨ws.take (len * ee) ++ VS,(ws ++ rest).drop (len * ee + VS.length),fz,?_,denL_ext he _ _ (denL_append hod hvs),?_,?_⟩,F.use hk⟩
     ·show den _ (.su (base + k) 0 (len + m) 0) = _
      simp only [den,upd_self]
      rw [if_pos (by simpa using hfit)]
     ·have hat := ho.at_
      simp only [List.toList_toArray,Nat.zero_add,Nat.add_zero] at hat
      rw [hat]
      unfold over
      rw [List.take_append_of_le_length (by omega)]
     ·have : (ws.take (len * ee) ++ VS ++ (ws ++ rest).drop (len * ee + VS.length)).length = (ws ++ rest).length := by
       rw [List.length_append,List.length_append,hol,List.length_drop]; omega
      rw [this]; exact k5
     ·have : (ws.take (len * ee) ++ VS ++ (ws ++ rest).drop (len * ee + VS.length)).length = (ws ++ rest).length := by
       rw [List.length_append,List.length_append,hol,List.length_drop]; omega
      rw [this]; exact k6
    ·
     have hcells : Cells w g.1 0 (ws.take (len * ee)) := fun j x hj => cell_of_blk k3 (by
      have hlt := (List.getElem?_eq_some_iff.1 hj).1
      rw [hol] at hlt
      rw [List.getElem?_take_of_lt hlt] at hj
      simp only [Nat.zero_add,List.getElem?_toArray]
      rw [List.getElem?_append_left (by omega)]; exact hj)
     obtain ⟨nc,hnc,hrun⟩ := app_new (ty := ty) (OS := ws.take (len * ee)) hT hsrc (base := some ⟨g.1,0,none⟩) (len := len) (cap := g.2 - 0) (by omega) h14 (first_sl (fun p e => by cases e; exact ⟨_,_,rfl,hcells.drewN 1⟩) (fun e => by cases e) hol)
     rw [← hS'] at hrun
     have he := upd_ext (g := (w.heap.size,nc)) hq
     have hzl := hT.zs
     refine ⟨_,_,_,hrun,he,?_,(L.del h10).new (κ := nc) hq h16 rfl rfl rfl rfl ⟨ws.take (len * ee) ++ VS,(List.replicate (nc - (len + m)) zv.cells.toList).flatten,(0,0),by simp,denL_ext he _ _ (denL_append hod hvs),?_,fz0 _⟩,F.use hk⟩
     ·show den _ (.su (base + k) 0 (len + m) 0) = _
      simp only [den,upd_self]
      rw [if_pos (by simpa using hnc)]; simp
     ·simp only [List.length_append,rep_length,Array.length_toList,hol,hvl,hzl]
      rw [← Nat.add_mul,← Nat.add_mul]
      congr 1; omega
  ·obtain ⟨g,hg,hle,hS'⟩ := den_emp hS
   obtain ⟨h2,h3⟩ := gd_some.1 h1
   subst h2
   simp only [if_true] at hS'
   exact mk _ 0 0 [] [] hS' (by omega) denL_nil (by simp) (first_sl (fun p e => by cases e; exact ⟨_,_,rfl,fun j x hj => by simp at hj⟩) (fun e => by cases e) (by simp)) h3
end
end Go.Proofs.YteajeenmojbjhaaGreatDoor.Ev
