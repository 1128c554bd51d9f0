/-
 The program's rows that are compared; what is asked of functions that the model has.
-/
import Derived.Test.YteajeenmojbjhaaGreatDoorP10
import Derived.Test.YteajeenmojbjhaaGreatDoorP3
import Derived.Lib.Bytealg
import Derived.Test.YteajeenmojbjhaaGreatDoorP5
import Derived.Test.YteajeenmojbjhaaGreatDoorP7
import Derived.Test.YteajeenmojbjhaaGreatDoorProg
import Derived.Recover
import Derived.KernelRfl
namespace Go.Proofs.YteajeenmojbjhaaGreatDoor.Ev
open Go Fw
theorem eqRow_nil {a b : List AV} {r : Bool} (h : eqRow [] a b = some r) : a = [] ∧ b = [] ∧ r = true := by
 cases a with
 | nil =>
  cases b with
  | nil => have h : some true = some r := h; cases h; exact ⟨rfl,rfl,rfl⟩
  | cons y b => cases h
 | cons x a => cases h
theorem eqRow_cons {c : Bool} {l : List Bool} {a b : List AV} {r : Bool} (h : eqRow (c :: l) a b = some r) : ∃ x a' y b' s r',a = x :: a' ∧ b = y :: b' ∧ eqRow l a' b' = some r' ∧ r = (s && r') ∧
  (c = true → ∃ p q,x = .n 7 p ∧ y = .n 7 q ∧ s = decide (p = q)) ∧ (c = false → ∃ p q,x = .bool p ∧ y = .bool q ∧ s = (p == q)) := by
 cases a with
 | nil => cases h
 | cons x a =>
  cases b with
  | nil => cases h
  | cons y b =>
   have h : (ob (eqRow l a b) fun r => ob (Bool.rec (motive := fun _ => Option Bool) (isB x fun p => isB y fun q => some (beqBo p q)) (isN x fun k p => isN y fun k' q => gd (Nat.beq k 7) (gd (Nat.beq k' 7) (some (Nat.beq p q)))) c) fun s => some (band s r)) = some r := h
   obtain ⟨r',h1,h2⟩ := ob_some.1 h
   obtain ⟨s,h3,h4⟩ := ob_some.1 h2
   cases h4
   refine ⟨x,a,y,b,s,r',rfl,rfl,h1,band_eq ..,fun e => ?_,fun e => ?_⟩
   ·subst e
    obtain ⟨k,p,rfl,h5⟩ := isN_some.1 h3
    obtain ⟨k',q,rfl,h6⟩ := isN_some.1 h5
    obtain ⟨h7,h8⟩ := gd_some.1 h6
    obtain ⟨h9,h10⟩ := gd_some.1 h8
    rw [beq_iff] at h7 h9
    subst h7; subst h9
    cases h10
    exact ⟨p,q,rfl,rfl,by rw [Bool.eq_iff_iff,beq_iff,decide_eq_true_eq]⟩
   ·subst e
    obtain ⟨p,rfl,h5⟩ := isB_some.1 h3
    obtain ⟨q,rfl,h6⟩ := isB_some.1 h5
    cases h6
    exact ⟨p,q,rfl,rfl,beqBo_eq ..⟩
theorem eqIn25 (D a b c d a' b' c' d' : Nat) (w : World) : (Op.equalIn (D + 2) 25 (.agg #[u6 a,u6 b,u6 c,u6 d]) (.agg #[u6 a',u6 b',u6 c',u6 d'])).run Tryz.prog w = .ok (decide (a = a') && (decide (b = b') && (decide (c = c') && decide (d = d')))) w := by
 have hu : Tryz.prog.underlying 25 = some (.array 4 23) := by kernel_rfl
 have h3 : Tryz.prog.underlying 23 = some (.int .u64) := by kernel_rfl
 have s3 : scalB Tryz.prog 23 = true := by kernel_rfl
 have hc : Tryz.prog.cellsOf 23 = 1 := by kernel_rfl
 obtain ⟨i,hi⟩ : ∃ i,Tryz.prog.info? 23 = some i := by
  cases h : Tryz.prog.info? 23 with
  | none => exact absurd h (by decide +kernel)
  | some i => exact ⟨i,rfl⟩
 have d0 : ∀ (a b c d : Nat),(part 23 #[u6 a,u6 b,u6 c,u6 d] 0).run Tryz.prog w = .ok (u6 a) w := fun a b c d => part_scal s3 rfl w
 have d1 : ∀ (a b c d : Nat),(part 23 #[u6 a,u6 b,u6 c,u6 d] 1).run Tryz.prog w = .ok (u6 b) w := fun a b c d => part_scal s3 rfl w
 have d2 : ∀ (a b c d : Nat),(part 23 #[u6 a,u6 b,u6 c,u6 d] 2).run Tryz.prog w = .ok (u6 c) w := fun a b c d => part_scal s3 rfl w
 have d3 : ∀ (a b c d : Nat),(part 23 #[u6 a,u6 b,u6 c,u6 d] 3).run Tryz.prog w = .ok (u6 d) w := fun a b c d => part_scal s3 rfl w
 rw [run_equalIn_array w (D + 1) _ _ hu hi,hc,show List.range 4 = [0,1,2,3] from rfl]
 simp only [Op.eqItems,Nat.mul_one,Nat.zero_mul]
 have q := fun (x y : Nat) => run_equalIn_int (P := Tryz.prog) w D 23 .u64 .u64 (x : Int) (y : Int) h3
 have e : ∀ x y : Nat,((x : Int) == (y : Int)) = decide (x = y) := fun x y => by
  by_cases h : x = y
  ·simp [h]
  ·have : ¬ (x : Int) = y := by omega
   simp [h,this]
 simp [d0,d1,d2,d3,q,e]
 by_cases h1 : a = a' <;> by_cases h2 : b = b' <;> by_cases h3 : c = c' <;> by_cases h4 : d = d' <;> simp [h1,h2,h3,h4]
theorem eqIn54 (a b c d e f g h a' b' c' d' e' f' g' h' : Nat) (p p' : Bool) (w : World) : (Op.equalIn 10000 54 (.agg #[u6 a,u6 b,u6 c,u6 d,u6 e,u6 f,u6 g,u6 h,.bool p]) (.agg #[u6 a',u6 b',u6 c',u6 d',u6 e',u6 f',u6 g',u6 h',.bool p'])).run Tryz.prog w =
  .ok ((decide (a = a') && (decide (b = b') && (decide (c = c') && decide (d = d')))) && ((decide (e = e') && (decide (f = f') && (decide (g = g') && decide (h = h')))) && (p == p'))) w := by
 have hs : Tryz.prog.stoodInHeld 54 = false := by kernel_rfl
 have hu : Tryz.prog.underlying 54 = some (.struct (Tryz.prog.fieldsOf 54)) := by kernel_rfl
 have hF : (Tryz.prog.fieldsOf 54).toList = [⟨"X",25,0,false,"","",0⟩,⟨"Y",25,4,false,"","",32⟩,⟨"None",4,8,false,"","",64⟩] := by kernel_rfl
 have h4 : Tryz.prog.underlying 4 = some .bool := by kernel_rfl
 have s4 : scalB Tryz.prog 4 = true := by kernel_rfl
 have s25 : aggB Tryz.prog 25 = some 4 := by kernel_rfl
 have e0 : ∀ (a b c d e f g h : Nat) (p : Bool),(part 25 #[u6 a,u6 b,u6 c,u6 d,u6 e,u6 f,u6 g,u6 h,.bool p] 0).run Tryz.prog w = .ok (.agg #[u6 a,u6 b,u6 c,u6 d]) w := fun a b c d e f g h p => part_agg s25 w
 have e1 : ∀ (a b c d e f g h : Nat) (p : Bool),(part 25 #[u6 a,u6 b,u6 c,u6 d,u6 e,u6 f,u6 g,u6 h,.bool p] 4).run Tryz.prog w = .ok (.agg #[u6 e,u6 f,u6 g,u6 h]) w := fun a b c d e f g h p => part_agg s25 w
 have e2 : ∀ (a b c d e f g h : Nat) (p : Bool),(part 4 #[u6 a,u6 b,u6 c,u6 d,u6 e,u6 f,u6 g,u6 h,.bool p] 8).run Tryz.prog w = .ok (.bool p) w := fun a b c d e f g h p => part_scal s4 rfl w
 rw [run_equalIn_struct w 9999 54 _ _ hu hs,hF]
 simp only [Op.eqFields]
 have q0 := eqIn25 9997 a b c d a' b' c' d' w
 have q1 := eqIn25 9997 e f g h e' f' g' h' w
 have q2 := run_equalIn_bool' (P := Tryz.prog) w 9998 4 p p' h4
 simp only [Nat.reduceAdd] at q0 q1 q2
 simp only [e0,e1,e2,q0,q1,q2,Sem.run_bind,Result.andThen_ok,Sem.run_ite,Sem.run_pure]
 generalize (decide (a = a') && (decide (b = b') && (decide (c = c') && decide (d = d')))) = u
 generalize (decide (e = e') && (decide (f = f') && (decide (g = g') && decide (h = h')))) = v
 cases u <;> cases v <;> cases p <;> cases p' <;> simp
theorem den_u6 {σ : Sg} {p : Nat} {X : Value} (h : den σ (.n 7 p) = some X) : X = u6 p := den_n h
theorem eqOk25 : EqOk Tryz.prog 25 [true,true,true,true] := by
 refine ⟨by kernel_rfl,fun σ a0 b0 r h0 A0 B0 hA0 hB0 w => ?_⟩
 obtain ⟨x0,a1,y0,b1,s0,r0,e0,d0,h1,z0,t0,-⟩ := eqRow_cons h0
 obtain ⟨x1,a2,y1,b2,s1,r1,e1,d1,h2,z1,t1,-⟩ := eqRow_cons h1
 obtain ⟨x2,a3,y2,b3,s2,r2,e2,d2,h3,z2,t2,-⟩ := eqRow_cons h2
 obtain ⟨x3,a4,y3,b4,s3,r3,e3,d3,h4,z3,t3,-⟩ := eqRow_cons h3
 obtain ⟨rfl,rfl,rfl⟩ := eqRow_nil h4
 obtain ⟨p0,q0,rfl,rfl,rfl⟩ := t0 rfl
 obtain ⟨p1,q1,rfl,rfl,rfl⟩ := t1 rfl
 obtain ⟨p2,q2,rfl,rfl,rfl⟩ := t2 rfl
 obtain ⟨p3,q3,rfl,rfl,rfl⟩ := t3 rfl
 rw [e0] at hA0; rw [d0] at hB0
 obtain ⟨A'0,A1,f0,g0,hA1⟩ := denL_cons_inv hA0
 obtain ⟨B'0,B1,c0,k0,hB1⟩ := denL_cons_inv hB0
 rw [e1] at hA1; rw [d1] at hB1
 obtain ⟨A'1,A2,f1,g1,hA2⟩ := denL_cons_inv hA1
 obtain ⟨B'1,B2,c1,k1,hB2⟩ := denL_cons_inv hB1
 rw [e2] at hA2; rw [d2] at hB2
 obtain ⟨A'2,A3,f2,g2,hA3⟩ := denL_cons_inv hA2
 obtain ⟨B'2,B3,c2,k2,hB3⟩ := denL_cons_inv hB2
 rw [e3] at hA3; rw [d3] at hB3
 obtain ⟨A'3,A4,f3,g3,hA4⟩ := denL_cons_inv hA3
 obtain ⟨B'3,B4,c3,k3,hB4⟩ := denL_cons_inv hB3
 simp only [denL,Option.some.injEq] at hA4 hB4
 rw [f0,f1,f2,f3,← hA4,c0,c1,c2,c3,← hB4]
 rw [den_u6 g0,den_u6 g1,den_u6 g2,den_u6 g3,den_u6 k0,den_u6 k1,den_u6 k2,den_u6 k3]
 rw [z0,z1,z2,z3]
 have := eqIn25 9998 p0 p1 p2 p3 q0 q1 q2 q3 w
 simp only [Nat.reduceAdd] at this
 simp only [Bool.and_true]
 exact this
theorem eqOk54 : EqOk Tryz.prog 54 [true,true,true,true,true,true,true,true,false] := by
 refine ⟨by kernel_rfl,fun σ a0 b0 r h0 A0 B0 hA0 hB0 w => ?_⟩
 obtain ⟨x0,a1,y0,b1,s0,r0,e0,d0,h1,z0,t0,-⟩ := eqRow_cons h0
 obtain ⟨x1,a2,y1,b2,s1,r1,e1,d1,h2,z1,t1,-⟩ := eqRow_cons h1
 obtain ⟨x2,a3,y2,b3,s2,r2,e2,d2,h3,z2,t2,-⟩ := eqRow_cons h2
 obtain ⟨x3,a4,y3,b4,s3,r3,e3,d3,h4,z3,t3,-⟩ := eqRow_cons h3
 obtain ⟨x4,a5,y4,b5,s4,r4,e4,d4,h5,z4,t4,-⟩ := eqRow_cons h4
 obtain ⟨x5,a6,y5,b6,s5,r5,e5,d5,h6,z5,t5,-⟩ := eqRow_cons h5
 obtain ⟨x6,a7,y6,b7,s6,r6,e6,d6,h7,z6,t6,-⟩ := eqRow_cons h6
 obtain ⟨x7,a8,y7,b8,s7,r7,e7,d7,h8,z7,t7,-⟩ := eqRow_cons h7
 obtain ⟨x8,a9,y8,b9,s8,r8,e8,d8,h9,z8,-,t8⟩ := eqRow_cons h8
 obtain ⟨rfl,rfl,rfl⟩ := eqRow_nil h9
 obtain ⟨p0,q0,rfl,rfl,rfl⟩ := t0 rfl
 obtain ⟨p1,q1,rfl,rfl,rfl⟩ := t1 rfl
 obtain ⟨p2,q2,rfl,rfl,rfl⟩ := t2 rfl
 obtain ⟨p3,q3,rfl,rfl,rfl⟩ := t3 rfl
 obtain ⟨p4,q4,rfl,rfl,rfl⟩ := t4 rfl
 obtain ⟨p5,q5,rfl,rfl,rfl⟩ := t5 rfl
 obtain ⟨p6,q6,rfl,rfl,rfl⟩ := t6 rfl
 obtain ⟨p7,q7,rfl,rfl,rfl⟩ := t7 rfl
 obtain ⟨p8,q8,rfl,rfl,rfl⟩ := t8 rfl
 rw [e0] at hA0; rw [d0] at hB0
 obtain ⟨A'0,A1,f0,g0,hA1⟩ := denL_cons_inv hA0
 obtain ⟨B'0,B1,c0,k0,hB1⟩ := denL_cons_inv hB0
 rw [e1] at hA1; rw [d1] at hB1
 obtain ⟨A'1,A2,f1,g1,hA2⟩ := denL_cons_inv hA1
 obtain ⟨B'1,B2,c1,k1,hB2⟩ := denL_cons_inv hB1
 rw [e2] at hA2; rw [d2] at hB2
 obtain ⟨A'2,A3,f2,g2,hA3⟩ := denL_cons_inv hA2
 obtain ⟨B'2,B3,c2,k2,hB3⟩ := denL_cons_inv hB2
 rw [e3] at hA3; rw [d3] at hB3
 obtain ⟨A'3,A4,f3,g3,hA4⟩ := denL_cons_inv hA3
 obtain ⟨B'3,B4,c3,k3,hB4⟩ := denL_cons_inv hB3
 rw [e4] at hA4; rw [d4] at hB4
 obtain ⟨A'4,A5,f4,g4,hA5⟩ := denL_cons_inv hA4
 obtain ⟨B'4,B5,c4,k4,hB5⟩ := denL_cons_inv hB4
 rw [e5] at hA5; rw [d5] at hB5
 obtain ⟨A'5,A6,f5,g5,hA6⟩ := denL_cons_inv hA5
 obtain ⟨B'5,B6,c5,k5,hB6⟩ := denL_cons_inv hB5
 rw [e6] at hA6; rw [d6] at hB6
 obtain ⟨A'6,A7,f6,g6,hA7⟩ := denL_cons_inv hA6
 obtain ⟨B'6,B7,c6,k6,hB7⟩ := denL_cons_inv hB6
 rw [e7] at hA7; rw [d7] at hB7
 obtain ⟨A'7,A8,f7,g7,hA8⟩ := denL_cons_inv hA7
 obtain ⟨B'7,B8,c7,k7,hB8⟩ := denL_cons_inv hB7
 rw [e8] at hA8; rw [d8] at hB8
 obtain ⟨A'8,A9,f8,g8,hA9⟩ := denL_cons_inv hA8
 obtain ⟨B'8,B9,c8,k8,hB9⟩ := denL_cons_inv hB8
 simp only [denL,Option.some.injEq] at hA9 hB9
 rw [f0,f1,f2,f3,f4,f5,f6,f7,f8,← hA9,c0,c1,c2,c3,c4,c5,c6,c7,c8,← hB9]
 rw [den_u6 g0,den_u6 g1,den_u6 g2,den_u6 g3,den_u6 g4,den_u6 g5,den_u6 g6,den_u6 g7,den_bool g8,den_u6 k0,den_u6 k1,den_u6 k2,den_u6 k3,den_u6 k4,den_u6 k5,den_u6 k6,den_u6 k7,den_bool k8]
 rw [z0,z1,z2,z3,z4,z5,z6,z7,z8]
 have := eqIn54 p0 p1 p2 p3 p4 p5 p6 p7 q0 q1 q2 q3 q4 q5 q6 q7 p8 q8 w
 simp only [Bool.and_true]
 rw [show Op.equal 54 = Op.equalIn 10000 54 from rfl,this]
 refine congrArg (Result.ok · w) ?_
 simp only [Bool.and_assoc]
theorem exts : Exts Tryz.prog := by
 refine ⟨fun a b c w ha hb hc => ?_,fun a b c w ha hb hc => ?_,fun s w => ?_,fun v w => by kernel_rfl,fun b w T n hsh hT => ?_⟩
 ·have := x174 a b c hc w
  rw [show a + (b + c) = a + b + c by omega]
  exact this
 ·have := x175 a b c hc w
  rw [show a + M64 - (b + c) = a + 18446744073709551616 - b - c by unfold M64; omega,show (if b + c ≤ a then 0 else 1 : Nat) = if a < b + c then 1 else 0 by split <;> split <;> omega]
  exact this
 ·have h0 : (callFunc 221 #[.string s,.string s]).run Tryz.prog w = ((Extern.BytealgCompare.compare #[.string s,.string s]).run Tryz.prog w).andThen fun v w' => .ok (.value v) w' := by kernel_rfl
  rw [h0,Go.Lib.run_compareString]
  have : ∀ l : List UInt8,Go.Lib.compareBytes l l = 0 := fun l => by induction l <;> simp [Go.Lib.compareBytes, *]
  rw [this]; rfl
 ·have hv : (viewAt b).run Tryz.prog w = .ok none w := by
   simp only [viewAt,shape,Sem.run_bind]
   simp [Sem.run,hsh]
  have hsa : (Conv.seenAt ⟨b,0,none⟩).run Tryz.prog w = .ok ⟨b,0,none⟩ w := by
   simp only [Conv.seenAt,Sem.run_bind,hv,Result.andThen_ok,Sem.run_pure]
  have u1 : (underlying 102).run Tryz.prog w = .ok (.pointer 104) w := by kernel_rfl
  have u2 : (underlying 224).run Tryz.prog w = .ok .unsafePointer w := by kernel_rfl
  have sz : (sizeOf 104).run Tryz.prog w = .ok 2 w := by kernel_rfl
  have hva : (variablesAt ⟨b,0,none⟩ 104 1).run Tryz.prog w = .ok true w := by
   simp only [variablesAt,shape,Sem.run_bind]
   simp [Sem.run,hsh]
   kernel_rfl
  have hci : (cellsIn b).run Tryz.prog w = .ok (some 2) w := by
   simp only [cellsIn,shape,Sem.run_bind]
   simp [Sem.run,hsh]
  rcases hT with ⟨rfl,rfl⟩ | ⟨rfl,rfl⟩
  ·simp only [convert,Conv.unsafePointer,Sem.run_bind,u1,u2,Result.andThen_ok,hsa,hci,sz,Sem.run_pure]
   simp
  ·simp only [convert,Conv.unsafePointer,Sem.run_bind,u1,u2,Result.andThen_ok,hsa,hva,sz,Sem.run_pure]
   simp
end Go.Proofs.YteajeenmojbjhaaGreatDoor.Ev
namespace Go.Proofs.YteajeenmojbjhaaGreatDoor.Ev
open Go Fw
noncomputable section
def limb (v : AV) (f : Nat → Option AV) : Option AV := isN v fun k a => gd (Nat.beq k 7) (gd (Nat.blt a 18446744073709551616) (f a))
def num (cs : List AV) (f : Nat → List AV → Option AV) : Option AV := match cs with
 | a :: b :: c :: d :: r => limb a fun a => limb b fun b => limb c fun c => limb d fun d => fN (Nat.add a (Nat.add (Nat.mul 18446744073709551616 b) (Nat.add (Nat.mul 340282366920938463463374607431768211456 c) (Nat.mul 6277101735386680763835789423207666416102355444464034512896 d)))) fun x => f x r
 | _ => none
def num0 (cs : List AV) (f : Nat → Option AV) : Option AV := num cs fun x r => match r with | [] => f x | _ => none
def mod (cs : List AV) (f : Nat → Nat → Nat → Option AV) : Option AV := num cs fun m r => match r with
 | n :: r => limb n fun n => num0 r fun rr => f m n rr
 | _ => none
def nA (x : Nat) (f : AV → Option AV) : Option AV := fN (Nat.mod x 18446744073709551616) fun a => fN (Nat.mod (Nat.div x 18446744073709551616) 18446744073709551616) fun b => fN (Nat.mod (Nat.div x 340282366920938463463374607431768211456) 18446744073709551616) fun c => fN (Nat.mod (Nat.div x 6277101735386680763835789423207666416102355444464034512896) 18446744073709551616) fun d => f (.agg [.n 7 a,.n 7 b,.n 7 c,.n 7 d])
def a2 (va : List AV) (f : List AV → List AV → Option AV) : Option AV := match va with | [x,y] => isA x fun a => isA y fun b => f a b | _ => none
def a3 (va : List AV) (f : List AV → List AV → List AV → Option AV) : Option AV := match va with | [x,y,z] => isA x fun a => isA y fun b => isA z fun c => f a b c | _ => none
def riOf (m : Nat) : Nat := bif2 (Nat.beq m 115792089210356248762697446949407573529996955224135760342422259061068512044369) 43790243014242295660885426880012836369732278457577312309071968676491870960761 115792089183396302114378112356516095823261736990586219612555396166510339686400
def okM (m n : Nat) : Bool := Nat.beq (Nat.mod (Nat.add (Nat.mul n m) 1) 18446744073709551616) 0 && Nat.beq (Nat.mod (Nat.mul 115792089237316195423570985008687907853269984665640564039457584007913129639936 (riOf m)) m) (Nat.mod 1 m)
def pf81 (va : List AV) : Option AV := a3 va fun m p q => mod m fun m n _ => num0 p fun p => num0 q fun q => gd (okM m n) (gd (Nat.blt p m || Nat.blt q m) (nA (Nat.mod (Nat.mul (Nat.mul p q) (riOf m)) m) some))
def pf131 (va : List AV) : Option AV := a2 va fun p q => num0 p fun p => num0 q fun q => nA (Nat.sub (Nat.add p 115792089237316195423570985008687907853269984665640564039457584007913129639936) q) fun r => some (.tup [r,.bool (Nat.blt p q)])
def pf130 (va : List AV) : Option AV := a2 va fun p q => num0 p fun p => num0 q fun q => nA (Nat.add p q) fun r => some (.tup [r,.bool (Nat.ble 115792089237316195423570985008687907853269984665640564039457584007913129639936 (Nat.add p q))])
def pf137 (va : List AV) : Option AV := a3 va fun m p q => mod m fun m _ _ => num0 p fun p => num0 q fun q => gd (Nat.blt p m) (gd (Nat.blt q m) (nA (bif2 (Nat.blt p q) (Nat.sub (Nat.add p m) q) (Nat.sub p q)) some))
def pf79 (va : List AV) : Option AV := a3 va fun m p q => mod m fun m _ _ => num0 p fun p => num0 q fun q => gd (Nat.blt p m) (gd (Nat.blt q m) (nA (bif2 (Nat.blt (Nat.add p q) m) (Nat.add p q) (Nat.sub (Nat.add p q) m)) some))
def pf80 (va : List AV) : Option AV := a2 va fun m p => mod m fun m _ _ => num0 p fun p => nA (bif2 (Nat.blt p m) p (Nat.sub p m)) some
def pf133 (va : List AV) : Option AV := a2 va fun m p => mod m fun m _ _ => num0 p fun p => some (.bool (Nat.blt p m))
def pf82 (va : List AV) : Option AV := a2 va fun m p => mod m fun m n rr => num0 p fun p => gd (okM m n) (gd (Nat.blt rr m) (nA (Nat.mod (Nat.mul (Nat.mul p rr) (riOf m)) m) some))
def pf189 (va : List AV) : Option AV := a2 va fun m p => mod m fun m n _ => num0 p fun p => gd (okM m n) (gd (Nat.blt 1 m) (nA (Nat.mod (Nat.mul (Nat.mul p 1) (riOf m)) m) some))
def pf33 (va : List AV) : Option AV := a2 va fun p q => num0 p fun p => num0 q fun q => nA (Nat.mod (Nat.add p q) 115792089210356248762697446949407573529996955224135760342422259061068512044369) some
def pf34 (va : List AV) : Option AV := a2 va fun p q => num0 p fun p => num0 q fun q => nA (Nat.mod (Nat.mul p q) 115792089210356248762697446949407573529996955224135760342422259061068512044369) some
def pf179 (va : List AV) : Option AV := match va with
 | [x,y] => isA x fun p => isB y fun z => num0 p fun p => nA (Nat.div (Nat.add p (bif2 z 115792089237316195423570985008687907853269984665640564039457584007913129639936 0)) 2) some
 | _ => none
def mQ : AV := .agg [.n 7 17562291160714782033,.n 7 13611842547513532036,.n 7 18446744073709551615,.n 7 18446744069414584320,.n 7 14758798090332847183,.n 7 9449762124159643298,.n 7 5087230966250696614,.n 7 2901921493521525849,.n 7 7413256579398063648]
def pf78 (va : List AV) : Option AV := match va with | [] => some mQ | _ => none
def pf0 (g : Nat) (va : List AV) : Option AV :=
 bif2 (Nat.beq g 179) (pf179 va) <| bif2 (Nat.beq g 131) (pf131 va) (bif2 (Nat.beq g 81) (pf81 va) (bif2 (Nat.beq g 137) (pf137 va) (bif2 (Nat.beq g 130) (pf130 va) (bif2 (Nat.beq g 79) (pf79 va) (bif2 (Nat.beq g 82) (pf82 va) (bif2 (Nat.beq g 80) (pf80 va) (bif2 (Nat.beq g 133) (pf133 va) (bif2 (Nat.beq g 189) (pf189 va) (bif2 (Nat.beq g 34) (pf34 va) (bif2 (Nat.beq g 33) (pf33 va) (bif2 (Nat.beq g 78) (pf78 va) none)))))))))))
end
def cN (x : Nat) : List AV := [.n 7 (x % 18446744073709551616),.n 7 (x / 18446744073709551616 % 18446744073709551616),.n 7 (x / 340282366920938463463374607431768211456 % 18446744073709551616),.n 7 (x / 6277101735386680763835789423207666416102355444464034512896 % 18446744073709551616)]
theorem limb_some {v r : AV} {f : Nat → Option AV} (h : limb v f = some r) : ∃ a,v = .n 7 a ∧ a < 18446744073709551616 ∧ f a = some r := by
 obtain ⟨k,a,rfl,h1⟩ := isN_some.1 h
 obtain ⟨h2,h3⟩ := gd_some.1 h1
 obtain ⟨h4,h5⟩ := gd_some.1 h3
 rw [beq_iff] at h2
 subst h2
 exact ⟨a,rfl,blt_iff.1 h4,h5⟩
theorem num_some {cs : List AV} {r : AV} {f : Nat → List AV → Option AV} (h : num cs f = some r) : ∃ x r',cs = cN x ++ r' ∧ x < 115792089237316195423570985008687907853269984665640564039457584007913129639936 ∧ f x r' = some r := by
 unfold num at h
 split at h
 ·rename_i a b c d r'
  obtain ⟨a,rfl,ha,h1⟩ := limb_some h
  obtain ⟨b,rfl,hb,h2⟩ := limb_some h1
  obtain ⟨c,rfl,hc,h3⟩ := limb_some h2
  obtain ⟨d,rfl,hd,h4⟩ := limb_some h3
  rw [fN_eq] at h4
  have e : Nat.add a (Nat.add (Nat.mul 18446744073709551616 b) (Nat.add (Nat.mul 340282366920938463463374607431768211456 c) (Nat.mul 6277101735386680763835789423207666416102355444464034512896 d))) = a + (18446744073709551616 * b + (340282366920938463463374607431768211456 * c + 6277101735386680763835789423207666416102355444464034512896 * d)) := rfl
  rw [e] at h4
  refine ⟨_,r',?_,?_,h4⟩
  ·unfold cN
   simp only [List.cons_append,List.nil_append,List.cons.injEq,AV.n.injEq,true_and,and_true]
   refine ⟨?_,?_,?_,?_⟩ <;> omega
  ·omega
 ·cases h
theorem num0_some {cs : List AV} {r : AV} {f : Nat → Option AV} (h : num0 cs f = some r) : ∃ x,cs = cN x ∧ x < 115792089237316195423570985008687907853269984665640564039457584007913129639936 ∧ f x = some r := by
 obtain ⟨x,r',h1,h2,h3⟩ := num_some h
 split at h3
 ·exact ⟨x,by simpa using h1,h2,h3⟩
 ·cases h3
theorem mod_some {cs : List AV} {r : AV} {f : Nat → Nat → Nat → Option AV} (h : mod cs f = some r) : ∃ m n rr,cs = cN m ++ (.n 7 n :: cN rr) ∧ m < 115792089237316195423570985008687907853269984665640564039457584007913129639936 ∧ rr < 115792089237316195423570985008687907853269984665640564039457584007913129639936 ∧ f m n rr = some r := by
 obtain ⟨m,r',h1,h2,h3⟩ := num_some h
 split at h3
 ·obtain ⟨n,rfl,_,h4⟩ := limb_some h3
  obtain ⟨rr,rfl,h5,h6⟩ := num0_some h4
  exact ⟨m,n,rr,h1,h2,h5,h6⟩
 ·cases h3
theorem nA_eq {x : Nat} {f : AV → Option AV} : nA x f = f (.agg (cN x)) := by
 unfold nA
 simp only [fN_eq]
 rfl
theorem a2_some {va : List AV} {r : AV} {f : List AV → List AV → Option AV} (h : a2 va f = some r) : ∃ x y,va = [.agg x,.agg y] ∧ f x y = some r := by
 unfold a2 at h
 split at h
 ·obtain ⟨x,rfl,h1⟩ := isA_some.1 h
  obtain ⟨y,rfl,h2⟩ := isA_some.1 h1
  exact ⟨x,y,rfl,h2⟩
 ·cases h
theorem a3_some {va : List AV} {r : AV} {f : List AV → List AV → List AV → Option AV} (h : a3 va f = some r) : ∃ x y z,va = [.agg x,.agg y,.agg z] ∧ f x y z = some r := by
 unfold a3 at h
 split at h
 ·obtain ⟨x,rfl,h1⟩ := isA_some.1 h
  obtain ⟨y,rfl,h2⟩ := isA_some.1 h1
  obtain ⟨z,rfl,h3⟩ := isA_some.1 h2
  exact ⟨x,y,z,rfl,h3⟩
 ·cases h
theorem okM_ok {m n : Nat} (h : okM m n = true) : (n * m + 1) % 18446744073709551616 = 0 ∧ 115792089237316195423570985008687907853269984665640564039457584007913129639936 * riOf m % m = 1 % m := by
 unfold okM at h
 simp only [Bool.and_eq_true,beq_iff] at h
 exact h
abbrev S0 : Sg := fun _ => none
theorem d_n {x : Nat} : den S0 (.agg (cN x)) = some (nV x) := by simp only [cN,den,denL]; rfl
theorem d_m {m n rr : Nat} : den S0 (.agg (cN m ++ (.n 7 n :: cN rr))) = some (mV m n rr) := by simp only [cN,List.cons_append,List.nil_append,den,denL]; rfl
def PO (w0 : World) (g : Nat) (va : List AV) (v : AV) : Prop := callB Tryz.prog g = true ∧ ∃ vs u,denL S0 va = some vs ∧ den S0 v = some u ∧ ∀ w,Old w0 w → Calls Tryz.prog g vs.toArray w fun e w' => e = .returned u ∧ Old w w'
theorem po {w0 : World} {g : Nat} {va : List AV} {v : AV} {vs : List Value} {u : Value} (hB : callB Tryz.prog g = true) (h1 : denL S0 va = some vs) (h2 : den S0 v = some u) (h : ∀ w,Cl Tryz.prog g vs.toArray w (RetQ w fun r => r = u)) : PO w0 g va v :=
 ⟨hB,vs,u,h1,h2,fun w _ => (h w).out.mono fun e w' ⟨r,e1,e2,e3⟩ => ⟨by rw [e1,e2],.of_chg e3⟩⟩
theorem dl1 {a : AV} {x : Value} (h : den S0 a = some x) : denL S0 [a] = some [x] := denL_cons h denL_nil
theorem dl2 {a b : AV} {x y : Value} (h : den S0 a = some x) (h' : den S0 b = some y) : denL S0 [a,b] = some [x,y] := denL_cons h (dl1 h')
theorem dl3 {a b c : AV} {x y z : Value} (h : den S0 a = some x) (h' : den S0 b = some y) (h'' : den S0 c = some z) : denL S0 [a,b,c] = some [x,y,z] := denL_cons h (dl2 h' h'')
theorem d_tb {a : AV} {x : Value} {b b' : Bool} (h : den S0 a = some x) (e : b = b') : den S0 (.tup [a,.bool b]) = some (.tuple #[x,.bool b']) := by subst e; simp only [den,denL,h]
variable {w0 : World} {va : List AV} {v : AV}
theorem p81 (h : pf81 va = some v) : PO w0 81 va v := by
 obtain ⟨m,p,q,rfl,h⟩ := a3_some h
 obtain ⟨m,n,rr,rfl,hm,hr,h⟩ := mod_some h
 obtain ⟨p,rfl,hp,h⟩ := num0_some h
 obtain ⟨q,rfl,hq,h⟩ := num0_some h
 obtain ⟨h1,h⟩ := gd_some.1 h
 obtain ⟨h2,h⟩ := gd_some.1 h
 rw [nA_eq] at h; cases h
 obtain ⟨k1,k2⟩ := okM_ok h1
 simp only [Bool.or_eq_true,blt_iff] at h2
 exact po (by kernel_rfl) (dl3 d_m d_n d_n) d_n fun w => c81 m n rr _ hm k1 k2 p q hp hq h2 w
theorem p131 (h : pf131 va = some v) : PO w0 131 va v := by
 obtain ⟨p,q,rfl,h⟩ := a2_some h
 obtain ⟨p,rfl,hp,h⟩ := num0_some h
 obtain ⟨q,rfl,hq,h⟩ := num0_some h
 rw [nA_eq] at h; cases h
 exact po (by kernel_rfl) (dl2 d_n d_n) (d_tb d_n (by rw [Bool.eq_iff_iff,blt_iff,decide_eq_true_eq])) fun w => c131 p q hp hq w
theorem p130 (h : pf130 va = some v) : PO w0 130 va v := by
 obtain ⟨p,q,rfl,h⟩ := a2_some h
 obtain ⟨p,rfl,hp,h⟩ := num0_some h
 obtain ⟨q,rfl,hq,h⟩ := num0_some h
 rw [nA_eq] at h; cases h
 exact po (by kernel_rfl) (dl2 d_n d_n) (d_tb d_n (by rw [Bool.eq_iff_iff,ble_iff,decide_eq_true_eq]; exact Iff.rfl)) fun w => c130 p q hp hq w
theorem p137 (h : pf137 va = some v) : PO w0 137 va v := by
 obtain ⟨m,p,q,rfl,h⟩ := a3_some h
 obtain ⟨m,n,rr,rfl,hm,hr,h⟩ := mod_some h
 obtain ⟨p,rfl,hp,h⟩ := num0_some h
 obtain ⟨q,rfl,hq,h⟩ := num0_some h
 obtain ⟨h1,h⟩ := gd_some.1 h
 obtain ⟨h2,h⟩ := gd_some.1 h
 rw [nA_eq,bif2_if] at h; cases h
 rw [blt_iff] at h1 h2
 simp only [blt_iff]
 exact po (by kernel_rfl) (dl3 d_m d_n d_n) d_n fun w => c137 m n rr hm p q h1 h2 w
theorem p79 (h : pf79 va = some v) : PO w0 79 va v := by
 obtain ⟨m,p,q,rfl,h⟩ := a3_some h
 obtain ⟨m,n,rr,rfl,hm,hr,h⟩ := mod_some h
 obtain ⟨p,rfl,hp,h⟩ := num0_some h
 obtain ⟨q,rfl,hq,h⟩ := num0_some h
 obtain ⟨h1,h⟩ := gd_some.1 h
 obtain ⟨h2,h⟩ := gd_some.1 h
 rw [nA_eq,bif2_if] at h; cases h
 rw [blt_iff] at h1 h2
 simp only [blt_iff]
 exact po (by kernel_rfl) (dl3 d_m d_n d_n) d_n fun w => c79 m n rr hm p q h1 h2 w
theorem p80 (h : pf80 va = some v) : PO w0 80 va v := by
 obtain ⟨m,p,rfl,h⟩ := a2_some h
 obtain ⟨m,n,rr,rfl,hm,hr,h⟩ := mod_some h
 obtain ⟨p,rfl,hp,h⟩ := num0_some h
 rw [nA_eq,bif2_if] at h; cases h
 simp only [blt_iff]
 exact po (by kernel_rfl) (dl2 d_m d_n) d_n fun w => c80 m n rr hm p hp w
theorem p133 (h : pf133 va = some v) : PO w0 133 va v := by
 obtain ⟨m,p,rfl,h⟩ := a2_some h
 obtain ⟨m,n,rr,rfl,hm,hr,h⟩ := mod_some h
 obtain ⟨p,rfl,hp,h⟩ := num0_some h
 cases h
 exact po (by kernel_rfl) (dl2 d_m d_n) (u := .bool (decide (p < m))) (by simp only [den]; congr 2; rw [Bool.eq_iff_iff,blt_iff,decide_eq_true_eq]) fun w => c133 m n rr hm p hp w
theorem p82 (h : pf82 va = some v) : PO w0 82 va v := by
 obtain ⟨m,p,rfl,h⟩ := a2_some h
 obtain ⟨m,n,rr,rfl,hm,hr,h⟩ := mod_some h
 obtain ⟨p,rfl,hp,h⟩ := num0_some h
 obtain ⟨h1,h⟩ := gd_some.1 h
 obtain ⟨h2,h⟩ := gd_some.1 h
 rw [nA_eq] at h; cases h
 obtain ⟨k1,k2⟩ := okM_ok h1
 rw [blt_iff] at h2
 exact po (by kernel_rfl) (dl2 d_m d_n) d_n fun w => c82 m n rr _ hm k1 k2 h2 p hp w
theorem p189 (h : pf189 va = some v) : PO w0 189 va v := by
 obtain ⟨m,p,rfl,h⟩ := a2_some h
 obtain ⟨m,n,rr,rfl,hm,hr,h⟩ := mod_some h
 obtain ⟨p,rfl,hp,h⟩ := num0_some h
 obtain ⟨h1,h⟩ := gd_some.1 h
 obtain ⟨h2,h⟩ := gd_some.1 h
 rw [nA_eq] at h; cases h
 obtain ⟨k1,k2⟩ := okM_ok h1
 rw [blt_iff] at h2
 exact po (by kernel_rfl) (dl2 d_m d_n) d_n fun w => c189 m n rr _ hm k1 k2 h2 p hp w
theorem p33 (h : pf33 va = some v) : PO w0 33 va v := by
 obtain ⟨p,q,rfl,h⟩ := a2_some h
 obtain ⟨p,rfl,hp,h⟩ := num0_some h
 obtain ⟨q,rfl,hq,h⟩ := num0_some h
 rw [nA_eq] at h; cases h
 exact po (by kernel_rfl) (dl2 d_n d_n) d_n fun w => c33 p q hp hq w
theorem p34 (h : pf34 va = some v) : PO w0 34 va v := by
 obtain ⟨p,q,rfl,h⟩ := a2_some h
 obtain ⟨p,rfl,hp,h⟩ := num0_some h
 obtain ⟨q,rfl,hq,h⟩ := num0_some h
 rw [nA_eq] at h; cases h
 exact po (by kernel_rfl) (dl2 d_n d_n) d_n fun w => c34 p q hp hq w
theorem p78 (h : pf78 va = some v) : PO w0 78 va v := by
 unfold pf78 at h
 split at h
 ·cases h
  exact po (by kernel_rfl) denL_nil (u := mV 115792089210356248762697446949407573529996955224135760342422259061068512044369 14758798090332847183 46533765739406314298121036767150998762426774378559716911348521029833835802274) (by simp only [mQ,den,denL]; rfl) fun w => c78 w
 ·cases h
theorem p179 (h : pf179 va = some v) : PO w0 179 va v := by
 unfold pf179 at h
 split at h
 ·obtain ⟨p,rfl,h⟩ := isA_some.1 h
  obtain ⟨z,rfl,h⟩ := isB_some.1 h
  obtain ⟨p,rfl,hp,h⟩ := num0_some h
  rw [nA_eq,bif2_if] at h; cases h
  exact po (by kernel_rfl) (dl2 d_n (by simp only [den])) d_n fun w => c179 p hp z w
 ·cases h
theorem b2 {g n : Nat} {x y : Option AV} (h : bif2 (Nat.beq g n) x y = some v) : (g = n ∧ x = some v) ∨ y = some v := by
 rw [bif2_if] at h
 split at h
 ·rename_i e; exact .inl ⟨beq_iff.1 e,h⟩
 ·exact .inr h
theorem prim0 (w0 : World) : PrimOk Tryz.prog pf0 w0 := by
 intro g va v h
 unfold pf0 at h
 rcases b2 h with ⟨rfl,h⟩ | h
 ·exact p179 h
 rcases b2 h with ⟨rfl,h⟩ | h
 ·exact p131 h
 rcases b2 h with ⟨rfl,h⟩ | h
 ·exact p81 h
 rcases b2 h with ⟨rfl,h⟩ | h
 ·exact p137 h
 rcases b2 h with ⟨rfl,h⟩ | h
 ·exact p130 h
 rcases b2 h with ⟨rfl,h⟩ | h
 ·exact p79 h
 rcases b2 h with ⟨rfl,h⟩ | h
 ·exact p82 h
 rcases b2 h with ⟨rfl,h⟩ | h
 ·exact p80 h
 rcases b2 h with ⟨rfl,h⟩ | h
 ·exact p133 h
 rcases b2 h with ⟨rfl,h⟩ | h
 ·exact p189 h
 rcases b2 h with ⟨rfl,h⟩ | h
 ·exact p34 h
 rcases b2 h with ⟨rfl,h⟩ | h
 ·exact p33 h
 rcases b2 h with ⟨rfl,h⟩ | h
 ·exact p78 h
 ·cases h
end Go.Proofs.YteajeenmojbjhaaGreatDoor.Ev
namespace Go.Proofs.YteajeenmojbjhaaGreatDoor.Ev
open Go Fw
theorem rec_none {c : Frame} {cs : List Frame} (h : c.mode = .returning) : recoverD (c :: cs) = none := by
 unfold recoverD; simp [h]
section
variable {P : Program} {ops : Array Oper} {Q : Exit → Act → List Frame → World → Prop} {i : Nat} {rest : List Nat} {a : Act} {c : Frame} {cs : List Frame} {w : World} {o : Oper}
theorem opsS_val (v : Value) (ho : ops[i]? = some o) (hg : o.guard = none) (hr : (execOp a.eval o).run P w = .ok (.value v) w) (h : wpOpsS P ops Q rest (a.put o.dst v) cs w) : wpOpsS P ops Q (i :: rest) a cs w := by
 unfold wpOpsS
 have hw : Region.wanted o (yielded ops a.tmps) = true := by unfold Region.wanted; rw [hg]
 simp only [ho,hw,if_true,hr]
 exact h
theorem opsS_rec (hm : c.mode = .returning) (ho : ops[i]? = some o) (hg : o.guard = none) (hr : (execOp a.eval o).run P w = .ok .recover w) (h : wpOpsS P ops Q rest (a.put o.dst .nilIface) (c :: cs) w) : wpOpsS P ops Q (i :: rest) a (c :: cs) w := by
 unfold wpOpsS
 have hw : Region.wanted o (yielded ops a.tmps) = true := by unfold Region.wanted; rw [hg]
 simp only [ho,hw,if_true,hr,rec_none hm]
 exact h
theorem endS {fn : Func} (hm : c.mode = .returning) (hd : a.defers = []) (hr : (results fn a.tmps).run P w = .ok (.tuple #[]) w) : bodyPostS P fn c cs (fun e u' w' => u' = .returning ∧ ∃ v,e = .returned v ∧ Old w w') .normal a (c :: cs) w :=
 ⟨hd,.returning,by rw [← hm],.tuple #[],hr,rfl,.tuple #[],rfl,Old.refl w⟩
end
theorem act_eval {a : Act} {t : Nat} {x : Value} (h : a.tmps[t]? = some x) : a.eval (.tmp t) = x := by simp [Act.eval,h]
theorem tail48 {a : Act} {c : Frame} {cs : List Frame} {w : World} {fn : Func} {X : Code} {id : Nat} {ty ty2 : TypeId} {ps ps2 : String} {af af2 : Array Edge} (hm : c.mode = .returning) (hfn : fn.results = #[]) (hsz : a.tmps.size = 8) (hd : a.defers = []) (h2 : a.tmps[2]? = some .nilIface) :
  (Code.seq (.region id #[⟨some 4,.move (.tmp 2),ty,ps,af,none⟩,⟨some 5,.binOp .neq 20 (.tmp 4) (.const .nilIface) 20,ty2,ps2,af2,none⟩] false) (.cond (.tmp 5) X .skip)).wpS Tryz.prog (bodyPostS Tryz.prog fn c cs fun e u' w' => u' = .returning ∧ ∃ v,e = .returned v ∧ Old w w') a (c :: cs) w := by
 refine wpS_seq (wpS_region ?_)
 show wpOpsS _ _ _ [0,1] _ _ _
 have r0 : (execOp a.eval ⟨some 4,.move (.tmp 2),ty,ps,af,none⟩).run Tryz.prog w = .ok (.value .nilIface) w := by simp only [execOp,act_eval h2,Sem.run_pure]
 have h4 : (a.put (some 4) .nilIface).tmps[4]? = some .nilIface := by simp [Act.put,hsz]
 have r1 : (execOp (a.put (some 4) .nilIface).eval ⟨some 5,.binOp .neq 20 (.tmp 4) (.const .nilIface) 20,ty2,ps2,af2,none⟩).run Tryz.prog w = .ok (.value (.bool false)) w := by
  simp only [execOp,act_eval h4,show (a.put (some 4) .nilIface).eval (.const .nilIface) = .nilIface from rfl]
  kernel_rfl
 refine opsS_val .nilIface rfl rfl r0 (opsS_val (.bool false) rfl rfl r1 ?_)
 unfold wpOpsS
 show Code.wpS _ _ _ _ _ _
 refine wpS_cond (t := false) (act_eval (by simp [Act.put,hsz])) (wpS_of_wp (wp_skip ?_))
 exact endS hm hd (by unfold results; rw [hfn]; kernel_rfl)
set_option maxRecDepth 100000 in
theorem defOk48 : DefOk Tryz.prog 48 := by
 refine ⟨by kernel_rfl,fun cap w hcap => ?_⟩
 obtain ⟨l⟩ := cap
 obtain ⟨x,y,rfl⟩ : ∃ x y,l = [x,y] := by
  match l,hcap with
  | [x,y],_ => exact ⟨x,y,rfl⟩
 refine callsD_of_wpS Tryz.func48 rfl fun c₀ cs hm => ?_
 refine wpS_seq (wpS_region ?_)
 show wpOpsS _ _ _ [0,1] _ _ _
 refine opsS_rec hm rfl rfl (by kernel_rfl) (opsS_val .nilIface rfl rfl (by kernel_rfl) ?_)
 unfold wpOpsS
 show Code.wpS _ _ _ _ _ _
 exact tail48 hm rfl (by kernel_rfl) rfl (by kernel_rfl)
set_option maxRecDepth 100000 in
theorem defOk126 : DefOk Tryz.prog 126 := by
 refine ⟨by kernel_rfl,fun cap w hcap => ?_⟩
 obtain ⟨l⟩ := cap
 obtain ⟨x,y,rfl⟩ : ∃ x y,l = [x,y] := by
  match l,hcap with
  | [x,y],_ => exact ⟨x,y,rfl⟩
 refine callsD_of_wpS Tryz.func126 rfl fun c₀ cs hm => ?_
 refine wpS_seq (wpS_region ?_)
 show wpOpsS _ _ _ [0,1] _ _ _
 refine opsS_rec hm rfl rfl (by kernel_rfl) (opsS_val .nilIface rfl rfl (by kernel_rfl) ?_)
 unfold wpOpsS
 show Code.wpS _ _ _ _ _ _
 exact tail48 hm rfl (by kernel_rfl) rfl (by kernel_rfl)
end Go.Proofs.YteajeenmojbjhaaGreatDoor.Ev
