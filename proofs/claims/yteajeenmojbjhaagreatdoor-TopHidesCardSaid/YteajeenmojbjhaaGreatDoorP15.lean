/-
 Facts: what the kernel computes holds of the program.
-/
import Derived.Test.YteajeenmojbjhaaGreatDoorP11
import Derived.Test.YteajeenmojbjhaaGreatDoorP14
import Derived.Test.YteajeenmojbjhaaGreatDoorP13
import Derived.Test.YteajeenmojbjhaaGreatDoorP2
namespace Go.Proofs.YteajeenmojbjhaaGreatDoor.Ev
open Go Fw
noncomputable section
abbrev C0 : List AV := [.n 6 1779033703,.n 6 3144134277,.n 6 1013904242,.n 6 2773480762,.n 6 1359893119,.n 6 2600822924,.n 6 528734635,.n 6 1541459225]
abbrev C2 : List AV := [.n 6 1116352408,.n 6 1899447441,.n 6 3049323471,.n 6 3921009573,.n 6 961987163,.n 6 1508970993,.n 6 2453635748,.n 6 2870763221,.n 6 3624381080,.n 6 310598401,.n 6 607225278,.n 6 1426881987,.n 6 1925078388,.n 6 2162078206,.n 6 2614888103,.n 6 3248222580,.n 6 3835390401,.n 6 4022224774,.n 6 264347078,.n 6 604807628,.n 6 770255983,.n 6 1249150122,.n 6 1555081692,.n 6 1996064986,.n 6 2554220882,.n 6 2821834349,.n 6 2952996808,.n 6 3210313671,.n 6 3336571891,.n 6 3584528711,.n 6 113926993,.n 6 338241895,.n 6 666307205,.n 6 773529912,.n 6 1294757372,.n 6 1396182291,.n 6 1695183700,.n 6 1986661051,.n 6 2177026350,.n 6 2456956037,.n 6 2730485921,.n 6 2820302411,.n 6 3259730800,.n 6 3345764771,.n 6 3516065817,.n 6 3600352804,.n 6 4094571909,.n 6 275423344,.n 6 430227734,.n 6 506948616,.n 6 659060556,.n 6 883997877,.n 6 958139571,.n 6 1322822218,.n 6 1537002063,.n 6 1747873779,.n 6 1955562222,.n 6 2024104815,.n 6 2227730452,.n 6 2361852424,.n 6 2428436474,.n 6 2756734187,.n 6 3204031479,.n 6 3329325298]
def V0 : List Value := [.int .u32 1779033703,.int .u32 3144134277,.int .u32 1013904242,.int .u32 2773480762,.int .u32 1359893119,.int .u32 2600822924,.int .u32 528734635,.int .u32 1541459225]
def V2 : List Value := [.int .u32 1116352408,.int .u32 1899447441,.int .u32 3049323471,.int .u32 3921009573,.int .u32 961987163,.int .u32 1508970993,.int .u32 2453635748,.int .u32 2870763221,.int .u32 3624381080,.int .u32 310598401,.int .u32 607225278,.int .u32 1426881987,.int .u32 1925078388,.int .u32 2162078206,.int .u32 2614888103,.int .u32 3248222580,.int .u32 3835390401,.int .u32 4022224774,.int .u32 264347078,.int .u32 604807628,.int .u32 770255983,.int .u32 1249150122,.int .u32 1555081692,.int .u32 1996064986,.int .u32 2554220882,.int .u32 2821834349,.int .u32 2952996808,.int .u32 3210313671,.int .u32 3336571891,.int .u32 3584528711,.int .u32 113926993,.int .u32 338241895,.int .u32 666307205,.int .u32 773529912,.int .u32 1294757372,.int .u32 1396182291,.int .u32 1695183700,.int .u32 1986661051,.int .u32 2177026350,.int .u32 2456956037,.int .u32 2730485921,.int .u32 2820302411,.int .u32 3259730800,.int .u32 3345764771,.int .u32 3516065817,.int .u32 3600352804,.int .u32 4094571909,.int .u32 275423344,.int .u32 430227734,.int .u32 506948616,.int .u32 659060556,.int .u32 883997877,.int .u32 958139571,.int .u32 1322822218,.int .u32 1537002063,.int .u32 1747873779,.int .u32 1955562222,.int .u32 2024104815,.int .u32 2227730452,.int .u32 2361852424,.int .u32 2428436474,.int .u32 2756734187,.int .u32 3204031479,.int .u32 3329325298]
def H0 : Hp := .cons 2 (.ro 299 64 C2) (.cons 0 (.ro 209 8 C0) .nil)
def isV (r : MR) (v : AV) : Bool := MR.rec (motive := fun _ => Bool) false (fun x _ _ => beqV x v) r
def memo (l : List (Nat × List AV × AV)) (g : Nat) (va : List AV) : Option AV :=
 List.rec (motive := fun _ => Option AV) none (fun p _ ih => Prod.rec (motive := fun _ => Option AV) (fun f q => Prod.rec (motive := fun _ => Option AV) (fun ws v => Bool.rec (motive := fun _ => Option AV) ih (Bool.rec (motive := fun _ => Option AV) ih (some v) (beqVs va ws)) (Nat.beq f g)) q) p) l
def pfx (l : List (Nat × List AV × AV)) (g : Nat) (va : List AV) : Option AV := Option.rec (motive := fun _ => Option AV) (memo l g va) (fun v => some v) (pf0 g va)
end
structure GW (w : World) : Prop where
 b0 : ∃ fz : TypeId × Nat × Nat,w.heap[0]? = some (.cells V0.toArray fz.1 fz.2)
 b2 : ∃ fz : TypeId × Nat × Nat,w.heap[2]? = some (.cells V2.toArray fz.1 fz.2)
theorem GW.old {w w' : World} (h : GW w) (ho : Old w w') : GW w' := by
 obtain ⟨f0,h0⟩ := h.b0
 obtain ⟨f2,h2⟩ := h.b2
 exact ⟨⟨f0,(ho.keep 0 (Array.getElem?_eq_some_iff.1 h0).1).trans h0⟩,⟨f2,(ho.keep 2 (Array.getElem?_eq_some_iff.1 h2).1).trans h2⟩⟩
def s0 : Sg := fun b => if b = 0 then some (0,0) else if b = 2 then some (2,0) else none
theorem lay0 {w : World} (h : GW w) : Lay s0 H0 w w := by
 obtain ⟨f0,h0⟩ := h.b0
 obtain ⟨f2,h2⟩ := h.b2
 have hg : ∀ b o,hget b H0 = some o → (b = 2 ∧ o = .ro 299 64 C2) ∨ (b = 0 ∧ o = .ro 209 8 C0) := fun b o hb => by
  unfold H0 at hb
  rw [hget_cons] at hb
  split at hb
  ·rename_i e; cases hb; exact .inl ⟨e.symm,rfl⟩
  ·rw [hget_cons] at hb
   split at hb
   ·rename_i e; cases hb; exact .inr ⟨e.symm,rfl⟩
   ·cases hb
 refine ⟨⟨fun c oc hc => ?_,⟨fun c oc hc => (by cases hc),trivial⟩⟩,Old.refl w,fun b o hb => ?_,fun b b' o o' g g' hb hb' hs hs' he => ?_⟩
 ·rw [hget_cons] at hc
  split at hc
  ·omega
  ·cases hc
 ·rcases hg b o hb with ⟨rfl,rfl⟩ | ⟨rfl,rfl⟩
  ·exact ⟨(2,0),rfl,⟨V2,f2,h2,by kernel_rfl,rfl⟩,fun h => (by cases h)⟩
  ·exact ⟨(0,0),rfl,⟨V0,f0,h0,by kernel_rfl,rfl⟩,fun h => (by cases h)⟩
 ·rcases hg b o hb with ⟨rfl,rfl⟩ | ⟨rfl,rfl⟩ <;> rcases hg b' o' hb' with ⟨rfl,rfl⟩ | ⟨rfl,rfl⟩
  ·rfl
  ·simp [s0] at hs hs'; subst hs; subst hs'; simp at he
  ·simp [s0] at hs hs'; subst hs; subst hs'; simp at he
  ·rfl
theorem gl0 : GlOk s0 := ⟨⟨0,rfl⟩,⟨0,rfl⟩⟩
theorem fact {pf : Nat → List AV → Option AV} (hP : ∀ w,GW w → PrimOk Tryz.prog pf w) {fuel g : Nat} {va : List AV} {v : AV} (h : isV (evF FT pf fuel g va H0 1000) v = true) (hc : (denL S0 va).isSome = true) (hv : (den S0 v).isSome = true) {w0 : World} (hG : GW w0) : PO w0 g va v := by
 cases hr : evF FT pf fuel g va H0 1000 with
 | no => rw [hr] at h; cases h
 | ok x h' nx' =>
  rw [hr] at h
  have := beqV_eq _ _ (show beqV x v = true from h)
  subst this
  obtain ⟨vs,hvs⟩ := Option.isSome_iff_exists.1 hc
  obtain ⟨u,hu⟩ := Option.isSome_iff_exists.1 hv
  refine ⟨(evF_ok tabs (hP w0 hG) invs mixed fts fuel g va H0 1000 x h' nx' hr).1,vs,u,hvs,hu,fun w ho => ?_⟩
  have hw := hG.old ho
  refine ((evF_ok tabs (hP w hw) invs mixed fts fuel g va H0 1000 x h' nx' hr).2 s0 w vs gl0 (lay0 hw) (fun b hb => ?_) (denL_ext (ext0 s0) _ _ hvs)).mono ?_
  ·simp only [s0]; rw [if_neg (by omega),if_neg (by omega)]
  ·rintro e w' ⟨σ',y,rfl,h1,h2,h3,_,_,_⟩
   rw [den_ext (ext0 σ') _ _ hu] at h2
   cases h2
   exact ⟨rfl,h3.old⟩
def Facts (l : List (Nat × List AV × AV)) : Prop := ∀ g va v,(g,va,v) ∈ l → ∀ w,GW w → PO w g va v
theorem memo_some {l : List (Nat × List AV × AV)} {g : Nat} {va : List AV} {v : AV} (h : memo l g va = some v) : (g,va,v) ∈ l := by
 induction l with
 | nil => cases h
 | cons p l ih =>
  obtain ⟨f,ws,u⟩ := p
  have h : Bool.rec (motive := fun _ => Option AV) (memo l g va) (Bool.rec (motive := fun _ => Option AV) (memo l g va) (some u) (beqVs va ws)) (Nat.beq f g) = some v := h
  cases h1 : Nat.beq f g with
  | false => rw [h1] at h; exact List.mem_cons_of_mem _ (ih h)
  | true =>
   rw [h1] at h
   cases h2 : beqVs va ws with
   | false => rw [h2] at h; exact List.mem_cons_of_mem _ (ih h)
   | true =>
    rw [h2] at h
    have h : some u = some v := h
    cases h
    rw [beq_iff] at h1
    have := beqVs_eq h2
    subst h1; subst this
    exact List.mem_cons_self
theorem Facts.prim {l : List (Nat × List AV × AV)} (hF : Facts l) : ∀ w,GW w → PrimOk Tryz.prog (pfx l) w := fun w hw g va v h => by
 unfold pfx at h
 cases h0 : pf0 g va with
 | some u => rw [h0] at h; cases h; exact prim0 w g va _ h0
 | none => rw [h0] at h; exact hF _ _ _ (memo_some h) w hw
theorem Facts.nil : Facts [] := fun _ _ _ h => by cases h
theorem Facts.cons {l : List (Nat × List AV × AV)} {g : Nat} {va : List AV} {v : AV} (h : ∀ w,GW w → PO w g va v) (hF : Facts l) : Facts ((g,va,v) :: l) := fun g' va' v' hm => by
 rcases List.mem_cons.1 hm with e | hm
 ·cases e; exact h
 ·exact hF _ _ _ hm
end Go.Proofs.YteajeenmojbjhaaGreatDoor.Ev
namespace Go.Proofs.YteajeenmojbjhaaGreatDoor.Ev
open Go Fw
def PF (q : Nat × List AV × AV) : Prop := ∀ w,GW w → PO w q.1 q.2.1 q.2.2
noncomputable def runQ (l : List (Nat × List AV × AV)) (q : Nat × List AV × AV) : Bool := isV (evF FT (pfx l) 60 q.1 q.2.1 H0 1000) q.2.2
theorem factQ {l : List (Nat × List AV × AV)} {q : Nat × List AV × AV} (hF : Facts l) (h : runQ l q = true) (hc : (denL S0 q.2.1).isSome = true) (hv : (den S0 q.2.2).isSome = true) : PF q := fun w hG =>
 fact (fuel := 60) hF.prim h hc hv hG
theorem Facts.consQ {l : List (Nat × List AV × AV)} {q : Nat × List AV × AV} (h : PF q) (hF : Facts l) : Facts (q :: l) := Facts.cons h hF
end Go.Proofs.YteajeenmojbjhaaGreatDoor.Ev
namespace Go.Proofs.YteajeenmojbjhaaGreatDoor.Ev
open Go Fw
def celB : AV → Bool | .n .. | .bool _ => true | _ => false
def row (n : Nat) : AV → Bool | .agg cs => Nat.beq cs.length n && cs.all celB | _ => false
theorem cel_ok {c : AV} (h : celB c = true) : ∃ v,(∀ σ,den σ c = some v) ∧ oneC v = true := by
 cases c <;> first | (cases h; done) | skip
 ·exact ⟨_,fun _ => db,rfl⟩
 ·exact ⟨_,fun _ => dn,rfl⟩
theorem cels_ok : ∀ {cs : List AV},cs.all celB = true → ∃ vs,(∀ σ,denL σ cs = some vs) ∧ vs.length = cs.length ∧ vs.all oneC = true
 | [],_ => ⟨[],fun _ => denL_nil,rfl,rfl⟩
 | c :: cs,h => by
  simp only [List.all_cons,Bool.and_eq_true] at h
  obtain ⟨v,h1,h2⟩ := cel_ok h.1
  obtain ⟨vs,h3,h4,h5⟩ := cels_ok h.2
  exact ⟨v :: vs,fun σ => denL_cons (h1 σ) (h3 σ),by simp [h4],by simp [h2,h5]⟩
theorem row_ok {n : Nat} {v : AV} (h : row n v = true) : ∃ arr : Array Value,(∀ σ,den σ v = some (.agg arr)) ∧ arr.size = n ∧ arr.toList.all oneC = true := by
 cases v <;> first | (cases h; done) | skip
 rename_i cs
 have h : (Nat.beq cs.length n && cs.all celB) = true := h
 simp only [Bool.and_eq_true,beq_iff] at h
 obtain ⟨vs,h1,h2,h3⟩ := cels_ok h.2
 exact ⟨vs.toArray,fun σ => by simp only [den,h1],by simp [h2,h.1],by simpa using h3⟩
theorem Old.chg {w w' : World} (h : Old w w') : Chg (fun _ => False) w w' := ⟨h.size,fun b hb _ => h.keep b hb,fun a ha => by unfold World.frozen?; rw [h.keep _ ha],h.os,h.tape,h.out⟩
theorem GW.chg {w w' : World} (h : GW w) (hc : Chg (fun _ => False) w w') : GW w' := h.old (Old.of_chg hc)
section
variable {l : List (Nat × List AV × AV)} {w : World}
theorem pf1 (hF : Facts l) {g : Nat} {va : List AV} {v : AV} (h : pfx l g va = some v) {vs : List Value} (hv : ∀ σ,denL σ va = some vs) {u : Value} (hu : ∀ σ,den σ v = some u) (hG : GW w) : Cl Tryz.prog g vs.toArray w (RetQ w fun r => r = u) := by
 obtain ⟨_,ws,x,h1,h2,h3⟩ := hF.prim w hG g va v h
 rw [hv] at h1; cases h1
 rw [hu] at h2; cases h2
 refine ⟨(h3 w (Old.refl w)).mono ?_⟩
 rintro e w' ⟨rfl,ho⟩
 exact ⟨_,rfl,rfl,ho.chg⟩
end
noncomputable def dbls (pf : Nat → List AV → Option AV) (C : AV) : Nat → AV → Option AV
 | 0,R => some R
 | k + 1,R => match pf 147 [C,R] with
  | some R' => match row 12 R' with | true => dbls pf C k R' | false => none
  | none => none
noncomputable def rawA (pf : Nat → List AV → Option AV) (C : AV) (W : List AV) : List Nat → AV → Option AV
 | [],R => some R
 | d :: ds,R => match dbls pf C 4 R,takeA 12 (match dropA (d * 12) W with | some x => x | none => []) with
  | some R4,some e => match Nat.blt d 16,pf 148 [C,R4,.agg e] with
   | true,some R' => match row 12 R' with | true => rawA pf C W ds R' | false => none
   | _,_ => none
  | _,_ => none
abbrev Z12 : AV := .agg (List.replicate 12 (.n 7 0))
def digs : List AV → Option (List Nat)
 | [] => some []
 | .n 3 d :: r => match digs r with | some l => some (d :: l) | none => none
 | _ :: _ => none
noncomputable def digR (r : MR) : Option (List Nat) := match r with
 | .ok (.sl b 0 n _) h _ => match rdN b 0 n h,hget b h with
  | some vs,some (.ex _ _ _) => match Nat.beq vs.length n with | true => digs vs | false => none
  | _,_ => none
 | _ => none
def rowR (b : Nat) (ds : List Nat) : Res := ⟨9,[b],fun h => ∃ arr T fz,h[b]? = some (.cells arr T fz) ∧ ∀ (i d : Nat),ds[i]? = some d → arr[i]? = some (.int .i64 (d : Int)),fun h h' hb ⟨arr,T,fz,h1,h2⟩ => ⟨arr,T,fz,(hb b List.mem_cons_self).trans h1,h2⟩⟩
theorem digs_den : ∀ {vs : List AV} {ds : List Nat} {σ : Sg} {ws : List Value},digs vs = some ds → denL σ vs = some ws → ds.length = vs.length ∧ ∀ (i d : Nat),ds[i]? = some d → ws[i]? = some (.int .i64 (d : Int))
 | [],ds,σ,ws,h,hd => by
  cases h
  exact ⟨rfl,fun i d h => by simp at h⟩
 | v :: vs,ds,σ,ws,h,hd => by
  unfold digs at h
  split at h
  ·rename_i e; cases e
  ·rename_i d r e
   cases e
   split at h
   ·rename_i l hl
    cases h
    obtain ⟨x,r',rfl,h1,h2⟩ := denL_cons_inv hd
    obtain ⟨h3,h4⟩ := digs_den hl h2
    refine ⟨by simp [h3],fun i d' hi => ?_⟩
    cases i with
    | zero =>
     simp only [List.getElem?_cons_zero,Option.some.injEq] at hi ⊢
     subst hi
     exact den_n h1
    | succ i => simpa using h4 i d' (by simpa using hi)
   ·cases h
  ·cases h
theorem c192 {l : List (Nat × List AV × AV)} (hF : Facts l) {fuel : Nat} {K : AV} {ds : List Nat} (h : digR (evF FT (pfx l) fuel 192 [K] H0 1000) = some ds) {ks : Array Value} (hK : ∀ σ,den σ K = some (.agg ks)) {w : World} (hG : GW w) :
  Cl Tryz.prog 192 #[.agg ks] w (RetS [] w (fun r (x : Nat × Nat) => r = .slice (some ⟨x.1,0,none⟩) ds.length x.2) fun x => [rowR x.1 ds]) := by
 unfold digR at h
 split at h
 ·rename_i b n c hp nx hr
  split at h
  ·rename_i vs T0 n0 cs0 hvs ho
   split at h
   ·rename_i hlen
    rw [beq_iff] at hlen
    refine ⟨((evF_ok tabs (hF.prim w hG) invs mixed fts fuel 192 [K] H0 1000 _ hp nx hr).2 s0 w [.agg ks] gl0 (lay0 hG) (fun b hb => ?_) (by simp only [denL,hK])).mono ?_⟩
    ·simp only [s0]; rw [if_neg (by omega),if_neg (by omega)]
    ·rintro e w' ⟨σ',y,rfl,h1,h2,h3,_,_,h6⟩
     obtain ⟨g,hg,⟨us,fz,hb,_,_,_⟩,hro⟩ := h3.blk b _ ho
     obtain ⟨g',ws,k1,k2,k3,k4⟩ := rdN_run h3 hvs
     rw [hg] at k1; cases k1
     have hy : y = .slice (some ⟨g.1,0,none⟩) n c := by
      simp only [den,hg,Option.some.injEq] at h2
      exact h2.symm
     obtain ⟨e1,e2⟩ := digs_den h k2
     have hlt : g.1 < w'.heap.size := (Array.getElem?_eq_some_iff.1 hb).1
     refine ⟨_,(g.1,c),rfl,by rw [hy,e1,hlen],⟨fun x hx => ?_,fun b' hb' => ?_,by simp [foots,rowR]⟩,fun b' hb' => .inr ?_,?_⟩
     ·rw [List.mem_singleton.1 hx]
      refine ⟨us.toArray,T0,fz,hb,fun i d hi => ?_⟩
      have := k4 i _ (e2 i d hi)
      simpa [World.cell?,hb] using this
     ·simp [foots,rowR] at hb'; subst hb'; exact hlt
     ·simp [foots,rowR] at hb'; subst hb'; exact hro rfl
     ·have := (Old.chg h3.old)
      exact ⟨this.size,fun b hb _ => this.keep b hb id,this.fz,this.os,this.tape,this.out⟩
   ·cases h
  ·cases h
 ·cases h
theorem ag25 : aggB Tryz.prog 25 = some 4 := by kernel_rfl
theorem ag54 : aggB Tryz.prog 54 = some 9 := by kernel_rfl
theorem ag166 : aggB Tryz.prog 166 = some 13 := by kernel_rfl
theorem ag170 : aggB Tryz.prog 170 = some 12 := by kernel_rfl
theorem sz170 : sizeB Tryz.prog 170 = some 12 := by kernel_rfl
theorem sz217 : sizeB Tryz.prog 217 = some 192 := by kernel_rfl
theorem ar217 : arrB Tryz.prog 217 = some (16,12) := by kernel_rfl
theorem sl26 : slcB Tryz.prog 26 = some (3,1) := by kernel_rfl
theorem sc3 : scalB Tryz.prog 3 = true := by kernel_rfl
abbrev z12 : Array Value := Array.replicate 12 (.int .u64 0)
abbrev z192 : Array Value := Array.replicate 192 (.int .u64 0)
theorem zr170 : zeroB Tryz.prog 170 = some (.agg z12) := by kernel_rfl
theorem zr217 : zeroB Tryz.prog 217 = some (.agg z192) := by kernel_rfl
theorem bld170 : ∀ w : World,(Instr.build 170 #[]).run Tryz.prog w = .ok (.agg z12) w := by intros; kernel_rfl
theorem mixedT : Tryz.prog.follows .mixedOrders = true := by kernel_rfl
theorem c146 (ks : Array Value) (w0 : World) : Cl Tryz.prog 146 #[.agg ks] w0 (RetS [] w0 (fun r (x : Nat) => r = .func (.func 191) #[] #[.pointer (some ⟨x,0,none⟩)]) fun x => [blk x (.cells ks 25 (0,0))]) := by
 have M : Sep (fun b => b ∈ foots ([] : List Res)) w0 w0 _ := Sep.nil _ w0
 refine enter (vs := [_]) Tryz.func146 rfl rfl rfl ?_
 intro a F
 refine wp_seq ?_
 refine wp_region_l [.wr,.ind] ([0,1]) rfl ?_
 refine s_bxA F M rfl rfl rfl rfl rfl ?_; clear F a M; intro b1 w M a F
 refine s_I F rfl rfl rfl rfl rfl rfl ?_; clear F a; intro a F
 refine t_endM M ?_; clear M w; intro w M
 refine wp_seq ?_
 refine wp_region_l [.ind,.ind] ([0,1]) rfl ?_
 refine s_mkf F rfl rfl rfl rfl rfl rfl ?_; clear F a; intro a F
 refine s_I F rfl rfl rfl rfl rfl rfl ?_; clear F a; intro a F
 refine t_endM M ?_; clear M w; intro w M
 refine wp_ret ?_
 exact rt1 F rfl (rv_t F rfl) ⟨_,b1,rfl,rfl,M⟩
theorem elt_ok {wl e : List AV} {d : Nat} {ws : Array Value} (hw : ∀ σ,denL σ wl = some ws.toList) (h : takeA 12 (match dropA (d * 12) wl with | some x => x | none => []) = some e) : ∃ es : Array Value,(∀ σ,denL σ e = some es.toList) ∧ es.size = 12 ∧ ∀ (j : Nat) (v : Value),es[j]? = some v → ws[0 + d * 12 + j]? = some v := by
 cases hd : dropA (d * 12) wl with
 | none =>
  rw [hd] at h
  obtain ⟨h1,_⟩ := takeA_eq _ _ h
  simp at h1
 | some x =>
  rw [hd] at h
  obtain ⟨_,rfl⟩ := dropA_eq _ _ hd
  obtain ⟨h1,rfl⟩ := takeA_eq _ _ h
  refine ⟨((ws.toList.drop (d * 12)).take 12).toArray,fun σ => denL_take 12 (denL_drop _ (hw σ)),?_,fun j v hj => ?_⟩
  ·have := denL_length (hw (fun _ => none))
   simp at h1 this ⊢
   omega
  ·simp only [List.getElem?_toArray,List.getElem?_take] at hj
   split at hj
   ·rw [List.getElem?_drop] at hj
    rw [Nat.zero_add]
    simpa using hj
   ·cases hj
theorem dbls_succ {pf : Nat → List AV → Option AV} {C R R4 : AV} {k : Nat} (h : dbls pf C (k + 1) R = some R4) : ∃ R1,pf 147 [C,R] = some R1 ∧ row 12 R1 = true ∧ dbls pf C k R1 = some R4 := by
 simp only [dbls] at h
 split at h
 ·rename_i R1 h1
  split at h
  ·rename_i h2
   exact ⟨R1,h1,h2,h⟩
  ·cases h
 ·cases h
def StepA (pf : Nat → List AV → Option AV) (C : AV) (wl : List AV) (d : Nat) (R R' : AV) : Prop := ∃ R4 e,dbls pf C 4 R = some R4 ∧ takeA 12 (match dropA (d * 12) wl with | some x => x | none => []) = some e ∧ d < 16 ∧ pf 148 [C,R4,.agg e] = some R' ∧ row 12 R' = true
theorem rawA_cons {pf : Nat → List AV → Option AV} {C : AV} {wl : List AV} {d : Nat} {ds : List Nat} {R v : AV} (h : rawA pf C wl (d :: ds) R = some v) : ∃ R',StepA pf C wl d R R' ∧ rawA pf C wl ds R' = some v := by
 simp only [rawA] at h
 split at h
 ·rename_i R4 e h1 h2
  split at h
  ·rename_i R' h3 h4
   split at h
   ·rename_i h5
    exact ⟨R',⟨R4,e,h1,h2,blt_iff.1 h3,h4,h5⟩,h⟩
   ·cases h
  ·cases h
 ·cases h
def ptR (b : Nat) (R : AV) : Res := ⟨10,[b],fun h => ∃ arr : Array Value,(∀ σ,den σ R = some (.agg arr)) ∧ arr.size = 12 ∧ arr.toList.all oneC = true ∧ h[b]? = some (.cells arr 170 (0,0)),fun h h' hb ⟨arr,h1,h2,h3,h4⟩ => ⟨arr,h1,h2,h3,(hb b List.mem_cons_self).trans h4⟩⟩
theorem Sep.pt_open {S : Nat → Prop} {w0 w : World} {b : Nat} {R : AV} {r : List Res} (M : Sep S w0 w (ptR b R :: r)) : ∃ arr : Array Value,(∀ σ,den σ R = some (.agg arr)) ∧ arr.size = 12 ∧ arr.toList.all oneC = true ∧ Sep S w0 w (blk b (.cells arr 170 (0,0)) :: r) := by
 obtain ⟨arr,h1,h2,h3,h4⟩ := M.own.ok _ List.mem_cons_self
 refine ⟨arr,h1,h2,h3,⟨fun x hx => ?_,M.own.lt,M.own.nd⟩,M.mine,M.chg⟩
 rcases List.mem_cons.1 hx with rfl | hx
 ·exact h4
 ·exact M.own.ok _ (List.mem_cons_of_mem _ hx)
theorem Sep.pt_shut {S : Nat → Prop} {w0 w : World} {b : Nat} {R : AV} {r : List Res} {arr : Array Value} (M : Sep S w0 w (blk b (.cells arr 170 (0,0)) :: r)) (h1 : ∀ σ,den σ R = some (.agg arr)) (h2 : arr.size = 12) (h3 : arr.toList.all oneC = true) : Sep S w0 w (ptR b R :: r) := by
 refine ⟨⟨fun x hx => ?_,M.own.lt,M.own.nd⟩,M.mine,M.chg⟩
 rcases List.mem_cons.1 hx with rfl | hx
 ·exact ⟨arr,h1,h2,h3,M.own.ok _ List.mem_cons_self⟩
 ·exact M.own.ok _ (List.mem_cons_of_mem _ hx)
theorem row_int {b : Nat} {ds : List Nat} {h : Array Obj} (hr : (rowR b ds).ok h) {w : World} (hw : w.heap = h) {i d : Nat} (hi : ds[i]? = some d) : w.cell? ⟨b,i,none⟩ = some (.int .i64 (d : Int)) := by
 obtain ⟨arr,T,fz,h1,h2⟩ := hr
 subst hw
 exact cell_of_blk h1 (h2 i d hi)
theorem setRec {S : Nat → Prop} {w0 W : World} {p : Res} {L : Nat} {o : Loop} {r t : List Res} (M : Sep S w0 W (p :: (r ++ blk L (.loop o) :: t))) (o' : Loop) : Sep S w0 (W.putObj L (.loop o')) (p :: (r ++ blk L (.loop o') :: t)) := by
 have hP1 : ∀ (x : Res),(p :: (r ++ x :: t)).Perm (x :: p :: (r ++ t)) := fun x => (List.Perm.cons p List.perm_middle).trans (.swap _ _ _)
 exact (Sep.setObj (o' := .loop o') (M.perm (hP1 _)) (by intros; simp) (by intros; simp)).perm (hP1 _).symm
theorem yield_run {n : Nat} {a : Act} {sl : List (Nat × Value)} {x y : Operand} {L : Nat} {rc : Loop} {v : Value} {dst : Option Tmp} {ty : TypeId} {ps : String} {af : Array Edge} {g : Option (Nat × Bool)} {tys : Array TypeId} {P : Program} {W : World} (hx : ev sl x = some (.func (.yield L) #[] #[])) (hy : ev sl y = some v) (F : Fr n a sl) (hL : W.heap[L]? = some (.loop rc)) (hp : rc.params.size = 1) :
  (execOp a.eval ⟨dst,.call ⟨.value x,#[y],tys⟩,ty,ps,af,g⟩).run P W = .ok (.round L rc.fn ((rc.params.zip #[v]).foldl (fun tmps (t,a) => tmps.setIfInBounds t a) rc.tmps) rc.assign rc.body) W := by
 have e1 := F.ev hx
 have e2 := F.ev hy
 have ha : (#[y] : Array Operand).map a.eval = #[v] := by simp [e2]
 have hr := run_yield (P := P) (args := #[v]) hL (by rw [hp]; rfl)
 simp only [execOp,resolve,ha,e1,Deferred.ofValue,Sem.run_bind,Sem.run_pure,Result.andThen_ok,invoke,Array.append_empty,Array.empty_append]
 exact hr
set_option maxRecDepth 100000 in
set_option maxHeartbeats 4000000 in
theorem rfRun {l : List (Nat × List AV × AV)} (hF : Facts l) {C K v : AV} {wl : List AV} {ds : List Nat} {ks : Array Value} (hK : ∀ σ,den σ K = some (.agg ks)) (sK : ks.size = 4) (hdig : digR (evF FT (pfx l) 60 192 [K] H0 1000) = some ds) (hds : ds.length < 1000000)
  {S : Nat → Prop} {w0 w : World} {b8 b15 : Nat} {R0 : AV} {r : List Res} {a : Act} {sl : List (Nat × Value)} {assign body : Code} {Q : Exit → Act → World → Prop} {m : Nat}
  (hrun : rawA (pfx l) C wl ds R0 = some v) (hG : ∀ w',Chg S w0 w' → GW w')
  (F : Fr 30 a ((15,.func (.func 191) #[] #[.pointer (some ⟨b15,0,none⟩)]) :: sl)) (Fs : Fr 30 a sl) (M : Sep S w0 w (ptR b8 R0 :: blk b15 (.cells ks 25 (0,0)) :: r))
  (hA : ∀ (L : Nat) (d : Int) (a' : Act) (W : World) (m' : Nat) (r' : List Res) (K : Act → World → Prop),Fr 30 a' ((16,.int .i64 d) :: sl) → Sep S w0 W r' → (∀ a'' W',Fr 30 a'' ((9,.int .i64 d) :: sl) → Sep S w0 W' r' → K a'' W') → assign.wpIn (wrF (some L)) m' Tryz.prog (Exit.then K (fun _ _ _ => False)) a' W)
  (hB : ∀ (L d : Nat) (R R' : AV) (a' : Act) (W : World) (m' : Nat) (r' : List Res) (Q' : Exit → Act → World → Prop),Fr 30 a' ((9,.int .i64 (d : Int)) :: sl) → Sep S w0 W (ptR b8 R :: (r ++ r')) → StepA (pfx l) C wl d R R' → (∀ a'' W',Sep S w0 W' (ptR b8 R' :: (r ++ r')) → Q' .normal a'' W') → body.wpIn (wrF (some L)) m' Tryz.prog Q' a' W)
  (hQ : ∀ D W',Sep S w0 W' (ptR b8 v :: (r ++ [blk D (.deferred (some []))])) → Q .normal (wD [⟨.collected D,#[]⟩] a) W') :
  (Code.rangeFunc (.tmp 15) #[16] assign body).wpIn (wrF none) (m + 2) Tryz.prog Q a w := by
 refine wpIn_rangeFunc ?_
 intro fn _
 obtain ⟨rc,hrc⟩ : ∃ rc : LoopState → Loop,rc = fun st => { state := st,pending := none,fn := fn,tmps := a.tmps,params := #[16],assign := assign,body := body,defers := w.heap.size } := ⟨_,rfl⟩
 have M1 : Sep S w0 ((w.alloc (.deferred (some []))).alloc (.loop (rc .ready))) (blk (w.heap.size + 1) (.loop (rc .ready)) :: blk w.heap.size (.deferred (some [])) :: ptR b8 R0 :: blk b15 (.cells ks 25 (0,0)) :: r) := by
  have := (M.alloc (.deferred (some [])) (by intros; contradiction)).alloc (.loop (rc .ready)) (by intros; contradiction)
  rw [show ({ w with heap := w.heap.push (.deferred (some [])) } : World).heap.size = w.heap.size + 1 from Array.size_push _] at this
  exact this
 have e1 : (Instr.enterLoop fn a.tmps #[16] assign body none).run Tryz.prog w = .ok (w.heap.size + 1,[⟨.collected w.heap.size,#[]⟩]) ((w.alloc (.deferred (some []))).alloc (.loop (rc .ready))) := by
  rw [run_enterLoop_outer,hrc]
 generalize w.heap.size = D at *
 generalize (w.alloc (.deferred (some []))).alloc (.loop (rc .ready)) = W1 at *
 clear M
 refine ⟨D + 1,[⟨.collected D,#[]⟩],W1,⟨.fn (.func 191) #[.pointer (some ⟨b15,0,none⟩)],#[.func (.yield (D + 1)) #[] #[]]⟩,W1,191,#[.func (.yield (D + 1)) #[] #[],.pointer (some ⟨b15,0,none⟩)],W1,e1,?_,?_,?_,?_,?_⟩
 ·have hg : a.eval (.tmp 15) = .func (.func 191) #[] #[.pointer (some ⟨b15,0,none⟩)] := F.ev (x := .tmp 15) rfl
  simp only [resolve,hg]
  simp [go_sem]
 ·intro f' _
  trivial
 ·simp only [invoke]
  exact run_callFunc (by kernel_rfl) _ _
 ·intro h
  cases h
 refine enterI (m := m + 1) (vs := [_,_]) Tryz.func191 rfl rfl rfl ?_
 intro ai Fi
 refine wpIn_seq ?_
 refine wpIn_region_l [.rd,.wr,.ind,.ind] ([0,1,2,3]) rfl rfl ?_
 refine s_lda Fi rfl rfl rfl rfl ag25 rfl sK (cells_whole M1.h3) ?_; clear Fi ai; intro ai Fi
 refine s_call (m := []) Fi M1 rfl rfl rfl rfl rfl (rfl : _ = some [_]) (by kernel_rfl) (fun n => c192 hF hdig hK (hG _ (M1.drewN n).chg)) ?_; clear Fi ai M1 W1 e1; rintro _ ⟨sb,cc⟩ W rfl M ai Fi
 simp only [List.cons_append,List.nil_append] at M
 refine s_len Fi rfl rfl rfl rfl sl26 rfl ?_; clear Fi ai; intro ai Fi
 refine s_I Fi rfl rfl rfl rfl rfl rfl ?_; clear Fi ai; intro ai Fi
 refine t_endM M ?_; clear M W; intro W M
 replace Fi := Fi.keep [0,6,7,8] rfl
 replace M := M.perm ((List.perm_middle (l₁ := [_,_,_])).trans (.cons _ ((List.perm_append_comm (l₁ := [_,_,_,_])).trans (.append_left r (.swap _ _ _)))))
 refine wpIn_block ?_
 refine wpIn_loop_rounds (ds.length + 1) ?_
 refine rounds_ind (I := fun k ai W => k ≤ ds.length ∧ ∃ R,rawA (pfx l) C wl (ds.drop (ds.length - k)) R = some v ∧ Fr 17 ai [(0,.func (.yield (D + 1)) #[] #[]),(6,.slice (some ⟨sb,0,none⟩) ds.length cc),(7,.int .i64 ds.length),(8,.int .i64 ((ds.length : Int) - k))] ∧
  Sep S w0 W (ptR b8 R :: (r ++ [blk (D + 1) (.loop (rc .ready)),rowR sb ds,blk D (.deferred (some [])),blk b15 (.cells ks 25 (0,0))]))) ?_ ?_ ds.length _ _ ⟨Nat.le_refl _,R0,by rw [Nat.sub_self,List.drop_zero]; exact hrun,by rw [Int.sub_self]; exact Fi,M⟩
 ·clear M Fi W ai hrun
  rintro k ai W ⟨hk,R,hraw,Fi,M⟩
  obtain ⟨d,hd⟩ : ∃ d,ds[ds.length - (k + 1)]? = some d := ⟨_,List.getElem?_eq_getElem (by omega)⟩
  have hdrop : ds.drop (ds.length - (k + 1)) = d :: ds.drop (ds.length - k) := by
   obtain ⟨h1,h2⟩ := List.getElem?_eq_some_iff.1 hd
   rw [← h2,List.drop_eq_getElem_cons h1]
   congr 2; omega
  rw [hdrop] at hraw
  obtain ⟨R',hst,hraw'⟩ := rawA_cons hraw
  refine wpIn_seq ?_
  refine wpIn_region_l [.ind] ([0]) rfl rfl ?_
  refine s_bin Fi rfl rfl rfl rfl rfl rfl rfl ?_; clear Fi ai; intro ai Fi
  refine t_endM M ?_; clear M W; intro W M
  refine wpIn_seq ?_
  refine wpIn_cond_true (by rw [Fi.ev (x := .tmp 9) rfl]; simp; omega) ?_
  refine wpIn_skip ?_
  show Code.wpIn _ _ _ _ _ _ _
  replace Fi := Fi.keep [0,6,7,8] rfl
  refine wpIn_seq ?_
  refine wpIn_block ?_
  refine wpIn_seq ?_
  refine wpIn_region_l [.ind,.rd,.ind] ([0,1,2]) rfl rfl ?_
  refine s_is Fi rfl rfl rfl rfl sl26 rfl rfl (by omega) (by omega) ?_; clear Fi ai; intro ai Fi
  have hcell : W.cell? ⟨sb,0 + ((ds.length : Int) - ((k + 1 : Nat) : Int)).toNat * 1,none⟩ = some (.int .i64 (d : Int)) := by
   have h := M.own.ok (rowR sb ds) (by simp)
   rw [show 0 + ((ds.length : Int) - ((k + 1 : Nat) : Int)).toNat * 1 = ds.length - (k + 1) by omega]
   exact row_int h rfl hd
  refine s_ld Fi rfl rfl rfl rfl sc3 rfl hcell ?_; clear Fi ai; intro ai Fi
  refine s_I Fi rfl rfl rfl rfl rfl rfl ?_; clear Fi ai; intro ai Fi
  refine t_endM M ?_; clear M W hcell; intro W M
  replace Fi := Fi.keep [0,4,6,7,8] rfl
  refine wpIn_seq ?_
  refine wpIn_region ?_
  show wpOpsIn _ _ _ _ _ [0,1,2,3] _ _
  refine opsR_val (r := none) (.func (.yield (D + 1)) #[] #[]) rfl rfl (fun c h => by cases h) (evI_run Fi rfl W) ?_
  replace Fi := Fi.put (d := 12) rfl (.func (.yield (D + 1)) #[] #[])
  refine opsR_val (r := none) (.int .i64 (d : Int)) rfl rfl (fun c h => by cases h) (evI_run Fi rfl W) ?_
  replace Fi := Fi.put (d := 13) rfl (.int .i64 (d : Int))
  have hL : W.heap[D + 1]? = some (.loop (rc .ready)) := by
   have h := M.own.ok (blk (D + 1) (.loop (rc .ready))) (by simp)
   exact h
  refine opsR_round (r := none) rfl rfl (fun c h => by cases h) (yield_run (x := .tmp 12) (y := .tmp 13) rfl rfl Fi hL (by rw [hrc]; rfl)) ?_
  have q1 : (rc .ready).fn = fn := by rw [hrc]
  have q2 : ((rc .ready).params.zip #[(.int .i64 (d : Int) : Value)]).foldl (fun tmps (t,a) => tmps.setIfInBounds t a) (rc .ready).tmps = a.tmps.setIfInBounds 16 (.int .i64 (d : Int)) := by rw [hrc]; simp
  have q3 : (rc .ready).assign = assign := by rw [hrc]
  have q4 : (rc .ready).body = body := by rw [hrc]
  rw [q1,q2,q3,q4]
  clear q1 q2 q3 q4
  have ha0 : ({ tmps := a.tmps.setIfInBounds 16 (.int .i64 (d : Int)),defers := [] } : Act) = a.put (some 16) (.int .i64 (d : Int)) := by
   have := F.df
   cases a
   simp_all [Act.put]
  refine roundIn_of_wpIn (F := wrF none) (l := D + 1) trivial ?_
  rw [ha0]
  refine hA (D + 1) d _ W _ _ _ (Fs.put (d := 16) rfl _) M ?_
  clear M W hL
  intro a1 W F1 M
  have hP1 : ∀ (p x : Res) (t : List Res),(p :: (r ++ x :: t)).Perm (x :: p :: (r ++ t)) := fun p x t => (List.Perm.cons p List.perm_middle).trans (.swap _ _ _)
  have hL : W.heap[D + 1]? = some (.loop (rc .ready)) := (M.perm (hP1 _ _ _)).h0
  refine ⟨_,run_beginRound hL (by rw [hrc]),?_⟩
  replace M := setRec M { rc .ready with state := .busy }
  generalize W.putObj (D + 1) (.loop { rc .ready with state := .busy }) = W at *
  refine hB (D + 1) d R R' a1 W _ _ _ F1 M hst ?_
  clear M F1 a1 hL W
  intro a1 W M
  have hL : W.heap[D + 1]? = some (.loop { rc .ready with state := .busy }) := (M.perm (hP1 _ _ _)).h0
  refine ⟨_,W.putObj (D + 1) (.loop (rc .ready)),(run_endRound none hL).trans (by rw [hrc]; rfl),_,rfl,?_⟩
  replace M := setRec M (rc .ready)
  generalize W.putObj (D + 1) (.loop (rc .ready)) = W at *
  replace Fi := Fi.put (d := 14) rfl (.bool true)
  refine opsR_val (r := none) (.bool false) rfl rfl (fun c h => by cases h) (evI_run Fi rfl W) ?_
  replace Fi := Fi.put (d := 15) rfl (.bool false)
  show Code.wpIn _ _ _ _ _ _ _
  refine wpIn_cond_false (Fi.ev (x := .tmp 15) rfl) ?_
  refine wpIn_skip ?_
  show Code.wpIn _ _ _ _ _ _ _
  refine wpIn_region_l [.ind,.ind] ([0,1]) rfl rfl ?_
  refine s_add Fi rfl rfl rfl rfl rfl rfl (by unfold In64; omega) ?_; clear Fi; intro ai Fi
  refine s_I Fi rfl rfl rfl rfl rfl rfl ?_; clear Fi ai; intro ai Fi
  refine t_endM M ?_; clear M W hL; intro W M
  replace Fi := Fi.keep [0,6,7,8] rfl
  rw [show (ds.length : Int) - ((k + 1 : Nat) : Int) + 1 = (ds.length : Int) - (k : Nat) by omega] at Fi
  exact ⟨by omega,R',hraw',Fi,M⟩
 ·clear M Fi W ai hrun
  rintro ai W ⟨_,R,hraw,Fi,M⟩
  rw [Nat.sub_zero,List.drop_length] at hraw
  obtain rfl : R = v := Option.some.inj hraw
  refine wpIn_seq ?_
  refine wpIn_region_l [.ind] ([0]) rfl rfl ?_
  refine s_bin Fi rfl rfl rfl rfl rfl rfl rfl ?_; clear Fi ai; intro ai Fi
  refine t_endM M ?_; clear M W; intro W M
  refine wpIn_seq ?_
  refine wpIn_cond_false (by rw [Fi.ev (x := .tmp 9) rfl]; simp) ?_
  refine wpIn_exit ?_
  have hL : W.heap[D + 1]? = some (.loop (rc .ready)) := (M.perm ((List.Perm.cons _ List.perm_middle).trans (.swap _ _ _))).h0
  replace M := setRec M { rc .ready with state := .exhausted }
  have hend := run_endLoop (P := Tryz.prog) hL (by rw [hrc]; intro h; cases h)
  have q5 : (rc .ready).pending = none := by rw [hrc]
  refine ⟨Fi.df,.tuple #[],by kernel_rfl,none,_,hend.trans (congrArg (fun p => Result.ok p _) q5),?_⟩
  show Q .normal { a with defers := [⟨.collected D,#[]⟩] ++ a.defers } _
  rw [F.df]
  refine hQ D _ ?_
  have hp : ∀ (p x1 x2 x3 x4 : Res),(p :: (r ++ [x1,x2,x3,x4])).Perm (x1 :: x2 :: x4 :: p :: (r ++ [x3])) := fun p x1 x2 x3 x4 =>
   ((List.perm_append_comm (l₁ := r) (l₂ := [x1,x2,x3,x4])).cons p).trans (((((List.Perm.swap x4 x3 r).trans ((List.perm_append_comm (l₁ := [x3]) (l₂ := r)).cons x4)).cons x2).cons x1).cons p |>.trans (List.perm_middle (l₁ := [x1,x2,x4]) (a := p)).symm)
  exact (M.perm (hp _ _ _ _ _)).tl.tl.tl
set_option maxRecDepth 100000 in
set_option maxHeartbeats 4000000 in
theorem c102 {l : List (Nat × List AV × AV)} (hF : Facts l) {C K P v : AV} {wl : List AV} {ds : List Nat} {cs ks ps : Array Value} (hC : ∀ σ,den σ C = some (.agg cs)) (hK : ∀ σ,den σ K = some (.agg ks)) (hP : ∀ σ,den σ P = some (.agg ps))
  (sC : cs.size = 13) (sK : ks.size = 4) (sP : ps.size = 9) (hW : row 192 (.agg wl) = true) (h145 : pfx l 145 [C,P] = some (.agg wl)) (hdig : digR (evF FT (pfx l) 60 192 [K] H0 1000) = some ds) (hds : ds.length < 1000000) (hrun : rawA (pfx l) C wl ds Z12 = some v) (hv : row 12 v = true) {w0 : World} (hG : GW w0) :
  Cl Tryz.prog 102 #[.agg cs,.agg ks,.agg ps] w0 (RetQ w0 fun r => den (fun _ => none) v = some r) := by
 obtain ⟨ws,hws,sW,oW⟩ := row_ok hW
 have hwl : ∀ σ,denL σ wl = some ws.toList := fun σ => by
  have := hws σ
  simp only [den] at this
  cases h : denL σ wl with
  | none => rw [h] at this; cases this
  | some x => rw [h] at this; cases this; rfl
 have M : Sep (fun _ => False) w0 w0 _ := Sep.nil _ w0
 refine enterM (m := 5) (vs := [_,_,_]) Tryz.func102 rfl rfl rfl ?_
 intro a F
 refine wpIn_seq ?_
 refine wpIn_region_l [.wr,.wr,.wr,.wr] ([0,1,2,3]) rfl rfl ?_
 refine s_bxA F M rfl rfl rfl rfl rfl ?_; clear F a M; intro b3 w M a F
 refine s_bxA F M rfl rfl rfl rfl rfl ?_; clear F a M w; intro b4 w M a F
 refine s_bxA F M rfl rfl rfl rfl rfl ?_; clear F a M w; intro b5 w M a F
 refine s_alc F M rfl rfl rfl rfl zr170 rfl ?_; clear F a M w; intro b6 w M a F
 refine t_endM M ?_; clear M w; intro w M
 refine wpIn_seq ?_
 replace F := F.keep [3,4,5,6] rfl
 refine wpIn_region_l [.rd,.rd,.wr,.wr,.wr] ([0,1,2,3,4]) rfl rfl ?_
 refine s_lda F rfl rfl rfl rfl ag166 rfl sC (cells_whole M.h3) ?_; clear F a; intro a F
 refine s_lda F rfl rfl rfl rfl ag54 rfl sP (cells_whole M.h1) ?_; clear F a; intro a F
 refine s_cq F M rfl rfl rfl rfl rfl (rfl : _ = some [_,_]) (by kernel_rfl) (fun n => pf1 hF h145 (vs := [_,_]) (fun σ => denL_cons (hC σ) (denL_cons (hP σ) denL_nil)) hws (hG.chg (M.drewN n).chg)) ?_; clear F a M w; rintro v w rfl M a F
 refine s_alc F M rfl rfl rfl rfl zr217 rfl ?_; clear F a M w; intro b7 w M a F
 refine s_stW F M rfl rfl rfl sz217 rfl rfl sW oW Array.size_replicate ?_; clear M w; intro w M
 refine t_endM M ?_; clear M w; intro w M
 refine wpIn_seq ?_
 replace F := F.keep [3,4,6,7] rfl
 refine wpIn_region_l [.ind,.wr,.wr] ([0,1,2]) rfl rfl ?_
 refine s_bld F rfl rfl rfl rfl (parts0 F) bld170 ?_; clear F a; intro a F
 refine s_alc F M rfl rfl rfl rfl zr170 rfl ?_; clear F a M w; intro b8 w M a F
 refine s_stW F M rfl rfl rfl sz170 rfl rfl Array.size_replicate (by decide) Array.size_replicate ?_; clear M w; intro w M
 refine t_endM M ?_; clear M w; intro w M
 refine wpIn_seq ?_
 refine wpIn_seq ?_
 replace F := F.keep [3,4,6,7,8] rfl
 refine wpIn_region_l [.rd,.wr] ([0,1]) rfl rfl ?_
 refine s_lda F rfl rfl rfl rfl ag25 rfl sK (cells_whole M.h4) ?_; clear F a; intro a F
 refine s_call (m := []) F M rfl rfl rfl rfl rfl (rfl : _ = some [_]) (by kernel_rfl) (fun n => c146 ks _) ?_; clear F a M w; rintro _ b15 w rfl M a F
 simp only [List.cons_append,List.nil_append] at M
 refine t_endM M ?_; clear M w; intro w M
 replace F := F.keep [15,3,6,7,8] rfl
 replace M := Sep.pt_shut (R := Z12) M.f1 (fun σ => rfl) Array.size_replicate (by decide)
 refine wpIn_block ?_
 refine rfRun (m := 3) hF hK sK hdig hds hrun (fun w' h => hG.chg h) F (F.keep [3,6,7,8] rfl) M ?_ ?_ ?_
 ·intro L d a' W m' r' K F M hK
  refine wpIn_region_l [.ind] ([0]) rfl rfl ?_
  refine s_I F rfl rfl rfl rfl rfl rfl ?_; clear F a'; intro a' F
  refine t_endM M ?_; clear M; (try clear W); intro W M
  exact hK _ _ (F.keep [9,3,6,7,8] rfl) M
 ·intro L d R R' a' W m' r' Q' F M hst hQ'
  obtain ⟨R4,e,hd4,he,hd16,h148,hrow⟩ := hst
  simp only [List.cons_append,List.nil_append] at M hQ'
  refine wpIn_block ?_
  refine wpIn_seq ?_
  refine wpIn_seq ?_
  refine wpIn_region_l [.ind] ([0]) rfl rfl ?_
  refine s_I F rfl rfl rfl rfl rfl rfl ?_; clear F a'; intro a' F
  refine t_endM M ?_; clear M; (try clear W); intro W M
  refine wpIn_block ?_
  refine wpIn_loop_rounds 5 ?_
  refine rounds_ind (I := fun k a W => k ≤ 4 ∧ ∃ R,dbls (pfx l) C k R = some R4 ∧ Fr 30 a [(17,.int .i64 (4 - (k : Int))),(9,.int .i64 (d : Int)),(3,.pointer (some ⟨b3,0,none⟩)),(7,.pointer (some ⟨b7,0,none⟩)),(8,.pointer (some ⟨b8,0,none⟩))] ∧ Sep (fun _ => False) w0 W (ptR b8 R :: _)) ?_ ?_ 4 _ _ ⟨Nat.le_refl _,R,hd4,F.keep [17,9,3,7,8] rfl,M⟩
  ·clear M F hd4 a' W
   rintro k a W ⟨hk,R,hd,F,M⟩
   obtain ⟨R1,h147,hr1,hd'⟩ := dbls_succ hd
   refine wpIn_seq ?_
   refine wpIn_region_l [.ind] ([0]) rfl rfl ?_
   refine s_bin F rfl rfl rfl rfl rfl rfl rfl ?_; clear F a; intro a F
   refine t_endM M ?_; clear M; (try clear W); intro W M
   refine wpIn_seq ?_
   refine wpIn_cond_true (by rw [F.ev (x := .tmp 18) rfl]; simp; omega) ?_
   refine wpIn_skip ?_
   show Code.wpIn _ _ _ _ _ _ _
   refine wpIn_seq ?_
   refine wpIn_block ?_
   obtain ⟨arr,hden,hsz,hone,M⟩ := Sep.pt_open M
   obtain ⟨arr1,hden1,hsz1,hone1⟩ := row_ok hr1
   refine wpIn_region_l [.rd,.rd,.wr,.wr] ([0,1,2,3]) rfl rfl ?_
   refine s_lda F rfl rfl rfl rfl ag166 rfl sC (cells_whole M.h5) ?_; clear F a; intro a F
   refine s_lda F rfl rfl rfl rfl ag170 rfl hsz (cells_whole M.h0) ?_; clear F a; intro a F
   refine s_cq F M rfl rfl rfl rfl rfl (rfl : _ = some [_,_]) (by kernel_rfl) (fun n => pf1 hF h147 (vs := [_,_]) (fun σ => denL_cons (hC σ) (denL_cons (hden σ) denL_nil)) hden1 (hG.chg (M.drewN n).chg)) ?_; clear F a M; (try clear W); rintro v W rfl M a F
   refine s_stW F M rfl rfl rfl sz170 rfl rfl hsz1 hone1 hsz ?_; clear M; (try clear W); intro W M
   refine t_endM M ?_; clear M; (try clear W); intro W M
   replace M := Sep.pt_shut M hden1 hsz1 hone1
   show Code.wpIn _ _ _ _ _ _ _
   refine wpIn_region_l [.ind,.ind] ([0,1]) rfl rfl ?_
   refine s_add F rfl rfl rfl rfl rfl rfl (by unfold In64; omega) ?_; clear F a; intro a F
   refine s_I F rfl rfl rfl rfl rfl rfl ?_; clear F a; intro a F
   refine t_endM M ?_; clear M; (try clear W); intro W M
   replace F := F.keep [17,9,3,7,8] rfl
   rw [show (4 : Int) - ((k + 1 : Nat) : Int) + 1 = 4 - (k : Nat) by omega] at F
   exact ⟨by omega,R1,hd',F,M⟩
  ·clear M F hd4 a' W
   rintro a W ⟨_,R,hd,F,M⟩
   obtain rfl : R = R4 := Option.some.inj hd
   refine wpIn_seq ?_
   refine wpIn_region_l [.ind] ([0]) rfl rfl ?_
   refine s_bin F rfl rfl rfl rfl rfl rfl rfl ?_; clear F a; intro a F
   refine t_endM M ?_; clear M; (try clear W); intro W M
   refine wpIn_seq ?_
   refine wpIn_cond_false (by rw [F.ev (x := .tmp 18) rfl]; simp) ?_
   refine wpIn_exit ?_
   show Code.wpIn _ _ _ _ _ _ _
   obtain ⟨arr,hden,hsz,hone,M⟩ := Sep.pt_open M
   obtain ⟨arr1,hden1,hsz1,hone1⟩ := row_ok hrow
   obtain ⟨es,he1,he2,he3⟩ := elt_ok hwl he
   refine wpIn_region_t [.rd,.rd,.ind,.ind,.rd,.wr,.wr] [] (otOf [0,1,2,3,4,5,6]) mixedT rfl (by kernel_rfl) ?_
   refine s_lda F rfl rfl rfl rfl ag166 rfl sC (cells_whole M.h5) ?_; clear F a; intro a F
   refine s_lda F rfl rfl rfl rfl ag170 rfl hsz (cells_whole M.h0) ?_; clear F a; intro a F
   refine s_I F rfl rfl rfl rfl rfl rfl ?_; clear F a; intro a F
   refine s_ia F rfl rfl rfl rfl ar217 rfl rfl (by omega) (by omega) ?_; clear F a; intro a F
   refine s_lda F rfl rfl rfl rfl ag170 rfl he2 (cells_part M.h1 he3) ?_; clear F a; intro a F
   refine s_cq F M rfl rfl rfl rfl rfl (rfl : _ = some [_,_,_]) (by kernel_rfl) (fun n => pf1 hF h148 (vs := [_,_,.agg es]) (fun σ => denL_cons (hC σ) (denL_cons (hden σ) (denL_cons (by simp only [den,he1]) denL_nil))) hden1 (hG.chg (M.drewN n).chg)) ?_; clear F a M; (try clear W); rintro v W rfl M a F
   refine s_stW F M rfl rfl rfl sz170 rfl rfl hsz1 hone1 hsz ?_; clear M; (try clear W); intro W M
   refine t_endM M ?_; clear M; (try clear W); intro W M
   exact hQ' _ _ (Sep.pt_shut M hden1 hsz1 hone1)
 ·intro D W M
  simp only [List.cons_append,List.nil_append] at M
  show Code.wpIn _ _ _ _ _ _ _
  obtain ⟨arr,hden,hsz,hone,M⟩ := Sep.pt_open M
  refine wpIn_seq ?_
  refine wpIn_region_l [.rd,.wr] ([0,1]) rfl rfl (trunT_wD _ _ _ _ ?_)
  refine s_lda F rfl rfl rfl rfl ag170 rfl hsz (cells_whole M.h0) ?_; clear F a; intro a F
  refine s_stW F M.f2 rfl rfl rfl sz170 rfl rfl hsz hone Array.size_replicate ?_; clear M; (try clear W); intro W M
  refine t_endM M ?_; clear M; (try clear W); intro W M
  show Code.wpIn _ _ _ _ _ _ _
  refine wpIn_ret ?_
  have hD : W.heap[D]? = some (.deferred (some [])) := M.own.ok (blk D (.deferred (some []))) (by simp)
  refine ⟨by simp,.inl ⟨D,_,rfl,run_takeDeferred hD,?_⟩⟩
  replace M : Sep _ _ (W.putObj D (.deferred none)) _ := Sep.setObj (o' := .deferred none) M.f6 (by intros; simp) (by intros; simp)
  obtain ⟨_,v',hr,hR⟩ := rt1 (fn := Tryz.f102) (R := RetQ w0 fun r => den (fun _ => none) v = some r) F rfl (rv_a F rfl ag170 hsz (cells_whole M.h1)) ⟨_,rfl,hden _,M.chg⟩
  exact ⟨v',hr,hR⟩
noncomputable def run102 (l : List (Nat × List AV × AV)) (q : Nat × List AV × AV) : Bool := match q with
 | (g,[C,K,P],v) => Nat.beq g 102 && row 13 C && row 4 K && row 9 P && row 12 v && (match pfx l 145 [C,P],digR (evF FT (pfx l) 60 192 [K] H0 1000) with
  | some (.agg wl),some ds => row 192 (.agg wl) && Nat.blt ds.length 1000000 && (match rawA (pfx l) C wl ds Z12 with | some v' => beqV v' v | none => false)
  | _,_ => false)
 | _ => false
theorem fact102 {l : List (Nat × List AV × AV)} {q : Nat × List AV × AV} (hF : Facts l) (h : run102 l q = true) : PF q := by
 unfold run102 at h
 split at h
 ·rename_i g C K P v
  simp only [Bool.and_eq_true,beq_iff] at h
  obtain ⟨⟨⟨⟨⟨rfl,h1⟩,h2⟩,h3⟩,h4⟩,h5⟩ := h
  split at h5
  ·rename_i wl ds h6 h7
   simp only [Bool.and_eq_true,blt_iff] at h5
   obtain ⟨⟨h8,h9⟩,h10⟩ := h5
   split at h10
   ·rename_i v' h11
    have := beqV_eq _ _ h10
    subst this
    obtain ⟨cs,hC,sC,_⟩ := row_ok h1
    obtain ⟨ks,hK,sK,_⟩ := row_ok h2
    obtain ⟨ps,hP,sP,_⟩ := row_ok h3
    obtain ⟨u,hu,_,_⟩ := row_ok h4
    intro w hG
    refine ⟨by kernel_rfl,[.agg cs,.agg ks,.agg ps],.agg u,denL_cons (hC _) (denL_cons (hK _) (denL_cons (hP _) denL_nil)),hu _,fun w' ho => ?_⟩
    refine ((c102 hF hC hK hP sC sK sP h8 h6 h7 h9 h11 h4 (hG.old ho)).out).mono ?_
    rintro e w'' ⟨r,rfl,hr,hc⟩
    rw [hu] at hr
    cases hr
    exact ⟨rfl,Old.of_chg hc⟩
   ·cases h10
  ·cases h5
 ·cases h
end Go.Proofs.YteajeenmojbjhaaGreatDoor.Ev
