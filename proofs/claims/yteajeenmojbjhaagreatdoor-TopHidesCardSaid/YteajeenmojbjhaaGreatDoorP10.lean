/-
 Writes: rows, append, copy, clear, texts.
-/
import Derived.Test.YteajeenmojbjhaaGreatDoorP9
import Derived.LoopN
import Derived.ScopeJumps
import Derived.Laws.Sem
import Derived.Defers
namespace Go.Proofs.YteajeenmojbjhaaGreatDoor.Ev
open Go Fw
section
variable {P : Program} {σ : Sg} {h : Hp} {w0 : World} {a : Act} {base n : Nat} {X : List Nat} {nx k : Nat} {fn : List Nat} {ns : Ns} {e f : List AV} {tt : Nat → Option TI}
variable {call : Nat → List AV → Hp → Nat → MR} {pf : Nat → List AV → Option AV}
theorem elT {T E sz eb : Nat} {z : List AV} {u8 : Bool} {d : TypeDesc} (hd : P.underlying T = some d) (hk : KdOk P d (.slc E sz eb z u8)) : ∃ zv,ElT P T E sz eb zv ∧ (∀ σ,denL σ z = some zv.cells.toList) ∧ z.length = sz := by
 obtain ⟨rfl,⟨i,ag,h1,h2,h3,⟨v,z1,z2,_,_⟩,h5,h6⟩,_⟩ := hk
 refine ⟨v,⟨hd,size_run h1 h2,⟨i,h3,fun w => by simp [typeInfo,h1]⟩,zero_run h1 z1,h5,?_⟩,z2,h6⟩
 have := denL_length (z2 fun _ => none)
 simp at this
 omega
theorem res_goes {w : World} {s : Sem Value} {v : AV} {h' : Hp} {nx' : Nat} (hx : ∃ u w' σ',s.run P w = .ok u w' ∧ Ext σ σ' ∧ den σ' v = some u ∧ Lay σ' h' w0 w' ∧ Aft σ σ' base n X k nx') {o : Oper} (he : (execOp a.eval o).run P w = ((do pure (.value (← s)) : Sem Next)).run P w) :
  Goes P (fun u w' => ∃ σ',Ext σ σ' ∧ den σ' v = some u ∧ Lay σ' h' w0 w' ∧ Aft σ σ' base n X k nx') ((execOp a.eval o).run P w) := by
 obtain ⟨u,w',σ',h1,h2⟩ := hx
 rw [he]
 simp only [Sem.run_bind,h1,Result.andThen_ok,Sem.run_pure,Goes]
 exact ⟨σ',h2⟩
theorem m_app (T : Tabs P tt) (hO : OpR σ fn ns e f a) {S U E sz eb : Nat} {z : List AV} {u8 : Bool} {d dU : TypeDesc} {E' sz' eb' : Nat} {z' : List AV} {u8' : Bool} (hd : P.underlying S = some d) (hkd : KdOk P d (.slc E sz eb z u8)) (hdU : P.underlying U = some dU) (hkU : KdOk P dU (.slc E' sz' eb' z' u8'))
  {s x : Operand} {os ox : O} (hs : cO fn ns s = some os) (hx : cO fn ns x = some ox) : MOk P σ h w0 a base n X nx k (.call ⟨.builtin .append,⟨[s,x]⟩,⟨[S,U]⟩⟩) (evM call pf (.app E sz eb os ox) (base + k) e f h nx) := by
 intro v h' nx' hr w L F hk hX dst ty ps af g
 have hr := toM_ok (o := ob (evO os e f) fun s => ob (evO ox e f) fun x => slC sz x h fun n vs => append E sz eb (base + k) s n vs h nx) hr
 obtain ⟨sv,h1,h2⟩ := ob_some.1 hr
 obtain ⟨xv,h3,h4⟩ := ob_some.1 h2
 obtain ⟨zv,hT,_,_⟩ := elT hd hkd
 obtain ⟨rfl,_⟩ := hkU
 obtain ⟨m,vs,xs,A,c,h5,h6,h7,h8,h9,h10⟩ := slC_run L (hO _ _ _ hx h3) h4
 have hsrc : Src P w U sz eb zv.cells (a.eval x) m xs := .sl E' A c hdU h6 (by rw [h6]; exact first_sl h9 h10 h8) (by rw [h6]; exact first_sl h9 h10 h8)
 refine res_goes (append_run (ty := ty) L F hk hX hT hsrc (hO _ _ _ hs h1) h7 h8 h5) ?_
 simp [execOp,resolve,invoke,builtin]
theorem first_str {w : World} {s : List Nat} {m sz : Nat} (hm : m ≤ s.length) (ha : s.all (fun c => Nat.blt c 256) = true) : (Builtin.firstCells sz m (.string (strOf s))).run P w = .ok ((s.take m).map fun c => Value.int .u8 (c : Nat)).toArray w := by
 simp only [Builtin.firstCells,strOf_extract,Nat.sub_zero,List.drop_zero,Sem.run_pure]
 congr 1
 simp only [strOf]
 apply Array.toList_inj.1
 simp only [Array.toList_map,List.map_map]
 apply List.map_congr_left
 intro c hc
 have := all_lt ha c (List.mem_of_mem_take hc)
 simp only [Function.comp]
 rw [UInt8.toNat_ofNat']
 congr 1
 omega
theorem toCells_eq : ∀ {s : List Nat} {vs : List AV},toCells s = some vs → vs = s.map (.n 4 ·)
 | [],vs,h => by
  have h : some [] = some vs := h
  cases h; rfl
 | c :: s,vs,h => by
  have h : (ob (toCells s) fun r => some (AV.n 4 c :: r)) = some vs := h
  obtain ⟨r,h1,h2⟩ := ob_some.1 h
  cases h2
  rw [toCells_eq h1]; rfl
theorem den_cells : ∀ (s : List Nat),denL σ (s.map (AV.n 4 ·)) = some (s.map fun c => Value.int .u8 (c : Nat))
 | [] => denL_nil
 | c :: s => denL_cons (dn (k := 4)) (den_cells s)
theorem m_apS (hO : OpR σ fn ns e f a) {S U E : Nat} {z : List AV} {d : TypeDesc} (hd : P.underlying S = some d) (hkd : KdOk P d (.slc E 1 1 z true)) (hdU : P.underlying U = some .string)
  {s x : Operand} {os ox : O} (hs : cO fn ns s = some os) (hx : cO fn ns x = some ox) : MOk P σ h w0 a base n X nx k (.call ⟨.builtin .append,⟨[s,x]⟩,⟨[S,U]⟩⟩) (evM call pf (.apS E os ox) (base + k) e f h nx) := by
 intro v h' nx' hr w L F hk hX dst ty ps af g
 have hr := toM_ok (o := ob (evO os e f) fun s => ob (evO ox e f) fun x => isS x fun b => ob (toCells b) fun vs => append E 1 1 (base + k) s (len2 b) vs h nx) hr
 obtain ⟨sv,h1,h2⟩ := ob_some.1 hr
 obtain ⟨xv,h3,h4⟩ := ob_some.1 h2
 obtain ⟨t,rfl,h5⟩ := isS_some.1 h4
 obtain ⟨vs,h6,h7⟩ := ob_some.1 h5
 rw [len2_eq] at h7
 obtain ⟨zv,hT,_,_⟩ := elT hd hkd
 obtain ⟨h8,h9⟩ := str_inv (hO _ _ _ hx h3)
 have := toCells_eq h6
 subst this
 have hsrc : Src P w U 1 1 zv.cells (a.eval x) t.length (t.map fun c => Value.int .u8 (c : Nat)) := .str _ hdU h8 (strOf_size t) (fun w => by
  rw [h8]
  have := first_str (P := P) (w := w) (sz := 1) (Nat.le_refl t.length) h9
  rwa [List.take_length] at this)
 refine res_goes (append_run (ty := ty) L F hk hX hT hsrc (hO _ _ _ hs h1) (den_cells t) (by simp) h7) ?_
 simp [execOp,resolve,invoke,builtin]
theorem m_ap0 (hO : OpR σ fn ns e f a) {S U E sz eb : Nat} {z : List AV} {u8 : Bool} {d : TypeDesc} {K : IntKind} (hd : P.underlying S = some d) (hkd : KdOk P d (.slc E sz eb z u8)) (hdU : P.underlying U = some (.int K))
  {s x : Operand} {os ox : O} (hs : cO fn ns s = some os) (hx : cO fn ns x = some ox) : MOk P σ h w0 a base n X nx k (.call ⟨.builtin .append,⟨[s,x]⟩,⟨[S,U]⟩⟩) (evM call pf (.ap0 E sz eb z os ox) (base + k) e f h nx) := by
 intro v h' nx' hr w L F hk hX dst ty ps af g
 have hr := toM_ok (o := ob (evO os e f) fun s => ob (evO ox e f) fun n => isN n fun k' n => gd (Nat.beq k' 3) (gd (Nat.blt (Nat.mul n eb) 1073741824) (ob (repA n z) fun vs => append E sz eb (base + k) s n vs h nx))) hr
 obtain ⟨sv,h1,h2⟩ := ob_some.1 hr
 obtain ⟨xv,h3,h4⟩ := ob_some.1 h2
 obtain ⟨k',m,rfl,h5⟩ := isN_some.1 h4
 obtain ⟨h6,h7⟩ := gd_some.1 h5
 obtain ⟨h8,h9⟩ := gd_some.1 h7
 rw [blt_iff] at h8
 have h8 : m * eb < 1073741824 := h8
 obtain ⟨vs,h10,h11⟩ := ob_some.1 h9
 rw [repA_eq] at h10
 cases h10
 obtain ⟨zv,hT,hz,hzl⟩ := elT hd hkd
 have hX' := den_n (hO _ _ _ hx h3)
 have hpos := hT.pos
 have hm : m < 1073741824 := Nat.lt_of_le_of_lt (Nat.le_mul_of_pos_right _ hpos) h8
 have hsrc : Src P w U sz eb zv.cells (a.eval x) m (List.replicate m zv.cells.toList).flatten := .zer K _ hdU hX' hm h8 rfl
 refine res_goes (append_run (ty := ty) L F hk hX hT hsrc (hO _ _ _ hs h1) (denL_rep (hz σ) m) (by rw [rep_length]; simp [hT.zs]) h11) ?_
 simp [execOp,resolve,invoke,builtin]
theorem cp_run {w : World} (L : Lay σ h w0 w) (F : Fresh σ base n X nx) {S U E ty : TypeId} {sz m : Nat} {x : Value} {d v : AV} {D : Value} {vs : List AV} {VS : List Value} {h' : Hp} {nx' : Nat} (hu : P.underlying S = some (.slice E)) (hsz : (sizeOf E).run P w = .ok sz w)
  (hlen : (Builtin.lenOf x).run P w = .ok m w) (hfirst : ∀ q,q ≤ m → (Builtin.firstCells sz q x).run P w = .ok (VS.take (q * sz)).toArray w) (hD : den σ d = some D) (hvs : denL σ vs = some VS) (hvl : VS.length = m * sz)
  (hc : evM.cp h nx sz d m vs = some (.ok v h' nx')) : ∃ u w' σ',(Builtin.copy_ #[S,U] ty #[D,x]).run P w = .ok u w' ∧ Ext σ σ' ∧ den σ' v = some u ∧ Lay σ' h' w0 w' ∧ Aft σ σ' base n X k nx' := by
 have run : ∀ (A : Option Addr) (dl c : Nat) (w' : World),D = .slice A dl c → (match A with | some p => (storeCells p (VS.take (min m dl * sz))).run P w = .ok () w' | none => w' = w) → (Builtin.copy_ #[S,U] ty #[D,x]).run P w = .ok (.int .i64 (min m dl : Nat)) w' := fun A dl c w' hD' hst => by
  subst hD'
  unfold Builtin.copy_
  simp only [List.getElem?_toArray,List.getElem?_cons_zero,List.getElem?_cons_succ,Sem.run_bind,run_underlying hu,Result.andThen_ok,hlen,hsz]
  have hf := hfirst (min m dl) (Nat.min_le_left _ _)
  have e : Nat.min m dl = min m dl := rfl
  rw [e,hf]
  cases A with
  | none => simp only at hst; subst hst; simp [goInt]
  | some p => simp only at hst; simp [hst,goInt]
 have zero : ∀ (A : Option Addr) (c : Nat),D = .slice A 0 c → some (MR.ok (.n 3 0) h nx) = some (.ok v h' nx') → ∃ u w' σ',(Builtin.copy_ #[S,U] ty #[D,x]).run P w = .ok u w' ∧ Ext σ σ' ∧ den σ' v = some u ∧ Lay σ' h' w0 w' ∧ Aft σ σ' base n X k nx' := fun A c hD' he => by
  cases he
  have := run A 0 c w hD' (by cases A with | none => rfl | some p => simp [storeCells])
  rw [Nat.min_zero] at this
  exact ⟨_,w,σ,this,Ext.refl _,dn (k := 3),L,F.skip⟩
 have cp2 : ∀ (b off dl c : Nat) (g : Nat × Nat),σ b = some g → D = .slice (some ⟨g.1,off,none⟩) dl c → evM.cp2 h nx sz b off dl m vs = some (.ok v h' nx') → ∃ u w' σ',(Builtin.copy_ #[S,U] ty #[D,x]).run P w = .ok u w' ∧ Ext σ σ' ∧ den σ' v = some u ∧ Lay σ' h' w0 w' ∧ Aft σ σ' base n X k nx' := fun b off dl c g hg hD' hh => by
  have hh : (fN (min2N m dl) fun q => ob (takeA (Nat.mul q sz) vs) fun vs => ob (wrN b off (Nat.mul q sz) vs h) fun h' => some (MR.ok (.n 3 q) h' nx)) = some (.ok v h' nx') := hh
  rw [fN_eq,min2N_eq] at hh
  obtain ⟨us,h1,h2⟩ := ob_some.1 hh
  obtain ⟨hn,h3,h4⟩ := ob_some.1 h2
  cases h4
  obtain ⟨h5,rfl⟩ := takeA_eq _ _ h1
  have hl : (vs.take (min m dl * sz)).length = min m dl * sz := by rw [List.length_take]; have : Nat.mul (min m dl) sz = min m dl * sz := rfl; omega
  obtain ⟨w',hst,L'⟩ := wrN_run (P := P) L hg (denL_take (min m dl * sz) hvs) hl h3
  exact ⟨_,w',σ,run _ _ _ w' hD' hst,Ext.refl _,dn (k := 3),L',F.skip⟩
 rcases isL_some.1 hc with ⟨rfl,h1⟩ | ⟨b,off,len,cap,rfl,h1⟩ | ⟨b,off,len,dd,rfl,h1⟩ | ⟨b,off,dd,p,z,rfl,h1⟩
 ·exact zero _ _ (den_nils hD) h1
 ·obtain ⟨g,hg,hD'⟩ := den_sl hD
  exact cp2 _ _ _ _ g hg hD' h1
 ·obtain ⟨g,hg,_,hD'⟩ := den_su hD
  exact cp2 _ _ _ _ g hg hD' h1
 ·obtain ⟨g,hg,_,hD'⟩ := den_emp hD
  exact zero _ _ hD' h1
theorem Cells.take {w : World} {b off : Nat} {xs : List Value} (hc : Cells w b off xs) (q : Nat) : Cells w b off (xs.take q) := fun j x hj => by
 have hlt := (List.getElem?_eq_some_iff.1 hj).1
 rw [List.length_take] at hlt
 rw [List.getElem?_take_of_lt (by omega)] at hj
 exact hc j x hj
theorem m_cpy (hO : OpR σ fn ns e f a) {S U E sz eb : Nat} {z : List AV} {u8 : Bool} {d : TypeDesc} (hd : P.underlying S = some d) (hkd : KdOk P d (.slc E sz eb z u8))
  {s x : Operand} {os ox : O} (hs : cO fn ns s = some os) (hx : cO fn ns x = some ox) : MOk P σ h w0 a base n X nx k (.call ⟨.builtin .copy,⟨[s,x]⟩,⟨[S,U]⟩⟩) (evM call pf (.cpy sz os ox) (base + k) e f h nx) := by
 intro v h' nx' hr w L F hk hX dst ty ps af g
 have hr := toM_ok (o := ob (evO os e f) fun d => ob (evO ox e f) fun s => slC sz s h fun n vs => evM.cp h nx sz d n vs) hr
 obtain ⟨sv,h1,h2⟩ := ob_some.1 hr
 obtain ⟨xv,h3,h4⟩ := ob_some.1 h2
 obtain ⟨zv,hT,_,_⟩ := elT hd hkd
 obtain ⟨m,vs,xs,A,c,h5,h6,h7,h8,h9,h10⟩ := slC_run L (hO _ _ _ hx h3) h4
 refine res_goes (cp_run (P := P) (U := U) (ty := ty) (x := a.eval x) L F hT.u (hT.szr w) (by rw [h6]; rfl) (fun q hq => ?_) (hO _ _ _ hs h1) h7 h8 h5) ?_
 ·rw [h6]
  have hle : q * sz ≤ m * sz := Nat.mul_le_mul_right _ hq
  have := first_sl (P := P) (w := w) (A := A) (n' := q) (c := c) (sz := sz) (xs := xs.take (q * sz)) (fun p e => by
   obtain ⟨b,off,e1,e2⟩ := h9 p e
   exact ⟨b,off,e1,e2.take _⟩) (fun e => by rw [h10 e]; simp) (by rw [List.length_take]; omega)
  cases A <;> exact this
 ·simp [execOp,resolve,invoke,builtin]
theorem m_cpS (hO : OpR σ fn ns e f a) {S U E eb : Nat} {z : List AV} {d : TypeDesc} (hd : P.underlying S = some d) (hkd : KdOk P d (.slc E 1 eb z true))
  {s x : Operand} {os ox : O} (hs : cO fn ns s = some os) (hx : cO fn ns x = some ox) : MOk P σ h w0 a base n X nx k (.call ⟨.builtin .copy,⟨[s,x]⟩,⟨[S,U]⟩⟩) (evM call pf (.cpS os ox) (base + k) e f h nx) := by
 intro v h' nx' hr w L F hk hX dst ty ps af g
 have hr := toM_ok (o := ob (evO os e f) fun d => ob (evO ox e f) fun s => isS s fun b => ob (toCells b) fun vs => evM.cp h nx 1 d (len2 b) vs) hr
 obtain ⟨sv,h1,h2⟩ := ob_some.1 hr
 obtain ⟨xv,h3,h4⟩ := ob_some.1 h2
 obtain ⟨t,rfl,h5⟩ := isS_some.1 h4
 obtain ⟨vs,h6,h7⟩ := ob_some.1 h5
 rw [len2_eq] at h7
 obtain ⟨zv,hT,_,_⟩ := elT hd hkd
 obtain ⟨h8,h9⟩ := str_inv (hO _ _ _ hx h3)
 have := toCells_eq h6
 subst this
 refine res_goes (cp_run (P := P) (U := U) (ty := ty) (x := a.eval x) (m := t.length) (VS := t.map fun c => Value.int .u8 (c : Nat)) L F hT.u (hT.szr w) (by rw [h8]; simp [Builtin.lenOf,strOf_size]) (fun q hq => ?_) (hO _ _ _ hs h1) (den_cells t) (by simp) h7) ?_
 ·rw [h8,Nat.mul_one,← List.map_take]
  exact first_str hq h9
 ·simp [execOp,resolve,invoke,builtin]
theorem m_clr (hO : OpR σ fn ns e f a) {S E sz eb : Nat} {z : List AV} {u8 : Bool} {d : TypeDesc} (hd : P.underlying S = some d) (hkd : KdOk P d (.slc E sz eb z u8))
  {s : Operand} {os : O} (hs : cO fn ns s = some os) : MOk P σ h w0 a base n X nx k (.call ⟨.builtin .clear,⟨[s]⟩,⟨[S]⟩⟩) (evM call pf (.clr sz z os) (base + k) e f h nx) := by
 intro v h' nx' hr w L F hk hX dst ty ps af g
 have hr := toM_ok (o := ob (evO os e f) fun s => isL s (some (.ok .undef h nx)) (fun b off len _ => evM.cl h nx sz z b off len) (fun b off len _ => evM.cl h nx sz z b off len) (fun _ _ _ _ _ => some (.ok .undef h nx))) hr
 obtain ⟨sv,h1,h2⟩ := ob_some.1 hr
 obtain ⟨zv,hT,hz,hzl⟩ := elT hd hkd
 have hS := hO _ _ _ hs h1
 have run : ∀ (A : Option Addr) (m c : Nat) (w' : World),a.eval s = .slice A m c → (match A with | some p => (storeCells p (List.replicate m zv.cells.toList).flatten).run P w = .ok () w' | none => w' = w) → (execOp a.eval ⟨dst,.call ⟨.builtin .clear,⟨[s]⟩,⟨[S]⟩⟩,ty,ps,af,g⟩).run P w = .ok (.value (.tuple #[])) w' := fun A m c w' hS' hst => by
  simp only [execOp,resolve,invoke,builtin,List.map_toArray,List.map_cons,List.map_nil,hS',Sem.run_bind,Sem.run_pure,Result.andThen_ok,Builtin.clear_,List.getElem?_toArray,List.getElem?_cons_zero,run_underlying hT.u]
  cases A with
  | none => simp only at hst; subst hst; simp
  | some p =>
   simp only at hst
   cases m with
   | zero => simp [storeCells] at hst; subst hst; simp
   | succ m => simp only [Sem.run_bind,hT.z,Result.andThen_ok,zero_cells]; simp [hst]
 have zero : ∀ (A : Option Addr) (c : Nat),a.eval s = .slice A 0 c → some (MR.ok .undef h nx) = some (.ok v h' nx') → Goes P (fun u w' => ∃ σ',Ext σ σ' ∧ den σ' v = some u ∧ Lay σ' h' w0 w' ∧ Aft σ σ' base n X k nx') ((execOp a.eval ⟨dst,.call ⟨.builtin .clear,⟨[s]⟩,⟨[S]⟩⟩,ty,ps,af,g⟩).run P w) := fun A c hS' he => by
  cases he
  rw [run A 0 c w hS' (by cases A with | none => rfl | some p => simp [storeCells])]
  exact ⟨σ,Ext.refl _,by simp only [den],L,F.skip⟩
 have cl : ∀ (b off m c : Nat) (gg : Nat × Nat),σ b = some gg → a.eval s = .slice (some ⟨gg.1,off,none⟩) m c → evM.cl h nx sz z b off m = some (.ok v h' nx') → Goes P (fun u w' => ∃ σ',Ext σ σ' ∧ den σ' v = some u ∧ Lay σ' h' w0 w' ∧ Aft σ σ' base n X k nx') ((execOp a.eval ⟨dst,.call ⟨.builtin .clear,⟨[s]⟩,⟨[S]⟩⟩,ty,ps,af,g⟩).run P w) := fun b off m c gg hg hS' hh => by
  have hh : (ob (repA m z) fun vs => ob (wrN b off (Nat.mul m sz) vs h) fun h' => some (MR.ok .undef h' nx)) = some (.ok v h' nx') := hh
  rw [repA_eq] at hh
  obtain ⟨us,h3,h4⟩ := ob_some.1 hh
  cases h3
  obtain ⟨hn,h5,h6⟩ := ob_some.1 h4
  cases h6
  obtain ⟨w',hst,L'⟩ := wrN_run (P := P) L hg (denL_rep (hz σ) m) (by rw [rep_length,hzl]; rfl) h5
  rw [run _ _ _ w' hS' hst]
  exact ⟨σ,Ext.refl _,by simp only [den],L',F.skip⟩
 rcases isL_some.1 h2 with ⟨rfl,h3⟩ | ⟨b,off,len,cap,rfl,h3⟩ | ⟨b,off,len,dd,rfl,h3⟩ | ⟨b,off,dd,p,zz,rfl,h3⟩
 ·exact zero _ _ (den_nils hS) h3
 ·obtain ⟨gg,hg,hS'⟩ := den_sl hS
  exact cl _ _ _ _ gg hg hS' h3
 ·obtain ⟨gg,hg,_,hS'⟩ := den_su hS
  exact cl _ _ _ _ gg hg hS' h3
 ·obtain ⟨gg,hg,_,hS'⟩ := den_emp hS
  exact zero _ _ hS' h3
end
end Go.Proofs.YteajeenmojbjhaaGreatDoor.Ev
namespace Go.Proofs.YteajeenmojbjhaaGreatDoor.Ev
open Go Fw
section
variable {P : Program} {σ : Sg} {h : Hp} {w0 : World} {a : Act} {base n : Nat} {X : List Nat} {nx k : Nat} {fn : List Nat} {ns : Ns} {e f : List AV} {tt : Nat → Option TI}
variable {call : Nat → List AV → Hp → Nat → MR} {pf : Nat → List AV → Option AV}
theorem zero_row {zv : Value} {m sz : Nat} (hz : zv.cells.size = sz) : ((Array.range (m * sz)).map (fun i => zv.cells[i % zv.cells.size]!)) = (List.replicate m zv.cells.toList).flatten.toArray := by
 subst hz
 apply Array.toList_inj.1
 rw [← range_zero zv.cells m]
 simp
theorem m_bsl (hO : OpR σ fn ns e f a) {T E sz eb m : Nat} {z : List AV} {u8 : Bool} {d : TypeDesc} (hd : P.underlying T = some d) (hkd : KdOk P d (.slc E sz eb z u8)) {ps : Array (Nat × Operand)} {qs : List (Nat × Nat × O)} (hc : partsA fn sz ns ps.toList = some qs) (hm : m * sz ≤ 2 ^ 24) :
  MOk P σ h w0 a base n X nx k (.buildSlice T m ps) (evM call pf (.bsl E m sz (rowZ m z) qs) (base + k) e f h nx) := by
 intro v h' nx' hr w L F hk hX dst ty pos af g
 have hr := toM_ok (o := ob (fillA qs e f (rowZ m z)) fun c => ob (hnew (base + k) (.ex E (Nat.mul m sz) c) h) fun h' => some (.ok (.sl (base + k) 0 m m) h' nx)) hr
 obtain ⟨c,h1,h2⟩ := ob_some.1 hr
 obtain ⟨hn,h3,h4⟩ := ob_some.1 h2
 cases h4
 obtain ⟨zv,hT,hz,hzl⟩ := elT hd hkd
 have hrow : rowZ m z = (List.replicate m z).flatten := by unfold rowZ; rw [repA_eq]
 rw [hrow] at h1
 obtain ⟨R,hR,hf⟩ := fill_run (place := fun i => some (i * sz,sz)) (prt := partsA fn sz ns) hO rfl (fun i x l q hh => by
  simp only [partsA] at hh
  split at hh
  ·rename_i o r h3 h4
   cases hh
   exact ⟨i * sz,sz,o,r,rfl,rfl,h3,h4⟩
  ·cases hh) ps.toList qs _ c _ hc h1 (denL_rep (hz σ) m)
 have hcl : c.length = m * sz := by
  have key : ∀ (qs : List (Nat × Nat × O)) (z r : List AV),fillA qs e f z = some r → r.length = z.length := by
   intro qs
   induction qs with
   | nil => intro z r hh; have hh : some z = some r := hh; cases hh; rfl
   | cons q qs ih =>
    obtain ⟨off,s,o⟩ := q
    intro z r hh
    have hh : (ob (evO o e f) fun v => gd (Nat.beq (len2 (cellsA v)) s) (ob (overA off (cellsA v) z) fun z' => fillA qs e f z')) = some r := hh
    obtain ⟨_,_,h5⟩ := ob_some.1 hh
    obtain ⟨_,h6⟩ := gd_some.1 h5
    obtain ⟨z',h7,h8⟩ := ob_some.1 h6
    obtain ⟨h9,rfl⟩ := overA_eq _ _ _ h7
    rw [ih _ _ h8,over_length h9]
  rw [key _ _ _ h1,rep_length,hzl]
 obtain ⟨he,L',F'⟩ := mk_new (κ := 0) L F hk hX h3 hR hcl
 have hp : ps.map (fun (i,x) => (i,a.eval x)) = (ps.toList.map fun p => (p.1,a.eval p.2)).toArray := by
  apply Array.toList_inj.1; simp
 have hbig : ¬ (m * sz > 2 ^ 24) := by omega
 have hrun : (Instr.buildSlice T m (ps.map fun (i,x) => (i,a.eval x))).run P w = .ok (.slice (some ⟨w.heap.size,0,none⟩) m m) { w with heap := w.heap.push (.cells R.toArray E) } := by
  unfold Instr.buildSlice
  simp only [Sem.run_bind,run_underlying hT.u,Result.andThen_ok,hT.szr,hbig,if_false,hp]
  by_cases h0 : m * sz = 0
  ·have e0 : (List.replicate m zv.cells.toList).flatten = [] := List.eq_nil_of_length_eq_zero (by rw [rep_length]; simpa [hT.zs] using h0)
   rw [e0] at hf
   simp only [h0,if_true,Sem.run_bind,Sem.run_pure,Result.andThen_ok]
   have e1 : ((Array.range 0).map (fun i => (#[] : Array Value)[i % (#[] : Array Value).size]!)) = #[] := by simp
   have hf' : Instr.fill (fun i => some (i * sz,sz)) #[] (ps.toList.map fun p => (p.1,a.eval p.2)) = some R.toArray := hf
   rw [e1,hf']
   simp [newRow,newObj,Sem.run]
  ·simp only [h0,if_false,Sem.run_bind,hT.z,Result.andThen_ok,Sem.run_pure]
   rw [zero_row hT.zs]
   try simp only [List.toList_toArray]
   rw [hf]
   simp [newRow,newObj,Sem.run]
 simp only [execOp,Sem.run_bind,hrun,Result.andThen_ok,Sem.run_pure,Goes]
 exact ⟨_,he,den_mksl upd_self,L',F'⟩
theorem m_mks (hO : OpR σ fn ns e f a) {T E sz eb : Nat} {z : List AV} {u8 : Bool} {d : TypeDesc} (hd : P.underlying T = some d) (hkd : KdOk P d (.slc E sz eb z u8)) {l c : Operand} {ol oc : O} (hl : cO fn ns l = some ol) (hc : cO fn ns c = some oc) :
  MOk P σ h w0 a base n X nx k (.makeSlice T l c) (evM call pf (.mks E sz eb z ol oc) (base + k) e f h nx) := by
 intro v h' nx' hr w L F hk hX dst ty pos af g
 have hr := toM_ok (o := ob (evO ol e f) fun l => ob (evO oc e f) fun c => isN l fun k1 l => isN c fun k2 c => gd (Nat.beq k1 3) (gd (Nat.beq k2 3) (gd (Nat.ble l c) (gd (Nat.blt (Nat.mul c eb) 1073741824)
   (ob (repA c z) fun cs => ob (hnew (base + k) (.ex E (Nat.mul c sz) cs) h) fun h' => some (.ok (.sl (base + k) 0 l c) h' nx)))))) hr
 obtain ⟨lv,h1,h2⟩ := ob_some.1 hr
 obtain ⟨cv,h3,h4⟩ := ob_some.1 h2
 obtain ⟨k1,ll,rfl,h5⟩ := isN_some.1 h4
 obtain ⟨k2,cc,rfl,h6⟩ := isN_some.1 h5
 obtain ⟨h7,h8⟩ := gd_some.1 h6
 obtain ⟨h9,h10⟩ := gd_some.1 h8
 obtain ⟨h11,h12⟩ := gd_some.1 h10
 obtain ⟨h13,h14⟩ := gd_some.1 h12
 rw [beq_iff] at h7 h9
 subst h7; subst h9
 rw [ble_iff] at h11
 rw [blt_iff] at h13
 have h13 : cc * eb < 1073741824 := h13
 obtain ⟨cs,h15,h16⟩ := ob_some.1 h14
 rw [repA_eq] at h15
 cases h15
 obtain ⟨hn,h17,h18⟩ := ob_some.1 h16
 cases h18
 obtain ⟨zv,hT,hz,hzl⟩ := elT hd hkd
 obtain ⟨he,L',F'⟩ := mk_new (κ := 0) L F hk hX h17 (denL_rep (hz σ) cc) (by rw [rep_length,hzl]; rfl)
 have hpos := hT.pos
 have hcb : cc < 1073741824 := Nat.lt_of_le_of_lt (Nat.le_mul_of_pos_right _ hpos) h13
 have hL := den_n (hO _ _ _ hl h1)
 have hC := den_n (hO _ _ _ hc h3)
 have hwl : IntKind.i64.wrap (ll : Int) = ll := wrap_in ⟨by omega,by omega⟩
 have hwc : IntKind.i64.wrap (cc : Int) = cc := wrap_in ⟨by omega,by omega⟩
 obtain ⟨i,hib,hti⟩ := hT.ti
 have hask : ∀ q (w : World),(askRoom q).run P w = .ok () w := fun q w => by
  unfold askRoom; split <;> simp [mark,Sem.run]
 have hbc : ¬ ((i.bytes : Int) * (cc : Int) > 2 ^ 48) := by
  rw [hib,Int.mul_comm]
  have : (cc : Int) * (eb : Int) ≤ 2 ^ 48 := by exact_mod_cast (by omega : cc * eb ≤ 2 ^ 48)
  omega
 have hrun : (Instr.makeSlice T (a.eval l) (a.eval c)).run P w = .ok (.slice (some ⟨w.heap.size,0,none⟩) ll cc) { w with heap := w.heap.push (.cells (List.replicate cc zv.cells.toList).flatten.toArray E) } := by
  rw [hL,hC]
  unfold Instr.makeSlice
  simp only [Sem.run_bind,run_underlying hT.u,Result.andThen_ok,asInt,asIntOf,Sem.run_pure,hti,Int.ofNat_eq_natCast,hwl,hwc]
  have hcond : ((decide ((cc : Int) < 0) || decide ((i.bytes : Int) * (cc : Int) > 2 ^ 48)) || decide ((ll : Int) < 0) || decide ((ll : Int) > (cc : Int))) = false := by
   simp only [Bool.or_eq_false_iff,decide_eq_false_iff_not]
   refine ⟨⟨⟨by omega,hbc⟩,by omega⟩,by omega⟩
  rw [if_neg (by rw [hcond]; simp)]
  simp only [Sem.run_bind,hask,Result.andThen_ok,hT.szr,Int.toNat_natCast]
  by_cases h0 : cc * sz = 0
  ·have e0 : (List.replicate cc zv.cells.toList).flatten = [] := List.eq_nil_of_length_eq_zero (by rw [rep_length]; simpa [hT.zs] using h0)
   simp only [h0,if_true,Sem.run_bind,Sem.run_pure,Result.andThen_ok,e0]
   have e1 : ((Array.range 0).map (fun i => (#[] : Array Value)[i % (#[] : Array Value).size]!)) = #[] := by simp
   rw [e1]
   simp [newRow,newObj,Sem.run]
  ·simp only [h0,if_false,Sem.run_bind,hT.z,Result.andThen_ok,Sem.run_pure]
   rw [zero_row hT.zs]
   simp [newRow,newObj,Sem.run]
 simp only [execOp,Sem.run_bind,hrun,Result.andThen_ok,Sem.run_pure,Goes]
 exact ⟨_,he,den_mksl upd_self,L',F'⟩
theorem m_s2b (hO : OpR σ fn ns e f a) {S T E sz eb : Nat} {z : List AV} {d : TypeDesc} (hS : P.underlying S = some .string) (hd : P.underlying T = some d) (hkd : KdOk P d (.slc E sz eb z true)) {x : Operand} {ox : O} (hx : cO fn ns x = some ox) :
  MOk P σ h w0 a base n X nx k (.convert S T x) (evM call pf (.s2b E ox) (base + k) e f h nx) := by
 intro v h' nx' hr w L F hk hX dst ty pos af g
 have hr := toM_ok (o := ob (evO ox e f) fun s => isS s fun b => ob (toCells b) fun vs => gd (Nat.blt (len2 b) 1073741824) (ob (hnew (base + k) (.gr E 1 vs) h) fun h' => some (.ok (.su (base + k) 0 (len2 b) 0) h' nx))) hr
 obtain ⟨xv,h1,h2⟩ := ob_some.1 hr
 obtain ⟨t,rfl,h3⟩ := isS_some.1 h2
 obtain ⟨vs,h4,h5⟩ := ob_some.1 h3
 obtain ⟨h6,h7⟩ := gd_some.1 h5
 obtain ⟨hn,h8,h9⟩ := ob_some.1 h7
 cases h9
 rw [len2_eq] at *
 have := toCells_eq h4
 subst this
 obtain ⟨hX',ha⟩ := str_inv (hO _ _ _ hx h1)
 obtain ⟨rfl,_,hu8⟩ := hkd
 have hu8 := hu8 rfl
 have hq : σ (base + k) = none := F.op k hk hX
 let nc := (Question.appendCap t.length 0 E).cut (w.tape w.drawn (.appendCap t.length 0 E))
 have hncge : t.length ≤ nc := by simp [nc,Question.cut]
 let cells : List Value := (t.map fun c => Value.int .u8 (c : Nat)) ++ List.replicate (nc - t.length) (.int .u8 0)
 have hcl : cells.length = nc := by simp [cells]; omega
 let w' : World := { (w.drewN 1) with heap := w.heap.push (.cells cells.toArray E (nc,nc + 1)) }
 have hrun : (Conv.stringToBytes E (strOf t)).run P w = .ok (.slice (some ⟨w.heap.size,0,none⟩) t.length nc) w' := by
  unfold Conv.stringToBytes
  have hch : (choose (.appendCap t.length 0 E)).run P w = .ok nc (w.drewN 1) := by
   simp [choose,Sem.run,Question.forced,World.drewN,nc]
  have hel : ((strOf t).data.map fun b => Value.int .u8 b.toNat) = (t.map fun c => Value.int .u8 (c : Nat)).toArray := by
   simp only [strOf]
   apply Array.toList_inj.1
   simp only [Array.toList_map,List.map_map]
   apply List.map_congr_left
   intro c hc
   have := all_lt ha c hc
   simp only [Function.comp]
   rw [UInt8.toNat_ofNat']
   congr 1
   omega
  have hcells : (t.map fun c => Value.int .u8 (c : Nat)).toArray ++ Array.replicate (nc - t.length) (.int .u8 0) = cells.toArray := by
   apply Array.toList_inj.1; simp [cells]
  simp only [Sem.run_bind,hch,Result.andThen_ok,hel,strOf_size,hcells,newRow,newObj]
  simp only [Sem.run,Result.andThen_ok,Sem.run_bind,Sem.run_pure,markStringish,shape,World.shape?]
  have hget : ((w.drewN 1).heap.push (.cells cells.toArray E))[(w.drewN 1).heap.size]? = some (.cells cells.toArray E) := by simp
  simp only [hget]
  simp only [freeze,Sem.run_bind,Sem.run,Result.andThen_ok,Sem.run_pure,World.freeze,List.size_toArray,hcl]
  rw [if_neg (by omega)]
  congr 1
  simp only [w']
  congr 1
  have hmod : ∀ (H : Array Obj) (o : Obj) (q : Obj → Obj),(H.push o).modify H.size q = H.push (q o) := fun H o q => by
   apply Array.ext_getElem?
   intro i
   rw [Array.getElem?_modify,Array.getElem?_push,Array.getElem?_push]
   by_cases hi : H.size = i
   ·subst hi; simp
   ·rw [if_neg hi,if_neg (fun e => hi e.symm),if_neg (fun e => hi e.symm)]
  exact hmod w.heap _ _
 have he := upd_ext (g := (w.heap.size,nc)) hq
 have hF : FzOk (nc,nc + 1) (cells.length) := fun off hoff => by rw [hcl] at hoff; simp only; omega
 simp only [execOp,hX',Sem.run_bind,Go.convert,run_underlying hS,run_underlying hd,run_underlying hu8,hrun,Result.andThen_ok,Sem.run_pure,Goes]
 refine ⟨_,he,?_,L.new (κ := nc) hq h8 rfl rfl rfl rfl ⟨t.map fun c => Value.int .u8 (c : Nat),List.replicate (nc - t.length) (.int .u8 0),(nc,nc + 1),(show (w.heap.push (Obj.cells cells.toArray E (nc,nc + 1)))[w.heap.size]? = _ from Array.getElem?_push_size),den_cells t,by rw [Nat.mul_one]; exact hcl,hF⟩,F.use hk⟩
 show den _ (.su (base + k) 0 t.length 0) = _
 simp only [den,upd_self]
 rw [if_pos (by simpa using hncge)]; simp
end
end Go.Proofs.YteajeenmojbjhaaGreatDoor.Ev
namespace Go.Proofs.YteajeenmojbjhaaGreatDoor.Ev
open Go Fw
section
variable {P : Program} {σ : Sg} {h h' : Hp} {w0 : World} {a : Act} {base n : Nat} {X : List Nat} {nx k : Nat} {fn : List Nat} {ns : Ns} {e f : List AV} {tt : Nat → Option TI}
variable {call : Nat → List AV → Hp → Nat → MR} {pf : Nat → List AV → Option AV}
theorem us0 {pt u E ty : TypeId} {p : Addr} {K : IntKind} {m : Nat} {s : ByteArray} {w w' : World} (h0 : m ≠ 0) (hn : m < 1073741824) (h1 : (elemOf pt).run P w = .ok E w) (h2 : (variablesAt p E m).run P w = .ok true w) (h3 : (loadBytes p .empty m).run P w = .ok s w) (h4 : (freeze p m).run P w = .ok () w') :
  (Builtin.unsafeString_ #[pt,u] ty #[.pointer (some p),.int K (m : Nat)]).run P w = .ok (.string s) w' := by
 change Sem.run P (asInt (.int K (m : Nat)) >>= _) w = _
 have k1 : ¬ ((m : Int) < 0) := by omega
 have k2 : ¬ ((m : Int) > IntKind.i64.max) := by
  have : IntKind.i64.max = 9223372036854775807 := by decide
  omega
 have k3 : ¬ ((m : Int) = 0) := by omega
 simp only [asInt,asIntOf,Sem.run_bind,Sem.run_pure,Result.andThen_ok,List.getElem?_toArray,List.getElem?_cons_zero,k1,k2,k3,if_false,Int.toNat_natCast,h1,h2,h3,h4,if_true]
theorem us1 {pt u ty : TypeId} {p : Option Addr} {K : IntKind} {w : World} : (Builtin.unsafeString_ #[pt,u] ty #[.pointer p,.int K (0 : Nat)]).run P w = .ok (.string .empty) w := by
 change Sem.run P (asInt (.int K (0 : Nat)) >>= _) w = _
 have h2 : ¬ (((0 : Nat) : Int) > IntKind.i64.max) := by
  have : IntKind.i64.max = 9223372036854775807 := by decide
  omega
 have h1 : ¬ (((0 : Nat) : Int) < 0) := by omega
 simp only [asInt,asIntOf,Sem.run_bind,Sem.run_pure,Result.andThen_ok,List.getElem?_toArray,List.getElem?_cons_zero,h1,h2,if_false]
 cases p <;> simp
theorem load_bytes {w : World} {b : Nat} : ∀ (s : List Nat) (off : Nat) (acc : ByteArray),Cells w b off (s.map fun c => Value.int .u8 (c : Nat)) → (loadBytes ⟨b,off,none⟩ acc s.length).run P w = .ok (acc ++ strOf s) w
 | [],off,acc,_ => by
  simp only [List.length_nil,loadBytes,Sem.run_pure]
  congr 1
  apply ByteArray.ext; simp [strOf,ByteArray.data_append]
 | c :: s,off,acc,hc => by
  have h0 := hc 0 (.int .u8 (c : Nat)) (by simp)
  rw [Nat.add_zero] at h0
  have hl : (load ⟨b,off,none⟩).run P w = .ok (.int .u8 (c : Nat)) w := by
   unfold load; simp [Sem.run,h0]
  have ih := load_bytes s (off + 1) (acc.push (UInt8.ofNat c)) (fun j x hj => by
   have := hc (j + 1) x (by simpa using hj)
   rwa [show off + (j + 1) = off + 1 + j by omega] at this)
  simp only [List.length_cons,loadBytes,Sem.run_bind,hl,Result.andThen_ok,add_at,Int.toNat_natCast]
  have e : Nat.toUInt8 c = UInt8.ofNat c := rfl
  rw [e,ih]
  congr 1
  apply ByteArray.ext
  simp [strOf,ByteArray.data_append,ByteArray.data_push]
theorem Lay.kill {w : World} (L : Lay σ h w0 w) {b : Nat} {o : Bl} {g : Nat × Nat} {h1 : Hp} {w' : World} (hb : hget b h = some o) (hr : isRo o = false) (hg : σ b = some g) (hd : hdel b h = some h1) (hs : w'.heap.size = w.heap.size) (hk : ∀ c,c ≠ g.1 → w'.heap[c]? = w.heap[c]?) (hos : w'.os = w.os) (htp : w'.tape = w.tape) (hout : w'.output = w.output) : Lay σ h1 w0 w' := by
 have L1 := L.del hd
 obtain ⟨_,hnone⟩ := hdel_srt L.srt hd
 obtain ⟨g0,k1,k2,k3⟩ := L.blk b o hb
 rw [hg] at k1; cases k1
 have hge := k3 hr
 refine ⟨L1.srt,⟨by rw [hs]; exact L.old.size,fun c hc => ?_,hos.trans L.old.os,htp.trans L.old.tape,hout.trans L.old.out⟩,fun c oc hc => ?_,L1.inj⟩
 ·rw [hk c (by omega)]; exact L.old.keep c hc
 ·obtain ⟨gc,h4,h5,h6⟩ := L1.blk c oc hc
  have hcb : c ≠ b := fun e => by subst e; rw [hnone] at hc; cases hc
  refine ⟨gc,h4,h5.ext (Ext.refl _) (hk _ fun e => hcb (L.inj c b oc o gc g (hdel_get hd c oc hcb hc) hb h4 hg e)),h6⟩
theorem vars_at {E : TypeId} {i : TypeInfo} (hi : P.info? E = some i) (hs : i.size = 1) (hdp : 0 < P.depth) {count off m : Nat} (hm : off + m ≤ count) : liesAt P P.depth E count off E m = true := by
 obtain ⟨D,hD⟩ : ∃ D,P.depth = D + 1 := ⟨P.depth - 1,by omega⟩
 have hc : P.cellsOf E = 1 := by simp [Program.cellsOf,hi,hs]
 have hl : sameLayout P P.depth E E = true := by rw [hD]; simp [sameLayout]
 have hr : rowAt P (sameLayout P P.depth · E) P.depth E count off m = true := by
  rw [show rowAt P (sameLayout P P.depth · E) P.depth E count off m = rowAt P (sameLayout P P.depth · E) (D + 1) E count off m by rw [hD]]
  unfold rowAt
  simp only [hc,Nat.div_one,Nat.mod_one,Nat.one_ne_zero,if_false,beq_self_eq_true,Bool.true_and,hl,Bool.and_true,hm,decide_true,Bool.true_or]
 rw [show liesAt P P.depth E count off E m = liesAt P (D + 1) E count off E m by rw [hD]]
 unfold liesAt
 rw [hr]; rfl
theorem m_uss (T : Tabs P tt) (hO : OpR σ fn ns e f a) {PT U E : Nat} {ti tE : TI} (ht : tt PT = some ti) (hkd : ti.kd = .ptr E) (hE : tt E = some tE) (hE1 : tE.sz = 1) {p x : Operand} {op ox : O} (hp : cO fn ns p = some op) (hx : cO fn ns x = some ox) :
  MOk P σ h w0 a base n X nx k (.call ⟨.builtin .unsafeString,⟨[p,x]⟩,⟨[PT,U]⟩⟩) (evM call pf (.uss E op ox) (base + k) e f h nx) := by
 intro v h' nx' hr w L F hk hX dst ty pos af g
 have hr := toM_ok (o := ob (evO op e f) fun p => ob (evO ox e f) fun n => isN n fun k n => gd (Nat.beq k 3) (gd (Nat.blt n 1073741824) (bif2 (Nat.beq n 0) (isP0 p (some (.ok (.str []) h nx)) fun _ _ => some (.ok (.str []) h nx))
   (isP p fun b off => gd (Nat.beq off 0) (ob (hget b h) fun o => gd (isGr E o) (ob (rdN b off n h) fun vs => ob (ofCells vs) fun s => ob (hdel b h) fun h' => some (.ok (.str s) h' nx))))))) hr
 obtain ⟨pv,h1,h2⟩ := ob_some.1 hr
 obtain ⟨xv,h3,h4⟩ := ob_some.1 h2
 obtain ⟨k1,m,rfl,h5⟩ := isN_some.1 h4
 obtain ⟨h6,h7⟩ := gd_some.1 h5
 obtain ⟨h8,h9⟩ := gd_some.1 h7
 rw [beq_iff] at h6; subst h6
 rw [blt_iff] at h8
 have hN := den_n (hO _ _ _ hx h3)
 have hPV := hO _ _ _ hp h1
 have exec : ∀ (A : Option Addr) (s : ByteArray) (w' : World),a.eval p = .pointer A → (Builtin.unsafeString_ #[PT,U] ty #[.pointer A,.int (kd 3) (m : Nat)]).run P w = .ok (.string s) w' → (execOp a.eval ⟨dst,.call ⟨.builtin .unsafeString,⟨[p,x]⟩,⟨[PT,U]⟩⟩,ty,pos,af,g⟩).run P w = .ok (.value (.string s)) w' := fun A s w' hA hrun => by
  have hN' : a.eval x = .int (kd 3) (m : Nat) := hN
  simp only [execOp,resolve,invoke,builtin,List.map_toArray,List.map_cons,List.map_nil,hA,hN',Sem.run_bind,Sem.run_pure,Result.andThen_ok]
  rw [hrun]; rfl
 rw [bif2_if] at h9
 split at h9
 ·rename_i h0
  rw [beq_iff] at h0; subst h0
  have hv : v = .str [] ∧ h' = h ∧ nx' = nx := by
   rcases isP0_some.1 h9 with ⟨_,h10⟩ | ⟨_,_,_,h10⟩ <;> (cases h10; exact ⟨rfl,rfl,rfl⟩)
  obtain ⟨rfl,rfl,rfl⟩ := hv
  have hA : ∃ A,a.eval p = .pointer A := by
   rcases isP0_some.1 h9 with ⟨rfl,_⟩ | ⟨_,_,rfl,_⟩
   ·exact ⟨_,den_nilp hPV⟩
   ·obtain ⟨g,_,h⟩ := den_ptr hPV; exact ⟨_,h⟩
  obtain ⟨A,hA⟩ := hA
  rw [exec A .empty w hA us1]
  exact ⟨σ,Ext.refl _,den_str (s := []) rfl,L,F.skip⟩
 ·rename_i h0
  have h0 : m ≠ 0 := fun e => h0 (beq_iff.2 e)
  obtain ⟨b,off,rfl,h10⟩ := isP_some.1 h9
  obtain ⟨h11,h12⟩ := gd_some.1 h10
  rw [beq_iff] at h11; subst h11
  obtain ⟨o,h13,h14⟩ := ob_some.1 h12
  obtain ⟨h15,h16⟩ := gd_some.1 h14
  obtain ⟨vs,h17,h18⟩ := ob_some.1 h16
  obtain ⟨s,h19,h20⟩ := ob_some.1 h18
  obtain ⟨hn,h21,h22⟩ := ob_some.1 h20
  cases h22
  obtain ⟨gg,hg,hA⟩ := den_ptr hPV
  obtain ⟨g',xs,h23,h24,h25,h26⟩ := rdN_run L h17
  rw [hg] at h23; cases h23
  obtain ⟨h27,rfl⟩ := bytes_of h19 h24
  have hsl : s.length = m := by simpa using h25
  cases o with
  | ex T' c cs => cases h15
  | ro T' c cs => cases h15
  | gr T' ee cs =>
   have h15 : band (Nat.beq E T') (Nat.beq ee 1) = true := h15
   rw [band_eq,Bool.and_eq_true,beq_iff,beq_iff] at h15
   obtain ⟨rfl,rfl⟩ := h15
   obtain ⟨g0,k1,k2,_⟩ := L.blk b _ h13
   rw [hg] at k1; cases k1
   obtain ⟨ws,rest,fz,k3,k4,k5,k6⟩ := k2
   obtain ⟨i,hi,_⟩ := T.pz _ _ _ ht hkd
   obtain ⟨d,hd,hkk⟩ := (T.ty _ _ ht).under
   rw [hkd] at hkk
   have hkk : d = .pointer E := hkk
   subst hkk
   obtain ⟨dE,iE,_,hiE,hszE,_⟩ := (T.ty _ _ hE).ok
   have hcE : P.cellsOf E = 1 := by simp [Program.cellsOf,hiE,hszE,hE1]
   have hle : m ≤ (ws ++ rest).length := by
    have hlast := h26 (m - 1) (.int .u8 ((s[m - 1]?.getD 0 : Nat))) (by
     rw [List.getElem?_map]
     have : m - 1 < s.length := by omega
     simp [this])
    simp only [World.cell?,k3,Option.isSome_none,Bool.false_eq_true,if_false,Nat.zero_add,List.getElem?_toArray] at hlast
    have := (List.getElem?_eq_some_iff.1 hlast).1
    omega
   have hvars : (variablesAt ⟨gg.1,0,none⟩ E m).run P w = .ok true w := by
    have hl := vars_at (P := P) hiE (by rw [hszE,hE1]) T.dp (count := (ws ++ rest).length) (off := 0) (m := m) (by omega)
    simp only [variablesAt,program,shape,Sem.run_bind,Sem.run,Result.andThen_ok,World.shape?,k3,Sem.run_pure,List.size_toArray,hcE,Nat.div_one,hl]
   have hel : (elemOf PT).run P w = .ok E w := by simp [elemOf,run_underlying hd]
   have hload := load_bytes (P := P) s 0 .empty h26
   rw [hsl] at hload
   have he0 : ByteArray.empty ++ strOf s = strOf s := by apply ByteArray.ext; simp [ByteArray.data_append]
   rw [he0] at hload
   have hfr : (freeze ⟨gg.1,0,none⟩ m).run P w = .ok () (w.freeze ⟨gg.1,0,none⟩ m) := rfl
   rw [exec _ (strOf s) _ hA (us0 h0 h8 hel hvars hload hfr)]
   refine ⟨σ,Ext.refl _,den_str h27,?_,F.skip⟩
   have hsz : (w.freeze ⟨gg.1,0,none⟩ m).heap.size = w.heap.size := by unfold World.freeze; rw [if_neg h0]; simp
   have hkp : ∀ c,c ≠ gg.1 → (w.freeze ⟨gg.1,0,none⟩ m).heap[c]? = w.heap[c]? := fun c hc => by
    unfold World.freeze; rw [if_neg h0]; simp [Array.getElem?_modify,Ne.symm hc]
   have hrest : (w.freeze ⟨gg.1,0,none⟩ m).os = w.os ∧ (w.freeze ⟨gg.1,0,none⟩ m).tape = w.tape ∧ (w.freeze ⟨gg.1,0,none⟩ m).output = w.output := by unfold World.freeze; rw [if_neg h0]; exact ⟨rfl,rfl,rfl⟩
   exact L.kill h13 rfl hg h21 hsz hkp hrest.1 hrest.2.1 hrest.2.2
end
end Go.Proofs.YteajeenmojbjhaaGreatDoor.Ev
namespace Go.Proofs.YteajeenmojbjhaaGreatDoor.Ev
open Go Fw
def GlOk (σ : Sg) : Prop := (∃ κ,σ 0 = some (0,κ)) ∧ ∃ κ,σ 2 = some (2,κ)
theorem GlOk.ext {σ σ' : Sg} (h : GlOk σ) (he : Ext σ σ') : GlOk σ' := ⟨h.1.imp fun _ e => he _ _ e,h.2.imp fun _ e => he _ _ e⟩
def CallOk (P : Program) (call : Nat → List AV → Hp → Nat → MR) (w0 : World) : Prop := ∀ g as h nx v h' nx',call g as h nx = .ok v h' nx' → callB P g = true ∧
 ∀ (σ : Sg) (w : World) (vs : List Value),GlOk σ → Lay σ h w0 w → (∀ b,nx ≤ b → σ b = none) → denL σ as = some vs →
  Calls P g vs.toArray w fun e w' => ∃ σ' u,e = .returned u ∧ Ext σ σ' ∧ den σ' v = some u ∧ Lay σ' h' w0 w' ∧ (∀ b,nx' ≤ b → σ' b = none) ∧ nx ≤ nx' ∧ ∀ b,b < nx → σ' b = σ b
def PrimOk (P : Program) (pf : Nat → List AV → Option AV) (w0 : World) : Prop := ∀ g as v,pf g as = some v → callB P g = true ∧
 ∃ vs u,denL (fun _ => none) as = some vs ∧ den (fun _ => none) v = some u ∧ ∀ w,Old w0 w → Calls P g vs.toArray w fun e w' => e = .returned u ∧ Old w w'
def InvOk (P : Program) (inv : String → List (Nat × Nat)) : Prop := ∀ name t g,findT t (inv name) = some g → callB P g = true ∧ ∀ v w,(method (P.types.size + Made.depth) t v name).run P w = .ok (g,v) w
section
variable {P : Program} {σ : Sg} {h h' : Hp} {w0 : World} {a : Act} {base n : Nat} {X : List Nat} {nx k : Nat} {fn : List Nat} {ns : Ns} {e f : List AV} {tt : Nat → Option TI}
variable {call : Nat → List AV → Hp → Nat → MR} {pf : Nat → List AV → Option AV} {prim : Nat → Bool} {inv : String → List (Nat × Nat)}
theorem ext0 (σ : Sg) : Ext (fun _ => none) σ := fun _ _ h => by cases h
theorem Fresh.after {σ' : Sg} {nx' : Nat} (F : Fresh σ base n X nx) (h1 : ∀ b,nx' ≤ b → σ' b = none) (h2 : nx ≤ nx') (h3 : ∀ b,b < nx → σ' b = σ b) : Aft σ σ' base n X k nx' :=
 ⟨⟨h1,fun k' hk' hX => by
  have := F.le
  rw [h3 _ (by omega)]
  exact F.op k' hk' fun h => hX (List.mem_cons_of_mem _ h),Nat.le_trans F.le h2⟩,fun b hb => h3 b (by have := F.le; omega)⟩
theorem call_goes (hG : GlOk σ) (hC : CallOk P call w0) {g : Nat} {as : List AV} {vs : List Value} {v : AV} {h' : Hp} {nx' : Nat} {w : World} (L : Lay σ h w0 w) (F : Fresh σ base n X nx) (hd : denL σ as = some vs) (hr : call g as h nx = .ok v h' nx') {r : Result Next} (hrun : callB P g = true → r = .ok (.enter g vs.toArray) w) :
  Goes P (fun u w' => ∃ σ',Ext σ σ' ∧ den σ' v = some u ∧ Lay σ' h' w0 w' ∧ Aft σ σ' base n X k nx') r := by
 obtain ⟨hB,hc⟩ := hC _ _ _ _ _ _ _ hr
 rw [hrun hB]
 refine (hc σ w vs hG L F.hi hd).mono ?_
 rintro e w' ⟨σ',u,rfl,h1,h2,h3,h4,h5,h6⟩
 exact ⟨u,rfl,σ',h1,h2,h3,F.after h4 h5 h6⟩
theorem args_map {as : Array Operand} {vs : List Value} (h : as.toList.map a.eval = vs) : as.map a.eval = vs.toArray := by
 subst h; apply Array.toList_inj.1; simp
theorem m_call (hG : GlOk σ) (hO : OpR σ fn ns e f a) (hC : CallOk P call w0) {g : Nat} {as : Array Operand} {tys : Array TypeId} {os : List O} (hs : cOs fn ns as.toList = some os) : MOk P σ h w0 a base n X nx k (.call ⟨.value (.func g),as,tys⟩) (evM call pf (.call g os) (base + k) e f h nx) := by
 intro v h' nx' hr w L F hk hX dst ty pos af gd'
 obtain ⟨vs,h1,h2⟩ := om_ok (o := evOs os e f) (F := fun vs => call g vs h nx) hr
 refine call_goes hG hC L F (hO.list hs h1) h2 fun hB => ?_
 simp only [execOp,resolve,args_map rfl,evfn,Deferred.ofValue,Sem.run_bind,Sem.run_pure,Result.andThen_ok,invoke,Array.append_empty,Array.empty_append,run_callFunc hB]
theorem m_clp (hG : GlOk σ) (hO : OpR σ fn ns e f a) (hC : CallOk P call w0) (hP : PrimOk P pf w0) {g : Nat} {as : Array Operand} {tys : Array TypeId} {os : List O} (hs : cOs fn ns as.toList = some os) : MOk P σ h w0 a base n X nx k (.call ⟨.value (.func g),as,tys⟩) (evM call pf (.clp g os) (base + k) e f h nx) := by
 intro v h' nx' hr w L F hk hX dst ty pos af gd'
 obtain ⟨vs,h1,h2⟩ := om_ok (o := evOs os e f) (F := fun vs => Option.rec (motive := fun _ => MR) (call g vs h nx) (fun v => .ok v h nx) (pf g vs)) hr
 cases h3 : pf g vs with
 | none =>
  rw [h3] at h2
  have h2 : call g vs h nx = .ok v h' nx' := h2
  refine call_goes hG hC L F (hO.list hs h1) h2 fun hB => ?_
  simp only [execOp,resolve,args_map rfl,evfn,Deferred.ofValue,Sem.run_bind,Sem.run_pure,Result.andThen_ok,invoke,Array.append_empty,Array.empty_append,run_callFunc hB]
 | some u =>
  rw [h3] at h2
  have h2 : MR.ok u h nx = .ok v h' nx' := h2
  cases h2
  obtain ⟨hB,ws,x,h5,h6,h7⟩ := hP _ _ _ h3
  have h8 := hO.list hs h1
  rw [denL_ext (ext0 σ) _ _ h5] at h8
  cases h8
  have hrun : (execOp a.eval ⟨dst,.call ⟨.value (.func g),as,tys⟩,ty,pos,af,gd'⟩).run P w = .ok (.enter g (as.toList.map a.eval).toArray) w := by
   simp only [execOp,resolve,args_map rfl,evfn,Deferred.ofValue,Sem.run_bind,Sem.run_pure,Result.andThen_ok,invoke,Array.append_empty,Array.empty_append,run_callFunc hB]
  rw [hrun]
  refine (h7 w L.old).mono ?_
  rintro e w' ⟨rfl,ho⟩
  exact ⟨x,rfl,σ,Ext.refl _,den_ext (ext0 σ) _ _ h6,L.quiet ho,F.skip⟩
theorem m_clv (hG : GlOk σ) (hO : OpR σ fn ns e f a) (hC : CallOk P call w0) {x : Operand} {ox : O} {as : Array Operand} {tys : Array TypeId} {os : List O} (hx : cO fn ns x = some ox) (hs : cOs fn ns as.toList = some os) : MOk P σ h w0 a base n X nx k (.call ⟨.value x,as,tys⟩) (evM call pf (.clv ox os) (base + k) e f h nx) := by
 intro v h' nx' hr w L F hk hX dst ty pos af gd'
 obtain ⟨fv,h1,h2⟩ := om_ok (o := evO ox e f) (F := fun fv => om (evOs os e f) fun vs => toM (isF fv fun g fs cs => ob (appA vs cs) fun r => ob (appA fs r) fun r => some (call g r h nx))) hr
 obtain ⟨vs,h3,h4⟩ := om_ok h2
 have h5 := toM_ok h4
 obtain ⟨g,fs,cs,rfl,h6⟩ := isF_some.1 h5
 rw [appA_eq] at h6
 obtain ⟨r,h7,h8⟩ := ob_some.1 h6
 cases h7
 rw [appA_eq] at h8
 obtain ⟨r,h9,h10⟩ := ob_some.1 h8
 cases h9
 have h10 : call g (fs ++ (vs ++ cs)) h nx = .ok v h' nx' := Option.some.inj h10
 obtain ⟨A,B,hA,hB',hF⟩ := den_fn (hO _ _ _ hx h1)
 refine call_goes hG hC L F (denL_append hA (denL_append (hO.list hs h3) hB')) h10 fun hB => ?_
 simp only [execOp,resolve,args_map rfl,hF,Deferred.ofValue,Sem.run_bind,Sem.run_pure,Result.andThen_ok,invoke,run_callFunc hB]
 congr 2
 simp
theorem m_cli (hG : GlOk σ) (hO : OpR σ fn ns e f a) (hC : CallOk P call w0) (hI : InvOk P inv) {r : Operand} {or : O} {name : String} {as : Array Operand} {tys : Array TypeId} {os : List O} (hx : cO fn ns r = some or) (hs : cOs fn ns as.toList = some os) : MOk P σ h w0 a base n X nx k (.call ⟨.invoke r name,as,tys⟩) (evM call pf (.cli or (inv name) os) (base + k) e f h nx) := by
 intro v h' nx' hr w L F hk hX dst ty pos af gd'
 obtain ⟨rv,h1,h2⟩ := om_ok (o := evO or e f) (F := fun rv => om (evOs os e f) fun vs => toM (isC rv none fun t x => ob (findT t (inv name)) fun g => some (call g (x :: vs) h nx))) hr
 obtain ⟨vs,h3,h4⟩ := om_ok h2
 have h5 := toM_ok h4
 rcases isC_some.1 h5 with ⟨_,h6⟩ | ⟨t,x,rfl,h6⟩
 ·cases h6
 ·obtain ⟨g,h7,h8⟩ := ob_some.1 h6
  have h8 : call g (x :: vs) h nx = .ok v h' nx' := Option.some.inj h8
  obtain ⟨U,hU,hR⟩ := den_ifc (hO _ _ _ hx h1)
  obtain ⟨hB,hm⟩ := hI _ _ _ h7
  refine call_goes hG hC L F (denL_cons hU (hO.list hs h3)) h8 fun _ => ?_
  have e1 : (#[Value.iface t U] ++ (as.toList.map a.eval).toArray)[0]? = some (.iface t U) := by simp
  have e2 : (#[Value.iface t U] ++ (as.toList.map a.eval).toArray).extract 1 (#[Value.iface t U] ++ (as.toList.map a.eval).toArray).size = (as.toList.map a.eval).toArray := by
   apply Array.toList_inj.1; simp [Array.toList_extract,List.extract_eq_take_drop]
   rw [List.take_of_length_le (by simp)]
  simp only [execOp,resolve,args_map rfl,hR,Sem.run_bind,Sem.run_pure,Result.andThen_ok,invoke,e1,e2,callMethod,program,Sem.run,hm,run_callFunc hB]
  congr 2
  simp
theorem isEx_ok {o : Bl} (h : isEx o = true) : ∃ cs,o = .ex 104 2 cs := by
 cases o with
 | ex T n cs =>
  have h : band (Nat.beq T 104) (Nat.beq n 2) = true := h
  rw [band_eq,Bool.and_eq_true,beq_iff,beq_iff] at h
  obtain ⟨rfl,rfl⟩ := h
  exact ⟨cs,rfl⟩
 | gr T n cs => cases h
 | ro T n cs => cases h
theorem m_ups (T : Tabs P tt) (hO : OpR σ fn ns e f a) {S U : Nat} {x : Operand} {ox : O} (hx : cO fn ns x = some ox) (hk0 : S = 102 ∧ U = 224 ∨ S = 224 ∧ U = 102) : MOk P σ h w0 a base n X nx k (.convert S U x) (evM call pf (.ups ox) (base + k) e f h nx) := by
 intro v h' nx' hr w L F hk hX dst ty pos af gd'
 have hr := toM_ok (o := ob (evO ox e f) fun p => isP p fun b off => gd (Nat.beq off 0) (ob (hget b h) fun o => gd (isEx o) (some (.ok p h nx)))) hr
 obtain ⟨p,h1,h2⟩ := ob_some.1 hr
 obtain ⟨b,off,rfl,h3⟩ := isP_some.1 h2
 obtain ⟨h4,h5⟩ := gd_some.1 h3
 obtain ⟨o,h6,h7⟩ := ob_some.1 h5
 obtain ⟨h8,h9⟩ := gd_some.1 h7
 cases h9
 rw [beq_iff] at h4; subst h4
 obtain ⟨cs,rfl⟩ := isEx_ok h8
 obtain ⟨g,hg,hX'⟩ := den_ptr (hO _ _ _ hx h1)
 obtain ⟨g',e1,⟨vs,fz,k1,k2,k3,k4⟩,_⟩ := L.blk _ _ h6
 rw [hg] at e1; cases e1
 have hsh : w.shape? g.1 = some (104,2) := by
  unfold World.shape?
  rw [k1]
  simp [denL_length k2,k3]
 have hrun := T.ex.ups g.1 w S U hsh hk0
 have : (execOp a.eval ⟨dst,.convert S U x,ty,pos,af,gd'⟩).run P w = .ok (.value (.pointer (some ⟨g.1,0,none⟩))) w := by
  simp only [execOp,hX',Sem.run_bind,hrun,Result.andThen_ok,Sem.run_pure]
 rw [this]
 exact ⟨σ,Ext.refl _,den_mkptr hg,L,F.skip⟩
theorem cM_run (hG : GlOk σ) (T : Tabs P tt) (hO : OpR σ fn ns e f a) (hC : CallOk P call w0) (hP : PrimOk P pf w0) (hI : InvOk P inv) {op : Op} {m : MI} (hc : cM tt prim inv fn ns op = some m) : MOk P σ h w0 a base n X nx k op (evM call pf m (base + k) e f h nx) := by
 unfold cM at hc
 split at hc
 ·split at hc
  ·rename_i ti ht
   cases hc
   exact m_al (T.ty _ _ ht) (T.zl _ _ ht)
  ·cases hc
 ·split at hc
  ·rename_i ti o ht ho
   cases hc
   exact m_box hO ho
  ·cases hc
 ·split at hc
  ·rename_i ti p x ht hp hx
   cases hag : ti.agg with
   | true => rw [hag] at hc; cases hc; exact m_stN hO (T.ty _ _ ht) hp hx
   | false => rw [hag] at hc; cases hc; exact m_st1 hO (T.ty _ _ ht) (T.s1 _ _ ht hag) hp hx
  ·cases hc
 ·split at hc
  ·rename_i E sz eb z u8 hk
   obtain ⟨ti,ht,hkd⟩ := map_kd hk
   obtain ⟨d,hd,hkk⟩ := (T.ty _ _ ht).under
   rw [hkd] at hkk
   split at hc
   ·rename_i hle
    rw [ble_iff] at hle
    obtain ⟨qs,h1,rfl⟩ := Option.map_eq_some_iff.1 hc
    exact m_bsl hO hd hkk h1 (by omega)
   ·cases hc
  ·cases hc
 ·split at hc
  ·rename_i E sz eb z u8 l c hk hl hcc
   obtain ⟨ti,ht,hkd⟩ := map_kd hk
   obtain ⟨d,hd,hkk⟩ := (T.ty _ _ ht).under
   rw [hkd] at hkk
   cases hc
   exact m_mks hO hd hkk hl hcc
  ·cases hc
 ·
  split at hc
  ·rename_i _ _ _ _ E sz eb z u8 _ _ _ _ _ s x hk hkU hs hx
   obtain ⟨ti,ht,hkd⟩ := map_kd hk
   obtain ⟨d,hd,hkk⟩ := (T.ty _ _ ht).under
   rw [hkd] at hkk
   obtain ⟨tU,htU,hkdU⟩ := map_kd hkU
   obtain ⟨dU,hdU,hkkU⟩ := (T.ty _ _ htU).under
   rw [hkdU] at hkkU
   cases hc
   exact m_app T hO hd hkk hdU hkkU hs hx
  ·rename_i _ _ _ _ E z s x hk hkU hs hx
   obtain ⟨ti,ht,hkd⟩ := map_kd hk
   obtain ⟨d,hd,hkk⟩ := (T.ty _ _ ht).under
   rw [hkd] at hkk
   obtain ⟨tU,htU,hkdU⟩ := map_kd hkU
   obtain ⟨dU,hdU,hkkU⟩ := (T.ty _ _ htU).under
   rw [hkdU] at hkkU
   have hkkU : dU = .string := hkkU
   subst hkkU
   cases hc
   exact m_apS hO hd hkk hdU hs hx
  ·rename_i _ _ _ _ E sz eb z u8 s x hk hkU hs hx
   obtain ⟨ti,ht,hkd⟩ := map_kd hk
   obtain ⟨d,hd,hkk⟩ := (T.ty _ _ ht).under
   rw [hkd] at hkk
   obtain ⟨tU,htU,hkdU⟩ := map_kd hkU
   obtain ⟨dU,hdU,hkkU⟩ := (T.ty _ _ htU).under
   rw [hkdU] at hkkU
   obtain ⟨K,rfl,_⟩ := hkkU
   cases hc
   exact m_ap0 hO hd hkk hdU hs hx
  ·cases hc
 ·
  split at hc
  ·rename_i _ _ _ _ E sz eb z u8 _ _ _ _ _ s x hk hkU hs hx
   obtain ⟨ti,ht,hkd⟩ := map_kd hk
   obtain ⟨d,hd,hkk⟩ := (T.ty _ _ ht).under
   rw [hkd] at hkk
   cases hc
   exact m_cpy hO hd hkk hs hx
  ·rename_i _ _ _ _ E eb z s x hk hkU hs hx
   obtain ⟨ti,ht,hkd⟩ := map_kd hk
   obtain ⟨d,hd,hkk⟩ := (T.ty _ _ ht).under
   rw [hkd] at hkk
   cases hc
   exact m_cpS hO hd hkk hs hx
  ·cases hc
 ·
  split at hc
  ·rename_i E sz eb z u8 s hk hs
   obtain ⟨ti,ht,hkd⟩ := map_kd hk
   obtain ⟨d,hd,hkk⟩ := (T.ty _ _ ht).under
   rw [hkd] at hkk
   cases hc
   exact m_clr hO hd hkk hs
  ·cases hc
 ·
  split at hc
  ·rename_i E sz eb z hkS hk
   obtain ⟨ti,ht,hkd⟩ := map_kd hk
   obtain ⟨d,hd,hkk⟩ := (T.ty _ _ ht).under
   rw [hkd] at hkk
   obtain ⟨tS,htS,hkdS⟩ := map_kd hkS
   obtain ⟨dS,hdS,hkkS⟩ := (T.ty _ _ htS).under
   rw [hkdS] at hkkS
   have hkkS : dS = .string := hkkS
   subst hkkS
   obtain ⟨o,ho,rfl⟩ := Option.map_eq_some_iff.1 hc
   exact m_s2b hO hdS hd hkk ho
  ·split at hc
   ·rename_i hk0
    obtain ⟨o,ho,rfl⟩ := Option.map_eq_some_iff.1 hc
    refine m_ups T hO ho ?_
    simp only [Bool.or_eq_true,Bool.and_eq_true,beq_iff] at hk0
    exact hk0
   ·cases hc
 ·
  split at hc
  ·rename_i E p x hk hp hx
   split at hc
   ·rename_i hE
    obtain ⟨ti,ht,hkd⟩ := map_kd hk
    cases hc
    obtain ⟨tE,htE,hE1⟩ := Option.map_eq_some_iff.1 hE
    exact m_uss T hO ht hkd htE hE1 hp hx
   ·cases hc
  ·cases hc
 ·split at hc
  ·rename_i g as tys _ l hs
   cases hp : prim g with
   | true => rw [hp] at hc; cases hc; exact m_clp hG hO hC hP hs
   | false => rw [hp] at hc; cases hc; exact m_call hG hO hC hs
  ·cases hc
 ·split at hc
  ·rename_i hx hs
   cases hc
   exact m_clv hG hO hC hx hs
  ·cases hc
 ·split at hc
  ·rename_i hx hs
   cases hc
   exact m_cli hG hO hC hI hx hs
  ·cases hc
 ·cases hc
end
end Go.Proofs.YteajeenmojbjhaaGreatDoor.Ev
namespace Go.Proofs.YteajeenmojbjhaaGreatDoor.Ev
open Go Fw
theorem band_true {a b : Bool} : band a b = true ↔ a = true ∧ b = true := by rw [band_eq,Bool.and_eq_true]
theorem beqV_eq : ∀ v w : AV,beqV v w = true → v = w := by
 intro v
 refine AV.rec (motive_1 := fun v => ∀ w,beqV v w = true → v = w) (motive_2 := fun l => ∀ m,beqI l m = true → l = m) ?_ ?_ ?_ ?_ ?_ ?_ ?_ ?_ ?_ ?_ ?_ ?_ ?_ ?_ ?_ ?_ ?_ ?_ ?_ v
 ·intro w h; cases w <;> first | rfl | cases h
 ·intro b w h
  cases w <;> first | (cases h; done) | skip
  have h : beqBo b _ = true := h
  rw [beqBo_eq] at h; simp at h; rw [h]
 ·intro k a w h
  cases w <;> first | (cases h; done) | skip
  have h : band (Nat.beq k _) (Nat.beq a _) = true := h
  simp only [band_true,beq_iff] at h; rw [h.1,h.2]
 ·intro k a w h
  cases w <;> first | (cases h; done) | skip
  have h : band (Nat.beq k _) (Nat.beq a _) = true := h
  simp only [band_true,beq_iff] at h; rw [h.1,h.2]
 ·intro s w h
  cases w <;> first | (cases h; done) | skip
  have h : beqL s _ = true := h
  rw [beqL_iff] at h; rw [h]
 ·intro w h; cases w <;> first | rfl | cases h
 ·intro k a w h
  cases w <;> first | (cases h; done) | skip
  have h : band (Nat.beq k _) (Nat.beq a _) = true := h
  simp only [band_true,beq_iff] at h; rw [h.1,h.2]
 ·intro w h; cases w <;> first | rfl | cases h
 ·intro a b c d w h
  cases w <;> first | (cases h; done) | skip
  have h : band (Nat.beq a _) (band (Nat.beq b _) (band (Nat.beq c _) (Nat.beq d _))) = true := h
  simp only [band_true,beq_iff] at h; rw [h.1,h.2.1,h.2.2.1,h.2.2.2]
 ·intro a b c d w h
  cases w <;> first | (cases h; done) | skip
  have h : band (Nat.beq a _) (band (Nat.beq b _) (band (Nat.beq c _) (Nat.beq d _))) = true := h
  simp only [band_true,beq_iff] at h; rw [h.1,h.2.1,h.2.2.1,h.2.2.2]
 ·intro a b c d z w h
  cases w <;> first | (cases h; done) | skip
  have h : band (Nat.beq a _) (band (Nat.beq b _) (band (Nat.beq c _) (band (Nat.beq d _) (beqBo z _)))) = true := h
  simp only [band_true,beq_iff,beqBo_eq,beq_iff_eq] at h; rw [h.1,h.2.1,h.2.2.1,h.2.2.2.1,h.2.2.2.2]
 ·intro f fs cs h1 h2 w h
  cases w <;> first | (cases h; done) | skip
  have h : band (Nat.beq f _) (band (beqI fs _) (beqI cs _)) = true := h
  simp only [band_true,beq_iff] at h; rw [h.1,h1 _ h.2.1,h2 _ h.2.2]
 ·intro w h; cases w <;> first | rfl | cases h
 ·intro t x h1 w h
  cases w <;> first | (cases h; done) | skip
  have h : band (Nat.beq t _) (beqV x _) = true := h
  simp only [band_true,beq_iff] at h; rw [h.1,h1 _ h.2]
 ·intro w h; cases w <;> first | rfl | cases h
 ·intro cs h1 w h
  cases w <;> first | (cases h; done) | skip
  have h : beqI cs _ = true := h
  rw [h1 _ h]
 ·intro cs h1 w h
  cases w <;> first | (cases h; done) | skip
  have h : beqI cs _ = true := h
  rw [h1 _ h]
 ·intro m h
  cases m <;> first | rfl | cases h
 ·intro x l h1 h2 m h
  cases m with
  | nil => cases h
  | cons y m =>
   have h : band (beqV x y) (beqI l m) = true := h
   simp only [band_true] at h; rw [h1 _ h.1,h2 _ h.2]
theorem beqVs_eq : ∀ {l m : List AV},beqVs l m = true → l = m
 | [],[],_ => rfl
 | [],_ :: _,h => by cases h
 | _ :: _,[],h => by cases h
 | x :: l,y :: m,h => by
  have h : band (beqV x y) (beqVs l m) = true := h
  simp only [band_true] at h
  rw [beqV_eq _ _ h.1,beqVs_eq h.2]
theorem cvs_den {σ : Sg} (hh : ∀ v a,cv v = some a → den σ a = some v) : ∀ {l : List Value} {as : List AV},cvs l = some as → denL σ as = some l
 | [],as,h => by simp only [cvs,Option.some.injEq] at h; subst h; exact denL_nil
 | v :: l,as,h => by
  simp only [cvs] at h
  split at h
  ·rename_i a r h1 h2
   cases h
   exact denL_cons (hh _ _ h1) (cvs_den hh h2)
  ·cases h
theorem cv_den {σ : Sg} {v : Value} {a : AV} (h : cv v = some a) : den σ a = some v := by
 unfold cv at h
 split at h
 ·cases h; exact db
 ·rename_i k z
  cases h
  cases z with
  | ofNat m => show den σ (.n (kc k) m) = _; rw [dn,kd_kc]
  | negSucc m => show den σ (.m (kc k) m) = _; rw [dm,kd_kc]
 ·rename_i s
  cases h
  have h1 : (s.data.toList.map UInt8.toNat).all (fun c => Nat.blt c 256) = true := by
   rw [List.all_eq_true]
   intro c hc
   obtain ⟨b,_,rfl⟩ := List.mem_map.1 hc
   rw [blt_iff]; exact b.toNat_lt
  rw [den_str h1]
  congr 2
  apply ByteArray.ext
  show ((s.data.toList.map UInt8.toNat).map UInt8.ofNat).toArray = s.data
  apply Array.toList_inj.1
  simp only [List.map_map]
  have : (UInt8.ofNat ∘ UInt8.toNat) = id := by funext b; simp
  rw [this]; simp
 ·cases h; simp only [den]
 ·cases h; simp only [den]
 ·cases h; simp only [den]
 ·cases h; simp only [den]
 ·cases h; simp only [den]
 ·cases h
structure EnvR (D : List Deferred) (σ : Sg) (fn : List Nat) (ns : Ns) (e f : List AV) (a : Act) (N : Nat) : Prop where
 sz : a.tmps.size = N
 df : a.defers = D
 el : e.length = ns.2
 lt : ∀ t l,look t ns.1 = some (.e l) → l < ns.2
 nm : ∀ t s,look t ns.1 = some s → ∀ v,evO (toO ns.2 s) e f = some v → ∃ x,den σ v = some x ∧ a.tmps[t]? = some x
 fr : ∀ t k,look t ns.1 = none → idx t fn = some k → ∀ v,f[k]? = some v → ∃ x,den σ v = some x ∧ a.tmps[t]? = some x
section
variable {D : List Deferred} {P : Program} {σ σ' : Sg} {fn : List Nat} {ns : Ns} {e f : List AV} {a : Act} {N : Nat}
theorem EnvR.ext (E : EnvR D σ fn ns e f a N) (he : Ext σ σ') : EnvR D σ' fn ns e f a N :=
 ⟨E.sz,E.df,E.el,E.lt,fun t s h v hv => (E.nm t s h v hv).imp fun x hx => ⟨den_ext he _ _ hx.1,hx.2⟩,fun t k h hk v hv => (E.fr t k h hk v hv).imp fun x hx => ⟨den_ext he _ _ hx.1,hx.2⟩⟩
theorem getD_tmps {t : Nat} {x : Value} (h : a.tmps[t]? = some x) : a.eval (.tmp t) = x := by
 simp [Act.eval,h]
theorem EnvR.op (E : EnvR D σ fn ns e f a N) (G : GlOk σ) : OpR σ fn ns e f a := by
 intro x o v hc hv
 unfold cO at hc
 split at hc
 ·rename_i s hs
  cases hc
  cases x with
  | tmp t =>
   simp only [cS] at hs
   split at hs
   ·rename_i s' hl
    cases hs
    obtain ⟨y,h1,h2⟩ := E.nm t _ hl v hv
    rw [getD_tmps h2]; exact h1
   ·rename_i hl
    split at hs
    ·rename_i k hk
     cases hs
     have hv : evO (.f k) e f = some v := hv
     rw [evO_f] at hv
     obtain ⟨y,h1,h2⟩ := E.fr t k hl hk v hv
     rw [getD_tmps h2]; exact h1
    ·cases hs
  | const u =>
   simp only [cS,Option.map_eq_some_iff] at hs
   obtain ⟨b,h1,rfl⟩ := hs
   have hv : some b = some v := hv
   cases hv
   exact cv_den h1
  | global g =>
   unfold cS at hs
   split at hs <;> first | (cases hs; done) | skip
   all_goals (rename_i heq; cases heq)
   ·cases hs
    have hv : some (AV.ptr 0 0) = some v := hv
    cases hv
    obtain ⟨κ,hκ⟩ := G.1
    exact den_mkptr hκ
   ·cases hs
    have hv : some (AV.ptr 2 0) = some v := hv
    cases hv
    obtain ⟨κ,hκ⟩ := G.2
    exact den_mkptr hκ
  | func g =>
   simp only [cS,Option.some.injEq] at hs
   subst hs
   have hv : some (AV.fn g [] []) = some v := hv
   cases hv
   show den σ (.fn g [] []) = _
   simp only [den,denL]; rfl
 ·cases hc
theorem look_cons {t d : Nat} {s : Sr} {l : List (Nat × Sr)} : look t ((d,s) :: l) = if d = t then some s else look t l := by
 simp only [look]
 cases h : Nat.beq d t with
 | true => rw [beq_iff] at h; rw [if_pos h]
 | false => rw [if_neg (fun e => by rw [← beq_iff,h] at e; cases e)]
theorem toO_push {d : Nat} {s : Sr} {v : AV} (hd : e.length = d) (hlt : ∀ l,s = .e l → l < d) : evO (toO (d + 1) s) (v :: e) f = evO (toO d s) e f := by
 cases s with
 | e l =>
  have hl := hlt l rfl
  show evO (.e (d + 1 - 1 - l)) (v :: e) f = evO (.e (d - 1 - l)) e f
  rw [evO_e,evO_e,show d + 1 - 1 - l = (d - 1 - l) + 1 by omega]
  rfl
 | f j => rfl
 | c u => rfl
theorem EnvR.push (E : EnvR D σ fn ns e f a N) {d : Nat} (hd : d < N) {v : AV} {x : Value} (hv : den σ v = some x) : EnvR D σ fn (ns.push (some d)) (v :: e) f (a.put (some d) x) N := by
 refine ⟨by simp [Act.put,E.sz],E.df,by simp [Ns.push,E.el],fun t l h => ?_,fun t s h u hu => ?_,fun t k h hk u hu => ?_⟩
 ·simp only [Ns.push,look_cons] at h ⊢
  split at h
  ·cases h; omega
  ·have := E.lt t l h; omega
 ·simp only [Ns.push,look_cons] at h hu
  simp only [Act.put]
  split at h
  ·rename_i e1; subst e1
   cases h
   have hu : evO (.e (ns.2 + 1 - 1 - ns.2)) (v :: e) f = some u := hu
   rw [evO_e,show ns.2 + 1 - 1 - ns.2 = 0 by omega] at hu
   simp only [List.getElem?_cons_zero,Option.some.injEq] at hu
   subst hu
   exact ⟨x,hv,by simp [E.sz,hd]⟩
  ·rename_i hne
   rw [toO_push E.el (fun l e1 => by subst e1; exact E.lt t l h)] at hu
   obtain ⟨y,h1,h2⟩ := E.nm t s h u hu
   exact ⟨y,h1,by rw [Array.getElem?_setIfInBounds_ne hne]; exact h2⟩
 ·simp only [Ns.push,look_cons] at h
  simp only [Act.put]
  split at h
  ·cases h
  ·rename_i hne
   obtain ⟨y,h1,h2⟩ := E.fr t k h hk u hu
   exact ⟨y,h1,by rw [Array.getElem?_setIfInBounds_ne hne]; exact h2⟩
theorem EnvR.alias (E : EnvR D σ fn ns e f a N) (G : GlOk σ) {d : Nat} (hd : d < N) {x : Operand} {s : Sr} (hs : cS fn ns x = some s) : EnvR D σ fn ((d,s) :: ns.1,ns.2) e f (a.put (some d) (a.eval x)) N := by
 have hO := E.op G
 refine ⟨by simp [Act.put,E.sz],E.df,E.el,fun t l h => ?_,fun t s' h u hu => ?_,fun t k h hk u hu => ?_⟩
 ·simp only [look_cons] at h
  split at h
  ·cases h
   cases x with
   | tmp t' =>
    simp only [cS] at hs
    split at hs
    ·rename_i hl; cases hs; exact E.lt _ _ hl
    ·split at hs <;> cases hs
   | const u => simp only [cS,Option.map_eq_some_iff] at hs; obtain ⟨_,_,h⟩ := hs; cases h
   | global g => rcases g with _ | _ | _ | g <;> simp [cS] at hs
   | func g => simp only [cS] at hs; cases hs
  ·exact E.lt t l h
 ·simp only [look_cons] at h
  simp only [Act.put]
  split at h
  ·rename_i e1; subst e1
   cases h
   exact ⟨_,hO x (toO ns.2 s) u (by simp only [cO,hs]) hu,by simp [E.sz,hd]⟩
  ·rename_i hne
   obtain ⟨y,h1,h2⟩ := E.nm t s' h u hu
   exact ⟨y,h1,by rw [Array.getElem?_setIfInBounds_ne hne]; exact h2⟩
 ·simp only [look_cons] at h
  simp only [Act.put]
  split at h
  ·cases h
  ·rename_i hne
   obtain ⟨y,h1,h2⟩ := E.fr t k h hk u hu
   exact ⟨y,h1,by rw [Array.getElem?_setIfInBounds_ne hne]; exact h2⟩
theorem EnvR.pushO (E : EnvR D σ fn ns e f a N) {d : Option Nat} (hd : dOk N d = true) {v : AV} {x : Value} (hv : den σ v = some x) : EnvR D σ fn (ns.push d) (Bool.rec (motive := fun _ => List AV) e (v :: e) d.isSome) f (a.put d x) N := by
 cases d with
 | none => exact E
 | some d => exact E.push (blt_iff.1 hd) hv
end
end Go.Proofs.YteajeenmojbjhaaGreatDoor.Ev
namespace Go.Proofs.YteajeenmojbjhaaGreatDoor.Ev
open Go Fw
theorem ro_ok {α : Type} {o : Option α} {F : α → RR} {f' : List AV} {h' : Hp} {nx' : Nat} (hh : ro o F = .ok f' h' nx') : ∃ x,o = some x ∧ F x = .ok f' h' nx' := by
 cases o with
 | none => cases hh
 | some x => exact ⟨x,rfl,hh⟩
theorem gr_ok {b : Bool} {r : RR} {f' : List AV} {h' : Hp} {nx' : Nat} (hh : gr b r = .ok f' h' nx') : b = true ∧ r = .ok f' h' nx' := by
 cases b with
 | false => cases hh
 | true => exact ⟨rfl,hh⟩
theorem lr_ok {l : LR} {F : AV → Nat → Nat → List AV → RR} {f' : List AV} {h' : Hp} {nx' : Nat} (hh : evR.lr l F = .ok f' h' nx') : ∃ v b off vs,l = .ok v b off vs ∧ F v b off vs = .ok f' h' nx' := by
 cases l with
 | no => cases hh
 | ok v b off vs => exact ⟨v,b,off,vs,rfl,hh⟩
theorem mr_ok {r : MR} {F : AV → Hp → Nat → RR} {f' : List AV} {h' : Hp} {nx' : Nat} (hh : evR.mr r F = .ok f' h' nx') : ∃ v h1 nx1,r = .ok v h1 nx1 ∧ F v h1 nx1 = .ok f' h' nx' := by
 cases r with
 | no => cases hh
 | ok v h1 nx1 => exact ⟨v,h1,nx1,rfl,hh⟩
theorem want_ok {g : Option AV} {w : Bool} {y z : RR} {f' : List AV} {h' : Hp} {nx' : Nat} (hh : want g w y z = .ok f' h' nx') : ∃ v,g = some v ∧ ((∃ b,v = .bool b ∧ (b == w) = true ∧ y = .ok f' h' nx') ∨ (∃ b,v = .bool b ∧ (b == w) = false ∧ z = .ok f' h' nx') ∨ (v = .undef ∧ z = .ok f' h' nx')) := by
 cases g with
 | none => cases hh
 | some v =>
  refine ⟨v,rfl,?_⟩
  cases v <;> first | (cases hh; done) | skip
  ·exact .inr (.inr ⟨rfl,hh⟩)
  ·rename_i b
   have hh : bif2 (beqBo b w) y z = .ok f' h' nx' := hh
   rw [bif2_if,beqBo_eq] at hh
   split at hh
   ·rename_i e; exact .inl ⟨b,rfl,e,hh⟩
   ·rename_i e; exact .inr (.inl ⟨b,rfl,by simpa using e,hh⟩)
def PinR (σ : Sg) (bad : List (Nat × Nat)) (ps : List Pin) (L : Pend) : Prop := ∀ p ∈ L,(∀ j,bad.contains (p.1,j) = false) ∨ ∃ b off vs,Pin.mk p.1 b off vs ∈ ps ∧ PinC σ b off vs p.2
theorem PinR.ext {σ σ' : Sg} {bad : List (Nat × Nat)} {ps : List Pin} {L : Pend} (h : PinR σ bad ps L) (he : Ext σ σ') : PinR σ' bad ps L := fun p hp =>
 (h p hp).imp id fun ⟨b,off,vs,h1,h2⟩ => ⟨b,off,vs,h1,fun σ'' h' w0' w' he' => h2 σ'' h' w0' w' (he.trans he')⟩
theorem PinR.nil {σ : Sg} {bad : List (Nat × Nat)} {ps : List Pin} : PinR σ bad ps [] := fun p hp => by cases hp
theorem mem_iff {k : Nat} {l : List Nat} : pinOk.mem k l = true ↔ k ∈ l := by
 induction l with
 | nil => simp [pinOk.mem]
 | cons x l ih =>
  have e : pinOk.mem k (x :: l) = Bool.rec (motive := fun _ => Bool) (pinOk.mem k l) true (Nat.beq x k) := rfl
  rw [e]
  cases h : Nat.beq x k with
  | true => rw [beq_iff] at h; simp [h]
  | false =>
   have : x ≠ k := fun e => by rw [← beq_iff,h] at e; cases e
   simp only [List.mem_cons]
   rw [ih]
   exact ⟨.inr,fun h => h.resolve_left (fun e => this e.symm)⟩
theorem pin_ok {bl : List Nat} {h : Hp} : ∀ {ps : List Pin},pinOk bl h ps = true → ∀ k b off vs,Pin.mk k b off vs ∈ ps → k ∈ bl → rdN b off vs.length h = some vs
 | [],_,_,_,_,_,hm,_ => by cases hm
 | .mk k' b' off' vs' :: ps,hp,k,b,off,vs,hm,hk => by
  have hp : Bool.rec (motive := fun _ => Bool) false (pinOk bl h ps) (Bool.rec (motive := fun _ => Bool) true (Option.rec (motive := fun _ => Bool) false (fun us => beqVs us vs') (rdN b' off' (len2 vs') h)) (pinOk.mem k' bl)) = true := hp
  cases hc : (Bool.rec (motive := fun _ => Bool) true (Option.rec (motive := fun _ => Bool) false (fun us => beqVs us vs') (rdN b' off' (len2 vs') h)) (pinOk.mem k' bl) : Bool) with
  | false => rw [hc] at hp; cases hp
  | true =>
   rw [hc] at hp
   rcases List.mem_cons.1 hm with e | hm
   ·cases e
    rw [mem_iff.2 hk] at hc
    rw [len2_eq] at hc
    cases hr : rdN b' off' vs'.length h with
    | none => rw [hr] at hc; cases hc
    | some us =>
     rw [hr] at hc
     rw [beqVs_eq hc]
   ·exact pin_ok hp k b off vs hm hk
theorem bads_mem {bad : List (Nat × Nat)} {i k : Nat} (h : bad.contains (i,k) = true) : i ∈ bads bad k := by
 unfold bads
 refine List.mem_map.2 ⟨(i,k),List.mem_filter.2 ⟨by simpa using h,?_⟩,rfl⟩
 rw [beq_iff]
theorem pins_false {bad : List (Nat × Nat)} {k : Nat} (h : pins bad k = false) : ∀ j,bad.contains (k,j) = false := fun j => by
 cases hc : bad.contains (k,j) with
 | false => rfl
 | true =>
  exfalso
  unfold pins at h
  have : (k,j) ∈ bad := by simpa using hc
  rw [List.any_eq_false] at h
  exact h _ this (beq_iff.2 rfl)
section
variable {D : List Deferred} {P : Program} {tt : Nat → Option TI} {call : Nat → List AV → Hp → Nat → MR} {pf : Nat → List AV → Option AV} {prim : Nat → Bool} {inv : String → List (Nat × Nat)}
variable {σ : Sg} {fn : List Nat} {ns : Ns} {e f f' : List AV} {a : Act} {N base nx nx' k : Nat} {h h' : Hp} {w0 w : World} {ops : List Oper} {bad : List (Nat × Nat)} {X : List Nat} {ps : List Pin} {L : Pend} {K : Pend → Act → World → Prop} {r : RI}
theorem pend_of {h1 : Hp} {w' : World} {σ' : Sg} (hp : PinR σ bad ps L) (he : Ext σ σ') (hL : Lay σ' h1 w0 w') (hok : pinOk (bads bad k) h1 ps = true) : pend bad k L w' := fun p hm hb => by
 rcases hp p hm with h | ⟨b,off,vs,h1,h2⟩
 ·rw [h k] at hb; cases hb
 ·exact h2 _ _ _ _ he hL (pin_ok hok _ _ _ _ h1 (bads_mem hb))
theorem wanted_run (hO : OpR σ fn ns e f a) {o : Oper} {j : Nat} {wt : Bool} (hg : o.guard = some (j,wt)) {g : O} (hgo : gO fn ops ns j = some g) {v : AV} (hv : evO g e f = some v) :
  (∀ b,v = .bool b → Region.wanted o (yielded ops.toArray a.tmps) = (b == wt)) ∧ (v = .undef → Region.wanted o (yielded ops.toArray a.tmps) = false) := by
 unfold gO at hgo
 rw [nth_eq] at hgo
 split at hgo
 ·rename_i oj hoj
  split at hgo
  ·rename_i d hd
   have hden := hO _ _ _ hgo hv
   have hy : yielded ops.toArray a.tmps j = match a.tmps[d]? with | some (.bool b) => some b | _ => none := by
    unfold yielded
    simp [hoj,hd]
    rfl
   have hev : a.eval (.tmp d) = (a.tmps[d]?).getD undef := by simp [Act.eval]
   refine ⟨fun b e => ?_,fun e => ?_⟩
   ·subst e
    have hb := den_bool hden
    rw [hev] at hb
    have : a.tmps[d]? = some (.bool b) := by
     cases ht : a.tmps[d]? with
     | none => rw [ht] at hb; cases hb
     | some x => rw [ht] at hb; simp at hb; rw [hb]
    unfold Region.wanted
    rw [hg]
    show (yielded ops.toArray a.tmps j == some wt) = _
    rw [hy,this]
    cases b <;> cases wt <;> rfl
   ·subst e
    have hb : a.eval (.tmp d) = .tuple #[] := by simp only [den,Option.some.injEq] at hden; exact hden.symm
    rw [hev] at hb
    unfold Region.wanted
    rw [hg]
    show (yielded ops.toArray a.tmps j == some wt) = _
    rw [hy]
    cases ht : a.tmps[d]? with
    | none => cases wt <;> rfl
    | some x => rw [ht] at hb; simp at hb; subst hb; cases wt <;> rfl
  ·cases hgo
 ·cases hgo
theorem cStep_run (T : Tabs P tt) (hC : CallOk P call w0) (hP : PrimOk P pf w0) (hI : InvOk P inv) (hG : GlOk σ) {rest0 : List Nat → Ns → Option RI} (hc : cStep tt prim inv fn N ops bad k X ns rest0 = some r)
  (E : EnvR D σ fn ns e f a N) (hL : Lay σ h w0 w) (F : Fresh σ base ops.length X nx) (hpin : PinR σ bad ps L) (hr : evR call pf base r e f h nx ps = .ok f' h' nx')
  (hK : ∀ (σ' : Sg) (ns' : Ns) (e' : List AV) (h1 : Hp) (nx1 : Nat) (ps' : List Pin) (L' : Pend) (a' : Act) (w' : World) (r' : RI),Ext σ σ' → (∀ b,b < base → σ' b = σ b) → rest0 (k :: X) ns' = some r' → EnvR D σ' fn ns' e' f a' N → Lay σ' h1 w0 w' → Fresh σ' base ops.length (k :: X) nx1 → PinR σ' bad ps' L' → evR call pf base r' e' f h1 nx1 ps' = .ok f' h' nx' → K L' a' w') :
  Fw.stepT P ops (ops.map fun o => clsOf tt o.op) bad k L K a w := by
 have hO := E.op hG
 unfold cStep at hc
 simp only at hc
 unfold Fw.stepT
 split at hc
 ·cases hc
 ·rename_i o ho
  rw [ho]
  simp only
  have hklt : k < ops.length := by rw [nth_eq] at ho; exact (List.getElem?_eq_some_iff.1 ho).1
  have hcl : nth (ops.map fun o => clsOf tt o.op) k = some (clsOf tt o.op) := by rw [nth_eq] at ho ⊢; simp [ho]
  rw [hcl]
  split at hc
  ·cases hc
  ·rename_i hXd
   simp only [Bool.or_eq_false_iff,Bool.not_eq_false'] at hXd
   obtain ⟨hX0,hdst⟩ := hXd
   have hX : k ∉ X := fun hm => by
    rw [List.any_eq_false] at hX0
    exact hX0 k hm (beq_iff.2 rfl)
   obtain ⟨dst,op,ty,pos,af,gd0⟩ := o
   simp only at hc hdst ⊢
   have skip : ∀ (d : Option Nat) (r' : RI),dst = d → rest0 (k :: X) (ns.push d) = some r' → evR call pf base r' (Bool.rec (motive := fun _ => List AV) e (.undef :: e) d.isSome) f h nx ps = .ok f' h' nx' → K L (a.put dst undef) w := fun d r' e1 h1 h2 => by
    subst e1
    exact hK σ _ _ h nx ps L _ w r' (Ext.refl _) (fun _ _ => rfl) h1 (E.pushO hdst (by simp only [den,undef])) hL F.skip.fr hpin h2
   split at hc
   ·
    rename_i d hcls
    have hw : Region.wanted ⟨some d,op,ty,pos,af,none⟩ (yielded ops.toArray a.tmps) = true := rfl
    rw [if_pos hw,hcls]
    simp only
    split at hc
    ·rename_i x hmv
     split at hc
     ·rename_i s hs
      have hx : ∀ w',(execOp a.eval ⟨some d,op,ty,pos,af,none⟩).run P w' = .ok (.value (a.eval x)) w' := fun w' => by
       unfold isMv at hmv
       split at hmv <;> cases hmv <;> simp [execOp]
      exact ⟨_,hx,hK σ _ e h nx ps L _ w r (Ext.refl _) (fun _ _ => rfl) hc (E.alias hG (blt_iff.1 hdst) hs) hL F.skip.fr hpin hr⟩
     ·cases hc
    ·split at hc
     ·rename_i x r' hx hr'
      cases hc
      have hr : ro (evX x e f) (fun v => evR call pf base r' (v :: e) f h nx ps) = .ok f' h' nx' := hr
      obtain ⟨v,h1,h2⟩ := ro_ok hr
      obtain ⟨u,hu,hrun⟩ := cX_run T hO hx h1
      exact ⟨u,fun w' => hrun _ _ _ _ _ w',hK σ _ _ h nx ps L _ w r' (Ext.refl _) (fun _ _ => rfl) hr' (E.push (blt_iff.1 hdst) hu) hL F.skip.fr hpin h2⟩
     ·cases hc
   ·
    rename_i d j wt hcls
    split at hc
    ·rename_i g x r' hg hx hr'
     cases hc
     have hr : want (evO g e f) wt (ro (evX x e f) fun v => evR call pf base r' (v :: e) f h nx ps) (evR call pf base r' (.undef :: e) f h nx ps) = .ok f' h' nx' := hr
     obtain ⟨v,h1,h2⟩ := want_ok hr
     obtain ⟨wb,wu⟩ := wanted_run (o := ⟨some d,op,ty,pos,af,some (j,wt)⟩) hO rfl hg h1
     rcases h2 with ⟨b,rfl,hb,h3⟩ | ⟨b,rfl,hb,h3⟩ | ⟨rfl,h3⟩
     ·rw [if_pos (by rw [wb b rfl]; exact hb),hcls]
      obtain ⟨v,h4,h5⟩ := ro_ok h3
      obtain ⟨u,hu,hrun⟩ := cX_run T hO hx h4
      exact ⟨u,fun w' => hrun _ _ _ _ _ w',hK σ _ _ h nx ps L _ w r' (Ext.refl _) (fun _ _ => rfl) hr' (E.push (blt_iff.1 hdst) hu) hL F.skip.fr hpin h5⟩
     ·rw [if_neg (by rw [wb b rfl,hb]; simp)]
      exact skip (some d) r' rfl hr' h3
     ·rw [if_neg (by rw [wu rfl]; simp)]
      exact skip (some d) r' rfl hr' h3
    ·cases hc
   ·
    rename_i d hcls
    split at hc
    ·rename_i l r' hl hr'
     cases hc
     have hw : Region.wanted ⟨some d,op,ty,pos,af,none⟩ (yielded ops.toArray a.tmps) = true := rfl
     rw [if_pos hw,hcls]
     simp only
     have hr : evR.lr (evL l e f h) (fun v b off vs => evR call pf base r' (v :: e) f h nx (Bool.rec (motive := fun _ => List Pin) ps (.mk k b off vs :: ps) (pins bad k))) = .ok f' h' nx' := hr
     obtain ⟨v,b,off,vs,h1,h2⟩ := lr_ok hr
     obtain ⟨u,C,hu,hst,hCw,hpc,hrun⟩ := cL_run T hO hL hl h1
     refine ⟨u,C,hst,hCw,fun w' hw' => ?_,hK σ _ _ h nx _ _ _ w r' (Ext.refl _) (fun _ _ => rfl) hr' (E.push (blt_iff.1 hdst) hu) hL F.skip.fr ?_ h2⟩
     ·unfold Still
      rw [hrun _ _ _ _ _ w' hw']
      exact ⟨rfl,0,rfl⟩
     ·intro p hp
      rcases List.mem_cons.1 hp with rfl | hp
      ·cases hpp : pins bad k with
       | true => exact .inr ⟨b,off,vs,List.mem_cons_self,hpc⟩
       | false => exact .inl (pins_false hpp)
      ·refine (hpin p hp).imp id fun ⟨b',off',vs',k1,k2⟩ => ⟨b',off',vs',?_,k2⟩
       cases hpp : pins bad k with
       | true => exact List.mem_cons_of_mem _ k1
       | false => exact k1
    ·cases hc
   ·
    rename_i d j wt hcls
    split at hc
    ·rename_i g l r' hg hl hr'
     cases hc
     have hr : want (evO g e f) wt (evR.lr (evL l e f h) (fun v b off vs => evR call pf base r' (v :: e) f h nx (Bool.rec (motive := fun _ => List Pin) ps (.mk k b off vs :: ps) (pins bad k)))) (evR call pf base r' (.undef :: e) f h nx ps) = .ok f' h' nx' := hr
     obtain ⟨v,h1,h2⟩ := want_ok hr
     obtain ⟨wb,wu⟩ := wanted_run (o := ⟨some d,op,ty,pos,af,some (j,wt)⟩) hO rfl hg h1
     rcases h2 with ⟨b,rfl,hb,h3⟩ | ⟨b,rfl,hb,h3⟩ | ⟨rfl,h3⟩
     ·rw [if_pos (by rw [wb b rfl]; exact hb),hcls]
      simp only
      obtain ⟨v,b,off,vs,h4,h5⟩ := lr_ok h3
      obtain ⟨u,C,hu,hst,hCw,hpc,hrun⟩ := cL_run T hO hL hl h4
      refine ⟨u,C,hst,hCw,fun w' hw' => ?_,hK σ _ _ h nx _ _ _ w r' (Ext.refl _) (fun _ _ => rfl) hr' (E.push (blt_iff.1 hdst) hu) hL F.skip.fr ?_ h5⟩
      ·unfold Still
       rw [hrun _ _ _ _ _ w' hw']
       exact ⟨rfl,0,rfl⟩
      ·intro p hp
       rcases List.mem_cons.1 hp with rfl | hp
       ·cases hpp : pins bad k with
        | true => exact .inr ⟨b,off,vs,List.mem_cons_self,hpc⟩
        | false => exact .inl (pins_false hpp)
       ·refine (hpin p hp).imp id fun ⟨b',off',vs',k1,k2⟩ => ⟨b',off',vs',?_,k2⟩
        cases hpp : pins bad k with
        | true => exact List.mem_cons_of_mem _ k1
        | false => exact k1
     ·rw [if_neg (by rw [wb b rfl,hb]; simp)]
      exact skip (some d) r' rfl hr' h3
     ·rw [if_neg (by rw [wu rfl]; simp)]
      exact skip (some d) r' rfl hr' h3
    ·cases hc
   ·
    rename_i dst _ _ _ hcls
    split at hc
    ·rename_i m r' hm hr'
     cases hc
     have hw : Region.wanted ⟨dst,op,ty,pos,af,none⟩ (yielded ops.toArray a.tmps) = true := rfl
     rw [if_pos hw,hcls]
     simp only
     have hr : evR.mr (evM call pf m (base + k) e f h nx) (fun v h1 nx1 => gr (pinOk (bads bad k) h1 ps) (evR call pf base r' (Bool.rec (motive := fun _ => List AV) e (v :: e) dst.isSome) f h1 nx1 ps)) = .ok f' h' nx' := hr
     obtain ⟨v,h1,nx1,h2,h3⟩ := mr_ok hr
     obtain ⟨h4,h5⟩ := gr_ok h3
     intro n
     refine (cM_run hG T hO hC hP hI hm v h1 nx1 h2 (w.drewN n) (hL.drewN n) F hklt hX dst ty pos af none).mono ?_
     rintro u w' ⟨σ',he,hu,hL',hA⟩
     exact ⟨pend_of hpin he hL' h4,hK σ' _ _ h1 nx1 ps L _ w' r' he hA.low hr' ((E.ext he).pushO hdst hu) hL' hA.fr (hpin.ext he) h5⟩
    ·cases hc
   ·rename_i dst _ _ _ j wt hcls
    split at hc
    ·rename_i g m r' hg hm hr'
     cases hc
     have hr : want (evO g e f) wt (evR.mr (evM call pf m (base + k) e f h nx) (fun v h1 nx1 => gr (pinOk (bads bad k) h1 ps) (evR call pf base r' (Bool.rec (motive := fun _ => List AV) e (v :: e) dst.isSome) f h1 nx1 ps))) (evR call pf base r' (Bool.rec (motive := fun _ => List AV) e (.undef :: e) dst.isSome) f h nx ps) = .ok f' h' nx' := hr
     obtain ⟨v,h1,h2⟩ := want_ok hr
     obtain ⟨wb,wu⟩ := wanted_run (o := ⟨dst,op,ty,pos,af,some (j,wt)⟩) hO rfl hg h1
     rcases h2 with ⟨b,rfl,hb,h3⟩ | ⟨b,rfl,hb,h3⟩ | ⟨rfl,h3⟩
     ·rw [if_pos (by rw [wb b rfl]; exact hb),hcls]
      simp only
      obtain ⟨v,h1',nx1,h4,h5⟩ := mr_ok h3
      obtain ⟨h6,h7⟩ := gr_ok h5
      intro n
      refine (cM_run hG T hO hC hP hI hm v h1' nx1 h4 (w.drewN n) (hL.drewN n) F hklt hX dst ty pos af (some (j,wt))).mono ?_
      rintro u w' ⟨σ',he,hu,hL',hA⟩
      exact ⟨pend_of hpin he hL' h6,hK σ' _ _ h1' nx1 ps L _ w' r' he hA.low hr' ((E.ext he).pushO hdst hu) hL' hA.fr (hpin.ext he) h7⟩
     ·rw [if_neg (by rw [wb b rfl,hb]; simp)]
      exact skip dst r' rfl hr' h3
     ·rw [if_neg (by rw [wu rfl]; simp)]
      exact skip dst r' rfl hr' h3
    ·cases hc
   ·cases hc
end
end Go.Proofs.YteajeenmojbjhaaGreatDoor.Ev
namespace Go.Proofs.YteajeenmojbjhaaGreatDoor.Ev
open Go Fw
theorem beqBl_eq {a b : Bl} (h : beqBl a b = true) : a = b := by
 cases a <;> cases b <;> first | (cases h; done) | skip
 all_goals
  have h : band (Nat.beq _ _) (band (Nat.beq _ _) (beqVs _ _)) = true := h
  simp only [band_true,beq_iff] at h
  rw [h.1,h.2.1,beqVs_eq h.2.2]
theorem beqHp_eq : ∀ {a b : Hp},beqHp a b = true → a = b := by
 intro a
 induction a with
 | nil => intro b h; cases b <;> first | rfl | cases h
 | cons q o t ih =>
  intro b h
  cases b with
  | nil => cases h
  | cons q' o' t' =>
   have h : band (Nat.beq q q') (band (beqBl o o') (beqHp t t')) = true := h
   simp only [band_true,beq_iff] at h
   rw [h.1,beqBl_eq h.2.1,ih h.2.2]
theorem both_ok {a b : RR} {f' : List AV} {h' : Hp} {nx' : Nat} (hh : evR.both a b = .ok f' h' nx') : a = .ok f' h' nx' ∧ b = .ok f' h' nx' := by
 unfold evR.both at hh
 rw [bif2_if] at hh
 split at hh
 ·rename_i e
  subst hh
  refine ⟨rfl,?_⟩
  cases b with
  | no => cases e
  | ok f2 h2 nx2 =>
   have e : band (beqVs f' f2) (band (Nat.beq nx' nx2) (beqHp h' h2)) = true := e
   simp only [band_true,beq_iff] at e
   rw [beqVs_eq e.1,e.2.1,beqHp_eq e.2.2]
 ·cases hh
theorem moves_run {ns : Ns} {e f : List AV} : ∀ {l : List Nat} {g g' : List AV},moves e f (endMv ns l) g = some g' → ∀ (k t : Nat) (v : AV),l[k]? = some t → g'[k]? = some v →
  (look t ns.1 = none ∧ g[k]? = some v) ∨ ∃ s,look t ns.1 = some s ∧ evO (toO ns.2 s) e f = some v
 | [],_,_,_,k,t,v,h,_ => by cases h
 | s :: l,g,g',hm,k,t,v,hl,hv => by
  unfold endMv at hm
  have skip : ∀ {mv : List (Option O)} {x : AV} {g0 g1 : List AV},endMv ns l = mv → moves e f mv g0 = some g1 → ∀ k,(s :: l)[k + 1]? = some t → (g1)[k]? = some v → (look t ns.1 = none ∧ (x :: g0)[k + 1]? = some v) ∨ ∃ s,look t ns.1 = some s ∧ evO (toO ns.2 s) e f = some v := fun {mv x g0 g1} h0 h1 k h2 h3 => by
   subst h0
   exact moves_run h1 k t v h2 h3
  split at hm
  ·rename_i h1 h2
   have hm : some g = some g' := hm
   cases hm
   cases k with
   | zero =>
    simp only [List.getElem?_cons_zero,Option.some.injEq] at hl
    subst hl
    exact .inl ⟨h1,hv⟩
   | succ k =>
    cases g with
    | nil => cases hv
    | cons x g => exact skip h2 rfl k hl hv
  ·rename_i h1 _
   cases g with
   | nil => cases hm
   | cons x g =>
    have hm : (ob (moves e f (endMv ns l) g) fun r => some (x :: r)) = some g' := hm
    obtain ⟨r,h3,h4⟩ := ob_some.1 hm
    cases h4
    cases k with
    | zero =>
     simp only [List.getElem?_cons_zero,Option.some.injEq] at hl hv
     subst hl; subst hv
     exact .inl ⟨h1,rfl⟩
    | succ k => exact skip rfl h3 k hl hv
  ·rename_i y h1
   cases g with
   | nil => cases hm
   | cons x g =>
    have hm : (ob (moves e f (endMv ns l) g) fun r => ob (evO (toO ns.2 y) e f) fun v => some (v :: r)) = some g' := hm
    obtain ⟨r,h3,h4⟩ := ob_some.1 hm
    obtain ⟨u,h5,h6⟩ := ob_some.1 h4
    cases h6
    cases k with
    | zero =>
     simp only [List.getElem?_cons_zero,Option.some.injEq] at hl hv
     subst hl; subst hv
     exact .inr ⟨y,h1,h5⟩
    | succ k => exact skip rfl h3 k hl hv
theorem idx_get {t : Nat} : ∀ {l : List Nat} {k : Nat},idx t l = some k → l[k]? = some t
 | [],_,h => by cases h
 | x :: l,k,h => by
  simp only [idx] at h
  split at h
  ·rename_i e
   cases h
   rw [beq_iff] at e
   simp [e]
  ·split at h
   ·rename_i k' hk
    cases h
    simpa using idx_get hk
   ·cases h
theorem EnvR.done {D : List Deferred} {σ : Sg} {fn : List Nat} {ns : Ns} {e f f' : List AV} {a : Act} {N : Nat} (E : EnvR D σ fn ns e f a N) (h : moves e f (endMv ns fn) f = some f') : EnvR D σ fn ([],0) [] f' a N :=
 ⟨E.sz,E.df,rfl,fun _ _ h => (by cases h),fun _ _ h => (by cases h),fun t k _ hk v hv => by
  rcases moves_run h k t v (idx_get hk) hv with ⟨h1,h2⟩ | ⟨s,h1,h2⟩
  ·exact E.fr t k h1 hk v h2
  ·exact E.nm t s h1 v h2⟩
def Out (D : List Deferred) (P : Program) (σ0 : Sg) (fn : List Nat) (N : Nat) (w0 : World) (base : Nat) (f' : List AV) (h' : Hp) (nx' : Nat) (a : Act) (w : World) : Prop :=
 ∃ σ,Ext σ0 σ ∧ EnvR D σ fn ([],0) [] f' a N ∧ Lay σ h' w0 w ∧ (∀ b,nx' ≤ b → σ b = none) ∧ base ≤ nx' ∧ ∀ b,b < base → σ b = σ0 b
section
variable {D : List Deferred} {P : Program} {tt : Nat → Option TI} {call : Nat → List AV → Hp → Nat → MR} {pf : Nat → List AV → Option AV} {prim : Nat → Bool} {inv : String → List (Nat × Nat)}
variable {σ0 : Sg} {fn : List Nat} {f f' : List AV} {N base nx' : Nat} {h' : Hp} {w0 : World} {ops : List Oper} {bad : List (Nat × Nat)}
theorem cR_run (T : Tabs P tt) (hC : CallOk P call w0) (hP : PrimOk P pf w0) (hI : InvOk P inv) : ∀ (t : Ot) {σ : Sg} {ns : Ns} {e : List AV} {a : Act} {nx : Nat} {h : Hp} {w : World} {X : List Nat} {ps : List Pin} {L : Pend} {r : RI},
  cR tt prim inv fn N ops bad t X ns = some r → GlOk σ → Ext σ0 σ → (∀ b,b < base → σ b = σ0 b) → EnvR D σ fn ns e f a N → Lay σ h w0 w → Fresh σ base ops.length X nx → PinR σ bad ps L → evR call pf base r e f h nx ps = .ok f' h' nx' →
  trunT P ops (ops.map fun o => clsOf tt o.op) bad (Out D P σ0 fn N w0 base f' h' nx') t L a w
 | .done,σ,ns,e,a,nx,h,w,X,ps,L,r,hc,hG,hx,hb,E,hL,F,hp,hr => by
  cases hc
  have hr : ro (moves e f (endMv ns fn) f) (fun f' => .ok f' h nx) = .ok f' h' nx' := hr
  obtain ⟨g,h1,h2⟩ := ro_ok hr
  cases h2
  exact fun n => ⟨σ,hx,E.done h1,hL.drewN n,F.hi,by have := F.le; omega,hb⟩
 | .one k t,σ,ns,e,a,nx,h,w,X,ps,L,r,hc,hG,hx,hb,E,hL,F,hp,hr =>
  cStep_run T hC hP hI hG hc E hL F hp hr fun σ' ns' e' h1 nx1 ps' L' a' w' r' he hb' hc' E' hL' F' hp' hr' =>
   cR_run T hC hP hI t hc' (hG.ext he) (hx.trans he) (fun b h => (hb' b h).trans (hb b h)) E' hL' F' hp' hr'
 | .two x y tx ty,σ,ns,e,a,nx,h,w,X,ps,L,r,hc,hG,hx,hb,E,hL,F,hp,hr => by
  simp only [cR] at hc
  split at hc
  ·rename_i ra rb ha hb0
   cases hc
   have hr : evR.both (evR call pf base ra e f h nx ps) (evR call pf base rb e f h nx ps) = .ok f' h' nx' := hr
   obtain ⟨h1,h2⟩ := both_ok hr
   exact ⟨cStep_run T hC hP hI hG ha E hL F hp h1 fun σ' ns' e' h1 nx1 ps' L' a' w' r' he hb' hc' E' hL' F' hp' hr' =>
    cR_run T hC hP hI tx hc' (hG.ext he) (hx.trans he) (fun b h => (hb' b h).trans (hb b h)) E' hL' F' hp' hr',
    cStep_run T hC hP hI hG hb0 E hL F hp h2 fun σ' ns' e' h1 nx1 ps' L' a' w' r' he hb' hc' E' hL' F' hp' hr' =>
    cR_run T hC hP hI ty hc' (hG.ext he) (hx.trans he) (fun b h => (hb' b h).trans (hb b h)) E' hL' F' hp' hr'⟩
  ·cases hc
 | .alt x tx t,σ,ns,e,a,nx,h,w,X,ps,L,r,hc,hG,hx,hb,E,hL,F,hp,hr => by
  simp only [cR] at hc
  split at hc
  ·rename_i ra rb ha hb0
   cases hc
   have hr : evR.both (evR call pf base ra e f h nx ps) (evR call pf base rb e f h nx ps) = .ok f' h' nx' := hr
   obtain ⟨h1,h2⟩ := both_ok hr
   exact ⟨cStep_run T hC hP hI hG ha E hL F hp h1 fun σ' ns' e' h1 nx1 ps' L' a' w' r' he hb' hc' E' hL' F' hp' hr' =>
    cR_run T hC hP hI tx hc' (hG.ext he) (hx.trans he) (fun b h => (hb' b h).trans (hb b h)) E' hL' F' hp' hr',
    cR_run T hC hP hI t hb0 hG hx hb E hL F hp h2⟩
  ·cases hc
end
end Go.Proofs.YteajeenmojbjhaaGreatDoor.Ev
namespace Go.Proofs.YteajeenmojbjhaaGreatDoor.Ev
open Go Fw
theorem trunT_mono {P : Program} {ops : List Oper} {cl : List Cls} {bad : List (Nat × Nat)} {Q Q' : Act → World → Prop} (h : ∀ a w,Q a w → Q' a w) : ∀ (t : Ot) {L L' : Pend} {a : Act} {w : World},Less L' L → trunT P ops cl bad Q t L a w → trunT P ops cl bad Q' t L' a w
 | .done,_,_,_,_,_,hh => fun n => h _ _ (hh n)
 | .one k t,_,_,_,_,hl,hh => by
  simp only [trunT] at hh ⊢
  exact stepT_mono P ops cl bad (K := trunT P ops cl bad Q t) (K' := trunT P ops cl bad Q' t) hl (fun _ _ _ _ hM hK => trunT_mono h t hM hK) hh
 | .two x y tx ty,_,_,_,_,hl,hh => by
  simp only [trunT] at hh ⊢
  exact ⟨stepT_mono P ops cl bad (K := trunT P ops cl bad Q tx) (K' := trunT P ops cl bad Q' tx) hl (fun _ _ _ _ hM hK => trunT_mono h tx hM hK) hh.1,stepT_mono P ops cl bad (K := trunT P ops cl bad Q ty) (K' := trunT P ops cl bad Q' ty) hl (fun _ _ _ _ hM hK => trunT_mono h ty hM hK) hh.2⟩
 | .alt x tx t,_,_,_,_,hl,hh => by
  simp only [trunT] at hh ⊢
  exact ⟨stepT_mono P ops cl bad (K := trunT P ops cl bad Q tx) (K' := trunT P ops cl bad Q' tx) hl (fun _ _ _ _ hM hK => trunT_mono h tx hM hK) hh.1,trunT_mono h t hl hh.2⟩
section
variable {D : List Deferred} {P : Program} {fn : List Nat} {N : Nat} {w0 : World}
theorem Out.trans {σ0 σ : Sg} {base nx nx' : Nat} {f' : List AV} {h' : Hp} {a : Act} {w : World} (hx : Ext σ0 σ) (hb : base ≤ nx) (hl : ∀ b,b < base → σ b = σ0 b) (h : Out D P σ fn N w0 nx f' h' nx' a w) : Out D P σ0 fn N w0 base f' h' nx' a w := by
 obtain ⟨σ',h1,h2,h3,h4,h5,h6⟩ := h
 exact ⟨σ',hx.trans h1,h2,h3,h4,Nat.le_trans hb h5,fun b hb' => (h6 b (by omega)).trans (hl b hb')⟩
def CPost (D : List Deferred) (P : Program) (σ0 : Sg) (fn : List Nat) (N : Nat) (w0 : World) (base : Nat) (r : CR) : Exit → Act → World → Prop
 | .normal,a,w => ∃ f h nx,r = .norm f h nx ∧ Out D P σ0 fn N w0 base f h nx a w
 | .exit id,a,w => ∃ f h nx,r = .exit id f h nx ∧ Out D P σ0 fn N w0 base f h nx a w
 | .ret,a,w => ∃ f h nx,r = .ret f h nx ∧ Out D P σ0 fn N w0 base f h nx a w
 | .goto l,a,w => ∃ f h nx,r = .goto l f h nx ∧ Out D P σ0 fn N w0 base f h nx a w
 | _,_,_ => False
theorem CPost.trans {σ0 σ : Sg} {base nx : Nat} {r : CR} (hx : Ext σ0 σ) (hb : base ≤ nx) (hl : ∀ b,b < base → σ b = σ0 b) {e : Exit} {a : Act} {w : World} (h : CPost D P σ fn N w0 nx r e a w) : CPost D P σ0 fn N w0 base r e a w := by
 cases e <;> first | exact h | (obtain ⟨f,h,nx1,h1,h2⟩ := h; exact ⟨f,h,nx1,h1,h2.trans hx hb hl⟩)
theorem CPost.cs {σ0 σ : Sg} {base nx : Nat} {r1 : CR} {k : List AV → Hp → Nat → CR} {K : Act → World → Prop} (hx : Ext σ0 σ) (hb : base ≤ nx) (hl : ∀ b,b < base → σ b = σ0 b) {e : Exit} {a : Act} {w : World} (h : CPost D P σ fn N w0 nx r1 e a w)
  (hk : ∀ f h nx a w,r1 = .norm f h nx → Out D P σ0 fn N w0 base f h nx a w → K a w) : Exit.then K (CPost D P σ0 fn N w0 base (evC.cs r1 k)) e a w := by
 cases e with
 | normal => obtain ⟨f,h,nx1,h1,h2⟩ := h; exact hk f h nx1 a w h1 (h2.trans hx hb hl)
 | exit id => obtain ⟨f,h,nx1,h1,h2⟩ := h; subst h1; exact ⟨f,h,nx1,rfl,h2.trans hx hb hl⟩
 | ret => obtain ⟨f,h,nx1,h1,h2⟩ := h; subst h1; exact ⟨f,h,nx1,rfl,h2.trans hx hb hl⟩
 | goto l => obtain ⟨f,h,nx1,h1,h2⟩ := h; subst h1; exact ⟨f,h,nx1,rfl,h2.trans hx hb hl⟩
 | panic c => exact h.elim
 | outgrown => exact h.elim
theorem cs_no {r1 : CR} {k : List AV → Hp → Nat → CR} (h : evC.cs r1 k ≠ .no) : r1 ≠ .no := fun e => h (by subst e; rfl)
theorem ag_no {l : Nat} {r1 : CR} {k : List AV → Hp → Nat → CR} (h : evC.ag l r1 k ≠ .no) : r1 ≠ .no := fun e => h (by subst e; rfl)
theorem blk_no {l : Nat} {r1 : CR} (h : evC.blk l r1 ≠ .no) : r1 ≠ .no := fun e => h (by subst e; rfl)
theorem CPost.blk {σ0 : Sg} {base id : Nat} {r1 : CR} {e : Exit} {a : Act} {w : World} (h : CPost D P σ0 fn N w0 base r1 e a w) : Exit.inBlock id (CPost D P σ0 fn N w0 base (evC.blk id r1)) e a w := by
 cases e with
 | normal => obtain ⟨f,h,nx1,h1,h2⟩ := h; subst h1; exact ⟨f,h,nx1,rfl,h2⟩
 | exit i =>
  obtain ⟨f,h,nx1,h1,h2⟩ := h; subst h1
  have e1 : evC.blk id (.exit i f h nx1) = bif2 (Nat.beq i id) (.norm f h nx1) (.exit i f h nx1) := rfl
  rw [e1,bif2_if]
  simp only [Exit.inBlock,beq_iff]
  by_cases hi : i = id
  ·rw [if_pos hi,if_pos hi]; exact ⟨f,h,nx1,rfl,h2⟩
  ·rw [if_neg hi,if_neg hi]; exact ⟨f,h,nx1,rfl,h2⟩
 | ret => obtain ⟨f,h,nx1,h1,h2⟩ := h; subst h1; exact ⟨f,h,nx1,rfl,h2⟩
 | goto l => obtain ⟨f,h,nx1,h1,h2⟩ := h; subst h1; exact ⟨f,h,nx1,rfl,h2⟩
 | panic c => exact h.elim
 | outgrown => exact h.elim
def jr (P : Program) (c : Code) (l : Nat) (Q : Exit → Act → World → Prop) : Nat → Act → World → Prop
 | 0,_,_ => False
 | n + 1,a,w => c.wp P (Exit.jump l (jr P c l Q n) Q) a w
theorem wp_scope_again {c : Code} {l : Nat} {Q : Exit → Act → World → Prop} {a : Act} {w : World} (n : Nat) (h : jr P c l Q n a w) : (Code.scope (.seq (.label l) c)).wp P Q a w := by
 intro b k cs
 have hf : findLabel (.seq (.label l) c) l = some (.seq .skip c) := by simp [findLabel]
 have hg : gotoIn l (.inScope (.seq (.label l) c) :: k) = some (.code (.seq .skip c) :: .inScope (.seq (.label l) c) :: k) := by simp [gotoIn,hf]
 have key : ∀ n a w,jr P c l Q n a w → ∃ e a' w',Q e a' w' ∧ Arrives P (lone (b.at a (.code (.seq .skip c) :: .inScope (.seq (.label l) c) :: k)) cs w) b k cs e a' w' := by
  intro n
  induction n with
  | zero => intro a w h; exact h.elim
  | succ n ih =>
   intro a w hJ
   have hJ : c.wp P (Exit.jump l (jr P c l Q n) Q) a w := hJ
   obtain ⟨e,a₁,w₁,hq,harr⟩ := wp_seq (wp_skip (Q := Exit.then (c.wp P (Exit.jump l (jr P c l Q n) Q)) (Exit.jump l (jr P c l Q n) Q)) hJ) b (.inScope (.seq (.label l) c) :: k) cs
   cases e with
   | normal => exact ⟨.normal,a₁,w₁,hq,Steps.trans harr (.one step_inScope)⟩
   | exit id => exact ⟨.exit id,a₁,w₁,hq,fun k' hk => harr k' (by simp [exitTo,hk])⟩
   | goto l' =>
    obtain ⟨rfl,hJ'⟩ := hq
    obtain ⟨e₂,a₂,w₂,hq₂,harr₂⟩ := ih a₁ w₁ hJ'
    exact ⟨e₂,a₂,w₂,hq₂,.of_steps (harr _ hg) harr₂⟩
   | ret => exact ⟨_,a₁,w₁,hq,harr⟩
   | panic ch => exact ⟨_,a₁,w₁,hq,harr⟩
   | outgrown => exact ⟨_,a₁,w₁,hq,harr⟩
 cases n with
 | zero => exact h.elim
 | succ n =>
  have h : c.wp P (Exit.jump l (jr P c l Q n) Q) a w := h
  obtain ⟨e,a₁,w₁,hq,harr⟩ := wp_seq (wp_label (l := l) (Q := Exit.then (c.wp P (Exit.jump l (jr P c l Q n) Q)) (Exit.jump l (jr P c l Q n) Q)) h) b (.inScope (.seq (.label l) c) :: k) cs
  cases e with
  | normal => exact ⟨.normal,a₁,w₁,hq,.head step_scope (Steps.trans harr (.one step_inScope))⟩
  | exit id => exact ⟨.exit id,a₁,w₁,hq,fun k' hk => .head step_scope (harr k' (by simp [exitTo,hk]))⟩
  | goto l' =>
   obtain ⟨rfl,hJ'⟩ := hq
   obtain ⟨e₂,a₂,w₂,hq₂,harr₂⟩ := key _ a₁ w₁ hJ'
   exact ⟨e₂,a₂,w₂,hq₂,.of_steps (.head step_scope (harr _ hg)) harr₂⟩
  | ret => exact ⟨_,a₁,w₁,hq,.of_steps (.one step_scope) harr⟩
  | panic ch => exact ⟨_,a₁,w₁,hq,.of_steps (.one step_scope) harr⟩
  | outgrown => exact ⟨_,a₁,w₁,hq,.of_steps (.one step_scope) harr⟩
theorem CPost.ag {σ0 σ : Sg} {base nx l : Nat} {r1 : CR} {k : List AV → Hp → Nat → CR} {K : Act → World → Prop} (hx : Ext σ0 σ) (hb : base ≤ nx) (hl : ∀ b,b < base → σ b = σ0 b) (hn : evC.ag l r1 k ≠ .no) {e : Exit} {a : Act} {w : World} (h : CPost D P σ fn N w0 nx r1 e a w)
  (hk : ∀ f h nx a w,r1 = .goto l f h nx → evC.ag l r1 k = k f h nx → Out D P σ0 fn N w0 base f h nx a w → K a w) : Exit.jump l K (CPost D P σ0 fn N w0 base (evC.ag l r1 k)) e a w := by
 cases e with
 | normal => obtain ⟨f,h,nx1,h1,h2⟩ := h; subst h1; exact ⟨f,h,nx1,rfl,h2.trans hx hb hl⟩
 | exit id => obtain ⟨f,h,nx1,h1,h2⟩ := h; subst h1; exact ⟨f,h,nx1,rfl,h2.trans hx hb hl⟩
 | ret => obtain ⟨f,h,nx1,h1,h2⟩ := h; subst h1; exact ⟨f,h,nx1,rfl,h2.trans hx hb hl⟩
 | goto i =>
  obtain ⟨f,h,nx1,h1,h2⟩ := h; subst h1
  have e1 : evC.ag l (.goto i f h nx1) k = bif2 (Nat.beq i l) (k f h nx1) .no := rfl
  rw [bif2_if] at e1
  by_cases hi : i = l
  ·subst hi
   rw [if_pos (beq_iff.2 rfl)] at e1
   exact ⟨rfl,hk f h nx1 a w rfl e1 (h2.trans hx hb hl)⟩
  ·rw [if_neg (fun e => hi (beq_iff.1 e))] at e1
   exact (hn e1).elim
 | panic c => exact h.elim
 | outgrown => exact h.elim
end
section
variable {D : List Deferred} {P : Program} {tt : Nat → Option TI} {call : Nat → List AV → Hp → Nat → MR} {pf : Nat → List AV → Option AV} {prim : Nat → Bool} {inv : String → List (Nat × Nat)}
variable {fn : List Nat} {N : Nat} {w0 : World} {an : Ann}
noncomputable def lpN (g : List AV → Hp → Nat → CR) (n : Nat) : List AV → Hp → Nat → CR := Nat.rec (motive := fun _ => List AV → Hp → Nat → CR) (fun _ _ _ => .no) (fun _ rest f h nx => evC.cs (g f h nx) rest) n
noncomputable def agN (l : Nat) (g : List AV → Hp → Nat → CR) (n : Nat) : List AV → Hp → Nat → CR := Nat.rec (motive := fun _ => List AV → Hp → Nat → CR) (fun _ _ _ => .no) (fun _ rest f h nx => evC.ag l (g f h nx) rest) n
noncomputable def evCn (call : Nat → List AV → Hp → Nat → MR) (pf : Nat → List AV → Option AV) (F : Nat) (c : CC) : List AV → Hp → Nat → CR :=
 CC.rec (motive := fun _ => List AV → Hp → Nat → CR)
  (fun f h nx => .norm f h nx)
  (fun n r f h nx => fN (Nat.add nx n) fun nx' => evC.rc (evR call pf nx r [] f h nx' []))
  (fun _ _ iha ihb f h nx => evC.cs (iha f h nx) ihb)
  (fun o _ _ iha ihb f h nx => evC.con (evO o [] f) (iha f h nx) (ihb f h nx))
  (fun id _ ih f h nx => evC.blk id (ih f h nx))
  (fun _ ih => Nat.rec (motive := fun _ => List AV → Hp → Nat → CR) (fun _ _ _ => .no) (fun _ rest f h nx => evC.cs (ih f h nx) rest) F)
  (fun id f h nx => .exit id f h nx)
  (fun f h nx => .ret f h nx)
  (fun l _ ih => Nat.rec (motive := fun _ => List AV → Hp → Nat → CR) (fun _ _ _ => .no) (fun _ rest f h nx => evC.ag l (ih f h nx) rest) F)
  (fun l f h nx => .goto l f h nx)
  (fun _ _ _ => .no)
  c
theorem evCn_loop {F : Nat} {c : CC} {f : List AV} {h : Hp} {nx : Nat} : evCn call pf F (.loop c) f h nx = lpN (evCn call pf F c) F f h nx := rfl
theorem evCn_again {F l : Nat} {c : CC} {f : List AV} {h : Hp} {nx : Nat} : evCn call pf F (.again l c) f h nx = agN l (evCn call pf F c) F f h nx := rfl
theorem evC_n : @evC call pf = @evCn call pf FUEL := rfl
theorem evC_loop {c : CC} {f : List AV} {h : Hp} {nx : Nat} : evC call pf (.loop c) f h nx = lpN (evC call pf c) FUEL f h nx := by
 rw [evC_n]; exact evCn_loop
theorem evC_again {l : Nat} {c : CC} {f : List AV} {h : Hp} {nx : Nat} : evC call pf (.again l c) f h nx = agN l (evC call pf c) FUEL f h nx := by
 rw [evC_n]; exact evCn_again
theorem cC_loop {c : Code} : cC tt prim inv fn N an (.loop c) = .loop (cC tt prim inv fn N an c) := rfl
theorem cC_again {l : Nat} {c : Code} : cC tt prim inv fn N an (.scope (.seq (.label l) c)) = .again l (cC tt prim inv fn N an c) := rfl
theorem reg_run (T : Tabs P tt) (hC : CallOk P call w0) (hP : PrimOk P pf w0) (hI : InvOk P inv) (hm : P.follows .mixedOrders = true) {id : Nat} {ops : Array Oper} {draw : Bool} (hok : okC tt an (.region id ops draw) = true)
  {σ : Sg} {f : List AV} {h : Hp} {nx : Nat} {a : Act} {w : World} (hG : GlOk σ) (E : EnvR D σ fn ([],0) [] f a N) (hL : Lay σ h w0 w) (hF : ∀ b,nx ≤ b → σ b = none)
  (hn : evC call pf (cC tt prim inv fn N an (.region id ops draw)) f h nx ≠ .no) :
  (Code.region id ops draw).wp P (CPost D P σ fn N w0 nx (evC call pf (cC tt prim inv fn N an (.region id ops draw)) f h nx)) a w := by
 have key : ∀ (bad : List (Nat × Nat)) (t : Ot) (c : CC),c = orNo ops.toList.length (cR tt prim inv fn N ops.toList bad t [] ([],0)) → evC call pf c f h nx ≠ .no →
   trunT P ops.toList (ops.toList.map fun o => clsOf tt o.op) bad (fun a w => CPost D P σ fn N w0 nx (evC call pf c f h nx) .normal a w) t [] a w := by
  intro bad t c hc hn
  subst hc
  cases hr : cR tt prim inv fn N ops.toList bad t [] ([],0) with
  | none => rw [hr] at hn; exact (hn rfl).elim
  | some r =>
   rw [hr] at hn
   have e1 : evC call pf (orNo ops.toList.length (some r)) f h nx = fN (Nat.add nx ops.toList.length) fun nx' => evC.rc (evR call pf nx r [] f h nx' []) := rfl
   rw [fN_eq] at e1
   rw [e1] at hn ⊢
   cases hR : evR call pf nx r [] f h (Nat.add nx ops.toList.length) [] with
   | no => rw [hR] at hn; exact (hn rfl).elim
   | ok f' h' nx' =>
    have F : Fresh σ nx ops.toList.length [] (nx + ops.toList.length) := ⟨fun b hb => hF b (by omega),fun k _ _ => hF _ (by omega),Nat.le_refl _⟩
    exact trunT_mono (fun a w h => ⟨f',h',nx',rfl,h⟩) t (.of_sub fun _ h => h) (cR_run T hC hP hI t hr hG (Ext.refl _) (fun _ _ => rfl) E hL F PinR.nil hR)
 obtain ⟨l⟩ := ops
 cases draw with
 | false => exact wp_region_s (ops := l) (l.map fun o => clsOf tt o.op) (key [] _ _ rfl hn)
 | true =>
  simp only [okC] at hok
  have e0 : cC tt prim inv fn N an (.region id ⟨l⟩ true) = match annOf id an with
   | some (bad,t) => orNo l.length (cR tt prim inv fn N l bad t [] ([],0))
   | none => .no := rfl
  rw [e0] at hn ⊢
  cases ha : annOf id an with
  | none => rw [ha] at hn; exact (hn rfl).elim
  | some p =>
   obtain ⟨bad,t⟩ := p
   rw [ha] at hn hok
   exact wp_region_t (ops := l) (l.map fun o => clsOf tt o.op) bad t hm hok (key bad t _ rfl hn)
theorem cC_run (T : Tabs P tt) (hC : CallOk P call w0) (hP : PrimOk P pf w0) (hI : InvOk P inv) (hm : P.follows .mixedOrders = true) : ∀ (c : Code),okC tt an c = true →
  ∀ {σ : Sg} {f : List AV} {h : Hp} {nx : Nat} {a : Act} {w : World},GlOk σ → EnvR D σ fn ([],0) [] f a N → Lay σ h w0 w → (∀ b,nx ≤ b → σ b = none) →
  evC call pf (cC tt prim inv fn N an c) f h nx ≠ .no → c.wp P (CPost D P σ fn N w0 nx (evC call pf (cC tt prim inv fn N an c) f h nx)) a w
 | .skip,_,σ,f,h,nx,a,w,hG,E,hL,hF,hn => wp_skip ⟨f,h,nx,rfl,σ,Ext.refl _,E,hL,hF,Nat.le_refl _,fun _ _ => rfl⟩
 | .label l,_,σ,f,h,nx,a,w,hG,E,hL,hF,hn => wp_label ⟨f,h,nx,rfl,σ,Ext.refl _,E,hL,hF,Nat.le_refl _,fun _ _ => rfl⟩
 | .exit i,_,σ,f,h,nx,a,w,hG,E,hL,hF,hn => wp_exit ⟨f,h,nx,rfl,σ,Ext.refl _,E,hL,hF,Nat.le_refl _,fun _ _ => rfl⟩
 | .goto i,_,σ,f,h,nx,a,w,hG,E,hL,hF,hn => wp_goto ⟨f,h,nx,rfl,σ,Ext.refl _,E,hL,hF,Nat.le_refl _,fun _ _ => rfl⟩
 | .ret,_,σ,f,h,nx,a,w,hG,E,hL,hF,hn => wp_ret ⟨f,h,nx,rfl,σ,Ext.refl _,E,hL,hF,Nat.le_refl _,fun _ _ => rfl⟩
 | .region id ops draw,hok,σ,f,h,nx,a,w,hG,E,hL,hF,hn => reg_run T hC hP hI hm hok hG E hL hF hn
 | .seq c d,hok,σ,f,h,nx,a,w,hG,E,hL,hF,hn => by
  simp only [okC,Bool.and_eq_true] at hok
  have hn : evC.cs (evC call pf (cC tt prim inv fn N an c) f h nx) (evC call pf (cC tt prim inv fn N an d)) ≠ .no := hn
  refine wp_seq (wp_mono (cC_run T hC hP hI hm c hok.1 hG E hL hF (cs_no hn)) fun e a' w' h1 => ?_)
  refine CPost.cs (r1 := evC call pf (cC tt prim inv fn N an c) f h nx) (k := evC call pf (cC tt prim inv fn N an d)) (Ext.refl _) (Nat.le_refl _) (fun _ _ => rfl) h1 fun f1 h1' nx1 a1 w1 er ho => ?_
  obtain ⟨σ1,o1,o2,o3,o4,o5,o6⟩ := ho
  have e1 : evC.cs (evC call pf (cC tt prim inv fn N an c) f h nx) (evC call pf (cC tt prim inv fn N an d)) = evC call pf (cC tt prim inv fn N an d) f1 h1' nx1 := by rw [er]; rfl
  refine wp_mono (cC_run T hC hP hI hm d hok.2 (hG.ext o1) o2 o3 o4 (by rw [← e1]; exact hn)) fun e a' w' h2 => ?_
  have h3 := h2.trans o1 o5 o6
  rw [← e1] at h3
  exact h3
 | .cond x c d,hok,σ,f,h,nx,a,w,hG,E,hL,hF,hn => by
  simp only [okC,Bool.and_eq_true] at hok
  have e0 : cC tt prim inv fn N an (.cond x c d) = match cO fn ([],0) x with | some o => .cond o (cC tt prim inv fn N an c) (cC tt prim inv fn N an d) | none => .no := rfl
  rw [e0] at hn ⊢
  cases ho : cO fn ([],0) x with
  | none => rw [ho] at hn; exact (hn rfl).elim
  | some o =>
   rw [ho] at hn
   have e1 : evC call pf (.cond o (cC tt prim inv fn N an c) (cC tt prim inv fn N an d)) f h nx = evC.con (evO o [] f) (evC call pf (cC tt prim inv fn N an c) f h nx) (evC call pf (cC tt prim inv fn N an d) f h nx) := rfl
   simp only [e1] at hn ⊢
   cases hv : evO o [] f with
   | none => rw [hv] at hn; exact (hn rfl).elim
   | some v =>
    rw [hv] at hn
    cases v <;> first | exact (hn rfl).elim | skip
    rename_i b
    have hd := den_bool (E.op hG x o _ ho hv)
    have e2 : evC.con (some (.bool b)) (evC call pf (cC tt prim inv fn N an c) f h nx) (evC call pf (cC tt prim inv fn N an d) f h nx) = bif2 b (evC call pf (cC tt prim inv fn N an c) f h nx) (evC call pf (cC tt prim inv fn N an d) f h nx) := rfl
    rw [e2] at hn ⊢
    cases b with
    | true => exact wp_cond_true hd (cC_run T hC hP hI hm c hok.1 hG E hL hF hn)
    | false => exact wp_cond_false hd (cC_run T hC hP hI hm d hok.2 hG E hL hF hn)
 | .block id c,hok,σ,f,h,nx,a,w,hG,E,hL,hF,hn => by
  have hok : okC tt an c = true := hok
  have hn : evC.blk id (evC call pf (cC tt prim inv fn N an c) f h nx) ≠ .no := hn
  exact wp_block (wp_mono (cC_run T hC hP hI hm c hok hG E hL hF (blk_no hn)) fun e a' w' h1 => h1.blk)
 | .loop c,hok,σ,f,h,nx,a,w,hG,E,hL,hF,hn => by
  have hok : okC tt an c = true := hok
  rw [cC_loop,evC_loop] at hn ⊢
  let R : Nat → List AV → Hp → Nat → CR := lpN (evC call pf (cC tt prim inv fn N an c))
  have key : ∀ (n : Nat) (f1 : List AV) (h1 : Hp) (nx1 : Nat) (a1 : Act) (w1 : World),R n f1 h1 nx1 ≠ .no → Out D P σ fn N w0 nx f1 h1 nx1 a1 w1 → Code.rounds P c (CPost D P σ fn N w0 nx (R n f1 h1 nx1)) n a1 w1 := by
   intro n
   induction n with
   | zero => intro f1 h1 nx1 a1 w1 hn _; exact (hn rfl).elim
   | succ n ih =>
    intro f1 h1 nx1 a1 w1 hn ho
    obtain ⟨σ1,o1,o2,o3,o4,o5,o6⟩ := ho
    have hn : evC.cs (evC call pf (cC tt prim inv fn N an c) f1 h1 nx1) (R n) ≠ .no := hn
    refine wp_mono (cC_run T hC hP hI hm c hok (hG.ext o1) o2 o3 o4 (cs_no hn)) fun e a' w' h2 => ?_
    refine CPost.cs (r1 := evC call pf (cC tt prim inv fn N an c) f1 h1 nx1) (k := R n) o1 o5 o6 h2 fun f2 h2' nx2 a2 w2 er ho => ?_
    have e1 : R (n + 1) f1 h1 nx1 = R n f2 h2' nx2 := by
     show evC.cs (evC call pf (cC tt prim inv fn N an c) f1 h1 nx1) (R n) = _
     rw [er]; rfl
    rw [e1]
    exact ih f2 h2' nx2 a2 w2 (by rw [← e1]; exact hn) ho
  exact wp_loop_rounds FUEL (key FUEL f h nx a w hn ⟨σ,Ext.refl _,E,hL,hF,Nat.le_refl _,fun _ _ => rfl⟩)
 | .scope (.seq (.label l) c),hok,σ,f,h,nx,a,w,hG,E,hL,hF,hn => by
  have hok : okC tt an c = true := by simpa [okC] using hok
  rw [cC_again,evC_again] at hn ⊢
  let R : Nat → List AV → Hp → Nat → CR := agN l (evC call pf (cC tt prim inv fn N an c))
  have key : ∀ (n : Nat) (f1 : List AV) (h1 : Hp) (nx1 : Nat) (a1 : Act) (w1 : World),R n f1 h1 nx1 ≠ .no → Out D P σ fn N w0 nx f1 h1 nx1 a1 w1 → jr P c l (CPost D P σ fn N w0 nx (R n f1 h1 nx1)) n a1 w1 := by
   intro n
   induction n with
   | zero => intro f1 h1 nx1 a1 w1 hn _; exact (hn rfl).elim
   | succ n ih =>
    intro f1 h1 nx1 a1 w1 hn ho
    obtain ⟨σ1,o1,o2,o3,o4,o5,o6⟩ := ho
    have hn : evC.ag l (evC call pf (cC tt prim inv fn N an c) f1 h1 nx1) (R n) ≠ .no := hn
    refine wp_mono (cC_run T hC hP hI hm c hok (hG.ext o1) o2 o3 o4 (ag_no hn)) fun e a' w' h2 => ?_
    refine CPost.ag (r1 := evC call pf (cC tt prim inv fn N an c) f1 h1 nx1) (k := R n) o1 o5 o6 hn h2 fun f2 h2' nx2 a2 w2 er e1 ho => ?_
    have e1 : R (n + 1) f1 h1 nx1 = R n f2 h2' nx2 := e1
    rw [e1]
    exact ih f2 h2' nx2 a2 w2 (by rw [← e1]; exact hn) ho
  exact wp_scope_again FUEL (key FUEL f h nx a w hn ⟨σ,Ext.refl _,E,hL,hF,Nat.le_refl _,fun _ _ => rfl⟩)
 | .rangeFunc _ _ _ _,_,σ,f,h,nx,a,w,hG,E,hL,hF,hn => (hn rfl).elim
 | .refuse _,_,σ,f,h,nx,a,w,hG,E,hL,hF,hn => (hn rfl).elim
 | .scope .skip,_,σ,f,h,nx,a,w,hG,E,hL,hF,hn => (hn rfl).elim
 | .scope (.region ..),_,σ,f,h,nx,a,w,hG,E,hL,hF,hn => (hn rfl).elim
 | .scope (.cond ..),_,σ,f,h,nx,a,w,hG,E,hL,hF,hn => (hn rfl).elim
 | .scope (.block ..),_,σ,f,h,nx,a,w,hG,E,hL,hF,hn => (hn rfl).elim
 | .scope (.loop ..),_,σ,f,h,nx,a,w,hG,E,hL,hF,hn => (hn rfl).elim
 | .scope (.rangeFunc ..),_,σ,f,h,nx,a,w,hG,E,hL,hF,hn => (hn rfl).elim
 | .scope (.exit ..),_,σ,f,h,nx,a,w,hG,E,hL,hF,hn => (hn rfl).elim
 | .scope (.scope ..),_,σ,f,h,nx,a,w,hG,E,hL,hF,hn => (hn rfl).elim
 | .scope (.label ..),_,σ,f,h,nx,a,w,hG,E,hL,hF,hn => (hn rfl).elim
 | .scope (.goto ..),_,σ,f,h,nx,a,w,hG,E,hL,hF,hn => (hn rfl).elim
 | .scope .ret,_,σ,f,h,nx,a,w,hG,E,hL,hF,hn => (hn rfl).elim
 | .scope (.refuse ..),_,σ,f,h,nx,a,w,hG,E,hL,hF,hn => (hn rfl).elim
 | .scope (.seq .skip _),_,σ,f,h,nx,a,w,hG,E,hL,hF,hn => (hn rfl).elim
 | .scope (.seq (.region ..) _),_,σ,f,h,nx,a,w,hG,E,hL,hF,hn => (hn rfl).elim
 | .scope (.seq (.seq ..) _),_,σ,f,h,nx,a,w,hG,E,hL,hF,hn => (hn rfl).elim
 | .scope (.seq (.cond ..) _),_,σ,f,h,nx,a,w,hG,E,hL,hF,hn => (hn rfl).elim
 | .scope (.seq (.block ..) _),_,σ,f,h,nx,a,w,hG,E,hL,hF,hn => (hn rfl).elim
 | .scope (.seq (.loop ..) _),_,σ,f,h,nx,a,w,hG,E,hL,hF,hn => (hn rfl).elim
 | .scope (.seq (.rangeFunc ..) _),_,σ,f,h,nx,a,w,hG,E,hL,hF,hn => (hn rfl).elim
 | .scope (.seq (.exit ..) _),_,σ,f,h,nx,a,w,hG,E,hL,hF,hn => (hn rfl).elim
 | .scope (.seq (.scope ..) _),_,σ,f,h,nx,a,w,hG,E,hL,hF,hn => (hn rfl).elim
 | .scope (.seq (.goto ..) _),_,σ,f,h,nx,a,w,hG,E,hL,hF,hn => (hn rfl).elim
 | .scope (.seq .ret _),_,σ,f,h,nx,a,w,hG,E,hL,hF,hn => (hn rfl).elim
 | .scope (.seq (.refuse ..) _),_,σ,f,h,nx,a,w,hG,E,hL,hF,hn => (hn rfl).elim
end
end Go.Proofs.YteajeenmojbjhaaGreatDoor.Ev
namespace Go.Proofs.YteajeenmojbjhaaGreatDoor.Ev
open Go Fw
section
variable {P : Program} {tt : Nat → Option TI} {σ : Sg} {fn : List Nat} {f : List AV} {a : Act} {h : Hp} {w0 w : World}
theorem rv_run (T : Tabs P tt) (hO : OpR σ fn ([],0) [] f a) (L : Lay σ h w0 w) {F : ResultVar → Sem Value} (hF1 : ∀ t,F (.tmp t) = pure (a.tmps.getD t undef)) (hF2 : ∀ c t,F (.cell c t) = do loadVar t (← asAddr (a.tmps.getD c undef)))
  {r : ResultVar} {rv : RV} {v : AV} (hc : cRV tt fn r = some rv) (hv : evRV rv f h = some v) : ∃ u,den σ v = some u ∧ (F r).run P w = .ok u w := by
 cases r with
 | tmp t =>
  simp only [cRV,Option.map_eq_some_iff] at hc
  obtain ⟨o,ho,rfl⟩ := hc
  have hv : evO o [] f = some v := hv
  refine ⟨_,hO _ _ _ ho hv,?_⟩
  rw [hF1,Sem.run_pure]
  rfl
 | cell c t =>
  simp only [cRV] at hc
  split at hc
  ·rename_i ti o ht ho
   have hag := (T.ty _ _ ht).isAgg
   have hsz := (T.ty _ _ ht).size
   cases hag' : ti.agg with
   | true =>
    rw [hag'] at hc hag; cases hc
    have hv : (ob (evO o [] f) fun p => isP p fun b off => ob (rdN b off ti.sz h) fun vs => some (.agg vs)) = some v := hv
    obtain ⟨p,h1,h2⟩ := ob_some.1 hv
    obtain ⟨b',o',rfl,h3⟩ := isP_some.1 h2
    obtain ⟨us,h4,h5⟩ := ob_some.1 h3
    cases h5
    obtain ⟨g,hg,hX⟩ := den_ptr (hO _ _ _ ho h1)
    obtain ⟨g',ws,h6,h7,h8,h9⟩ := rdN_run L h4
    rw [hg] at h6; cases h6
    refine ⟨.agg ws.toArray,by simp only [den,h7],?_⟩
    have hl := load_cells (P := P) h9
    rw [h8] at hl
    have hX : a.tmps.getD c undef = _ := hX
    rw [hF2,hX]
    simp only [asAddr,Sem.run_bind,Sem.run_pure,Result.andThen_ok,loadVar,hag w,hsz w,if_true,hl]
   | false =>
    rw [hag'] at hc hag; cases hc
    have hv : (ob (evO o [] f) fun p => isP p fun b off => rd1 b off h) = some v := hv
    obtain ⟨p,h1,h2⟩ := ob_some.1 hv
    obtain ⟨b',o',rfl,h3⟩ := isP_some.1 h2
    obtain ⟨g,hg,hX⟩ := den_ptr (hO _ _ _ ho h1)
    obtain ⟨g',x,h6,h7,h9⟩ := rd1_run L h3
    rw [hg] at h6; cases h6
    refine ⟨x,h7,?_⟩
    have hcell := h9 0 x rfl
    simp only [Nat.add_zero] at hcell
    have hX : a.tmps.getD c undef = _ := hX
    rw [hF2,hX]
    simp only [asAddr,Sem.run_bind,Sem.run_pure,Result.andThen_ok,loadVar,hag w,Bool.false_eq_true,if_false,load]
    simp [Sem.run,hcell]
  ·cases hc
theorem rvs_run (T : Tabs P tt) (hO : OpR σ fn ([],0) [] f a) (L : Lay σ h w0 w) {F : ResultVar → Sem Value} (hF1 : ∀ t,F (.tmp t) = pure (a.tmps.getD t undef)) (hF2 : ∀ c t,F (.cell c t) = do loadVar t (← asAddr (a.tmps.getD c undef))) :
  ∀ {l : List ResultVar} {rs : List RV} {vs : List AV},cRVs tt fn l = some rs → evRVs rs f h = some vs → ∃ us,denL σ vs = some us ∧ (l.mapM F).run P w = .ok us w
 | [],rs,vs,hc,hv => by
  cases hc
  have hv : some [] = some vs := hv
  cases hv
  exact ⟨[],denL_nil,by simp⟩
 | r :: l,rs,vs,hc,hv => by
  simp only [cRVs] at hc
  split at hc
  ·rename_i x y hx hy
   cases hc
   have hv : (ob (evRV x f h) fun v => ob (evRVs y f h) fun l => some (v :: l)) = some vs := hv
   obtain ⟨v,h1,h2⟩ := ob_some.1 hv
   obtain ⟨us,h3,h4⟩ := ob_some.1 h2
   cases h4
   obtain ⟨u,h5,h6⟩ := rv_run T hO L hF1 hF2 hx h1
   obtain ⟨ws,h7,h8⟩ := rvs_run T hO L hF1 hF2 hy h3
   exact ⟨u :: ws,denL_cons h5 h7,by simp only [List.mapM_cons,Sem.run_bind,h6,h8,Result.andThen_ok,Sem.run_pure]⟩
  ·cases hc
theorem results_run (T : Tabs P tt) (hO : OpR σ fn ([],0) [] f a) (L : Lay σ h w0 w) {fu : Func} {rs : List RV} {vs : List AV} (hc : cRVs tt fn fu.results.toList = some rs) (hv : evRVs rs f h = some vs) :
  ∃ u,den σ (one vs) = some u ∧ (results fu a.tmps).run P w = .ok u w := by
 obtain ⟨F,hF1,hF2,hres⟩ : ∃ F : ResultVar → Sem Value,(∀ t,F (.tmp t) = pure (a.tmps.getD t undef)) ∧ (∀ c t,F (.cell c t) = do loadVar t (← asAddr (a.tmps.getD c undef))) ∧
   results fu a.tmps = (do let vs ← fu.results.mapM F; pure (if h : vs.size = 1 then vs[0] else .tuple vs)) := ⟨_,fun _ => rfl,fun _ _ => rfl,rfl⟩
 obtain ⟨us,h1,h2⟩ := rvs_run T hO L hF1 hF2 hc hv
 have h3 : (fu.results.mapM F).run P w = .ok us.toArray w := by
  rw [Array.mapM_eq_mapM_toList]
  rw [← bind_pure_comp,Sem.run_bind,h2]
  simp
 have hl := denL_length h1
 refine ⟨if h : us.toArray.size = 1 then us.toArray[0] else .tuple us.toArray,?_,?_⟩
 ·match vs,us,h1,hl with
  | [],[],_,_ => simp [one,den]
  | [v],[u],h1,_ =>
   obtain ⟨x,rs',e1,h5,h6⟩ := denL_cons_inv h1
   cases e1
   simpa [one] using h5
  | v :: v' :: l,u :: u' :: l',h1,hl =>
   have e1 : one (v :: v' :: l) = .tup (v :: v' :: l) := rfl
   rw [e1]
   simp only [den,h1]
   simp
  | [],_ :: _,_,hl => simp at hl
  | _ :: _,[],_,hl => simp at hl
  | [_],_ :: _ :: _,_,hl => simp at hl
  | _ :: _ :: _,[_],_,hl => simp at hl
 ·rw [hres,Sem.run_bind,h3]
  simp only [Result.andThen_ok,Sem.run_pure]
theorem initF_run : ∀ {l : List (Option Nat)} {as f : List AV},initF l as = some f → ∀ (k : Nat) (v : AV),f[k]? = some v → (∃ i,l[k]? = some (some i) ∧ as[i]? = some v) ∨ (l[k]? = some none ∧ v = .undef)
 | [],as,f,hi,k,v,hv => by
  have hi : some [] = some f := hi
  cases hi
  cases hv
 | o :: l,as,f,hi,k,v,hv => by
  have hi : (ob (Option.rec (motive := fun _ => Option AV) (some .undef) (fun i => nthA i as) o) fun v => ob (initF l as) fun r => some (v :: r)) = some f := hi
  obtain ⟨x,h1,h2⟩ := ob_some.1 hi
  obtain ⟨r,h3,h4⟩ := ob_some.1 h2
  cases h4
  cases k with
  | zero =>
   simp only [List.getElem?_cons_zero,Option.some.injEq] at hv ⊢
   subst hv
   cases o with
   | none => cases h1; exact .inr ⟨rfl,rfl⟩
   | some i =>
    have h1 : nthA i as = some x := h1
    rw [nthA_eq] at h1
    exact .inl ⟨i,rfl,h1⟩
  | succ k => exact initF_run h3 k v hv
theorem EnvR.enter {as : List AV} {vs : List Value} {n N : Nat} (hd : denL σ as = some vs) (hn : as.length = n) (hN : n ≤ N) (hfn : ∀ s ∈ fn,s < N) (hi : initF (fn.map fun s => if s < n then some s else none) as = some f) :
  EnvR [] σ fn ([],0) [] f { tmps := vs.toArray ++ Array.replicate (N - vs.toArray.size) undef,defers := [] } N := by
 have hl := denL_length hd
 refine ⟨by simp; omega,rfl,rfl,fun _ _ h => (by cases h),fun _ _ h => (by cases h),fun t k _ hk v hv => ?_⟩
 have hk := idx_get hk
 have htN := hfn t (List.mem_of_getElem? hk)
 rcases initF_run hi k v hv with ⟨i,h1,h2⟩ | ⟨h1,rfl⟩
 ·rw [List.getElem?_map,hk] at h1
  simp only [Option.map_some,Option.some.injEq] at h1
  split at h1
  ·rename_i hlt
   cases h1
   obtain ⟨x,h3,h4⟩ := denL_get hd h2
   refine ⟨x,h4,?_⟩
   rw [Array.getElem?_append_left (by simp; omega)]
   simpa using h3
  ·cases h1
 ·rw [List.getElem?_map,hk] at h1
  simp only [Option.map_some,Option.some.injEq] at h1
  split at h1
  ·cases h1
  ·refine ⟨undef,by simp only [den,undef],?_⟩
   rw [Array.getElem?_append_right (by simp; omega)]
   simp only [List.size_toArray]
   rw [Array.getElem?_replicate,if_pos (by omega)]
end
section
variable {P : Program} {tt : Nat → Option TI} {pf : Nat → List AV → Option AV} {prim : Nat → Bool} {inv : String → List (Nat × Nat)} {FT : Tb FC}
structure DefOk (P : Program) (g : Nat) : Prop where
 cb : callB P g = true
 go : ∀ (cap : Array Value) (w : World),cap.size = 2 → CallsD P g cap .returning w fun e u' w' => u' = .returning ∧ ∃ v,e = .returned v ∧ Old w w'
def IsDfr (R : Code) (d g : Nat) : Prop := ∃ id x y ty ps af tys ty2 ps2 af2,R = .region id #[⟨some d,.makeFunc (.func g) #[] #[x,y],ty,ps,af,none⟩,⟨none,.defer ⟨.value (.tmp d),#[],tys⟩,ty2,ps2,af2,none⟩] false
def FtOk (P : Program) (tt : Nat → Option TI) (prim : Nat → Bool) (inv : String → List (Nat × Nat)) (FT : Tb FC) : Prop := ∀ g fc,FT.get g = some fc → (∃ (F : Func) (c : Code) (fn : List Nat) (an : Ann) (gc : Bool),
 P.funcs[g]? = some F ∧ F.body = some c ∧ callB P g = true ∧ cF tt prim inv fn an gc F = some fc ∧ okC tt an c = true ∧ F.params.size + F.nfree ≤ F.ntmps ∧ ∀ s ∈ fn,s < F.ntmps) ∨
 (∃ (F : Func) (A R B : Code) (d dg : Nat) (fn : List Nat) (an : Ann) (gc : Bool),
 P.funcs[g]? = some F ∧ F.body = some (.seq A (.seq R B)) ∧ callB P g = true ∧ IsDfr R d dg ∧ DefOk P dg ∧ cF tt prim inv fn an gc { F with body := some (.seq A B) } = some fc ∧ okC tt an (.seq A B) = true ∧ F.params.size + F.nfree ≤ F.ntmps ∧ (∀ s ∈ fn,s < F.ntmps) ∧ d < F.ntmps ∧ d ∉ fn)
theorem EnvR.dfr {σ : Sg} {fn : List Nat} {f : List AV} {a : Act} {N d : Nat} {D : List Deferred} (E : EnvR [] σ fn ([],0) [] f a N) (hd : d ∉ fn) (v : Value) : EnvR D σ fn ([],0) [] f { a.put (some d) v with defers := D } N :=
 ⟨by simp [Act.put,E.sz],rfl,rfl,fun _ _ h => (by cases h),fun _ _ h => (by cases h),fun t k hl hk u hu => by
  obtain ⟨y,h1,h2⟩ := E.fr t k hl hk u hu
  have hne : d ≠ t := fun e => hd (by rw [e]; exact List.mem_of_getElem? (idx_get hk))
  exact ⟨y,h1,by simp only [Act.put]; rw [Array.getElem?_setIfInBounds_ne hne]; exact h2⟩⟩
theorem wp_dfrE {id d N : Nat} {g : FuncId} {x y : Operand} {ty ty2 : TypeId} {ps ps2 : String} {af af2 : Array Edge} {tys : Array TypeId} {Q : Exit → Act → World → Prop} {a : Act} {w : World} (hsz : a.tmps.size = N) (hdf : a.defers = []) (hlt : d < N)
  (h : Q .normal { a.put (some d) (.func (.func g) #[] #[a.eval x,a.eval y]) with defers := [⟨.fn (.func g) #[a.eval x,a.eval y],#[]⟩] } w) :
  (Code.region id #[⟨some d,.makeFunc (.func g) #[] #[x,y],ty,ps,af,none⟩,⟨none,.defer ⟨.value (.tmp d),#[],tys⟩,ty2,ps2,af2,none⟩] false).wp P Q a w := by
 refine wp_region ?_
 show wpOps P _ Q [0,1] a w
 have e2 : (a.put (some d) (.func (.func g) #[] #[a.eval x,a.eval y])).eval (.tmp d) = .func (.func g) #[] #[a.eval x,a.eval y] := by simp [Act.put,Act.eval,hsz,hlt]
 have e3 : (a.put (some d) (.func (.func g) #[] #[a.eval x,a.eval y])).defers = [] := hdf
 rw [wpOps_cons]
 unfold wpOp
 simp only [List.getElem?_toArray,List.getElem?_cons_zero,Region.wanted,if_true]
 refine .inl ?_
 unfold Oper.wp
 simp only [execOp,Instr.makeFunc,Sem.run_bind,Sem.run_pure,Result.andThen_ok,Oper.upon_value,List.map_toArray,List.map_cons,List.map_nil]
 rw [wpOps_cons]
 unfold wpOp
 simp only [List.getElem?_toArray,List.getElem?_cons_zero,List.getElem?_cons_succ,Region.wanted,if_true]
 refine .inl ?_
 unfold Oper.wp
 simp only [execOp,resolve,Deferred.ofValue,Sem.run_bind,Sem.run_pure,Result.andThen_ok,Oper.upon_defer,List.map_toArray,List.map_cons,List.map_nil,e2,e3]
 exact h
theorem leave_run (T : Tabs P tt) {σ : Sg} {fn : List Nat} {f : List AV} {a : Act} {N : Nat} {h : Hp} {w0 w : World} {fu : Func} {rs : List RV} {vs : List AV} {D : List Deferred} (hc : cRVs tt fn fu.results.toList = some rs) (hv : evRVs rs f h = some vs) (hG : GlOk σ) (E : EnvR D σ fn ([],0) [] f a N) (L : Lay σ h w0 w)
  (hD : D = [] ∨ ∃ dg cap,D = [⟨.fn (.func dg) cap,#[]⟩] ∧ cap.size = 2 ∧ DefOk P dg) {R : Ending → World → Prop} (hR : ∀ u w',den σ (one vs) = some u → Lay σ h w0 w' → R (.returned u) w') : Leaves P fu a.tmps R a.defers .returning w := by
 have hO := E.op hG
 have hdf := E.df
 rcases hD with rfl | ⟨dg,cap,rfl,hcap,hdok⟩
 ·rw [hdf]
  obtain ⟨u,r1,r2⟩ := results_run T hO L hc hv
  exact ⟨u,r2,hR u w r1 L⟩
 ·rw [hdf]
  refine leaves_cons (f := dg) (args := cap) (by intro h; cases h) ?_ ((hdok.go cap w hcap).mono ?_)
  ·simp only [invoke]
   rw [run_callFunc hdok.cb]
   simp
  ·rintro e u' w' ⟨rfl,v,rfl,ho⟩
   have L' := L.quiet ho
   obtain ⟨u,r1,r2⟩ := results_run T hO L' hc hv
   exact ⟨u,r2,hR u w' r1 L'⟩
theorem hcut_get {nx b : Nat} {o : Bl} : ∀ {h : Hp},Srt h → hget b (hcut nx h) = some o → hget b h = some o
 | .nil,_,e => by cases e
 | .cons c x t,hs,e => by
  have e : hget b (Bool.rec (motive := fun _ => Hp) (.cons c x t) (hcut nx t) (Nat.ble nx c)) = some o := e
  cases hc : Nat.ble nx c with
  | false => rw [hc] at e; exact e
  | true =>
   rw [hc] at e
   have h1 := hcut_get hs.2 e
   rw [hget_cons,if_neg]
   ·exact h1
   ·have := hs.1 b o h1; omega
theorem hcut_srt {nx : Nat} : ∀ {h : Hp},Srt h → Srt (hcut nx h)
 | .nil,h => h
 | .cons c x t,hs => by
  have e : hcut nx (.cons c x t) = Bool.rec (motive := fun _ => Hp) (.cons c x t) (hcut nx t) (Nat.ble nx c) := rfl
  rw [e]
  cases hc : Nat.ble nx c with
  | false => exact hs
  | true => exact hcut_srt hs.2
theorem Lay.cut {σ : Sg} {h : Hp} {w0 w : World} (L : Lay σ h w0 w) (nx : Nat) : Lay σ (hcut nx h) w0 w :=
 ⟨hcut_srt L.srt,L.old,fun b o hb => L.blk b o (hcut_get L.srt hb),fun b b' o o' g g' hb hb' => L.inj b b' o o' g g' (hcut_get L.srt hb) (hcut_get L.srt hb')⟩
theorem fH_eq {R : Type} {h : Hp} {f : Hp → R} : fH h f = f h := by cases h <;> rfl
theorem gcM_ok {gc : Bool} {nx : Nat} {r : MR} {v : AV} {h' : Hp} {nx' : Nat} (hh : gcM gc nx r = .ok v h' nx') : ∃ h0,r = .ok v h0 nx' ∧ ∀ {w0 : World} (σ : Sg) (w : World),Lay σ h0 w0 w → Lay σ h' w0 w := by
 cases gc with
 | false => exact ⟨h',hh,fun _ _ h => h⟩
 | true =>
  cases r with
  | no => cases hh
  | ok v1 h1 nx1 =>
   have hh : (fH (hcut nx h1) fun h'' => MR.ok v1 h'' nx1) = .ok v h' nx' := hh
   rw [fH_eq] at hh
   cases hh
   exact ⟨h1,rfl,fun σ w L => L.cut nx⟩
theorem evF_dfr {w0 : World} {fuel : Nat} (T : Tabs P tt) (ih : CallOk P (evF FT pf fuel) w0) (hP : PrimOk P pf w0) (hI : InvOk P inv) (hm : P.follows .mixedOrders = true) {g : Nat} {as : List AV} {h : Hp} {nx : Nat} {v : AV} {h' : Hp} {nx' : Nat} {fc : FC}
  (hDf : ∃ (F : Func) (A R B : Code) (d dg : Nat) (fn : List Nat) (an : Ann) (gc : Bool),
   P.funcs[g]? = some F ∧ F.body = some (.seq A (.seq R B)) ∧ callB P g = true ∧ IsDfr R d dg ∧ DefOk P dg ∧ cF tt prim inv fn an gc { F with body := some (.seq A B) } = some fc ∧ okC tt an (.seq A B) = true ∧ F.params.size + F.nfree ≤ F.ntmps ∧ (∀ s ∈ fn,s < F.ntmps) ∧ d < F.ntmps ∧ d ∉ fn)
  (h2 : FC.rec (motive := fun _ => MR) (fun n init c rs gc => gcM gc nx (gm (Nat.beq (len2 as) n) (om (initF init as) fun f => evF.fin (evC (evF FT pf fuel) pf c f h nx) rs))) fc = .ok v h' nx') :
  callB P g = true ∧ ∀ (σ : Sg) (w : World) (vs : List Value),GlOk σ → Lay σ h w0 w → (∀ b,nx ≤ b → σ b = none) → denL σ as = some vs →
   Calls P g vs.toArray w fun e w' => ∃ σ' u,e = .returned u ∧ Ext σ σ' ∧ den σ' v = some u ∧ Lay σ' h' w0 w' ∧ (∀ b,nx' ≤ b → σ' b = none) ∧ nx ≤ nx' ∧ ∀ b,b < nx → σ' b = σ b := by
 obtain ⟨F,A,R,B,d,dg,fn,an,gc,k1,k2,k3,hR,hdok,k4,k5,k6,k7,k8,k9⟩ := hDf
 refine ⟨k3,fun σ w vs hG hL hfr hd => ?_⟩
 simp only [cF] at k4
 split at k4
 ·rename_i c0 rs hc0 hrs
  cases hc0
  cases k4
  simp only [okC,Bool.and_eq_true] at k5
  have h2 : gcM gc nx (gm (Nat.beq (len2 as) (F.params.size + F.nfree)) (om (initF (fn.map fun s => if s < F.params.size + F.nfree then some s else none) as) fun f => evF.fin (evC.cs (evC (evF FT pf fuel) pf (cC tt prim inv fn F.ntmps an A) f h nx) (evC (evF FT pf fuel) pf (cC tt prim inv fn F.ntmps an B))) rs)) = .ok v h' nx' := h2
  obtain ⟨hh0,hr0,hcutL⟩ := gcM_ok h2
  suffices hs : Calls P g vs.toArray w fun e w' => ∃ σ' u,e = .returned u ∧ Ext σ σ' ∧ den σ' v = some u ∧ Lay σ' hh0 w0 w' ∧ (∀ b,nx' ≤ b → σ' b = none) ∧ nx ≤ nx' ∧ ∀ b,b < nx → σ' b = σ b from
   hs.mono fun e w' ⟨σ',u,a1,a2,a3,a4,a5⟩ => ⟨σ',u,a1,a2,a3,hcutL σ' w' a4,a5⟩
  clear h2 hcutL
  obtain ⟨h3,h4⟩ := gm_ok hr0
  rw [beq_iff,len2_eq] at h3
  obtain ⟨f,h5,h6⟩ := om_ok h4
  have E := EnvR.enter hd h3 k6 k7 h5
  refine calls_of_wp_defers k1 k2 ?_
  have fin_ok : ∀ r : CR,evF.fin r rs = MR.ok v hh0 nx' → ∃ f1 h1 nx1,(r = .norm f1 h1 nx1 ∨ r = .ret f1 h1 nx1) ∧ ∃ us,evRVs rs f1 h1 = some us ∧ one us = v ∧ h1 = hh0 ∧ nx1 = nx' := fun r hr => by
   cases r with
   | no => cases hr
   | exit i f1 hh nx1 => cases hr
   | goto i f1 hh nx1 => cases hr
   | norm f1 hh nx1 =>
    have h6 : (om (evRVs rs f1 hh) fun vs => .ok (one vs) hh nx1) = MR.ok v hh0 nx' := hr
    obtain ⟨us,h7,h8⟩ := om_ok h6
    cases h8
    exact ⟨f1,_,_,.inl rfl,us,h7,rfl,rfl,rfl⟩
   | ret f1 hh nx1 =>
    have h6 : (om (evRVs rs f1 hh) fun vs => .ok (one vs) hh nx1) = MR.ok v hh0 nx' := hr
    obtain ⟨us,h7,h8⟩ := om_ok h6
    cases h8
    exact ⟨f1,_,_,.inr rfl,us,h7,rfl,rfl,rfl⟩
  have nA : evC (evF FT pf fuel) pf (cC tt prim inv fn F.ntmps an A) f h nx ≠ .no := fun e => by rw [e] at h6; cases h6
  refine wp_seq (wp_mono (cC_run T ih hP hI hm A k5.1 hG E hL hfr nA) fun e a' w' hp => ?_)
  cases e with
  | exit i =>
   obtain ⟨f2,h2',nx2,e1,o⟩ := hp
   rw [e1] at h6
   cases h6
  | goto i =>
   obtain ⟨f2,h2',nx2,e1,o⟩ := hp
   rw [e1] at h6
   cases h6
  | panic ch => exact hp.elim
  | outgrown => exact hp.elim
  | ret =>
   obtain ⟨f2,h2',nx2,e1,σ',o1,o2,o3,o4,o5,o6⟩ := hp
   rw [e1] at h6
   obtain ⟨f1,h1',nx1,hor,us,q1,q2,q3,q4⟩ := fin_ok _ h6
   rcases hor with e2 | e2
   ·cases e2
   ·cases e2
    subst q2; subst q3; subst q4
    exact leave_run T hrs q1 (hG.ext o1) o2 o3 (.inl rfl) fun u w'' hu L'' => ⟨σ',u,rfl,o1,hu,L'',o4,o5,o6⟩
  | normal =>
   obtain ⟨f2,h2',nx2,e1,σ',o1,o2,o3,o4,o5,o6⟩ := hp
   rw [e1] at h6
   have h6 : evF.fin (evC (evF FT pf fuel) pf (cC tt prim inv fn F.ntmps an B) f2 h2' nx2) rs = .ok v hh0 nx' := h6
   obtain ⟨f1,h1',nx1,hor,us,q1,q2,q3,q4⟩ := fin_ok _ h6
   subst q2; subst q3; subst q4
   obtain ⟨id,x,y,ty,ps,af,tys,ty2,ps2,af2,rfl⟩ := hR
   show (Code.seq _ B).wp P _ a' w'
   refine wp_seq (wp_dfrE o2.sz o2.df k8 ?_)
   show B.wp P _ _ w'
   have nB : evC (evF FT pf fuel) pf (cC tt prim inv fn F.ntmps an B) f2 h2' nx2 ≠ .no := fun e => by rw [e] at hor; rcases hor with h | h <;> cases h
   refine wp_mono (cC_run T ih hP hI hm B k5.2 (hG.ext o1) (o2.dfr k9 _) o3 o4 nB) fun e a'' w'' hp => ?_
   cases e with
   | exit i =>
    obtain ⟨f3,h3',nx3,e3,o⟩ := hp
    rw [e3] at hor
    rcases hor with h | h <;> cases h
   | goto i =>
    obtain ⟨f3,h3',nx3,e3,o⟩ := hp
    rw [e3] at hor
    rcases hor with h | h <;> cases h
   | panic ch => exact hp.elim
   | outgrown => exact hp.elim
   | ret =>
    obtain ⟨f3,h3',nx3,e3,σ'',p1,p2,p3,p4,p5,p6⟩ := hp
    rw [e3] at hor
    rcases hor with h | h
    ·cases h
    ·cases h
     exact leave_run T hrs q1 ((hG.ext o1).ext p1) p2 p3 (.inr ⟨dg,_,rfl,rfl,hdok⟩) fun u w3 hu L3 => ⟨σ'',u,rfl,o1.trans p1,hu,L3,p4,Nat.le_trans o5 p5,fun b hb => (p6 b (by omega)).trans (o6 b hb)⟩
   | normal =>
    obtain ⟨f3,h3',nx3,e3,σ'',p1,p2,p3,p4,p5,p6⟩ := hp
    rw [e3] at hor
    rcases hor with h | h
    ·cases h
     exact leave_run T hrs q1 ((hG.ext o1).ext p1) p2 p3 (.inr ⟨dg,_,rfl,rfl,hdok⟩) fun u w3 hu L3 => ⟨σ'',u,rfl,o1.trans p1,hu,L3,p4,Nat.le_trans o5 p5,fun b hb => (p6 b (by omega)).trans (o6 b hb)⟩
    ·cases h
 ·cases k4
theorem evF_ok {w0 : World} (T : Tabs P tt) (hP : PrimOk P pf w0) (hI : InvOk P inv) (hm : P.follows .mixedOrders = true) (hF : FtOk P tt prim inv FT) : ∀ fuel,CallOk P (evF FT pf fuel) w0 := by
 intro fuel
 induction fuel with
 | zero => intro g as h nx v h' nx' hr; cases hr
 | succ fuel ih =>
  intro g as h nx v h' nx' hr
  have hr : (om (FT.get g) fun fc => FC.rec (motive := fun _ => MR) (fun n init c rs gc => gcM gc nx (gm (Nat.beq (len2 as) n) (om (initF init as) fun f => evF.fin (evC (evF FT pf fuel) pf c f h nx) rs))) fc) = .ok v h' nx' := hr
  obtain ⟨fc,h1,h2⟩ := om_ok hr
  rcases hF g fc h1 with ⟨F,c,fn,an,gc,k1,k2,k3,k4,k5,k6,k7⟩ | hDf
  rotate_left
  ·exact evF_dfr T ih hP hI hm hDf h2
  refine ⟨k3,fun σ w vs hG hL hfr hd => ?_⟩
  simp only [cF,k2] at k4
  split at k4
  ·rename_i c0 rs hc0 hrs
   cases hc0
   cases k4
   have h2 : gcM gc nx (gm (Nat.beq (len2 as) (F.params.size + F.nfree)) (om (initF (fn.map fun s => if s < F.params.size + F.nfree then some s else none) as) fun f => evF.fin (evC (evF FT pf fuel) pf (cC tt prim inv fn F.ntmps an c) f h nx) rs)) = .ok v h' nx' := h2
   obtain ⟨hh0,hr0,hcutL⟩ := gcM_ok h2
   suffices hs : Calls P g vs.toArray w fun e w' => ∃ σ' u,e = .returned u ∧ Ext σ σ' ∧ den σ' v = some u ∧ Lay σ' hh0 w0 w' ∧ (∀ b,nx' ≤ b → σ' b = none) ∧ nx ≤ nx' ∧ ∀ b,b < nx → σ' b = σ b from
    hs.mono fun e w' ⟨σ',u,a1,a2,a3,a4,a5⟩ => ⟨σ',u,a1,a2,a3,hcutL σ' w' a4,a5⟩
   clear h2 hcutL
   obtain ⟨h3,h4⟩ := gm_ok hr0
   rw [beq_iff,len2_eq] at h3
   obtain ⟨f,h5,h6⟩ := om_ok h4
   have E := EnvR.enter hd h3 k6 k7 h5
   refine calls_of_wp k1 k2 ?_
   cases hr : evC (evF FT pf fuel) pf (cC tt prim inv fn F.ntmps an c) f h nx with
   | no => rw [hr] at h6; cases h6
   | exit i f1 hh nx1 => rw [hr] at h6; cases h6
   | goto i f1 hh nx1 => rw [hr] at h6; cases h6
   | norm f1 hh nx1 =>
    rw [hr] at h6
    have h6 : (om (evRVs rs f1 hh) fun vs => .ok (one vs) hh nx1) = MR.ok v hh0 nx' := h6
    obtain ⟨us,h7,h8⟩ := om_ok h6
    cases h8
    have W := cC_run T ih hP hI hm c k5 hG E hL hfr (by rw [hr]; intro e; cases e)
    rw [hr] at W
    refine wp_mono W fun e a' w' hp => ?_
    cases e <;> first | (obtain ⟨f2,h2',nx2,e1,o⟩ := hp; cases e1; done) | exact hp.elim | skip
    obtain ⟨f2,h2',nx2,e1,σ',o1,o2,o3,o4,o5,o6⟩ := hp
    cases e1
    obtain ⟨u,r1,r2⟩ := results_run T (o2.op (hG.ext o1)) o3 hrs h7
    exact ⟨o2.df,u,r2,σ',u,rfl,o1,r1,o3,o4,o5,o6⟩
   | ret f1 hh nx1 =>
    rw [hr] at h6
    have h6 : (om (evRVs rs f1 hh) fun vs => .ok (one vs) hh nx1) = MR.ok v hh0 nx' := h6
    obtain ⟨us,h7,h8⟩ := om_ok h6
    cases h8
    have W := cC_run T ih hP hI hm c k5 hG E hL hfr (by rw [hr]; intro e; cases e)
    rw [hr] at W
    refine wp_mono W fun e a' w' hp => ?_
    cases e <;> first | (obtain ⟨f2,h2',nx2,e1,o⟩ := hp; cases e1; done) | exact hp.elim | skip
    obtain ⟨f2,h2',nx2,e1,σ',o1,o2,o3,o4,o5,o6⟩ := hp
    cases e1
    obtain ⟨u,r1,r2⟩ := results_run T (o2.op (hG.ext o1)) o3 hrs h7
    exact ⟨o2.df,u,r2,σ',u,rfl,o1,r1,o3,o4,o5,o6⟩
  ·cases k4
end
end Go.Proofs.YteajeenmojbjhaaGreatDoor.Ev
namespace Go.Proofs.YteajeenmojbjhaaGreatDoor.Ev
open Go Fw
noncomputable def zrOkB (i : TypeInfo) (ag : Bool) (z : List AV) : Bool :=
 match i.zero with
 | none => false
 | some v => (match cvs v.cells.toList with | some l => beqVs l z | none => false) && (match v with | .agg _ => ag | _ => !ag)
theorem zrOk {i : TypeInfo} {ag : Bool} {z : List AV} (h : zrOkB i ag z = true) : ZeroOk i ag z := by
 unfold zrOkB at h
 split at h
 ·cases h
 ·rename_i v hv
  simp only [Bool.and_eq_true] at h
  obtain ⟨h1,h2⟩ := h
  split at h1
  ·rename_i l hl
   have := beqVs_eq h1
   subst this
   refine ⟨v,hv,fun σ => cvs_den (fun _ _ h => cv_den h) hl,?_,?_⟩
   ·split at h2
    ·subst h2; rfl
    ·have : ag = false := by simpa using h2
     subst this; rfl
   ·intro e
    subst e
    split at h2
    ·cases h2
    ·rename_i hne
     cases v <;> first | rfl | exact absurd rfl (hne _)
  ·cases h1
def stB (P : Program) : List (Nat × Nat × Bool) → List Field → Bool
 | [],[] => true
 | (off,sz,ag) :: l,f :: F => (Nat.beq f.offset off && (match P.info? f.type,P.underlying f.type with | some i,some d => Nat.beq i.size sz && (aggD d == ag) | _,_ => false)) && stB P l F
 | _,_ => false
theorem stB_ok {P : Program} : ∀ {fs : List (Nat × Nat × Bool)} {F : List Field},stB P fs F = true → F.length = fs.length ∧ ∀ (j off sz : Nat) (ag : Bool),(fs[j]? : Option (Nat × Nat × Bool)) = some (off,sz,ag) → ∃ (f : Field) (i : TypeInfo) (df : TypeDesc),(F[j]? : Option Field) = some f ∧ f.offset = off ∧ P.info? f.type = some i ∧ i.size = sz ∧ P.underlying f.type = some df ∧ aggD df = ag
 | [],[],_ => ⟨rfl,fun _ _ _ _ h => by simp at h⟩
 | [],_ :: _,h => by cases h
 | _ :: _,[],h => by simp [stB] at h
 | (off,sz,ag) :: l,f :: F,h => by
  simp only [stB,Bool.and_eq_true] at h
  obtain ⟨⟨h1,h2⟩,h3⟩ := h
  obtain ⟨h4,h5⟩ := stB_ok h3
  refine ⟨by simp [h4],fun j off' sz' ag' hj => ?_⟩
  cases j with
  | zero =>
   simp only [List.getElem?_cons_zero,Option.some.injEq,Prod.mk.injEq] at hj
   obtain ⟨rfl,rfl,rfl⟩ := hj
   split at h2
   ·rename_i i d hi hd
    simp only [Bool.and_eq_true,beq_iff] at h2
    exact ⟨f,i,d,rfl,beq_iff.1 h1,hi,h2.1,hd,by simpa using h2.2⟩
   ·cases h2
  | succ j => exact h5 j off' sz' ag' hj
def zagB (i : TypeInfo) : Bool := match i.zero with | some (.agg _) => true | _ => false
noncomputable def kdB (P : Program) (d : TypeDesc) : TK → Bool
 | .bool => match d with | .bool => true | _ => false
 | .int k => match d with | .int K => Nat.beq (kc K) k | _ => false
 | .str => match d with | .string => true | _ => false
 | .ptr e => match d with | .pointer e' => Nat.beq e' e | _ => false
 | .slc e sz eb z u8 => match d with
  | .slice e' => Nat.beq e' e && (match P.info? e with | some i => Nat.beq i.size sz && Nat.beq i.bytes eb && zrOkB i (zagB i) z && Nat.blt 0 eb && Nat.beq z.length sz | none => false) && (!u8 || match P.underlying e with | some (.int .u8) => true | _ => false)
  | _ => false
 | .arr n sz ag => match d with
  | .array n' e => Nat.beq n' n && (match P.info? e,P.underlying e with | some i,some de => Nat.beq i.size sz && (aggD de == ag) | _,_ => false)
  | _ => false
 | .st fs => match d with | .struct F => stB P fs F.toList | _ => false
 | .ifc => match d with | .interface _ => true | _ => false
 | .other => true
theorem kd_ok {P : Program} {d : TypeDesc} {k : TK} (h : kdB P d k = true) : KdOk P d k := by
 cases k with
 | bool => simp only [kdB] at h; split at h <;> first | rfl | cases h
 | int k =>
  simp only [kdB] at h; split at h
  ·rename_i K; exact ⟨K,rfl,beq_iff.1 h⟩
  ·cases h
 | str => simp only [kdB] at h; split at h <;> first | rfl | cases h
 | ptr e =>
  simp only [kdB] at h; split at h
  ·rw [beq_iff] at h; subst h; rfl
  ·cases h
 | slc e sz eb z u8 =>
  simp only [kdB] at h; split at h
  ·rename_i e'
   simp only [Bool.and_eq_true,Bool.or_eq_true] at h
   obtain ⟨⟨h1,h2⟩,h3⟩ := h
   rw [beq_iff] at h1
   subst h1
   split at h2
   ·rename_i i hi
    simp only [Bool.and_eq_true,beq_iff,blt_iff] at h2
    obtain ⟨⟨⟨⟨k1,k2⟩,k3⟩,k4⟩,k5⟩ := h2
    refine ⟨rfl,⟨i,zagB i,hi,k1,k2,zrOk k3,k4,k5⟩,fun hu => ?_⟩
    subst hu
    rcases h3 with h3 | h3
    ·cases h3
    ·split at h3
     ·assumption
     ·cases h3
   ·cases h2
  ·cases h
 | arr n sz ag =>
  simp only [kdB] at h; split at h
  ·rename_i n' e
   simp only [Bool.and_eq_true] at h
   obtain ⟨h1,h2⟩ := h
   rw [beq_iff] at h1
   subst h1
   split at h2
   ·rename_i i de hi hde
    simp only [Bool.and_eq_true,beq_iff] at h2
    exact ⟨e,i,de,rfl,hi,h2.1,hde,by simpa using h2.2⟩
   ·cases h2
  ·cases h
 | st fs =>
  simp only [kdB] at h; split at h
  ·rename_i F
   obtain ⟨h1,h2⟩ := stB_ok h
   exact ⟨F,rfl,by simpa using h1,fun j off sz ag hj => by simpa using h2 j off sz ag hj⟩
  ·cases h
 | ifc =>
  simp only [kdB] at h; split at h
  ·exact ⟨_,rfl⟩
  ·cases h
 | other => trivial
noncomputable def tyB (P : Program) (t : Nat) (ti : TI) : Bool :=
 match P.underlying t,P.info? t with
 | some d,some i => Nat.beq i.size ti.sz && (aggD d == ti.agg) && zrOkB i ti.agg ti.z && kdB P d ti.kd && (match ti.kd with | .ptr e => (match P.info? e with | some i => !Nat.beq i.size 0 | none => false) | _ => true) && Nat.beq ti.z.length ti.sz && (ti.agg || Nat.beq ti.sz 1)
 | _,_ => false
structure TyAll (P : Program) (t : Nat) (ti : TI) : Prop where
 ty : TyOk P t ti
 pz : ∀ e,ti.kd = .ptr e → ∃ i,P.info? e = some i ∧ i.size ≠ 0
 zl : ti.z.length = ti.sz
 s1 : ti.agg = false → ti.sz = 1
theorem tyB_ok {P : Program} {t : Nat} {ti : TI} (h : tyB P t ti = true) : TyAll P t ti := by
 unfold tyB at h
 split at h
 ·rename_i d i hd hi
  simp only [Bool.and_eq_true,Bool.or_eq_true] at h
  obtain ⟨⟨⟨⟨⟨⟨h1,h2⟩,h3⟩,h4⟩,h5⟩,h6⟩,h7⟩ := h
  refine ⟨⟨d,i,hd,hi,beq_iff.1 h1,by simpa using h2,zrOk h3,kd_ok h4⟩,fun e he => ?_,beq_iff.1 h6,fun e => ?_⟩
  ·rw [he] at h5
   simp only at h5
   split at h5
   ·rename_i i' hi'
    refine ⟨i',hi',fun e0 => ?_⟩
    rw [e0] at h5
    cases h5
   ·cases h5
  ·rw [e] at h7
   exact beq_iff.1 (h7.resolve_left (by simp))
 ·cases h
def Tb.All {α : Type} (Q : Nat → α → Prop) : Tb α → Nat → Nat → Prop
 | .nil,_,_ => True
 | .leaf x,o,_ => Q o x
 | .node l r,o,s => Tb.All Q l o (2 * s) ∧ Tb.All Q r (o + s) (2 * s)
theorem Tb.all_get {α : Type} {Q : Nat → α → Prop} : ∀ {t : Tb α} {o s q : Nat} {x : α},t.All Q o s → t.get q = some x → Q (o + s * q) x
 | .nil,_,_,_,_,_,h => by cases h
 | .leaf y,o,s,q,x,ha,h => by
  have h : bif2 (Nat.beq q 0) (some y) none = some x := h
  rw [bif2_if] at h
  split at h
  ·rename_i e
   rw [beq_iff] at e
   subst e; cases h
   exact ha
  ·cases h
 | .node l r,o,s,q,x,ha,h => by
  have h : (fN (Nat.div q 2) fun q' => bif2 (Nat.beq (Nat.mod q 2) 1) (r.get q') (l.get q')) = some x := h
  rw [fN_eq,bif2_if] at h
  have hq : q = 2 * Nat.div q 2 + Nat.mod q 2 := (Nat.div_add_mod q 2).symm
  have hlt : Nat.mod q 2 < 2 := Nat.mod_lt _ (by omega)
  split at h
  ·rename_i e
   rw [beq_iff] at e
   rw [e] at hq
   have := Tb.all_get ha.2 h
   have e2 : o + s + 2 * s * Nat.div q 2 = o + s * q := by
    conv => rhs; rw [hq]
    rw [Nat.mul_add,Nat.mul_one]; rw [show s * (2 * Nat.div q 2) = 2 * s * Nat.div q 2 by rw [← Nat.mul_assoc,Nat.mul_comm s 2]]; omega
   rw [e2] at this; exact this
  ·rename_i e
   have e0 : Nat.mod q 2 = 0 := by
    have : ¬ Nat.mod q 2 = 1 := fun h => e (beq_iff.2 h)
    omega
   rw [e0] at hq
   have := Tb.all_get ha.1 h
   have e2 : o + 2 * s * Nat.div q 2 = o + s * q := by
    conv => rhs; rw [hq]
    rw [Nat.add_zero,show s * (2 * Nat.div q 2) = 2 * s * Nat.div q 2 by rw [← Nat.mul_assoc,Nat.mul_comm s 2]]
   rw [e2] at this; exact this
noncomputable def orF (o : Option FC) : FC := match o with | some x => x | none => .mk 0 [] .no [] false
structure FnOk (P : Program) (tt : Nat → Option TI) (prim : Nat → Bool) (inv : String → List (Nat × Nat)) (g : Nat) (fc : FC) : Prop where
 ok : (∃ (F : Func) (c : Code) (fn : List Nat) (an : Ann) (gc : Bool),P.funcs[g]? = some F ∧ F.body = some c ∧ callB P g = true ∧ cF tt prim inv fn an gc F = some fc ∧ okC tt an c = true ∧ F.params.size + F.nfree ≤ F.ntmps ∧ ∀ s ∈ fn,s < F.ntmps) ∨
  (∃ (F : Func) (A R B : Code) (d dg : Nat) (fn : List Nat) (an : Ann) (gc : Bool),
   P.funcs[g]? = some F ∧ F.body = some (.seq A (.seq R B)) ∧ callB P g = true ∧ IsDfr R d dg ∧ DefOk P dg ∧ cF tt prim inv fn an gc { F with body := some (.seq A B) } = some fc ∧ okC tt an (.seq A B) = true ∧ F.params.size + F.nfree ≤ F.ntmps ∧ (∀ s ∈ fn,s < F.ntmps) ∧ d < F.ntmps ∧ d ∉ fn)
def okF (tt : Nat → Option TI) (prim : Nat → Bool) (inv : String → List (Nat × Nat)) (fn : List Nat) (an : Ann) (F : Func) : Bool :=
 (match F.body with | some c => okC tt an c | none => false) && Nat.ble (F.params.size + F.nfree) F.ntmps && fn.all fun s => Nat.blt s F.ntmps
theorem okF_ok {tt : Nat → Option TI} {prim : Nat → Bool} {inv : String → List (Nat × Nat)} {fn : List Nat} {an : Ann} {F : Func} (ho : okF tt prim inv fn an F = true) : ∃ c,F.body = some c ∧ okC tt an c = true ∧ F.params.size + F.nfree ≤ F.ntmps ∧ ∀ s ∈ fn,s < F.ntmps := by
 unfold okF at ho
 simp only [Bool.and_eq_true] at ho
 obtain ⟨⟨h1,h2⟩,h3⟩ := ho
 split at h1
 ·rename_i c hb
  exact ⟨c,hb,h1,Nat.le_of_ble_eq_true h2,fun s hs => blt_iff.1 (List.all_eq_true.1 h3 s hs)⟩
 ·cases h1
theorem fnOk {P : Program} {tt : Nat → Option TI} {prim : Nat → Bool} {inv : String → List (Nat × Nat)} {g : Nat} {F : Func} {fn : List Nat} {an : Ann} {gc : Bool} (hg : P.funcs[g]? = some F) (hB : callB P g = true)
  (hc : (cF tt prim inv fn an gc F).isSome = true) (ho : okF tt prim inv fn an F = true) : FnOk P tt prim inv g (orF (cF tt prim inv fn an gc F)) := by
 obtain ⟨c,hb,h1,h2,h3⟩ := okF_ok ho
 refine ⟨.inl ⟨F,c,fn,an,gc,hg,hb,hB,?_,h1,h2,h3⟩⟩
 cases h : cF tt prim inv fn an gc F with
 | none => rw [h] at hc; cases hc
 | some x => rfl
def bA : Option Code → Code | some (.seq A (.seq _ _)) => A | _ => .skip
def bR : Option Code → Code | some (.seq _ (.seq R _)) => R | _ => .skip
def bB : Option Code → Code | some (.seq _ (.seq _ B)) => B | _ => .skip
def isB3 : Option Code → Bool | some (.seq _ (.seq _ _)) => true | _ => false
def isDfrB (d g : Nat) : Code → Bool
 | .region _ ⟨[⟨some d',.makeFunc (.func g') ⟨[]⟩ ⟨[_,_]⟩,_,_,_,none⟩,⟨none,.defer ⟨.value (.tmp d''),⟨[]⟩,_⟩,_,_,_,none⟩]⟩ false => Nat.beq d' d && Nat.beq g' g && Nat.beq d'' d
 | _ => false
theorem isDfrB_ok {d g : Nat} {R : Code} (h : isDfrB d g R = true) : IsDfr R d g := by
 unfold isDfrB at h
 split at h
 ·simp only [Bool.and_eq_true,beq_iff] at h
  obtain ⟨⟨rfl,rfl⟩,rfl⟩ := h
  exact ⟨_,_,_,_,_,_,_,_,_,_,rfl⟩
 ·cases h
noncomputable def cut3 (F : Func) : Func := { F with body := some (.seq (bA F.body) (bB F.body)) }
theorem fnOkD {P : Program} {tt : Nat → Option TI} {prim : Nat → Bool} {inv : String → List (Nat × Nat)} {g d dg : Nat} {F : Func} {fn : List Nat} {an : Ann} {gc : Bool} (hdf : DefOk P dg) (hg : P.funcs[g]? = some F) (hB : callB P g = true)
  (hc : (cF tt prim inv fn an gc (cut3 F)).isSome = true) (ho : okF tt prim inv fn an (cut3 F) = true) (hb : (isB3 F.body && isDfrB d dg (bR F.body) && Nat.blt d F.ntmps && !(fn.any (Nat.beq d))) = true) : FnOk P tt prim inv g (orF (cF tt prim inv fn an gc (cut3 F))) := by
 obtain ⟨c,hb',h1,h2,h3⟩ := okF_ok ho
 cases hb'
 simp only [Bool.and_eq_true,Bool.not_eq_true'] at hb
 obtain ⟨⟨⟨b1,b2⟩,b3⟩,b4⟩ := hb
 refine ⟨.inr ⟨F,bA F.body,bR F.body,bB F.body,d,dg,fn,an,gc,hg,?_,hB,isDfrB_ok b2,hdf,?_,h1,h2,h3,blt_iff.1 b3,fun hm => ?_⟩⟩
 ·unfold isB3 at b1
  split at b1
  ·rename_i h; rw [h]; rfl
  ·cases b1
 ·show cF tt prim inv fn an gc (cut3 F) = _
  cases h : cF tt prim inv fn an gc (cut3 F) with
  | none => rw [h] at hc; cases hc
  | some x => rfl
 ·rw [List.any_eq_false] at b4
  exact b4 d hm (beq_iff.2 rfl)
theorem ftOk {P : Program} {tt : Nat → Option TI} {prim : Nat → Bool} {inv : String → List (Nat × Nat)} {FT : Tb FC} (h : FT.All (FnOk P tt prim inv) 0 1) : FtOk P tt prim inv FT := fun g fc hg => by
 have := Tb.all_get h hg
 simpa using this.ok
end Go.Proofs.YteajeenmojbjhaaGreatDoor.Ev
