/-
  Closures; an array's value indexed; parts of great blocks.
-/
import Derived.Test.YtboibdmflblphaaFw9
namespace Go.Proofs.Ytboibdmflblphaa.Fw
open Go
section
variable {P : Program} {ops : List Oper} {cl : List Cls} {bad : List (Nat × Nat)} {Q : Act → World → Prop} {n k d : Nat} {t : Ot} {L : Pend} {a : Act} {w : World} {l : List (Nat × Value)}
variable {ty : TypeId} {ps : String} {af : Array Edge} {g : Option (Nat × Bool)}

theorem s_mkf {fn : Fn} {first captured : Array Operand} {fs cs : List Value} (F : Fr n a l) (ho : nth ops k = some ⟨some d, .makeFunc fn first captured, ty, ps, af, g⟩) (hw : wn ops l g = some true) (hc : nth cl k = some .ind) (hlt : Nat.blt d n = true)
    (hf : evs l first.toList = some fs) (hcs : evs l captured.toList = some cs) (h : ∀ a', Fr n a' ((d, .func fn fs.toArray cs.toArray) :: l) → trunT P ops cl bad Q t L a' w) : trunT P ops cl bad Q (.one k t) L a w := by
  refine s_ind F ho hw hc rfl hlt (fun w' => ?_) h
  have e1 : first.map a.eval = fs.toArray := by
    have := F.evs hf
    apply Array.toList_inj.1
    simpa using this
  have e2 : captured.map a.eval = cs.toArray := by
    have := F.evs hcs
    apply Array.toList_inj.1
    simpa using this
  simp [execOp, Instr.makeFunc, e1, e2]

theorem part_agg {e sz : Nat} (hs : aggB P e = some sz) {cs : Array Value} {o : Nat} (w : World) : (part e cs o).run P w = .ok (.agg (cs.extract o (o + sz))) w := by
  unfold aggB at hs
  split at hs <;> try (cases hs; done)
  all_goals
    simp only [Option.some.injEq] at hs
    rename_i h1 h2
    have h3 : (isAgg e).run P w = .ok true w := by simp [isAgg, run_underlying h1]
    have h4 : (sizeOf e).run P w = .ok sz w := by simp [sizeOf, typeInfo, h2, hs]
    simp only [part, Sem.run_bind, h3, h4, Result.andThen_ok, if_true, Sem.run_pure]
def arrE (P : Program) (t : TypeId) : Option (Nat × TypeId × Nat) :=
  match P.underlying t with
  | some (.array n e) => match aggB P e, P.info? e with
    | some sz, some i => if i.size = sz then some (n, e, sz) else none
    | _, _ => none
  | _ => none
theorem s_idx {T e : TypeId} {x y : Operand} {m sz : Nat} {i : Int} {cs vs : Array Value} (F : Fr n a l) (ho : nth ops k = some ⟨some d, .index T x y, ty, ps, af, g⟩) (hw : wn ops l g = some true) (hc : nth cl k = some .ind) (hlt : Nat.blt d n = true)
    (hT : arrE P T = some (m, e, sz)) (hx : ev l x = some (.agg cs)) (hy : ev l y = some (.int .i64 i)) (h0 : 0 ≤ i) (h1 : i < m) (hv : cs.extract (i.toNat * sz) (i.toNat * sz + sz) = vs)
    (h : ∀ a', Fr n a' ((d, .agg vs) :: l) → trunT P ops cl bad Q t L a' w) : trunT P ops cl bad Q (.one k t) L a w := by
  refine s_ind F ho hw hc rfl hlt (fun w' => ?_) h
  unfold arrE at hT
  split at hT
  · rename_i n' e' hu
    split at hT
    · rename_i s' i' hs hi
      split at hT
      · rename_i hsz
        simp only [Option.some.injEq, Prod.mk.injEq] at hT
        obtain ⟨rfl, rfl, rfl⟩ := hT
        subst hv
        simp [execOp, F.ev hx, F.ev hy, Instr.index, asIntOf, run_underlying hu, h0, h1, sizeOf, typeInfo, hi, hsz, part_agg hs]
      · cases hT
    · cases hT
  · cases hT
theorem parts5 {i0 i1 i2 i3 i4 : Nat} {x0 x1 x2 x3 x4 : Operand} {v0 v1 v2 v3 v4 : Value} (F : Fr n a l) (h0 : ev l x0 = some v0) (h1 : ev l x1 = some v1) (h2 : ev l x2 = some v2) (h3 : ev l x3 = some v3) (h4 : ev l x4 = some v4) : (#[(i0, x0), (i1, x1), (i2, x2), (i3, x3), (i4, x4)] : Array (Nat × Operand)).map (fun (i, x) => (i, a.eval x)) = #[(i0, v0), (i1, v1), (i2, v2), (i3, v3), (i4, v4)] := by simp [F.ev h0, F.ev h1, F.ev h2, F.ev h3, F.ev h4]
theorem parts7 {i0 i1 i2 i3 i4 i5 i6 : Nat} {x0 x1 x2 x3 x4 x5 x6 : Operand} {v0 v1 v2 v3 v4 v5 v6 : Value} (F : Fr n a l) (h0 : ev l x0 = some v0) (h1 : ev l x1 = some v1) (h2 : ev l x2 = some v2) (h3 : ev l x3 = some v3) (h4 : ev l x4 = some v4) (h5 : ev l x5 = some v5) (h6 : ev l x6 = some v6) : (#[(i0, x0), (i1, x1), (i2, x2), (i3, x3), (i4, x4), (i5, x5), (i6, x6)] : Array (Nat × Operand)).map (fun (i, x) => (i, a.eval x)) = #[(i0, v0), (i1, v1), (i2, v2), (i3, v3), (i4, v4), (i5, v5), (i6, v6)] := by simp [F.ev h0, F.ev h1, F.ev h2, F.ev h3, F.ev h4, F.ev h5, F.ev h6]
theorem parts8 {i0 i1 i2 i3 i4 i5 i6 i7 : Nat} {x0 x1 x2 x3 x4 x5 x6 x7 : Operand} {v0 v1 v2 v3 v4 v5 v6 v7 : Value} (F : Fr n a l) (h0 : ev l x0 = some v0) (h1 : ev l x1 = some v1) (h2 : ev l x2 = some v2) (h3 : ev l x3 = some v3) (h4 : ev l x4 = some v4) (h5 : ev l x5 = some v5) (h6 : ev l x6 = some v6) (h7 : ev l x7 = some v7) : (#[(i0, x0), (i1, x1), (i2, x2), (i3, x3), (i4, x4), (i5, x5), (i6, x6), (i7, x7)] : Array (Nat × Operand)).map (fun (i, x) => (i, a.eval x)) = #[(i0, v0), (i1, v1), (i2, v2), (i3, v3), (i4, v4), (i5, v5), (i6, v6), (i7, v7)] := by simp [F.ev h0, F.ev h1, F.ev h2, F.ev h3, F.ev h4, F.ev h5, F.ev h6, F.ev h7]
/-- A call of a closure. -/
theorem s_clo {α : Type} {S : Nat → Prop} {w0 : World} {fo : Operand} {args : Array Operand} {tys : Array TypeId} {f : FuncId} {fs cs all : Array Value} {vs : List Value} {m r : List Res} {post : Value → α → Prop} {mm : α → List Res}
    (F : Fr n a l) (M : Sep S w0 w (m ++ r)) (ho : nth ops k = some ⟨some d, .call ⟨.value fo, args, tys⟩, ty, ps, af, g⟩) (hw : wn ops l g = some true) (hc : nth cl k = some .wr) (hlt : Nat.blt d n = true)
    (hf : ev l fo = some (.func (.func f) fs cs)) (ha : evs l args.toList = some vs) (hA : fs ++ vs.toArray ++ cs = all) (hB : callB P f = true) (hcall : ∀ n, Cl P f all (w.drewN n) (RetS m (w.drewN n) post mm))
    (hp : ∀ v x w', post v x → Sep S w0 w' (mm x ++ r) → pend bad k L w')
    (h : ∀ v x w', post v x → Sep S w0 w' (mm x ++ r) → ∀ a', Fr n a' ((d, v) :: l) → trunT P ops cl bad Q t L a' w') : trunT P ops cl bad Q (.one k t) L a w :=
  s_callL F M ho hw hc hlt hf ha hB (fun n => hA ▸ hcall n) hp h
end
theorem roF {S : Nat → Prop} {w0 w : World} {p : Res} {r : List Res} (M : Sep S w0 w (p :: r)) : Ro (fun _ => False) w p :=
  ⟨M.h0, fun b hb => ⟨M.own.lt b (List.mem_flatMap.2 ⟨p, List.mem_cons_self, hb⟩), id⟩⟩
/-- A part of a great block. -/
theorem cells_F {w : World} {b N off m : Nat} {f : Nat → Value} {T : TypeId} {fz : Nat × Nat} {cs : Array Value} (hb : w.heap[b]? = some (.cells (cellsF N f) T fz)) (hcs : cs = cellsF m fun j => f (off + j)) (hm : off + m ≤ N) : ∀ j v, cs[j]? = some v → w.cell? ((⟨b, off, none⟩ : Addr).add j) = some v := fun j v hv => by
  rw [add_at]
  rw [hcs] at hv
  have hj : j < m := by
    rcases Nat.lt_or_ge j m with h | h
    · exact h
    · rw [Array.getElem?_eq_none (by rw [cellsF_size]; exact h)] at hv; cases hv
  refine cell_of_blk hb (gf ?_ (by omega))
  rw [gf rfl hj] at hv
  exact Option.some.inj hv
theorem extractF {N o m : Nat} {f : Nat → Value} (h : o + m ≤ N) : (cellsF N f).extract o (o + m) = cellsF m fun j => f (o + j) := by
  apply Array.ext
  · simp [cellsF]; omega
  · intro j h1 h2
    simp [cellsF]
theorem cellsF_eq {N : Nat} {f g : Nat → Value} (h : ∀ j, j < N → f j = g j) : cellsF N f = cellsF N g := by
  unfold cellsF
  congr 1
  exact List.map_congr_left fun j hj => h j (List.mem_range.1 hj)
end Go.Proofs.Ytboibdmflblphaa.Fw
