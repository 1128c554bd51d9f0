/- ZL of the seat. -/
import Derived.Test.YteajeenmojbjhaaGreatDoorP15
import Derived.Test.YteajeenmojbjhaaGreatDoorP2
import Derived.Test.YteajeenmojbjhaaGreatDoorRows
import Derived.LaidMore
import Derived.LaidHandle
import Derived.MakeChecks
import Derived.OpenShut
import Derived.Stop.Joined
namespace Go.Proofs.YteajeenmojbjhaaGreatDoor
open Go Fw
namespace Ev
open Go.ChangeShapes Go.WideShapes Go.ChangeAt Go.RowKit
def N0 : List Int := [1779033703,3144134277,1013904242,2773480762,1359893119,2600822924,528734635,1541459225]
def N2 : List Int := [1116352408,1899447441,3049323471,3921009573,961987163,1508970993,2453635748,2870763221,3624381080,310598401,607225278,1426881987,1925078388,2162078206,2614888103,3248222580,3835390401,4022224774,264347078,604807628,770255983,1249150122,1555081692,1996064986,2554220882,2821834349,2952996808,3210313671,3336571891,3584528711,113926993,338241895,666307205,773529912,1294757372,1396182291,1695183700,1986661051,2177026350,2456956037,2730485921,2820302411,3259730800,3345764771,3516065817,3600352804,4094571909,275423344,430227734,506948616,659060556,883997877,958139571,1322822218,1537002063,1747873779,1955562222,2024104815,2227730452,2361852424,2428436474,2756734187,3204031479,3329325298]
theorem v0N : V0 = N0.map (Value.int .u32) := rfl
theorem v2N : V2 = N2.map (Value.int .u32) := rfl
section
variable {H : Type} {enc : TypeId × Value → H} {P : Program} {w : World} {base : Nat} {sp : Nat → Bool} {held : Bool}
theorem arr_cells {t e n fuel : Nat} {ns : List Int} {cs : List Value} {p : List MemPlace} (ht : P.underlying t = some (.array n e)) (he : P.underlying e = some (.int .u32)) (hc : P.cellsOf e = 1) (hct : P.cellsOf t = n) (hl : ns.length = n)
  (h : DataW.trod enc P w base sp held fuel t cs = some (.agg (ns.map fun k => .lit (.int .u32 k)),p)) : cs = ns.map (Value.int .u32) := by
 obtain ⟨xs,m,_,hx,hlen,hxl,hel⟩ := DataW.trod_array ht h
 simp only [Prod.mk.injEq,DataW.agg.injEq] at hx
 refine List.ext_getElem? fun i => ?_
 rcases Nat.lt_or_ge i n with hi | hi
 ·have h1 := hel i hi
  rw [hc,Nat.mul_one] at h1
  have hil : i < cs.length := by omega
  have h3 : (cs.drop i).take 1 = [cs[i]] := by rw [List.drop_eq_getElem_cons hil]; rfl
  have h2 : xs[i]? = some xs[i] := List.getElem?_eq_getElem (by omega)
  rw [h3,h2] at h1
  obtain ⟨k,e1,e2,_⟩ := DataW.trod_int he h1
  simp only [List.cons.injEq,and_true] at e1
  have h4 := congrArg (fun l => l[i]?) hx.1
  simp only [List.getElem?_map,h2,Option.map_some] at h4
  rw [e2] at h4
  have hni : ns[i]? = some ns[i] := List.getElem?_eq_getElem (by omega)
  rw [hni] at h4
  simp at h4
  rw [List.getElem?_eq_getElem hil,e1,List.getElem?_map,hni,h4]
  rfl
 ·rw [List.getElem?_eq_none (by omega),List.getElem?_eq_none (by simp; omega)]
theorem var_blk {name : String} {g : Nat} {cs : Array Value} (hg : P.globalNamed name = some g) (h : w.var? P name = some cs) : ∃ fz : TypeId × Nat × Nat,w.heap[g]? = some (.cells cs fz.1 fz.2) := by
 simp only [World.var?,hg,Option.bind_some] at h
 split at h
 ·rename_i T fz hh
  cases h
  exact ⟨(T,fz),hh⟩
 ·cases h
end
theorem g0 : Tryz.prog.globalNamed "sandglass/sha.first" = some 0 := by kernel_rfl
theorem g2 : Tryz.prog.globalNamed "sandglass/sha.rounds" = some 2 := by kernel_rfl
theorem t0 : (Tryz.prog.globals[0]?).map (·.type) = some 209 := by kernel_rfl
theorem t2 : (Tryz.prog.globals[2]?).map (·.type) = some 299 := by kernel_rfl
theorem u209 : Tryz.prog.underlying 209 = some (.array 8 208) := by kernel_rfl
theorem u299 : Tryz.prog.underlying 299 = some (.array 64 208) := by kernel_rfl
theorem u208 : Tryz.prog.underlying 208 = some (.int .u32) := by kernel_rfl
theorem cs208 : Tryz.prog.cellsOf 208 = 1 := by kernel_rfl
theorem cs209 : Tryz.prog.cellsOf 209 = 8 := by kernel_rfl
theorem cs299 : Tryz.prog.cellsOf 299 = 64 := by kernel_rfl
noncomputable abbrev laidT : List (String × DataW Unit) := [("sandglass/sha.first",Rows.laid_sandglass_sha_first),("sandglass/sha.rounds",Rows.laid_sandglass_sha_rounds)]
theorem of_laid {W : World} (h : laidMetH Tryz.prog laidT W) : GW W := by
 rw [MakeChecks.laidMetH_plain _ _ _ (by kernel_rfl)] at h
 obtain ⟨ps,⟨g0',t0',cs0,f0,p0,q0,hg0,ht0,hv0,hd0,⟨g1',t1',cs1,f1,p1,q1,hg1,ht1,hv1,hd1,_,_⟩,_⟩,_,_⟩ := h
 obtain rfl := Option.some.inj (g0.symm.trans hg0)
 obtain rfl := Option.some.inj (g2.symm.trans hg1)
 obtain rfl := Option.some.inj (t0.symm.trans ht0)
 obtain rfl := Option.some.inj (t2.symm.trans ht1)
 have e0 := arr_cells (ns := N0) u209 u208 cs208 cs209 rfl hd0
 have e1 := arr_cells (ns := N2) u299 u208 cs208 cs299 rfl hd1
 obtain ⟨fz0,b0⟩ := var_blk g0 hv0
 obtain ⟨fz1,b1⟩ := var_blk g2 hv1
 refine ⟨⟨fz0,?_⟩,⟨fz1,?_⟩⟩
 ·rw [b0,v0N,← e0]
 ·rw [b1,v2N,← e1]
theorem door_met (os : Os) (args : Array Value) : laidMetH Tryz.prog laidT ((World.doorLaid Tryz.prog 400 os).forCall (fun _ _ => 0) ⟨#[],args,[]⟩).memory :=
 laidMetH_of_parts3 (fuel := 8) (laidMet_of_run' 8 (by kernel_rfl) (by kernel_rfl)) (by kernel_rfl) (by kernel_rfl)
end Ev
end Go.Proofs.YteajeenmojbjhaaGreatDoor
