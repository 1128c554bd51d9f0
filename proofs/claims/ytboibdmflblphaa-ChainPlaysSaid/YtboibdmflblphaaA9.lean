/- A9 of the seat. -/
import Derived.Test.YtboibdmflblphaaA8
namespace Go.Proofs.Ytboibdmflblphaa
open Go Fw
open VoteM AgrM

theorem Fw.Sep.join {S : Nat → Prop} {w0 w : World} {r : List Res} {L : List Res} (M : Sep S w0 w (L ++ r)) : Sep S w0 w (bigR id L :: r) :=
 Sep.regroup (m := L) (m' := [bigR id L]) M (by simp [foots, bigR]) fun hk x hx => by
   simp only [List.mem_cons, List.not_mem_nil, or_false] at hx
   subst hx
   exact hk
theorem Fw.Sep.unjoin {S : Nat → Prop} {w0 w : World} {r : List Res} {L : List Res} (M : Sep S w0 w (bigR id L :: r)) : Sep S w0 w (L ++ r) :=
 Sep.regroup (m := [bigR id L]) (m' := L) M (by simp [foots, bigR]) fun hk x hx => hk (bigR id L) (by simp) x hx
structure Ga where
 b : Nat
 vb : Nat
 vv : Value
/-- A part, whole. -/
def agR (g : Ga) (st : ASt) : Res := bigR id [blk g.b (aO st g.vb .nilFunc), votR g.vb g.vv st.n st.t st.L]
theorem ag_foot (g : Ga) (st : ASt) : foots [agR g st] = foots [blk g.b (aO st g.vb .nilFunc), votR g.vb g.vv st.n st.t st.L] := by simp [foots, agR, bigR]
theorem ag_blk {h : Array Obj} {g : Ga} {st : ASt} (hk : (agR g st).ok h) : h[g.b]? = some (aO st g.vb .nilFunc) := hk (blk g.b (aO st g.vb .nilFunc)) (by simp)
theorem ag_own {h : Array Obj} {g : Ga} {st : ASt} (ho : Own h [agR g st]) : Own h [blk g.b (aO st g.vb .nilFunc), votR g.vb g.vv st.n st.t st.L] := by
 have hk := ho.ok _ List.mem_cons_self
 refine ⟨fun x hx => hk x hx, fun b hb => ho.lt b (ag_foot g st ▸ hb), ag_foot g st ▸ ho.nd⟩
theorem c39r (n t me h : Int) (s : ByteArray) (hk : okA n t me h s = true) (w0 : World) : Cl Try.prog 39 #[.int .i64 n, .int .i64 t, .int .i64 me, .int .i64 h, .string s] w0 (RetS [] w0 (fun v (g : Ga) => v = .pointer (some ⟨g.b, 0, none⟩)) fun g => [agR g (newA n t me h s)]) := by
 refine ⟨(c39 n t me h s hk w0).out.mono ?_⟩
 rintro _ w' ⟨v, x, e, hp, hc⟩
 refine ⟨v, ⟨x.1, x.2, .slice none 0 0⟩, e, hp, ?_⟩
 exact Fw.Sep.join (L := [blk x.1 (aO (newA n t me h s) x.2 .nilFunc), votR x.2 (.slice none 0 0) n t []]) (r := []) hc
theorem c41r (g : Ga) (st : ASt) (q : Wrd) (W : st.Wf) (w0 : World) (ho : Own w0.heap [agR g st]) : Cl Try.prog 41 #[.pointer (some ⟨g.b, 0, none⟩), wrdV q] w0 (RetS [agR g st] w0 (fun v (x : Value × Value) => v = x.2) fun x => [agR ⟨g.b, g.vb, x.1⟩ (st.take q).1, wsR x.2 (st.take q).2]) := by
 refine ((c41 g.b g.vb g.vv st q W w0 (ag_own ho)).foots (ag_foot g st).symm).memS fun S x w' M => ?_
 have T := take_took W q
 have M1 := Fw.Sep.votTo M.f1 T.n T.t rfl
 exact Fw.Sep.join (L := [blk g.b (aO (st.take q).1 g.vb .nilFunc), votR g.vb x.1 (st.take q).1.n (st.take q).1.t (st.take q).1.L]) M1.f1
theorem c44r (g : Ga) (st : ASt) (w0 : World) (ho : Own w0.heap [agR g st]) : Cl Try.prog 44 #[.pointer (some ⟨g.b, 0, none⟩)] w0 (RetS [agR g st] w0 (fun v (x : Value) => v = x) fun x => [agR g st.start, wsR x st.startO]) := by
 have ho' := ag_own ho
 have e : foots [blk g.b (aO st g.vb .nilFunc), votR g.vb g.vv st.n st.t st.L] = foots [agR g st] := (ag_foot g st).symm
 refine ⟨(c44 g.b g.vb st w0 (Own.left (m := [_]) ho')).out.mono ?_⟩
 rintro _ w' ⟨v, x, e1, hp, hc⟩
 refine ⟨v, x, e1, hp, ?_⟩
 have M0 : Sep (fun b => b ∈ foots [agR g st]) w0 w0 [blk g.b (aO st g.vb .nilFunc), votR g.vb g.vv st.n st.t st.L] := by rw [← e]; exact Sep.start ho'
 have M1 := Sep.frame (m := [blk g.b (aO st g.vb .nilFunc)]) (r := [votR g.vb g.vv st.n st.t st.L]) M0 hc
 have T := start_same st
 have M2 := Fw.Sep.votTo M1.f2 T.n T.t T.L
 exact Fw.Sep.join (L := [blk g.b (aO st.start g.vb .nilFunc), votR g.vb g.vv st.start.n st.start.t st.start.L]) M2.f1
theorem c46r (g : Ga) (st : ASt) (w0 : World) (hk : (agR g st).ok w0.heap) : Cl Try.prog 46 #[.pointer (some ⟨g.b, 0, none⟩)] w0 (RetQ w0 fun v => v = .tuple #[.int .i64 st.round, .int .i64 st.step]) := c46 g.b g.vb _ st w0 (ag_blk hk)
theorem c48r (g : Ga) (st : ASt) (w0 : World) (hk : (agR g st).ok w0.heap) : Cl Try.prog 48 #[.pointer (some ⟨g.b, 0, none⟩)] w0 (RetQ w0 fun v => v = .tuple #[.string st.dec, .bool st.done]) := c48 g.b g.vb _ st w0 (ag_blk hk)

/-! ### the example -/
end Go.Proofs.Ytboibdmflblphaa
