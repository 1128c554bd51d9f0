/- K2 of the seat. -/
import Derived.Test.YtibomfgeemhogaaK1
namespace Go.Proofs.Ytibomfgeemhogaa
open Go Fw
theorem cb_12_K2 : callB Try.prog 12 = true := by kernel_rfl
theorem bl_102_0_1_2_K2 : ∀ (x0 : Int) (x1 : Int) (x2 : Option Nat), ∀ w : World, (Instr.build 102 #[(0, .int .i64 x0), (1, .int .i64 x1), (2, .map x2)]).run Try.prog w = .ok (.agg #[.int .i64 x0, .int .i64 x1, .map x2, .slice none 0 0, .slice none 0 0, .slice none 0 0, .slice none 0 0, .slice none 0 0, .slice none 0 0, .slice none 0 0, .slice none 0 0]) w := by intros; kernel_rfl
open CastM CasM

def nilV : Nat → Value := fun _ => .slice none 0 0
theorem kO_new (n t : Int) (mb : Nat) : Obj.cells #[.int .i64 n, .int .i64 t, .map (some mb), .slice none 0 0, .slice none 0 0, .slice none 0 0, .slice none 0 0, .slice none 0 0, .slice none 0 0, .slice none 0 0, .slice none 0 0] 102 (0, 0) = kO n t mb nilV := by rfl
section
variable {S : Nat → Prop} {w0 w : World} {r : List Res} {g : Gh} {K : KSt} {n t : Int} {b mb : Nat} {v : Value} {k : Key} {c : CSt}
theorem Fw.Sep.join {L : List Res} (M : Sep S w0 w (L ++ r)) : Sep S w0 w (bigR id L :: r) :=
  Sep.regroup (m := L) (m' := [bigR id L]) M (by simp [foots, bigR]) fun hk x hx => by
    simp only [List.mem_cons, List.not_mem_nil, or_false] at hx
    subst hx
    exact hk
theorem Fw.Sep.unjoin {L : List Res} (M : Sep S w0 w (bigR id L :: r)) : Sep S w0 w (L ++ r) :=
  Sep.regroup (m := [bigR id L]) (m' := L) M (by simp [foots, bigR]) fun hk x hx => hk (bigR id L) (by simp) x hx
theorem Fw.Sep.kNew (M : Sep S w0 w (mapR encK mb (fun _ => none) 0 :: blk b (kO n t mb nilV) :: r)) : Sep S w0 w (kR ⟨b, mb, fun _ => (0, 0), nilV⟩ (newK n t) :: r) := by
  have M1 := (M.mapEq (D' := ptrD (newK n t) fun _ => (0, 0)) (N' := (newK n t).ks.length) (fun k => by simp [ptrD, newK]) rfl).f1
  have M2 := (M1.bigNil (f := fun k => castR ((fun _ : Key => ((0, 0) : Nat × Nat)) k).1 ((fun _ : Key => ((0, 0) : Nat × Nat)) k).2 ((newK n t).C k))).pureIn (q := kT nilV (newK n t).T) (by rfl) (fun i hi => ⟨by simp [newK], .inl ⟨rfl, by simp [newK]⟩⟩)
  exact Fw.Sep.kShut (g := ⟨b, mb, fun _ => (0, 0), nilV⟩) (K := newK n t) M2.f1.f3.f3
/-- All but one part. -/
def kX (g : Gh) (K : KSt) (k : Key) : Res := bigR id [blk g.b (kO K.n K.t g.mb g.tv), kM K g.E g.mb, kC K g.E (K.ks.erase k), kT g.tv K.T]
theorem Fw.Sep.castOut (M : Sep S w0 w (kR g K :: r)) (hk : k ∈ K.ks) : Sep S w0 w (castR (g.E k).1 (g.E k).2 (K.C k) :: kX g K k :: r) := by
  have M1 := M.kOpen.f2
  have M2 := (M1.bigPerm (List.perm_cons_erase hk)).bigUncons
  exact (Fw.Sep.join (L := [blk g.b (kO K.n K.t g.mb g.tv), kM K g.E g.mb, kC K g.E (K.ks.erase k), kT g.tv K.T]) M2.f4.f2.f4.f4).f1
theorem Fw.Sep.castIn (M : Sep S w0 w (castR (g.E k).1 (g.E k).2 c :: kX g K k :: r)) (hk : k ∈ K.ks) (hn : K.ks.Nodup) : Sep S w0 w (kR g (K.set k c) :: r) := by
  have M1 := (Fw.Sep.unjoin M.f1).f2
  have M2 := M1.bigCongr (g := fun x => castR (g.E x).1 (g.E x).2 ((K.set k c).C x)) (fun x hx => by
    have : x ≠ k := fun e => (List.Nodup.not_mem_erase hn) (e ▸ hx)
    show castR _ _ (K.C x) = castR _ _ (upd1 K.C k c x)
    rw [upd1_ne this])
  have e : castR (g.E k).1 (g.E k).2 c = castR (g.E k).1 (g.E k).2 ((K.set k c).C k) := by
    show castR _ _ c = castR _ _ (upd1 K.C k c k)
    rw [upd1_at]
  have M3 := M2.f4
  rw [e] at M3
  have M4 := (Fw.Sep.bigCons (f := fun x => castR (g.E x).1 (g.E x).2 ((K.set k c).C x)) M3).bigPerm (List.perm_cons_erase hk).symm
  exact Fw.Sep.kShut (K := K.set k c) M4.f3.f1.f3.f3
/-- One more part: of a key that was not there. -/
theorem Fw.Sep.castNew {e : Nat × Nat} (M : Sep S w0 w (mapR encK g.mb (fun k' => if k' = k then some (.pointer (some ⟨e.1, 0, none⟩)) else ptrD K g.E k') (K.ks.length + 1) :: castR e.1 e.2 (CastM.new K.n K.t k.1) :: blk g.b (kO K.n K.t g.mb g.tv) :: kC K g.E K.ks :: kT g.tv K.T :: r)) (hk : k ∉ K.ks) :
    Sep S w0 w (kR { g with E := upd1 g.E k e } (K.open1 k) :: r) := by
  have ho : K.open1 k = { K with ks := K.ks ++ [k], C := upd1 K.C k (CastM.new K.n K.t k.1) } := by unfold KSt.open1; rw [if_neg hk]
  rw [ho]
  have M1 := M.f3.bigCongr (g := fun x => castR (upd1 g.E k e x).1 (upd1 g.E k e x).2 (upd1 K.C k (CastM.new K.n K.t k.1) x)) (fun x hx => by
    have : x ≠ k := fun e => hk (e ▸ hx)
    show castR _ _ (K.C x) = _
    rw [upd1_ne this, upd1_ne this])
  have M2 := M1.f2
  have ec : castR e.1 e.2 (CastM.new K.n K.t k.1) = castR (upd1 g.E k e k).1 (upd1 g.E k e k).2 (upd1 K.C k (CastM.new K.n K.t k.1) k) := by rw [upd1_at, upd1_at]
  rw [ec] at M2
  have M3 := (Fw.Sep.bigSnoc (f := fun x => castR (upd1 g.E k e x).1 (upd1 g.E k e x).2 (upd1 K.C k (CastM.new K.n K.t k.1) x)) M2).f1
  have M4 := M3.mapEq (D' := ptrD { K with ks := K.ks ++ [k], C := upd1 K.C k (CastM.new K.n K.t k.1) } (upd1 g.E k e)) (N' := (K.ks ++ [k]).length) (fun x => by
    unfold ptrD
    by_cases h : x = k
    · subst h; simp [upd1_at]
    · simp [upd1_ne h, h]) (by simp)
  exact Fw.Sep.kShut (g := { g with E := upd1 g.E k e }) (K := { K with ks := K.ks ++ [k], C := upd1 K.C k (CastM.new K.n K.t k.1) }) M4.f2
end

set_option maxRecDepth 100000 in
set_option maxHeartbeats 400000 in
theorem c25 (n t : Int) (hq : quorum n t ≠ 0) (w0 : World) : Cl Try.prog 25 #[.int .i64 n, .int .i64 t] w0 (RetS [] w0 (fun v (g : Gh) => v = .pointer (some ⟨g.b, 0, none⟩)) fun g => [kR g (newK n t)]) := by
  have M : Sep (fun _ => False) w0 w0 _ := Sep.nil _ w0
  refine enter (vs := [_, _]) Try.func25 rfl rfl rfl ?_
  intro a F
  refine wp_seq ?_
  refine wp_region_l [.ind] ([0]) rfl ?_
  refine s_I F rfl rfl rfl rfl rfl rfl ?_; clear F a; intro a F
  refine t_endM M ?_; (clear M; try clear w); intro w M
  refine wp_seq ?_
  refine wp_seq ?_
  refine wp_region_l [.ind, .ind, .wr, .ind] ([0, 1, 2, 3]) rfl ?_
  refine s_I F rfl rfl rfl rfl rfl rfl ?_; clear F a; intro a F
  refine s_I F rfl rfl rfl rfl rfl rfl ?_; clear F a; intro a F
  refine s_cq F M rfl rfl rfl rfl rfl (rfl : _ = some [_, _]) cb_12_K2 (fun nd_ => c12 _ _ _) ?_; (clear F a M; try clear w); rintro v w rfl M a F
  refine s_bin F rfl rfl rfl rfl rfl rfl rfl ?_; clear F a; intro a F
  refine t_endM M ?_; (clear M; try clear w); intro w M
  refine c_if F rfl ?_ ?_
  ·
    clear F; intro hc0 F
    try rw [hc0] at F
    replace hc0 := of_decide_eq_true hc0
    exact absurd hc0 hq
  ·
    clear F; intro hc1 F
    try rw [hc1] at F
    replace hc1 := of_decide_eq_false hc1
    refine wp_skip ?_
    refine wp_seq ?_
    replace F := F.keep [0, 1, 4] rfl
    refine wp_region_l [.ind, .ind, .wr, .ind, .wr, .ind] ([0, 1, 2, 3, 4, 5]) rfl ?_
    refine s_I F rfl rfl rfl rfl rfl rfl ?_; clear F a; intro a F
    refine s_I F rfl rfl rfl rfl rfl rfl ?_; clear F a; intro a F
    refine s_mm F M rfl rfl rfl rfl ?_; (clear F a M; try clear w); intro b11 w M a F
    refine s_bld F rfl rfl rfl rfl (parts3 F rfl rfl rfl) (bl_102_0_1_2_K2 _ _ _) ?_; clear F a; intro a F
    refine s_bxA F M rfl rfl rfl rfl rfl ?_; (clear F a M; try clear w); intro b13 w M a F
    refine s_I F rfl rfl rfl rfl rfl rfl ?_; clear F a; intro a F
    refine t_endM M ?_; (clear M; try clear w); intro w M
    refine wp_ret ?_
    refine ret1 F rfl rfl ?_
    -- end 0
    refine ⟨_, ⟨b13, b11, fun _ => (0, 0), nilV⟩, rfl, rfl, ?_⟩
    have M1 := (M.f1.mapNew encK).f1
    replace M1 : Sep _ _ _ (blk b13 (kO n t b11 nilV) :: _) := M1
    exact Sep.left (r := []) (Fw.Sep.kNew M1.f1).toE
set_option maxRecDepth 100000 in
set_option maxHeartbeats 400000 in
theorem c25n (n t : Int) (hq : quorum n t = 0) (w0 : World) : Cl Try.prog 25 #[.int .i64 n, .int .i64 t] w0 (RetQ w0 fun v => v = .pointer none) := by
  have M : Sep (fun _ => False) w0 w0 _ := Sep.nil _ w0
  refine enter (vs := [_, _]) Try.func25 rfl rfl rfl ?_
  intro a F
  refine wp_seq ?_
  refine wp_region_l [.ind] ([0]) rfl ?_
  refine s_I F rfl rfl rfl rfl rfl rfl ?_; clear F a; intro a F
  refine t_endM M ?_; (clear M; try clear w); intro w M
  refine wp_seq ?_
  refine wp_seq ?_
  refine wp_region_l [.ind, .ind, .wr, .ind] ([0, 1, 2, 3]) rfl ?_
  refine s_I F rfl rfl rfl rfl rfl rfl ?_; clear F a; intro a F
  refine s_I F rfl rfl rfl rfl rfl rfl ?_; clear F a; intro a F
  refine s_cq F M rfl rfl rfl rfl rfl (rfl : _ = some [_, _]) cb_12_K2 (fun nd_ => c12 _ _ _) ?_; (clear F a M; try clear w); rintro v w rfl M a F
  refine s_bin F rfl rfl rfl rfl rfl rfl rfl ?_; clear F a; intro a F
  refine t_endM M ?_; (clear M; try clear w); intro w M
  refine c_if F rfl ?_ ?_
  ·
    clear F; intro hc0 F
    try rw [hc0] at F
    replace hc0 := of_decide_eq_true hc0
    refine wp_seq ?_
    replace F := F.keep [0, 1, 4] rfl
    refine wp_region_l [.ind] ([0]) rfl ?_
    refine s_I F rfl rfl rfl rfl rfl rfl ?_; clear F a; intro a F
    refine t_endM M ?_; (clear M; try clear w); intro w M
    refine wp_ret ?_
    refine ret1 F rfl rfl ?_
    -- end 0
    exact ⟨_, rfl, rfl, M.chg⟩
  ·
    clear F; intro hc1 F
    try rw [hc1] at F
    replace hc1 := of_decide_eq_false hc1
    exact absurd hq hc1
end Go.Proofs.Ytibomfgeemhogaa
