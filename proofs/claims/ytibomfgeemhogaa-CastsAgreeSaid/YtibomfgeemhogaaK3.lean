/- K3 of the seat. -/
import Derived.Test.YtibomfgeemhogaaK2
namespace Go.Proofs.Ytibomfgeemhogaa
open Go Fw
theorem fa_102_2_K3 : FA Try.prog 102 2 2 := fun _ _ _ => by kernel_rfl
theorem sc_100_K3 : scalB Try.prog 100 = true := by kernel_rfl
theorem ag_111_K3 : aggB Try.prog 111 = some 2 := by kernel_rfl
theorem mp_100_K3 : mapB Try.prog 100 = some (111, 29) := by kernel_rfl
theorem zr_29_K3 : zeroB Try.prog 29 = some (.pointer none) := by kernel_rfl
theorem pt_29_K3 : ptrB Try.prog 29 = true := by kernel_rfl
theorem fa_102_0_K3 : FA Try.prog 102 0 0 := fun _ _ _ => by kernel_rfl
theorem sc_3_K3 : scalB Try.prog 3 = true := by kernel_rfl
theorem fa_102_1_K3 : FA Try.prog 102 1 1 := fun _ _ _ => by kernel_rfl
theorem fa_111_0_K3 : FA Try.prog 111 0 0 := fun _ _ _ => by kernel_rfl
theorem cb_16_K3 : callB Try.prog 16 = true := by kernel_rfl
theorem fa_102_3_K3 : FA Try.prog 102 3 3 := fun _ _ _ => by kernel_rfl
theorem ar_62_K3 : arrB Try.prog 62 = some (8, 1) := by kernel_rfl
theorem sc_61_K3 : scalB Try.prog 61 = true := by kernel_rfl
theorem sl_61_K3 : slcB Try.prog 61 = some (9, 1) := by kernel_rfl
theorem bl_111_0_1_K3 : ∀ (x0 : Int) (x1 : Int), ∀ w : World, (Instr.build 111 #[(0, .int .i64 x0), (1, .int .i64 x1)]).run Try.prog w = .ok (.agg #[.int .i64 x0, .int .i64 x1]) w := by intros; kernel_rfl
theorem zr_111_K3 : zeroB Try.prog 111 = some (.agg #[.int .i64 0, .int .i64 0]) := by kernel_rfl
theorem sz_111_K3 : sizeB Try.prog 111 = some 2 := by kernel_rfl
theorem cb_20_K3 : callB Try.prog 20 = true := by kernel_rfl
theorem bs_61_1_K3 : ∀ (x0 : ByteArray), News Try.prog (Instr.buildSlice 61 1 #[(0, .string x0)]) (.cells #[.string x0] 9) fun b => .slice (some ⟨b, 0, none⟩) 1 1 := by intros; intro w; kernel_rfl
theorem tl_61_K3 : SlT Try.prog 61 9 1 16 (.string { data := #[] }) := ⟨by kernel_rfl, by kernel_rfl, by kernel_rfl, by kernel_rfl, by decide⟩
theorem sz_61_K3 : sizeB Try.prog 61 = some 1 := by kernel_rfl
open CastM CasM
set_option maxRecDepth 100000 in
set_option maxHeartbeats 400000 in
theorem c42a (g : Gh) (K : KSt) (k : Key) (hk : k ∈ K.ks) (w0 : World) (ho : Own w0.heap [kR g K]) : Cl Try.prog 42 #[.pointer (some ⟨g.b, 0, none⟩), .agg #[.int .i64 k.1, .int .i64 k.2]] w0 (RetS [kR g K] w0 (fun v (e : Key → Nat × Nat) => v = .pointer (some ⟨(e k).1, 0, none⟩)) fun e => [kR { g with E := e } (K.open1 k)]) := by
  have M : Sep (fun b_ => b_ ∈ foots [kR g K]) w0 w0 _ := Sep.start ho
  refine enter (vs := [_, _]) Try.func42 rfl rfl rfl ?_
  intro a F
  refine wp_seq ?_
  refine wp_region_l [.wr, .ind] ([0, 1]) rfl ?_
  refine s_bxA F M rfl rfl rfl rfl rfl ?_; (clear F a M; try clear w); intro b3 w M a F
  refine s_I F rfl rfl rfl rfl rfl rfl ?_; clear F a; intro a F
  refine t_endM M ?_; (clear M; try clear w); intro w M
  refine wp_seq ?_
  refine wp_region_t [.ind, .ind, .ind, .rd, .rd, .rd, .ind] [] (otOf [0, 1, 2, 3, 4, 5, 6]) mixed (by kernel_rfl) ?_
  refine s_I F rfl rfl rfl rfl rfl rfl ?_; clear F a; intro a F
  refine s_I F rfl rfl rfl rfl rfl rfl ?_; clear F a; intro a F
  refine s_fa0 F rfl rfl rfl rfl fa_102_2_K3 rfl ?_; clear F a; intro a F
  refine s_ld F rfl rfl rfl rfl sc_100_K3 rfl (by exact cell_of_blk (k_ok M.h1).o (gf rfl (by decide))) ?_; clear F a; intro a F
  refine s_lda F rfl rfl rfl rfl ag_111_K3 rfl rfl (cells_whole M.h0) ?_; clear F a; intro a F
  refine s_lk keK (k) F rfl rfl rfl rfl mp_100_K3 zr_29_K3 rfl rfl (by exact (k_ok M.h1).m) ?_; clear F a; intro a F
  rw [show ptrD K g.E k = some (.pointer (some ⟨(g.E k).1, 0, none⟩)) from if_pos hk] at F
  dsimp only [Option.getD] at F
  refine s_I F rfl rfl rfl rfl rfl rfl ?_; clear F a; intro a F
  refine t_endM M ?_; (clear M; try clear w); intro w M
  refine wp_seq ?_
  refine wp_seq ?_
  replace F := F.keep [0, 1, 3, 4, 5] rfl
  refine wp_region_l [.ind, .ind] ([0, 1]) rfl ?_
  refine s_I F rfl rfl rfl rfl rfl rfl ?_; clear F a; intro a F
  refine s_pn F rfl rfl rfl rfl pt_29_K3 rfl ?_; clear F a; intro a F
  refine t_endM M ?_; (clear M; try clear w); intro w M
  refine c_f F rfl ?_
  refine wp_skip ?_
  refine wp_seq ?_
  replace F := F.keep [0, 1, 3, 4, 5] rfl
  refine wp_region_l [.ind, .ind] ([0, 1]) rfl ?_
  refine s_I F rfl rfl rfl rfl rfl rfl ?_; clear F a; intro a F
  refine s_I F rfl rfl rfl rfl rfl rfl ?_; clear F a; intro a F
  refine t_endM M ?_; (clear M; try clear w); intro w M
  refine wp_ret ?_
  refine ret1 F rfl rfl ?_
  -- end 0
  refine ⟨_, g.E, rfl, rfl, ?_⟩
  rw [show K.open1 k = K from if_pos hk]
  exact Sep.left M.f1
set_option maxRecDepth 100000 in
set_option maxHeartbeats 400000 in
theorem c42b (g : Gh) (K : KSt) (k : Key) (hk : k ∉ K.ks) (hq : quorum K.n K.t ≠ 0) (h1 : 1 ≤ k.1) (h2 : k.1 ≤ K.n) (w0 : World) (ho : Own w0.heap [kR g K]) : Cl Try.prog 42 #[.pointer (some ⟨g.b, 0, none⟩), .agg #[.int .i64 k.1, .int .i64 k.2]] w0 (RetS [kR g K] w0 (fun v (e : Key → Nat × Nat) => v = .pointer (some ⟨(e k).1, 0, none⟩)) fun e => [kR { g with E := e } (K.open1 k)]) := by
  have M : Sep (fun b_ => b_ ∈ foots [kR g K]) w0 w0 _ := Sep.start ho
  replace M := M.kOpen
  refine enter (vs := [_, _]) Try.func42 rfl rfl rfl ?_
  intro a F
  refine wp_seq ?_
  refine wp_region_l [.wr, .ind] ([0, 1]) rfl ?_
  refine s_bxA F M rfl rfl rfl rfl rfl ?_; (clear F a M; try clear w); intro b3 w M a F
  refine s_I F rfl rfl rfl rfl rfl rfl ?_; clear F a; intro a F
  refine t_endM M ?_; (clear M; try clear w); intro w M
  refine wp_seq ?_
  refine wp_region_t [.ind, .ind, .ind, .rd, .rd, .rd, .ind] [] (otOf [0, 1, 2, 3, 4, 5, 6]) mixed (by kernel_rfl) ?_
  refine s_I F rfl rfl rfl rfl rfl rfl ?_; clear F a; intro a F
  refine s_I F rfl rfl rfl rfl rfl rfl ?_; clear F a; intro a F
  refine s_fa0 F rfl rfl rfl rfl fa_102_2_K3 rfl ?_; clear F a; intro a F
  refine s_ld F rfl rfl rfl rfl sc_100_K3 rfl (by exact cell_of_blk M.h1 (gf rfl (by decide))) ?_; clear F a; intro a F
  refine s_lda F rfl rfl rfl rfl ag_111_K3 rfl rfl (cells_whole M.h0) ?_; clear F a; intro a F
  refine s_lk keK (k) F rfl rfl rfl rfl mp_100_K3 zr_29_K3 rfl rfl (by exact M.h2) ?_; clear F a; intro a F
  rw [show ptrD K g.E k = none from if_neg hk] at F
  dsimp only [Option.getD] at F
  refine s_I F rfl rfl rfl rfl rfl rfl ?_; clear F a; intro a F
  refine t_endM M ?_; (clear M; try clear w); intro w M
  refine wp_seq ?_
  refine wp_seq ?_
  replace F := F.keep [0, 1, 3, 4, 5] rfl
  refine wp_region_l [.ind, .ind] ([0, 1]) rfl ?_
  refine s_I F rfl rfl rfl rfl rfl rfl ?_; clear F a; intro a F
  refine s_pn F rfl rfl rfl rfl pt_29_K3 rfl ?_; clear F a; intro a F
  refine t_endM M ?_; (clear M; try clear w); intro w M
  refine c_t F rfl ?_
  refine wp_seq ?_
  replace F := F.keep [0, 1, 3, 4, 5] rfl
  refine wp_region_t [.ind, .ind, .ind, .rd, .ind, .ind, .ind, .rd, .ind, .rd, .wr, .ind] [] (otOf [0, 1, 2, 3, 4, 5, 6, 7, 8, 9, 10, 11]) mixed (by kernel_rfl) ?_
  refine s_I F rfl rfl rfl rfl rfl rfl ?_; clear F a; intro a F
  refine s_I F rfl rfl rfl rfl rfl rfl ?_; clear F a; intro a F
  refine s_fa0 F rfl rfl rfl rfl fa_102_0_K3 rfl ?_; clear F a; intro a F
  refine s_ld F rfl rfl rfl rfl sc_3_K3 rfl (by exact cell_of_blk M.h1 (gf rfl (by decide))) ?_; clear F a; intro a F
  refine s_I F rfl rfl rfl rfl rfl rfl ?_; clear F a; intro a F
  refine s_I F rfl rfl rfl rfl rfl rfl ?_; clear F a; intro a F
  refine s_fa0 F rfl rfl rfl rfl fa_102_1_K3 rfl ?_; clear F a; intro a F
  refine s_ld F rfl rfl rfl rfl sc_3_K3 rfl (by exact cell_of_blk M.h1 (gf rfl (by decide))) ?_; clear F a; intro a F
  refine s_fa0 F rfl rfl rfl rfl fa_111_0_K3 rfl ?_; clear F a; intro a F
  refine s_ld F rfl rfl rfl rfl sc_3_K3 rfl (by exact cell_of_blk M.h0 (lit rfl)) ?_; clear F a; intro a F
  refine s_call (m := []) F M rfl rfl rfl rfl rfl (rfl : _ = some [_, _, _]) cb_16_K3 (fun nd_ => c16 K.n K.t k.1 hq h1 h2 _) ?_; (clear F a M; try clear w); rintro v x w rfl M a F; (try simp only [List.cons_append, List.nil_append] at M)
  refine s_I F rfl rfl rfl rfl rfl rfl ?_; clear F a; intro a F
  refine t_endM M ?_; (clear M; try clear w); intro w M
  replace F := F.keep [0, 1, 3, 4, 5] rfl
  refine wp_region_t [.ind, .ind, .ind, .rd, .rd, .ind, .wr] [] (otOf [0, 1, 2, 3, 4, 5, 6]) mixed (by kernel_rfl) ?_
  refine s_I F rfl rfl rfl rfl rfl rfl ?_; clear F a; intro a F
  refine s_I F rfl rfl rfl rfl rfl rfl ?_; clear F a; intro a F
  refine s_fa0 F rfl rfl rfl rfl fa_102_2_K3 rfl ?_; clear F a; intro a F
  refine s_ld F rfl rfl rfl rfl sc_100_K3 rfl (by exact cell_of_blk M.h2 (gf rfl (by decide))) ?_; clear F a; intro a F
  refine s_lda F rfl rfl rfl rfl ag_111_K3 rfl rfl (cells_whole M.h1) ?_; clear F a; intro a F
  refine s_I F rfl rfl rfl rfl rfl rfl ?_; clear F a; intro a F
  have M1 : Sep _ _ _ (mapR _ _ _ _ :: _) := M.f3; replace M := M1; clear M1
  refine s_mu keK (k) F M rfl rfl rfl mp_100_K3 rfl rfl rfl (fun _ _ => pend_nil) ?_; (clear M; try clear w); intro w M
  refine t_endM M ?_; (clear M; try clear w); intro w M
  refine wp_seq ?_
  replace F := F.keep [0, 1, 3, 4, 5] rfl
  refine wp_region_l [.ind, .ind] ([0, 1]) rfl ?_
  refine s_I F rfl rfl rfl rfl rfl rfl ?_; clear F a; intro a F
  refine s_I F rfl rfl rfl rfl rfl rfl ?_; clear F a; intro a F
  refine t_endM M ?_; (clear M; try clear w); intro w M
  refine wp_ret ?_
  refine ret1 F rfl rfl ?_
  -- end 0
  refine ⟨_, upd1 g.E k x, rfl, ?_, ?_⟩
  · show _ = Value.pointer (some ⟨(upd1 g.E k x k).1, 0, none⟩)
    rw [upd1_at]
  rw [if_neg (show ¬ (ptrD K g.E k).isSome = true by rw [show ptrD K g.E k = none from if_neg hk]; simp)] at M
  exact Sep.left (r := [blk b3 _]) (Fw.Sep.castNew (k := k) (e := x) (M.f2.perm (List.perm_append_comm (l₁ := [_]))) hk)

theorem c42 (g : Gh) (K : KSt) (k : Key) (hq : quorum K.n K.t ≠ 0) (h1 : 1 ≤ k.1) (h2 : k.1 ≤ K.n) (w0 : World) (ho : Own w0.heap [kR g K]) : Cl Try.prog 42 #[.pointer (some ⟨g.b, 0, none⟩), .agg #[.int .i64 k.1, .int .i64 k.2]] w0 (RetS [kR g K] w0 (fun v (e : Key → Nat × Nat) => v = .pointer (some ⟨(e k).1, 0, none⟩)) fun e => [kR { g with E := e } (K.open1 k)]) := by
  by_cases hk : k ∈ K.ks
  · exact c42a g K k hk w0 ho
  · exact c42b g K k hk hq h1 h2 w0 ho
theorem kF_upd {n t : Int} {mb : Nat} {tv : Nat → Value} {f : Int} {v : Value} : upd (kF n t mb tv) (3 + f.toNat * 1) v = kF n t mb (upd1 tv f.toNat v) := by
  funext j
  by_cases h : j = 3 + f.toNat * 1
  · subst h; rw [upd_at, kF_told, upd1_at]
  · rw [upd_ne h]
    match j, h with
    | 0, _ => rfl
    | 1, _ => rfl
    | 2, _ => rfl
    | j + 3, h =>
      show tv j = upd1 tv f.toNat v j
      rw [upd1_ne (by omega)]
theorem Fw.Sep.tellIn {S : Nat → Prop} {w0 w : World} {r : List Res} {g : Gh} {K : KSt} {f : Int} {v : Value}
    (M : Sep S w0 w (mapR encK g.mb (fun k' => if k' = (f, K.len f) then none else ptrD K g.E k') (K.ks.length - 1) :: slR v (K.T f.toNat ++ [(K.C (f, K.len f)).body]).length 9 1 ((K.T f.toNat ++ [(K.C (f, K.len f)).body]).flatMap encS) :: blk g.b (kO K.n K.t g.mb (upd1 g.tv f.toNat v)) :: kC K g.E K.ks :: bigR (tR g.tv K.T) ((List.range 8).eraseIdx f.toNat) :: r))
    (hk : (f, K.len f) ∈ K.ks) (hn : K.ks.Nodup) (hf : f.toNat < 8) : Sep S w0 w (kR { g with tv := upd1 g.tv f.toNat v } (K.tell f) :: r) := by
  have eT : (K.tell f).T = upd1 K.T f.toNat (K.T f.toNat ++ [(K.C (f, K.len f)).body]) := rfl
  have M1 := M.f4.bigCongr (g := tR (upd1 g.tv f.toNat v) (K.tell f).T) (fun x hx => by
    have : x ≠ f.toNat := eraseIdx_range hf x hx
    unfold tR
    rw [eT, upd1_ne this, upd1_ne this])
  have M2 := M1.f2
  have e : slR v (K.T f.toNat ++ [(K.C (f, K.len f)).body]).length 9 1 ((K.T f.toNat ++ [(K.C (f, K.len f)).body]).flatMap encS) = tR (upd1 g.tv f.toNat v) (K.tell f).T f.toNat := by
    unfold tR
    rw [eT, upd1_at, upd1_at]
  rw [e] at M2
  have M3 := M2.bigCons.bigPerm (perm_get (xs := List.range 8) (i := f.toNat) (x := f.toNat) (by simp [hf])).symm
  have M4 := ((M3.f3.bigPerm (List.perm_cons_erase hk)).bigUncons).tl
  have M5 := M4.f2.mapEq (D' := ptrD (K.tell f) g.E) (N' := (K.tell f).ks.length) (fun x => by
    unfold ptrD KSt.tell
    by_cases h : x = (f, K.len f)
    · subst h
      rw [if_pos rfl, if_neg (List.Nodup.not_mem_erase hn)]
    · rw [if_neg h]
      simp only [List.mem_erase_of_ne h]) (by show _ = (K.ks.erase _).length; rw [List.length_erase_of_mem hk])
  exact Fw.Sep.kShut (g := { g with tv := upd1 g.tv f.toNat v }) (K := K.tell f) M5.f3

set_option maxRecDepth 100000 in
set_option maxHeartbeats 400000 in
theorem c43a (g : Gh) (K : KSt) (f : Int) (h1 : 1 ≤ f) (h2 : f ≤ 7) (hk : (f, K.len f) ∉ K.ks) (w0 : World) (ho : Own w0.heap [kR g K]) : Cl Try.prog 43 #[.pointer (some ⟨g.b, 0, none⟩), .int .i64 f] w0 (RetS [kR g K] w0 (fun v (_ : Nat → Value) => v = .bool false) fun e => [kR { g with tv := e } K]) := by
  have M : Sep (fun b_ => b_ ∈ foots [kR g K]) w0 w0 _ := Sep.start ho
  obtain ⟨A, cc, htv⟩ := ((k_ok M.h0).t f.toNat (by omega)).form
  refine enter (vs := [_, _]) Try.func43 rfl rfl rfl ?_
  intro a F
  refine wp_seq ?_
  refine wp_region_l [.ind] ([0]) rfl ?_
  refine s_I F rfl rfl rfl rfl rfl rfl ?_; clear F a; intro a F
  refine t_endM M ?_; (clear M; try clear w); intro w M
  refine wp_seq ?_
  refine wp_region_l [.ind, .ind, .ind, .ind, .ind, .ind, .rd, .ind, .ind, .wr, .wr] ([0, 1, 2, 3, 4, 5, 6, 7, 8, 9, 10]) rfl ?_
  refine s_I F rfl rfl rfl rfl rfl rfl ?_; clear F a; intro a F
  refine s_I F rfl rfl rfl rfl rfl rfl ?_; clear F a; intro a F
  refine s_I F rfl rfl rfl rfl rfl rfl ?_; clear F a; intro a F
  refine s_I F rfl rfl rfl rfl rfl rfl ?_; clear F a; intro a F
  refine s_fa0 F rfl rfl rfl rfl fa_102_3_K3 rfl ?_; clear F a; intro a F
  refine s_ia F rfl rfl rfl rfl ar_62_K3 rfl rfl (by omega) (by omega) ?_; clear F a; intro a F
  refine s_ld F rfl rfl rfl rfl sc_61_K3 rfl (by exact cell_of_blk (k_ok M.h0).o (gf (kF_told.trans htv) (by omega))) ?_; clear F a; intro a F
  refine s_len F rfl rfl rfl rfl sl_61_K3 rfl ?_; clear F a; intro a F
  refine s_bld F rfl rfl rfl rfl (parts2 F rfl rfl) (bl_111_0_1_K3 _ _) ?_; clear F a; intro a F
  refine s_alc F M rfl rfl rfl rfl zr_111_K3 rfl ?_; (clear F a M; try clear w); intro b5 w M a F
  refine s_stW F M rfl rfl rfl sz_111_K3 rfl rfl rfl rfl rfl ?_; (clear M; try clear w); intro w M
  refine t_endM M ?_; (clear M; try clear w); intro w M
  refine wp_seq ?_
  replace F := F.keep [0, 1, 4, 5] rfl
  refine wp_region_t [.ind, .ind, .ind, .rd, .rd, .rd, .wr, .ind, .ind, .ind, .ind, .ind] [] (otOf [0, 1, 2, 3, 4, 5, 6, 7, 8, 9, 10, 11]) mixed (by kernel_rfl) ?_
  refine s_I F rfl rfl rfl rfl rfl rfl ?_; clear F a; intro a F
  refine s_I F rfl rfl rfl rfl rfl rfl ?_; clear F a; intro a F
  refine s_fa0 F rfl rfl rfl rfl fa_102_2_K3 rfl ?_; clear F a; intro a F
  refine s_ld F rfl rfl rfl rfl sc_100_K3 rfl (by exact cell_of_blk (k_ok M.h1).o (gf rfl (by decide))) ?_; clear F a; intro a F
  refine s_lda F rfl rfl rfl rfl ag_111_K3 rfl rfl (cells_whole M.h0) ?_; clear F a; intro a F
  refine s_lk keK ((f, K.len f)) F rfl rfl rfl rfl mp_100_K3 zr_29_K3 rfl rfl (by exact (k_ok M.h1).m) ?_; clear F a; intro a F
  rw [show ptrD K g.E (f, K.len f) = none from if_neg hk] at F
  dsimp only [Option.getD] at F
  refine s_cq F M rfl rfl rfl rfl rfl (rfl : _ = some [_]) cb_20_K3 (fun nd_ => c20n _) ?_; (clear F a M; try clear w); rintro v w rfl M a F
  refine s_I F rfl rfl rfl rfl rfl rfl ?_; clear F a; intro a F
  refine s_I F rfl rfl rfl rfl rfl rfl ?_; clear F a; intro a F
  refine s_I F rfl rfl rfl rfl rfl rfl ?_; clear F a; intro a F
  refine s_I F rfl rfl rfl rfl rfl rfl ?_; clear F a; intro a F
  refine s_I F rfl rfl rfl rfl rfl rfl ?_; clear F a; intro a F
  refine t_endM M ?_; (clear M; try clear w); intro w M
  refine wp_seq ?_
  refine wp_seq ?_
  replace F := F.keep [0, 1, 4, 5, 6, 7] rfl
  refine wp_region_l [.ind] ([0]) rfl ?_
  refine s_I F rfl rfl rfl rfl rfl rfl ?_; clear F a; intro a F
  replace F : Fr _ _ ((27, Value.bool false) :: _) := F
  refine t_endM M ?_; (clear M; try clear w); intro w M
  refine c_f F rfl ?_
  refine wp_skip ?_
  refine wp_seq ?_
  replace F := F.keep [0, 1, 4, 5, 6, 7] rfl
  refine wp_region_l [.ind, .ind] ([0, 1]) rfl ?_
  refine s_I F rfl rfl rfl rfl rfl rfl ?_; clear F a; intro a F
  refine s_I F rfl rfl rfl rfl rfl rfl ?_; clear F a; intro a F
  refine t_endM M ?_; (clear M; try clear w); intro w M
  refine wp_ret ?_
  refine ret1 F rfl rfl ?_
  -- end 0
  refine ⟨_, g.tv, rfl, rfl, ?_⟩
  exact Sep.left M.f1
set_option maxRecDepth 100000 in
set_option maxHeartbeats 400000 in
theorem c43b (g : Gh) (K : KSt) (f : Int) (h1 : 1 ≤ f) (h2 : f ≤ 7) (hk : (f, K.len f) ∈ K.ks) (hd : (K.C (f, K.len f)).done = false) (w0 : World) (ho : Own w0.heap [kR g K]) : Cl Try.prog 43 #[.pointer (some ⟨g.b, 0, none⟩), .int .i64 f] w0 (RetS [kR g K] w0 (fun v (_ : Nat → Value) => v = .bool false) fun e => [kR { g with tv := e } K]) := by
  have M : Sep (fun b_ => b_ ∈ foots [kR g K]) w0 w0 _ := Sep.start ho
  obtain ⟨A, cc, htv⟩ := ((k_ok M.h0).t f.toNat (by omega)).form
  refine enter (vs := [_, _]) Try.func43 rfl rfl rfl ?_
  intro a F
  refine wp_seq ?_
  refine wp_region_l [.ind] ([0]) rfl ?_
  refine s_I F rfl rfl rfl rfl rfl rfl ?_; clear F a; intro a F
  refine t_endM M ?_; (clear M; try clear w); intro w M
  refine wp_seq ?_
  refine wp_region_l [.ind, .ind, .ind, .ind, .ind, .ind, .rd, .ind, .ind, .wr, .wr] ([0, 1, 2, 3, 4, 5, 6, 7, 8, 9, 10]) rfl ?_
  refine s_I F rfl rfl rfl rfl rfl rfl ?_; clear F a; intro a F
  refine s_I F rfl rfl rfl rfl rfl rfl ?_; clear F a; intro a F
  refine s_I F rfl rfl rfl rfl rfl rfl ?_; clear F a; intro a F
  refine s_I F rfl rfl rfl rfl rfl rfl ?_; clear F a; intro a F
  refine s_fa0 F rfl rfl rfl rfl fa_102_3_K3 rfl ?_; clear F a; intro a F
  refine s_ia F rfl rfl rfl rfl ar_62_K3 rfl rfl (by omega) (by omega) ?_; clear F a; intro a F
  refine s_ld F rfl rfl rfl rfl sc_61_K3 rfl (by exact cell_of_blk (k_ok M.h0).o (gf (kF_told.trans htv) (by omega))) ?_; clear F a; intro a F
  refine s_len F rfl rfl rfl rfl sl_61_K3 rfl ?_; clear F a; intro a F
  refine s_bld F rfl rfl rfl rfl (parts2 F rfl rfl) (bl_111_0_1_K3 _ _) ?_; clear F a; intro a F
  refine s_alc F M rfl rfl rfl rfl zr_111_K3 rfl ?_; (clear F a M; try clear w); intro b5 w M a F
  refine s_stW F M rfl rfl rfl sz_111_K3 rfl rfl rfl rfl rfl ?_; (clear M; try clear w); intro w M
  refine t_endM M ?_; (clear M; try clear w); intro w M
  refine wp_seq ?_
  replace F := F.keep [0, 1, 4, 5] rfl
  refine wp_region_t [.ind, .ind, .ind, .rd, .rd, .rd, .wr, .ind, .ind, .ind, .ind, .ind] [] (otOf [0, 1, 2, 3, 4, 5, 6, 7, 8, 9, 10, 11]) mixed (by kernel_rfl) ?_
  refine s_I F rfl rfl rfl rfl rfl rfl ?_; clear F a; intro a F
  refine s_I F rfl rfl rfl rfl rfl rfl ?_; clear F a; intro a F
  refine s_fa0 F rfl rfl rfl rfl fa_102_2_K3 rfl ?_; clear F a; intro a F
  refine s_ld F rfl rfl rfl rfl sc_100_K3 rfl (by exact cell_of_blk (k_ok M.h1).o (gf rfl (by decide))) ?_; clear F a; intro a F
  refine s_lda F rfl rfl rfl rfl ag_111_K3 rfl rfl (cells_whole M.h0) ?_; clear F a; intro a F
  refine s_lk keK ((f, K.len f)) F rfl rfl rfl rfl mp_100_K3 zr_29_K3 rfl rfl (by exact (k_ok M.h1).m) ?_; clear F a; intro a F
  rw [show ptrD K g.E (f, K.len f) = some (.pointer (some ⟨(g.E (f, K.len f)).1, 0, none⟩)) from if_pos hk] at F
  dsimp only [Option.getD] at F
  refine s_cq F M rfl rfl rfl rfl rfl (rfl : _ = some [_]) cb_20_K3 (fun nd_ => c20 _ _ _ _ (by exact (k_ok M.h1).c _ hk)) ?_; (clear F a M; try clear w); rintro v w rfl M a F
  rw [hd] at F
  refine s_I F rfl rfl rfl rfl rfl rfl ?_; clear F a; intro a F
  refine s_I F rfl rfl rfl rfl rfl rfl ?_; clear F a; intro a F
  refine s_I F rfl rfl rfl rfl rfl rfl ?_; clear F a; intro a F
  refine s_I F rfl rfl rfl rfl rfl rfl ?_; clear F a; intro a F
  refine s_I F rfl rfl rfl rfl rfl rfl ?_; clear F a; intro a F
  refine t_endM M ?_; (clear M; try clear w); intro w M
  refine wp_seq ?_
  refine wp_seq ?_
  replace F := F.keep [0, 1, 4, 5, 6, 7] rfl
  refine wp_region_l [.ind] ([0]) rfl ?_
  refine s_I F rfl rfl rfl rfl rfl rfl ?_; clear F a; intro a F
  replace F : Fr _ _ ((27, Value.bool false) :: _) := F
  refine t_endM M ?_; (clear M; try clear w); intro w M
  refine c_f F rfl ?_
  refine wp_skip ?_
  refine wp_seq ?_
  replace F := F.keep [0, 1, 4, 5, 6, 7] rfl
  refine wp_region_l [.ind, .ind] ([0, 1]) rfl ?_
  refine s_I F rfl rfl rfl rfl rfl rfl ?_; clear F a; intro a F
  refine s_I F rfl rfl rfl rfl rfl rfl ?_; clear F a; intro a F
  refine t_endM M ?_; (clear M; try clear w); intro w M
  refine wp_ret ?_
  refine ret1 F rfl rfl ?_
  -- end 0
  refine ⟨_, g.tv, rfl, rfl, ?_⟩
  exact Sep.left M.f1
set_option maxRecDepth 100000 in
set_option maxHeartbeats 1000000 in
theorem c43c (g : Gh) (K : KSt) (f : Int) (h1 : 1 ≤ f) (h2 : f ≤ 7) (hT : ∀ i, (K.T i).length ≤ 1000) (hn : K.ks.Nodup) (hk : (f, K.len f) ∈ K.ks) (hd : (K.C (f, K.len f)).done = true) (w0 : World) (ho : Own w0.heap [kR g K]) : Cl Try.prog 43 #[.pointer (some ⟨g.b, 0, none⟩), .int .i64 f] w0 (RetS [kR g K] w0 (fun v (_ : Nat → Value) => v = .bool true) fun e => [kR { g with tv := e } (K.tell f)]) := by
  have M : Sep (fun b_ => b_ ∈ foots [kR g K]) w0 w0 _ := Sep.start ho
  obtain ⟨A, cc, htv⟩ := ((k_ok M.h0).t f.toNat (by omega)).form
  refine enter (vs := [_, _]) Try.func43 rfl rfl rfl ?_
  intro a F
  refine wp_seq ?_
  refine wp_region_l [.ind] ([0]) rfl ?_
  refine s_I F rfl rfl rfl rfl rfl rfl ?_; clear F a; intro a F
  refine t_endM M ?_; (clear M; try clear w); intro w M
  refine wp_seq ?_
  refine wp_region_l [.ind, .ind, .ind, .ind, .ind, .ind, .rd, .ind, .ind, .wr, .wr] ([0, 1, 2, 3, 4, 5, 6, 7, 8, 9, 10]) rfl ?_
  refine s_I F rfl rfl rfl rfl rfl rfl ?_; clear F a; intro a F
  refine s_I F rfl rfl rfl rfl rfl rfl ?_; clear F a; intro a F
  refine s_I F rfl rfl rfl rfl rfl rfl ?_; clear F a; intro a F
  refine s_I F rfl rfl rfl rfl rfl rfl ?_; clear F a; intro a F
  refine s_fa0 F rfl rfl rfl rfl fa_102_3_K3 rfl ?_; clear F a; intro a F
  refine s_ia F rfl rfl rfl rfl ar_62_K3 rfl rfl (by omega) (by omega) ?_; clear F a; intro a F
  refine s_ld F rfl rfl rfl rfl sc_61_K3 rfl (by exact cell_of_blk (k_ok M.h0).o (gf (kF_told.trans htv) (by omega))) ?_; clear F a; intro a F
  refine s_len F rfl rfl rfl rfl sl_61_K3 rfl ?_; clear F a; intro a F
  refine s_bld F rfl rfl rfl rfl (parts2 F rfl rfl) (bl_111_0_1_K3 _ _) ?_; clear F a; intro a F
  refine s_alc F M rfl rfl rfl rfl zr_111_K3 rfl ?_; (clear F a M; try clear w); intro b5 w M a F
  refine s_stW F M rfl rfl rfl sz_111_K3 rfl rfl rfl rfl rfl ?_; (clear M; try clear w); intro w M
  refine t_endM M ?_; (clear M; try clear w); intro w M
  refine wp_seq ?_
  replace F := F.keep [0, 1, 4, 5] rfl
  refine wp_region_t [.ind, .ind, .ind, .rd, .rd, .rd, .wr, .ind, .ind, .ind, .ind, .ind] [] (otOf [0, 1, 2, 3, 4, 5, 6, 7, 8, 9, 10, 11]) mixed (by kernel_rfl) ?_
  refine s_I F rfl rfl rfl rfl rfl rfl ?_; clear F a; intro a F
  refine s_I F rfl rfl rfl rfl rfl rfl ?_; clear F a; intro a F
  refine s_fa0 F rfl rfl rfl rfl fa_102_2_K3 rfl ?_; clear F a; intro a F
  refine s_ld F rfl rfl rfl rfl sc_100_K3 rfl (by exact cell_of_blk (k_ok M.h1).o (gf rfl (by decide))) ?_; clear F a; intro a F
  refine s_lda F rfl rfl rfl rfl ag_111_K3 rfl rfl (cells_whole M.h0) ?_; clear F a; intro a F
  refine s_lk keK ((f, K.len f)) F rfl rfl rfl rfl mp_100_K3 zr_29_K3 rfl rfl (by exact (k_ok M.h1).m) ?_; clear F a; intro a F
  rw [show ptrD K g.E (f, K.len f) = some (.pointer (some ⟨(g.E (f, K.len f)).1, 0, none⟩)) from if_pos hk] at F
  dsimp only [Option.getD] at F
  refine s_cq F M rfl rfl rfl rfl rfl (rfl : _ = some [_]) cb_20_K3 (fun nd_ => c20 _ _ _ _ (by exact (k_ok M.h1).c _ hk)) ?_; (clear F a M; try clear w); rintro v w rfl M a F
  rw [hd] at F
  refine s_I F rfl rfl rfl rfl rfl rfl ?_; clear F a; intro a F
  refine s_I F rfl rfl rfl rfl rfl rfl ?_; clear F a; intro a F
  refine s_I F rfl rfl rfl rfl rfl rfl ?_; clear F a; intro a F
  refine s_I F rfl rfl rfl rfl rfl rfl ?_; clear F a; intro a F
  refine s_I F rfl rfl rfl rfl rfl rfl ?_; clear F a; intro a F
  refine t_endM M ?_; (clear M; try clear w); intro w M
  refine wp_seq ?_
  refine wp_seq ?_
  replace F := F.keep [0, 1, 4, 5, 6, 7] rfl
  refine wp_region_l [.ind] ([0]) rfl ?_
  refine s_I F rfl rfl rfl rfl rfl rfl ?_; clear F a; intro a F
  replace F : Fr _ _ ((27, Value.bool true) :: _) := F
  refine t_endM M ?_; (clear M; try clear w); intro w M
  refine c_t F rfl ?_
  refine wp_seq ?_
  have M1 : Sep _ _ _ (kR _ _ :: _) := M.f1; replace M := M1; clear M1
  have hTf := hT f.toNat
  replace M := M.kOpen.f3
  replace M := M.bigOut (i := f.toNat) (x := f.toNat) (List.getElem?_range (by omega))
  replace M : Sep _ _ _ (slR (g.tv f.toNat) (K.T f.toNat).length 9 1 ((K.T f.toNat).flatMap encS) :: _) := M
  rw [htv] at M
  replace F := F.keep [0, 1, 4, 5, 6, 7] rfl
  refine wp_region_t [.ind, .ind, .ind, .ind, .ind, .ind, .ind, .rd, .ind, .wr, .wr, .ind, .ind, .ind, .wr] [(7, 9)] (otOf [0, 1, 2, 3, 4, 5, 6, 7, 8, 11, 12, 9, 10, 13, 14]) mixed (by kernel_rfl) ?_
  refine s_I F rfl rfl rfl rfl rfl rfl ?_; clear F a; intro a F
  refine s_I F rfl rfl rfl rfl rfl rfl ?_; clear F a; intro a F
  refine s_I F rfl rfl rfl rfl rfl rfl ?_; clear F a; intro a F
  refine s_I F rfl rfl rfl rfl rfl rfl ?_; clear F a; intro a F
  refine s_I F rfl rfl rfl rfl rfl rfl ?_; clear F a; intro a F
  refine s_fa0 F rfl rfl rfl rfl fa_102_3_K3 rfl ?_; clear F a; intro a F
  refine s_ia F rfl rfl rfl rfl ar_62_K3 rfl rfl (by omega) (by omega) ?_; clear F a; intro a F
  refine s_ldL F rfl rfl rfl rfl sc_61_K3 rfl (by exact cell_of_blk M.h2 (gf (kF_told.trans htv) (by omega))) ?_; clear F a; intro a F
  refine s_I F rfl rfl rfl rfl rfl rfl ?_; clear F a; intro a F
  refine s_I F rfl rfl rfl rfl rfl rfl ?_; clear F a; intro a F
  refine s_fa0 F rfl rfl rfl rfl fa_102_3_K3 rfl ?_; clear F a; intro a F
  refine s_bsL F M rfl rfl rfl rfl (parts1 F rfl) (bs_61_1_K3 _) (fun b w M => (by (refine pend_take (by exact cell_of_blk M.h3 (gf (kF_told.trans htv) (by omega))) ?_); exact pend_none)) ?_; (clear F a M; try clear w); intro b37 w M a F
  refine s_apE ((K.C (f, K.len f)).body) F M.f1 rfl rfl rfl rfl tl_61_K3 rfl rfl (by exact rd_blk M.h0 rfl) rfl (by show ((K.T f.toNat).length + 1) * 16 ≤ 140737488355328; omega) (fun A c w M => (by (refine pend_skip rfl ?_); exact pend_none)) ?_; (clear F a M; try clear w); intro A38 c38 w M a F
  refine s_ia F rfl rfl rfl rfl ar_62_K3 rfl rfl (by omega) (by omega) ?_; clear F a; intro a F
  refine s_sfL F M.f3 rfl rfl rfl sz_61_K3 rfl rfl rfl (by omega) (fun w M => (by (refine pend_skip rfl ?_); exact pend_none)) ?_; (clear M; try clear w); intro w M
  refine t_endM M ?_; (clear M; try clear w); intro w M
  have M1 : Sep _ _ _ (blk g.b _ :: _) := M; replace M := M1; clear M1
  rw [kF_upd] at M
  replace M : Sep _ _ _ (blk g.b (kO K.n K.t g.mb (upd1 g.tv f.toNat _)) :: _) := M
  replace F := F.keep [0, 1, 4, 5, 6, 7] rfl
  refine wp_region_t [.ind, .ind, .ind, .rd, .rd, .wr] [] (otOf [0, 1, 2, 3, 4, 5]) mixed (by kernel_rfl) ?_
  refine s_I F rfl rfl rfl rfl rfl rfl ?_; clear F a; intro a F
  refine s_I F rfl rfl rfl rfl rfl rfl ?_; clear F a; intro a F
  refine s_fa0 F rfl rfl rfl rfl fa_102_2_K3 rfl ?_; clear F a; intro a F
  refine s_ld F rfl rfl rfl rfl sc_100_K3 rfl (by exact cell_of_blk M.h0 (gf rfl (by decide))) ?_; clear F a; intro a F
  refine s_lda F rfl rfl rfl rfl ag_111_K3 rfl rfl (cells_whole M.h6) ?_; clear F a; intro a F
  have M1 : Sep _ _ _ (mapR _ _ _ _ :: _) := M.f4; replace M := M1; clear M1
  refine s_del0 keK ((f, K.len f)) F M rfl rfl rfl mp_100_K3 rfl rfl (fun _ _ => pend_nil) ?_; (clear M; try clear w); intro w M
  refine t_endM M ?_; (clear M; try clear w); intro w M
  refine wp_seq ?_
  replace F := F.keep [0, 1, 4, 5, 6, 7] rfl
  refine wp_region_l [.ind, .ind] ([0, 1]) rfl ?_
  refine s_I F rfl rfl rfl rfl rfl rfl ?_; clear F a; intro a F
  refine s_I F rfl rfl rfl rfl rfl rfl ?_; clear F a; intro a F
  refine t_endM M ?_; (clear M; try clear w); intro w M
  refine wp_ret ?_
  refine ret1 F rfl rfl ?_
  -- end 0
  refine ⟨_, upd1 g.tv f.toNat (.slice A38 (K.T f.toNat ++ [(K.C (f, K.len f)).body]).length c38), rfl, rfl, ?_⟩
  rw [if_pos (show (ptrD K g.E (f, K.len f)).isSome = true by rw [show ptrD K g.E (f, K.len f) = some (.pointer (some ⟨(g.E (f, K.len f)).1, 0, none⟩)) from if_pos hk]; rfl)] at M
  refine Fw.Sep.tellIn (r := []) ?_ hk hn (by omega)
  refine M.pick ?_; repeat (first | exact PkG.nil | refine PkG.cons 0 rfl rfl ?_ | refine PkG.cons 1 rfl rfl ?_ | refine PkG.cons 2 rfl rfl ?_ | refine PkG.cons 4 rfl rfl ?_ | refine PkG.cons 5 rfl rfl ?_)
end Go.Proofs.Ytibomfgeemhogaa
