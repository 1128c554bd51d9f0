/- K1 of the seat. -/
import Derived.Test.YtibomfgeemhogaaC7
import Derived.Test.YtibomfgeemhogaaCasM
import Derived.Test.YtibomfgeemhogaaFw9
namespace Go.Proofs.Ytibomfgeemhogaa
open Go Fw
theorem pt_58_K1 : ptrB Try.prog 58 = true := by kernel_rfl
theorem fa_102_0_K1 : FA Try.prog 102 0 0 := fun _ _ _ => by kernel_rfl
theorem sc_3_K1 : scalB Try.prog 3 = true := by kernel_rfl
theorem cb_41_K1 : callB Try.prog 41 = true := by kernel_rfl
theorem fa_102_3_K1 : FA Try.prog 102 3 3 := fun _ _ _ => by kernel_rfl
theorem ar_62_K1 : arrB Try.prog 62 = some (8, 1) := by kernel_rfl
theorem sc_61_K1 : scalB Try.prog 61 = true := by kernel_rfl
theorem sl_61_K1 : slcB Try.prog 61 = some (9, 1) := by kernel_rfl
theorem mp_100_K1 : mapB Try.prog 100 = some (111, 29) := by kernel_rfl
theorem fa_102_2_K1 : FA Try.prog 102 2 2 := fun _ _ _ => by kernel_rfl
theorem sc_100_K1 : scalB Try.prog 100 = true := by kernel_rfl
theorem fa_70_0_K1 : FA Try.prog 70 0 0 := fun _ _ _ => by kernel_rfl
theorem bs_61_0_K1 : ∀ (_ : Unit), News Try.prog (Instr.buildSlice 61 0 #[]) (.cells #[] 9) fun b => .slice (some ⟨b, 0, none⟩) 0 0 := by intros; intro w; kernel_rfl
theorem tl_61_K1 : SlT Try.prog 61 9 1 16 (.string { data := #[] }) := ⟨by kernel_rfl, by kernel_rfl, by kernel_rfl, by kernel_rfl, by decide⟩
theorem cb_44_K1 : callB Try.prog 44 = true := by kernel_rfl
open CastM CasM

def encK (k : Key) : Value := .agg #[.int .i64 k.1, .int .i64 k.2]
def encD (w : Wd) : List Value := [.int .i64 w.frm, .int .i64 w.seq, .int .i64 w.m.kind, .int .i64 w.m.frm, .string w.m.body]
def encS (s : ByteArray) : List Value := [.string s]
def wdV (w : Wd) : Value := .agg #[.int .i64 w.frm, .int .i64 w.seq, .int .i64 w.m.kind, .int .i64 w.m.frm, .string w.m.body]
theorem keK : KE Try.prog 111 encK := by
  refine ⟨fun e k w => ?_, fun k k' w => ?_, ⟨_, Try.underlying111, fun k k' => .inl rfl⟩, fun k => ?_⟩
  · obtain ⟨k1, k2⟩ := k
    kernel_rfl
  · obtain ⟨k1, k2⟩ := k
    obtain ⟨k1', k2'⟩ := k'
    have hs : Try.prog.stoodInHeld 111 = false := by kernel_rfl
    have hu : Try.prog.underlying 111 = some (.struct (Try.prog.fieldsOf 111)) := by kernel_rfl
    have h3 : Try.prog.underlying 3 = some (.int .i64) := by kernel_rfl
    have s3 : scalB Try.prog 3 = true := by kernel_rfl
    unfold Op.equal Op.maxDepth encK
    rw [run_equalIn_struct w 9999 111 _ _ hu hs]
    simp only [Program.fieldsOf, Try.underlying111, Op.eqFields]
    have e1 : ∀ (a b : Int), (part 3 #[Value.int .i64 a, .int .i64 b] 0).run Try.prog w = .ok (.int .i64 a) w := fun a b => part_scal s3 rfl w
    have e2 : ∀ (a b : Int), (part 3 #[Value.int .i64 a, .int .i64 b] 1).run Try.prog w = .ok (.int .i64 b) w := fun a b => part_scal s3 rfl w
    have q1 := run_equalIn_int (P := Try.prog) w 9998 3 .i64 .i64 k1 k1' h3
    have q2 := run_equalIn_int (P := Try.prog) w 9998 3 .i64 .i64 k2 k2' h3
    simp [e1, e2, q1, q2]
    by_cases h1 : k1 = k1' <;> by_cases h2 : k2 = k2' <;> simp [h1, h2]
  · obtain ⟨k1, k2⟩ := k
    simp [encK, Instr.sameBits]
/-- Casts in memory. -/
def kF (n t : Int) (mb : Nat) (tv : Nat → Value) : Nat → Value
  | 0 => .int .i64 n
  | 1 => .int .i64 t
  | 2 => .map (some mb)
  | j + 3 => tv j
def kO (n t : Int) (mb : Nat) (tv : Nat → Value) : Obj := .cells (cellsF 11 (kF n t mb tv)) 102 (0, 0)
theorem kF_told {n t : Int} {mb : Nat} {tv : Nat → Value} {f : Int} : kF n t mb tv (3 + f.toNat * 1) = tv f.toNat := by rw [show 3 + f.toNat * 1 = f.toNat + 3 by omega]; rfl
def ptrD (K : KSt) (E : Key → Nat × Nat) (k : Key) : Option Value := if k ∈ K.ks then some (.pointer (some ⟨(E k).1, 0, none⟩)) else none
def kM (K : KSt) (E : Key → Nat × Nat) (mb : Nat) : Res := mapR encK mb (ptrD K E) K.ks.length
def kC (K : KSt) (E : Key → Nat × Nat) (ks : List Key) : Res := bigR (fun k => castR (E k).1 (E k).2 (K.C k)) ks
def tR (tv : Nat → Value) (T : Nat → List ByteArray) (i : Nat) : Res := slR (tv i) (T i).length 9 1 ((T i).flatMap encS)
def kT (tv : Nat → Value) (T : Nat → List ByteArray) : Res := bigR (tR tv T) (List.range 8)
structure Gh where
  b : Nat
  mb : Nat
  E : Key → Nat × Nat
  tv : Nat → Value
def kR (g : Gh) (K : KSt) : Res :=
  bigR id [blk g.b (kO K.n K.t g.mb g.tv), kM K g.E g.mb, kC K g.E K.ks, kT g.tv K.T]
section
variable {S : Nat → Prop} {w0 w : World} {r : List Res} {g : Gh} {K : KSt}
theorem Fw.Sep.kOpen (M : Sep S w0 w (kR g K :: r)) : Sep S w0 w (blk g.b (kO K.n K.t g.mb g.tv) :: kM K g.E g.mb :: kC K g.E K.ks :: kT g.tv K.T :: r) := by
  refine Sep.regroup (m := [kR g K]) (m' := [blk g.b (kO K.n K.t g.mb g.tv), kM K g.E g.mb, kC K g.E K.ks, kT g.tv K.T]) M ?_ fun hk x hx => ?_
  · simp [foots, kR, bigR]
  · exact hk (kR g K) (by simp) x hx
theorem Fw.Sep.kShut (M : Sep S w0 w (blk g.b (kO K.n K.t g.mb g.tv) :: kM K g.E g.mb :: kC K g.E K.ks :: kT g.tv K.T :: r)) : Sep S w0 w (kR g K :: r) := by
  refine Sep.regroup (m := [blk g.b (kO K.n K.t g.mb g.tv), kM K g.E g.mb, kC K g.E K.ks, kT g.tv K.T]) (m' := [kR g K]) M ?_ fun hk x hx => ?_
  · simp [foots, kR, bigR]
  · simp only [List.mem_cons, List.not_mem_nil, or_false] at hx
    subst hx
    exact hk
end
structure KOk (h : Array Obj) (g : Gh) (K : KSt) : Prop where
  o : h[g.b]? = some (kO K.n K.t g.mb g.tv)
  m : MapHolds encK g.mb (ptrD K g.E) K.ks.length h
  c : ∀ k ∈ K.ks, CastOk (g.E k).1 (g.E k).2 (K.C k) h
  t : ∀ i, i < 8 → SlOk h (g.tv i) (K.T i).length 9 1 ((K.T i).flatMap encS)
theorem k_ok {h : Array Obj} {g : Gh} {K : KSt} (hk : (kR g K).ok h) : KOk h g K := by
  refine ⟨hk (blk g.b (kO K.n K.t g.mb g.tv)) (by simp), hk (kM K g.E g.mb) (by simp), hk (kC K g.E K.ks) (by simp), fun i hi => ?_⟩
  exact hk (kT g.tv K.T) (by simp) i (List.mem_range.2 hi)

set_option maxRecDepth 100000 in
set_option maxHeartbeats 400000 in
theorem c41 (f : Int) (g : Gh) (K : KSt) (W : K.Wf) (w0 : World) (hk : (kR g K).ok w0.heap) : Cl Try.prog 41 #[.pointer (some ⟨g.b, 0, none⟩), .int .i64 f] w0 (RetQ w0 fun v => v = .bool (K.node f)) := by
  have M : Sep (fun _ => False) w0 w0 _ := Sep.nil _ w0
  have O := k_ok hk
  obtain ⟨q0, q1, q2, q3⟩ := q_spec W.q
  refine enter (vs := [_, _]) Try.func41 rfl rfl rfl ?_
  intro a F
  refine wp_seq ?_
  refine wp_region_l [.ind] ([0]) rfl ?_
  refine s_I F rfl rfl rfl rfl rfl rfl ?_; clear F a; intro a F
  refine t_endM M ?_; (clear M; try clear w); intro w M
  refine wp_seq ?_
  refine wp_region_l [.ind, .ind, .ind, .ind, .ind, .ind, .ind, .ind, .ind, .ind, .ind, .rd, .ind, .ind, .ind] ([0, 1, 2, 3, 4, 5, 6, 7, 8, 9, 10, 11, 12, 13, 14]) rfl ?_
  refine s_I F rfl rfl rfl rfl rfl rfl ?_; clear F a; intro a F
  refine s_pne F rfl rfl rfl rfl pt_58_K1 rfl ?_; clear F a; intro a F
  refine s_I F rfl rfl rfl rfl rfl rfl ?_; clear F a; intro a F
  refine s_I F rfl rfl rfl rfl rfl rfl ?_; clear F a; intro a F
  refine s_bin F rfl rfl rfl rfl rfl rfl rfl ?_; clear F a; intro a F
  refine s_I F rfl rfl rfl rfl rfl rfl ?_; clear F a; intro a F
  refine s_I F rfl rfl rfl rfl rfl rfl ?_; clear F a; intro a F
  refine bsplit F 11 rfl ?_ ?_
  ·
    clear F; intro hc0 F
    try rw [hc0] at F
    replace hc0 := of_decide_eq_true hc0
    refine s_I F rfl rfl rfl rfl rfl rfl ?_; clear F a; intro a F
    refine s_I F rfl rfl rfl rfl rfl rfl ?_; clear F a; intro a F
    refine s_I F rfl rfl rfl rfl rfl rfl ?_; clear F a; intro a F
    refine s_fa0 F rfl rfl rfl rfl fa_102_0_K1 rfl ?_; clear F a; intro a F
    refine s_ld F rfl rfl rfl rfl sc_3_K1 rfl (by exact old_cell M id O.o (gf rfl (by decide))) ?_; clear F a; intro a F
    refine s_bin F rfl rfl rfl rfl rfl rfl rfl ?_; clear F a; intro a F
    refine s_I F rfl rfl rfl rfl rfl rfl ?_; clear F a; intro a F
    refine s_I F rfl rfl rfl rfl rfl rfl ?_; clear F a; intro a F
    refine t_endM M ?_; (clear M; try clear w); intro w M
    refine wp_ret ?_
    refine ret1 F rfl rfl ?_
    -- end 0
    refine ⟨_, rfl, ?_, M.chg⟩
    congr 1
    clear M F
    grind [KSt.node]
  ·
    clear F; intro hc1 F
    try rw [hc1] at F
    replace hc1 := of_decide_eq_false hc1
    refine s_no F rfl rfl rfl rfl ?_; clear F a; intro a F
    refine s_no F rfl rfl rfl rfl ?_; clear F a; intro a F
    refine s_no F rfl rfl rfl rfl ?_; clear F a; intro a F
    refine s_no F rfl rfl rfl rfl ?_; clear F a; intro a F
    refine s_no F rfl rfl rfl rfl ?_; clear F a; intro a F
    refine s_no F rfl rfl rfl rfl ?_; clear F a; intro a F
    refine s_I F rfl rfl rfl rfl rfl rfl ?_; clear F a; intro a F
    refine s_I F rfl rfl rfl rfl rfl rfl ?_; clear F a; intro a F
    refine t_endM M ?_; (clear M; try clear w); intro w M
    refine wp_ret ?_
    refine ret1 F rfl rfl ?_
    -- end 1
    refine ⟨_, rfl, ?_, M.chg⟩
    congr 1
    clear M F
    grind [KSt.node]
set_option maxRecDepth 100000 in
set_option maxHeartbeats 400000 in
theorem c41n (f : Int) (w0 : World) : Cl Try.prog 41 #[.pointer none, .int .i64 f] w0 (RetQ w0 fun v => v = .bool false) := by
  have M : Sep (fun _ => False) w0 w0 _ := Sep.nil _ w0
  refine enter (vs := [_, _]) Try.func41 rfl rfl rfl ?_
  intro a F
  refine wp_seq ?_
  refine wp_region_l [.ind] ([0]) rfl ?_
  refine s_I F rfl rfl rfl rfl rfl rfl ?_; clear F a; intro a F
  refine t_endM M ?_; (clear M; try clear w); intro w M
  refine wp_seq ?_
  refine wp_region_l [.ind, .ind, .ind, .ind, .ind, .ind, .ind, .ind, .ind, .ind, .ind, .rd, .ind, .ind, .ind] ([0, 1, 2, 3, 4, 5, 6, 7, 8, 9, 10, 11, 12, 13, 14]) rfl ?_
  refine s_I F rfl rfl rfl rfl rfl rfl ?_; clear F a; intro a F
  refine s_pne F rfl rfl rfl rfl pt_58_K1 rfl ?_; clear F a; intro a F
  refine s_I F rfl rfl rfl rfl rfl rfl ?_; clear F a; intro a F
  refine s_no F rfl rfl rfl rfl ?_; clear F a; intro a F
  refine s_no F rfl rfl rfl rfl ?_; clear F a; intro a F
  refine s_I F rfl rfl rfl rfl rfl rfl ?_; clear F a; intro a F
  refine s_I F rfl rfl rfl rfl rfl rfl ?_; clear F a; intro a F
  refine s_no F rfl rfl rfl rfl ?_; clear F a; intro a F
  refine s_no F rfl rfl rfl rfl ?_; clear F a; intro a F
  refine s_no F rfl rfl rfl rfl ?_; clear F a; intro a F
  refine s_no F rfl rfl rfl rfl ?_; clear F a; intro a F
  refine s_no F rfl rfl rfl rfl ?_; clear F a; intro a F
  refine s_no F rfl rfl rfl rfl ?_; clear F a; intro a F
  refine s_I F rfl rfl rfl rfl rfl rfl ?_; clear F a; intro a F
  refine s_I F rfl rfl rfl rfl rfl rfl ?_; clear F a; intro a F
  refine t_endM M ?_; (clear M; try clear w); intro w M
  refine wp_ret ?_
  refine ret1 F rfl rfl ?_
  -- end 0
  exact ⟨_, rfl, rfl, M.chg⟩

theorem lt_some {h : Array Obj} {b : Nat} {o : Obj} (e : h[b]? = some o) : b < h.size := by
  by_cases hb : b < h.size
  · exact hb
  · rw [Array.getElem?_eq_none (by omega)] at e; cases e
theorem k_lt {h : Array Obj} {g : Gh} {K : KSt} (hk : (kR g K).ok h) : ∀ b ∈ (kR g K).foot, b < h.size := by
  intro b hb
  obtain ⟨x, hx, hbx⟩ := List.mem_flatMap.1 hb
  have hx' := hk x hx
  simp only [List.mem_cons, List.not_mem_nil, or_false] at hx
  rcases hx with rfl | rfl | rfl | rfl
  · have e : b = g.b := by simpa [blk] using hbx
    subst e
    exact lt_some hx'
  · have e : b = g.mb := by simpa [kM, mapR] using hbx
    subst e
    obtain ⟨_, _, h1, _⟩ := hx'
    exact lt_some h1
  · obtain ⟨k, hk1, hk2⟩ := List.mem_flatMap.1 hbx
    obtain ⟨_, ⟨_, h1, _⟩, _, _, _, h3, _⟩ := hx' k hk1
    have e : b = (g.E k).1 ∨ b = (g.E k).2 := by simpa [castR] using hk2
    rcases e with rfl | rfl
    · exact lt_some h1
    · exact lt_some h3
  · obtain ⟨i, hi1, hi2⟩ := List.mem_flatMap.1 hbx
    obtain ⟨_, h2⟩ := hx' i hi1
    have hi3 : b ∈ ownB (g.tv i) := hi2
    rcases h2 with ⟨h3, _⟩ | ⟨b', _, _, h3, _, h4, _⟩
    · rw [h3] at hi3; simp [ownB] at hi3
    · rw [h3] at hi3
      have : b = b' := by simpa [ownB] using hi3
      subst this
      exact lt_some h4
theorem Fw.Sep.toE {w0 w : World} {r : List Res} (M : Sep (fun _ => False) w0 w r) : Sep (fun b => b ∈ foots ([] : List Res)) w0 w r := by
  have e : (fun b => b ∈ foots ([] : List Res)) = fun _ => False := by funext b; simp [foots]
  rw [e]; exact M
theorem Fw.Sep.sl0 {S : Nat → Prop} {w0 w : World} {r : List Res} {b E sz : Nat} (M : Sep S w0 w (blk b (.cells #[] E (0, 0)) :: r)) : Sep S w0 w (slR (.slice (some ⟨b, 0, none⟩) 0 0) ([] : List Nat).length E sz ([] : List Value) :: r) :=
  M.turn (q := slR (.slice (some ⟨b, 0, none⟩) 0 0) 0 E sz []) rfl fun h => ⟨by simp, .inr ⟨b, 0, [], rfl, Nat.le_refl _, h, by simp⟩⟩
theorem map_kq {w0 w : World} {r : List Res} {g : Gh} {K : KSt} (M : Sep (fun _ => False) w0 w r) (hk : (kR g K).ok w0.heap) : MapHolds encK g.mb (ptrD K g.E) K.ks.length w.heap := (k_ok ((kR g K).loc w0.heap w.heap (fun b hb => M.chg.keep b (k_lt hk b hb) id) hk)).m
theorem kq {w0 w : World} {r : List Res} {g : Gh} {K : KSt} (M : Sep (fun _ => False) w0 w r) (hk : (kR g K).ok w0.heap) : (kR g K).ok w.heap := (kR g K).loc w0.heap w.heap (fun b hb => M.chg.keep b (k_lt hk b hb) id) hk

set_option maxRecDepth 100000 in
set_option maxHeartbeats 400000 in
theorem c33 (f : Int) (g : Gh) (K : KSt) (W : K.Wf) (w0 : World) (hk : (kR g K).ok w0.heap) : Cl Try.prog 33 #[.pointer (some ⟨g.b, 0, none⟩), .int .i64 f] w0 (RetQ w0 fun v => v = .int .i64 (if K.node f = true then K.len f else 0)) := by
  have M : Sep (fun _ => False) w0 w0 _ := Sep.nil _ w0
  have O := k_ok hk
  obtain ⟨q0, q1, q2, q3⟩ := q_spec W.q
  refine enter (vs := [_, _]) Try.func33 rfl rfl rfl ?_
  intro a F
  refine wp_seq ?_
  refine wp_region_l [.ind] ([0]) rfl ?_
  refine s_I F rfl rfl rfl rfl rfl rfl ?_; clear F a; intro a F
  refine t_endM M ?_; (clear M; try clear w); intro w M
  refine wp_seq ?_
  refine wp_seq ?_
  refine wp_region_l [.ind, .ind, .wr, .ind] ([0, 1, 2, 3]) rfl ?_
  refine s_I F rfl rfl rfl rfl rfl rfl ?_; clear F a; intro a F
  refine s_I F rfl rfl rfl rfl rfl rfl ?_; clear F a; intro a F
  refine s_cq F M rfl rfl rfl rfl rfl (rfl : _ = some [_, _]) cb_41_K1 (fun nd_ => c41 _ g K W _ (kq (M.drewN nd_) hk)) ?_; (clear F a M; try clear w); rintro v w rfl M a F
  refine s_I F rfl rfl rfl rfl rfl rfl ?_; clear F a; intro a F
  refine t_endM M ?_; (clear M; try clear w); intro w M
  refine c_if F rfl ?_ ?_
  ·
    clear F; intro hc0 F
    try rw [hc0] at F
    replace hc0 := nt hc0
    refine wp_seq ?_
    replace F := F.keep [0, 1, 4] rfl
    refine wp_region_l [.ind] ([0]) rfl ?_
    refine s_I F rfl rfl rfl rfl rfl rfl ?_; clear F a; intro a F
    refine t_endM M ?_; (clear M; try clear w); intro w M
    refine wp_ret ?_
    refine ret1 F rfl rfl ?_
    -- end 0
    refine ⟨_, rfl, ?_, M.chg⟩
    rw [if_neg (by simp_all)]
    try rfl
  ·
    clear F; intro hc1 F
    try rw [hc1] at F
    replace hc1 := nf hc1
    obtain ⟨hn1, hn2⟩ := node_spec hc1
    obtain ⟨A, cc, htv⟩ := (O.t f.toNat (by omega)).form
    refine wp_skip ?_
    refine wp_seq ?_
    replace F := F.keep [0, 1, 4] rfl
    refine wp_region_l [.ind, .ind, .ind, .ind, .ind, .rd, .ind, .ind] ([0, 1, 2, 3, 4, 5, 6, 7]) rfl ?_
    refine s_I F rfl rfl rfl rfl rfl rfl ?_; clear F a; intro a F
    refine s_I F rfl rfl rfl rfl rfl rfl ?_; clear F a; intro a F
    refine s_I F rfl rfl rfl rfl rfl rfl ?_; clear F a; intro a F
    refine s_fa0 F rfl rfl rfl rfl fa_102_3_K1 rfl ?_; clear F a; intro a F
    refine s_ia F rfl rfl rfl rfl ar_62_K1 rfl rfl (by omega) (by omega) ?_; clear F a; intro a F
    refine s_ld F rfl rfl rfl rfl sc_61_K1 rfl (by exact old_cell M id O.o (gf (kF_told.trans htv) (by omega))) ?_; clear F a; intro a F
    refine s_len F rfl rfl rfl rfl sl_61_K1 rfl ?_; clear F a; intro a F
    refine s_I F rfl rfl rfl rfl rfl rfl ?_; clear F a; intro a F
    refine t_endM M ?_; (clear M; try clear w); intro w M
    refine wp_ret ?_
    refine ret1 F rfl rfl ?_
    -- end 1
    refine ⟨_, rfl, ?_, M.chg⟩
    rw [if_pos (by assumption)]
    try rfl
set_option maxRecDepth 100000 in
set_option maxHeartbeats 400000 in
theorem c30 (g : Gh) (K : KSt) (W : K.Wf) (w0 : World) (hk : (kR g K).ok w0.heap) : Cl Try.prog 30 #[.pointer (some ⟨g.b, 0, none⟩)] w0 (RetQ w0 fun v => v = .int .i64 K.ks.length) := by
  have M : Sep (fun _ => False) w0 w0 _ := Sep.nil _ w0
  have O := k_ok hk
  obtain ⟨q0, q1, q2, q3⟩ := q_spec W.q
  refine enter (vs := [_]) Try.func30 rfl rfl rfl ?_
  intro a F
  refine wp_seq ?_
  refine wp_region_l [.ind] ([0]) rfl ?_
  refine s_I F rfl rfl rfl rfl rfl rfl ?_; clear F a; intro a F
  refine t_endM M ?_; (clear M; try clear w); intro w M
  refine wp_seq ?_
  refine wp_seq ?_
  refine wp_region_l [.ind, .ind] ([0, 1]) rfl ?_
  refine s_I F rfl rfl rfl rfl rfl rfl ?_; clear F a; intro a F
  refine s_pn F rfl rfl rfl rfl pt_58_K1 rfl ?_; clear F a; intro a F
  refine t_endM M ?_; (clear M; try clear w); intro w M
  refine c_f F rfl ?_
  refine wp_skip ?_
  refine wp_seq ?_
  replace F := F.keep [0, 2] rfl
  refine wp_region_l [.ind, .ind, .ind, .rd, .rd, .ind] ([0, 1, 2, 3, 4, 5]) rfl ?_
  refine s_I F rfl rfl rfl rfl rfl rfl ?_; clear F a; intro a F
  refine s_I F rfl rfl rfl rfl rfl rfl ?_; clear F a; intro a F
  refine s_fa0 F rfl rfl rfl rfl fa_102_2_K1 rfl ?_; clear F a; intro a F
  refine s_ld F rfl rfl rfl rfl sc_100_K1 rfl (by exact old_cell M id O.o (gf rfl (by decide))) ?_; clear F a; intro a F
  refine s_lm F rfl rfl rfl rfl mp_100_K1 rfl (map_kq M hk) ?_; clear F a; intro a F
  refine s_I F rfl rfl rfl rfl rfl rfl ?_; clear F a; intro a F
  refine t_endM M ?_; (clear M; try clear w); intro w M
  refine wp_ret ?_
  refine ret1 F rfl rfl ?_
  -- end 0
  exact ⟨_, rfl, rfl, M.chg⟩
set_option maxRecDepth 100000 in
set_option maxHeartbeats 400000 in
theorem c30n (w0 : World) : Cl Try.prog 30 #[.pointer none] w0 (RetQ w0 fun v => v = .int .i64 0) := by
  have M : Sep (fun _ => False) w0 w0 _ := Sep.nil _ w0
  refine enter (vs := [_]) Try.func30 rfl rfl rfl ?_
  intro a F
  refine wp_seq ?_
  refine wp_region_l [.ind] ([0]) rfl ?_
  refine s_I F rfl rfl rfl rfl rfl rfl ?_; clear F a; intro a F
  refine t_endM M ?_; (clear M; try clear w); intro w M
  refine wp_seq ?_
  refine wp_seq ?_
  refine wp_region_l [.ind, .ind] ([0, 1]) rfl ?_
  refine s_I F rfl rfl rfl rfl rfl rfl ?_; clear F a; intro a F
  refine s_pn F rfl rfl rfl rfl pt_58_K1 rfl ?_; clear F a; intro a F
  refine t_endM M ?_; (clear M; try clear w); intro w M
  refine c_t F rfl ?_
  refine wp_seq ?_
  replace F := F.keep [0, 2] rfl
  refine wp_region_l [.ind] ([0]) rfl ?_
  refine s_I F rfl rfl rfl rfl rfl rfl ?_; clear F a; intro a F
  refine t_endM M ?_; (clear M; try clear w); intro w M
  refine wp_ret ?_
  refine ret1 F rfl rfl ?_
  -- end 0
  exact ⟨_, rfl, rfl, M.chg⟩
set_option maxRecDepth 100000 in
set_option maxHeartbeats 400000 in
theorem c33n (f : Int) (w0 : World) : Cl Try.prog 33 #[.pointer none, .int .i64 f] w0 (RetQ w0 fun v => v = .int .i64 0) := by
  have M : Sep (fun _ => False) w0 w0 _ := Sep.nil _ w0
  refine enter (vs := [_, _]) Try.func33 rfl rfl rfl ?_
  intro a F
  refine wp_seq ?_
  refine wp_region_l [.ind] ([0]) rfl ?_
  refine s_I F rfl rfl rfl rfl rfl rfl ?_; clear F a; intro a F
  refine t_endM M ?_; (clear M; try clear w); intro w M
  refine wp_seq ?_
  refine wp_seq ?_
  refine wp_region_l [.ind, .ind, .wr, .ind] ([0, 1, 2, 3]) rfl ?_
  refine s_I F rfl rfl rfl rfl rfl rfl ?_; clear F a; intro a F
  refine s_I F rfl rfl rfl rfl rfl rfl ?_; clear F a; intro a F
  refine s_cq F M rfl rfl rfl rfl rfl (rfl : _ = some [_, _]) cb_41_K1 (fun nd_ => c41n _ _) ?_; (clear F a M; try clear w); rintro v w rfl M a F
  refine s_I F rfl rfl rfl rfl rfl rfl ?_; clear F a; intro a F
  replace F : Fr _ _ ((8, Value.bool true) :: _) := F
  refine t_endM M ?_; (clear M; try clear w); intro w M
  refine c_t F rfl ?_
  refine wp_seq ?_
  replace F := F.keep [0, 1, 4] rfl
  refine wp_region_l [.ind] ([0]) rfl ?_
  refine s_I F rfl rfl rfl rfl rfl rfl ?_; clear F a; intro a F
  refine t_endM M ?_; (clear M; try clear w); intro w M
  refine wp_ret ?_
  refine ret1 F rfl rfl ?_
  -- end 0
  exact ⟨_, rfl, rfl, M.chg⟩
set_option maxRecDepth 100000 in
set_option maxHeartbeats 400000 in
theorem c32n (f : Int) (w0 : World) : Cl Try.prog 32 #[.pointer none, .int .i64 f] w0 (RetQ w0 fun v => v = .slice none 0 0) := by
  have M : Sep (fun _ => False) w0 w0 _ := Sep.nil _ w0
  refine enter (vs := [_, _]) Try.func32 rfl rfl rfl ?_
  intro a F
  refine wp_seq ?_
  refine wp_region_l [.ind] ([0]) rfl ?_
  refine s_I F rfl rfl rfl rfl rfl rfl ?_; clear F a; intro a F
  refine t_endM M ?_; (clear M; try clear w); intro w M
  refine wp_seq ?_
  refine wp_seq ?_
  refine wp_region_l [.ind, .ind, .wr, .ind] ([0, 1, 2, 3]) rfl ?_
  refine s_I F rfl rfl rfl rfl rfl rfl ?_; clear F a; intro a F
  refine s_I F rfl rfl rfl rfl rfl rfl ?_; clear F a; intro a F
  refine s_cq F M rfl rfl rfl rfl rfl (rfl : _ = some [_, _]) cb_41_K1 (fun nd_ => c41n _ _) ?_; (clear F a M; try clear w); rintro v w rfl M a F
  refine s_I F rfl rfl rfl rfl rfl rfl ?_; clear F a; intro a F
  replace F : Fr _ _ ((8, Value.bool true) :: _) := F
  refine t_endM M ?_; (clear M; try clear w); intro w M
  refine c_t F rfl ?_
  refine wp_seq ?_
  replace F := F.keep [0, 1, 4] rfl
  refine wp_region_l [.ind] ([0]) rfl ?_
  refine s_I F rfl rfl rfl rfl rfl rfl ?_; clear F a; intro a F
  refine t_endM M ?_; (clear M; try clear w); intro w M
  refine wp_ret ?_
  refine ret1 F rfl rfl ?_
  -- end 0
  exact ⟨_, rfl, rfl, M.chg⟩
set_option maxRecDepth 100000 in
set_option maxHeartbeats 400000 in
theorem c29n (q : Wd) (w0 : World) : Cl Try.prog 29 #[.pointer none, wdV q] w0 (RetQ w0 fun v => v = .slice none 0 0) := by
  have M : Sep (fun _ => False) w0 w0 _ := Sep.nil _ w0
  refine enter (vs := [_, _]) Try.func29 rfl rfl rfl ?_
  intro a F
  refine wp_seq ?_
  refine wp_region_l [.wr, .ind] ([0, 1]) rfl ?_
  refine s_bxA F M rfl rfl rfl rfl rfl ?_; (clear F a M; try clear w); intro b3 w M a F
  refine s_I F rfl rfl rfl rfl rfl rfl ?_; clear F a; intro a F
  refine t_endM M ?_; (clear M; try clear w); intro w M
  refine wp_seq ?_
  refine wp_seq ?_
  refine wp_region_l [.ind, .ind, .rd, .wr, .ind] ([0, 1, 2, 3, 4]) rfl ?_
  refine s_I F rfl rfl rfl rfl rfl rfl ?_; clear F a; intro a F
  refine s_fa0 F rfl rfl rfl rfl fa_70_0_K1 rfl ?_; clear F a; intro a F
  refine s_ld F rfl rfl rfl rfl sc_3_K1 rfl (by exact cell_of_blk M.h0 (lit rfl)) ?_; clear F a; intro a F
  refine s_cq F M rfl rfl rfl rfl rfl (rfl : _ = some [_, _]) cb_41_K1 (fun nd_ => c41n _ _) ?_; (clear F a M; try clear w); rintro v w rfl M a F
  refine s_I F rfl rfl rfl rfl rfl rfl ?_; clear F a; intro a F
  replace F : Fr _ _ ((14, Value.bool true) :: _) := F
  refine t_endM M ?_; (clear M; try clear w); intro w M
  refine c_t F rfl ?_
  refine wp_seq ?_
  replace F := F.keep [0, 1, 3, 4] rfl
  refine wp_region_l [.ind] ([0]) rfl ?_
  refine s_I F rfl rfl rfl rfl rfl rfl ?_; clear F a; intro a F
  refine t_endM M ?_; (clear M; try clear w); intro w M
  refine wp_ret ?_
  refine ret1 F rfl rfl ?_
  -- end 0
  exact ⟨_, rfl, rfl, M.chg⟩

theorem rd_none {h : Array Obj} {A : Option Addr} {c : Nat} {l : List ByteArray} (hr : RdSl h (.slice A l.length c) l.length 1 (l.flatMap encS)) (hA : A = none) : l = [] := by
  obtain ⟨_, A', c', e, _, hp⟩ := hr
  cases l with
  | nil => rfl
  | cons x l =>
    obtain ⟨_, _, _, _, _, e', _⟩ := hp (by simp)
    subst hA
    simp only [Value.slice.injEq] at e
    rw [← e.1] at e'
    cases e'

set_option maxRecDepth 100000 in
set_option maxHeartbeats 400000 in
theorem c44 (l : List ByteArray) (hl : l.length ≤ 1000) (v : Value) (w0 : World) (hr : RdSl w0.heap v l.length 1 (l.flatMap encS)) : Cl Try.prog 44 #[v] w0 (RetS [] w0 (fun r (x : Value) => r = x) fun x => [slR x l.length 9 1 (l.flatMap encS)]) := by
  have M : Sep (fun _ => False) w0 w0 _ := Sep.nil _ w0
  have hro := ro_of hr
  obtain ⟨A, cc, rfl, hcc⟩ := hr.form
  refine enter (vs := [_]) Try.func44 rfl rfl rfl ?_
  intro a F
  refine wp_seq ?_
  refine wp_region_l [.ind] ([0]) rfl ?_
  refine s_I F rfl rfl rfl rfl rfl rfl ?_; clear F a; intro a F
  refine t_endM M ?_; (clear M; try clear w); intro w M
  refine wp_seq ?_
  refine wp_seq ?_
  refine wp_region_l [.ind, .ind] ([0, 1]) rfl ?_
  refine s_I F rfl rfl rfl rfl rfl rfl ?_; clear F a; intro a F
  refine s_sn F rfl rfl rfl rfl sl_61_K1 rfl ?_; clear F a; intro a F
  refine t_endM M ?_; (clear M; try clear w); intro w M
  refine c_if F rfl ?_ ?_
  ·
    clear F; intro hc0 F
    try rw [hc0] at F
    skip
    refine wp_seq ?_
    replace F := F.keep [0, 2] rfl
    refine wp_region_l [.ind] ([0]) rfl ?_
    refine s_I F rfl rfl rfl rfl rfl rfl ?_; clear F a; intro a F
    refine t_endM M ?_; (clear M; try clear w); intro w M
    refine wp_ret ?_
    refine ret1 F rfl rfl ?_
    -- end 0
    obtain rfl := rd_none hr (by simpa using hc0)
    refine ⟨_, _, rfl, rfl, ?_⟩
    exact Sep.left (r := []) (M.nilS 9 1).toE
  ·
    clear F; intro hc1 F
    try rw [hc1] at F
    skip
    refine wp_skip ?_
    refine wp_seq ?_
    replace F := F.keep [0, 2] rfl
    refine wp_region_l [.wr, .ind, .wr, .ind] ([0, 1, 2, 3]) rfl ?_
    refine s_bs F M rfl rfl rfl rfl (parts0 F ) (bs_61_0_K1 ()) ?_; (clear F a M; try clear w); intro b5 w M a F
    replace M := Fw.Sep.sl0 (sz := 1) M
    refine s_I F rfl rfl rfl rfl rfl rfl ?_; clear F a; intro a F
    replace M : Sep _ _ _ (slR (.slice (some ⟨b5, 0, none⟩) 0 0) ([] : List ByteArray).length 9 1 (([] : List ByteArray).flatMap encS) :: _) := M
    refine s_apM (l) F M rfl rfl rfl rfl tl_61_K1 rfl rfl (by exact M.chg.ro hro) (by intro e; rfl) (by simp; omega) (fun _ _ _ _ => pend_nil) ?_; (clear F a M; try clear w); intro A7 c7 w M a F
    refine s_I F rfl rfl rfl rfl rfl rfl ?_; clear F a; intro a F
    refine t_endM M ?_; (clear M; try clear w); intro w M
    refine wp_ret ?_
    refine ret1 F rfl rfl ?_
    -- end 1
    refine ⟨_, _, rfl, rfl, ?_⟩
    exact Sep.left (r := []) M.toE
set_option maxRecDepth 100000 in
set_option maxHeartbeats 400000 in
theorem c32 (f : Int) (g : Gh) (K : KSt) (W : K.Wf) (w0 : World) (hk : (kR g K).ok w0.heap) (hT : ∀ i, (K.T i).length ≤ 1000) : Cl Try.prog 32 #[.pointer (some ⟨g.b, 0, none⟩), .int .i64 f] w0 (RetS [] w0 (fun v (x : Value) => v = x) fun x => [slR x (if K.node f = true then K.T f.toNat else []).length 9 1 ((if K.node f = true then K.T f.toNat else []).flatMap encS)]) := by
  have M : Sep (fun _ => False) w0 w0 _ := Sep.nil _ w0
  have O := k_ok hk
  obtain ⟨q0, q1, q2, q3⟩ := q_spec W.q
  refine enter (vs := [_, _]) Try.func32 rfl rfl rfl ?_
  intro a F
  refine wp_seq ?_
  refine wp_region_l [.ind] ([0]) rfl ?_
  refine s_I F rfl rfl rfl rfl rfl rfl ?_; clear F a; intro a F
  refine t_endM M ?_; (clear M; try clear w); intro w M
  refine wp_seq ?_
  refine wp_seq ?_
  refine wp_region_l [.ind, .ind, .wr, .ind] ([0, 1, 2, 3]) rfl ?_
  refine s_I F rfl rfl rfl rfl rfl rfl ?_; clear F a; intro a F
  refine s_I F rfl rfl rfl rfl rfl rfl ?_; clear F a; intro a F
  refine s_cq F M rfl rfl rfl rfl rfl (rfl : _ = some [_, _]) cb_41_K1 (fun nd_ => c41 _ g K W _ (kq (M.drewN nd_) hk)) ?_; (clear F a M; try clear w); rintro v w rfl M a F
  refine s_I F rfl rfl rfl rfl rfl rfl ?_; clear F a; intro a F
  refine t_endM M ?_; (clear M; try clear w); intro w M
  refine c_if F rfl ?_ ?_
  ·
    clear F; intro hc0 F
    try rw [hc0] at F
    replace hc0 := nt hc0
    refine wp_seq ?_
    replace F := F.keep [0, 1, 4] rfl
    refine wp_region_l [.ind] ([0]) rfl ?_
    refine s_I F rfl rfl rfl rfl rfl rfl ?_; clear F a; intro a F
    refine t_endM M ?_; (clear M; try clear w); intro w M
    refine wp_ret ?_
    refine ret1 F rfl rfl ?_
    -- end 0
    refine ⟨_, _, rfl, rfl, ?_⟩
    first
      | (rw [if_pos (by assumption)]; exact Sep.left (r := []) M.toE)
      | (rw [if_neg (by simp_all)]; exact Sep.left (r := []) (M.nilS 9 1).toE)
  ·
    clear F; intro hc1 F
    try rw [hc1] at F
    replace hc1 := nf hc1
    obtain ⟨hn1, hn2⟩ := node_spec hc1
    obtain ⟨A, cc, htv⟩ := (O.t f.toNat (by omega)).form
    refine wp_skip ?_
    refine wp_seq ?_
    replace F := F.keep [0, 1, 4] rfl
    refine wp_region_l [.ind, .ind, .ind, .ind, .ind, .rd, .wr, .ind] ([0, 1, 2, 3, 4, 5, 6, 7]) rfl ?_
    refine s_I F rfl rfl rfl rfl rfl rfl ?_; clear F a; intro a F
    refine s_I F rfl rfl rfl rfl rfl rfl ?_; clear F a; intro a F
    refine s_I F rfl rfl rfl rfl rfl rfl ?_; clear F a; intro a F
    refine s_fa0 F rfl rfl rfl rfl fa_102_3_K1 rfl ?_; clear F a; intro a F
    refine s_ia F rfl rfl rfl rfl ar_62_K1 rfl rfl (by omega) (by omega) ?_; clear F a; intro a F
    refine s_ld F rfl rfl rfl rfl sc_61_K1 rfl (by exact old_cell M id O.o (gf (kF_told.trans htv) (by omega))) ?_; clear F a; intro a F
    refine s_call (m := []) F M rfl rfl rfl rfl rfl (rfl : _ = some [_]) cb_44_K1 (fun nd_ => c44 (K.T f.toNat) (hT f.toNat) (.slice A _ cc) _ ((htv ▸ ((k_ok (kq (M.drewN nd_) hk)).t f.toNat (by omega))).rd)) ?_; (clear F a M; try clear w); rintro v x1 w rfl M a F; (try simp only [List.cons_append, List.nil_append] at M)
    refine s_I F rfl rfl rfl rfl rfl rfl ?_; clear F a; intro a F
    refine t_endM M ?_; (clear M; try clear w); intro w M
    refine wp_ret ?_
    refine ret1 F rfl rfl ?_
    -- end 1
    refine ⟨_, _, rfl, rfl, ?_⟩
    first
      | (rw [if_pos (by assumption)]; exact Sep.left (r := []) M.toE)
      | (rw [if_neg (by simp_all)]; exact Sep.left (r := []) (M.nilS 9 1).toE)
end Go.Proofs.Ytibomfgeemhogaa
