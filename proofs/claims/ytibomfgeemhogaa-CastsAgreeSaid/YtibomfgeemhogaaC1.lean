/- C1 of the seat. -/
import Derived.Test.YtibomfgeemhogaaFw6
import Derived.Test.YtibomfgeemhogaaProg
import Derived.Test.YtibomfgeemhogaaCastM
namespace Go.Proofs.Ytibomfgeemhogaa
open Go Fw

theorem pt_29_C1 : ptrB Try.prog 29 = true := by kernel_rfl
theorem fa_94_7_C1 : FA Try.prog 94 7 38 := fun _ _ _ => by kernel_rfl
theorem sc_9_C1 : scalB Try.prog 9 = true := by kernel_rfl
theorem fa_94_6_C1 : FA Try.prog 94 6 37 := fun _ _ _ => by kernel_rfl
theorem sc_4_C1 : scalB Try.prog 4 = true := by kernel_rfl
theorem fa_38_1_C1 : FA Try.prog 38 1 1 := fun _ _ _ => by kernel_rfl
theorem sc_3_C1 : scalB Try.prog 3 = true := by kernel_rfl
theorem fa_94_0_C1 : FA Try.prog 94 0 0 := fun _ _ _ => by kernel_rfl
theorem fa_38_0_C1 : FA Try.prog 38 0 0 := fun _ _ _ => by kernel_rfl
theorem fa_38_2_C1 : FA Try.prog 38 2 2 := fun _ _ _ => by kernel_rfl
theorem st_9_C1 : strB Try.prog 9 = true := by kernel_rfl
theorem fa_94_3_C1 : FA Try.prog 94 3 3 := fun _ _ _ => by kernel_rfl
theorem ar_92_C1 : arrB Try.prog 92 = some (4, 8) := by kernel_rfl
theorem ar_91_C1 : arrB Try.prog 91 = some (8, 1) := by kernel_rfl
theorem fa_94_2_C1 : FA Try.prog 94 2 2 := fun _ _ _ => by kernel_rfl
theorem cb_12_C1 : callB Try.prog 12 = true := by kernel_rfl
theorem bl_94_0_1_2_4_C1 : ∀ (x0 : Int) (x1 : Int) (x2 : Int) (x4 : Option Nat), ∀ w : World, (Instr.build 94 #[(0, .int .i64 x0), (1, .int .i64 x1), (2, .int .i64 x2), (4, .map x4)]).run Try.prog w = .ok (.agg #[.int .i64 x0, .int .i64 x1, .int .i64 x2, .bool false, .bool false, .bool false, .bool false, .bool false, .bool false, .bool false, .bool false, .bool false, .bool false, .bool false, .bool false, .bool false, .bool false, .bool false, .bool false, .bool false, .bool false, .bool false, .bool false, .bool false, .bool false, .bool false, .bool false, .bool false, .bool false, .bool false, .bool false, .bool false, .bool false, .bool false, .bool false, .map x4, .bool false, .bool false, .string { data := #[] }]) w := by intros; kernel_rfl
theorem mp_90_C1 : mapB Try.prog 90 = some (98, 3) := by kernel_rfl
theorem zr_3_C1 : zeroB Try.prog 3 = some (.int .i64 0) := by kernel_rfl
theorem ag_38_C1 : aggB Try.prog 38 = some 3 := by kernel_rfl
theorem cb_37_C1 : callB Try.prog 37 = true := by kernel_rfl
theorem sz_4_C1 : sizeB Try.prog 4 = some 1 := by kernel_rfl
theorem fa_94_4_C1 : FA Try.prog 94 4 35 := fun _ _ _ => by kernel_rfl
theorem sc_90_C1 : scalB Try.prog 90 = true := by kernel_rfl
theorem bl_98_0_1_C1 : ∀ (x0 : Int) (x1 : ByteArray), ∀ w : World, (Instr.build 98 #[(0, .int .i64 x0), (1, .string x1)]).run Try.prog w = .ok (.agg #[.int .i64 x0, .string x1]) w := by intros; kernel_rfl
theorem bl_38_0_2_C1 : ∀ (x0 : Int) (x2 : ByteArray), ∀ w : World, (Instr.build 38 #[(0, .int .i64 x0), (2, .string x2)]).run Try.prog w = .ok (.agg #[.int .i64 x0, .int .i64 0, .string x2]) w := by intros; kernel_rfl
theorem bs_27_1_C1 : ∀ (x0_0 : Int) (x0_1 : Int) (x0_2 : ByteArray), News Try.prog (Instr.buildSlice 27 1 #[(0, .agg #[.int .i64 x0_0, .int .i64 x0_1, .string x0_2])]) (.cells #[.int .i64 x0_0, .int .i64 x0_1, .string x0_2] 38) fun b => .slice (some ⟨b, 0, none⟩) 1 1 := by intros; intro w; kernel_rfl
theorem tl_27_C1 : SlT Try.prog 27 38 3 32 (.agg #[.int .i64 0, .int .i64 0, .string { data := #[] }]) := ⟨by kernel_rfl, by kernel_rfl, by kernel_rfl, by kernel_rfl, by decide⟩
theorem fa_94_5_C1 : FA Try.prog 94 5 36 := fun _ _ _ => by kernel_rfl
theorem fa_94_1_C1 : FA Try.prog 94 1 1 := fun _ _ _ => by kernel_rfl
theorem sz_9_C1 : sizeB Try.prog 9 = some 1 := by kernel_rfl
open CastM
theorem mixed : Try.prog.follows .mixedOrders = true := by kernel_rfl

def encM (m : Msg) : List Value := [.int .i64 m.kind, .int .i64 m.frm, .string m.body]
theorem encM_len (m : Msg) : (encM m).length = 3 := rfl
abbrev msgV (m : Msg) : Value := .agg #[.int .i64 m.kind, .int .i64 m.frm, .string m.body]

/-- The cells of a Cast. -/
structure CastF (f : Nat → Value) (n t frm : Int) (L : List Msg) (ready told : Bool) (body : ByteArray) (vb : Nat) : Prop where
  n : f 0 = .int .i64 n
  t : f 1 = .int .i64 t
  frm : f 2 = .int .i64 frm
  heard : ∀ k i : Int, 0 ≤ k → k < 4 → 0 ≤ i → i < 8 → f (3 + k.toNat * 8 + i.toNat * 1) = .bool (heardL L k i)
  voices : f 35 = .map (some vb)
  ready : f 36 = .bool ready
  told : f 37 = .bool told
  body : f 38 = .string body

def castV (n t frm : Int) (ready told : Bool) (body : ByteArray) (vb : Nat) : Nat → Option Value
  | 0 => some (.int .i64 n)
  | 1 => some (.int .i64 t)
  | 2 => some (.int .i64 frm)
  | 35 => some (.map (some vb))
  | 36 => some (.bool ready)
  | 37 => some (.bool told)
  | 38 => some (.string body)
  | _ => none
theorem CastF.at_ {f : Nat → Value} {n t frm : Int} {L : List Msg} {ready told : Bool} {body : ByteArray} {vb : Nat} (C : CastF f n t frm L ready told body vb) {i : Nat} {v : Value} (h : castV n t frm ready told body vb i = some v) : f i = v := by
  unfold castV at h
  split at h <;> simp only [Option.some.injEq, reduceCtorEq] at h <;> subst h
  · exact C.n
  · exact C.t
  · exact C.frm
  · exact C.voices
  · exact C.ready
  · exact C.told
  · exact C.body
def encV (k : Int × ByteArray) : Value := .agg #[.int .i64 k.1, .string k.2]
def voiceD (L : List Msg) (k : Int × ByteArray) : Option Value := if cntL L k.1 k.2 = 0 then none else some (.int .i64 (cntL L k.1 k.2 : Nat))
theorem voiceD_get (L : List Msg) (k : Int × ByteArray) : (voiceD L k).getD (.int .i64 0) = .int .i64 (cntL L k.1 k.2 : Nat) := by
  unfold voiceD
  split
  · rename_i h; rw [h]; rfl
  · rfl

/-- A Cast in memory. -/
def CastOk (b vb : Nat) (c : CSt) (h : Array Obj) : Prop := c.Wf ∧ (∃ f, h[b]? = some (.cells (cellsF 39 f) 94 (0, 0)) ∧ CastF f c.n c.t c.frm c.L c.ready c.done c.body vb) ∧ ∃ N, MapHolds encV vb (voiceD c.L) N h
def castR (b vb : Nat) (c : CSt) : Res := ⟨10, [b, vb], CastOk b vb c, fun h h' hb ⟨w, ⟨f, h1, h2⟩, N, l, clk, h3, h4⟩ => ⟨w, ⟨f, (hb b (by simp)).trans h1, h2⟩, N, l, clk, (hb vb (by simp)).trans h3, h4⟩⟩

theorem keV : KE Try.prog 98 encV := by
  refine ⟨fun e k w => ?_, fun k k' w => ?_, ⟨_, Try.underlying98, fun k k' => .inl rfl⟩, fun k => ?_⟩
  · obtain ⟨k1, k2⟩ := k
    kernel_rfl
  · obtain ⟨k1, k2⟩ := k
    obtain ⟨k1', k2'⟩ := k'
    have hs : Try.prog.stoodInHeld 98 = false := by kernel_rfl
    have hu : Try.prog.underlying 98 = some (.struct (Try.prog.fieldsOf 98)) := by kernel_rfl
    have h3 : Try.prog.underlying 3 = some (.int .i64) := by kernel_rfl
    have h9 : Try.prog.underlying 9 = some .string := by kernel_rfl
    have s3 : scalB Try.prog 3 = true := by kernel_rfl
    have s9 : scalB Try.prog 9 = true := by kernel_rfl
    unfold Op.equal Op.maxDepth encV
    rw [run_equalIn_struct w 9999 98 _ _ hu hs]
    simp only [Program.fieldsOf, Try.underlying98, Op.eqFields]
    have e1 : ∀ (a : Int) (b : ByteArray), (part 3 #[Value.int .i64 a, .string b] 0).run Try.prog w = .ok (.int .i64 a) w := fun a b => part_scal s3 rfl w
    have e2 : ∀ (a : Int) (b : ByteArray), (part 9 #[Value.int .i64 a, .string b] 1).run Try.prog w = .ok (.string b) w := fun a b => part_scal s9 rfl w
    have q1 := run_equalIn_int (P := Try.prog) w 9998 3 .i64 .i64 k1 k1' h3
    have q2 := run_equalIn_string (P := Try.prog) w 9998 9 k2 k2' h9
    simp [e1, e2, q1, q2, bytes_toList_inj]
    by_cases h1 : k1 = k1' <;> by_cases h2 : k2 = k2' <;> simp [h1, h2]
  · obtain ⟨k1, k2⟩ := k
    have : (k2 == k2) = true := by rw [beq_toListBytes]; simp
    simp [encV, Instr.sameBits, this]

/-- What a walk of a function that reads a Cast needs. -/
theorem CastOk.cell {b vb : Nat} {c : CSt} {h : Array Obj} (hc : CastOk b vb c h) : ∃ f, h[b]? = some (.cells (cellsF 39 f) 94 (0, 0)) ∧ CastF f c.n c.t c.frm c.L c.ready c.done c.body vb := hc.2.1

set_option maxRecDepth 100000 in
set_option maxHeartbeats 400000 in
theorem c12 (n t : Int) (w0 : World) : Cl Try.prog 12 #[.int .i64 n, .int .i64 t] w0 (RetQ w0 fun v => v = .int .i64 (quorum n t)) := by
  have M : Sep (fun _ => False) w0 w0 _ := Sep.nil _ w0
  refine enter (vs := [_, _]) Try.func12 rfl rfl rfl ?_
  intro a F
  refine wp_seq ?_
  refine wp_region_l [.ind] ([0]) rfl ?_
  refine s_I F rfl rfl rfl rfl rfl rfl ?_; clear F a; intro a F
  refine t_endM M ?_; (clear M; try clear w); intro w M
  refine wp_seq ?_
  refine wp_seq ?_
  refine wp_region_l [.ind, .ind, .ind, .ind, .ind, .ind, .ind, .ind, .ind, .ind, .ind, .ind, .ind, .ind, .ind, .ind, .ind] ([0, 1, 2, 3, 4, 5, 6, 7, 8, 9, 10, 11, 12, 13, 14, 15, 16]) rfl ?_
  refine s_I F rfl rfl rfl rfl rfl rfl ?_; clear F a; intro a F
  refine s_bin F rfl rfl rfl rfl rfl rfl rfl ?_; clear F a; intro a F
  refine s_I F rfl rfl rfl rfl rfl rfl ?_; clear F a; intro a F
  refine bsplit F 7 rfl ?_ ?_
  ·
    clear F; intro hc0 F
    try rw [hc0] at F
    replace hc0 := of_decide_eq_true hc0
    refine s_no F rfl rfl rfl rfl ?_; clear F a; intro a F
    refine s_no F rfl rfl rfl rfl ?_; clear F a; intro a F
    refine s_I F rfl rfl rfl rfl rfl rfl ?_; clear F a; intro a F
    refine s_I F rfl rfl rfl rfl rfl rfl ?_; clear F a; intro a F
    refine s_no F rfl rfl rfl rfl ?_; clear F a; intro a F
    refine s_no F rfl rfl rfl rfl ?_; clear F a; intro a F
    refine s_no F rfl rfl rfl rfl ?_; clear F a; intro a F
    refine s_no F rfl rfl rfl rfl ?_; clear F a; intro a F
    refine s_no F rfl rfl rfl rfl ?_; clear F a; intro a F
    refine s_I F rfl rfl rfl rfl rfl rfl ?_; clear F a; intro a F
    refine s_I F rfl rfl rfl rfl rfl rfl ?_; clear F a; intro a F
    refine s_no F rfl rfl rfl rfl ?_; clear F a; intro a F
    refine s_no F rfl rfl rfl rfl ?_; clear F a; intro a F
    refine s_I F rfl rfl rfl rfl rfl rfl ?_; clear F a; intro a F
    refine t_endM M ?_; (clear M; try clear w); intro w M
    refine c_t F rfl ?_
    refine wp_seq ?_
    replace F := F.keep [0, 1, 4] rfl
    refine wp_region_l [.ind] ([0]) rfl ?_
    refine s_I F rfl rfl rfl rfl rfl rfl ?_; clear F a; intro a F
    refine t_endM M ?_; (clear M; try clear w); intro w M
    refine wp_ret ?_
    refine ret1 F rfl rfl ?_
    -- end 0
    refine ⟨_, rfl, ?_, M.chg⟩
    unfold quorum
    rw [if_pos (by omega)]
  ·
    clear F; intro hc1 F
    try rw [hc1] at F
    replace hc1 := of_decide_eq_false hc1
    refine s_I F rfl rfl rfl rfl rfl rfl ?_; clear F a; intro a F
    refine s_bin F rfl rfl rfl rfl rfl rfl rfl ?_; clear F a; intro a F
    refine s_I F rfl rfl rfl rfl rfl rfl ?_; clear F a; intro a F
    refine s_I F rfl rfl rfl rfl rfl rfl ?_; clear F a; intro a F
    refine bsplit F 11 rfl ?_ ?_
    ·
      clear F; intro hc2 F
      try rw [hc2] at F
      replace hc2 := of_decide_eq_true hc2
      refine s_no F rfl rfl rfl rfl ?_; clear F a; intro a F
      refine s_no F rfl rfl rfl rfl ?_; clear F a; intro a F
      refine s_no F rfl rfl rfl rfl ?_; clear F a; intro a F
      refine s_no F rfl rfl rfl rfl ?_; clear F a; intro a F
      refine s_no F rfl rfl rfl rfl ?_; clear F a; intro a F
      refine s_I F rfl rfl rfl rfl rfl rfl ?_; clear F a; intro a F
      refine s_I F rfl rfl rfl rfl rfl rfl ?_; clear F a; intro a F
      refine s_no F rfl rfl rfl rfl ?_; clear F a; intro a F
      refine s_no F rfl rfl rfl rfl ?_; clear F a; intro a F
      refine s_I F rfl rfl rfl rfl rfl rfl ?_; clear F a; intro a F
      refine t_endM M ?_; (clear M; try clear w); intro w M
      refine c_t F rfl ?_
      refine wp_seq ?_
      replace F := F.keep [0, 1, 4] rfl
      refine wp_region_l [.ind] ([0]) rfl ?_
      refine s_I F rfl rfl rfl rfl rfl rfl ?_; clear F a; intro a F
      refine t_endM M ?_; (clear M; try clear w); intro w M
      refine wp_ret ?_
      refine ret1 F rfl rfl ?_
      -- end 1
      refine ⟨_, rfl, ?_, M.chg⟩
      unfold quorum
      rw [if_pos (by omega)]
    ·
      clear F; intro hc3 F
      try rw [hc3] at F
      replace hc3 := of_decide_eq_false hc3
      refine s_I F rfl rfl rfl rfl rfl rfl ?_; clear F a; intro a F
      refine s_I F rfl rfl rfl rfl rfl rfl ?_; clear F a; intro a F
      refine s_mul F rfl rfl rfl rfl rfl rfl (by unfold In64; omega) ?_; clear F a; intro a F
      refine s_add F rfl rfl rfl rfl rfl rfl (by unfold In64; omega) ?_; clear F a; intro a F
      refine s_bin F rfl rfl rfl rfl rfl rfl rfl ?_; clear F a; intro a F
      refine s_I F rfl rfl rfl rfl rfl rfl ?_; clear F a; intro a F
      refine s_I F rfl rfl rfl rfl rfl rfl ?_; clear F a; intro a F
      refine bsplit F 18 rfl ?_ ?_
      ·
        clear F; intro hc4 F
        try rw [hc4] at F
        replace hc4 := of_decide_eq_true hc4
        refine s_no F rfl rfl rfl rfl ?_; clear F a; intro a F
        refine s_no F rfl rfl rfl rfl ?_; clear F a; intro a F
        refine s_I F rfl rfl rfl rfl rfl rfl ?_; clear F a; intro a F
        refine t_endM M ?_; (clear M; try clear w); intro w M
        refine c_t F rfl ?_
        refine wp_seq ?_
        replace F := F.keep [0, 1, 4] rfl
        refine wp_region_l [.ind] ([0]) rfl ?_
        refine s_I F rfl rfl rfl rfl rfl rfl ?_; clear F a; intro a F
        refine t_endM M ?_; (clear M; try clear w); intro w M
        refine wp_ret ?_
        refine ret1 F rfl rfl ?_
        -- end 2
        refine ⟨_, rfl, ?_, M.chg⟩
        unfold quorum
        rw [if_pos (by omega)]
      ·
        clear F; intro hc5 F
        try rw [hc5] at F
        replace hc5 := of_decide_eq_false hc5
        refine s_I F rfl rfl rfl rfl rfl rfl ?_; clear F a; intro a F
        refine s_bin F rfl rfl rfl rfl rfl rfl rfl ?_; clear F a; intro a F
        refine s_I F rfl rfl rfl rfl rfl rfl ?_; clear F a; intro a F
        refine t_endM M ?_; (clear M; try clear w); intro w M
        refine c_if F rfl ?_ ?_
        ·
          clear F; intro hc6 F
          try rw [hc6] at F
          replace hc6 := of_decide_eq_true hc6
          refine wp_seq ?_
          replace F := F.keep [0, 1, 4] rfl
          refine wp_region_l [.ind] ([0]) rfl ?_
          refine s_I F rfl rfl rfl rfl rfl rfl ?_; clear F a; intro a F
          refine t_endM M ?_; (clear M; try clear w); intro w M
          refine wp_ret ?_
          refine ret1 F rfl rfl ?_
          -- end 3
          refine ⟨_, rfl, ?_, M.chg⟩
          unfold quorum
          rw [if_pos (by omega)]
        ·
          clear F; intro hc7 F
          try rw [hc7] at F
          replace hc7 := of_decide_eq_false hc7
          refine wp_skip ?_
          refine wp_seq ?_
          replace F := F.keep [0, 1, 4] rfl
          refine wp_region_l [.ind, .ind, .ind, .ind, .ind, .ind] ([0, 1, 2, 3, 4, 5]) rfl ?_
          refine s_I F rfl rfl rfl rfl rfl rfl ?_; clear F a; intro a F
          refine s_I F rfl rfl rfl rfl rfl rfl ?_; clear F a; intro a F
          refine s_add F rfl rfl rfl rfl rfl rfl (by unfold In64; omega) ?_; clear F a; intro a F
          refine s_quo F rfl rfl rfl rfl rfl rfl (by omega) (by omega) (by omega) ?_; clear F a; intro a F
          refine s_add F rfl rfl rfl rfl rfl rfl (by unfold In64; omega) ?_; clear F a; intro a F
          refine s_I F rfl rfl rfl rfl rfl rfl ?_; clear F a; intro a F
          refine t_endM M ?_; (clear M; try clear w); intro w M
          refine wp_ret ?_
          refine ret1 F rfl rfl ?_
          -- end 4
          refine ⟨_, rfl, ?_, M.chg⟩
          unfold quorum
          rw [if_neg (by omega)]
set_option maxRecDepth 100000 in
set_option maxHeartbeats 400000 in
theorem c20 (b vb : Nat) (c : CSt) (w0 : World) (hc : CastOk b vb c w0.heap) : Cl Try.prog 20 #[.pointer (some ⟨b, 0, none⟩)] w0 (RetQ w0 fun v => v = .tuple #[.string c.body, .bool c.done]) := by
  have M : Sep (fun _ => False) w0 w0 _ := Sep.nil _ w0
  obtain ⟨f, hb, C⟩ := hc.cell
  refine enter (vs := [_]) Try.func20 rfl rfl rfl ?_
  intro a F
  refine wp_seq ?_
  refine wp_region_l [.ind, .ind] ([0, 1]) rfl ?_
  refine s_I F rfl rfl rfl rfl rfl rfl ?_; clear F a; intro a F
  refine s_I F rfl rfl rfl rfl rfl rfl ?_; clear F a; intro a F
  refine t_endM M ?_; (clear M; try clear w); intro w M
  refine wp_seq ?_
  refine wp_seq ?_
  refine wp_region_l [.ind, .ind] ([0, 1]) rfl ?_
  refine s_I F rfl rfl rfl rfl rfl rfl ?_; clear F a; intro a F
  refine s_pn F rfl rfl rfl rfl pt_29_C1 rfl ?_; clear F a; intro a F
  refine t_endM M ?_; (clear M; try clear w); intro w M
  refine c_f F rfl ?_
  refine wp_skip ?_
  refine wp_seq ?_
  replace F := F.keep [0, 2, 3] rfl
  refine wp_region_t [.ind, .ind, .ind, .rd, .ind, .ind, .ind, .rd, .ind, .ind] [] (otOf [0, 1, 2, 3, 4, 5, 6, 7, 8, 9]) mixed (by kernel_rfl) ?_
  refine s_I F rfl rfl rfl rfl rfl rfl ?_; clear F a; intro a F
  refine s_I F rfl rfl rfl rfl rfl rfl ?_; clear F a; intro a F
  refine s_fa0 F rfl rfl rfl rfl fa_94_7_C1 rfl ?_; clear F a; intro a F
  refine s_ld F rfl rfl rfl rfl sc_9_C1 rfl (by exact old_cell M id hb (gf (C.at_ rfl) (by decide))) ?_; clear F a; intro a F
  refine s_I F rfl rfl rfl rfl rfl rfl ?_; clear F a; intro a F
  refine s_I F rfl rfl rfl rfl rfl rfl ?_; clear F a; intro a F
  refine s_fa0 F rfl rfl rfl rfl fa_94_6_C1 rfl ?_; clear F a; intro a F
  refine s_ld F rfl rfl rfl rfl sc_4_C1 rfl (by exact old_cell M id hb (gf (C.at_ rfl) (by decide))) ?_; clear F a; intro a F
  refine s_I F rfl rfl rfl rfl rfl rfl ?_; clear F a; intro a F
  refine s_I F rfl rfl rfl rfl rfl rfl ?_; clear F a; intro a F
  refine t_endM M ?_; (clear M; try clear w); intro w M
  refine wp_ret ?_
  refine ret2 F rfl rfl rfl ?_
  -- end 0
  exact ⟨_, rfl, rfl, M.chg⟩
set_option maxRecDepth 100000 in
set_option maxHeartbeats 400000 in
theorem c20n (w0 : World) : Cl Try.prog 20 #[.pointer none] w0 (RetQ w0 fun v => v = .tuple #[.string empty, .bool false]) := by
  have M : Sep (fun _ => False) w0 w0 _ := Sep.nil _ w0
  refine enter (vs := [_]) Try.func20 rfl rfl rfl ?_
  intro a F
  refine wp_seq ?_
  refine wp_region_l [.ind, .ind] ([0, 1]) rfl ?_
  refine s_I F rfl rfl rfl rfl rfl rfl ?_; clear F a; intro a F
  refine s_I F rfl rfl rfl rfl rfl rfl ?_; clear F a; intro a F
  refine t_endM M ?_; (clear M; try clear w); intro w M
  refine wp_seq ?_
  refine wp_seq ?_
  refine wp_region_l [.ind, .ind] ([0, 1]) rfl ?_
  refine s_I F rfl rfl rfl rfl rfl rfl ?_; clear F a; intro a F
  refine s_pn F rfl rfl rfl rfl pt_29_C1 rfl ?_; clear F a; intro a F
  refine t_endM M ?_; (clear M; try clear w); intro w M
  refine c_t F rfl ?_
  refine wp_seq ?_
  replace F := F.keep [0, 2, 3] rfl
  refine wp_region_l [.ind, .ind] ([0, 1]) rfl ?_
  refine s_I F rfl rfl rfl rfl rfl rfl ?_; clear F a; intro a F
  refine s_I F rfl rfl rfl rfl rfl rfl ?_; clear F a; intro a F
  refine t_endM M ?_; (clear M; try clear w); intro w M
  refine wp_ret ?_
  refine ret2 F rfl rfl rfl ?_
  -- end 0
  exact ⟨_, rfl, rfl, M.chg⟩
set_option maxRecDepth 100000 in
set_option maxHeartbeats 400000 in
theorem c37 (b vb : Nat) (c : CSt) (m : Msg) (w0 : World) (hc : CastOk b vb c w0.heap) : Cl Try.prog 37 #[.pointer (some ⟨b, 0, none⟩), msgV m] w0 (RetQ w0 fun v => v = .bool (c.counts m)) := by
  have M : Sep (fun _ => False) w0 w0 _ := Sep.nil _ w0
  obtain ⟨f, hb, C⟩ := hc.cell
  have n7 := hc.1.n7
  refine enter (vs := [_, _]) Try.func37 rfl rfl rfl ?_
  intro a F
  refine wp_seq ?_
  refine wp_region_l [.wr, .ind] ([0, 1]) rfl ?_
  refine s_bxA F M rfl rfl rfl rfl rfl ?_; (clear F a M; try clear w); intro b3 w M a F
  refine s_I F rfl rfl rfl rfl rfl rfl ?_; clear F a; intro a F
  refine t_endM M ?_; (clear M; try clear w); intro w M
  refine wp_seq ?_
  refine wp_seq ?_
  refine wp_region_t [.ind, .rd, .ind, .ind, .ind, .rd, .ind, .ind, .ind, .rd, .ind, .ind, .ind, .ind, .rd, .ind, .ind, .ind, .ind, .rd, .ind, .ind, .ind, .ind, .rd, .ind, .ind, .ind] [] (otOf [0, 1, 2, 3, 4, 5, 6, 7, 8, 9, 10, 11, 12, 13, 14, 15, 16, 17, 18, 19, 20, 21, 22, 23, 24, 25, 26, 27]) mixed (by kernel_rfl) ?_
  refine s_fa0 F rfl rfl rfl rfl fa_38_1_C1 rfl ?_; clear F a; intro a F
  refine s_ld F rfl rfl rfl rfl sc_3_C1 rfl (by exact cell_of_blk M.h0 (lit rfl)) ?_; clear F a; intro a F
  refine s_bin F rfl rfl rfl rfl rfl rfl rfl ?_; clear F a; intro a F
  refine s_I F rfl rfl rfl rfl rfl rfl ?_; clear F a; intro a F
  refine bsplit F 8 rfl ?_ ?_
  ·
    clear F; intro hc0 F
    try rw [hc0] at F
    replace hc0 := of_decide_eq_true hc0
    refine s_no F rfl rfl rfl rfl ?_; clear F a; intro a F
    refine s_no F rfl rfl rfl rfl ?_; clear F a; intro a F
    refine s_no F rfl rfl rfl rfl ?_; clear F a; intro a F
    refine s_no F rfl rfl rfl rfl ?_; clear F a; intro a F
    refine s_no F rfl rfl rfl rfl ?_; clear F a; intro a F
    refine s_no F rfl rfl rfl rfl ?_; clear F a; intro a F
    refine s_no F rfl rfl rfl rfl ?_; clear F a; intro a F
    refine s_I F rfl rfl rfl rfl rfl rfl ?_; clear F a; intro a F
    refine s_I F rfl rfl rfl rfl rfl rfl ?_; clear F a; intro a F
    refine s_no F rfl rfl rfl rfl ?_; clear F a; intro a F
    refine s_no F rfl rfl rfl rfl ?_; clear F a; intro a F
    refine s_no F rfl rfl rfl rfl ?_; clear F a; intro a F
    refine s_I F rfl rfl rfl rfl rfl rfl ?_; clear F a; intro a F
    refine s_I F rfl rfl rfl rfl rfl rfl ?_; clear F a; intro a F
    refine s_no F rfl rfl rfl rfl ?_; clear F a; intro a F
    refine s_no F rfl rfl rfl rfl ?_; clear F a; intro a F
    refine s_no F rfl rfl rfl rfl ?_; clear F a; intro a F
    refine s_I F rfl rfl rfl rfl rfl rfl ?_; clear F a; intro a F
    refine s_I F rfl rfl rfl rfl rfl rfl ?_; clear F a; intro a F
    refine s_no F rfl rfl rfl rfl ?_; clear F a; intro a F
    refine s_no F rfl rfl rfl rfl ?_; clear F a; intro a F
    refine s_no F rfl rfl rfl rfl ?_; clear F a; intro a F
    refine s_no F rfl rfl rfl rfl ?_; clear F a; intro a F
    refine s_I F rfl rfl rfl rfl rfl rfl ?_; clear F a; intro a F
    refine t_endM M ?_; (clear M; try clear w); intro w M
    refine c_t F rfl ?_
    refine wp_seq ?_
    replace F := F.keep [0, 1, 3, 4] rfl
    refine wp_region_l [.ind] ([0]) rfl ?_
    refine s_I F rfl rfl rfl rfl rfl rfl ?_; clear F a; intro a F
    refine t_endM M ?_; (clear M; try clear w); intro w M
    refine wp_ret ?_
    refine ret1 F rfl rfl ?_
    -- end 0
    refine ⟨_, rfl, ?_, M.chg⟩
    congr 1
    clear M F
    grind [CSt.counts]
  ·
    clear F; intro hc1 F
    try rw [hc1] at F
    replace hc1 := of_decide_eq_false hc1
    refine s_fa0 F rfl rfl rfl rfl fa_38_1_C1 rfl ?_; clear F a; intro a F
    refine s_ld F rfl rfl rfl rfl sc_3_C1 rfl (by exact cell_of_blk M.h0 (lit rfl)) ?_; clear F a; intro a F
    refine s_I F rfl rfl rfl rfl rfl rfl ?_; clear F a; intro a F
    refine s_I F rfl rfl rfl rfl rfl rfl ?_; clear F a; intro a F
    refine s_fa0 F rfl rfl rfl rfl fa_94_0_C1 rfl ?_; clear F a; intro a F
    refine s_ld F rfl rfl rfl rfl sc_3_C1 rfl (by exact old_cell M id hb (gf (C.at_ rfl) (by decide))) ?_; clear F a; intro a F
    refine s_bin F rfl rfl rfl rfl rfl rfl rfl ?_; clear F a; intro a F
    refine s_I F rfl rfl rfl rfl rfl rfl ?_; clear F a; intro a F
    refine s_I F rfl rfl rfl rfl rfl rfl ?_; clear F a; intro a F
    refine bsplit F 17 rfl ?_ ?_
    ·
      clear F; intro hc2 F
      try rw [hc2] at F
      replace hc2 := of_decide_eq_true hc2
      refine s_no F rfl rfl rfl rfl ?_; clear F a; intro a F
      refine s_no F rfl rfl rfl rfl ?_; clear F a; intro a F
      refine s_no F rfl rfl rfl rfl ?_; clear F a; intro a F
      refine s_I F rfl rfl rfl rfl rfl rfl ?_; clear F a; intro a F
      refine s_I F rfl rfl rfl rfl rfl rfl ?_; clear F a; intro a F
      refine s_no F rfl rfl rfl rfl ?_; clear F a; intro a F
      refine s_no F rfl rfl rfl rfl ?_; clear F a; intro a F
      refine s_no F rfl rfl rfl rfl ?_; clear F a; intro a F
      refine s_I F rfl rfl rfl rfl rfl rfl ?_; clear F a; intro a F
      refine s_I F rfl rfl rfl rfl rfl rfl ?_; clear F a; intro a F
      refine s_no F rfl rfl rfl rfl ?_; clear F a; intro a F
      refine s_no F rfl rfl rfl rfl ?_; clear F a; intro a F
      refine s_no F rfl rfl rfl rfl ?_; clear F a; intro a F
      refine s_no F rfl rfl rfl rfl ?_; clear F a; intro a F
      refine s_I F rfl rfl rfl rfl rfl rfl ?_; clear F a; intro a F
      refine t_endM M ?_; (clear M; try clear w); intro w M
      refine c_t F rfl ?_
      refine wp_seq ?_
      replace F := F.keep [0, 1, 3, 4] rfl
      refine wp_region_l [.ind] ([0]) rfl ?_
      refine s_I F rfl rfl rfl rfl rfl rfl ?_; clear F a; intro a F
      refine t_endM M ?_; (clear M; try clear w); intro w M
      refine wp_ret ?_
      refine ret1 F rfl rfl ?_
      -- end 1
      refine ⟨_, rfl, ?_, M.chg⟩
      congr 1
      clear M F
      grind [CSt.counts]
    ·
      clear F; intro hc3 F
      try rw [hc3] at F
      replace hc3 := of_decide_eq_false hc3
      refine s_fa0 F rfl rfl rfl rfl fa_38_0_C1 rfl ?_; clear F a; intro a F
      refine s_ld F rfl rfl rfl rfl sc_3_C1 rfl (by exact cell_of_blk M.h0 (lit rfl)) ?_; clear F a; intro a F
      refine s_bin F rfl rfl rfl rfl rfl rfl rfl ?_; clear F a; intro a F
      refine s_I F rfl rfl rfl rfl rfl rfl ?_; clear F a; intro a F
      refine s_I F rfl rfl rfl rfl rfl rfl ?_; clear F a; intro a F
      refine bsplit F 22 rfl ?_ ?_
      ·
        clear F; intro hc4 F
        try rw [hc4] at F
        replace hc4 := of_decide_eq_true hc4
        refine s_no F rfl rfl rfl rfl ?_; clear F a; intro a F
        refine s_no F rfl rfl rfl rfl ?_; clear F a; intro a F
        refine s_no F rfl rfl rfl rfl ?_; clear F a; intro a F
        refine s_I F rfl rfl rfl rfl rfl rfl ?_; clear F a; intro a F
        refine s_I F rfl rfl rfl rfl rfl rfl ?_; clear F a; intro a F
        refine s_no F rfl rfl rfl rfl ?_; clear F a; intro a F
        refine s_no F rfl rfl rfl rfl ?_; clear F a; intro a F
        refine s_no F rfl rfl rfl rfl ?_; clear F a; intro a F
        refine s_no F rfl rfl rfl rfl ?_; clear F a; intro a F
        refine s_I F rfl rfl rfl rfl rfl rfl ?_; clear F a; intro a F
        refine t_endM M ?_; (clear M; try clear w); intro w M
        refine c_t F rfl ?_
        refine wp_seq ?_
        replace F := F.keep [0, 1, 3, 4] rfl
        refine wp_region_l [.ind] ([0]) rfl ?_
        refine s_I F rfl rfl rfl rfl rfl rfl ?_; clear F a; intro a F
        refine t_endM M ?_; (clear M; try clear w); intro w M
        refine wp_ret ?_
        refine ret1 F rfl rfl ?_
        -- end 2
        refine ⟨_, rfl, ?_, M.chg⟩
        congr 1
        clear M F
        grind [CSt.counts]
      ·
        clear F; intro hc5 F
        try rw [hc5] at F
        replace hc5 := of_decide_eq_false hc5
        refine s_fa0 F rfl rfl rfl rfl fa_38_0_C1 rfl ?_; clear F a; intro a F
        refine s_ld F rfl rfl rfl rfl sc_3_C1 rfl (by exact cell_of_blk M.h0 (lit rfl)) ?_; clear F a; intro a F
        refine s_bin F rfl rfl rfl rfl rfl rfl rfl ?_; clear F a; intro a F
        refine s_I F rfl rfl rfl rfl rfl rfl ?_; clear F a; intro a F
        refine s_I F rfl rfl rfl rfl rfl rfl ?_; clear F a; intro a F
        refine bsplit F 27 rfl ?_ ?_
        ·
          clear F; intro hc6 F
          try rw [hc6] at F
          replace hc6 := of_decide_eq_true hc6
          refine s_no F rfl rfl rfl rfl ?_; clear F a; intro a F
          refine s_no F rfl rfl rfl rfl ?_; clear F a; intro a F
          refine s_no F rfl rfl rfl rfl ?_; clear F a; intro a F
          refine s_no F rfl rfl rfl rfl ?_; clear F a; intro a F
          refine s_I F rfl rfl rfl rfl rfl rfl ?_; clear F a; intro a F
          refine t_endM M ?_; (clear M; try clear w); intro w M
          refine c_t F rfl ?_
          refine wp_seq ?_
          replace F := F.keep [0, 1, 3, 4] rfl
          refine wp_region_l [.ind] ([0]) rfl ?_
          refine s_I F rfl rfl rfl rfl rfl rfl ?_; clear F a; intro a F
          refine t_endM M ?_; (clear M; try clear w); intro w M
          refine wp_ret ?_
          refine ret1 F rfl rfl ?_
          -- end 3
          refine ⟨_, rfl, ?_, M.chg⟩
          congr 1
          clear M F
          grind [CSt.counts]
        ·
          clear F; intro hc7 F
          try rw [hc7] at F
          replace hc7 := of_decide_eq_false hc7
          refine s_fa0 F rfl rfl rfl rfl fa_38_2_C1 rfl ?_; clear F a; intro a F
          refine s_ld F rfl rfl rfl rfl sc_9_C1 rfl (by exact cell_of_blk M.h0 (lit rfl)) ?_; clear F a; intro a F
          refine s_lenS F rfl rfl rfl rfl st_9_C1 rfl ?_; clear F a; intro a F
          refine s_bin F rfl rfl rfl rfl rfl rfl rfl ?_; clear F a; intro a F
          refine s_I F rfl rfl rfl rfl rfl rfl ?_; clear F a; intro a F
          refine t_endM M ?_; (clear M; try clear w); intro w M
          refine c_if F rfl ?_ ?_
          ·
            clear F; intro hc8 F
            try rw [hc8] at F
            replace hc8 := of_decide_eq_true hc8
            refine wp_seq ?_
            replace F := F.keep [0, 1, 3, 4] rfl
            refine wp_region_l [.ind] ([0]) rfl ?_
            refine s_I F rfl rfl rfl rfl rfl rfl ?_; clear F a; intro a F
            refine t_endM M ?_; (clear M; try clear w); intro w M
            refine wp_ret ?_
            refine ret1 F rfl rfl ?_
            -- end 4
            refine ⟨_, rfl, ?_, M.chg⟩
            congr 1
            clear M F
            grind [CSt.counts]
          ·
            clear F; intro hc9 F
            try rw [hc9] at F
            replace hc9 := of_decide_eq_false hc9
            refine wp_skip ?_
            refine wp_seq ?_
            replace F := F.keep [0, 1, 3, 4] rfl
            refine wp_region_t [.ind, .ind, .rd, .ind, .rd, .ind, .ind, .ind, .ind, .rd, .ind, .ind, .ind, .rd, .ind, .ind, .ind, .rd, .ind, .ind, .ind, .rd, .ind, .ind, .ind, .ind] [] (otOf [0, 1, 2, 3, 4, 5, 6, 7, 8, 9, 10, 11, 12, 13, 14, 15, 16, 17, 18, 19, 20, 21, 22, 23, 24, 25]) mixed (by kernel_rfl) ?_
            refine s_I F rfl rfl rfl rfl rfl rfl ?_; clear F a; intro a F
            refine s_fa0 F rfl rfl rfl rfl fa_38_0_C1 rfl ?_; clear F a; intro a F
            refine s_ld F rfl rfl rfl rfl sc_3_C1 rfl (by exact cell_of_blk M.h0 (lit rfl)) ?_; clear F a; intro a F
            refine s_fa0 F rfl rfl rfl rfl fa_38_1_C1 rfl ?_; clear F a; intro a F
            refine s_ld F rfl rfl rfl rfl sc_3_C1 rfl (by exact cell_of_blk M.h0 (lit rfl)) ?_; clear F a; intro a F
            refine s_I F rfl rfl rfl rfl rfl rfl ?_; clear F a; intro a F
            refine s_fa0 F rfl rfl rfl rfl fa_94_3_C1 rfl ?_; clear F a; intro a F
            refine s_ia F rfl rfl rfl rfl ar_92_C1 rfl rfl (by omega) (by omega) ?_; clear F a; intro a F
            refine s_ia F rfl rfl rfl rfl ar_91_C1 rfl rfl (by omega) (by omega) ?_; clear F a; intro a F
            refine s_ld F rfl rfl rfl rfl sc_4_C1 rfl (by exact old_cell M id hb (gf (C.heard _ _ (by omega) (by omega) (by omega) (by omega)) (by omega))) ?_; clear F a; intro a F
            refine s_I F rfl rfl rfl rfl rfl rfl ?_; clear F a; intro a F
            refine s_I F rfl rfl rfl rfl rfl rfl ?_; clear F a; intro a F
            refine bsplit F 44 rfl ?_ ?_
            ·
              clear F; intro hc10 F
              try rw [hc10] at F
              replace hc10 := nt hc10
              refine s_fa0 F rfl rfl rfl rfl fa_38_0_C1 rfl ?_; clear F a; intro a F
              refine s_ld F rfl rfl rfl rfl sc_3_C1 rfl (by exact cell_of_blk M.h0 (lit rfl)) ?_; clear F a; intro a F
              refine s_bin F rfl rfl rfl rfl rfl rfl rfl ?_; clear F a; intro a F
              refine s_I F rfl rfl rfl rfl rfl rfl ?_; clear F a; intro a F
              refine bsplit F 48 rfl ?_ ?_
              ·
                clear F; intro hc11 F
                try rw [hc11] at F
                replace hc11 := nd1 hc11
                refine s_no F rfl rfl rfl rfl ?_; clear F a; intro a F
                refine s_no F rfl rfl rfl rfl ?_; clear F a; intro a F
                refine s_no F rfl rfl rfl rfl ?_; clear F a; intro a F
                refine s_no F rfl rfl rfl rfl ?_; clear F a; intro a F
                refine s_no F rfl rfl rfl rfl ?_; clear F a; intro a F
                refine s_no F rfl rfl rfl rfl ?_; clear F a; intro a F
                refine s_no F rfl rfl rfl rfl ?_; clear F a; intro a F
                refine s_I F rfl rfl rfl rfl rfl rfl ?_; clear F a; intro a F
                refine s_I F rfl rfl rfl rfl rfl rfl ?_; clear F a; intro a F
                refine s_I F rfl rfl rfl rfl rfl rfl ?_; clear F a; intro a F
                refine t_endM M ?_; (clear M; try clear w); intro w M
                refine wp_ret ?_
                refine ret1 F rfl rfl ?_
                -- end 5
                refine ⟨_, rfl, ?_, M.chg⟩
                congr 1
                clear M F
                grind [CSt.counts]
              ·
                clear F; intro hc12 F
                try rw [hc12] at F
                replace hc12 := nd0 hc12
                refine s_fa0 F rfl rfl rfl rfl fa_38_1_C1 rfl ?_; clear F a; intro a F
                refine s_ld F rfl rfl rfl rfl sc_3_C1 rfl (by exact cell_of_blk M.h0 (lit rfl)) ?_; clear F a; intro a F
                refine s_I F rfl rfl rfl rfl rfl rfl ?_; clear F a; intro a F
                refine s_I F rfl rfl rfl rfl rfl rfl ?_; clear F a; intro a F
                refine s_fa0 F rfl rfl rfl rfl fa_94_2_C1 rfl ?_; clear F a; intro a F
                refine s_ld F rfl rfl rfl rfl sc_3_C1 rfl (by exact old_cell M id hb (gf (C.at_ rfl) (by decide))) ?_; clear F a; intro a F
                refine s_bin F rfl rfl rfl rfl rfl rfl rfl ?_; clear F a; intro a F
                refine s_I F rfl rfl rfl rfl rfl rfl ?_; clear F a; intro a F
                refine s_I F rfl rfl rfl rfl rfl rfl ?_; clear F a; intro a F
                refine s_I F rfl rfl rfl rfl rfl rfl ?_; clear F a; intro a F
                refine t_endM M ?_; (clear M; try clear w); intro w M
                refine wp_ret ?_
                refine ret1 F rfl rfl ?_
                -- end 6
                refine ⟨_, rfl, ?_, M.chg⟩
                congr 1
                clear M F
                grind [CSt.counts]
            ·
              clear F; intro hc13 F
              try rw [hc13] at F
              replace hc13 := nf hc13
              refine s_no F rfl rfl rfl rfl ?_; clear F a; intro a F
              refine s_no F rfl rfl rfl rfl ?_; clear F a; intro a F
              refine s_no F rfl rfl rfl rfl ?_; clear F a; intro a F
              refine s_no F rfl rfl rfl rfl ?_; clear F a; intro a F
              refine s_no F rfl rfl rfl rfl ?_; clear F a; intro a F
              refine s_no F rfl rfl rfl rfl ?_; clear F a; intro a F
              refine s_no F rfl rfl rfl rfl ?_; clear F a; intro a F
              refine s_no F rfl rfl rfl rfl ?_; clear F a; intro a F
              refine s_no F rfl rfl rfl rfl ?_; clear F a; intro a F
              refine s_no F rfl rfl rfl rfl ?_; clear F a; intro a F
              refine s_no F rfl rfl rfl rfl ?_; clear F a; intro a F
              refine s_no F rfl rfl rfl rfl ?_; clear F a; intro a F
              refine s_I F rfl rfl rfl rfl rfl rfl ?_; clear F a; intro a F
              refine s_I F rfl rfl rfl rfl rfl rfl ?_; clear F a; intro a F
              refine t_endM M ?_; (clear M; try clear w); intro w M
              refine wp_ret ?_
              refine ret1 F rfl rfl ?_
              -- end 7
              refine ⟨_, rfl, ?_, M.chg⟩
              congr 1
              clear M F
              grind [CSt.counts]

theorem Fw.Sep.castOpen {S : Nat → Prop} {w0 w : World} {b vb : Nat} {c : CSt} {r : List Res} (M : Sep S w0 w (castR b vb c :: r)) : ∃ f N, CastF f c.n c.t c.frm c.L c.ready c.done c.body vb ∧ c.Wf ∧ Sep S w0 w (blk b (.cells (cellsF 39 f) 94 (0, 0)) :: mapR encV vb (voiceD c.L) N :: r) := by
  obtain ⟨W, ⟨f, h1, C⟩, N, h2⟩ := M.h0
  refine ⟨f, N, C, W, Sep.regroup (m := [castR b vb c]) (m' := [blk b (.cells (cellsF 39 f) 94 (0, 0)), mapR encV vb (voiceD c.L) N]) M (.refl _) fun _ x hx => ?_⟩
  simp only [List.mem_cons, List.not_mem_nil, or_false] at hx
  rcases hx with rfl | rfl
  · exact h1
  · exact h2
theorem Fw.Sep.castShut {S : Nat → Prop} {w0 w : World} {b vb : Nat} {c : CSt} {r : List Res} {f : Nat → Value} {N : Nat} (M : Sep S w0 w (blk b (.cells (cellsF 39 f) 94 (0, 0)) :: mapR encV vb (voiceD c.L) N :: r)) (C : CastF f c.n c.t c.frm c.L c.ready c.done c.body vb) (W : c.Wf) : Sep S w0 w (castR b vb c :: r) := by
  refine Sep.regroup (m := [blk b (.cells (cellsF 39 f) 94 (0, 0)), mapR encV vb (voiceD c.L) N]) (m' := [castR b vb c]) M (.refl _) fun h x hx => ?_
  simp only [List.mem_cons, List.not_mem_nil, or_false] at hx
  subst hx
  exact ⟨W, ⟨f, h (blk b (.cells (cellsF 39 f) 94 (0, 0))) (by simp), C⟩, N, h (mapR encV vb (voiceD c.L) N) (by simp)⟩
def isF : Value → Bool
  | .bool false => true
  | _ => false
theorem isF_eq {v : Value} (h : isF v = true) : v = .bool false := by
  cases v <;> try (cases h; done)
  rename_i b
  cases b
  · rfl
  · cases h
theorem voiceD_nil : ∀ k, (none : Option Value) = voiceD [] k := fun _ => rfl
theorem voiceD_snoc (L : List Msg) (m : Msg) (z : Value) (k : Int × ByteArray) :
    (if k = (m.kind, m.body) then some (Value.int .i64 ((cntL L m.kind m.body : Nat) + 1)) else if k = (m.kind, m.body) then some z else voiceD L k) = voiceD (L ++ [m]) k := by
  obtain ⟨k1, k2⟩ := k
  simp only [voiceD, cntL_snoc, Prod.mk.injEq]
  by_cases h : k1 = m.kind ∧ k2 = m.body
  · obtain ⟨rfl, rfl⟩ := h
    simp
  · have h' : ¬ (m.kind = k1 ∧ m.body = k2) := fun e => h ⟨e.1.symm, e.2.symm⟩
    simp [h, h']

set_option maxRecDepth 100000 in
set_option maxHeartbeats 400000 in
theorem c16n (n t frm : Int) (h : quorum n t = 0 ∨ frm < 1 ∨ n < frm) (w0 : World) : Cl Try.prog 16 #[.int .i64 n, .int .i64 t, .int .i64 frm] w0 (RetQ w0 fun v => v = .pointer none) := by
  have M : Sep (fun _ => False) w0 w0 _ := Sep.nil _ w0
  refine enter (vs := [_, _, _]) Try.func16 rfl rfl rfl ?_
  intro a F
  refine wp_seq ?_
  refine wp_region_l [.ind] ([0]) rfl ?_
  refine s_I F rfl rfl rfl rfl rfl rfl ?_; clear F a; intro a F
  refine t_endM M ?_; (clear M; try clear w); intro w M
  refine wp_seq ?_
  refine wp_seq ?_
  refine wp_region_l [.ind, .ind, .wr, .ind, .ind, .ind, .ind, .ind, .ind, .ind, .ind, .ind, .ind] ([0, 1, 2, 3, 4, 5, 6, 7, 8, 9, 10, 11, 12]) rfl ?_
  refine s_I F rfl rfl rfl rfl rfl rfl ?_; clear F a; intro a F
  refine s_I F rfl rfl rfl rfl rfl rfl ?_; clear F a; intro a F
  refine s_cq F M rfl rfl rfl rfl rfl (rfl : _ = some [_, _]) cb_12_C1 (fun n => c12 _ _ _) ?_; (clear F a M; try clear w); rintro v w rfl M a F
  refine s_bin F rfl rfl rfl rfl rfl rfl rfl ?_; clear F a; intro a F
  refine s_I F rfl rfl rfl rfl rfl rfl ?_; clear F a; intro a F
  refine bsplit F 11 rfl ?_ ?_
  ·
    clear F; intro hc0 F
    try rw [hc0] at F
    replace hc0 := of_decide_eq_true hc0
    refine s_no F rfl rfl rfl rfl ?_; clear F a; intro a F
    refine s_no F rfl rfl rfl rfl ?_; clear F a; intro a F
    refine s_I F rfl rfl rfl rfl rfl rfl ?_; clear F a; intro a F
    refine s_I F rfl rfl rfl rfl rfl rfl ?_; clear F a; intro a F
    refine s_no F rfl rfl rfl rfl ?_; clear F a; intro a F
    refine s_no F rfl rfl rfl rfl ?_; clear F a; intro a F
    refine s_no F rfl rfl rfl rfl ?_; clear F a; intro a F
    refine s_I F rfl rfl rfl rfl rfl rfl ?_; clear F a; intro a F
    refine t_endM M ?_; (clear M; try clear w); intro w M
    refine c_t F rfl ?_
    refine wp_seq ?_
    replace F := F.keep [0, 1, 2, 6] rfl
    refine wp_region_l [.ind] ([0]) rfl ?_
    refine s_I F rfl rfl rfl rfl rfl rfl ?_; clear F a; intro a F
    refine t_endM M ?_; (clear M; try clear w); intro w M
    refine wp_ret ?_
    refine ret1 F rfl rfl ?_
    -- end 0
    exact ⟨_, rfl, rfl, M.chg⟩
  ·
    clear F; intro hc1 F
    try rw [hc1] at F
    replace hc1 := of_decide_eq_false hc1
    refine s_I F rfl rfl rfl rfl rfl rfl ?_; clear F a; intro a F
    refine s_bin F rfl rfl rfl rfl rfl rfl rfl ?_; clear F a; intro a F
    refine s_I F rfl rfl rfl rfl rfl rfl ?_; clear F a; intro a F
    refine s_I F rfl rfl rfl rfl rfl rfl ?_; clear F a; intro a F
    refine bsplit F 15 rfl ?_ ?_
    ·
      clear F; intro hc2 F
      try rw [hc2] at F
      replace hc2 := of_decide_eq_true hc2
      refine s_no F rfl rfl rfl rfl ?_; clear F a; intro a F
      refine s_no F rfl rfl rfl rfl ?_; clear F a; intro a F
      refine s_no F rfl rfl rfl rfl ?_; clear F a; intro a F
      refine s_I F rfl rfl rfl rfl rfl rfl ?_; clear F a; intro a F
      refine t_endM M ?_; (clear M; try clear w); intro w M
      refine c_t F rfl ?_
      refine wp_seq ?_
      replace F := F.keep [0, 1, 2, 6] rfl
      refine wp_region_l [.ind] ([0]) rfl ?_
      refine s_I F rfl rfl rfl rfl rfl rfl ?_; clear F a; intro a F
      refine t_endM M ?_; (clear M; try clear w); intro w M
      refine wp_ret ?_
      refine ret1 F rfl rfl ?_
      -- end 1
      exact ⟨_, rfl, rfl, M.chg⟩
    ·
      clear F; intro hc3 F
      try rw [hc3] at F
      replace hc3 := of_decide_eq_false hc3
      refine s_I F rfl rfl rfl rfl rfl rfl ?_; clear F a; intro a F
      refine s_I F rfl rfl rfl rfl rfl rfl ?_; clear F a; intro a F
      refine s_bin F rfl rfl rfl rfl rfl rfl rfl ?_; clear F a; intro a F
      refine s_I F rfl rfl rfl rfl rfl rfl ?_; clear F a; intro a F
      refine t_endM M ?_; (clear M; try clear w); intro w M
      refine c_if F rfl ?_ ?_
      ·
        clear F; intro hc4 F
        try rw [hc4] at F
        replace hc4 := of_decide_eq_true hc4
        refine wp_seq ?_
        replace F := F.keep [0, 1, 2, 6] rfl
        refine wp_region_l [.ind] ([0]) rfl ?_
        refine s_I F rfl rfl rfl rfl rfl rfl ?_; clear F a; intro a F
        refine t_endM M ?_; (clear M; try clear w); intro w M
        refine wp_ret ?_
        refine ret1 F rfl rfl ?_
        -- end 2
        exact ⟨_, rfl, rfl, M.chg⟩
      ·
        clear F; intro hc5 F
        try rw [hc5] at F
        replace hc5 := of_decide_eq_false hc5
        exfalso; omega
set_option maxRecDepth 100000 in
set_option maxHeartbeats 400000 in
theorem c16 (n t frm : Int) (hq : quorum n t ≠ 0) (h1 : 1 ≤ frm) (h2 : frm ≤ n) (w0 : World) : Cl Try.prog 16 #[.int .i64 n, .int .i64 t, .int .i64 frm] w0 (RetS [] w0 (fun v (x : Nat × Nat) => v = .pointer (some ⟨x.1, 0, none⟩)) fun x => [castR x.1 x.2 (new n t frm)]) := by
  have M : Sep (fun b => b ∈ foots ([] : List Res)) w0 w0 _ := Sep.nil _ w0
  refine enter (vs := [_, _, _]) Try.func16 rfl rfl rfl ?_
  intro a F
  refine wp_seq ?_
  refine wp_region_l [.ind] ([0]) rfl ?_
  refine s_I F rfl rfl rfl rfl rfl rfl ?_; clear F a; intro a F
  refine t_endM M ?_; (clear M; try clear w); intro w M
  refine wp_seq ?_
  refine wp_seq ?_
  refine wp_region_l [.ind, .ind, .wr, .ind, .ind, .ind, .ind, .ind, .ind, .ind, .ind, .ind, .ind] ([0, 1, 2, 3, 4, 5, 6, 7, 8, 9, 10, 11, 12]) rfl ?_
  refine s_I F rfl rfl rfl rfl rfl rfl ?_; clear F a; intro a F
  refine s_I F rfl rfl rfl rfl rfl rfl ?_; clear F a; intro a F
  refine s_cq F M rfl rfl rfl rfl rfl (rfl : _ = some [_, _]) cb_12_C1 (fun n => c12 _ _ _) ?_; (clear F a M; try clear w); rintro v w rfl M a F
  refine s_bin F rfl rfl rfl rfl rfl rfl rfl ?_; clear F a; intro a F
  refine s_I F rfl rfl rfl rfl rfl rfl ?_; clear F a; intro a F
  refine bsplit F 11 rfl ?_ ?_
  ·
    clear F; intro hc0 F
    try rw [hc0] at F
    replace hc0 := of_decide_eq_true hc0
    exact absurd hc0 hq
  ·
    clear F; intro hc1 F
    try rw [hc1] at F
    replace hc1 := of_decide_eq_false hc1
    refine s_I F rfl rfl rfl rfl rfl rfl ?_; clear F a; intro a F
    refine s_bin F rfl rfl rfl rfl rfl rfl rfl ?_; clear F a; intro a F
    refine s_I F rfl rfl rfl rfl rfl rfl ?_; clear F a; intro a F
    refine s_I F rfl rfl rfl rfl rfl rfl ?_; clear F a; intro a F
    refine bsplit F 15 rfl ?_ ?_
    ·
      clear F; intro hc2 F
      try rw [hc2] at F
      replace hc2 := of_decide_eq_true hc2
      exfalso; omega
    ·
      clear F; intro hc3 F
      try rw [hc3] at F
      replace hc3 := of_decide_eq_false hc3
      refine s_I F rfl rfl rfl rfl rfl rfl ?_; clear F a; intro a F
      refine s_I F rfl rfl rfl rfl rfl rfl ?_; clear F a; intro a F
      refine s_bin F rfl rfl rfl rfl rfl rfl rfl ?_; clear F a; intro a F
      refine s_I F rfl rfl rfl rfl rfl rfl ?_; clear F a; intro a F
      refine t_endM M ?_; (clear M; try clear w); intro w M
      refine c_if F rfl ?_ ?_
      ·
        clear F; intro hc4 F
        try rw [hc4] at F
        replace hc4 := of_decide_eq_true hc4
        exfalso; omega
      ·
        clear F; intro hc5 F
        try rw [hc5] at F
        replace hc5 := of_decide_eq_false hc5
        refine wp_skip ?_
        refine wp_seq ?_
        replace F := F.keep [0, 1, 2, 6] rfl
        refine wp_region_l [.ind, .ind, .ind, .wr, .ind, .wr, .ind] ([0, 1, 2, 3, 4, 5, 6]) rfl ?_
        refine s_I F rfl rfl rfl rfl rfl rfl ?_; clear F a; intro a F
        refine s_I F rfl rfl rfl rfl rfl rfl ?_; clear F a; intro a F
        refine s_I F rfl rfl rfl rfl rfl rfl ?_; clear F a; intro a F
        refine s_mm F M rfl rfl rfl rfl ?_; (clear F a M; try clear w); intro b23 w M a F
        refine s_bld F rfl rfl rfl rfl (parts4 F rfl rfl rfl rfl) (bl_94_0_1_2_4_C1 _ _ _ _) ?_; clear F a; intro a F
        refine s_bxA F M rfl rfl rfl rfl rfl ?_; (clear F a M; try clear w); intro b25 w M a F
        refine s_I F rfl rfl rfl rfl rfl rfl ?_; clear F a; intro a F
        refine t_endM M ?_; (clear M; try clear w); intro w M
        refine wp_ret ?_
        refine ret1 F rfl rfl ?_
        -- end 0
        have M1 := (M.f1.mapNew encV).f1.toF
        replace M1 : Sep _ _ _ (blk b25 (.cells (cellsF 39 _) 94 (0, 0)) :: _) := M1
        refine ⟨_, (b25, b23), rfl, rfl, ?_⟩
        refine Sep.left (r := []) (Fw.Sep.castShut (vb := b23) (N := 0) (f := _) ((M1.f1.mapEq (D' := voiceD []) (fun _ => rfl) rfl).f1) ⟨rfl, rfl, rfl, fun k i k0 k4 i0 i8 => ?_, rfl, rfl, rfl, rfl⟩ (new_wf hq h1 h2))
        refine isF_eq ?_
        have hall : (List.range 39).all (fun j => decide (j < 3) || decide (35 ≤ j) || isF (((#[.int .i64 n, .int .i64 t, .int .i64 frm, .bool false, .bool false, .bool false, .bool false, .bool false, .bool false, .bool false, .bool false, .bool false, .bool false, .bool false, .bool false, .bool false, .bool false, .bool false, .bool false, .bool false, .bool false, .bool false, .bool false, .bool false, .bool false, .bool false, .bool false, .bool false, .bool false, .bool false, .bool false, .bool false, .bool false, .bool false, .bool false, .map (some b23), .bool false, .bool false, .string { data := #[] }] : Array Value)[j]?).getD undef)) = true := by kernel_rfl
        have := List.all_eq_true.1 hall (3 + k.toNat * 8 + i.toNat * 1) (List.mem_range.2 (by omega))
        simp only [Bool.or_eq_true, decide_eq_true_eq] at this
        rcases this with (h | h) | h
        · omega
        · omega
        · exact h

section
variable {f : Nat → Value} {n t frm : Int} {L : List Msg} {ready told : Bool} {body : ByteArray} {vb : Nat}
theorem CastF.hear (C : CastF f n t frm L ready told body vb) {m : Msg} (h1 : 1 ≤ m.kind) (h2 : m.kind ≤ 3) (h3 : 1 ≤ m.frm) (h4 : m.frm ≤ 7) :
    CastF (upd f (3 + m.kind.toNat * 8 + m.frm.toNat * 1) (.bool true)) n t frm (L ++ [m]) ready told body vb := by
  refine ⟨(upd_ne (by omega)).trans C.n, (upd_ne (by omega)).trans C.t, (upd_ne (by omega)).trans C.frm, fun k i k0 k4 i0 i8 => ?_, (upd_ne (by omega)).trans C.voices, (upd_ne (by omega)).trans C.ready, (upd_ne (by omega)).trans C.told, (upd_ne (by omega)).trans C.body⟩
  simp only [heardL_snoc]
  by_cases h : m.kind = k ∧ m.frm = i
  · obtain ⟨rfl, rfl⟩ := h
    rw [upd_at]; simp
  · rw [upd_ne (by omega), C.heard k i k0 k4 i0 i8]; simp [h]
theorem CastF.setReady (C : CastF f n t frm L ready told body vb) (b : Bool) : CastF (upd f 36 (.bool b)) n t frm L b told body vb :=
  ⟨(upd_ne (by omega)).trans C.n, (upd_ne (by omega)).trans C.t, (upd_ne (by omega)).trans C.frm, fun k i k0 k4 i0 i8 => (upd_ne (by omega)).trans (C.heard k i k0 k4 i0 i8), (upd_ne (by omega)).trans C.voices, upd_at, (upd_ne (by omega)).trans C.told, (upd_ne (by omega)).trans C.body⟩
theorem CastF.setTold (C : CastF f n t frm L ready told body vb) (b : Bool) : CastF (upd f 37 (.bool b)) n t frm L ready b body vb :=
  ⟨(upd_ne (by omega)).trans C.n, (upd_ne (by omega)).trans C.t, (upd_ne (by omega)).trans C.frm, fun k i k0 k4 i0 i8 => (upd_ne (by omega)).trans (C.heard k i k0 k4 i0 i8), (upd_ne (by omega)).trans C.voices, (upd_ne (by omega)).trans C.ready, upd_at, (upd_ne (by omega)).trans C.body⟩
theorem CastF.setBody (C : CastF f n t frm L ready told body vb) (s : ByteArray) : CastF (upd f 38 (.string s)) n t frm L ready told s vb :=
  ⟨(upd_ne (by omega)).trans C.n, (upd_ne (by omega)).trans C.t, (upd_ne (by omega)).trans C.frm, fun k i k0 k4 i0 i8 => (upd_ne (by omega)).trans (C.heard k i k0 k4 i0 i8), (upd_ne (by omega)).trans C.voices, (upd_ne (by omega)).trans C.ready, (upd_ne (by omega)).trans C.told, upd_at⟩
end

/-- What is left to show at Take's end. -/
theorem takeEnd {w0 w : World} {S : Nat → Prop} {b vb N k : Nat} {c : CSt} {rdy dne : Bool} {bd : ByteArray} {m : Msg} {f : Nat → Value} {v : Value} {xs : List Value} {r : List Res} (hcnt : c.counts m = true)
    (M : Sep S w0 w (slR v k 38 3 xs :: blk b (.cells (cellsF 39 f) 94 (0, 0)) :: mapR encV vb (voiceD (c.L ++ [m])) N :: r)) (C : CastF f c.n c.t c.frm (c.L ++ [m]) rdy dne bd vb) (W : c.Wf) (h1 : rdy = (c.ready || rd c m)) (h2 : dne = (c.done || dn c m)) (h3 : bd = if dn c m = true then m.body else c.body) (hk : k = (out1 m ++ out2 c m).length) (hx : xs = (out1 m ++ out2 c m).flatMap encM) :
    Sep S w0 w [castR b vb (c.take m).1, slR v (c.take m).2.length 38 3 ((c.take m).2.flatMap encM)] := by
  have ht : c.take m = (stp c m, out1 m ++ out2 c m) := by unfold CSt.take; rw [if_pos hcnt]
  subst h1; subst h2; subst h3; subst hk; subst hx
  rw [ht]
  have M1 := M.f1.f2
  exact Sep.left (r := r) (Fw.Sep.castShut (c := stp c m) (N := N) (M1.f1) C (W.stp hcnt)).f1.f1

set_option maxRecDepth 100000 in
set_option maxHeartbeats 4000000 in
theorem c21 (b vb : Nat) (c : CSt) (m : Msg) (w0 : World) (ho : Own w0.heap [castR b vb c]) : Cl Try.prog 21 #[.pointer (some ⟨b, 0, none⟩), msgV m] w0 (RetS [castR b vb c] w0 (fun v (x : Value) => v = x) fun x => [castR b vb (c.take m).1, slR x (c.take m).2.length 38 3 ((c.take m).2.flatMap encM)]) := by
  have M : Sep (fun b_ => b_ ∈ foots [castR b vb c]) w0 w0 _ := Sep.start ho
  obtain ⟨f, N, C, W, M⟩ := M.castOpen
  have n7 := W.n7
  have t0 := W.t0
  have t2 := W.t2
  have hlen := W.len
  have hcl := cnt_le c.L m.kind m.body
  refine enter (vs := [_, _]) Try.func21 rfl rfl rfl ?_
  intro a F
  refine wp_seq ?_
  refine wp_region_l [.wr, .ind] ([0, 1]) rfl ?_
  refine s_bxA F M rfl rfl rfl rfl rfl ?_; (clear F a M; try clear w); intro b3 w M a F
  refine s_I F rfl rfl rfl rfl rfl rfl ?_; clear F a; intro a F
  refine t_endM M ?_; (clear M; try clear w); intro w M
  refine wp_seq ?_
  refine wp_seq ?_
  refine wp_region_l [.ind, .ind, .ind, .ind, .rd, .wr, .ind, .ind] ([0, 1, 2, 3, 4, 5, 6, 7]) rfl ?_
  refine s_I F rfl rfl rfl rfl rfl rfl ?_; clear F a; intro a F
  refine s_pn F rfl rfl rfl rfl pt_29_C1 rfl ?_; clear F a; intro a F
  refine s_I F rfl rfl rfl rfl rfl rfl ?_; clear F a; intro a F
  refine s_I F rfl rfl rfl rfl rfl rfl ?_; clear F a; intro a F
  refine s_lda F rfl rfl rfl rfl ag_38_C1 rfl rfl (cells_whole M.h0) ?_; clear F a; intro a F
  refine s_cq F M rfl rfl rfl rfl rfl (rfl : _ = some [_, _]) cb_37_C1 (fun n => c37 b vb c m _ ⟨W, ⟨f, (by exact M.h1), C⟩, N, (by exact M.h2)⟩) ?_; (clear F a M; try clear w); rintro v w rfl M a F
  refine s_I F rfl rfl rfl rfl rfl rfl ?_; clear F a; intro a F
  refine s_I F rfl rfl rfl rfl rfl rfl ?_; clear F a; intro a F
  refine t_endM M ?_; (clear M; try clear w); intro w M
  refine c_if F rfl ?_ ?_
  ·
    clear F; intro hc0 F
    try rw [hc0] at F
    replace hc0 := nt hc0
    have ht : c.take m = (c, []) := by
      unfold CSt.take; rw [if_neg (by rw [hc0]; simp)]
    refine wp_seq ?_
    replace F := F.keep [0, 1, 3, 4] rfl
    refine wp_region_l [.ind] ([0]) rfl ?_
    refine s_I F rfl rfl rfl rfl rfl rfl ?_; clear F a; intro a F
    refine t_endM M ?_; (clear M; try clear w); intro w M
    refine wp_ret ?_
    refine ret1 F rfl rfl ?_
    -- end 0
    refine ⟨_, _, rfl, rfl, ?_⟩
    rw [ht]
    refine Sep.left (r := []) ?_
    refine Sep.f1 (Sep.nilS ?_ 38 3)
    exact Sep.left (m := [castR b vb c]) (r := [blk b3 _]) (Fw.Sep.castShut (M.f1.f2.f1) C W)
  ·
    clear F; intro hc1 F
    try rw [hc1] at F
    replace hc1 := nf hc1
    have hcnt := hc1
    obtain ⟨k1, k2, k3, k4, k5, k6, k7⟩ := counts_spec hcnt
    refine wp_skip ?_
    refine wp_seq ?_
    replace F := F.keep [0, 1, 3, 4] rfl
    refine wp_region_t [.ind, .ind, .rd, .ind, .rd, .ind, .ind, .ind, .ind, .wr] [] (otOf [0, 1, 2, 3, 4, 5, 6, 7, 8, 9]) mixed (by kernel_rfl) ?_
    refine s_I F rfl rfl rfl rfl rfl rfl ?_; clear F a; intro a F
    refine s_fa0 F rfl rfl rfl rfl fa_38_0_C1 rfl ?_; clear F a; intro a F
    refine s_ld F rfl rfl rfl rfl sc_3_C1 rfl (by exact cell_of_blk M.h0 (lit rfl)) ?_; clear F a; intro a F
    refine s_fa0 F rfl rfl rfl rfl fa_38_1_C1 rfl ?_; clear F a; intro a F
    refine s_ld F rfl rfl rfl rfl sc_3_C1 rfl (by exact cell_of_blk M.h0 (lit rfl)) ?_; clear F a; intro a F
    refine s_I F rfl rfl rfl rfl rfl rfl ?_; clear F a; intro a F
    refine s_fa0 F rfl rfl rfl rfl fa_94_3_C1 rfl ?_; clear F a; intro a F
    refine s_ia F rfl rfl rfl rfl ar_92_C1 rfl rfl (by omega) (by omega) ?_; clear F a; intro a F
    refine s_ia F rfl rfl rfl rfl ar_91_C1 rfl rfl (by omega) (by omega) ?_; clear F a; intro a F
    refine s_sf F M.f1 rfl rfl rfl sz_4_C1 rfl rfl rfl (by omega) ?_; (clear M; try clear w); intro w M
    refine t_endM M ?_; (clear M; try clear w); intro w M
    refine wp_seq ?_
    have M1 : Sep _ _ _ (blk b _ :: _) := M; replace M := M1; clear M1
    replace C := C.hear (m := m) k3 k4 k1 (by omega)
    replace F := F.keep [0, 1, 3, 4] rfl
    refine wp_region_t [.ind, .ind, .ind, .rd, .ind, .rd, .ind, .rd, .ind, .rd, .ind, .wr, .ind, .wr] [(9, 11)] (otOf [0, 1, 2, 3, 4, 5, 6, 7, 8, 9, 10, 11, 12, 13]) mixed (by kernel_rfl) ?_
    refine s_I F rfl rfl rfl rfl rfl rfl ?_; clear F a; intro a F
    refine s_I F rfl rfl rfl rfl rfl rfl ?_; clear F a; intro a F
    refine s_fa0 F rfl rfl rfl rfl fa_94_4_C1 rfl ?_; clear F a; intro a F
    refine s_ldL F rfl rfl rfl rfl sc_90_C1 rfl (by exact cell_of_blk M.h0 (gf (C.at_ rfl) (by decide))) ?_; clear F a; intro a F
    refine s_fa0 F rfl rfl rfl rfl fa_38_0_C1 rfl ?_; clear F a; intro a F
    refine s_ldL F rfl rfl rfl rfl sc_3_C1 rfl (by exact cell_of_blk M.h1 (lit rfl)) ?_; clear F a; intro a F
    refine s_fa0 F rfl rfl rfl rfl fa_38_2_C1 rfl ?_; clear F a; intro a F
    refine s_ldL F rfl rfl rfl rfl sc_9_C1 rfl (by exact cell_of_blk M.h1 (lit rfl)) ?_; clear F a; intro a F
    refine s_bld F rfl rfl rfl rfl (parts2 F rfl rfl) (bl_98_0_1_C1 _ _) ?_; clear F a; intro a F
    refine s_lkL keV (m.kind, m.body) F rfl rfl rfl rfl mp_90_C1 zr_3_C1 rfl rfl (by exact M.h2) ?_; clear F a; intro a F; rw [voiceD_get] at F; dsimp only at F
    refine s_add F rfl rfl rfl rfl rfl rfl (by unfold In64; omega) ?_; clear F a; intro a F
    have M1 : Sep _ _ _ (mapR _ _ _ _ :: _) := M.f2; replace M := M1; clear M1
    refine s_meL keV (m.kind, m.body) F M rfl rfl rfl rfl mp_90_C1 zr_3_C1 rfl rfl (fun st w M => (by repeat first | exact pend_none | refine pend_skip rfl ?_ | refine pend_take ⟨_, _, mapS_holds M.h0, by simp⟩ ?_)) ?_; (clear F a M; try clear w); intro st w M a F
    refine s_I F rfl rfl rfl rfl rfl rfl ?_; clear F a; intro a F
    refine s_esL F M rfl rfl rfl rfl rfl rfl (fun w M => (by repeat first | exact pend_none | refine pend_skip rfl ?_)) ?_; (clear M; try clear w); intro w M
    refine t_endM M ?_; (clear M; try clear w); intro w M
    refine wp_seq ?_
    have M1 : Sep _ _ _ (mapR _ _ _ _ :: _) := M; replace M := M1; clear M1
    replace M := M.mapEq (D' := voiceD (c.L ++ [m])) (voiceD_snoc c.L m _) rfl
    replace M := M.nilS 38 3
    replace F := F.keep [0, 1, 3, 4] rfl
    refine wp_region_l [.ind] ([0]) rfl ?_
    refine s_I F rfl rfl rfl rfl rfl rfl ?_; clear F a; intro a F
    refine t_endM M ?_; (clear M; try clear w); intro w M
    refine wp_seq ?_
    refine wp_seq ?_
    refine wp_region_l [.ind, .rd, .ind] ([0, 1, 2]) rfl ?_
    refine s_fa0 F rfl rfl rfl rfl fa_38_0_C1 rfl ?_; clear F a; intro a F
    refine s_ld F rfl rfl rfl rfl sc_3_C1 rfl (by exact cell_of_blk M.h3 (lit rfl)) ?_; clear F a; intro a F
    refine s_bin F rfl rfl rfl rfl rfl rfl rfl ?_; clear F a; intro a F
    refine t_endM M ?_; (clear M; try clear w); intro w M
    refine c_if F rfl ?_ ?_
    ·
      clear F; intro hc2 F
      try rw [hc2] at F
      replace hc2 := of_decide_eq_true hc2
      replace F := F.keep [0, 1, 3, 4, 5] rfl
      refine wp_region_l [.ind, .ind, .rd, .ind, .wr, .wr, .ind] ([0, 1, 2, 3, 4, 5, 6]) rfl ?_
      refine s_I F rfl rfl rfl rfl rfl rfl ?_; clear F a; intro a F
      refine s_fa0 F rfl rfl rfl rfl fa_38_2_C1 rfl ?_; clear F a; intro a F
      refine s_ld F rfl rfl rfl rfl sc_9_C1 rfl (by exact cell_of_blk M.h3 (lit rfl)) ?_; clear F a; intro a F
      refine s_bld F rfl rfl rfl rfl (parts2 F rfl rfl) (bl_38_0_2_C1 _ _) ?_; clear F a; intro a F
      refine s_bs F M rfl rfl rfl rfl (parts1 F rfl) (bs_27_1_C1 _ _ _) ?_; (clear F a M; try clear w); intro b45 w M a F
      refine s_ap F M.f1 rfl rfl rfl rfl tl_27_C1 rfl rfl (by exact rd_blk M.h0 rfl) rfl (by decide) ?_; (clear F a M; try clear w); intro A46 c46 w M a F
      refine s_I F rfl rfl rfl rfl rfl rfl ?_; clear F a; intro a F
      refine t_endM M ?_; (clear M; try clear w); intro w M
      refine wp_seq ?_
      replace F := F.keep [0, 1, 3, 4, 5] rfl
      refine wp_region_t [.ind, .ind, .ind, .rd, .ind, .rd, .ind, .rd, .ind, .ind, .ind, .rd, .ind, .rd, .ind, .rd, .ind, .ind] [] (otOf [0, 1, 2, 3, 4, 5, 6, 7, 8, 9, 10, 11, 12, 13, 14, 15, 16, 17]) mixed (by kernel_rfl) ?_
      refine s_I F rfl rfl rfl rfl rfl rfl ?_; clear F a; intro a F
      refine s_I F rfl rfl rfl rfl rfl rfl ?_; clear F a; intro a F
      refine s_fa0 F rfl rfl rfl rfl fa_94_4_C1 rfl ?_; clear F a; intro a F
      refine s_ld F rfl rfl rfl rfl sc_90_C1 rfl (by exact cell_of_blk M.h3 (gf (C.at_ rfl) (by decide))) ?_; clear F a; intro a F
      refine s_fa0 F rfl rfl rfl rfl fa_38_2_C1 rfl ?_; clear F a; intro a F
      refine s_ld F rfl rfl rfl rfl sc_9_C1 rfl (by exact cell_of_blk M.h4 (lit rfl)) ?_; clear F a; intro a F
      refine s_bld F rfl rfl rfl rfl (parts2 F rfl rfl) (bl_98_0_1_C1 _ _) ?_; clear F a; intro a F
      refine s_lk keV (2, m.body) F rfl rfl rfl rfl mp_90_C1 zr_3_C1 rfl rfl (by exact M.h2) ?_; clear F a; intro a F; rw [voiceD_get] at F; dsimp only at F
      refine s_I F rfl rfl rfl rfl rfl rfl ?_; clear F a; intro a F
      refine s_I F rfl rfl rfl rfl rfl rfl ?_; clear F a; intro a F
      refine s_fa0 F rfl rfl rfl rfl fa_94_4_C1 rfl ?_; clear F a; intro a F
      refine s_ld F rfl rfl rfl rfl sc_90_C1 rfl (by exact cell_of_blk M.h3 (gf (C.at_ rfl) (by decide))) ?_; clear F a; intro a F
      refine s_fa0 F rfl rfl rfl rfl fa_38_2_C1 rfl ?_; clear F a; intro a F
      refine s_ld F rfl rfl rfl rfl sc_9_C1 rfl (by exact cell_of_blk M.h4 (lit rfl)) ?_; clear F a; intro a F
      refine s_bld F rfl rfl rfl rfl (parts2 F rfl rfl) (bl_98_0_1_C1 _ _) ?_; clear F a; intro a F
      refine s_lk keV (3, m.body) F rfl rfl rfl rfl mp_90_C1 zr_3_C1 rfl rfl (by exact M.h2) ?_; clear F a; intro a F; rw [voiceD_get] at F; dsimp only at F
      refine s_I F rfl rfl rfl rfl rfl rfl ?_; clear F a; intro a F
      refine s_I F rfl rfl rfl rfl rfl rfl ?_; clear F a; intro a F
      refine t_endM M ?_; (clear M; try clear w); intro w M
      refine wp_seq ?_
      refine wp_seq ?_
      replace F := F.keep [0, 1, 3, 4, 5, 6, 7] rfl
      refine wp_region_t [.ind, .ind, .ind, .rd, .ind, .ind, .ind, .ind, .ind, .ind, .rd, .ind, .ind, .ind, .rd, .wr, .ind, .ind, .ind, .ind, .ind, .ind, .rd, .ind, .ind, .ind] [] (otOf [0, 1, 2, 3, 4, 5, 6, 7, 8, 9, 10, 11, 12, 13, 14, 15, 16, 17, 18, 19, 20, 21, 22, 23, 24, 25]) mixed (by kernel_rfl) ?_
      refine s_I F rfl rfl rfl rfl rfl rfl ?_; clear F a; intro a F
      refine s_I F rfl rfl rfl rfl rfl rfl ?_; clear F a; intro a F
      refine s_fa0 F rfl rfl rfl rfl fa_94_5_C1 rfl ?_; clear F a; intro a F
      refine s_ld F rfl rfl rfl rfl sc_4_C1 rfl (by exact cell_of_blk M.h3 (gf (C.at_ rfl) (by decide))) ?_; clear F a; intro a F
      refine s_I F rfl rfl rfl rfl rfl rfl ?_; clear F a; intro a F
      refine s_I F rfl rfl rfl rfl rfl rfl ?_; clear F a; intro a F
      refine bsplit F 68 rfl ?_ ?_
      ·
        clear F; intro hc3 F
        try rw [hc3] at F
        replace hc3 := nt hc3
        refine s_I F rfl rfl rfl rfl rfl rfl ?_; clear F a; intro a F
        refine s_I F rfl rfl rfl rfl rfl rfl ?_; clear F a; intro a F
        refine s_I F rfl rfl rfl rfl rfl rfl ?_; clear F a; intro a F
        refine s_fa0 F rfl rfl rfl rfl fa_94_0_C1 rfl ?_; clear F a; intro a F
        refine s_ld F rfl rfl rfl rfl sc_3_C1 rfl (by exact cell_of_blk M.h3 (gf (C.at_ rfl) (by decide))) ?_; clear F a; intro a F
        refine s_I F rfl rfl rfl rfl rfl rfl ?_; clear F a; intro a F
        refine s_I F rfl rfl rfl rfl rfl rfl ?_; clear F a; intro a F
        refine s_fa0 F rfl rfl rfl rfl fa_94_1_C1 rfl ?_; clear F a; intro a F
        refine s_ld F rfl rfl rfl rfl sc_3_C1 rfl (by exact cell_of_blk M.h3 (gf (C.at_ rfl) (by decide))) ?_; clear F a; intro a F
        refine s_cq F M rfl rfl rfl rfl rfl (rfl : _ = some [_, _]) cb_12_C1 (fun n => c12 _ _ _) ?_; (clear F a M; try clear w); rintro v w rfl M a F
        refine s_bin F rfl rfl rfl rfl rfl rfl rfl ?_; clear F a; intro a F
        refine s_I F rfl rfl rfl rfl rfl rfl ?_; clear F a; intro a F
        refine bsplit F 80 rfl ?_ ?_
        ·
          clear F; intro hc4 F
          try rw [hc4] at F
          replace hc4 := of_decide_eq_true hc4
          refine s_no F rfl rfl rfl rfl ?_; clear F a; intro a F
          refine s_no F rfl rfl rfl rfl ?_; clear F a; intro a F
          refine s_no F rfl rfl rfl rfl ?_; clear F a; intro a F
          refine s_no F rfl rfl rfl rfl ?_; clear F a; intro a F
          refine s_no F rfl rfl rfl rfl ?_; clear F a; intro a F
          refine s_no F rfl rfl rfl rfl ?_; clear F a; intro a F
          refine s_I F rfl rfl rfl rfl rfl rfl ?_; clear F a; intro a F
          refine s_I F rfl rfl rfl rfl rfl rfl ?_; clear F a; intro a F
          refine t_endM M ?_; (clear M; try clear w); intro w M
          refine c_t F rfl ?_
          refine wp_seq ?_
          replace F := F.keep [0, 1, 3, 4, 5, 6, 7] rfl
          refine wp_region_l [.ind, .ind, .ind, .wr] ([0, 1, 2, 3]) rfl ?_
          refine s_I F rfl rfl rfl rfl rfl rfl ?_; clear F a; intro a F
          refine s_I F rfl rfl rfl rfl rfl rfl ?_; clear F a; intro a F
          refine s_fa0 F rfl rfl rfl rfl fa_94_5_C1 rfl ?_; clear F a; intro a F
          refine s_sf F M.f3 rfl rfl rfl sz_4_C1 rfl rfl rfl (by decide) ?_; (clear M; try clear w); intro w M
          refine t_endM M ?_; (clear M; try clear w); intro w M
          replace C := C.setReady true
          replace F := F.keep [0, 1, 3, 4, 5, 6, 7] rfl
          refine wp_region_l [.ind, .ind, .rd, .ind, .wr, .wr, .ind] ([0, 1, 2, 3, 4, 5, 6]) rfl ?_
          refine s_I F rfl rfl rfl rfl rfl rfl ?_; clear F a; intro a F
          refine s_fa0 F rfl rfl rfl rfl fa_38_2_C1 rfl ?_; clear F a; intro a F
          refine s_ld F rfl rfl rfl rfl sc_9_C1 rfl (by exact cell_of_blk M.h4 (lit rfl)) ?_; clear F a; intro a F
          refine s_bld F rfl rfl rfl rfl (parts2 F rfl rfl) (bl_38_0_2_C1 _ _) ?_; clear F a; intro a F
          refine s_bs F M rfl rfl rfl rfl (parts1 F rfl) (bs_27_1_C1 _ _ _) ?_; (clear F a M; try clear w); intro b96 w M a F
          refine s_ap F M.f2 rfl rfl rfl rfl tl_27_C1 rfl rfl (by exact rd_blk M.h0 rfl) rfl (by decide) ?_; (clear F a M; try clear w); intro A97 c97 w M a F
          refine s_I F rfl rfl rfl rfl rfl rfl ?_; clear F a; intro a F
          refine t_endM M ?_; (clear M; try clear w); intro w M
          refine wp_seq ?_
          refine wp_seq ?_
          replace F := F.keep [0, 1, 3, 4, 5, 6, 7] rfl
          refine wp_region_l [.ind, .ind, .ind, .rd, .ind, .ind, .ind, .ind, .ind, .ind, .rd, .ind, .ind, .ind] ([0, 1, 2, 3, 4, 5, 6, 7, 8, 9, 10, 11, 12, 13]) rfl ?_
          refine s_I F rfl rfl rfl rfl rfl rfl ?_; clear F a; intro a F
          refine s_I F rfl rfl rfl rfl rfl rfl ?_; clear F a; intro a F
          refine s_fa0 F rfl rfl rfl rfl fa_94_6_C1 rfl ?_; clear F a; intro a F
          refine s_ld F rfl rfl rfl rfl sc_4_C1 rfl (by exact cell_of_blk M.h2 (gf (C.at_ rfl) (by decide))) ?_; clear F a; intro a F
          refine s_I F rfl rfl rfl rfl rfl rfl ?_; clear F a; intro a F
          refine s_I F rfl rfl rfl rfl rfl rfl ?_; clear F a; intro a F
          refine bsplit F 103 rfl ?_ ?_
          ·
            clear F; intro hc5 F
            try rw [hc5] at F
            replace hc5 := nt hc5
            refine s_I F rfl rfl rfl rfl rfl rfl ?_; clear F a; intro a F
            refine s_I F rfl rfl rfl rfl rfl rfl ?_; clear F a; intro a F
            refine s_I F rfl rfl rfl rfl rfl rfl ?_; clear F a; intro a F
            refine s_fa0 F rfl rfl rfl rfl fa_94_1_C1 rfl ?_; clear F a; intro a F
            refine s_ld F rfl rfl rfl rfl sc_3_C1 rfl (by exact cell_of_blk M.h2 (gf (C.at_ rfl) (by decide))) ?_; clear F a; intro a F
            refine s_mul F rfl rfl rfl rfl rfl rfl (by unfold In64; omega) ?_; clear F a; intro a F
            refine s_bin F rfl rfl rfl rfl rfl rfl rfl ?_; clear F a; intro a F
            refine s_I F rfl rfl rfl rfl rfl rfl ?_; clear F a; intro a F
            refine t_endM M ?_; (clear M; try clear w); intro w M
            refine c_if F rfl ?_ ?_
            ·
              clear F; intro hc6 F
              try rw [hc6] at F
              replace hc6 := of_decide_eq_true hc6
              replace F := F.keep [0, 1, 3, 4, 5, 6, 7] rfl
              refine wp_region_t [.ind, .ind, .ind, .rd, .ind, .ind, .wr, .ind, .ind, .wr] [(3, 6)] (otOf [0, 1, 2, 3, 4, 5, 6, 7, 8, 9]) mixed (by kernel_rfl) ?_
              refine s_I F rfl rfl rfl rfl rfl rfl ?_; clear F a; intro a F
              refine s_I F rfl rfl rfl rfl rfl rfl ?_; clear F a; intro a F
              refine s_fa0 F rfl rfl rfl rfl fa_38_2_C1 rfl ?_; clear F a; intro a F
              refine s_ldL F rfl rfl rfl rfl sc_9_C1 rfl (by exact cell_of_blk M.h5 (lit rfl)) ?_; clear F a; intro a F
              refine s_I F rfl rfl rfl rfl rfl rfl ?_; clear F a; intro a F
              refine s_fa0 F rfl rfl rfl rfl fa_94_6_C1 rfl ?_; clear F a; intro a F
              refine s_sfL F M.f2 rfl rfl rfl sz_4_C1 rfl rfl rfl (by decide) (fun w M => (by repeat first | exact pend_none | refine pend_take (by exact cell_of_blk M.h5 (lit rfl)) ?_)) ?_; (clear M; try clear w); intro w M
              refine s_I F rfl rfl rfl rfl rfl rfl ?_; clear F a; intro a F
              refine s_fa0 F rfl rfl rfl rfl fa_94_7_C1 rfl ?_; clear F a; intro a F
              refine s_sfL F M rfl rfl rfl sz_9_C1 rfl rfl rfl (by decide) (fun w M => (by repeat first | exact pend_none | refine pend_skip rfl ?_)) ?_; (clear M; try clear w); intro w M
              refine t_endM M ?_; (clear M; try clear w); intro w M
              refine wp_seq ?_
              replace F := F.keep [0, 1, 3, 4, 5, 6, 7] rfl
              refine wp_region_l [.ind, .ind] ([0, 1]) rfl ?_
              refine s_I F rfl rfl rfl rfl rfl rfl ?_; clear F a; intro a F
              refine s_I F rfl rfl rfl rfl rfl rfl ?_; clear F a; intro a F
              refine t_endM M ?_; (clear M; try clear w); intro w M
              refine wp_ret ?_
              refine ret1 F rfl rfl ?_
              -- end 1
              refine ⟨_, _, rfl, rfl, ?_⟩
              have M1 : Sep _ _ _ (mapR _ _ _ _ :: _) := M.f4; replace M := M1; clear M1
              have M1 : Sep _ _ _ (blk b _ :: _) := M.f1; replace M := M1; clear M1
              have M1 : Sep _ _ _ (slR _ _ _ _ _ :: _) := M.f2; replace M := M1; clear M1
              first
                | refine takeEnd hcnt M C W ?_ ?_ ?_ ?_ ?_
                | refine takeEnd hcnt M ((C.setTold true).setBody m.body) W ?_ ?_ ?_ ?_ ?_
              all_goals clear M F C ho
              · grind [rd]
              · grind [dn]
              · grind [dn]
              · grind [rd, out1, out2]
              · grind [rd, out1, out2, encM]
            ·
              clear F; intro hc7 F
              try rw [hc7] at F
              replace hc7 := of_decide_eq_false hc7
              refine wp_skip ?_
              refine wp_seq ?_
              replace F := F.keep [0, 1, 3, 4, 5, 6, 7] rfl
              refine wp_region_l [.ind, .ind] ([0, 1]) rfl ?_
              refine s_I F rfl rfl rfl rfl rfl rfl ?_; clear F a; intro a F
              refine s_I F rfl rfl rfl rfl rfl rfl ?_; clear F a; intro a F
              refine t_endM M ?_; (clear M; try clear w); intro w M
              refine wp_ret ?_
              refine ret1 F rfl rfl ?_
              -- end 2
              refine ⟨_, _, rfl, rfl, ?_⟩
              have M1 : Sep _ _ _ (mapR _ _ _ _ :: _) := M.f4; replace M := M1; clear M1
              have M1 : Sep _ _ _ (blk b _ :: _) := M.f3; replace M := M1; clear M1
              have M1 : Sep _ _ _ (slR _ _ _ _ _ :: _) := M.f2; replace M := M1; clear M1
              first
                | refine takeEnd hcnt M C W ?_ ?_ ?_ ?_ ?_
                | refine takeEnd hcnt M ((C.setTold true).setBody m.body) W ?_ ?_ ?_ ?_ ?_
              all_goals clear M F C ho
              · grind [rd]
              · grind [dn]
              · grind [dn]
              · grind [rd, out1, out2]
              · grind [rd, out1, out2, encM]
          ·
            clear F; intro hc8 F
            try rw [hc8] at F
            replace hc8 := nf hc8
            refine s_no F rfl rfl rfl rfl ?_; clear F a; intro a F
            refine s_no F rfl rfl rfl rfl ?_; clear F a; intro a F
            refine s_no F rfl rfl rfl rfl ?_; clear F a; intro a F
            refine s_no F rfl rfl rfl rfl ?_; clear F a; intro a F
            refine s_no F rfl rfl rfl rfl ?_; clear F a; intro a F
            refine s_no F rfl rfl rfl rfl ?_; clear F a; intro a F
            refine s_no F rfl rfl rfl rfl ?_; clear F a; intro a F
            refine s_I F rfl rfl rfl rfl rfl rfl ?_; clear F a; intro a F
            refine t_endM M ?_; (clear M; try clear w); intro w M
            refine c_f F rfl ?_
            refine wp_skip ?_
            refine wp_seq ?_
            replace F := F.keep [0, 1, 3, 4, 5, 6, 7] rfl
            refine wp_region_l [.ind, .ind] ([0, 1]) rfl ?_
            refine s_I F rfl rfl rfl rfl rfl rfl ?_; clear F a; intro a F
            refine s_I F rfl rfl rfl rfl rfl rfl ?_; clear F a; intro a F
            refine t_endM M ?_; (clear M; try clear w); intro w M
            refine wp_ret ?_
            refine ret1 F rfl rfl ?_
            -- end 3
            refine ⟨_, _, rfl, rfl, ?_⟩
            have M1 : Sep _ _ _ (mapR _ _ _ _ :: _) := M.f4; replace M := M1; clear M1
            have M1 : Sep _ _ _ (blk b _ :: _) := M.f3; replace M := M1; clear M1
            have M1 : Sep _ _ _ (slR _ _ _ _ _ :: _) := M.f2; replace M := M1; clear M1
            first
              | refine takeEnd hcnt M C W ?_ ?_ ?_ ?_ ?_
              | refine takeEnd hcnt M ((C.setTold true).setBody m.body) W ?_ ?_ ?_ ?_ ?_
            all_goals clear M F C ho
            · grind [rd]
            · grind [dn]
            · grind [dn]
            · grind [rd, out1, out2]
            · grind [rd, out1, out2, encM]
        ·
          clear F; intro hc9 F
          try rw [hc9] at F
          replace hc9 := of_decide_eq_false hc9
          refine s_I F rfl rfl rfl rfl rfl rfl ?_; clear F a; intro a F
          refine s_I F rfl rfl rfl rfl rfl rfl ?_; clear F a; intro a F
          refine s_I F rfl rfl rfl rfl rfl rfl ?_; clear F a; intro a F
          refine s_fa0 F rfl rfl rfl rfl fa_94_1_C1 rfl ?_; clear F a; intro a F
          refine s_ld F rfl rfl rfl rfl sc_3_C1 rfl (by exact cell_of_blk M.h3 (gf (C.at_ rfl) (by decide))) ?_; clear F a; intro a F
          refine s_bin F rfl rfl rfl rfl rfl rfl rfl ?_; clear F a; intro a F
          refine s_I F rfl rfl rfl rfl rfl rfl ?_; clear F a; intro a F
          refine s_I F rfl rfl rfl rfl rfl rfl ?_; clear F a; intro a F
          refine t_endM M ?_; (clear M; try clear w); intro w M
          refine c_if F rfl ?_ ?_
          ·
            clear F; intro hc10 F
            try rw [hc10] at F
            replace hc10 := of_decide_eq_true hc10
            refine wp_seq ?_
            replace F := F.keep [0, 1, 3, 4, 5, 6, 7] rfl
            refine wp_region_l [.ind, .ind, .ind, .wr] ([0, 1, 2, 3]) rfl ?_
            refine s_I F rfl rfl rfl rfl rfl rfl ?_; clear F a; intro a F
            refine s_I F rfl rfl rfl rfl rfl rfl ?_; clear F a; intro a F
            refine s_fa0 F rfl rfl rfl rfl fa_94_5_C1 rfl ?_; clear F a; intro a F
            refine s_sf F M.f3 rfl rfl rfl sz_4_C1 rfl rfl rfl (by decide) ?_; (clear M; try clear w); intro w M
            refine t_endM M ?_; (clear M; try clear w); intro w M
            replace C := C.setReady true
            replace F := F.keep [0, 1, 3, 4, 5, 6, 7] rfl
            refine wp_region_l [.ind, .ind, .rd, .ind, .wr, .wr, .ind] ([0, 1, 2, 3, 4, 5, 6]) rfl ?_
            refine s_I F rfl rfl rfl rfl rfl rfl ?_; clear F a; intro a F
            refine s_fa0 F rfl rfl rfl rfl fa_38_2_C1 rfl ?_; clear F a; intro a F
            refine s_ld F rfl rfl rfl rfl sc_9_C1 rfl (by exact cell_of_blk M.h4 (lit rfl)) ?_; clear F a; intro a F
            refine s_bld F rfl rfl rfl rfl (parts2 F rfl rfl) (bl_38_0_2_C1 _ _) ?_; clear F a; intro a F
            refine s_bs F M rfl rfl rfl rfl (parts1 F rfl) (bs_27_1_C1 _ _ _) ?_; (clear F a M; try clear w); intro b96 w M a F
            refine s_ap F M.f2 rfl rfl rfl rfl tl_27_C1 rfl rfl (by exact rd_blk M.h0 rfl) rfl (by decide) ?_; (clear F a M; try clear w); intro A97 c97 w M a F
            refine s_I F rfl rfl rfl rfl rfl rfl ?_; clear F a; intro a F
            refine t_endM M ?_; (clear M; try clear w); intro w M
            refine wp_seq ?_
            refine wp_seq ?_
            replace F := F.keep [0, 1, 3, 4, 5, 6, 7] rfl
            refine wp_region_l [.ind, .ind, .ind, .rd, .ind, .ind, .ind, .ind, .ind, .ind, .rd, .ind, .ind, .ind] ([0, 1, 2, 3, 4, 5, 6, 7, 8, 9, 10, 11, 12, 13]) rfl ?_
            refine s_I F rfl rfl rfl rfl rfl rfl ?_; clear F a; intro a F
            refine s_I F rfl rfl rfl rfl rfl rfl ?_; clear F a; intro a F
            refine s_fa0 F rfl rfl rfl rfl fa_94_6_C1 rfl ?_; clear F a; intro a F
            refine s_ld F rfl rfl rfl rfl sc_4_C1 rfl (by exact cell_of_blk M.h2 (gf (C.at_ rfl) (by decide))) ?_; clear F a; intro a F
            refine s_I F rfl rfl rfl rfl rfl rfl ?_; clear F a; intro a F
            refine s_I F rfl rfl rfl rfl rfl rfl ?_; clear F a; intro a F
            refine bsplit F 103 rfl ?_ ?_
            ·
              clear F; intro hc11 F
              try rw [hc11] at F
              replace hc11 := nt hc11
              refine s_I F rfl rfl rfl rfl rfl rfl ?_; clear F a; intro a F
              refine s_I F rfl rfl rfl rfl rfl rfl ?_; clear F a; intro a F
              refine s_I F rfl rfl rfl rfl rfl rfl ?_; clear F a; intro a F
              refine s_fa0 F rfl rfl rfl rfl fa_94_1_C1 rfl ?_; clear F a; intro a F
              refine s_ld F rfl rfl rfl rfl sc_3_C1 rfl (by exact cell_of_blk M.h2 (gf (C.at_ rfl) (by decide))) ?_; clear F a; intro a F
              refine s_mul F rfl rfl rfl rfl rfl rfl (by unfold In64; omega) ?_; clear F a; intro a F
              refine s_bin F rfl rfl rfl rfl rfl rfl rfl ?_; clear F a; intro a F
              refine s_I F rfl rfl rfl rfl rfl rfl ?_; clear F a; intro a F
              refine t_endM M ?_; (clear M; try clear w); intro w M
              refine c_if F rfl ?_ ?_
              ·
                clear F; intro hc12 F
                try rw [hc12] at F
                replace hc12 := of_decide_eq_true hc12
                replace F := F.keep [0, 1, 3, 4, 5, 6, 7] rfl
                refine wp_region_t [.ind, .ind, .ind, .rd, .ind, .ind, .wr, .ind, .ind, .wr] [(3, 6)] (otOf [0, 1, 2, 3, 4, 5, 6, 7, 8, 9]) mixed (by kernel_rfl) ?_
                refine s_I F rfl rfl rfl rfl rfl rfl ?_; clear F a; intro a F
                refine s_I F rfl rfl rfl rfl rfl rfl ?_; clear F a; intro a F
                refine s_fa0 F rfl rfl rfl rfl fa_38_2_C1 rfl ?_; clear F a; intro a F
                refine s_ldL F rfl rfl rfl rfl sc_9_C1 rfl (by exact cell_of_blk M.h5 (lit rfl)) ?_; clear F a; intro a F
                refine s_I F rfl rfl rfl rfl rfl rfl ?_; clear F a; intro a F
                refine s_fa0 F rfl rfl rfl rfl fa_94_6_C1 rfl ?_; clear F a; intro a F
                refine s_sfL F M.f2 rfl rfl rfl sz_4_C1 rfl rfl rfl (by decide) (fun w M => (by repeat first | exact pend_none | refine pend_take (by exact cell_of_blk M.h5 (lit rfl)) ?_)) ?_; (clear M; try clear w); intro w M
                refine s_I F rfl rfl rfl rfl rfl rfl ?_; clear F a; intro a F
                refine s_fa0 F rfl rfl rfl rfl fa_94_7_C1 rfl ?_; clear F a; intro a F
                refine s_sfL F M rfl rfl rfl sz_9_C1 rfl rfl rfl (by decide) (fun w M => (by repeat first | exact pend_none | refine pend_skip rfl ?_)) ?_; (clear M; try clear w); intro w M
                refine t_endM M ?_; (clear M; try clear w); intro w M
                refine wp_seq ?_
                replace F := F.keep [0, 1, 3, 4, 5, 6, 7] rfl
                refine wp_region_l [.ind, .ind] ([0, 1]) rfl ?_
                refine s_I F rfl rfl rfl rfl rfl rfl ?_; clear F a; intro a F
                refine s_I F rfl rfl rfl rfl rfl rfl ?_; clear F a; intro a F
                refine t_endM M ?_; (clear M; try clear w); intro w M
                refine wp_ret ?_
                refine ret1 F rfl rfl ?_
                -- end 4
                refine ⟨_, _, rfl, rfl, ?_⟩
                have M1 : Sep _ _ _ (mapR _ _ _ _ :: _) := M.f4; replace M := M1; clear M1
                have M1 : Sep _ _ _ (blk b _ :: _) := M.f1; replace M := M1; clear M1
                have M1 : Sep _ _ _ (slR _ _ _ _ _ :: _) := M.f2; replace M := M1; clear M1
                first
                  | refine takeEnd hcnt M C W ?_ ?_ ?_ ?_ ?_
                  | refine takeEnd hcnt M ((C.setTold true).setBody m.body) W ?_ ?_ ?_ ?_ ?_
                all_goals clear M F C ho
                · grind [rd]
                · grind [dn]
                · grind [dn]
                · grind [rd, out1, out2]
                · grind [rd, out1, out2, encM]
              ·
                clear F; intro hc13 F
                try rw [hc13] at F
                replace hc13 := of_decide_eq_false hc13
                refine wp_skip ?_
                refine wp_seq ?_
                replace F := F.keep [0, 1, 3, 4, 5, 6, 7] rfl
                refine wp_region_l [.ind, .ind] ([0, 1]) rfl ?_
                refine s_I F rfl rfl rfl rfl rfl rfl ?_; clear F a; intro a F
                refine s_I F rfl rfl rfl rfl rfl rfl ?_; clear F a; intro a F
                refine t_endM M ?_; (clear M; try clear w); intro w M
                refine wp_ret ?_
                refine ret1 F rfl rfl ?_
                -- end 5
                refine ⟨_, _, rfl, rfl, ?_⟩
                have M1 : Sep _ _ _ (mapR _ _ _ _ :: _) := M.f4; replace M := M1; clear M1
                have M1 : Sep _ _ _ (blk b _ :: _) := M.f3; replace M := M1; clear M1
                have M1 : Sep _ _ _ (slR _ _ _ _ _ :: _) := M.f2; replace M := M1; clear M1
                first
                  | refine takeEnd hcnt M C W ?_ ?_ ?_ ?_ ?_
                  | refine takeEnd hcnt M ((C.setTold true).setBody m.body) W ?_ ?_ ?_ ?_ ?_
                all_goals clear M F C ho
                · grind [rd]
                · grind [dn]
                · grind [dn]
                · grind [rd, out1, out2]
                · grind [rd, out1, out2, encM]
            ·
              clear F; intro hc14 F
              try rw [hc14] at F
              replace hc14 := nf hc14
              refine s_no F rfl rfl rfl rfl ?_; clear F a; intro a F
              refine s_no F rfl rfl rfl rfl ?_; clear F a; intro a F
              refine s_no F rfl rfl rfl rfl ?_; clear F a; intro a F
              refine s_no F rfl rfl rfl rfl ?_; clear F a; intro a F
              refine s_no F rfl rfl rfl rfl ?_; clear F a; intro a F
              refine s_no F rfl rfl rfl rfl ?_; clear F a; intro a F
              refine s_no F rfl rfl rfl rfl ?_; clear F a; intro a F
              refine s_I F rfl rfl rfl rfl rfl rfl ?_; clear F a; intro a F
              refine t_endM M ?_; (clear M; try clear w); intro w M
              refine c_f F rfl ?_
              refine wp_skip ?_
              refine wp_seq ?_
              replace F := F.keep [0, 1, 3, 4, 5, 6, 7] rfl
              refine wp_region_l [.ind, .ind] ([0, 1]) rfl ?_
              refine s_I F rfl rfl rfl rfl rfl rfl ?_; clear F a; intro a F
              refine s_I F rfl rfl rfl rfl rfl rfl ?_; clear F a; intro a F
              refine t_endM M ?_; (clear M; try clear w); intro w M
              refine wp_ret ?_
              refine ret1 F rfl rfl ?_
              -- end 6
              refine ⟨_, _, rfl, rfl, ?_⟩
              have M1 : Sep _ _ _ (mapR _ _ _ _ :: _) := M.f4; replace M := M1; clear M1
              have M1 : Sep _ _ _ (blk b _ :: _) := M.f3; replace M := M1; clear M1
              have M1 : Sep _ _ _ (slR _ _ _ _ _ :: _) := M.f2; replace M := M1; clear M1
              first
                | refine takeEnd hcnt M C W ?_ ?_ ?_ ?_ ?_
                | refine takeEnd hcnt M ((C.setTold true).setBody m.body) W ?_ ?_ ?_ ?_ ?_
              all_goals clear M F C ho
              · grind [rd]
              · grind [dn]
              · grind [dn]
              · grind [rd, out1, out2]
              · grind [rd, out1, out2, encM]
          ·
            clear F; intro hc15 F
            try rw [hc15] at F
            replace hc15 := of_decide_eq_false hc15
            refine wp_skip ?_
            refine wp_seq ?_
            refine wp_seq ?_
            replace F := F.keep [0, 1, 3, 4, 5, 6, 7] rfl
            refine wp_region_l [.ind, .ind, .ind, .rd, .ind, .ind, .ind, .ind, .ind, .ind, .rd, .ind, .ind, .ind] ([0, 1, 2, 3, 4, 5, 6, 7, 8, 9, 10, 11, 12, 13]) rfl ?_
            refine s_I F rfl rfl rfl rfl rfl rfl ?_; clear F a; intro a F
            refine s_I F rfl rfl rfl rfl rfl rfl ?_; clear F a; intro a F
            refine s_fa0 F rfl rfl rfl rfl fa_94_6_C1 rfl ?_; clear F a; intro a F
            refine s_ld F rfl rfl rfl rfl sc_4_C1 rfl (by exact cell_of_blk M.h3 (gf (C.at_ rfl) (by decide))) ?_; clear F a; intro a F
            refine s_I F rfl rfl rfl rfl rfl rfl ?_; clear F a; intro a F
            refine s_I F rfl rfl rfl rfl rfl rfl ?_; clear F a; intro a F
            refine bsplit F 103 rfl ?_ ?_
            ·
              clear F; intro hc16 F
              try rw [hc16] at F
              replace hc16 := nt hc16
              refine s_I F rfl rfl rfl rfl rfl rfl ?_; clear F a; intro a F
              refine s_I F rfl rfl rfl rfl rfl rfl ?_; clear F a; intro a F
              refine s_I F rfl rfl rfl rfl rfl rfl ?_; clear F a; intro a F
              refine s_fa0 F rfl rfl rfl rfl fa_94_1_C1 rfl ?_; clear F a; intro a F
              refine s_ld F rfl rfl rfl rfl sc_3_C1 rfl (by exact cell_of_blk M.h3 (gf (C.at_ rfl) (by decide))) ?_; clear F a; intro a F
              refine s_mul F rfl rfl rfl rfl rfl rfl (by unfold In64; omega) ?_; clear F a; intro a F
              refine s_bin F rfl rfl rfl rfl rfl rfl rfl ?_; clear F a; intro a F
              refine s_I F rfl rfl rfl rfl rfl rfl ?_; clear F a; intro a F
              refine t_endM M ?_; (clear M; try clear w); intro w M
              refine c_if F rfl ?_ ?_
              ·
                clear F; intro hc17 F
                try rw [hc17] at F
                replace hc17 := of_decide_eq_true hc17
                replace F := F.keep [0, 1, 3, 4, 5, 6, 7] rfl
                refine wp_region_t [.ind, .ind, .ind, .rd, .ind, .ind, .wr, .ind, .ind, .wr] [(3, 6)] (otOf [0, 1, 2, 3, 4, 5, 6, 7, 8, 9]) mixed (by kernel_rfl) ?_
                refine s_I F rfl rfl rfl rfl rfl rfl ?_; clear F a; intro a F
                refine s_I F rfl rfl rfl rfl rfl rfl ?_; clear F a; intro a F
                refine s_fa0 F rfl rfl rfl rfl fa_38_2_C1 rfl ?_; clear F a; intro a F
                refine s_ldL F rfl rfl rfl rfl sc_9_C1 rfl (by exact cell_of_blk M.h4 (lit rfl)) ?_; clear F a; intro a F
                refine s_I F rfl rfl rfl rfl rfl rfl ?_; clear F a; intro a F
                refine s_fa0 F rfl rfl rfl rfl fa_94_6_C1 rfl ?_; clear F a; intro a F
                refine s_sfL F M.f3 rfl rfl rfl sz_4_C1 rfl rfl rfl (by decide) (fun w M => (by repeat first | exact pend_none | refine pend_take (by exact cell_of_blk M.h4 (lit rfl)) ?_)) ?_; (clear M; try clear w); intro w M
                refine s_I F rfl rfl rfl rfl rfl rfl ?_; clear F a; intro a F
                refine s_fa0 F rfl rfl rfl rfl fa_94_7_C1 rfl ?_; clear F a; intro a F
                refine s_sfL F M rfl rfl rfl sz_9_C1 rfl rfl rfl (by decide) (fun w M => (by repeat first | exact pend_none | refine pend_skip rfl ?_)) ?_; (clear M; try clear w); intro w M
                refine t_endM M ?_; (clear M; try clear w); intro w M
                refine wp_seq ?_
                replace F := F.keep [0, 1, 3, 4, 5, 6, 7] rfl
                refine wp_region_l [.ind, .ind] ([0, 1]) rfl ?_
                refine s_I F rfl rfl rfl rfl rfl rfl ?_; clear F a; intro a F
                refine s_I F rfl rfl rfl rfl rfl rfl ?_; clear F a; intro a F
                refine t_endM M ?_; (clear M; try clear w); intro w M
                refine wp_ret ?_
                refine ret1 F rfl rfl ?_
                -- end 7
                refine ⟨_, _, rfl, rfl, ?_⟩
                have M1 : Sep _ _ _ (mapR _ _ _ _ :: _) := M.f3; replace M := M1; clear M1
                have M1 : Sep _ _ _ (blk b _ :: _) := M.f1; replace M := M1; clear M1
                have M1 : Sep _ _ _ (slR _ _ _ _ _ :: _) := M.f2; replace M := M1; clear M1
                first
                  | refine takeEnd hcnt M C W ?_ ?_ ?_ ?_ ?_
                  | refine takeEnd hcnt M ((C.setTold true).setBody m.body) W ?_ ?_ ?_ ?_ ?_
                all_goals clear M F C ho
                · grind [rd]
                · grind [dn]
                · grind [dn]
                · grind [rd, out1, out2]
                · grind [rd, out1, out2, encM]
              ·
                clear F; intro hc18 F
                try rw [hc18] at F
                replace hc18 := of_decide_eq_false hc18
                refine wp_skip ?_
                refine wp_seq ?_
                replace F := F.keep [0, 1, 3, 4, 5, 6, 7] rfl
                refine wp_region_l [.ind, .ind] ([0, 1]) rfl ?_
                refine s_I F rfl rfl rfl rfl rfl rfl ?_; clear F a; intro a F
                refine s_I F rfl rfl rfl rfl rfl rfl ?_; clear F a; intro a F
                refine t_endM M ?_; (clear M; try clear w); intro w M
                refine wp_ret ?_
                refine ret1 F rfl rfl ?_
                -- end 8
                refine ⟨_, _, rfl, rfl, ?_⟩
                have M1 : Sep _ _ _ (mapR _ _ _ _ :: _) := M.f2; replace M := M1; clear M1
                have M1 : Sep _ _ _ (blk b _ :: _) := M.f3; replace M := M1; clear M1
                have M1 : Sep _ _ _ (slR _ _ _ _ _ :: _) := M.f2; replace M := M1; clear M1
                first
                  | refine takeEnd hcnt M C W ?_ ?_ ?_ ?_ ?_
                  | refine takeEnd hcnt M ((C.setTold true).setBody m.body) W ?_ ?_ ?_ ?_ ?_
                all_goals clear M F C ho
                · grind [rd]
                · grind [dn]
                · grind [dn]
                · grind [rd, out1, out2]
                · grind [rd, out1, out2, encM]
            ·
              clear F; intro hc19 F
              try rw [hc19] at F
              replace hc19 := nf hc19
              refine s_no F rfl rfl rfl rfl ?_; clear F a; intro a F
              refine s_no F rfl rfl rfl rfl ?_; clear F a; intro a F
              refine s_no F rfl rfl rfl rfl ?_; clear F a; intro a F
              refine s_no F rfl rfl rfl rfl ?_; clear F a; intro a F
              refine s_no F rfl rfl rfl rfl ?_; clear F a; intro a F
              refine s_no F rfl rfl rfl rfl ?_; clear F a; intro a F
              refine s_no F rfl rfl rfl rfl ?_; clear F a; intro a F
              refine s_I F rfl rfl rfl rfl rfl rfl ?_; clear F a; intro a F
              refine t_endM M ?_; (clear M; try clear w); intro w M
              refine c_f F rfl ?_
              refine wp_skip ?_
              refine wp_seq ?_
              replace F := F.keep [0, 1, 3, 4, 5, 6, 7] rfl
              refine wp_region_l [.ind, .ind] ([0, 1]) rfl ?_
              refine s_I F rfl rfl rfl rfl rfl rfl ?_; clear F a; intro a F
              refine s_I F rfl rfl rfl rfl rfl rfl ?_; clear F a; intro a F
              refine t_endM M ?_; (clear M; try clear w); intro w M
              refine wp_ret ?_
              refine ret1 F rfl rfl ?_
              -- end 9
              refine ⟨_, _, rfl, rfl, ?_⟩
              have M1 : Sep _ _ _ (mapR _ _ _ _ :: _) := M.f2; replace M := M1; clear M1
              have M1 : Sep _ _ _ (blk b _ :: _) := M.f3; replace M := M1; clear M1
              have M1 : Sep _ _ _ (slR _ _ _ _ _ :: _) := M.f2; replace M := M1; clear M1
              first
                | refine takeEnd hcnt M C W ?_ ?_ ?_ ?_ ?_
                | refine takeEnd hcnt M ((C.setTold true).setBody m.body) W ?_ ?_ ?_ ?_ ?_
              all_goals clear M F C ho
              · grind [rd]
              · grind [dn]
              · grind [dn]
              · grind [rd, out1, out2]
              · grind [rd, out1, out2, encM]
      ·
        clear F; intro hc20 F
        try rw [hc20] at F
        replace hc20 := nf hc20
        refine s_no F rfl rfl rfl rfl ?_; clear F a; intro a F
        refine s_no F rfl rfl rfl rfl ?_; clear F a; intro a F
        refine s_no F rfl rfl rfl rfl ?_; clear F a; intro a F
        refine s_no F rfl rfl rfl rfl ?_; clear F a; intro a F
        refine s_no F rfl rfl rfl rfl ?_; clear F a; intro a F
        refine s_no F rfl rfl rfl rfl ?_; clear F a; intro a F
        refine s_no F rfl rfl rfl rfl ?_; clear F a; intro a F
        refine s_no F rfl rfl rfl rfl ?_; clear F a; intro a F
        refine s_no F rfl rfl rfl rfl ?_; clear F a; intro a F
        refine s_no F rfl rfl rfl rfl ?_; clear F a; intro a F
        refine s_no F rfl rfl rfl rfl ?_; clear F a; intro a F
        refine s_no F rfl rfl rfl rfl ?_; clear F a; intro a F
        refine s_no F rfl rfl rfl rfl ?_; clear F a; intro a F
        refine s_no F rfl rfl rfl rfl ?_; clear F a; intro a F
        refine s_no F rfl rfl rfl rfl ?_; clear F a; intro a F
        refine s_no F rfl rfl rfl rfl ?_; clear F a; intro a F
        refine s_no F rfl rfl rfl rfl ?_; clear F a; intro a F
        refine s_no F rfl rfl rfl rfl ?_; clear F a; intro a F
        refine s_no F rfl rfl rfl rfl ?_; clear F a; intro a F
        refine s_I F rfl rfl rfl rfl rfl rfl ?_; clear F a; intro a F
        refine t_endM M ?_; (clear M; try clear w); intro w M
        refine c_f F rfl ?_
        refine wp_skip ?_
        refine wp_seq ?_
        refine wp_seq ?_
        replace F := F.keep [0, 1, 3, 4, 5, 6, 7] rfl
        refine wp_region_l [.ind, .ind, .ind, .rd, .ind, .ind, .ind, .ind, .ind, .ind, .rd, .ind, .ind, .ind] ([0, 1, 2, 3, 4, 5, 6, 7, 8, 9, 10, 11, 12, 13]) rfl ?_
        refine s_I F rfl rfl rfl rfl rfl rfl ?_; clear F a; intro a F
        refine s_I F rfl rfl rfl rfl rfl rfl ?_; clear F a; intro a F
        refine s_fa0 F rfl rfl rfl rfl fa_94_6_C1 rfl ?_; clear F a; intro a F
        refine s_ld F rfl rfl rfl rfl sc_4_C1 rfl (by exact cell_of_blk M.h3 (gf (C.at_ rfl) (by decide))) ?_; clear F a; intro a F
        refine s_I F rfl rfl rfl rfl rfl rfl ?_; clear F a; intro a F
        refine s_I F rfl rfl rfl rfl rfl rfl ?_; clear F a; intro a F
        refine bsplit F 103 rfl ?_ ?_
        ·
          clear F; intro hc21 F
          try rw [hc21] at F
          replace hc21 := nt hc21
          refine s_I F rfl rfl rfl rfl rfl rfl ?_; clear F a; intro a F
          refine s_I F rfl rfl rfl rfl rfl rfl ?_; clear F a; intro a F
          refine s_I F rfl rfl rfl rfl rfl rfl ?_; clear F a; intro a F
          refine s_fa0 F rfl rfl rfl rfl fa_94_1_C1 rfl ?_; clear F a; intro a F
          refine s_ld F rfl rfl rfl rfl sc_3_C1 rfl (by exact cell_of_blk M.h3 (gf (C.at_ rfl) (by decide))) ?_; clear F a; intro a F
          refine s_mul F rfl rfl rfl rfl rfl rfl (by unfold In64; omega) ?_; clear F a; intro a F
          refine s_bin F rfl rfl rfl rfl rfl rfl rfl ?_; clear F a; intro a F
          refine s_I F rfl rfl rfl rfl rfl rfl ?_; clear F a; intro a F
          refine t_endM M ?_; (clear M; try clear w); intro w M
          refine c_if F rfl ?_ ?_
          ·
            clear F; intro hc22 F
            try rw [hc22] at F
            replace hc22 := of_decide_eq_true hc22
            replace F := F.keep [0, 1, 3, 4, 5, 6, 7] rfl
            refine wp_region_t [.ind, .ind, .ind, .rd, .ind, .ind, .wr, .ind, .ind, .wr] [(3, 6)] (otOf [0, 1, 2, 3, 4, 5, 6, 7, 8, 9]) mixed (by kernel_rfl) ?_
            refine s_I F rfl rfl rfl rfl rfl rfl ?_; clear F a; intro a F
            refine s_I F rfl rfl rfl rfl rfl rfl ?_; clear F a; intro a F
            refine s_fa0 F rfl rfl rfl rfl fa_38_2_C1 rfl ?_; clear F a; intro a F
            refine s_ldL F rfl rfl rfl rfl sc_9_C1 rfl (by exact cell_of_blk M.h4 (lit rfl)) ?_; clear F a; intro a F
            refine s_I F rfl rfl rfl rfl rfl rfl ?_; clear F a; intro a F
            refine s_fa0 F rfl rfl rfl rfl fa_94_6_C1 rfl ?_; clear F a; intro a F
            refine s_sfL F M.f3 rfl rfl rfl sz_4_C1 rfl rfl rfl (by decide) (fun w M => (by repeat first | exact pend_none | refine pend_take (by exact cell_of_blk M.h4 (lit rfl)) ?_)) ?_; (clear M; try clear w); intro w M
            refine s_I F rfl rfl rfl rfl rfl rfl ?_; clear F a; intro a F
            refine s_fa0 F rfl rfl rfl rfl fa_94_7_C1 rfl ?_; clear F a; intro a F
            refine s_sfL F M rfl rfl rfl sz_9_C1 rfl rfl rfl (by decide) (fun w M => (by repeat first | exact pend_none | refine pend_skip rfl ?_)) ?_; (clear M; try clear w); intro w M
            refine t_endM M ?_; (clear M; try clear w); intro w M
            refine wp_seq ?_
            replace F := F.keep [0, 1, 3, 4, 5, 6, 7] rfl
            refine wp_region_l [.ind, .ind] ([0, 1]) rfl ?_
            refine s_I F rfl rfl rfl rfl rfl rfl ?_; clear F a; intro a F
            refine s_I F rfl rfl rfl rfl rfl rfl ?_; clear F a; intro a F
            refine t_endM M ?_; (clear M; try clear w); intro w M
            refine wp_ret ?_
            refine ret1 F rfl rfl ?_
            -- end 10
            refine ⟨_, _, rfl, rfl, ?_⟩
            have M1 : Sep _ _ _ (mapR _ _ _ _ :: _) := M.f3; replace M := M1; clear M1
            have M1 : Sep _ _ _ (blk b _ :: _) := M.f1; replace M := M1; clear M1
            have M1 : Sep _ _ _ (slR _ _ _ _ _ :: _) := M.f2; replace M := M1; clear M1
            first
              | refine takeEnd hcnt M C W ?_ ?_ ?_ ?_ ?_
              | refine takeEnd hcnt M ((C.setTold true).setBody m.body) W ?_ ?_ ?_ ?_ ?_
            all_goals clear M F C ho
            · grind [rd]
            · grind [dn]
            · grind [dn]
            · grind [rd, out1, out2]
            · grind [rd, out1, out2, encM]
          ·
            clear F; intro hc23 F
            try rw [hc23] at F
            replace hc23 := of_decide_eq_false hc23
            refine wp_skip ?_
            refine wp_seq ?_
            replace F := F.keep [0, 1, 3, 4, 5, 6, 7] rfl
            refine wp_region_l [.ind, .ind] ([0, 1]) rfl ?_
            refine s_I F rfl rfl rfl rfl rfl rfl ?_; clear F a; intro a F
            refine s_I F rfl rfl rfl rfl rfl rfl ?_; clear F a; intro a F
            refine t_endM M ?_; (clear M; try clear w); intro w M
            refine wp_ret ?_
            refine ret1 F rfl rfl ?_
            -- end 11
            refine ⟨_, _, rfl, rfl, ?_⟩
            have M1 : Sep _ _ _ (mapR _ _ _ _ :: _) := M.f2; replace M := M1; clear M1
            have M1 : Sep _ _ _ (blk b _ :: _) := M.f3; replace M := M1; clear M1
            have M1 : Sep _ _ _ (slR _ _ _ _ _ :: _) := M.f2; replace M := M1; clear M1
            first
              | refine takeEnd hcnt M C W ?_ ?_ ?_ ?_ ?_
              | refine takeEnd hcnt M ((C.setTold true).setBody m.body) W ?_ ?_ ?_ ?_ ?_
            all_goals clear M F C ho
            · grind [rd]
            · grind [dn]
            · grind [dn]
            · grind [rd, out1, out2]
            · grind [rd, out1, out2, encM]
        ·
          clear F; intro hc24 F
          try rw [hc24] at F
          replace hc24 := nf hc24
          refine s_no F rfl rfl rfl rfl ?_; clear F a; intro a F
          refine s_no F rfl rfl rfl rfl ?_; clear F a; intro a F
          refine s_no F rfl rfl rfl rfl ?_; clear F a; intro a F
          refine s_no F rfl rfl rfl rfl ?_; clear F a; intro a F
          refine s_no F rfl rfl rfl rfl ?_; clear F a; intro a F
          refine s_no F rfl rfl rfl rfl ?_; clear F a; intro a F
          refine s_no F rfl rfl rfl rfl ?_; clear F a; intro a F
          refine s_I F rfl rfl rfl rfl rfl rfl ?_; clear F a; intro a F
          refine t_endM M ?_; (clear M; try clear w); intro w M
          refine c_f F rfl ?_
          refine wp_skip ?_
          refine wp_seq ?_
          replace F := F.keep [0, 1, 3, 4, 5, 6, 7] rfl
          refine wp_region_l [.ind, .ind] ([0, 1]) rfl ?_
          refine s_I F rfl rfl rfl rfl rfl rfl ?_; clear F a; intro a F
          refine s_I F rfl rfl rfl rfl rfl rfl ?_; clear F a; intro a F
          refine t_endM M ?_; (clear M; try clear w); intro w M
          refine wp_ret ?_
          refine ret1 F rfl rfl ?_
          -- end 12
          refine ⟨_, _, rfl, rfl, ?_⟩
          have M1 : Sep _ _ _ (mapR _ _ _ _ :: _) := M.f2; replace M := M1; clear M1
          have M1 : Sep _ _ _ (blk b _ :: _) := M.f3; replace M := M1; clear M1
          have M1 : Sep _ _ _ (slR _ _ _ _ _ :: _) := M.f2; replace M := M1; clear M1
          first
            | refine takeEnd hcnt M C W ?_ ?_ ?_ ?_ ?_
            | refine takeEnd hcnt M ((C.setTold true).setBody m.body) W ?_ ?_ ?_ ?_ ?_
          all_goals clear M F C ho
          · grind [rd]
          · grind [dn]
          · grind [dn]
          · grind [rd, out1, out2]
          · grind [rd, out1, out2, encM]
    ·
      clear F; intro hc25 F
      try rw [hc25] at F
      replace hc25 := of_decide_eq_false hc25
      refine wp_skip ?_
      refine wp_seq ?_
      replace F := F.keep [0, 1, 3, 4, 5] rfl
      refine wp_region_t [.ind, .ind, .ind, .rd, .ind, .rd, .ind, .rd, .ind, .ind, .ind, .rd, .ind, .rd, .ind, .rd, .ind, .ind] [] (otOf [0, 1, 2, 3, 4, 5, 6, 7, 8, 9, 10, 11, 12, 13, 14, 15, 16, 17]) mixed (by kernel_rfl) ?_
      refine s_I F rfl rfl rfl rfl rfl rfl ?_; clear F a; intro a F
      refine s_I F rfl rfl rfl rfl rfl rfl ?_; clear F a; intro a F
      refine s_fa0 F rfl rfl rfl rfl fa_94_4_C1 rfl ?_; clear F a; intro a F
      refine s_ld F rfl rfl rfl rfl sc_90_C1 rfl (by exact cell_of_blk M.h2 (gf (C.at_ rfl) (by decide))) ?_; clear F a; intro a F
      refine s_fa0 F rfl rfl rfl rfl fa_38_2_C1 rfl ?_; clear F a; intro a F
      refine s_ld F rfl rfl rfl rfl sc_9_C1 rfl (by exact cell_of_blk M.h3 (lit rfl)) ?_; clear F a; intro a F
      refine s_bld F rfl rfl rfl rfl (parts2 F rfl rfl) (bl_98_0_1_C1 _ _) ?_; clear F a; intro a F
      refine s_lk keV (2, m.body) F rfl rfl rfl rfl mp_90_C1 zr_3_C1 rfl rfl (by exact M.h1) ?_; clear F a; intro a F; rw [voiceD_get] at F; dsimp only at F
      refine s_I F rfl rfl rfl rfl rfl rfl ?_; clear F a; intro a F
      refine s_I F rfl rfl rfl rfl rfl rfl ?_; clear F a; intro a F
      refine s_fa0 F rfl rfl rfl rfl fa_94_4_C1 rfl ?_; clear F a; intro a F
      refine s_ld F rfl rfl rfl rfl sc_90_C1 rfl (by exact cell_of_blk M.h2 (gf (C.at_ rfl) (by decide))) ?_; clear F a; intro a F
      refine s_fa0 F rfl rfl rfl rfl fa_38_2_C1 rfl ?_; clear F a; intro a F
      refine s_ld F rfl rfl rfl rfl sc_9_C1 rfl (by exact cell_of_blk M.h3 (lit rfl)) ?_; clear F a; intro a F
      refine s_bld F rfl rfl rfl rfl (parts2 F rfl rfl) (bl_98_0_1_C1 _ _) ?_; clear F a; intro a F
      refine s_lk keV (3, m.body) F rfl rfl rfl rfl mp_90_C1 zr_3_C1 rfl rfl (by exact M.h1) ?_; clear F a; intro a F; rw [voiceD_get] at F; dsimp only at F
      refine s_I F rfl rfl rfl rfl rfl rfl ?_; clear F a; intro a F
      refine s_I F rfl rfl rfl rfl rfl rfl ?_; clear F a; intro a F
      refine t_endM M ?_; (clear M; try clear w); intro w M
      refine wp_seq ?_
      refine wp_seq ?_
      replace F := F.keep [0, 1, 3, 4, 5, 6, 7] rfl
      refine wp_region_t [.ind, .ind, .ind, .rd, .ind, .ind, .ind, .ind, .ind, .ind, .rd, .ind, .ind, .ind, .rd, .wr, .ind, .ind, .ind, .ind, .ind, .ind, .rd, .ind, .ind, .ind] [] (otOf [0, 1, 2, 3, 4, 5, 6, 7, 8, 9, 10, 11, 12, 13, 14, 15, 16, 17, 18, 19, 20, 21, 22, 23, 24, 25]) mixed (by kernel_rfl) ?_
      refine s_I F rfl rfl rfl rfl rfl rfl ?_; clear F a; intro a F
      refine s_I F rfl rfl rfl rfl rfl rfl ?_; clear F a; intro a F
      refine s_fa0 F rfl rfl rfl rfl fa_94_5_C1 rfl ?_; clear F a; intro a F
      refine s_ld F rfl rfl rfl rfl sc_4_C1 rfl (by exact cell_of_blk M.h2 (gf (C.at_ rfl) (by decide))) ?_; clear F a; intro a F
      refine s_I F rfl rfl rfl rfl rfl rfl ?_; clear F a; intro a F
      refine s_I F rfl rfl rfl rfl rfl rfl ?_; clear F a; intro a F
      refine bsplit F 68 rfl ?_ ?_
      ·
        clear F; intro hc26 F
        try rw [hc26] at F
        replace hc26 := nt hc26
        refine s_I F rfl rfl rfl rfl rfl rfl ?_; clear F a; intro a F
        refine s_I F rfl rfl rfl rfl rfl rfl ?_; clear F a; intro a F
        refine s_I F rfl rfl rfl rfl rfl rfl ?_; clear F a; intro a F
        refine s_fa0 F rfl rfl rfl rfl fa_94_0_C1 rfl ?_; clear F a; intro a F
        refine s_ld F rfl rfl rfl rfl sc_3_C1 rfl (by exact cell_of_blk M.h2 (gf (C.at_ rfl) (by decide))) ?_; clear F a; intro a F
        refine s_I F rfl rfl rfl rfl rfl rfl ?_; clear F a; intro a F
        refine s_I F rfl rfl rfl rfl rfl rfl ?_; clear F a; intro a F
        refine s_fa0 F rfl rfl rfl rfl fa_94_1_C1 rfl ?_; clear F a; intro a F
        refine s_ld F rfl rfl rfl rfl sc_3_C1 rfl (by exact cell_of_blk M.h2 (gf (C.at_ rfl) (by decide))) ?_; clear F a; intro a F
        refine s_cq F M rfl rfl rfl rfl rfl (rfl : _ = some [_, _]) cb_12_C1 (fun n => c12 _ _ _) ?_; (clear F a M; try clear w); rintro v w rfl M a F
        refine s_bin F rfl rfl rfl rfl rfl rfl rfl ?_; clear F a; intro a F
        refine s_I F rfl rfl rfl rfl rfl rfl ?_; clear F a; intro a F
        refine bsplit F 80 rfl ?_ ?_
        ·
          clear F; intro hc27 F
          try rw [hc27] at F
          replace hc27 := of_decide_eq_true hc27
          refine s_no F rfl rfl rfl rfl ?_; clear F a; intro a F
          refine s_no F rfl rfl rfl rfl ?_; clear F a; intro a F
          refine s_no F rfl rfl rfl rfl ?_; clear F a; intro a F
          refine s_no F rfl rfl rfl rfl ?_; clear F a; intro a F
          refine s_no F rfl rfl rfl rfl ?_; clear F a; intro a F
          refine s_no F rfl rfl rfl rfl ?_; clear F a; intro a F
          refine s_I F rfl rfl rfl rfl rfl rfl ?_; clear F a; intro a F
          refine s_I F rfl rfl rfl rfl rfl rfl ?_; clear F a; intro a F
          refine t_endM M ?_; (clear M; try clear w); intro w M
          refine c_t F rfl ?_
          refine wp_seq ?_
          replace F := F.keep [0, 1, 3, 4, 5, 6, 7] rfl
          refine wp_region_l [.ind, .ind, .ind, .wr] ([0, 1, 2, 3]) rfl ?_
          refine s_I F rfl rfl rfl rfl rfl rfl ?_; clear F a; intro a F
          refine s_I F rfl rfl rfl rfl rfl rfl ?_; clear F a; intro a F
          refine s_fa0 F rfl rfl rfl rfl fa_94_5_C1 rfl ?_; clear F a; intro a F
          refine s_sf F M.f2 rfl rfl rfl sz_4_C1 rfl rfl rfl (by decide) ?_; (clear M; try clear w); intro w M
          refine t_endM M ?_; (clear M; try clear w); intro w M
          replace C := C.setReady true
          replace F := F.keep [0, 1, 3, 4, 5, 6, 7] rfl
          refine wp_region_l [.ind, .ind, .rd, .ind, .wr, .wr, .ind] ([0, 1, 2, 3, 4, 5, 6]) rfl ?_
          refine s_I F rfl rfl rfl rfl rfl rfl ?_; clear F a; intro a F
          refine s_fa0 F rfl rfl rfl rfl fa_38_2_C1 rfl ?_; clear F a; intro a F
          refine s_ld F rfl rfl rfl rfl sc_9_C1 rfl (by exact cell_of_blk M.h3 (lit rfl)) ?_; clear F a; intro a F
          refine s_bld F rfl rfl rfl rfl (parts2 F rfl rfl) (bl_38_0_2_C1 _ _) ?_; clear F a; intro a F
          refine s_bs F M rfl rfl rfl rfl (parts1 F rfl) (bs_27_1_C1 _ _ _) ?_; (clear F a M; try clear w); intro b96 w M a F
          refine s_ap F M.f2 rfl rfl rfl rfl tl_27_C1 rfl rfl (by exact rd_blk M.h0 rfl) rfl (by decide) ?_; (clear F a M; try clear w); intro A97 c97 w M a F
          refine s_I F rfl rfl rfl rfl rfl rfl ?_; clear F a; intro a F
          refine t_endM M ?_; (clear M; try clear w); intro w M
          refine wp_seq ?_
          refine wp_seq ?_
          replace F := F.keep [0, 1, 3, 4, 5, 6, 7] rfl
          refine wp_region_l [.ind, .ind, .ind, .rd, .ind, .ind, .ind, .ind, .ind, .ind, .rd, .ind, .ind, .ind] ([0, 1, 2, 3, 4, 5, 6, 7, 8, 9, 10, 11, 12, 13]) rfl ?_
          refine s_I F rfl rfl rfl rfl rfl rfl ?_; clear F a; intro a F
          refine s_I F rfl rfl rfl rfl rfl rfl ?_; clear F a; intro a F
          refine s_fa0 F rfl rfl rfl rfl fa_94_6_C1 rfl ?_; clear F a; intro a F
          refine s_ld F rfl rfl rfl rfl sc_4_C1 rfl (by exact cell_of_blk M.h2 (gf (C.at_ rfl) (by decide))) ?_; clear F a; intro a F
          refine s_I F rfl rfl rfl rfl rfl rfl ?_; clear F a; intro a F
          refine s_I F rfl rfl rfl rfl rfl rfl ?_; clear F a; intro a F
          refine bsplit F 103 rfl ?_ ?_
          ·
            clear F; intro hc28 F
            try rw [hc28] at F
            replace hc28 := nt hc28
            refine s_I F rfl rfl rfl rfl rfl rfl ?_; clear F a; intro a F
            refine s_I F rfl rfl rfl rfl rfl rfl ?_; clear F a; intro a F
            refine s_I F rfl rfl rfl rfl rfl rfl ?_; clear F a; intro a F
            refine s_fa0 F rfl rfl rfl rfl fa_94_1_C1 rfl ?_; clear F a; intro a F
            refine s_ld F rfl rfl rfl rfl sc_3_C1 rfl (by exact cell_of_blk M.h2 (gf (C.at_ rfl) (by decide))) ?_; clear F a; intro a F
            refine s_mul F rfl rfl rfl rfl rfl rfl (by unfold In64; omega) ?_; clear F a; intro a F
            refine s_bin F rfl rfl rfl rfl rfl rfl rfl ?_; clear F a; intro a F
            refine s_I F rfl rfl rfl rfl rfl rfl ?_; clear F a; intro a F
            refine t_endM M ?_; (clear M; try clear w); intro w M
            refine c_if F rfl ?_ ?_
            ·
              clear F; intro hc29 F
              try rw [hc29] at F
              replace hc29 := of_decide_eq_true hc29
              replace F := F.keep [0, 1, 3, 4, 5, 6, 7] rfl
              refine wp_region_t [.ind, .ind, .ind, .rd, .ind, .ind, .wr, .ind, .ind, .wr] [(3, 6)] (otOf [0, 1, 2, 3, 4, 5, 6, 7, 8, 9]) mixed (by kernel_rfl) ?_
              refine s_I F rfl rfl rfl rfl rfl rfl ?_; clear F a; intro a F
              refine s_I F rfl rfl rfl rfl rfl rfl ?_; clear F a; intro a F
              refine s_fa0 F rfl rfl rfl rfl fa_38_2_C1 rfl ?_; clear F a; intro a F
              refine s_ldL F rfl rfl rfl rfl sc_9_C1 rfl (by exact cell_of_blk M.h4 (lit rfl)) ?_; clear F a; intro a F
              refine s_I F rfl rfl rfl rfl rfl rfl ?_; clear F a; intro a F
              refine s_fa0 F rfl rfl rfl rfl fa_94_6_C1 rfl ?_; clear F a; intro a F
              refine s_sfL F M.f2 rfl rfl rfl sz_4_C1 rfl rfl rfl (by decide) (fun w M => (by repeat first | exact pend_none | refine pend_take (by exact cell_of_blk M.h4 (lit rfl)) ?_)) ?_; (clear M; try clear w); intro w M
              refine s_I F rfl rfl rfl rfl rfl rfl ?_; clear F a; intro a F
              refine s_fa0 F rfl rfl rfl rfl fa_94_7_C1 rfl ?_; clear F a; intro a F
              refine s_sfL F M rfl rfl rfl sz_9_C1 rfl rfl rfl (by decide) (fun w M => (by repeat first | exact pend_none | refine pend_skip rfl ?_)) ?_; (clear M; try clear w); intro w M
              refine t_endM M ?_; (clear M; try clear w); intro w M
              refine wp_seq ?_
              replace F := F.keep [0, 1, 3, 4, 5, 6, 7] rfl
              refine wp_region_l [.ind, .ind] ([0, 1]) rfl ?_
              refine s_I F rfl rfl rfl rfl rfl rfl ?_; clear F a; intro a F
              refine s_I F rfl rfl rfl rfl rfl rfl ?_; clear F a; intro a F
              refine t_endM M ?_; (clear M; try clear w); intro w M
              refine wp_ret ?_
              refine ret1 F rfl rfl ?_
              -- end 13
              refine ⟨_, _, rfl, rfl, ?_⟩
              have M1 : Sep _ _ _ (mapR _ _ _ _ :: _) := M.f3; replace M := M1; clear M1
              have M1 : Sep _ _ _ (blk b _ :: _) := M.f1; replace M := M1; clear M1
              have M1 : Sep _ _ _ (slR _ _ _ _ _ :: _) := M.f2; replace M := M1; clear M1
              first
                | refine takeEnd hcnt M C W ?_ ?_ ?_ ?_ ?_
                | refine takeEnd hcnt M ((C.setTold true).setBody m.body) W ?_ ?_ ?_ ?_ ?_
              all_goals clear M F C ho
              · grind [rd]
              · grind [dn]
              · grind [dn]
              · grind [rd, out1, out2]
              · grind [rd, out1, out2, encM]
            ·
              clear F; intro hc30 F
              try rw [hc30] at F
              replace hc30 := of_decide_eq_false hc30
              refine wp_skip ?_
              refine wp_seq ?_
              replace F := F.keep [0, 1, 3, 4, 5, 6, 7] rfl
              refine wp_region_l [.ind, .ind] ([0, 1]) rfl ?_
              refine s_I F rfl rfl rfl rfl rfl rfl ?_; clear F a; intro a F
              refine s_I F rfl rfl rfl rfl rfl rfl ?_; clear F a; intro a F
              refine t_endM M ?_; (clear M; try clear w); intro w M
              refine wp_ret ?_
              refine ret1 F rfl rfl ?_
              -- end 14
              refine ⟨_, _, rfl, rfl, ?_⟩
              have M1 : Sep _ _ _ (mapR _ _ _ _ :: _) := M.f3; replace M := M1; clear M1
              have M1 : Sep _ _ _ (blk b _ :: _) := M.f3; replace M := M1; clear M1
              have M1 : Sep _ _ _ (slR _ _ _ _ _ :: _) := M.f2; replace M := M1; clear M1
              first
                | refine takeEnd hcnt M C W ?_ ?_ ?_ ?_ ?_
                | refine takeEnd hcnt M ((C.setTold true).setBody m.body) W ?_ ?_ ?_ ?_ ?_
              all_goals clear M F C ho
              · grind [rd]
              · grind [dn]
              · grind [dn]
              · grind [rd, out1, out2]
              · grind [rd, out1, out2, encM]
          ·
            clear F; intro hc31 F
            try rw [hc31] at F
            replace hc31 := nf hc31
            refine s_no F rfl rfl rfl rfl ?_; clear F a; intro a F
            refine s_no F rfl rfl rfl rfl ?_; clear F a; intro a F
            refine s_no F rfl rfl rfl rfl ?_; clear F a; intro a F
            refine s_no F rfl rfl rfl rfl ?_; clear F a; intro a F
            refine s_no F rfl rfl rfl rfl ?_; clear F a; intro a F
            refine s_no F rfl rfl rfl rfl ?_; clear F a; intro a F
            refine s_no F rfl rfl rfl rfl ?_; clear F a; intro a F
            refine s_I F rfl rfl rfl rfl rfl rfl ?_; clear F a; intro a F
            refine t_endM M ?_; (clear M; try clear w); intro w M
            refine c_f F rfl ?_
            refine wp_skip ?_
            refine wp_seq ?_
            replace F := F.keep [0, 1, 3, 4, 5, 6, 7] rfl
            refine wp_region_l [.ind, .ind] ([0, 1]) rfl ?_
            refine s_I F rfl rfl rfl rfl rfl rfl ?_; clear F a; intro a F
            refine s_I F rfl rfl rfl rfl rfl rfl ?_; clear F a; intro a F
            refine t_endM M ?_; (clear M; try clear w); intro w M
            refine wp_ret ?_
            refine ret1 F rfl rfl ?_
            -- end 15
            refine ⟨_, _, rfl, rfl, ?_⟩
            have M1 : Sep _ _ _ (mapR _ _ _ _ :: _) := M.f3; replace M := M1; clear M1
            have M1 : Sep _ _ _ (blk b _ :: _) := M.f3; replace M := M1; clear M1
            have M1 : Sep _ _ _ (slR _ _ _ _ _ :: _) := M.f2; replace M := M1; clear M1
            first
              | refine takeEnd hcnt M C W ?_ ?_ ?_ ?_ ?_
              | refine takeEnd hcnt M ((C.setTold true).setBody m.body) W ?_ ?_ ?_ ?_ ?_
            all_goals clear M F C ho
            · grind [rd]
            · grind [dn]
            · grind [dn]
            · grind [rd, out1, out2]
            · grind [rd, out1, out2, encM]
        ·
          clear F; intro hc32 F
          try rw [hc32] at F
          replace hc32 := of_decide_eq_false hc32
          refine s_I F rfl rfl rfl rfl rfl rfl ?_; clear F a; intro a F
          refine s_I F rfl rfl rfl rfl rfl rfl ?_; clear F a; intro a F
          refine s_I F rfl rfl rfl rfl rfl rfl ?_; clear F a; intro a F
          refine s_fa0 F rfl rfl rfl rfl fa_94_1_C1 rfl ?_; clear F a; intro a F
          refine s_ld F rfl rfl rfl rfl sc_3_C1 rfl (by exact cell_of_blk M.h2 (gf (C.at_ rfl) (by decide))) ?_; clear F a; intro a F
          refine s_bin F rfl rfl rfl rfl rfl rfl rfl ?_; clear F a; intro a F
          refine s_I F rfl rfl rfl rfl rfl rfl ?_; clear F a; intro a F
          refine s_I F rfl rfl rfl rfl rfl rfl ?_; clear F a; intro a F
          refine t_endM M ?_; (clear M; try clear w); intro w M
          refine c_if F rfl ?_ ?_
          ·
            clear F; intro hc33 F
            try rw [hc33] at F
            replace hc33 := of_decide_eq_true hc33
            refine wp_seq ?_
            replace F := F.keep [0, 1, 3, 4, 5, 6, 7] rfl
            refine wp_region_l [.ind, .ind, .ind, .wr] ([0, 1, 2, 3]) rfl ?_
            refine s_I F rfl rfl rfl rfl rfl rfl ?_; clear F a; intro a F
            refine s_I F rfl rfl rfl rfl rfl rfl ?_; clear F a; intro a F
            refine s_fa0 F rfl rfl rfl rfl fa_94_5_C1 rfl ?_; clear F a; intro a F
            refine s_sf F M.f2 rfl rfl rfl sz_4_C1 rfl rfl rfl (by decide) ?_; (clear M; try clear w); intro w M
            refine t_endM M ?_; (clear M; try clear w); intro w M
            replace C := C.setReady true
            replace F := F.keep [0, 1, 3, 4, 5, 6, 7] rfl
            refine wp_region_l [.ind, .ind, .rd, .ind, .wr, .wr, .ind] ([0, 1, 2, 3, 4, 5, 6]) rfl ?_
            refine s_I F rfl rfl rfl rfl rfl rfl ?_; clear F a; intro a F
            refine s_fa0 F rfl rfl rfl rfl fa_38_2_C1 rfl ?_; clear F a; intro a F
            refine s_ld F rfl rfl rfl rfl sc_9_C1 rfl (by exact cell_of_blk M.h3 (lit rfl)) ?_; clear F a; intro a F
            refine s_bld F rfl rfl rfl rfl (parts2 F rfl rfl) (bl_38_0_2_C1 _ _) ?_; clear F a; intro a F
            refine s_bs F M rfl rfl rfl rfl (parts1 F rfl) (bs_27_1_C1 _ _ _) ?_; (clear F a M; try clear w); intro b96 w M a F
            refine s_ap F M.f2 rfl rfl rfl rfl tl_27_C1 rfl rfl (by exact rd_blk M.h0 rfl) rfl (by decide) ?_; (clear F a M; try clear w); intro A97 c97 w M a F
            refine s_I F rfl rfl rfl rfl rfl rfl ?_; clear F a; intro a F
            refine t_endM M ?_; (clear M; try clear w); intro w M
            refine wp_seq ?_
            refine wp_seq ?_
            replace F := F.keep [0, 1, 3, 4, 5, 6, 7] rfl
            refine wp_region_l [.ind, .ind, .ind, .rd, .ind, .ind, .ind, .ind, .ind, .ind, .rd, .ind, .ind, .ind] ([0, 1, 2, 3, 4, 5, 6, 7, 8, 9, 10, 11, 12, 13]) rfl ?_
            refine s_I F rfl rfl rfl rfl rfl rfl ?_; clear F a; intro a F
            refine s_I F rfl rfl rfl rfl rfl rfl ?_; clear F a; intro a F
            refine s_fa0 F rfl rfl rfl rfl fa_94_6_C1 rfl ?_; clear F a; intro a F
            refine s_ld F rfl rfl rfl rfl sc_4_C1 rfl (by exact cell_of_blk M.h2 (gf (C.at_ rfl) (by decide))) ?_; clear F a; intro a F
            refine s_I F rfl rfl rfl rfl rfl rfl ?_; clear F a; intro a F
            refine s_I F rfl rfl rfl rfl rfl rfl ?_; clear F a; intro a F
            refine bsplit F 103 rfl ?_ ?_
            ·
              clear F; intro hc34 F
              try rw [hc34] at F
              replace hc34 := nt hc34
              refine s_I F rfl rfl rfl rfl rfl rfl ?_; clear F a; intro a F
              refine s_I F rfl rfl rfl rfl rfl rfl ?_; clear F a; intro a F
              refine s_I F rfl rfl rfl rfl rfl rfl ?_; clear F a; intro a F
              refine s_fa0 F rfl rfl rfl rfl fa_94_1_C1 rfl ?_; clear F a; intro a F
              refine s_ld F rfl rfl rfl rfl sc_3_C1 rfl (by exact cell_of_blk M.h2 (gf (C.at_ rfl) (by decide))) ?_; clear F a; intro a F
              refine s_mul F rfl rfl rfl rfl rfl rfl (by unfold In64; omega) ?_; clear F a; intro a F
              refine s_bin F rfl rfl rfl rfl rfl rfl rfl ?_; clear F a; intro a F
              refine s_I F rfl rfl rfl rfl rfl rfl ?_; clear F a; intro a F
              refine t_endM M ?_; (clear M; try clear w); intro w M
              refine c_if F rfl ?_ ?_
              ·
                clear F; intro hc35 F
                try rw [hc35] at F
                replace hc35 := of_decide_eq_true hc35
                replace F := F.keep [0, 1, 3, 4, 5, 6, 7] rfl
                refine wp_region_t [.ind, .ind, .ind, .rd, .ind, .ind, .wr, .ind, .ind, .wr] [(3, 6)] (otOf [0, 1, 2, 3, 4, 5, 6, 7, 8, 9]) mixed (by kernel_rfl) ?_
                refine s_I F rfl rfl rfl rfl rfl rfl ?_; clear F a; intro a F
                refine s_I F rfl rfl rfl rfl rfl rfl ?_; clear F a; intro a F
                refine s_fa0 F rfl rfl rfl rfl fa_38_2_C1 rfl ?_; clear F a; intro a F
                refine s_ldL F rfl rfl rfl rfl sc_9_C1 rfl (by exact cell_of_blk M.h4 (lit rfl)) ?_; clear F a; intro a F
                refine s_I F rfl rfl rfl rfl rfl rfl ?_; clear F a; intro a F
                refine s_fa0 F rfl rfl rfl rfl fa_94_6_C1 rfl ?_; clear F a; intro a F
                refine s_sfL F M.f2 rfl rfl rfl sz_4_C1 rfl rfl rfl (by decide) (fun w M => (by repeat first | exact pend_none | refine pend_take (by exact cell_of_blk M.h4 (lit rfl)) ?_)) ?_; (clear M; try clear w); intro w M
                refine s_I F rfl rfl rfl rfl rfl rfl ?_; clear F a; intro a F
                refine s_fa0 F rfl rfl rfl rfl fa_94_7_C1 rfl ?_; clear F a; intro a F
                refine s_sfL F M rfl rfl rfl sz_9_C1 rfl rfl rfl (by decide) (fun w M => (by repeat first | exact pend_none | refine pend_skip rfl ?_)) ?_; (clear M; try clear w); intro w M
                refine t_endM M ?_; (clear M; try clear w); intro w M
                refine wp_seq ?_
                replace F := F.keep [0, 1, 3, 4, 5, 6, 7] rfl
                refine wp_region_l [.ind, .ind] ([0, 1]) rfl ?_
                refine s_I F rfl rfl rfl rfl rfl rfl ?_; clear F a; intro a F
                refine s_I F rfl rfl rfl rfl rfl rfl ?_; clear F a; intro a F
                refine t_endM M ?_; (clear M; try clear w); intro w M
                refine wp_ret ?_
                refine ret1 F rfl rfl ?_
                -- end 16
                refine ⟨_, _, rfl, rfl, ?_⟩
                have M1 : Sep _ _ _ (mapR _ _ _ _ :: _) := M.f3; replace M := M1; clear M1
                have M1 : Sep _ _ _ (blk b _ :: _) := M.f1; replace M := M1; clear M1
                have M1 : Sep _ _ _ (slR _ _ _ _ _ :: _) := M.f2; replace M := M1; clear M1
                first
                  | refine takeEnd hcnt M C W ?_ ?_ ?_ ?_ ?_
                  | refine takeEnd hcnt M ((C.setTold true).setBody m.body) W ?_ ?_ ?_ ?_ ?_
                all_goals clear M F C ho
                · grind [rd]
                · grind [dn]
                · grind [dn]
                · grind [rd, out1, out2]
                · grind [rd, out1, out2, encM]
              ·
                clear F; intro hc36 F
                try rw [hc36] at F
                replace hc36 := of_decide_eq_false hc36
                refine wp_skip ?_
                refine wp_seq ?_
                replace F := F.keep [0, 1, 3, 4, 5, 6, 7] rfl
                refine wp_region_l [.ind, .ind] ([0, 1]) rfl ?_
                refine s_I F rfl rfl rfl rfl rfl rfl ?_; clear F a; intro a F
                refine s_I F rfl rfl rfl rfl rfl rfl ?_; clear F a; intro a F
                refine t_endM M ?_; (clear M; try clear w); intro w M
                refine wp_ret ?_
                refine ret1 F rfl rfl ?_
                -- end 17
                refine ⟨_, _, rfl, rfl, ?_⟩
                have M1 : Sep _ _ _ (mapR _ _ _ _ :: _) := M.f3; replace M := M1; clear M1
                have M1 : Sep _ _ _ (blk b _ :: _) := M.f3; replace M := M1; clear M1
                have M1 : Sep _ _ _ (slR _ _ _ _ _ :: _) := M.f2; replace M := M1; clear M1
                first
                  | refine takeEnd hcnt M C W ?_ ?_ ?_ ?_ ?_
                  | refine takeEnd hcnt M ((C.setTold true).setBody m.body) W ?_ ?_ ?_ ?_ ?_
                all_goals clear M F C ho
                · grind [rd]
                · grind [dn]
                · grind [dn]
                · grind [rd, out1, out2]
                · grind [rd, out1, out2, encM]
            ·
              clear F; intro hc37 F
              try rw [hc37] at F
              replace hc37 := nf hc37
              refine s_no F rfl rfl rfl rfl ?_; clear F a; intro a F
              refine s_no F rfl rfl rfl rfl ?_; clear F a; intro a F
              refine s_no F rfl rfl rfl rfl ?_; clear F a; intro a F
              refine s_no F rfl rfl rfl rfl ?_; clear F a; intro a F
              refine s_no F rfl rfl rfl rfl ?_; clear F a; intro a F
              refine s_no F rfl rfl rfl rfl ?_; clear F a; intro a F
              refine s_no F rfl rfl rfl rfl ?_; clear F a; intro a F
              refine s_I F rfl rfl rfl rfl rfl rfl ?_; clear F a; intro a F
              refine t_endM M ?_; (clear M; try clear w); intro w M
              refine c_f F rfl ?_
              refine wp_skip ?_
              refine wp_seq ?_
              replace F := F.keep [0, 1, 3, 4, 5, 6, 7] rfl
              refine wp_region_l [.ind, .ind] ([0, 1]) rfl ?_
              refine s_I F rfl rfl rfl rfl rfl rfl ?_; clear F a; intro a F
              refine s_I F rfl rfl rfl rfl rfl rfl ?_; clear F a; intro a F
              refine t_endM M ?_; (clear M; try clear w); intro w M
              refine wp_ret ?_
              refine ret1 F rfl rfl ?_
              -- end 18
              refine ⟨_, _, rfl, rfl, ?_⟩
              have M1 : Sep _ _ _ (mapR _ _ _ _ :: _) := M.f3; replace M := M1; clear M1
              have M1 : Sep _ _ _ (blk b _ :: _) := M.f3; replace M := M1; clear M1
              have M1 : Sep _ _ _ (slR _ _ _ _ _ :: _) := M.f2; replace M := M1; clear M1
              first
                | refine takeEnd hcnt M C W ?_ ?_ ?_ ?_ ?_
                | refine takeEnd hcnt M ((C.setTold true).setBody m.body) W ?_ ?_ ?_ ?_ ?_
              all_goals clear M F C ho
              · grind [rd]
              · grind [dn]
              · grind [dn]
              · grind [rd, out1, out2]
              · grind [rd, out1, out2, encM]
          ·
            clear F; intro hc38 F
            try rw [hc38] at F
            replace hc38 := of_decide_eq_false hc38
            refine wp_skip ?_
            refine wp_seq ?_
            refine wp_seq ?_
            replace F := F.keep [0, 1, 3, 4, 5, 6, 7] rfl
            refine wp_region_l [.ind, .ind, .ind, .rd, .ind, .ind, .ind, .ind, .ind, .ind, .rd, .ind, .ind, .ind] ([0, 1, 2, 3, 4, 5, 6, 7, 8, 9, 10, 11, 12, 13]) rfl ?_
            refine s_I F rfl rfl rfl rfl rfl rfl ?_; clear F a; intro a F
            refine s_I F rfl rfl rfl rfl rfl rfl ?_; clear F a; intro a F
            refine s_fa0 F rfl rfl rfl rfl fa_94_6_C1 rfl ?_; clear F a; intro a F
            refine s_ld F rfl rfl rfl rfl sc_4_C1 rfl (by exact cell_of_blk M.h2 (gf (C.at_ rfl) (by decide))) ?_; clear F a; intro a F
            refine s_I F rfl rfl rfl rfl rfl rfl ?_; clear F a; intro a F
            refine s_I F rfl rfl rfl rfl rfl rfl ?_; clear F a; intro a F
            refine bsplit F 103 rfl ?_ ?_
            ·
              clear F; intro hc39 F
              try rw [hc39] at F
              replace hc39 := nt hc39
              refine s_I F rfl rfl rfl rfl rfl rfl ?_; clear F a; intro a F
              refine s_I F rfl rfl rfl rfl rfl rfl ?_; clear F a; intro a F
              refine s_I F rfl rfl rfl rfl rfl rfl ?_; clear F a; intro a F
              refine s_fa0 F rfl rfl rfl rfl fa_94_1_C1 rfl ?_; clear F a; intro a F
              refine s_ld F rfl rfl rfl rfl sc_3_C1 rfl (by exact cell_of_blk M.h2 (gf (C.at_ rfl) (by decide))) ?_; clear F a; intro a F
              refine s_mul F rfl rfl rfl rfl rfl rfl (by unfold In64; omega) ?_; clear F a; intro a F
              refine s_bin F rfl rfl rfl rfl rfl rfl rfl ?_; clear F a; intro a F
              refine s_I F rfl rfl rfl rfl rfl rfl ?_; clear F a; intro a F
              refine t_endM M ?_; (clear M; try clear w); intro w M
              refine c_if F rfl ?_ ?_
              ·
                clear F; intro hc40 F
                try rw [hc40] at F
                replace hc40 := of_decide_eq_true hc40
                replace F := F.keep [0, 1, 3, 4, 5, 6, 7] rfl
                refine wp_region_t [.ind, .ind, .ind, .rd, .ind, .ind, .wr, .ind, .ind, .wr] [(3, 6)] (otOf [0, 1, 2, 3, 4, 5, 6, 7, 8, 9]) mixed (by kernel_rfl) ?_
                refine s_I F rfl rfl rfl rfl rfl rfl ?_; clear F a; intro a F
                refine s_I F rfl rfl rfl rfl rfl rfl ?_; clear F a; intro a F
                refine s_fa0 F rfl rfl rfl rfl fa_38_2_C1 rfl ?_; clear F a; intro a F
                refine s_ldL F rfl rfl rfl rfl sc_9_C1 rfl (by exact cell_of_blk M.h3 (lit rfl)) ?_; clear F a; intro a F
                refine s_I F rfl rfl rfl rfl rfl rfl ?_; clear F a; intro a F
                refine s_fa0 F rfl rfl rfl rfl fa_94_6_C1 rfl ?_; clear F a; intro a F
                refine s_sfL F M.f2 rfl rfl rfl sz_4_C1 rfl rfl rfl (by decide) (fun w M => (by repeat first | exact pend_none | refine pend_take (by exact cell_of_blk M.h3 (lit rfl)) ?_)) ?_; (clear M; try clear w); intro w M
                refine s_I F rfl rfl rfl rfl rfl rfl ?_; clear F a; intro a F
                refine s_fa0 F rfl rfl rfl rfl fa_94_7_C1 rfl ?_; clear F a; intro a F
                refine s_sfL F M rfl rfl rfl sz_9_C1 rfl rfl rfl (by decide) (fun w M => (by repeat first | exact pend_none | refine pend_skip rfl ?_)) ?_; (clear M; try clear w); intro w M
                refine t_endM M ?_; (clear M; try clear w); intro w M
                refine wp_seq ?_
                replace F := F.keep [0, 1, 3, 4, 5, 6, 7] rfl
                refine wp_region_l [.ind, .ind] ([0, 1]) rfl ?_
                refine s_I F rfl rfl rfl rfl rfl rfl ?_; clear F a; intro a F
                refine s_I F rfl rfl rfl rfl rfl rfl ?_; clear F a; intro a F
                refine t_endM M ?_; (clear M; try clear w); intro w M
                refine wp_ret ?_
                refine ret1 F rfl rfl ?_
                -- end 19
                refine ⟨_, _, rfl, rfl, ?_⟩
                have M1 : Sep _ _ _ (mapR _ _ _ _ :: _) := M.f2; replace M := M1; clear M1
                have M1 : Sep _ _ _ (blk b _ :: _) := M.f1; replace M := M1; clear M1
                have M1 : Sep _ _ _ (slR _ _ _ _ _ :: _) := M.f2; replace M := M1; clear M1
                first
                  | refine takeEnd hcnt M C W ?_ ?_ ?_ ?_ ?_
                  | refine takeEnd hcnt M ((C.setTold true).setBody m.body) W ?_ ?_ ?_ ?_ ?_
                all_goals clear M F C ho
                · grind [rd]
                · grind [dn]
                · grind [dn]
                · grind [rd, out1, out2]
                · grind [rd, out1, out2, encM]
              ·
                clear F; intro hc41 F
                try rw [hc41] at F
                replace hc41 := of_decide_eq_false hc41
                refine wp_skip ?_
                refine wp_seq ?_
                replace F := F.keep [0, 1, 3, 4, 5, 6, 7] rfl
                refine wp_region_l [.ind, .ind] ([0, 1]) rfl ?_
                refine s_I F rfl rfl rfl rfl rfl rfl ?_; clear F a; intro a F
                refine s_I F rfl rfl rfl rfl rfl rfl ?_; clear F a; intro a F
                refine t_endM M ?_; (clear M; try clear w); intro w M
                refine wp_ret ?_
                refine ret1 F rfl rfl ?_
                -- end 20
                refine ⟨_, _, rfl, rfl, ?_⟩
                have M1 : Sep _ _ _ (mapR _ _ _ _ :: _) := M.f1; replace M := M1; clear M1
                have M1 : Sep _ _ _ (blk b _ :: _) := M.f2; replace M := M1; clear M1
                have M1 : Sep _ _ _ (slR _ _ _ _ _ :: _) := M.f2; replace M := M1; clear M1
                first
                  | refine takeEnd hcnt M C W ?_ ?_ ?_ ?_ ?_
                  | refine takeEnd hcnt M ((C.setTold true).setBody m.body) W ?_ ?_ ?_ ?_ ?_
                all_goals clear M F C ho
                · grind [rd]
                · grind [dn]
                · grind [dn]
                · grind [rd, out1, out2]
                · grind [rd, out1, out2, encM]
            ·
              clear F; intro hc42 F
              try rw [hc42] at F
              replace hc42 := nf hc42
              refine s_no F rfl rfl rfl rfl ?_; clear F a; intro a F
              refine s_no F rfl rfl rfl rfl ?_; clear F a; intro a F
              refine s_no F rfl rfl rfl rfl ?_; clear F a; intro a F
              refine s_no F rfl rfl rfl rfl ?_; clear F a; intro a F
              refine s_no F rfl rfl rfl rfl ?_; clear F a; intro a F
              refine s_no F rfl rfl rfl rfl ?_; clear F a; intro a F
              refine s_no F rfl rfl rfl rfl ?_; clear F a; intro a F
              refine s_I F rfl rfl rfl rfl rfl rfl ?_; clear F a; intro a F
              refine t_endM M ?_; (clear M; try clear w); intro w M
              refine c_f F rfl ?_
              refine wp_skip ?_
              refine wp_seq ?_
              replace F := F.keep [0, 1, 3, 4, 5, 6, 7] rfl
              refine wp_region_l [.ind, .ind] ([0, 1]) rfl ?_
              refine s_I F rfl rfl rfl rfl rfl rfl ?_; clear F a; intro a F
              refine s_I F rfl rfl rfl rfl rfl rfl ?_; clear F a; intro a F
              refine t_endM M ?_; (clear M; try clear w); intro w M
              refine wp_ret ?_
              refine ret1 F rfl rfl ?_
              -- end 21
              refine ⟨_, _, rfl, rfl, ?_⟩
              have M1 : Sep _ _ _ (mapR _ _ _ _ :: _) := M.f1; replace M := M1; clear M1
              have M1 : Sep _ _ _ (blk b _ :: _) := M.f2; replace M := M1; clear M1
              have M1 : Sep _ _ _ (slR _ _ _ _ _ :: _) := M.f2; replace M := M1; clear M1
              first
                | refine takeEnd hcnt M C W ?_ ?_ ?_ ?_ ?_
                | refine takeEnd hcnt M ((C.setTold true).setBody m.body) W ?_ ?_ ?_ ?_ ?_
              all_goals clear M F C ho
              · grind [rd]
              · grind [dn]
              · grind [dn]
              · grind [rd, out1, out2]
              · grind [rd, out1, out2, encM]
      ·
        clear F; intro hc43 F
        try rw [hc43] at F
        replace hc43 := nf hc43
        refine s_no F rfl rfl rfl rfl ?_; clear F a; intro a F
        refine s_no F rfl rfl rfl rfl ?_; clear F a; intro a F
        refine s_no F rfl rfl rfl rfl ?_; clear F a; intro a F
        refine s_no F rfl rfl rfl rfl ?_; clear F a; intro a F
        refine s_no F rfl rfl rfl rfl ?_; clear F a; intro a F
        refine s_no F rfl rfl rfl rfl ?_; clear F a; intro a F
        refine s_no F rfl rfl rfl rfl ?_; clear F a; intro a F
        refine s_no F rfl rfl rfl rfl ?_; clear F a; intro a F
        refine s_no F rfl rfl rfl rfl ?_; clear F a; intro a F
        refine s_no F rfl rfl rfl rfl ?_; clear F a; intro a F
        refine s_no F rfl rfl rfl rfl ?_; clear F a; intro a F
        refine s_no F rfl rfl rfl rfl ?_; clear F a; intro a F
        refine s_no F rfl rfl rfl rfl ?_; clear F a; intro a F
        refine s_no F rfl rfl rfl rfl ?_; clear F a; intro a F
        refine s_no F rfl rfl rfl rfl ?_; clear F a; intro a F
        refine s_no F rfl rfl rfl rfl ?_; clear F a; intro a F
        refine s_no F rfl rfl rfl rfl ?_; clear F a; intro a F
        refine s_no F rfl rfl rfl rfl ?_; clear F a; intro a F
        refine s_no F rfl rfl rfl rfl ?_; clear F a; intro a F
        refine s_I F rfl rfl rfl rfl rfl rfl ?_; clear F a; intro a F
        refine t_endM M ?_; (clear M; try clear w); intro w M
        refine c_f F rfl ?_
        refine wp_skip ?_
        refine wp_seq ?_
        refine wp_seq ?_
        replace F := F.keep [0, 1, 3, 4, 5, 6, 7] rfl
        refine wp_region_l [.ind, .ind, .ind, .rd, .ind, .ind, .ind, .ind, .ind, .ind, .rd, .ind, .ind, .ind] ([0, 1, 2, 3, 4, 5, 6, 7, 8, 9, 10, 11, 12, 13]) rfl ?_
        refine s_I F rfl rfl rfl rfl rfl rfl ?_; clear F a; intro a F
        refine s_I F rfl rfl rfl rfl rfl rfl ?_; clear F a; intro a F
        refine s_fa0 F rfl rfl rfl rfl fa_94_6_C1 rfl ?_; clear F a; intro a F
        refine s_ld F rfl rfl rfl rfl sc_4_C1 rfl (by exact cell_of_blk M.h2 (gf (C.at_ rfl) (by decide))) ?_; clear F a; intro a F
        refine s_I F rfl rfl rfl rfl rfl rfl ?_; clear F a; intro a F
        refine s_I F rfl rfl rfl rfl rfl rfl ?_; clear F a; intro a F
        refine bsplit F 103 rfl ?_ ?_
        ·
          clear F; intro hc44 F
          try rw [hc44] at F
          replace hc44 := nt hc44
          refine s_I F rfl rfl rfl rfl rfl rfl ?_; clear F a; intro a F
          refine s_I F rfl rfl rfl rfl rfl rfl ?_; clear F a; intro a F
          refine s_I F rfl rfl rfl rfl rfl rfl ?_; clear F a; intro a F
          refine s_fa0 F rfl rfl rfl rfl fa_94_1_C1 rfl ?_; clear F a; intro a F
          refine s_ld F rfl rfl rfl rfl sc_3_C1 rfl (by exact cell_of_blk M.h2 (gf (C.at_ rfl) (by decide))) ?_; clear F a; intro a F
          refine s_mul F rfl rfl rfl rfl rfl rfl (by unfold In64; omega) ?_; clear F a; intro a F
          refine s_bin F rfl rfl rfl rfl rfl rfl rfl ?_; clear F a; intro a F
          refine s_I F rfl rfl rfl rfl rfl rfl ?_; clear F a; intro a F
          refine t_endM M ?_; (clear M; try clear w); intro w M
          refine c_if F rfl ?_ ?_
          ·
            clear F; intro hc45 F
            try rw [hc45] at F
            replace hc45 := of_decide_eq_true hc45
            replace F := F.keep [0, 1, 3, 4, 5, 6, 7] rfl
            refine wp_region_t [.ind, .ind, .ind, .rd, .ind, .ind, .wr, .ind, .ind, .wr] [(3, 6)] (otOf [0, 1, 2, 3, 4, 5, 6, 7, 8, 9]) mixed (by kernel_rfl) ?_
            refine s_I F rfl rfl rfl rfl rfl rfl ?_; clear F a; intro a F
            refine s_I F rfl rfl rfl rfl rfl rfl ?_; clear F a; intro a F
            refine s_fa0 F rfl rfl rfl rfl fa_38_2_C1 rfl ?_; clear F a; intro a F
            refine s_ldL F rfl rfl rfl rfl sc_9_C1 rfl (by exact cell_of_blk M.h3 (lit rfl)) ?_; clear F a; intro a F
            refine s_I F rfl rfl rfl rfl rfl rfl ?_; clear F a; intro a F
            refine s_fa0 F rfl rfl rfl rfl fa_94_6_C1 rfl ?_; clear F a; intro a F
            refine s_sfL F M.f2 rfl rfl rfl sz_4_C1 rfl rfl rfl (by decide) (fun w M => (by repeat first | exact pend_none | refine pend_take (by exact cell_of_blk M.h3 (lit rfl)) ?_)) ?_; (clear M; try clear w); intro w M
            refine s_I F rfl rfl rfl rfl rfl rfl ?_; clear F a; intro a F
            refine s_fa0 F rfl rfl rfl rfl fa_94_7_C1 rfl ?_; clear F a; intro a F
            refine s_sfL F M rfl rfl rfl sz_9_C1 rfl rfl rfl (by decide) (fun w M => (by repeat first | exact pend_none | refine pend_skip rfl ?_)) ?_; (clear M; try clear w); intro w M
            refine t_endM M ?_; (clear M; try clear w); intro w M
            refine wp_seq ?_
            replace F := F.keep [0, 1, 3, 4, 5, 6, 7] rfl
            refine wp_region_l [.ind, .ind] ([0, 1]) rfl ?_
            refine s_I F rfl rfl rfl rfl rfl rfl ?_; clear F a; intro a F
            refine s_I F rfl rfl rfl rfl rfl rfl ?_; clear F a; intro a F
            refine t_endM M ?_; (clear M; try clear w); intro w M
            refine wp_ret ?_
            refine ret1 F rfl rfl ?_
            -- end 22
            refine ⟨_, _, rfl, rfl, ?_⟩
            have M1 : Sep _ _ _ (mapR _ _ _ _ :: _) := M.f2; replace M := M1; clear M1
            have M1 : Sep _ _ _ (blk b _ :: _) := M.f1; replace M := M1; clear M1
            have M1 : Sep _ _ _ (slR _ _ _ _ _ :: _) := M.f2; replace M := M1; clear M1
            first
              | refine takeEnd hcnt M C W ?_ ?_ ?_ ?_ ?_
              | refine takeEnd hcnt M ((C.setTold true).setBody m.body) W ?_ ?_ ?_ ?_ ?_
            all_goals clear M F C ho
            · grind [rd]
            · grind [dn]
            · grind [dn]
            · grind [rd, out1, out2]
            · grind [rd, out1, out2, encM]
          ·
            clear F; intro hc46 F
            try rw [hc46] at F
            replace hc46 := of_decide_eq_false hc46
            refine wp_skip ?_
            refine wp_seq ?_
            replace F := F.keep [0, 1, 3, 4, 5, 6, 7] rfl
            refine wp_region_l [.ind, .ind] ([0, 1]) rfl ?_
            refine s_I F rfl rfl rfl rfl rfl rfl ?_; clear F a; intro a F
            refine s_I F rfl rfl rfl rfl rfl rfl ?_; clear F a; intro a F
            refine t_endM M ?_; (clear M; try clear w); intro w M
            refine wp_ret ?_
            refine ret1 F rfl rfl ?_
            -- end 23
            refine ⟨_, _, rfl, rfl, ?_⟩
            have M1 : Sep _ _ _ (mapR _ _ _ _ :: _) := M.f1; replace M := M1; clear M1
            have M1 : Sep _ _ _ (blk b _ :: _) := M.f2; replace M := M1; clear M1
            have M1 : Sep _ _ _ (slR _ _ _ _ _ :: _) := M.f2; replace M := M1; clear M1
            first
              | refine takeEnd hcnt M C W ?_ ?_ ?_ ?_ ?_
              | refine takeEnd hcnt M ((C.setTold true).setBody m.body) W ?_ ?_ ?_ ?_ ?_
            all_goals clear M F C ho
            · grind [rd]
            · grind [dn]
            · grind [dn]
            · grind [rd, out1, out2]
            · grind [rd, out1, out2, encM]
        ·
          clear F; intro hc47 F
          try rw [hc47] at F
          replace hc47 := nf hc47
          refine s_no F rfl rfl rfl rfl ?_; clear F a; intro a F
          refine s_no F rfl rfl rfl rfl ?_; clear F a; intro a F
          refine s_no F rfl rfl rfl rfl ?_; clear F a; intro a F
          refine s_no F rfl rfl rfl rfl ?_; clear F a; intro a F
          refine s_no F rfl rfl rfl rfl ?_; clear F a; intro a F
          refine s_no F rfl rfl rfl rfl ?_; clear F a; intro a F
          refine s_no F rfl rfl rfl rfl ?_; clear F a; intro a F
          refine s_I F rfl rfl rfl rfl rfl rfl ?_; clear F a; intro a F
          refine t_endM M ?_; (clear M; try clear w); intro w M
          refine c_f F rfl ?_
          refine wp_skip ?_
          refine wp_seq ?_
          replace F := F.keep [0, 1, 3, 4, 5, 6, 7] rfl
          refine wp_region_l [.ind, .ind] ([0, 1]) rfl ?_
          refine s_I F rfl rfl rfl rfl rfl rfl ?_; clear F a; intro a F
          refine s_I F rfl rfl rfl rfl rfl rfl ?_; clear F a; intro a F
          refine t_endM M ?_; (clear M; try clear w); intro w M
          refine wp_ret ?_
          refine ret1 F rfl rfl ?_
          -- end 24
          refine ⟨_, _, rfl, rfl, ?_⟩
          have M1 : Sep _ _ _ (mapR _ _ _ _ :: _) := M.f1; replace M := M1; clear M1
          have M1 : Sep _ _ _ (blk b _ :: _) := M.f2; replace M := M1; clear M1
          have M1 : Sep _ _ _ (slR _ _ _ _ _ :: _) := M.f2; replace M := M1; clear M1
          first
            | refine takeEnd hcnt M C W ?_ ?_ ?_ ?_ ?_
            | refine takeEnd hcnt M ((C.setTold true).setBody m.body) W ?_ ?_ ?_ ?_ ?_
          all_goals clear M F C ho
          · grind [rd]
          · grind [dn]
          · grind [dn]
          · grind [rd, out1, out2]
          · grind [rd, out1, out2, encM]
end Go.Proofs.Ytibomfgeemhogaa
