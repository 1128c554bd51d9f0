/- K9 of the seat. -/
import Derived.Test.YtibomfgeemhogaaK8
namespace Go.Proofs.Ytibomfgeemhogaa
open Go Fw
theorem bl_38_0_1_2_K9 : ∀ (x0 : Int) (x1 : Int) (x2 : ByteArray), ∀ w : World, (Instr.build 38 #[(0, .int .i64 x0), (1, .int .i64 x1), (2, .string x2)]).run Try.prog w = .ok (.agg #[.int .i64 x0, .int .i64 x1, .string x2]) w := by intros; kernel_rfl
theorem bl_70_0_1_2_K9 : ∀ (x0 : Int) (x1 : Int) (x2_0 : Int) (x2_1 : Int) (x2_2 : ByteArray), ∀ w : World, (Instr.build 70 #[(0, .int .i64 x0), (1, .int .i64 x1), (2, .agg #[.int .i64 x2_0, .int .i64 x2_1, .string x2_2])]).run Try.prog w = .ok (.agg #[.int .i64 x0, .int .i64 x1, .int .i64 x2_0, .int .i64 x2_1, .string x2_2]) w := by intros; kernel_rfl
theorem cb_29_K9 : callB Try.prog 29 = true := by kernel_rfl
open CastM CasM

theorem c27 (h : Rg) (K : KSt) (W : K.Wf) (hT : ∀ i, (K.T i).length + K.ks.length ≤ 900) (q : Wd) (hs : q.seq < 9223372036854775808) (hs0 : -9223372036854775808 ≤ q.seq) (w0 : World) (ho : Own w0.heap [rR h K]) :
    Cl Try.prog 27 #[refK K h, wdV q] w0 (RetS [rR h K] w0 (fun v (x : Rg × AC) => v = .tuple #[refK (K.take q).1 x.1, .slice x.2.1 (K.take q).2.length x.2.2]) fun x => [rR x.1 (K.take q).1, slR (.slice x.2.1 (K.take q).2.length x.2.2) (K.take q).2.length 70 5 ((K.take q).2.flatMap encD)]) := by
  cases hm : K.may q
  · exact c27a h K W hT q hs hs0 hm w0 ho
  · exact c27b h K W hT q hs hs0 hm w0 ho
theorem c29b {b : Nat} (g : Gh) (hb : g.b = b) (K : KSt) (W : K.Wf) (hT : ∀ i, (K.T i).length + K.ks.length ≤ 900) (q : Wd) (hs : q.seq < 9223372036854775808) (w0 : World) (ho : Own w0.heap [kR g K]) : Cl Try.prog 29 #[.pointer (some ⟨b, 0, none⟩), wdV q] w0 (RetS [kR g K] w0 (fun v (x : Value × Gh) => v = x.1 ∧ x.2.b = b) fun x => [kR x.2 (K.take q).1, slR x.1 (K.take q).2.length 70 5 ((K.take q).2.flatMap encD)]) := by
  subst hb
  exact c29 g K W hT q hs w0 ho
theorem wf_tells {K : KSt} (W : K.Wf) (f : Int) : (K.tells f).Wf := by
  unfold KSt.tells
  generalize K.ks.length = j
  induction j generalizing K with
  | zero => exact W
  | succ j ih =>
    simp only [tellF]
    split
    · rename_i hd; exact ih (W.tell hd)
    · exact W
theorem wf_takeK {K : KSt} (W : K.Wf) (q : Wd) : (K.take q).1.Wf := by
  unfold KSt.take
  split
  · rename_i hm; exact wf_tells (wf_mid W hm) q.frm
  · exact W
theorem tells_le {K : KSt} {N : Nat} (h : ∀ i, (K.T i).length + K.ks.length ≤ N) (f : Int) : ∀ i, ((K.tells f).T i).length + (K.tells f).ks.length ≤ N := by
  have key : ∀ (j : Nat) (K : KSt), (∀ i, (K.T i).length + K.ks.length ≤ N) → ∀ i, ((tellF j K f).T i).length + (tellF j K f).ks.length ≤ N := by
    intro j
    induction j with
    | zero => intro K h; exact h
    | succ j ih =>
      intro K h
      simp only [tellF]
      split
      · rename_i hd; exact ih _ (tell_le h hd)
      · exact h
  exact key _ _ h
theorem take_le {K : KSt} {N : Nat} (h : ∀ i, (K.T i).length + K.ks.length ≤ N) (q : Wd) : ∀ i, ((K.take q).1.T i).length + (K.take q).1.ks.length ≤ N + 1 := by
  unfold KSt.take
  split
  · exact tells_le (fun i => by rw [mid_T]; have := h i; have := mid_le K q; omega) q.frm
  · intro i; have := h i; show (K.T i).length + K.ks.length ≤ N + 1; omega
theorem new_le (n t : Int) : ∀ i, ((newK n t).T i).length + (newK n t).ks.length ≤ 0 := by intro i; simp [newK]
def rdw (s : Int) (b : ByteArray) (i : Int) : Wd := ⟨1, s, ⟨3, i, b⟩⟩
def rdy (K : KSt) (s : Int) (b : ByteArray) : KSt := (((K.take (rdw s b 1)).1.take (rdw s b (1 + 1))).1.take (rdw s b (1 + 1 + 1))).1
def aA : ByteArray := { data := #[97] }
def aB : ByteArray := { data := #[98] }
def k1 : KSt := ((newK 4 1).take ⟨1, 1, ⟨1, 1, aB⟩⟩).1
def k2 : KSt := rdy k1 1 aB
def k3 : KSt := rdy k2 0 aA
theorem kk0 : ((newK 4 1).take ⟨1, 1, ⟨1, 1, aB⟩⟩).2 = [⟨1, 1, ⟨2, 0, aB⟩⟩] := by kernel_rfl
theorem kk1 : k2.node 1 = true := by kernel_rfl
theorem kk2 : k2.len 1 = 0 := by kernel_rfl
theorem kk3 : k2.ks.length = 1 := by kernel_rfl
theorem kk4 : k3.node 1 = true := by kernel_rfl
theorem kk5 : k3.T (1 : Int).toNat = [aA, aB] := by kernel_rfl
theorem kk6 : k3.len 1 = 2 := by kernel_rfl
theorem kk7 : k3.ks.length = 0 := by kernel_rfl
theorem aq0 : quorum 4 1 ≠ 0 := by decide
theorem wk1 : k1.Wf := wf_takeK (.new aq0) _
theorem wk2 : k2.Wf := wf_takeK (wf_takeK (wf_takeK wk1 _) _) _
theorem wk3 : k3.Wf := wf_takeK (wf_takeK (wf_takeK wk2 _) _) _
theorem bk1 : ∀ i, (k1.T i).length + k1.ks.length ≤ 1 := take_le (new_le 4 1) _
theorem bk2 : ∀ i, (k2.T i).length + k2.ks.length ≤ 4 := take_le (take_le (take_le bk1 _) _) _
theorem bk3 : ∀ i, (k3.T i).length + k3.ks.length ≤ 7 := take_le (take_le (take_le bk2 _) _) _
theorem aq : quorum 4 1 ≠ 0 := by decide
theorem aq3 : quorum 3 1 = 0 := by decide
section
variable {b : Nat} {g : Gh} {K : KSt}
theorem c30b (hb : g.b = b) (W : K.Wf) (w0 : World) (hk : (kR g K).ok w0.heap) : Cl Try.prog 30 #[.pointer (some ⟨b, 0, none⟩)] w0 (RetQ w0 fun v => v = .int .i64 K.ks.length) := by subst hb; exact c30 g K W w0 hk
theorem c33b (f : Int) (hb : g.b = b) (W : K.Wf) (w0 : World) (hk : (kR g K).ok w0.heap) : Cl Try.prog 33 #[.pointer (some ⟨b, 0, none⟩), .int .i64 f] w0 (RetQ w0 fun v => v = .int .i64 (if K.node f = true then K.len f else 0)) := by subst hb; exact c33 f g K W w0 hk
theorem c32b (f : Int) (hb : g.b = b) (W : K.Wf) (w0 : World) (hk : (kR g K).ok w0.heap) (hT : ∀ i, (K.T i).length ≤ 1000) : Cl Try.prog 32 #[.pointer (some ⟨b, 0, none⟩), .int .i64 f] w0 (RetS [] w0 (fun v (x : Value) => v = x) fun x => [slR x (if K.node f = true then K.T f.toNat else []).length 9 1 ((if K.node f = true then K.T f.toNat else []).flatMap encS)]) := by subst hb; exact c32 f g K W w0 hk hT
end

set_option maxRecDepth 100000 in
set_option maxHeartbeats 400000 in
theorem c38 {b : Nat} (g : Gh) (hb0 : g.b = b) (K : KSt) (W : K.Wf) (hT : ∀ i, (K.T i).length + K.ks.length ≤ 800) (s : Int) (hs : s < 9223372036854775808) (bd : ByteArray) (w0 : World) (ho : Own w0.heap [kR g K]) : Cl Try.prog 38 #[.pointer (some ⟨b, 0, none⟩), .int .i64 s, .string bd] w0 (RetS [kR g K] w0 (fun v (g' : Gh) => v = .tuple #[] ∧ g'.b = b) fun g' => [kR g' (rdy K s bd)]) := by
  have M : Sep (fun b_ => b_ ∈ foots [kR g K]) w0 w0 _ := Sep.start ho
  refine enter (vs := [_, _, _]) Try.func38 rfl rfl rfl ?_
  intro a F
  refine wp_seq ?_
  refine wp_region_l [.ind] ([0]) rfl ?_
  refine s_I F rfl rfl rfl rfl rfl rfl ?_; clear F a; intro a F
  refine t_endM M ?_; (clear M; try clear w); intro w M
  refine wp_block ?_
  refine wp_loop_rounds 4 ?_
  refine (show Code.wp _ _ _ _ _ from ?_)
  refine wp_seq ?_
  refine wp_seq ?_
  refine wp_region_l [.ind, .ind] ([0, 1]) rfl ?_
  refine s_I F rfl rfl rfl rfl rfl rfl ?_; clear F a; intro a F
  refine s_bin F rfl rfl rfl rfl rfl rfl rfl ?_; clear F a; intro a F
  refine t_endM M ?_; (clear M; try clear w); intro w M
  refine c_t F (by rfl) ?_
  refine wp_skip ?_
  refine wp_seq ?_
  refine wp_block ?_
  replace F := F.keep [0, 1, 2, 6] rfl
  refine wp_region_l [.ind, .ind, .ind, .ind, .ind, .ind, .wr] ([0, 1, 2, 3, 4, 5, 6]) rfl ?_
  refine s_I F rfl rfl rfl rfl rfl rfl ?_; clear F a; intro a F
  refine s_I F rfl rfl rfl rfl rfl rfl ?_; clear F a; intro a F
  refine s_I F rfl rfl rfl rfl rfl rfl ?_; clear F a; intro a F
  refine s_I F rfl rfl rfl rfl rfl rfl ?_; clear F a; intro a F
  refine s_bld F rfl rfl rfl rfl (parts3 F rfl rfl rfl) (bl_38_0_1_2_K9 _ _ _) ?_; clear F a; intro a F
  refine s_bld F rfl rfl rfl rfl (parts3 F rfl rfl rfl) (bl_70_0_1_2_K9 _ _ _ _ _) ?_; clear F a; intro a F
  have M1 : Sep _ _ _ (kR _ (K) :: _) := M; replace M := M1; clear M1
  refine s_call (m := [_]) F M rfl rfl rfl rfl rfl (rfl : _ = some [_, _]) cb_29_K9 (fun nd_ => c29b _ (by assumption) (K) W (fun i => by have := hT i; omega) (rdw s bd 1) hs _ (M.drewN nd_).own.one) ?_; (clear F a M; try clear w); rintro v x1 w ⟨rfl, hb1⟩ M a F; (try simp only [List.cons_append, List.nil_append] at M)
  refine t_endM M ?_; (clear M; try clear w); intro w M
  replace F := F.keep [0, 1, 2, 6] rfl
  refine wp_region_l [.ind, .ind, .ind] ([0, 1, 2]) rfl ?_
  refine s_I F rfl rfl rfl rfl rfl rfl ?_; clear F a; intro a F
  refine s_add F rfl rfl rfl rfl rfl rfl (by unfold In64; omega) ?_; clear F a; intro a F
  refine s_I F rfl rfl rfl rfl rfl rfl ?_; clear F a; intro a F
  refine t_endM M ?_; (clear M; try clear w); intro w M
  refine (show Code.wp _ _ _ _ _ from ?_)
  refine wp_seq ?_
  refine wp_seq ?_
  replace F := F.keep [0, 1, 2, 6] rfl
  refine wp_region_l [.ind, .ind] ([0, 1]) rfl ?_
  refine s_I F rfl rfl rfl rfl rfl rfl ?_; clear F a; intro a F
  refine s_bin F rfl rfl rfl rfl rfl rfl rfl ?_; clear F a; intro a F
  refine t_endM M ?_; (clear M; try clear w); intro w M
  refine c_t F (by rfl) ?_
  refine wp_skip ?_
  refine wp_seq ?_
  refine wp_block ?_
  replace F := F.keep [0, 1, 2, 6] rfl
  refine wp_region_l [.ind, .ind, .ind, .ind, .ind, .ind, .wr] ([0, 1, 2, 3, 4, 5, 6]) rfl ?_
  refine s_I F rfl rfl rfl rfl rfl rfl ?_; clear F a; intro a F
  refine s_I F rfl rfl rfl rfl rfl rfl ?_; clear F a; intro a F
  refine s_I F rfl rfl rfl rfl rfl rfl ?_; clear F a; intro a F
  refine s_I F rfl rfl rfl rfl rfl rfl ?_; clear F a; intro a F
  refine s_bld F rfl rfl rfl rfl (parts3 F rfl rfl rfl) (bl_38_0_1_2_K9 _ _ _) ?_; clear F a; intro a F
  refine s_bld F rfl rfl rfl rfl (parts3 F rfl rfl rfl) (bl_70_0_1_2_K9 _ _ _ _ _) ?_; clear F a; intro a F
  have M1 : Sep _ _ _ (kR _ ((K.take (rdw s bd 1)).1) :: _) := M; replace M := M1; clear M1
  refine s_call (m := [_]) F M rfl rfl rfl rfl rfl (rfl : _ = some [_, _]) cb_29_K9 (fun nd_ => c29b _ (by assumption) ((K.take (rdw s bd 1)).1) (wf_takeK W _) (fun i => by have := take_le hT (rdw s bd 1) i; omega) (rdw s bd (1 + 1)) hs _ (M.drewN nd_).own.one) ?_; (clear F a M; try clear w); rintro v x2 w ⟨rfl, hb2⟩ M a F; (try simp only [List.cons_append, List.nil_append] at M)
  refine t_endM M ?_; (clear M; try clear w); intro w M
  replace F := F.keep [0, 1, 2, 6] rfl
  refine wp_region_l [.ind, .ind, .ind] ([0, 1, 2]) rfl ?_
  refine s_I F rfl rfl rfl rfl rfl rfl ?_; clear F a; intro a F
  refine s_add F rfl rfl rfl rfl rfl rfl (by unfold In64; omega) ?_; clear F a; intro a F
  refine s_I F rfl rfl rfl rfl rfl rfl ?_; clear F a; intro a F
  refine t_endM M ?_; (clear M; try clear w); intro w M
  refine (show Code.wp _ _ _ _ _ from ?_)
  refine wp_seq ?_
  refine wp_seq ?_
  replace F := F.keep [0, 1, 2, 6] rfl
  refine wp_region_l [.ind, .ind] ([0, 1]) rfl ?_
  refine s_I F rfl rfl rfl rfl rfl rfl ?_; clear F a; intro a F
  refine s_bin F rfl rfl rfl rfl rfl rfl rfl ?_; clear F a; intro a F
  refine t_endM M ?_; (clear M; try clear w); intro w M
  refine c_t F (by rfl) ?_
  refine wp_skip ?_
  refine wp_seq ?_
  refine wp_block ?_
  replace F := F.keep [0, 1, 2, 6] rfl
  refine wp_region_l [.ind, .ind, .ind, .ind, .ind, .ind, .wr] ([0, 1, 2, 3, 4, 5, 6]) rfl ?_
  refine s_I F rfl rfl rfl rfl rfl rfl ?_; clear F a; intro a F
  refine s_I F rfl rfl rfl rfl rfl rfl ?_; clear F a; intro a F
  refine s_I F rfl rfl rfl rfl rfl rfl ?_; clear F a; intro a F
  refine s_I F rfl rfl rfl rfl rfl rfl ?_; clear F a; intro a F
  refine s_bld F rfl rfl rfl rfl (parts3 F rfl rfl rfl) (bl_38_0_1_2_K9 _ _ _) ?_; clear F a; intro a F
  refine s_bld F rfl rfl rfl rfl (parts3 F rfl rfl rfl) (bl_70_0_1_2_K9 _ _ _ _ _) ?_; clear F a; intro a F
  have M1 : Sep _ _ _ (kR _ (((K.take (rdw s bd 1)).1.take (rdw s bd (1 + 1))).1) :: _) := M; replace M := M1; clear M1
  refine s_call (m := [_]) F M rfl rfl rfl rfl rfl (rfl : _ = some [_, _]) cb_29_K9 (fun nd_ => c29b _ (by assumption) (((K.take (rdw s bd 1)).1.take (rdw s bd (1 + 1))).1) (wf_takeK (wf_takeK W _) _) (fun i => by have := take_le (take_le hT (rdw s bd 1)) (rdw s bd (1 + 1)) i; omega) (rdw s bd (1 + 1 + 1)) hs _ (M.drewN nd_).own.one) ?_; (clear F a M; try clear w); rintro v x3 w ⟨rfl, hb3⟩ M a F; (try simp only [List.cons_append, List.nil_append] at M)
  refine t_endM M ?_; (clear M; try clear w); intro w M
  replace F := F.keep [0, 1, 2, 6] rfl
  refine wp_region_l [.ind, .ind, .ind] ([0, 1, 2]) rfl ?_
  refine s_I F rfl rfl rfl rfl rfl rfl ?_; clear F a; intro a F
  refine s_add F rfl rfl rfl rfl rfl rfl (by unfold In64; omega) ?_; clear F a; intro a F
  refine s_I F rfl rfl rfl rfl rfl rfl ?_; clear F a; intro a F
  refine t_endM M ?_; (clear M; try clear w); intro w M
  refine (show Code.wp _ _ _ _ _ from ?_)
  refine wp_seq ?_
  refine wp_seq ?_
  replace F := F.keep [0, 1, 2, 6] rfl
  refine wp_region_l [.ind, .ind] ([0, 1]) rfl ?_
  refine s_I F rfl rfl rfl rfl rfl rfl ?_; clear F a; intro a F
  refine s_bin F rfl rfl rfl rfl rfl rfl rfl ?_; clear F a; intro a F
  refine t_endM M ?_; (clear M; try clear w); intro w M
  refine c_f F (by rfl) ?_
  refine wp_exit ?_
  refine (ret0 F rfl ?_).2
  -- end 0
  exact ⟨_, x3.2, rfl, ⟨rfl, hb3⟩, Sep.left M⟩
end Go.Proofs.Ytibomfgeemhogaa
