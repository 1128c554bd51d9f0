/- H8 of the seat. -/
import Derived.Test.YtboibdmflblphaaH6
import Derived.Test.YtboibdmflblphaaChnA
namespace Go.Proofs.Ytboibdmflblphaa
open Go Fw
theorem tl_120_H8 : SlT Try.prog 120 126 7 64 (.agg #[.int .i64 0, .int .i64 0, .int .i64 0, .int .i64 0, .int .i64 0, .int .i64 0, .string { data := #[] }]) := ⟨by kernel_rfl, by kernel_rfl, by kernel_rfl, by kernel_rfl, by decide⟩
theorem sl_92_H8 : slcB Try.prog 92 = some (104, 6) := by kernel_rfl
theorem sl_120_H8 : slcB Try.prog 120 = some (126, 7) := by kernel_rfl
theorem ag_104_H8 : aggB Try.prog 104 = some 6 := by kernel_rfl
theorem bl_126_0_1_H8 : ∀ (x0 : Int) (x1_0 : Int) (x1_1_0 : Int) (x1_1_1 : Int) (x1_1_2 : Int) (x1_1_3 : Int) (x1_1_4 : ByteArray), ∀ w : World, (Instr.build 126 #[(0, .int .i64 x0), (1, .agg #[.int .i64 x1_0, .int .i64 x1_1_0, .int .i64 x1_1_1, .int .i64 x1_1_2, .int .i64 x1_1_3, .string x1_1_4])]).run Try.prog w = .ok (.agg #[.int .i64 x0, .int .i64 x1_0, .int .i64 x1_1_0, .int .i64 x1_1_1, .int .i64 x1_1_2, .int .i64 x1_1_3, .string x1_1_4]) w := by intros; kernel_rfl
theorem bs_120_1_H8 : ∀ (x0_0 : Int) (x0_1_0 : Int) (x0_1_1_0 : Int) (x0_1_1_1 : Int) (x0_1_1_2 : Int) (x0_1_1_3 : Int) (x0_1_1_4 : ByteArray), News Try.prog (Instr.buildSlice 120 1 #[(0, .agg #[.int .i64 x0_0, .int .i64 x0_1_0, .int .i64 x0_1_1_0, .int .i64 x0_1_1_1, .int .i64 x0_1_1_2, .int .i64 x0_1_1_3, .string x0_1_1_4])]) (.cells #[.int .i64 x0_0, .int .i64 x0_1_0, .int .i64 x0_1_1_0, .int .i64 x0_1_1_1, .int .i64 x0_1_1_2, .int .i64 x0_1_1_3, .string x0_1_1_4] 126) fun b => .slice (some ⟨b, 0, none⟩) 1 1 := by intros; intro w; kernel_rfl
theorem fa_86_0_H8 : FA Try.prog 86 0 0 := fun _ _ _ => by kernel_rfl
theorem sc_3_H8 : scalB Try.prog 3 = true := by kernel_rfl
theorem fa_86_1_H8 : FA Try.prog 86 1 1 := fun _ _ _ => by kernel_rfl
theorem cb_34_H8 : callB Try.prog 34 = true := by kernel_rfl
theorem cb_57_H8 : callB Try.prog 57 = true := by kernel_rfl
theorem sl_69_H8 : slcB Try.prog 69 = some (9, 1) := by kernel_rfl
theorem sl_118_H8 : slcB Try.prog 118 = some (123, 9) := by kernel_rfl
theorem cb_58_H8 : callB Try.prog 58 = true := by kernel_rfl
theorem sc_9_H8 : scalB Try.prog 9 = true := by kernel_rfl
theorem cb_59_H8 : callB Try.prog 59 = true := by kernel_rfl
theorem bs_119_1_H8 : ∀ (x0 : Option Addr), News Try.prog (Instr.buildSlice 119 1 #[(0, .pointer x0)]) (.cells #[.pointer x0] 87) fun b => .slice (some ⟨b, 0, none⟩) 1 1 := by intros; intro w; kernel_rfl
theorem tl_119_H8 : SlT Try.prog 119 87 1 8 (.pointer none) := ⟨by kernel_rfl, by kernel_rfl, by kernel_rfl, by kernel_rfl, by decide⟩
theorem cb_61_H8 : callB Try.prog 61 = true := by kernel_rfl
theorem cb_76_H8 : callB Try.prog 76 = true := by kernel_rfl
theorem ag_123_H8 : aggB Try.prog 123 = some 9 := by kernel_rfl
theorem zr_123_H8 : zeroB Try.prog 123 = some (.agg #[.int .i64 0, .int .i64 0, .int .i64 0, .int .i64 0, .int .i64 0, .int .i64 0, .int .i64 0, .int .i64 0, .string { data := #[] }]) := by kernel_rfl
theorem sz_123_H8 : sizeB Try.prog 123 = some 9 := by kernel_rfl
theorem fa_123_0_H8 : FA Try.prog 123 0 0 := fun _ _ _ => by kernel_rfl
theorem fa_123_2_H8 : FA Try.prog 123 2 2 := fun _ _ _ => by kernel_rfl
theorem ik_3_H8 : intB Try.prog 3 = some .i64 := by kernel_rfl
theorem ik_124_H8 : intB Try.prog 124 = some .u64 := by kernel_rfl
theorem ag_126_H8 : aggB Try.prog 126 = some 7 := by kernel_rfl
theorem zr_126_H8 : zeroB Try.prog 126 = some (.agg #[.int .i64 0, .int .i64 0, .int .i64 0, .int .i64 0, .int .i64 0, .int .i64 0, .string { data := #[] }]) := by kernel_rfl
theorem sz_126_H8 : sizeB Try.prog 126 = some 7 := by kernel_rfl
theorem fa_126_0_H8 : FA Try.prog 126 0 0 := fun _ _ _ => by kernel_rfl
theorem sl_119_H8 : slcB Try.prog 119 = some (87, 1) := by kernel_rfl
theorem sc_87_H8 : scalB Try.prog 87 = true := by kernel_rfl
theorem fa_126_1_H8 : FA Try.prog 126 1 1 := fun _ _ _ => by kernel_rfl
theorem cb_71_H8 : callB Try.prog 71 = true := by kernel_rfl
theorem fa_123_3_H8 : FA Try.prog 123 3 3 := fun _ _ _ => by kernel_rfl
theorem fa_104_1_H8 : FA Try.prog 104 1 1 := fun _ _ _ => by kernel_rfl
theorem fa_32_1_H8 : FA Try.prog 32 1 1 := fun _ _ _ => by kernel_rfl
theorem fa_123_1_H8 : FA Try.prog 123 1 1 := fun _ _ _ => by kernel_rfl
theorem cb_73_H8 : callB Try.prog 73 = true := by kernel_rfl
theorem cb_63_H8 : callB Try.prog 63 = true := by kernel_rfl
theorem cb_62_H8 : callB Try.prog 62 = true := by kernel_rfl
open VoteM AgrM CouM ChnM

def encTw (y : Tw) : List Value := [.int .i64 (y.k : Int), .int .i64 y.x.node, .int .i64 y.x.w.kind, .int .i64 y.x.w.frm, .int .i64 y.x.w.round, .int .i64 y.x.w.valid, .string y.x.w.value]
structure Brg where
  kind : Int
  node : Int
  at_ : Int
  x : To
def encBg (b : Brg) : List Value := [.int .i64 b.kind, .int .i64 b.node, .int .i64 b.at_, .int .i64 b.x.node, .int .i64 b.x.w.kind, .int .i64 b.x.w.frm, .int .i64 b.x.w.round, .int .i64 b.x.w.valid, .string b.x.w.value]
def encN (b : Nat) : List Value := [.pointer (some ⟨b, 0, none⟩)]
abbrev twR (v : Value) (l : List Tw) : Res := slR v l.length 126 7 (l.flatMap encTw)
abbrev chZ : Gh × Chn → Res := fun p => chnR p.1 p.2
theorem six {j : Nat} (h : j < 6) : j = 0 ∨ j = 1 ∨ j = 2 ∨ j = 3 ∨ j = 4 ∨ j = 5 := by omega
theorem tw_tall {w : World} {b : Nat} {y : Tw} {T : TypeId} {fz : Nat × Nat} (hb : w.heap[b]? = some (.cells (encTw y).toArray T fz)) : ∀ j v, (encTo y.x).toArray[j]? = some v → w.cell? ((⟨b, 1, none⟩ : Addr).add j) = some v := by
  refine cells_part hb fun j v hv => ?_
  rcases six (Array.getElem?_eq_some_iff.1 hv).1 with rfl | rfl | rfl | rfl | rfl | rfl <;> exact hv
theorem bg_tall {w : World} {b : Nat} {y : Brg} {T : TypeId} {fz : Nat × Nat} (hb : w.heap[b]? = some (.cells (encBg y).toArray T fz)) : ∀ j v, (encTo y.x).toArray[j]? = some v → w.cell? ((⟨b, 3, none⟩ : Addr).add j) = some v := by
  refine cells_part hb fun j v hv => ?_
  rcases six (Array.getElem?_eq_some_iff.1 hv).1 with rfl | rfl | rfl | rfl | rfl | rfl <;> exact hv
theorem zip_at {α β : Type} {l : List α} {m : List β} {i : Nat} {a : α} {b : β} (h1 : l[i]? = some a) (h2 : m[i]? = some b) : (l.zip m)[i]? = some (a, b) := by
  simp [List.getElem?_zip_eq_some, h1, h2]
theorem zip_set {α β : Type} : ∀ {l : List α} {m : List β} {i : Nat} {a : α} {b : β}, (l.zip m).set i (a, b) = (l.set i a).zip (m.set i b)
  | [], m, i, a, b => by simp
  | x :: l, [], i, a, b => by cases i <;> simp
  | x :: l, y :: m, 0, a, b => by simp
  | x :: l, y :: m, i + 1, a, b => by simp [zip_set]
theorem zip_snoc {α β : Type} {l : List α} {m : List β} {a : α} {b : β} (h : l.length = m.length) : l.zip m ++ [(a, b)] = (l ++ [a]).zip (m ++ [b]) := by
  rw [List.zip_append h]; rfl
theorem map_set_b {gs : List Gh} {i : Nat} {g g' : Gh} {bs : List Nat} (h : gs.map (·.b) = bs) (hg : gs[i]? = some g) (e : g'.b = g.b) : (gs.set i g').map (·.b) = bs := by
  rw [List.map_set, e, ← h]
  obtain ⟨h1, h2⟩ := List.getElem?_eq_some_iff.1 hg
  refine List.ext_getElem? fun j => ?_
  rw [List.getElem?_set]
  by_cases ej : i = j
  · subst ej; rw [if_pos rfl, List.getElem?_map, hg]; simp [h1]
  · rw [if_neg ej]
theorem mem_cut {α : Type} {l : List α} {i : Nat} {y : α} (h : y ∈ l.take i ++ l.drop (i + 1)) : y ∈ l := by
  rcases List.mem_append.1 h with h | h
  · exact List.mem_of_mem_take h
  · exact List.mem_of_mem_drop h
theorem rem_nat (a : Int) {h : Nat} (h0 : 0 < h) : ∃ k : Nat, (k : Int) = (a % 18446744073709551616) % ((h : Int) % 18446744073709551616) ∧ ((h : Int) < 18446744073709551616 → k < h) := by
  refine ⟨((a % 18446744073709551616) % ((h : Int) % 18446744073709551616)).toNat, ?_, fun hlt => ?_⟩ <;>
  have h1 : 0 ≤ (a % 18446744073709551616) % ((h : Int) % 18446744073709551616) := by
    rcases Int.lt_or_le 0 ((h : Int) % 18446744073709551616) with h1 | h1
    · exact Int.emod_nonneg _ (by omega)
    · have : (h : Int) % 18446744073709551616 = 0 := by omega
      rw [this]; omega
  · omega
  · have e : (h : Int) % 18446744073709551616 = h := by omega
    rw [e] at h1 ⊢
    have := Int.emod_lt_of_pos (a % 18446744073709551616) (show (0 : Int) < h by omega)
    omega
theorem g_at {gs : List Gh} {bs : List Nat} {i : Nat} {b : Nat} (h : gs.map (·.b) = bs) (hb : bs[i]? = some b) : ∃ g, gs[i]? = some g ∧ g.b = b := by
  rw [← h, List.getElem?_map] at hb
  cases hg : gs[i]? with
  | none => rw [hg] at hb; cases hb
  | some g => rw [hg] at hb; exact ⟨g, rfl, by simpa using hb⟩
theorem nq_spec {n t : Int} (h : quorum n t ≠ 0) : 0 ≤ t ∧ t ≤ 2 ∧ 3 * t + 1 ≤ n ∧ n ≤ 7 := by
  unfold quorum at h
  split at h
  · exact absurd rfl h
  · omega
theorem okt_at {n t : Int} (hq : quorum n t ≠ 0) {i : Nat} (hi : (i : Int) < n) : okA n t ((i : Int) + 1) 0 tilde = true := by
  have := may_spec.1 tilde_may
  simp only [okA, Bool.and_eq_true, decide_eq_true_eq]
  exact ⟨hq, by omega, by omega, by omega, by omega, this.1, this.2⟩
theorem want_same {c : Chn} {v : ByteArray} : (c.want v).begun = c.begun ∧ (c.want v).log = c.log ∧ (c.want v).wants.length ≤ c.wants.length + 1 := by
  unfold Chn.want
  split
  · exact ⟨rfl, rfl, by show (c.wants ++ [v]).length ≤ _; simp⟩
  · exact ⟨rfl, rfl, by omega⟩
/-- One that has not begun. -/
structure Pre (n t : Int) (j : Nat) (c : Chn) : Prop where
  W : c.Wf
  n : c.n = n
  t : c.t = t
  me : c.me = j + 1
  b : c.begun = false
  l : c.log = []
theorem pre_new {n t : Int} {j : Nat} (hk : okA n t ((j : Int) + 1) 0 tilde = true) {a : ASt} : Pre n t j (ChnM.newC n t ((j : Int) + 1) a) := ⟨newC_wf hk, rfl, rfl, rfl, rfl, rfl⟩
theorem Pre.want {n t : Int} {j : Nat} {c : Chn} (P : Pre n t j c) (v : ByteArray) : Pre n t j (c.want v) := by
  refine ⟨P.W.want v, ?_, ?_, ?_, want_same.1.trans P.b, want_same.2.1.trans P.l⟩
  · unfold Chn.want; split <;> exact P.n
  · unfold Chn.want; split <;> exact P.t
  · unfold Chn.want; split <;> exact P.me
theorem Pre.over {n t : Int} {j : Nat} {c : Chn} (P : Pre n t j c) : c.begun = false → c.over = false := fun _ => over_no.2 (by rw [P.l]; decide)
theorem Pre.fr0 {n t : Int} {j : Nat} {c : Chn} (P : Pre n t j c) : Fr0 n t j c.start ∧ c.startO = tallsO 0 (newA n t ((j : Int) + 1) 0 c.start.part.own).startO := by
  have e := start_no P.b (P.over P.b)
  have hf : c.go.fresh = newA n t ((j : Int) + 1) 0 (headW c.wants) := by
    unfold Chn.fresh
    rw [show c.go.n = n from P.n, show c.go.t = t from P.t, show c.go.me = (j : Int) + 1 from P.me, show c.go.log = [] from P.l]
    rfl
  have ho : c.start.part.own = headW c.wants := by
    rw [e.1]
    show c.go.fresh.start.own = _
    rw [hf]
    exact (AgrM.start_same _).own
  have hk : okA n t ((j : Int) + 1) 0 (headW c.wants) = true := by
    have := P.W.ok
    rw [P.n, P.t, P.me, P.l] at this
    exact this
  rw [ho]
  refine ⟨⟨⟨P.W.start P.over, ?_, ?_, ?_, ?_⟩, ?_, by rw [ho]; exact hk, ?_⟩, ?_⟩
  · rw [e.1]; exact P.n
  · rw [e.1]; exact P.t
  · rw [e.1]; exact P.me
  · rw [e.1]; rfl
  · rw [e.1]; exact P.l
  · rw [ho, e.1, ← hf]; rfl
  · rw [e.2, hf, P.l]; rfl
theorem ontoP0 {way : List Tw} {h : Nat} {l : List To} : OntoP way h l way := ⟨fun _ hy => .inl hy, .inl (Nat.le_refl _)⟩
theorem ontoP1 {way out : List Tw} {h k : Nat} {l : List To} {e : To} (P : OntoP way h l out) (hk : k < h) (hl : out.length < 2000) (he : e ∈ l) : OntoP way h l (out ++ [⟨k, e⟩]) := by
  refine ⟨fun y hy => ?_, .inr (by rw [List.length_append]; simp only [List.length_cons, List.length_nil]; omega)⟩
  rcases List.mem_append.1 hy with hy | hy
  · exact P.1 y hy
  · rw [List.mem_singleton.1 hy]; exact .inr ⟨hk, he⟩
theorem ontoX {way out : List Tw} {h : Nat} {l : List To} (P : OntoP way h l out) {y : To} (hy : y ∈ out.map (·.x)) : y ∈ way.map (·.x) ∨ y ∈ l := by
  obtain ⟨z, hz, rfl⟩ := List.mem_map.1 hy
  rcases P.1 z hz with h1 | h1
  · exact .inl (List.mem_map.2 ⟨z, h1, rfl⟩)
  · exact .inr h1.2
/-- What is under way when nodes begin. -/
def Wy (n t : Int) (h : Nat) (cs : List Chn) (way : List Tw) : Prop := ∀ y ∈ way, y.k < h ∧ ∃ (j : Nat) (c : Chn), cs[j]? = some c ∧ y.x ∈ tallsO 0 (newA n t ((j : Int) + 1) 0 c.part.own).startO
theorem snocF {n t : Int} {cs : List Chn} {i : Nat} {d : Chn} (hl : cs.length = i) (hF : ∀ (j : Nat) c, cs[j]? = some c → Fr0 n t j c) (F : Fr0 n t i d) : ∀ (j : Nat) c, (cs ++ [d])[j]? = some c → Fr0 n t j c := by
  intro j c hc
  by_cases e : j < cs.length
  · rw [List.getElem?_append_left e] at hc; exact hF j c hc
  · have hj := (List.getElem?_eq_some_iff.1 hc).1
    simp only [List.length_append, List.length_cons, List.length_nil] at hj
    obtain rfl : j = i := by omega
    rw [List.getElem?_append_right (by omega), hl, Nat.sub_self] at hc
    obtain rfl := Option.some.inj hc
    exact F
theorem snocW {n t : Int} {h : Nat} {cs : List Chn} {way out : List Tw} {i : Nat} {c : Chn} (hl : cs.length = i) (hw : Wy n t h cs way) (P : Pre n t i c) (O : OntoP way h c.startO out) : Wy n t h (cs ++ [c.start]) out := by
  intro y hy
  rcases O.1 y hy with h1 | ⟨h1, h2⟩
  · obtain ⟨h1, j, d, h2, h3⟩ := hw y h1
    exact ⟨h1, j, d, by rw [List.getElem?_append_left (List.getElem?_eq_some_iff.1 h2).1]; exact h2, h3⟩
  · refine ⟨h1, i, c.start, ?_, by rw [← P.fr0.2]; exact h2⟩
    rw [List.getElem?_append_right (by omega), hl, Nat.sub_self]; rfl
theorem wy_sys {n t : Int} {h : Nat} {cs : List Chn} {way : List Tw} (hq : quorum n t ≠ 0) (hn : (cs.length : Int) = n - t) (hF : ∀ (j : Nat) c, cs[j]? = some c → Fr0 n t j c) (hw : Wy n t h cs way) : ∃ V H, CSys n t cs (way.map (·.x)) V H := by
  refine CSys.start hq (nq_spec hq).1 hn hF fun y hy => ?_
  obtain ⟨z, hz, rfl⟩ := List.mem_map.1 hy
  exact (hw z hz).2
theorem wordO_len {c : Chn} (W : c.Wf) (w : Wrd) : (c.wordO w).length ≤ 701 := by
  unfold Chn.wordO
  split
  · rename_i h
    have h1 := take_len (W.p h.1) w
    split
    · rw [List.length_append, tallsO_len]
      have := decO_len (c.put (c.part.take w).1) (c.part.take w).1.dec
      omega
    · rw [tallsO_len]; omega
  · simp
theorem mem_x {way : List Tw} {y : Tw} (h : y ∈ way) : y.x ∈ way.map (·.x) := List.mem_map.2 ⟨y, h, rfl⟩
theorem map_cut {way : List Tw} {i : Nat} {y : To} (h : y ∈ (way.take i ++ way.drop (i + 1)).map (·.x)) : y ∈ way.map (·.x) := by
  obtain ⟨z, hz, rfl⟩ := List.mem_map.1 h
  exact mem_x (mem_cut hz)

set_option maxRecDepth 100000 in
set_option maxHeartbeats 400000 in
theorem c76 (way : List Tw) (h : Nat) (l : List To) (v v2 : Value) (w0 : World) (hr : RdSl w0.heap v way.length 7 (way.flatMap encTw)) (hr2 : RdSl w0.heap v2 l.length 6 (l.flatMap encTo)) (hl : l.length ≤ 100000) (hh : h ≤ 7) (hw : way.length ≤ 100000) : Cl Try.prog 76 #[v, .int .i64 h, v2] w0 (RetS [] w0 (fun u (x : Value × List Tw) => u = x.1 ∧ OntoP way h l x.2) fun x => [twR x.1 x.2]) := by
  have M : Sep (fun b => b ∈ foots ([] : List Res)) w0 w0 _ := Sep.nil _ w0
  have hro := (ro_of hr).nil
  have hro2 := (ro_of hr2).nil
  obtain ⟨A0, cc, rfl, hcc⟩ := hr.form
  obtain ⟨A2, cc2, rfl, hcc2⟩ := hr2.form
  refine enter (vs := [_, _, _]) Try.func76 rfl rfl rfl ?_
  intro a F
  refine wp_seq ?_
  refine wp_region_l [.ind] ([0]) rfl ?_
  refine s_I F rfl rfl rfl rfl rfl rfl ?_; clear F a; intro a F
  refine t_endM M ?_; (clear M; try clear w); intro w M
  refine wp_seq ?_
  refine wp_region_l [.ind, .wr, .ind] ([0, 1, 2]) rfl ?_
  refine s_I F rfl rfl rfl rfl rfl rfl ?_; clear F a; intro a F
  replace M := M.nilT encTw 126 7
  refine s_apM (way) F M rfl rfl rfl rfl tl_120_H8 rfl rfl (by exact M.chg.ro hro) (by intro e; rfl) (by simp; omega) (fun _ _ _ _ => pend_nil) ?_; (clear F a M; try clear w); intro A11 c11 w M a F
  refine s_I F rfl rfl rfl rfl rfl rfl ?_; clear F a; intro a F
  refine t_endM M ?_; (clear M; try clear w); intro w M
  refine wp_seq ?_
  refine wp_seq ?_
  replace F := F.keep [0, 1, 2, 6, 7] rfl
  refine wp_region_l [.ind] ([0]) rfl ?_
  refine s_I F rfl rfl rfl rfl rfl rfl ?_; clear F a; intro a F
  refine t_endM M ?_; (clear M; try clear w); intro w M
  refine wp_block ?_
  have h0 : [] ++ way = way := by simp
  rw [h0] at F M
  have M1 : Sep _ _ _ (slR (.slice _ (List.length _) _) _ 126 _ _ :: _) := M; replace M := M1; clear M1
  refine loopX (X := (Int) × (List Tw) × (Option Addr) × (Nat)) F [0, 1, 2, 6] rfl (fun ((i, out, A, c) : (Int) × (List Tw) × (Option Addr) × (Nat)) => (0 ≤ i) ∧ (i ≤ l.length) ∧ (OntoP way h l out)) (fun ((i, out, A, c) : (Int) × (List Tw) × (Option Addr) × (Nat)) => [(7, .slice A out.length c), (8, .int .i64 i)]) (fun ((i, out, A, c) : (Int) × (List Tw) × (Option Addr) × (Nat)) => [twR (.slice A (out).length c) (out)]) (fun ((i, out, A, c) : (Int) × (List Tw) × (Option Addr) × (Nat)) => l.length - i.toNat) ((0), (way), (A11), (c11)) M ⟨(by omega), (by omega), ontoP0⟩ (F.keep [7, 8, 0, 1, 2, 6] rfl) ?_
  clear F M; clear a; (try clear w)
  rintro ⟨i, out, A, c⟩ a w ⟨i0, i1, hP⟩ F M; try dsimp only at F M
  try simp only [List.cons_append, List.nil_append] at F M
  try dsimp only at i0 i1 hP
  refine wp_seq ?_
  refine wp_seq ?_
  refine wp_region_l [.ind, .ind, .ind, .ind] ([0, 1, 2, 3]) rfl ?_
  refine s_I F rfl rfl rfl rfl rfl rfl ?_; clear F a; intro a F
  refine s_I F rfl rfl rfl rfl rfl rfl ?_; clear F a; intro a F
  refine s_len F rfl rfl rfl rfl sl_92_H8 rfl ?_; clear F a; intro a F
  refine s_bin F rfl rfl rfl rfl rfl rfl rfl ?_; clear F a; intro a F
  refine t_endM M ?_; (clear M; try clear w); intro w M
  refine c_if F rfl ?_ ?_
  ·
    clear F; intro hc0 F
    try rw [hc0] at F
    replace hc0 := of_decide_eq_true hc0
    refine wp_skip ?_
    refine wp_seq ?_
    refine wp_block ?_
    refine wp_seq ?_
    replace F := F.keep [0, 1, 2, 6, 7, 8] rfl
    refine wp_region_l [.ind] ([0]) rfl ?_
    refine s_I F rfl rfl rfl rfl rfl rfl ?_; clear F a; intro a F
    refine t_endM M ?_; (clear M; try clear w); intro w M
    refine wp_block ?_
    have M1 : Sep _ _ _ (slR (.slice _ (List.length _) _) _ 126 _ _ :: _) := M; replace M := M1; clear M1
    refine loopX (X := (Nat) × (List Tw) × (Option Addr) × (Nat)) F [0, 1, 2, 6, 8] rfl (fun ((k, out2, A, c) : (Nat) × (List Tw) × (Option Addr) × (Nat)) => (k ≤ h) ∧ (OntoP way h l out2)) (fun ((k, out2, A, c) : (Nat) × (List Tw) × (Option Addr) × (Nat)) => [(7, .slice A out2.length c), (9, .int .i64 (k : Int))]) (fun ((k, out2, A, c) : (Nat) × (List Tw) × (Option Addr) × (Nat)) => [twR (.slice A (out2).length c) (out2)]) (fun ((k, out2, A, c) : (Nat) × (List Tw) × (Option Addr) × (Nat)) => h - k) ((0), (out), (A), (c)) M ⟨(by omega), hP⟩ (F.keep [7, 9, 0, 1, 2, 6, 8] rfl) ?_
    clear F M; clear a; (try clear w)
    rintro ⟨k, out2, A, c⟩ a w ⟨k1, hP2⟩ F M; try dsimp only at F M
    try simp only [List.cons_append, List.nil_append] at F M
    try dsimp only at k1 hP2
    refine wp_seq ?_
    refine wp_seq ?_
    refine wp_region_l [.ind, .ind, .ind, .ind, .ind, .ind, .ind, .ind] ([0, 1, 2, 3, 4, 5, 6, 7]) rfl ?_
    refine s_I F rfl rfl rfl rfl rfl rfl ?_; clear F a; intro a F
    refine s_I F rfl rfl rfl rfl rfl rfl ?_; clear F a; intro a F
    refine s_bin F rfl rfl rfl rfl rfl rfl rfl ?_; clear F a; intro a F
    refine s_I F rfl rfl rfl rfl rfl rfl ?_; clear F a; intro a F
    refine bsplit F 21 rfl ?_ ?_
    ·
      clear F; intro hc1 F
      try rw [hc1] at F
      replace hc1 := of_decide_eq_true hc1
      refine s_I F rfl rfl rfl rfl rfl rfl ?_; clear F a; intro a F
      refine s_len F rfl rfl rfl rfl sl_120_H8 rfl ?_; clear F a; intro a F
      refine s_bin F rfl rfl rfl rfl rfl rfl rfl ?_; clear F a; intro a F
      refine s_I F rfl rfl rfl rfl rfl rfl ?_; clear F a; intro a F
      refine t_endM M ?_; (clear M; try clear w); intro w M
      refine c_if F rfl ?_ ?_
      ·
        clear F; intro hc2 F
        try rw [hc2] at F
        replace hc2 := of_decide_eq_true hc2
        refine wp_skip ?_
        refine wp_seq ?_
        refine wp_block ?_
        replace F := F.keep [0, 1, 2, 6, 7, 8, 9] rfl
        refine wp_region_l [.ind, .ind, .ind, .ind, .ind, .rd, .ind, .wr, .wr, .ind] ([0, 1, 2, 3, 4, 5, 6, 7, 8, 9]) rfl ?_
        refine s_I F rfl rfl rfl rfl rfl rfl ?_; clear F a; intro a F
        refine s_I F rfl rfl rfl rfl rfl rfl ?_; clear F a; intro a F
        refine s_I F rfl rfl rfl rfl rfl rfl ?_; clear F a; intro a F
        refine s_I F rfl rfl rfl rfl rfl rfl ?_; clear F a; intro a F
        refine s_ix F rfl rfl rfl rfl sl_92_H8 rfl rfl (by exact M.chg.ro hro2) (by omega) (by omega) ?_; clear F a; intro e32 he32 a F
        refine s_lda F rfl rfl rfl rfl ag_104_H8 rfl rfl (rdsX (M.chg.ro hro2) (by intro e; rfl) he32) ?_; clear F a; intro a F
        refine s_bld F rfl rfl rfl rfl (parts2 F rfl rfl) (bl_126_0_1_H8 _ _ _ _ _ _ _) ?_; clear F a; intro a F
        refine s_bs F M rfl rfl rfl rfl (parts1 F rfl) (bs_120_1_H8 _ _ _ _ _ _ _) ?_; (clear F a M; try clear w); intro b35 w M a F
        refine s_apE ((⟨k, e32⟩ : Tw)) F M.f1 rfl rfl rfl rfl tl_120_H8 rfl rfl (by exact rd_blk M.h0 rfl) rfl (by omega) (fun _ _ _ _ => pend_nil) ?_; (clear F a M; try clear w); intro A36 c36 w M a F
        refine s_I F rfl rfl rfl rfl rfl rfl ?_; clear F a; intro a F
        refine t_endM M ?_; (clear M; try clear w); intro w M
        replace F := F.keep [0, 1, 2, 6, 7, 8, 9] rfl
        refine wp_region_l [.ind, .ind, .ind] ([0, 1, 2]) rfl ?_
        refine s_I F rfl rfl rfl rfl rfl rfl ?_; clear F a; intro a F
        refine s_add F rfl rfl rfl rfl rfl rfl (by unfold In64; omega) ?_; clear F a; intro a F
        refine s_I F rfl rfl rfl rfl rfl rfl ?_; clear F a; intro a F
        refine t_endM M ?_; (clear M; try clear w); intro w M
        refine again ((k + 1), (out2 ++ [⟨k, e32⟩]), (A36), (c36)) (by show _ < _; (try dsimp only); omega) ⟨(by omega), (ontoP1 hP2 (by omega) (by omega) (List.mem_of_getElem? he32))⟩ (F.keep [7, 9, 0, 1, 2, 6, 8] rfl) ?_
        try dsimp only [List.cons_append, List.nil_append]
        refine M.pick ?_; repeat (first | exact PkG.nil | refine PkG.cons 0 rfl rfl ?_)
      ·
        clear F; intro hc3 F
        try rw [hc3] at F
        replace hc3 := of_decide_eq_false hc3
        refine wp_exit ?_
        replace F := F.keep [0, 1, 2, 6, 7, 8, 9] rfl
        refine wp_region_l [.ind, .ind, .ind] ([0, 1, 2]) rfl ?_
        refine s_I F rfl rfl rfl rfl rfl rfl ?_; clear F a; intro a F
        refine s_add F rfl rfl rfl rfl rfl rfl (by unfold In64; omega) ?_; clear F a; intro a F
        refine s_I F rfl rfl rfl rfl rfl rfl ?_; clear F a; intro a F
        refine t_endM M ?_; (clear M; try clear w); intro w M
        refine again ((i + 1), (out2), (A), (c)) (by show _ < _; (try dsimp only); omega) ⟨(by omega), (by assumption), hP2⟩ (F.keep [7, 8, 0, 1, 2, 6] rfl) ?_
        try dsimp only [List.cons_append, List.nil_append]
        refine M.pick ?_; repeat (first | exact PkG.nil | refine PkG.cons 0 rfl rfl ?_)
    ·
      clear F; intro hc4 F
      try rw [hc4] at F
      replace hc4 := of_decide_eq_false hc4
      refine s_no F rfl rfl rfl rfl ?_; clear F a; intro a F
      refine s_no F rfl rfl rfl rfl ?_; clear F a; intro a F
      refine s_no F rfl rfl rfl rfl ?_; clear F a; intro a F
      refine s_I F rfl rfl rfl rfl rfl rfl ?_; clear F a; intro a F
      refine t_endM M ?_; (clear M; try clear w); intro w M
      refine c_f F rfl ?_
      refine wp_exit ?_
      replace F := F.keep [0, 1, 2, 6, 7, 8, 9] rfl
      refine wp_region_l [.ind, .ind, .ind] ([0, 1, 2]) rfl ?_
      refine s_I F rfl rfl rfl rfl rfl rfl ?_; clear F a; intro a F
      refine s_add F rfl rfl rfl rfl rfl rfl (by unfold In64; omega) ?_; clear F a; intro a F
      refine s_I F rfl rfl rfl rfl rfl rfl ?_; clear F a; intro a F
      refine t_endM M ?_; (clear M; try clear w); intro w M
      refine again ((i + 1), (out2), (A), (c)) (by show _ < _; (try dsimp only); omega) ⟨(by omega), (by assumption), hP2⟩ (F.keep [7, 8, 0, 1, 2, 6] rfl) ?_
      try dsimp only [List.cons_append, List.nil_append]
      refine M.pick ?_; repeat (first | exact PkG.nil | refine PkG.cons 0 rfl rfl ?_)
  ·
    clear F; intro hc5 F
    try rw [hc5] at F
    replace hc5 := of_decide_eq_false hc5
    refine wp_exit ?_
    refine wp_seq ?_
    replace F := F.keep [0, 1, 2, 6, 7, 8] rfl
    refine wp_region_l [.ind, .ind] ([0, 1]) rfl ?_
    refine s_I F rfl rfl rfl rfl rfl rfl ?_; clear F a; intro a F
    refine s_I F rfl rfl rfl rfl rfl rfl ?_; clear F a; intro a F
    refine t_endM M ?_; (clear M; try clear w); intro w M
    refine wp_ret ?_
    refine ret1 F rfl rfl ?_
    -- end 0
    refine ⟨_, (.slice A out.length c, out), rfl, ⟨rfl, hP⟩, ?_⟩
    exact Sep.left (r := []) M
set_option maxRecDepth 100000 in
set_option maxHeartbeats 400000 in
theorem law18a (n t me : Int) (ws : List ByteArray) (l : List Brg) (v1 v2 : Value) (w0 : World) (hr1 : RdSl w0.heap v1 ws.length 1 (ws.flatMap encS)) (hr2 : RdSl w0.heap v2 l.length 9 (l.flatMap encBg)) (hf : quorum n t = 0 ∨ 10 < ws.length ∨ 250 < l.length) : Cl Try.prog 18 #[.agg #[.int .i64 n, .int .i64 t, .int .i64 me], v1, v2] w0 (RetQ w0 fun v => v = .bool true) := by
  have M : Sep (fun _ => False) w0 w0 _ := Sep.nil _ w0
  have hro1 := ro_of hr1
  have hro2 := ro_of hr2
  obtain ⟨A1, d1, rfl, hcc1⟩ := hr1.form
  obtain ⟨A2, d2, rfl, hcc2⟩ := hr2.form
  refine enter (vs := [_, _, _]) Try.func18 rfl rfl rfl ?_
  intro a F
  refine wp_seq ?_
  refine wp_region_l [.wr, .ind] ([0, 1]) rfl ?_
  refine s_bxA F M rfl rfl rfl rfl rfl ?_; (clear F a M; try clear w); intro b3 w M a F
  refine s_I F rfl rfl rfl rfl rfl rfl ?_; clear F a; intro a F
  refine t_endM M ?_; (clear M; try clear w); intro w M
  refine wp_seq ?_
  refine wp_seq ?_
  refine wp_region_l [.ind, .rd, .ind, .rd, .wr, .ind, .ind, .ind, .ind, .ind, .ind, .ind, .ind, .ind, .ind, .ind] ([0, 1, 2, 3, 4, 5, 6, 7, 8, 9, 10, 11, 12, 13, 14, 15]) rfl ?_
  refine s_fa0 F rfl rfl rfl rfl fa_86_0_H8 rfl ?_; clear F a; intro a F
  refine s_ld F rfl rfl rfl rfl sc_3_H8 rfl (by exact cell_of_blk M.h0 (lit rfl)) ?_; clear F a; intro a F
  refine s_fa0 F rfl rfl rfl rfl fa_86_1_H8 rfl ?_; clear F a; intro a F
  refine s_ld F rfl rfl rfl rfl sc_3_H8 rfl (by exact cell_of_blk M.h0 (lit rfl)) ?_; clear F a; intro a F
  refine s_cq F M rfl rfl rfl rfl rfl (rfl : _ = some [_, _]) cb_34_H8 (fun nd_ => c34 n t _) ?_; (clear F a M; try clear w); rintro v w rfl M a F
  refine s_bin F rfl rfl rfl rfl rfl rfl rfl ?_; clear F a; intro a F
  refine s_I F rfl rfl rfl rfl rfl rfl ?_; clear F a; intro a F
  refine bsplit F 29 rfl ?_ ?_
  ·
    clear F; intro hc0 F
    try rw [hc0] at F
    replace hc0 := of_decide_eq_true hc0
    refine s_no F rfl rfl rfl rfl ?_; clear F a; intro a F
    refine s_no F rfl rfl rfl rfl ?_; clear F a; intro a F
    refine s_no F rfl rfl rfl rfl ?_; clear F a; intro a F
    refine s_I F rfl rfl rfl rfl rfl rfl ?_; clear F a; intro a F
    refine s_I F rfl rfl rfl rfl rfl rfl ?_; clear F a; intro a F
    refine s_no F rfl rfl rfl rfl ?_; clear F a; intro a F
    refine s_no F rfl rfl rfl rfl ?_; clear F a; intro a F
    refine s_no F rfl rfl rfl rfl ?_; clear F a; intro a F
    refine s_I F rfl rfl rfl rfl rfl rfl ?_; clear F a; intro a F
    refine t_endM M ?_; (clear M; try clear w); intro w M
    refine c_t F rfl ?_
    refine wp_seq ?_
    replace F := F.keep [0, 1, 2, 3, 6] rfl
    refine wp_region_l [.wr, .ind] ([0, 1]) rfl ?_
    refine s_cq F M rfl rfl rfl rfl rfl (rfl : _ = some []) cb_57_H8 (fun nd_ => c57 _) ?_; (clear F a M; try clear w); rintro v w rfl M a F
    refine s_I F rfl rfl rfl rfl rfl rfl ?_; clear F a; intro a F
    refine t_endM M ?_; (clear M; try clear w); intro w M
    refine wp_ret ?_
    refine ret1 F rfl rfl ?_
    -- end 0
    exact ⟨_, rfl, rfl, M.chg⟩
  ·
    clear F; intro hc1 F
    try rw [hc1] at F
    replace hc1 := of_decide_eq_false hc1
    refine s_I F rfl rfl rfl rfl rfl rfl ?_; clear F a; intro a F
    refine s_len F rfl rfl rfl rfl sl_69_H8 rfl ?_; clear F a; intro a F
    refine s_bin F rfl rfl rfl rfl rfl rfl rfl ?_; clear F a; intro a F
    refine s_I F rfl rfl rfl rfl rfl rfl ?_; clear F a; intro a F
    refine s_I F rfl rfl rfl rfl rfl rfl ?_; clear F a; intro a F
    refine bsplit F 34 rfl ?_ ?_
    ·
      clear F; intro hc2 F
      try rw [hc2] at F
      replace hc2 := of_decide_eq_true hc2
      refine s_no F rfl rfl rfl rfl ?_; clear F a; intro a F
      refine s_no F rfl rfl rfl rfl ?_; clear F a; intro a F
      refine s_no F rfl rfl rfl rfl ?_; clear F a; intro a F
      refine s_I F rfl rfl rfl rfl rfl rfl ?_; clear F a; intro a F
      refine t_endM M ?_; (clear M; try clear w); intro w M
      refine c_t F rfl ?_
      refine wp_seq ?_
      replace F := F.keep [0, 1, 2, 3, 6] rfl
      refine wp_region_l [.wr, .ind] ([0, 1]) rfl ?_
      refine s_cq F M rfl rfl rfl rfl rfl (rfl : _ = some []) cb_57_H8 (fun nd_ => c57 _) ?_; (clear F a M; try clear w); rintro v w rfl M a F
      refine s_I F rfl rfl rfl rfl rfl rfl ?_; clear F a; intro a F
      refine t_endM M ?_; (clear M; try clear w); intro w M
      refine wp_ret ?_
      refine ret1 F rfl rfl ?_
      -- end 1
      exact ⟨_, rfl, rfl, M.chg⟩
    ·
      clear F; intro hc3 F
      try rw [hc3] at F
      replace hc3 := of_decide_eq_false hc3
      refine s_I F rfl rfl rfl rfl rfl rfl ?_; clear F a; intro a F
      refine s_len F rfl rfl rfl rfl sl_118_H8 rfl ?_; clear F a; intro a F
      refine s_bin F rfl rfl rfl rfl rfl rfl rfl ?_; clear F a; intro a F
      refine s_I F rfl rfl rfl rfl rfl rfl ?_; clear F a; intro a F
      refine t_endM M ?_; (clear M; try clear w); intro w M
      refine c_if F rfl ?_ ?_
      ·
        clear F; intro hc4 F
        try rw [hc4] at F
        replace hc4 := of_decide_eq_true hc4
        refine wp_seq ?_
        replace F := F.keep [0, 1, 2, 3, 6] rfl
        refine wp_region_l [.wr, .ind] ([0, 1]) rfl ?_
        refine s_cq F M rfl rfl rfl rfl rfl (rfl : _ = some []) cb_57_H8 (fun nd_ => c57 _) ?_; (clear F a M; try clear w); rintro v w rfl M a F
        refine s_I F rfl rfl rfl rfl rfl rfl ?_; clear F a; intro a F
        refine t_endM M ?_; (clear M; try clear w); intro w M
        refine wp_ret ?_
        refine ret1 F rfl rfl ?_
        -- end 2
        exact ⟨_, rfl, rfl, M.chg⟩
      ·
        clear F; intro hc5 F
        try rw [hc5] at F
        replace hc5 := of_decide_eq_false hc5
        exfalso
        omega
set_option maxRecDepth 100000 in
set_option maxHeartbeats 6000000 in
theorem law18b (n t me : Int) (ws : List ByteArray) (l : List Brg) (v1 v2 : Value) (w0 : World) (hr1 : RdSl w0.heap v1 ws.length 1 (ws.flatMap encS)) (hr2 : RdSl w0.heap v2 l.length 9 (l.flatMap encBg)) (hlw : ws.length ≤ 10) (hl : l.length ≤ 250) (hq : quorum n t ≠ 0) : Cl Try.prog 18 #[.agg #[.int .i64 n, .int .i64 t, .int .i64 me], v1, v2] w0 (RetQ w0 fun v => v = .bool true) := by
  have M : Sep (fun _ => False) w0 w0 _ := Sep.nil _ w0
  have hro1 := ro_of hr1
  have hro2 := ro_of hr2
  obtain ⟨A1, d1, rfl, hcc1⟩ := hr1.form
  obtain ⟨A2, d2, rfl, hcc2⟩ := hr2.form
  have hn := nq_spec hq
  obtain ⟨h, hh⟩ : ∃ h : Nat, (h : Int) = n - t := ⟨(n - t).toNat, by omega⟩
  have hh7 : h ≤ 7 := by omega
  refine enter (vs := [_, _, _]) Try.func18 rfl rfl rfl ?_
  intro a F
  refine wp_seq ?_
  refine wp_region_l [.wr, .ind] ([0, 1]) rfl ?_
  refine s_bxA F M rfl rfl rfl rfl rfl ?_; (clear F a M; try clear w); intro b3 w M a F
  refine s_I F rfl rfl rfl rfl rfl rfl ?_; clear F a; intro a F
  refine t_endM M ?_; (clear M; try clear w); intro w M
  refine wp_seq ?_
  refine wp_seq ?_
  refine wp_region_l [.ind, .rd, .ind, .rd, .wr, .ind, .ind, .ind, .ind, .ind, .ind, .ind, .ind, .ind, .ind, .ind] ([0, 1, 2, 3, 4, 5, 6, 7, 8, 9, 10, 11, 12, 13, 14, 15]) rfl ?_
  refine s_fa0 F rfl rfl rfl rfl fa_86_0_H8 rfl ?_; clear F a; intro a F
  refine s_ld F rfl rfl rfl rfl sc_3_H8 rfl (by exact cell_of_blk M.h0 (lit rfl)) ?_; clear F a; intro a F
  refine s_fa0 F rfl rfl rfl rfl fa_86_1_H8 rfl ?_; clear F a; intro a F
  refine s_ld F rfl rfl rfl rfl sc_3_H8 rfl (by exact cell_of_blk M.h0 (lit rfl)) ?_; clear F a; intro a F
  refine s_cq F M rfl rfl rfl rfl rfl (rfl : _ = some [_, _]) cb_34_H8 (fun nd_ => c34 n t _) ?_; (clear F a M; try clear w); rintro v w rfl M a F
  refine s_bin F rfl rfl rfl rfl rfl rfl rfl ?_; clear F a; intro a F
  refine s_I F rfl rfl rfl rfl rfl rfl ?_; clear F a; intro a F
  refine bsplit F 29 rfl ?_ ?_
  ·
    clear F; intro hc0 F
    try rw [hc0] at F
    replace hc0 := of_decide_eq_true hc0
    refine s_no F rfl rfl rfl rfl ?_; clear F a; intro a F
    refine s_no F rfl rfl rfl rfl ?_; clear F a; intro a F
    refine s_no F rfl rfl rfl rfl ?_; clear F a; intro a F
    refine s_I F rfl rfl rfl rfl rfl rfl ?_; clear F a; intro a F
    refine s_I F rfl rfl rfl rfl rfl rfl ?_; clear F a; intro a F
    refine s_no F rfl rfl rfl rfl ?_; clear F a; intro a F
    refine s_no F rfl rfl rfl rfl ?_; clear F a; intro a F
    refine s_no F rfl rfl rfl rfl ?_; clear F a; intro a F
    refine s_I F rfl rfl rfl rfl rfl rfl ?_; clear F a; intro a F
    refine t_endM M ?_; (clear M; try clear w); intro w M
    refine c_t F rfl ?_
    refine wp_seq ?_
    replace F := F.keep [0, 1, 2, 3, 6] rfl
    refine wp_region_l [.wr, .ind] ([0, 1]) rfl ?_
    refine s_cq F M rfl rfl rfl rfl rfl (rfl : _ = some []) cb_57_H8 (fun nd_ => c57 _) ?_; (clear F a M; try clear w); rintro v w rfl M a F
    refine s_I F rfl rfl rfl rfl rfl rfl ?_; clear F a; intro a F
    refine t_endM M ?_; (clear M; try clear w); intro w M
    refine wp_ret ?_
    refine ret1 F rfl rfl ?_
    -- end 0
    exact ⟨_, rfl, rfl, M.chg⟩
  ·
    clear F; intro hc1 F
    try rw [hc1] at F
    replace hc1 := of_decide_eq_false hc1
    refine s_I F rfl rfl rfl rfl rfl rfl ?_; clear F a; intro a F
    refine s_len F rfl rfl rfl rfl sl_69_H8 rfl ?_; clear F a; intro a F
    refine s_bin F rfl rfl rfl rfl rfl rfl rfl ?_; clear F a; intro a F
    refine s_I F rfl rfl rfl rfl rfl rfl ?_; clear F a; intro a F
    refine s_I F rfl rfl rfl rfl rfl rfl ?_; clear F a; intro a F
    refine bsplit F 34 rfl ?_ ?_
    ·
      clear F; intro hc2 F
      try rw [hc2] at F
      replace hc2 := of_decide_eq_true hc2
      refine s_no F rfl rfl rfl rfl ?_; clear F a; intro a F
      refine s_no F rfl rfl rfl rfl ?_; clear F a; intro a F
      refine s_no F rfl rfl rfl rfl ?_; clear F a; intro a F
      refine s_I F rfl rfl rfl rfl rfl rfl ?_; clear F a; intro a F
      refine t_endM M ?_; (clear M; try clear w); intro w M
      refine c_t F rfl ?_
      refine wp_seq ?_
      replace F := F.keep [0, 1, 2, 3, 6] rfl
      refine wp_region_l [.wr, .ind] ([0, 1]) rfl ?_
      refine s_cq F M rfl rfl rfl rfl rfl (rfl : _ = some []) cb_57_H8 (fun nd_ => c57 _) ?_; (clear F a M; try clear w); rintro v w rfl M a F
      refine s_I F rfl rfl rfl rfl rfl rfl ?_; clear F a; intro a F
      refine t_endM M ?_; (clear M; try clear w); intro w M
      refine wp_ret ?_
      refine ret1 F rfl rfl ?_
      -- end 1
      exact ⟨_, rfl, rfl, M.chg⟩
    ·
      clear F; intro hc3 F
      try rw [hc3] at F
      replace hc3 := of_decide_eq_false hc3
      refine s_I F rfl rfl rfl rfl rfl rfl ?_; clear F a; intro a F
      refine s_len F rfl rfl rfl rfl sl_118_H8 rfl ?_; clear F a; intro a F
      refine s_bin F rfl rfl rfl rfl rfl rfl rfl ?_; clear F a; intro a F
      refine s_I F rfl rfl rfl rfl rfl rfl ?_; clear F a; intro a F
      refine t_endM M ?_; (clear M; try clear w); intro w M
      refine c_if F rfl ?_ ?_
      ·
        clear F; intro hc4 F
        try rw [hc4] at F
        replace hc4 := of_decide_eq_true hc4
        exfalso
        omega
      ·
        clear F; intro hc5 F
        try rw [hc5] at F
        replace hc5 := of_decide_eq_false hc5
        refine wp_skip ?_
        refine wp_seq ?_
        replace F := F.keep [0, 1, 2, 3, 6] rfl
        refine wp_region_l [.ind, .rd, .ind, .rd, .ind, .ind] ([0, 1, 2, 3, 4, 5]) rfl ?_
        refine s_fa0 F rfl rfl rfl rfl fa_86_0_H8 rfl ?_; clear F a; intro a F
        refine s_ld F rfl rfl rfl rfl sc_3_H8 rfl (by exact cell_of_blk M.h0 (lit rfl)) ?_; clear F a; intro a F
        refine s_fa0 F rfl rfl rfl rfl fa_86_1_H8 rfl ?_; clear F a; intro a F
        refine s_ld F rfl rfl rfl rfl sc_3_H8 rfl (by exact cell_of_blk M.h0 (lit rfl)) ?_; clear F a; intro a F
        refine s_sub F rfl rfl rfl rfl rfl rfl (by unfold In64; omega) ?_; clear F a; intro a F
        refine s_I F rfl rfl rfl rfl rfl rfl ?_; clear F a; intro a F
        refine t_endM M ?_; (clear M; try clear w); intro w M
        refine wp_seq ?_
        rw [← hh] at F
        replace F := F.keep [0, 1, 2, 3, 6, 7] rfl
        refine wp_region_l [.ind] ([0]) rfl ?_
        refine s_I F rfl rfl rfl rfl rfl rfl ?_; clear F a; intro a F
        refine t_endM M ?_; (clear M; try clear w); intro w M
        refine wp_seq ?_
        refine wp_region_l [.ind] ([0]) rfl ?_
        refine s_I F rfl rfl rfl rfl rfl rfl ?_; clear F a; intro a F
        refine t_endM M ?_; (clear M; try clear w); intro w M
        refine wp_seq ?_
        refine wp_seq ?_
        refine wp_region_l [.ind] ([0]) rfl ?_
        refine s_I F rfl rfl rfl rfl rfl rfl ?_; clear F a; intro a F
        refine t_endM M ?_; (clear M; try clear w); intro w M
        refine wp_block ?_
        replace M := ((M.bigNil (f := chZ)).nilT encN 87 1).nilT encTw 126 7
        have M1 : Sep _ _ _ (slR _ _ 126 _ _ :: _) := M; replace M := M1; clear M1
        have M1 : Sep _ _ _ (bigR chZ _ :: _) := M.f2; replace M := M1; clear M1
        have M1 : Sep _ _ _ (slR _ _ 87 _ _ :: _) := M.f2; replace M := M1; clear M1
        refine loopX (X := (Nat) × (List Nat) × (List Gh) × (List Chn) × (Option Addr) × (Nat) × (List Tw) × (Option Addr) × (Nat)) F [0, 1, 2, 3, 6, 7] rfl (fun ((i, bs, gs, cs, A, c, way, Aw, cw) : (Nat) × (List Nat) × (List Gh) × (List Chn) × (Option Addr) × (Nat) × (List Tw) × (Option Addr) × (Nat)) => (i ≤ h) ∧ (bs.length = i) ∧ (gs.map (·.b) = bs) ∧ (cs.length = i) ∧ (∀ (j : Nat) c, cs[j]? = some c → Fr0 n t j c) ∧ (Wy n t h cs way) ∧ (way.length ≤ 2000)) (fun ((i, bs, gs, cs, A, c, way, Aw, cw) : (Nat) × (List Nat) × (List Gh) × (List Chn) × (Option Addr) × (Nat) × (List Tw) × (Option Addr) × (Nat)) => [(8, .slice A bs.length c), (9, .slice Aw way.length cw), (10, .int .i64 (i : Int))]) (fun ((i, bs, gs, cs, A, c, way, Aw, cw) : (Nat) × (List Nat) × (List Gh) × (List Chn) × (Option Addr) × (Nat) × (List Tw) × (Option Addr) × (Nat)) => [slR (.slice A bs.length c) bs.length 87 1 (bs.flatMap encN), bigR chZ (gs.zip cs), twR (.slice Aw (way).length cw) (way)]) (fun ((i, bs, gs, cs, A, c, way, Aw, cw) : (Nat) × (List Nat) × (List Gh) × (List Chn) × (Option Addr) × (Nat) × (List Tw) × (Option Addr) × (Nat)) => h - i) ((0), ([]), ([]), ([]), (none), (0), ([]), (none), (0)) M ⟨(by omega), rfl, rfl, rfl, (fun j c hc => by simp at hc), (fun y hy => by cases hy), (by simp)⟩ (F.keep [8, 9, 10, 0, 1, 2, 3, 6, 7] rfl) ?_
        clear F M; clear a; (try clear w)
        rintro ⟨i, bs, gs, cs, A, c, way, Aw, cw⟩ a w ⟨k1, hbl, hgs, hcl, hF, hwy, hw⟩ F M; try dsimp only at F M
        try simp only [List.cons_append, List.nil_append] at F M
        try dsimp only at k1 hbl hgs hcl hF hwy hw
        refine wp_seq ?_
        refine wp_seq ?_
        refine wp_region_l [.ind, .ind, .ind] ([0, 1, 2]) rfl ?_
        refine s_I F rfl rfl rfl rfl rfl rfl ?_; clear F a; intro a F
        refine s_I F rfl rfl rfl rfl rfl rfl ?_; clear F a; intro a F
        refine s_bin F rfl rfl rfl rfl rfl rfl rfl ?_; clear F a; intro a F
        refine t_endM M ?_; (clear M; try clear w); intro w M
        refine c_if F rfl ?_ ?_
        ·
          clear F; intro hc6 F
          try rw [hc6] at F
          replace hc6 := of_decide_eq_true hc6
          refine wp_skip ?_
          refine wp_seq ?_
          refine wp_block ?_
          refine wp_seq ?_
          replace F := F.keep [0, 1, 2, 3, 6, 7, 8, 9, 10] rfl
          refine wp_region_l [.ind, .rd, .ind, .rd, .ind, .ind, .wr, .ind] ([0, 1, 2, 3, 4, 5, 6, 7]) rfl ?_
          refine s_fa0 F rfl rfl rfl rfl fa_86_0_H8 rfl ?_; clear F a; intro a F
          refine s_ld F rfl rfl rfl rfl sc_3_H8 rfl (by exact cell_of_blk M.h3 (lit rfl)) ?_; clear F a; intro a F
          refine s_fa0 F rfl rfl rfl rfl fa_86_1_H8 rfl ?_; clear F a; intro a F
          refine s_ld F rfl rfl rfl rfl sc_3_H8 rfl (by exact cell_of_blk M.h3 (lit rfl)) ?_; clear F a; intro a F
          refine s_I F rfl rfl rfl rfl rfl rfl ?_; clear F a; intro a F
          refine s_add F rfl rfl rfl rfl rfl rfl (by unfold In64; omega) ?_; clear F a; intro a F
          refine s_call (m := []) F M rfl rfl rfl rfl rfl (rfl : _ = some [_, _, _]) cb_58_H8 (fun nd_ => c58 n t ((i : Int) + 1) (okt_at hq (by omega)) _) ?_; (clear F a M; try clear w); rintro v γ0 w rfl M a F; (try simp only [List.cons_append, List.nil_append] at M)
          refine s_I F rfl rfl rfl rfl rfl rfl ?_; clear F a; intro a F
          refine t_endM M ?_; (clear M; try clear w); intro w M
          refine wp_seq ?_
          refine wp_seq ?_
          replace F := F.keep [0, 1, 2, 3, 6, 7, 8, 9, 10, 11] rfl
          refine wp_region_l [.ind, .ind] ([0, 1]) rfl ?_
          refine s_I F rfl rfl rfl rfl rfl rfl ?_; clear F a; intro a F
          refine s_I F rfl rfl rfl rfl rfl rfl ?_; clear F a; intro a F
          refine t_endM M ?_; (clear M; try clear w); intro w M
          refine wp_block ?_
          have M1 : Sep _ _ _ (chnR _ _ :: _) := M; replace M := M1; clear M1
          refine loopX (X := (Int) × (Gh) × (Chn)) F [0, 1, 2, 3, 6, 7, 8, 9, 10, 11] rfl (fun ((k, γ, c) : (Int) × (Gh) × (Chn)) => (0 ≤ k) ∧ (k ≤ ws.length + h) ∧ (γ.b = γ0.b) ∧ (Pre n t i c)) (fun ((k, γ, c) : (Int) × (Gh) × (Chn)) => [(12, .int .i64 k)]) (fun ((k, γ, c) : (Int) × (Gh) × (Chn)) => [chnR γ c]) (fun ((k, γ, c) : (Int) × (Gh) × (Chn)) => (ws.length - k).toNat) (((i : Int)), (γ0), (_)) M ⟨(by omega), (by omega), rfl, (pre_new (okt_at hq (by omega)))⟩ (F.keep [12, 0, 1, 2, 3, 6, 7, 8, 9, 10, 11] rfl) ?_
          clear F M; clear a; (try clear w)
          rintro ⟨k, γ, c⟩ a w ⟨q0, q1, hg, P⟩ F M; try dsimp only at F M
          try simp only [List.cons_append, List.nil_append] at F M
          try dsimp only at q0 q1 hg P
          rw [← hg] at F
          refine wp_seq ?_
          refine wp_seq ?_
          refine wp_region_l [.ind, .ind, .ind, .ind] ([0, 1, 2, 3]) rfl ?_
          refine s_I F rfl rfl rfl rfl rfl rfl ?_; clear F a; intro a F
          refine s_I F rfl rfl rfl rfl rfl rfl ?_; clear F a; intro a F
          refine s_len F rfl rfl rfl rfl sl_69_H8 rfl ?_; clear F a; intro a F
          refine s_bin F rfl rfl rfl rfl rfl rfl rfl ?_; clear F a; intro a F
          refine t_endM M ?_; (clear M; try clear w); intro w M
          refine c_if F rfl ?_ ?_
          ·
            clear F; intro hc7 F
            try rw [hc7] at F
            replace hc7 := of_decide_eq_true hc7
            refine wp_skip ?_
            refine wp_seq ?_
            refine wp_block ?_
            replace F := F.keep [0, 1, 2, 3, 6, 7, 8, 9, 10, 11, 12] rfl
            refine wp_region_l [.ind, .ind, .ind, .ind, .rd, .wr] ([0, 1, 2, 3, 4, 5]) rfl ?_
            refine s_I F rfl rfl rfl rfl rfl rfl ?_; clear F a; intro a F
            refine s_I F rfl rfl rfl rfl rfl rfl ?_; clear F a; intro a F
            refine s_I F rfl rfl rfl rfl rfl rfl ?_; clear F a; intro a F
            refine s_ix F rfl rfl rfl rfl sl_69_H8 rfl rfl (by exact M.chg.ro hro1) (by omega) (by omega) ?_; clear F a; intro e68 he68 a F
            refine s_ld F rfl rfl rfl rfl sc_9_H8 rfl (by exact rdX0 (M.chg.ro hro1) (by intro e; rfl) he68 rfl) ?_; clear F a; intro a F
            have M1 : Sep _ _ _ (chnR γ c :: _) := M; replace M := M1; clear M1
            refine s_call (m := [_]) F M rfl rfl rfl rfl rfl (rfl : _ = some [_, _]) cb_59_H8 (fun nd_ => c59 γ c P.W e68 _ (M.drewN nd_).own.one) ?_; (clear F a M; try clear w); rintro v γ1 w ⟨rfl, hb1⟩ M a F; (try simp only [List.cons_append, List.nil_append] at M)
            refine t_endM M ?_; (clear M; try clear w); intro w M
            replace F := F.keep [0, 1, 2, 3, 6, 7, 8, 9, 10, 11, 12] rfl
            refine wp_region_l [.ind, .ind, .ind, .ind] ([0, 1, 2, 3]) rfl ?_
            refine s_I F rfl rfl rfl rfl rfl rfl ?_; clear F a; intro a F
            refine s_I F rfl rfl rfl rfl rfl rfl ?_; clear F a; intro a F
            refine s_add F rfl rfl rfl rfl rfl rfl (by unfold In64; omega) ?_; clear F a; intro a F
            refine s_I F rfl rfl rfl rfl rfl rfl ?_; clear F a; intro a F
            refine t_endM M ?_; (clear M; try clear w); intro w M
            rw [hg] at F
            refine again ((k + h), (γ1), (c.want e68)) (by show _ < _; (try dsimp only); omega) ⟨(by omega), (by omega), (hb1.trans hg), (P.want e68)⟩ (F.keep [12, 0, 1, 2, 3, 6, 7, 8, 9, 10, 11] rfl) ?_
            try dsimp only [List.cons_append, List.nil_append]
            refine M.pick ?_; repeat (first | exact PkG.nil | refine PkG.cons 0 rfl rfl ?_ | refine PkG.cons 1 rfl rfl ?_ | refine PkG.cons 2 rfl rfl ?_ | refine PkG.cons 3 rfl rfl ?_ | refine PkG.cons 4 rfl rfl ?_)
          ·
            clear F; intro hc8 F
            try rw [hc8] at F
            replace hc8 := of_decide_eq_false hc8
            refine wp_exit ?_
            refine wp_seq ?_
            replace F := F.keep [0, 1, 2, 3, 6, 7, 8, 9, 10, 11, 12] rfl
            refine wp_region_l [.ind, .ind, .wr, .wr, .ind] ([0, 1, 2, 3, 4]) rfl ?_
            refine s_I F rfl rfl rfl rfl rfl rfl ?_; clear F a; intro a F
            refine s_I F rfl rfl rfl rfl rfl rfl ?_; clear F a; intro a F
            refine s_bs F M rfl rfl rfl rfl (parts1 F rfl) (bs_119_1_H8 _) ?_; (clear F a M; try clear w); intro b73 w M a F
            refine s_apE ((γ.b : Nat)) F M.f2 rfl rfl rfl rfl tl_119_H8 rfl rfl (by exact rd_blk M.h0 rfl) rfl (by omega) (fun _ _ _ _ => pend_nil) ?_; (clear F a M; try clear w); intro A74 c74 w M a F
            refine s_I F rfl rfl rfl rfl rfl rfl ?_; clear F a; intro a F
            refine t_endM M ?_; (clear M; try clear w); intro w M
            replace F := F.keep [0, 1, 2, 3, 6, 7, 8, 9, 10, 11, 12] rfl
            refine wp_region_l [.ind, .ind, .ind, .wr, .wr, .ind] ([0, 1, 2, 3, 4, 5]) rfl ?_
            refine s_I F rfl rfl rfl rfl rfl rfl ?_; clear F a; intro a F
            refine s_I F rfl rfl rfl rfl rfl rfl ?_; clear F a; intro a F
            refine s_I F rfl rfl rfl rfl rfl rfl ?_; clear F a; intro a F
            have M1 : Sep _ _ _ (chnR γ c :: _) := M.f2; replace M := M1; clear M1
            refine s_call (m := [_]) F M rfl rfl rfl rfl rfl (rfl : _ = some [_]) cb_61_H8 (fun nd_ => c61 γ c P.W P.over _ (M.drewN nd_).own.one) ?_; (clear F a M; try clear w); rintro v x w ⟨rfl, hb2⟩ M a F; (try simp only [List.cons_append, List.nil_append] at M)
            obtain ⟨γ2, v2⟩ := x
            dsimp only at M F hb2
            obtain ⟨SA, SC, rfl⟩ := SlOk.form M.h1
            have hsl : c.startO.length ≤ 1 := by rw [P.fr0.2, tallsO_len]; exact startO_len1 _
            refine s_call (m := []) F M rfl rfl rfl rfl rfl (rfl : _ = some [_, _, _]) cb_76_H8 (fun nd_ => c76 way h c.startO _ _ _ (by exact SlOk.rd M.h5) (by exact SlOk.rd M.h1) (by omega) hh7 (by omega)) ?_; (clear F a M; try clear w); rintro v y w ⟨rfl, hP⟩ M a F; (try simp only [List.cons_append, List.nil_append] at M)
            obtain ⟨v3, wy⟩ := y
            dsimp only at M F hP
            obtain ⟨Aw, cw, rfl⟩ := SlOk.form M.h0
            refine s_I F rfl rfl rfl rfl rfl rfl ?_; clear F a; intro a F
            refine t_endM M ?_; (clear M; try clear w); intro w M
            replace F := F.keep [0, 1, 2, 3, 6, 7, 8, 9, 10, 11, 12] rfl
            refine wp_region_l [.ind, .ind, .ind] ([0, 1, 2]) rfl ?_
            refine s_I F rfl rfl rfl rfl rfl rfl ?_; clear F a; intro a F
            refine s_add F rfl rfl rfl rfl rfl rfl (by unfold In64; omega) ?_; clear F a; intro a F
            refine s_I F rfl rfl rfl rfl rfl rfl ?_; clear F a; intro a F
            refine t_endM M ?_; (clear M; try clear w); intro w M
            have M1 : Sep _ _ _ (bigR chZ _ :: _) := M.f5; replace M := M1; clear M1
            have M1 : Sep _ _ _ (chnR _ _ :: _) := M.f2; replace M := M1; clear M1
            replace M := Sep.bigSnoc (f := chZ) (y := (γ2, c.start)) M
            have hgl : gs.length = i := by rw [← hbl, ← hgs, List.length_map]
            rw [zip_snoc (hgl.trans hcl.symm)] at M
            refine again ((i + 1), (bs ++ [γ.b]), (gs ++ [γ2]), (cs ++ [c.start]), (A74), (c74), (wy), (Aw), (cw)) (by show _ < _; (try dsimp only); omega) ⟨(by omega), (by simp [hbl]), (by simp [hgs, hb2]), (by simp [hcl]), (snocF hcl hF P.fr0.1), (snocW hcl hwy P hP), (by rcases hP.2 with h9 | h9 <;> omega)⟩ (F.keep [8, 9, 10, 0, 1, 2, 3, 6, 7] rfl) ?_
            try dsimp only [List.cons_append, List.nil_append]
            refine M.pick ?_; repeat (first | exact PkG.nil | refine PkG.cons 0 rfl rfl ?_ | refine PkG.cons 1 rfl rfl ?_ | refine PkG.cons 3 rfl rfl ?_ | refine PkG.cons 6 rfl rfl ?_)
        ·
          clear F; intro hc9 F
          try rw [hc9] at F
          replace hc9 := of_decide_eq_false hc9
          refine wp_exit ?_
          refine wp_seq ?_
          refine wp_seq ?_
          obtain rfl : h = i := by omega
          replace F := F.keep [0, 1, 2, 3, 6, 7, 8, 9, 10] rfl
          refine wp_region_l [.ind] ([0]) rfl ?_
          refine s_I F rfl rfl rfl rfl rfl rfl ?_; clear F a; intro a F
          refine t_endM M ?_; (clear M; try clear w); intro w M
          refine wp_block ?_
          have M1 : Sep _ _ _ (slR (.slice _ (List.length _) _) _ 126 _ _ :: _) := M.f2; replace M := M1; clear M1
          have M1 : Sep _ _ _ (bigR chZ _ :: _) := M.f2; replace M := M1; clear M1
          refine loopX (X := (Int) × (List Gh) × (List Chn) × (List Tw) × (Option Addr) × (Nat)) F [0, 1, 2, 3, 6, 7, 8, 10] rfl (fun ((i, gs, cs, way, Aw, cw) : (Int) × (List Gh) × (List Chn) × (List Tw) × (Option Addr) × (Nat)) => (0 ≤ i) ∧ (i ≤ l.length) ∧ (gs.map (·.b) = bs) ∧ (way.length ≤ 2000) ∧ (∀ y ∈ way, y.k < h) ∧ (∃ V H, CSys n t cs (way.map (·.x)) V H)) (fun ((i, gs, cs, way, Aw, cw) : (Int) × (List Gh) × (List Chn) × (List Tw) × (Option Addr) × (Nat)) => [(9, .slice Aw way.length cw), (13, .int .i64 i)]) (fun ((i, gs, cs, way, Aw, cw) : (Int) × (List Gh) × (List Chn) × (List Tw) × (Option Addr) × (Nat)) => [bigR chZ (gs.zip cs), twR (.slice Aw (way).length cw) (way)]) (fun ((i, gs, cs, way, Aw, cw) : (Int) × (List Gh) × (List Chn) × (List Tw) × (Option Addr) × (Nat)) => l.length - i.toNat) ((0), (gs), (cs), (way), (_), (_)) M ⟨(by omega), (by omega), (by assumption), (by assumption), (fun y hy => (hwy y hy).1), (wy_sys hq (by omega) hF hwy)⟩ (F.keep [9, 13, 0, 1, 2, 3, 6, 7, 8, 10] rfl) ?_
          clear F M; clear a; (try clear w)
          rintro ⟨i, gs, cs, way, Aw, cw⟩ a w ⟨i0, i1, hgs, hw, hnd, hY⟩ F M; try dsimp only at F M
          try simp only [List.cons_append, List.nil_append] at F M
          try dsimp only at i0 i1 hgs hw hnd hY
          obtain ⟨V, H, Y⟩ := hY
          have hlen : cs.length = h := by have := Y.hn; omega
          have hgl : gs.length = h := by rw [← hbl, ← hgs, List.length_map]
          refine wp_seq ?_
          refine wp_seq ?_
          refine wp_region_l [.ind, .ind, .ind, .ind] ([0, 1, 2, 3]) rfl ?_
          refine s_I F rfl rfl rfl rfl rfl rfl ?_; clear F a; intro a F
          refine s_I F rfl rfl rfl rfl rfl rfl ?_; clear F a; intro a F
          refine s_len F rfl rfl rfl rfl sl_118_H8 rfl ?_; clear F a; intro a F
          refine s_bin F rfl rfl rfl rfl rfl rfl rfl ?_; clear F a; intro a F
          refine t_endM M ?_; (clear M; try clear w); intro w M
          refine c_if F rfl ?_ ?_
          ·
            clear F; intro hc10 F
            try rw [hc10] at F
            replace hc10 := of_decide_eq_true hc10
            refine wp_skip ?_
            refine wp_seq ?_
            refine wp_block ?_
            refine wp_seq ?_
            replace F := F.keep [0, 1, 2, 3, 6, 7, 8, 9, 10, 13] rfl
            refine wp_region_l [.ind] ([0]) rfl ?_
            refine s_I F rfl rfl rfl rfl rfl rfl ?_; clear F a; intro a F
            refine t_endM M ?_; (clear M; try clear w); intro w M
            refine wp_seq ?_
            refine wp_seq ?_
            replace M := M.nilT encTo 104 6
            refine wp_region_l [.ind, .ind, .ind, .rd, .wr, .wr] ([0, 1, 2, 3, 4, 5]) rfl ?_
            refine s_I F rfl rfl rfl rfl rfl rfl ?_; clear F a; intro a F
            refine s_I F rfl rfl rfl rfl rfl rfl ?_; clear F a; intro a F
            refine s_ix F rfl rfl rfl rfl sl_118_H8 rfl rfl (by exact M.chg.ro hro2) (by omega) (by omega) ?_; clear F a; intro e88 he88 a F
            refine s_lda F rfl rfl rfl rfl ag_123_H8 rfl rfl (rdsX (M.chg.ro hro2) (by intro e; rfl) he88) ?_; clear F a; intro a F
            refine s_alc F M rfl rfl rfl rfl zr_123_H8 rfl ?_; (clear F a M; try clear w); intro b15 w M a F
            refine s_stW F M rfl rfl rfl sz_123_H8 rfl rfl rfl rfl rfl ?_; (clear M; try clear w); intro w M
            refine t_endM M ?_; (clear M; try clear w); intro w M
            refine wp_block ?_
            refine wp_seq ?_
            replace F := F.keep [0, 1, 2, 3, 6, 7, 8, 9, 10, 13, 14, 15] rfl
            refine wp_region_l [.ind, .rd, .ind, .ind, .ind, .ind, .ind, .ind, .ind] ([0, 1, 2, 3, 4, 5, 6, 7, 8]) rfl ?_
            refine s_fa0 F rfl rfl rfl rfl fa_123_0_H8 rfl ?_; clear F a; intro a F
            refine s_ld F rfl rfl rfl rfl sc_3_H8 rfl (by exact cell_of_blk M.h0 (lit rfl)) ?_; clear F a; intro a F
            refine s_bin F rfl rfl rfl rfl rfl rfl rfl ?_; clear F a; intro a F
            refine s_I F rfl rfl rfl rfl rfl rfl ?_; clear F a; intro a F
            refine bsplit F 94 rfl ?_ ?_
            ·
              clear F; intro hc11 F
              try rw [hc11] at F
              replace hc11 := of_decide_eq_true hc11
              refine s_I F rfl rfl rfl rfl rfl rfl ?_; clear F a; intro a F
              refine s_len F rfl rfl rfl rfl sl_120_H8 rfl ?_; clear F a; intro a F
              refine s_bin F rfl rfl rfl rfl rfl rfl rfl ?_; clear F a; intro a F
              refine s_I F rfl rfl rfl rfl rfl rfl ?_; clear F a; intro a F
              refine s_I F rfl rfl rfl rfl rfl rfl ?_; clear F a; intro a F
              refine t_endM M ?_; (clear M; try clear w); intro w M
              have M1 : Sep _ _ _ (slR _ _ 104 _ _ :: _) := M.f1; replace M := M1; clear M1
              have M1 : Sep _ _ _ (slR (.slice _ (List.length _) _) _ 126 _ _ :: _) := M.f3; replace M := M1; clear M1
              have M1 : Sep _ _ _ (bigR chZ _ :: _) := M.f3; replace M := M1; clear M1
              refine cutX (X := (List Gh) × (List Chn) × (List Tw) × (Value) × (List To) × (Value)) (m0 := [_, _, _]) F [0, 1, 2, 3, 6, 7, 8, 10, 13, 15] rfl M (fun ((gs2, cs2, way2, v, out, ov) : (List Gh) × (List Chn) × (List Tw) × (Value) × (List To) × (Value)) => (gs2.map (·.b) = bs) ∧ (∀ w3 : List To, (∀ y ∈ w3, y ∈ way2.map (·.x) ∨ y ∈ out) → ∃ V H, CSys n t cs2 w3 V H) ∧ (way2.length ≤ 2000) ∧ (∀ y ∈ way2, y.k < h) ∧ (out.length ≤ 701)) (fun ((gs2, cs2, way2, v, out, ov) : (List Gh) × (List Chn) × (List Tw) × (Value) × (List To) × (Value)) => [(9, v), (14, ov)]) (fun ((gs2, cs2, way2, v, out, ov) : (List Gh) × (List Chn) × (List Tw) × (Value) × (List To) × (Value)) => [bigR chZ (gs2.zip cs2), twR v way2, tlR ov out]) ?_ ?_
              ·
                refine c_if F rfl ?_ ?_
                ·
                  clear F; intro hc12 F
                  try rw [hc12] at F
                  replace hc12 := of_decide_eq_true hc12
                  refine wp_seq ?_
                  replace F := F.keep [0, 1, 2, 3, 6, 7, 8, 9, 10, 13, 14, 15] rfl
                  refine wp_region_l [.ind, .rd, .ind, .ind, .ind, .ind, .ind, .ind, .ind] ([0, 1, 2, 3, 4, 5, 6, 7, 8]) rfl ?_
                  refine s_fa0 F rfl rfl rfl rfl fa_123_2_H8 rfl ?_; clear F a; intro a F
                  refine s_ld F rfl rfl rfl rfl sc_3_H8 rfl (by exact cell_of_blk M.h3 (lit rfl)) ?_; clear F a; intro a F
                  refine s_cu F rfl rfl rfl rfl ik_3_H8 ik_124_H8 rfl ?_; clear F a; intro a F
                  refine s_I F rfl rfl rfl rfl rfl rfl ?_; clear F a; intro a F
                  refine s_len F rfl rfl rfl rfl sl_120_H8 rfl ?_; clear F a; intro a F
                  refine s_cu F rfl rfl rfl rfl ik_3_H8 ik_124_H8 rfl ?_; clear F a; intro a F
                  refine s_remU F rfl rfl rfl rfl rfl rfl (by omega) (by omega) ?_; clear F a; intro a F
                  obtain ⟨k, hk, hk2⟩ := rem_nat e88.at_ (h := way.length) (by omega)
                  replace hk2 := hk2 (by omega)
                  rw [← hk] at F
                  refine s_ci F rfl rfl rfl rfl ik_124_H8 ik_3_H8 rfl (by omega) (by omega) ?_; clear F a; intro a F
                  refine s_I F rfl rfl rfl rfl rfl rfl ?_; clear F a; intro a F
                  refine t_endM M ?_; (clear M; try clear w); intro w M
                  refine wp_seq ?_
                  replace F := F.keep [0, 1, 2, 3, 6, 7, 8, 9, 10, 13, 14, 15, 16] rfl
                  refine wp_region_l [.ind, .ind, .ind, .rd, .wr, .wr] ([0, 1, 2, 3, 4, 5]) rfl ?_
                  refine s_I F rfl rfl rfl rfl rfl rfl ?_; clear F a; intro a F
                  refine s_I F rfl rfl rfl rfl rfl rfl ?_; clear F a; intro a F
                  refine s_ix F rfl rfl rfl rfl sl_120_H8 rfl rfl (by exact SlOk.rd M.h1) (by omega) (by omega) ?_; clear F a; intro e109 he109 a F
                  try (obtain rfl := Option.some.inj (he88.symm.trans he109))
                  refine s_lda F rfl rfl rfl rfl ag_126_H8 rfl rfl (rdsX (SlOk.rd M.h1) (by intro e; rfl) he109) ?_; clear F a; intro a F
                  refine s_alc F M rfl rfl rfl rfl zr_126_H8 rfl ?_; (clear F a M; try clear w); intro b17 w M a F
                  refine s_stW F M rfl rfl rfl sz_126_H8 rfl rfl rfl rfl rfl ?_; (clear M; try clear w); intro w M
                  refine t_endM M ?_; (clear M; try clear w); intro w M
                  refine wp_seq ?_
                  replace F := F.keep [0, 1, 2, 3, 6, 7, 8, 9, 10, 13, 14, 15, 16, 17] rfl
                  refine wp_region_t [.ind, .ind, .ind, .wr, .ind, .ind, .ind, .ind, .wr, .ind] [] (otOf [0, 1, 2, 4, 5, 6, 7, 3, 8, 9]) mixed (by kernel_rfl) ?_
                  refine s_I F rfl rfl rfl rfl rfl rfl ?_; clear F a; intro a F
                  refine s_I F rfl rfl rfl rfl rfl rfl ?_; clear F a; intro a F
                  refine s_slc F rfl rfl rfl rfl sl_120_H8 rfl rfl rfl (by exact SlOk.rd M.h2) (by omega) (by omega) (by omega) ?_; clear F a; intro a F
                  refine s_I F rfl rfl rfl rfl rfl rfl ?_; clear F a; intro a F
                  refine s_I F rfl rfl rfl rfl rfl rfl ?_; clear F a; intro a F
                  refine s_add F rfl rfl rfl rfl rfl rfl (by unfold In64; omega) ?_; clear F a; intro a F
                  refine s_slc F rfl rfl rfl rfl sl_120_H8 rfl rfl rfl (by exact SlOk.rd M.h2) (by omega) (by omega) (by omega) ?_; clear F a; intro a F
                  replace M := M.nilT encTw 126 7
                  refine s_apM (way.take (k : Int).toNat) F M rfl rfl rfl rfl tl_120_H8 rfl rfl (by exact RdSl.pre (SlOk.rd M.h3) (by intro e; rfl) _ (by omega)) (by intro e; rfl) (by simp; omega) (fun _ _ _ _ => pend_nil) ?_; (clear F a M; try clear w); intro A114 c114 w M a F
                  refine s_apM (way.drop ((k : Int) + 1).toNat) F M rfl rfl rfl rfl tl_120_H8 rfl rfl (by exact RdSl.suf (SlOk.rd M.h3) (by intro e; rfl) _ (by omega)) (by intro e; rfl) (by simp; omega) (fun _ _ _ _ => pend_nil) ?_; (clear F a M; try clear w); intro A119 c119 w M a F
                  refine s_I F rfl rfl rfl rfl rfl rfl ?_; clear F a; intro a F
                  refine t_endM M ?_; (clear M; try clear w); intro w M
                  refine wp_seq ?_
                  replace F := F.keep [0, 1, 2, 3, 6, 7, 8, 9, 10, 13, 14, 15, 16, 17] rfl
                  refine wp_region_l [.ind, .rd, .ind] ([0, 1, 2]) rfl ?_
                  refine s_fa0 F rfl rfl rfl rfl fa_123_0_H8 rfl ?_; clear F a; intro a F
                  refine s_ld F rfl rfl rfl rfl sc_3_H8 rfl (by exact cell_of_blk M.h5 (lit rfl)) ?_; clear F a; intro a F
                  refine s_bin F rfl rfl rfl rfl rfl rfl rfl ?_; clear F a; intro a F
                  refine t_endM M ?_; (clear M; try clear w); intro w M
                  refine c_if F rfl ?_ ?_
                  ·
                    clear F; intro hc13 F
                    try rw [hc13] at F
                    replace hc13 := of_decide_eq_true hc13
                    replace F := F.keep [0, 1, 2, 3, 6, 7, 8, 9, 10, 13, 14, 15, 16, 17] rfl
                    refine wp_region_t [.ind, .ind, .rd, .ind, .rd, .ind, .rd, .wr, .ind] [] (otOf [0, 1, 2, 3, 4, 5, 6, 7, 8]) mixed (by kernel_rfl) ?_
                    refine s_I F rfl rfl rfl rfl rfl rfl ?_; clear F a; intro a F
                    refine s_fa0 F rfl rfl rfl rfl fa_126_0_H8 rfl ?_; clear F a; intro a F
                    refine s_ld F rfl rfl rfl rfl sc_3_H8 rfl (by exact cell_of_blk M.h1 (lit rfl)) ?_; clear F a; intro a F
                    have hk9 := hnd e109 (List.mem_of_getElem? he109)
                    refine s_ix F rfl rfl rfl rfl sl_119_H8 rfl rfl (by exact SlOk.rd M.h6) (by omega) (by omega) ?_; clear F a; intro e126 he126 a F
                    try (obtain rfl := Option.some.inj (he88.symm.trans he126))
                    try (obtain rfl := Option.some.inj (he109.symm.trans he126))
                    rw [Int.toNat_natCast] at he126
                    obtain ⟨g1, hg1, hgb1⟩ := g_at hgs he126
                    obtain ⟨c1, hcc_1⟩ : ∃ c0, cs[e109.k]? = some c0 := ⟨cs[e109.k]'(by omega), List.getElem?_eq_getElem _⟩
                    have C1 := Y.cw _ _ hcc_1
                    have M1 : Sep _ _ _ (bigR chZ _ :: _) := M.f2; replace M := M1; clear M1
                    replace M := M.bigOut (zip_at hg1 hcc_1)
                    refine s_ld F rfl rfl rfl rfl sc_87_H8 rfl (by exact rdX0 (SlOk.rd M.h7) (by intro e; rfl) he126 rfl) ?_; clear F a; intro a F
                    rw [← hgb1] at F
                    refine s_fa0 F rfl rfl rfl rfl fa_126_1_H8 rfl ?_; clear F a; intro a F
                    refine s_lda F rfl rfl rfl rfl ag_104_H8 rfl rfl (tw_tall M.h3) ?_; clear F a; intro a F
                    have M1 : Sep _ _ _ (chnR g1 c1 :: _) := M; replace M := M1; clear M1
                    refine s_call (m := [_]) F M rfl rfl rfl rfl rfl (rfl : _ = some [_, _]) cb_71_H8 (fun nd_ => c71 g1 c1 C1.W e109.x _ (M.drewN nd_).own.one) ?_; (clear F a M; try clear w); rintro v y w ⟨rfl, hb3⟩ M a F; (try simp only [List.cons_append, List.nil_append] at M)
                    obtain ⟨γ1, v1⟩ := y
                    dsimp only at M F hb3
                    obtain ⟨OA, OC, rfl⟩ := SlOk.form M.h1
                    have hol2 := takeO_len C1.W e109.x
                    have M1 : Sep _ _ _ (bigR chZ _ :: _) := M.f2; replace M := M1; clear M1
                    have M1 : Sep _ _ _ (chnR _ _ :: _) := M.f1; replace M := M1; clear M1
                    replace M := Sep.bigIn (f := chZ) (xs := gs.zip cs) (i := e109.k) (y := (γ1, c1.take e109.x)) M (by rw [List.length_zip]; omega)
                    rw [zip_set] at M
                    have hgs3 := map_set_b hgs hg1 hb3
                    have hY3 : ∀ w3 : List To, (∀ y ∈ w3, y ∈ way.map (·.x) ∨ y ∈ c1.takeO e109.x) → ∃ V H, CSys n t (cs.set (e109.k) (c1.take e109.x)) w3 V H := fun w3 h3 => Y.take hcc_1 (.inl (mem_x (List.mem_of_getElem? he109))) h3
                    obtain ⟨gs2, eg2⟩ : ∃ q, q = gs.set (e109.k) γ1 := ⟨_, rfl⟩
                    obtain ⟨cs2, ec2⟩ : ∃ q, q = cs.set (e109.k) (c1.take e109.x) := ⟨_, rfl⟩
                    obtain ⟨out2, eo2⟩ : ∃ q, q = c1.takeO e109.x := ⟨_, rfl⟩
                    rw [← eg2, ← ec2] at M
                    rw [← eo2] at M F hol2 hY3
                    rw [← ec2] at hY3
                    rw [← eg2] at hgs3
                    refine s_I F rfl rfl rfl rfl rfl rfl ?_; clear F a; intro a F
                    refine t_endM M ?_; (clear M; try clear w); intro w M
                    refine joined ((gs2), (cs2), (way.take (k : Int).toNat ++ way.drop ((k : Int) + 1).toNat), (_), (out2), (_)) ⟨hgs3, (fun w3 h => hY3 w3 fun y hy => (h y hy).imp map_cut id), (by simp; omega), (fun y hy => hnd y (mem_cut hy)), hol2⟩ (F.keep [9, 14, 0, 1, 2, 3, 6, 7, 8, 10, 13, 15] rfl) ?_; (try dsimp only [List.cons_append, List.nil_append]); (refine M.pick ?_; repeat (first | exact PkG.nil | refine PkG.cons 0 rfl rfl ?_ | refine PkG.cons 1 rfl rfl ?_ | refine PkG.cons 2 rfl rfl ?_ | refine PkG.cons 6 rfl rfl ?_ | refine PkG.cons 7 rfl rfl ?_ | refine PkG.cons 8 rfl rfl ?_)); done
                  ·
                    clear F; intro hc14 F
                    try rw [hc14] at F
                    replace hc14 := of_decide_eq_false hc14
                    refine wp_skip ?_
                    refine joined ((gs), (cs), (way.take (k : Int).toNat ++ way.drop ((k : Int) + 1).toNat), (_), ([]), (_)) ⟨hgs, (fun w3 h => ⟨V, H, Y.mono fun y hy => (h y hy).elim map_cut (fun e => by cases e)⟩), (by simp; omega), (fun y hy => hnd y (mem_cut hy)), (by simp)⟩ (F.keep [9, 14, 0, 1, 2, 3, 6, 7, 8, 10, 13, 15] rfl) ?_; (try dsimp only [List.cons_append, List.nil_append]); (refine M.pick ?_; repeat (first | exact PkG.nil | refine PkG.cons 0 rfl rfl ?_ | refine PkG.cons 2 rfl rfl ?_ | refine PkG.cons 4 rfl rfl ?_ | refine PkG.cons 5 rfl rfl ?_ | refine PkG.cons 6 rfl rfl ?_ | refine PkG.cons 7 rfl rfl ?_)); done
                ·
                  clear F; intro hc15 F
                  try rw [hc15] at F
                  replace hc15 := of_decide_eq_false hc15
                  refine wp_seq ?_
                  replace F := F.keep [0, 1, 2, 3, 6, 7, 8, 9, 10, 13, 14, 15] rfl
                  refine wp_region_l [.ind, .rd, .ind, .ind, .ind, .ind, .ind, .rd, .ind, .ind, .ind, .ind] ([0, 1, 2, 3, 4, 5, 6, 7, 8, 9, 10, 11]) rfl ?_
                  refine s_fa0 F rfl rfl rfl rfl fa_123_0_H8 rfl ?_; clear F a; intro a F
                  refine s_ld F rfl rfl rfl rfl sc_3_H8 rfl (by exact cell_of_blk M.h3 (lit rfl)) ?_; clear F a; intro a F
                  refine s_bin F rfl rfl rfl rfl rfl rfl rfl ?_; clear F a; intro a F
                  refine s_I F rfl rfl rfl rfl rfl rfl ?_; clear F a; intro a F
                  refine bsplit F 135 rfl ?_ ?_
                  ·
                    clear F; intro hc16 F
                    try rw [hc16] at F
                    replace hc16 := of_decide_eq_true hc16
                    refine s_fa0 F rfl rfl rfl rfl fa_123_3_H8 rfl ?_; clear F a; intro a F
                    refine s_fa F rfl rfl rfl rfl fa_104_1_H8 rfl ?_; clear F a; intro a F
                    refine s_fa F rfl rfl rfl rfl fa_32_1_H8 rfl ?_; clear F a; intro a F
                    refine s_ld F rfl rfl rfl rfl sc_3_H8 rfl (by exact cell_of_blk M.h3 (lit rfl)) ?_; clear F a; intro a F
                    refine s_I F rfl rfl rfl rfl rfl rfl ?_; clear F a; intro a F
                    refine s_bin F rfl rfl rfl rfl rfl rfl rfl ?_; clear F a; intro a F
                    refine s_I F rfl rfl rfl rfl rfl rfl ?_; clear F a; intro a F
                    refine s_I F rfl rfl rfl rfl rfl rfl ?_; clear F a; intro a F
                    refine t_endM M ?_; (clear M; try clear w); intro w M
                    refine c_if F rfl ?_ ?_
                    ·
                      clear F; intro hc17 F
                      try rw [hc17] at F
                      replace hc17 := of_decide_eq_true hc17
                      replace F := F.keep [0, 1, 2, 3, 6, 7, 8, 9, 10, 13, 14, 15] rfl
                      refine wp_region_t [.ind, .ind, .rd, .ind, .ind, .ind, .ind, .ind, .ind, .rd, .ind, .rd, .wr, .ind] [] (otOf [0, 1, 2, 3, 4, 5, 6, 7, 8, 9, 10, 11, 12, 13]) mixed (by kernel_rfl) ?_
                      refine s_I F rfl rfl rfl rfl rfl rfl ?_; clear F a; intro a F
                      refine s_fa0 F rfl rfl rfl rfl fa_123_1_H8 rfl ?_; clear F a; intro a F
                      refine s_ld F rfl rfl rfl rfl sc_3_H8 rfl (by exact cell_of_blk M.h3 (lit rfl)) ?_; clear F a; intro a F
                      refine s_cu F rfl rfl rfl rfl ik_3_H8 ik_124_H8 rfl ?_; clear F a; intro a F
                      refine s_I F rfl rfl rfl rfl rfl rfl ?_; clear F a; intro a F
                      refine s_cu F rfl rfl rfl rfl ik_3_H8 ik_124_H8 rfl ?_; clear F a; intro a F
                      refine s_remU F rfl rfl rfl rfl rfl rfl (by omega) (by omega) ?_; clear F a; intro a F
                      obtain ⟨k, hk, hk2⟩ := rem_nat e88.node (h := h) (by omega)
                      replace hk2 := hk2 (by omega)
                      rw [← hk] at F
                      refine s_ci F rfl rfl rfl rfl ik_124_H8 ik_3_H8 rfl (by omega) (by omega) ?_; clear F a; intro a F
                      refine s_ix F rfl rfl rfl rfl sl_119_H8 rfl rfl (by exact SlOk.rd M.h4) (by omega) (by omega) ?_; clear F a; intro e151 he151 a F
                      try (obtain rfl := Option.some.inj (he88.symm.trans he151))
                      rw [Int.toNat_natCast] at he151
                      obtain ⟨g1, hg1, hgb1⟩ := g_at hgs he151
                      obtain ⟨c1, hcc_1⟩ : ∃ c0, cs[k]? = some c0 := ⟨cs[k]'(by omega), List.getElem?_eq_getElem _⟩
                      have C1 := Y.cw _ _ hcc_1
                      have M1 : Sep _ _ _ (bigR chZ _ :: _) := M; replace M := M1; clear M1
                      replace M := M.bigOut (zip_at hg1 hcc_1)
                      refine s_ld F rfl rfl rfl rfl sc_87_H8 rfl (by exact rdX0 (SlOk.rd M.h5) (by intro e; rfl) he151 rfl) ?_; clear F a; intro a F
                      rw [← hgb1] at F
                      refine s_fa0 F rfl rfl rfl rfl fa_123_3_H8 rfl ?_; clear F a; intro a F
                      refine s_lda F rfl rfl rfl rfl ag_104_H8 rfl rfl (bg_tall M.h4) ?_; clear F a; intro a F
                      have M1 : Sep _ _ _ (chnR g1 c1 :: _) := M; replace M := M1; clear M1
                      refine s_call (m := [_]) F M rfl rfl rfl rfl rfl (rfl : _ = some [_, _]) cb_71_H8 (fun nd_ => c71 g1 c1 C1.W e88.x _ (M.drewN nd_).own.one) ?_; (clear F a M; try clear w); rintro v y w ⟨rfl, hb3⟩ M a F; (try simp only [List.cons_append, List.nil_append] at M)
                      obtain ⟨γ1, v1⟩ := y
                      dsimp only at M F hb3
                      obtain ⟨OA, OC, rfl⟩ := SlOk.form M.h1
                      have hol2 := takeO_len C1.W e88.x
                      have M1 : Sep _ _ _ (bigR chZ _ :: _) := M.f2; replace M := M1; clear M1
                      have M1 : Sep _ _ _ (chnR _ _ :: _) := M.f1; replace M := M1; clear M1
                      replace M := Sep.bigIn (f := chZ) (xs := gs.zip cs) (i := k) (y := (γ1, c1.take e88.x)) M (by rw [List.length_zip]; omega)
                      rw [zip_set] at M
                      have hgs3 := map_set_b hgs hg1 hb3
                      have hY3 : ∀ w3 : List To, (∀ y ∈ w3, y ∈ way.map (·.x) ∨ y ∈ c1.takeO e88.x) → ∃ V H, CSys n t (cs.set (k) (c1.take e88.x)) w3 V H := fun w3 h3 => Y.take hcc_1 (.inr (by have := Y.hn; omega)) h3
                      obtain ⟨gs2, eg2⟩ : ∃ q, q = gs.set (k) γ1 := ⟨_, rfl⟩
                      obtain ⟨cs2, ec2⟩ : ∃ q, q = cs.set (k) (c1.take e88.x) := ⟨_, rfl⟩
                      obtain ⟨out2, eo2⟩ : ∃ q, q = c1.takeO e88.x := ⟨_, rfl⟩
                      rw [← eg2, ← ec2] at M
                      rw [← eo2] at M F hol2 hY3
                      rw [← ec2] at hY3
                      rw [← eg2] at hgs3
                      refine s_I F rfl rfl rfl rfl rfl rfl ?_; clear F a; intro a F
                      refine t_endM M ?_; (clear M; try clear w); intro w M
                      refine joined ((gs2), (cs2), (way), (_), (out2), (_)) ⟨hgs3, hY3, hw, hnd, hol2⟩ (F.keep [9, 14, 0, 1, 2, 3, 6, 7, 8, 10, 13, 15] rfl) ?_; (try dsimp only [List.cons_append, List.nil_append]); (refine M.pick ?_; repeat (first | exact PkG.nil | refine PkG.cons 0 rfl rfl ?_ | refine PkG.cons 1 rfl rfl ?_ | refine PkG.cons 2 rfl rfl ?_ | refine PkG.cons 4 rfl rfl ?_ | refine PkG.cons 5 rfl rfl ?_ | refine PkG.cons 6 rfl rfl ?_)); done
                    ·
                      clear F; intro hc18 F
                      try rw [hc18] at F
                      replace hc18 := of_decide_eq_false hc18
                      refine wp_seq ?_
                      replace F := F.keep [0, 1, 2, 3, 6, 7, 8, 9, 10, 13, 14, 15] rfl
                      refine wp_region_l [.ind, .rd, .ind, .ind] ([0, 1, 2, 3]) rfl ?_
                      refine s_fa0 F rfl rfl rfl rfl fa_123_0_H8 rfl ?_; clear F a; intro a F
                      refine s_ld F rfl rfl rfl rfl sc_3_H8 rfl (by exact cell_of_blk M.h3 (lit rfl)) ?_; clear F a; intro a F
                      refine s_bin F rfl rfl rfl rfl rfl rfl rfl ?_; clear F a; intro a F
                      refine s_I F rfl rfl rfl rfl rfl rfl ?_; clear F a; intro a F
                      refine t_endM M ?_; (clear M; try clear w); intro w M
                      refine c_if F rfl ?_ ?_
                      ·
                        clear F; intro hc19 F
                        try rw [hc19] at F
                        replace hc19 := of_decide_eq_true hc19
                        replace F := F.keep [0, 1, 2, 3, 6, 7, 8, 9, 10, 13, 14, 15] rfl
                        refine wp_region_t [.ind, .ind, .rd, .ind, .ind, .ind, .ind, .ind, .ind, .rd, .ind, .rd, .wr, .ind] [] (otOf [0, 1, 2, 3, 4, 5, 6, 7, 8, 9, 10, 11, 12, 13]) mixed (by kernel_rfl) ?_
                        refine s_I F rfl rfl rfl rfl rfl rfl ?_; clear F a; intro a F
                        refine s_fa0 F rfl rfl rfl rfl fa_123_1_H8 rfl ?_; clear F a; intro a F
                        refine s_ld F rfl rfl rfl rfl sc_3_H8 rfl (by exact cell_of_blk M.h3 (lit rfl)) ?_; clear F a; intro a F
                        refine s_cu F rfl rfl rfl rfl ik_3_H8 ik_124_H8 rfl ?_; clear F a; intro a F
                        refine s_I F rfl rfl rfl rfl rfl rfl ?_; clear F a; intro a F
                        refine s_cu F rfl rfl rfl rfl ik_3_H8 ik_124_H8 rfl ?_; clear F a; intro a F
                        refine s_remU F rfl rfl rfl rfl rfl rfl (by omega) (by omega) ?_; clear F a; intro a F
                        obtain ⟨k, hk, hk2⟩ := rem_nat e88.node (h := h) (by omega)
                        replace hk2 := hk2 (by omega)
                        rw [← hk] at F
                        refine s_ci F rfl rfl rfl rfl ik_124_H8 ik_3_H8 rfl (by omega) (by omega) ?_; clear F a; intro a F
                        refine s_ix F rfl rfl rfl rfl sl_119_H8 rfl rfl (by exact SlOk.rd M.h4) (by omega) (by omega) ?_; clear F a; intro e168 he168 a F
                        try (obtain rfl := Option.some.inj (he88.symm.trans he168))
                        rw [Int.toNat_natCast] at he168
                        obtain ⟨g1, hg1, hgb1⟩ := g_at hgs he168
                        obtain ⟨c1, hcc_1⟩ : ∃ c0, cs[k]? = some c0 := ⟨cs[k]'(by omega), List.getElem?_eq_getElem _⟩
                        have C1 := Y.cw _ _ hcc_1
                        have M1 : Sep _ _ _ (bigR chZ _ :: _) := M; replace M := M1; clear M1
                        replace M := M.bigOut (zip_at hg1 hcc_1)
                        refine s_ld F rfl rfl rfl rfl sc_87_H8 rfl (by exact rdX0 (SlOk.rd M.h5) (by intro e; rfl) he168 rfl) ?_; clear F a; intro a F
                        rw [← hgb1] at F
                        refine s_fa0 F rfl rfl rfl rfl fa_123_2_H8 rfl ?_; clear F a; intro a F
                        refine s_ld F rfl rfl rfl rfl sc_3_H8 rfl (by exact cell_of_blk M.h4 (lit rfl)) ?_; clear F a; intro a F
                        have M1 : Sep _ _ _ (chnR g1 c1 :: _) := M; replace M := M1; clear M1
                        refine s_call (m := [_]) F M rfl rfl rfl rfl rfl (rfl : _ = some [_, _]) cb_73_H8 (fun nd_ => c73 g1 c1 C1.W e88.at_ _ (M.drewN nd_).own.one) ?_; (clear F a M; try clear w); rintro v y w ⟨rfl, hb3⟩ M a F; (try simp only [List.cons_append, List.nil_append] at M)
                        obtain ⟨γ1, v1⟩ := y
                        dsimp only at M F hb3
                        obtain ⟨OA, OC, rfl⟩ := SlOk.form M.h1
                        have hol2 := wordO_len C1.W (c1.tmo e88.at_)
                        have M1 : Sep _ _ _ (bigR chZ _ :: _) := M.f2; replace M := M1; clear M1
                        have M1 : Sep _ _ _ (chnR _ _ :: _) := M.f1; replace M := M1; clear M1
                        replace M := Sep.bigIn (f := chZ) (xs := gs.zip cs) (i := k) (y := (γ1, c1.word (c1.tmo e88.at_))) M (by rw [List.length_zip]; omega)
                        rw [zip_set] at M
                        have hgs3 := map_set_b hgs hg1 hb3
                        have hY3 : ∀ w3 : List To, (∀ y ∈ w3, y ∈ way.map (·.x) ∨ y ∈ c1.wordO (c1.tmo e88.at_)) → ∃ V H, CSys n t (cs.set (k) (c1.word (c1.tmo e88.at_))) w3 V H := fun w3 h3 => Y.tmo hcc_1 h3
                        obtain ⟨gs2, eg2⟩ : ∃ q, q = gs.set (k) γ1 := ⟨_, rfl⟩
                        obtain ⟨cs2, ec2⟩ : ∃ q, q = cs.set (k) (c1.word (c1.tmo e88.at_)) := ⟨_, rfl⟩
                        obtain ⟨out2, eo2⟩ : ∃ q, q = c1.wordO (c1.tmo e88.at_) := ⟨_, rfl⟩
                        rw [← eg2, ← ec2] at M
                        rw [← eo2] at M F hol2 hY3
                        rw [← ec2] at hY3
                        rw [← eg2] at hgs3
                        refine s_I F rfl rfl rfl rfl rfl rfl ?_; clear F a; intro a F
                        refine t_endM M ?_; (clear M; try clear w); intro w M
                        refine joined ((gs2), (cs2), (way), (_), (out2), (_)) ⟨hgs3, hY3, hw, hnd, hol2⟩ (F.keep [9, 14, 0, 1, 2, 3, 6, 7, 8, 10, 13, 15] rfl) ?_; (try dsimp only [List.cons_append, List.nil_append]); (refine M.pick ?_; repeat (first | exact PkG.nil | refine PkG.cons 0 rfl rfl ?_ | refine PkG.cons 1 rfl rfl ?_ | refine PkG.cons 2 rfl rfl ?_ | refine PkG.cons 4 rfl rfl ?_ | refine PkG.cons 5 rfl rfl ?_ | refine PkG.cons 6 rfl rfl ?_)); done
                      ·
                        clear F; intro hc20 F
                        try rw [hc20] at F
                        replace hc20 := of_decide_eq_false hc20
                        refine wp_skip ?_
                        refine joined ((gs), (cs), (way), (_), ([]), (_)) ⟨hgs, (fun w3 h => ⟨V, H, Y.mono fun y hy => (h y hy).elim id (fun e => by cases e)⟩), hw, hnd, (by simp)⟩ (F.keep [9, 14, 0, 1, 2, 3, 6, 7, 8, 10, 13, 15] rfl) ?_; (try dsimp only [List.cons_append, List.nil_append]); (refine M.pick ?_; repeat (first | exact PkG.nil | refine PkG.cons 0 rfl rfl ?_ | refine PkG.cons 1 rfl rfl ?_ | refine PkG.cons 2 rfl rfl ?_ | refine PkG.cons 3 rfl rfl ?_ | refine PkG.cons 4 rfl rfl ?_ | refine PkG.cons 5 rfl rfl ?_)); done
                  ·
                    clear F; intro hc21 F
                    try rw [hc21] at F
                    replace hc21 := of_decide_eq_false hc21
                    refine s_no F rfl rfl rfl rfl ?_; clear F a; intro a F
                    refine s_no F rfl rfl rfl rfl ?_; clear F a; intro a F
                    refine s_no F rfl rfl rfl rfl ?_; clear F a; intro a F
                    refine s_no F rfl rfl rfl rfl ?_; clear F a; intro a F
                    refine s_no F rfl rfl rfl rfl ?_; clear F a; intro a F
                    refine s_no F rfl rfl rfl rfl ?_; clear F a; intro a F
                    refine s_I F rfl rfl rfl rfl rfl rfl ?_; clear F a; intro a F
                    refine s_I F rfl rfl rfl rfl rfl rfl ?_; clear F a; intro a F
                    refine t_endM M ?_; (clear M; try clear w); intro w M
                    refine c_f F rfl ?_
                    refine wp_seq ?_
                    replace F := F.keep [0, 1, 2, 3, 6, 7, 8, 9, 10, 13, 14, 15] rfl
                    refine wp_region_l [.ind, .rd, .ind, .ind] ([0, 1, 2, 3]) rfl ?_
                    refine s_fa0 F rfl rfl rfl rfl fa_123_0_H8 rfl ?_; clear F a; intro a F
                    refine s_ld F rfl rfl rfl rfl sc_3_H8 rfl (by exact cell_of_blk M.h3 (lit rfl)) ?_; clear F a; intro a F
                    refine s_bin F rfl rfl rfl rfl rfl rfl rfl ?_; clear F a; intro a F
                    refine s_I F rfl rfl rfl rfl rfl rfl ?_; clear F a; intro a F
                    refine t_endM M ?_; (clear M; try clear w); intro w M
                    refine c_if F rfl ?_ ?_
                    ·
                      clear F; intro hc22 F
                      try rw [hc22] at F
                      replace hc22 := of_decide_eq_true hc22
                      replace F := F.keep [0, 1, 2, 3, 6, 7, 8, 9, 10, 13, 14, 15] rfl
                      refine wp_region_t [.ind, .ind, .rd, .ind, .ind, .ind, .ind, .ind, .ind, .rd, .ind, .rd, .wr, .ind] [] (otOf [0, 1, 2, 3, 4, 5, 6, 7, 8, 9, 10, 11, 12, 13]) mixed (by kernel_rfl) ?_
                      refine s_I F rfl rfl rfl rfl rfl rfl ?_; clear F a; intro a F
                      refine s_fa0 F rfl rfl rfl rfl fa_123_1_H8 rfl ?_; clear F a; intro a F
                      refine s_ld F rfl rfl rfl rfl sc_3_H8 rfl (by exact cell_of_blk M.h3 (lit rfl)) ?_; clear F a; intro a F
                      refine s_cu F rfl rfl rfl rfl ik_3_H8 ik_124_H8 rfl ?_; clear F a; intro a F
                      refine s_I F rfl rfl rfl rfl rfl rfl ?_; clear F a; intro a F
                      refine s_cu F rfl rfl rfl rfl ik_3_H8 ik_124_H8 rfl ?_; clear F a; intro a F
                      refine s_remU F rfl rfl rfl rfl rfl rfl (by omega) (by omega) ?_; clear F a; intro a F
                      obtain ⟨k, hk, hk2⟩ := rem_nat e88.node (h := h) (by omega)
                      replace hk2 := hk2 (by omega)
                      rw [← hk] at F
                      refine s_ci F rfl rfl rfl rfl ik_124_H8 ik_3_H8 rfl (by omega) (by omega) ?_; clear F a; intro a F
                      refine s_ix F rfl rfl rfl rfl sl_119_H8 rfl rfl (by exact SlOk.rd M.h4) (by omega) (by omega) ?_; clear F a; intro e168 he168 a F
                      try (obtain rfl := Option.some.inj (he88.symm.trans he168))
                      rw [Int.toNat_natCast] at he168
                      obtain ⟨g1, hg1, hgb1⟩ := g_at hgs he168
                      obtain ⟨c1, hcc_1⟩ : ∃ c0, cs[k]? = some c0 := ⟨cs[k]'(by omega), List.getElem?_eq_getElem _⟩
                      have C1 := Y.cw _ _ hcc_1
                      have M1 : Sep _ _ _ (bigR chZ _ :: _) := M; replace M := M1; clear M1
                      replace M := M.bigOut (zip_at hg1 hcc_1)
                      refine s_ld F rfl rfl rfl rfl sc_87_H8 rfl (by exact rdX0 (SlOk.rd M.h5) (by intro e; rfl) he168 rfl) ?_; clear F a; intro a F
                      rw [← hgb1] at F
                      refine s_fa0 F rfl rfl rfl rfl fa_123_2_H8 rfl ?_; clear F a; intro a F
                      refine s_ld F rfl rfl rfl rfl sc_3_H8 rfl (by exact cell_of_blk M.h4 (lit rfl)) ?_; clear F a; intro a F
                      have M1 : Sep _ _ _ (chnR g1 c1 :: _) := M; replace M := M1; clear M1
                      refine s_call (m := [_]) F M rfl rfl rfl rfl rfl (rfl : _ = some [_, _]) cb_73_H8 (fun nd_ => c73 g1 c1 C1.W e88.at_ _ (M.drewN nd_).own.one) ?_; (clear F a M; try clear w); rintro v y w ⟨rfl, hb3⟩ M a F; (try simp only [List.cons_append, List.nil_append] at M)
                      obtain ⟨γ1, v1⟩ := y
                      dsimp only at M F hb3
                      obtain ⟨OA, OC, rfl⟩ := SlOk.form M.h1
                      have hol2 := wordO_len C1.W (c1.tmo e88.at_)
                      have M1 : Sep _ _ _ (bigR chZ _ :: _) := M.f2; replace M := M1; clear M1
                      have M1 : Sep _ _ _ (chnR _ _ :: _) := M.f1; replace M := M1; clear M1
                      replace M := Sep.bigIn (f := chZ) (xs := gs.zip cs) (i := k) (y := (γ1, c1.word (c1.tmo e88.at_))) M (by rw [List.length_zip]; omega)
                      rw [zip_set] at M
                      have hgs3 := map_set_b hgs hg1 hb3
                      have hY3 : ∀ w3 : List To, (∀ y ∈ w3, y ∈ way.map (·.x) ∨ y ∈ c1.wordO (c1.tmo e88.at_)) → ∃ V H, CSys n t (cs.set (k) (c1.word (c1.tmo e88.at_))) w3 V H := fun w3 h3 => Y.tmo hcc_1 h3
                      obtain ⟨gs2, eg2⟩ : ∃ q, q = gs.set (k) γ1 := ⟨_, rfl⟩
                      obtain ⟨cs2, ec2⟩ : ∃ q, q = cs.set (k) (c1.word (c1.tmo e88.at_)) := ⟨_, rfl⟩
                      obtain ⟨out2, eo2⟩ : ∃ q, q = c1.wordO (c1.tmo e88.at_) := ⟨_, rfl⟩
                      rw [← eg2, ← ec2] at M
                      rw [← eo2] at M F hol2 hY3
                      rw [← ec2] at hY3
                      rw [← eg2] at hgs3
                      refine s_I F rfl rfl rfl rfl rfl rfl ?_; clear F a; intro a F
                      refine t_endM M ?_; (clear M; try clear w); intro w M
                      refine joined ((gs2), (cs2), (way), (_), (out2), (_)) ⟨hgs3, hY3, hw, hnd, hol2⟩ (F.keep [9, 14, 0, 1, 2, 3, 6, 7, 8, 10, 13, 15] rfl) ?_; (try dsimp only [List.cons_append, List.nil_append]); (refine M.pick ?_; repeat (first | exact PkG.nil | refine PkG.cons 0 rfl rfl ?_ | refine PkG.cons 1 rfl rfl ?_ | refine PkG.cons 2 rfl rfl ?_ | refine PkG.cons 4 rfl rfl ?_ | refine PkG.cons 5 rfl rfl ?_ | refine PkG.cons 6 rfl rfl ?_)); done
                    ·
                      clear F; intro hc23 F
                      try rw [hc23] at F
                      replace hc23 := of_decide_eq_false hc23
                      refine wp_skip ?_
                      refine joined ((gs), (cs), (way), (_), ([]), (_)) ⟨hgs, (fun w3 h => ⟨V, H, Y.mono fun y hy => (h y hy).elim id (fun e => by cases e)⟩), hw, hnd, (by simp)⟩ (F.keep [9, 14, 0, 1, 2, 3, 6, 7, 8, 10, 13, 15] rfl) ?_; (try dsimp only [List.cons_append, List.nil_append]); (refine M.pick ?_; repeat (first | exact PkG.nil | refine PkG.cons 0 rfl rfl ?_ | refine PkG.cons 1 rfl rfl ?_ | refine PkG.cons 2 rfl rfl ?_ | refine PkG.cons 3 rfl rfl ?_ | refine PkG.cons 4 rfl rfl ?_ | refine PkG.cons 5 rfl rfl ?_)); done
              ·
                clear F M; clear a; (try clear w)
                rintro ⟨gs2, cs2, way2, v, out, ov⟩ a w ⟨hgs2, hY2, hw2, hnd2, hol⟩ F M; try dsimp only at F M
                try simp only [List.cons_append, List.nil_append] at F M
                try dsimp only at hgs2 hY2 hw2 hnd2 hol
                refine wp_region_l [.ind, .ind, .ind, .wr, .ind] ([0, 1, 2, 3, 4]) rfl ?_
                refine s_I F rfl rfl rfl rfl rfl rfl ?_; clear F a; intro a F
                refine s_I F rfl rfl rfl rfl rfl rfl ?_; clear F a; intro a F
                refine s_I F rfl rfl rfl rfl rfl rfl ?_; clear F a; intro a F
                refine s_call (m := []) F M rfl rfl rfl rfl rfl (rfl : _ = some [_, _, _]) cb_76_H8 (fun nd_ => c76 way2 h out _ _ _ (by exact SlOk.rd M.h1) (by exact SlOk.rd M.h2) (by omega) hh7 (by omega)) ?_; (clear F a M; try clear w); rintro v y w ⟨rfl, hP⟩ M a F; (try simp only [List.cons_append, List.nil_append] at M)
                obtain ⟨v3, wy⟩ := y
                dsimp only at M F hP
                obtain ⟨Aw, cw, rfl⟩ := SlOk.form M.h0
                refine s_I F rfl rfl rfl rfl rfl rfl ?_; clear F a; intro a F
                refine t_endM M ?_; (clear M; try clear w); intro w M
                replace F := F.keep [0, 1, 2, 3, 6, 7, 8, 9, 10, 13, 14, 15] rfl
                refine wp_region_l [.ind, .ind, .ind] ([0, 1, 2]) rfl ?_
                refine s_I F rfl rfl rfl rfl rfl rfl ?_; clear F a; intro a F
                refine s_add F rfl rfl rfl rfl rfl rfl (by unfold In64; omega) ?_; clear F a; intro a F
                refine s_I F rfl rfl rfl rfl rfl rfl ?_; clear F a; intro a F
                refine t_endM M ?_; (clear M; try clear w); intro w M
                refine again ((i + 1), (gs2), (cs2), (wy), (_), (_)) (by show _ < _; (try dsimp only); omega) ⟨(by omega), (by assumption), hgs2, (by rcases hP.2 with h9 | h9 <;> omega), (fun y hy => (hP.1 y hy).elim (hnd2 y) (fun h9 => h9.1)), (hY2 _ (fun y hy => ontoX hP hy))⟩ (F.keep [9, 13, 0, 1, 2, 3, 6, 7, 8, 10] rfl) ?_
                try dsimp only [List.cons_append, List.nil_append]
                refine M.pick ?_; repeat (first | exact PkG.nil | refine PkG.cons 0 rfl rfl ?_ | refine PkG.cons 1 rfl rfl ?_ | refine PkG.cons 5 rfl rfl ?_ | refine PkG.cons 6 rfl rfl ?_)
            ·
              clear F; intro hc24 F
              try rw [hc24] at F
              replace hc24 := of_decide_eq_false hc24
              refine s_no F rfl rfl rfl rfl ?_; clear F a; intro a F
              refine s_no F rfl rfl rfl rfl ?_; clear F a; intro a F
              refine s_no F rfl rfl rfl rfl ?_; clear F a; intro a F
              refine s_I F rfl rfl rfl rfl rfl rfl ?_; clear F a; intro a F
              refine s_I F rfl rfl rfl rfl rfl rfl ?_; clear F a; intro a F
              refine t_endM M ?_; (clear M; try clear w); intro w M
              have M1 : Sep _ _ _ (slR _ _ 104 _ _ :: _) := M.f1; replace M := M1; clear M1
              have M1 : Sep _ _ _ (slR (.slice _ (List.length _) _) _ 126 _ _ :: _) := M.f3; replace M := M1; clear M1
              have M1 : Sep _ _ _ (bigR chZ _ :: _) := M.f3; replace M := M1; clear M1
              refine cutX (X := (List Gh) × (List Chn) × (List Tw) × (Value) × (List To) × (Value)) (m0 := [_, _, _]) F [0, 1, 2, 3, 6, 7, 8, 10, 13, 15] rfl M (fun ((gs2, cs2, way2, v, out, ov) : (List Gh) × (List Chn) × (List Tw) × (Value) × (List To) × (Value)) => (gs2.map (·.b) = bs) ∧ (∀ w3 : List To, (∀ y ∈ w3, y ∈ way2.map (·.x) ∨ y ∈ out) → ∃ V H, CSys n t cs2 w3 V H) ∧ (way2.length ≤ 2000) ∧ (∀ y ∈ way2, y.k < h) ∧ (out.length ≤ 701)) (fun ((gs2, cs2, way2, v, out, ov) : (List Gh) × (List Chn) × (List Tw) × (Value) × (List To) × (Value)) => [(9, v), (14, ov)]) (fun ((gs2, cs2, way2, v, out, ov) : (List Gh) × (List Chn) × (List Tw) × (Value) × (List To) × (Value)) => [bigR chZ (gs2.zip cs2), twR v way2, tlR ov out]) ?_ ?_
              ·
                refine c_f F rfl ?_
                refine wp_seq ?_
                replace F := F.keep [0, 1, 2, 3, 6, 7, 8, 9, 10, 13, 14, 15] rfl
                refine wp_region_l [.ind, .rd, .ind, .ind, .ind, .ind, .ind, .rd, .ind, .ind, .ind, .ind] ([0, 1, 2, 3, 4, 5, 6, 7, 8, 9, 10, 11]) rfl ?_
                refine s_fa0 F rfl rfl rfl rfl fa_123_0_H8 rfl ?_; clear F a; intro a F
                refine s_ld F rfl rfl rfl rfl sc_3_H8 rfl (by exact cell_of_blk M.h3 (lit rfl)) ?_; clear F a; intro a F
                refine s_bin F rfl rfl rfl rfl rfl rfl rfl ?_; clear F a; intro a F
                refine s_I F rfl rfl rfl rfl rfl rfl ?_; clear F a; intro a F
                refine bsplit F 135 rfl ?_ ?_
                ·
                  clear F; intro hc25 F
                  try rw [hc25] at F
                  replace hc25 := of_decide_eq_true hc25
                  refine s_fa0 F rfl rfl rfl rfl fa_123_3_H8 rfl ?_; clear F a; intro a F
                  refine s_fa F rfl rfl rfl rfl fa_104_1_H8 rfl ?_; clear F a; intro a F
                  refine s_fa F rfl rfl rfl rfl fa_32_1_H8 rfl ?_; clear F a; intro a F
                  refine s_ld F rfl rfl rfl rfl sc_3_H8 rfl (by exact cell_of_blk M.h3 (lit rfl)) ?_; clear F a; intro a F
                  refine s_I F rfl rfl rfl rfl rfl rfl ?_; clear F a; intro a F
                  refine s_bin F rfl rfl rfl rfl rfl rfl rfl ?_; clear F a; intro a F
                  refine s_I F rfl rfl rfl rfl rfl rfl ?_; clear F a; intro a F
                  refine s_I F rfl rfl rfl rfl rfl rfl ?_; clear F a; intro a F
                  refine t_endM M ?_; (clear M; try clear w); intro w M
                  refine c_if F rfl ?_ ?_
                  ·
                    clear F; intro hc26 F
                    try rw [hc26] at F
                    replace hc26 := of_decide_eq_true hc26
                    replace F := F.keep [0, 1, 2, 3, 6, 7, 8, 9, 10, 13, 14, 15] rfl
                    refine wp_region_t [.ind, .ind, .rd, .ind, .ind, .ind, .ind, .ind, .ind, .rd, .ind, .rd, .wr, .ind] [] (otOf [0, 1, 2, 3, 4, 5, 6, 7, 8, 9, 10, 11, 12, 13]) mixed (by kernel_rfl) ?_
                    refine s_I F rfl rfl rfl rfl rfl rfl ?_; clear F a; intro a F
                    refine s_fa0 F rfl rfl rfl rfl fa_123_1_H8 rfl ?_; clear F a; intro a F
                    refine s_ld F rfl rfl rfl rfl sc_3_H8 rfl (by exact cell_of_blk M.h3 (lit rfl)) ?_; clear F a; intro a F
                    refine s_cu F rfl rfl rfl rfl ik_3_H8 ik_124_H8 rfl ?_; clear F a; intro a F
                    refine s_I F rfl rfl rfl rfl rfl rfl ?_; clear F a; intro a F
                    refine s_cu F rfl rfl rfl rfl ik_3_H8 ik_124_H8 rfl ?_; clear F a; intro a F
                    refine s_remU F rfl rfl rfl rfl rfl rfl (by omega) (by omega) ?_; clear F a; intro a F
                    obtain ⟨k, hk, hk2⟩ := rem_nat e88.node (h := h) (by omega)
                    replace hk2 := hk2 (by omega)
                    rw [← hk] at F
                    refine s_ci F rfl rfl rfl rfl ik_124_H8 ik_3_H8 rfl (by omega) (by omega) ?_; clear F a; intro a F
                    refine s_ix F rfl rfl rfl rfl sl_119_H8 rfl rfl (by exact SlOk.rd M.h4) (by omega) (by omega) ?_; clear F a; intro e151 he151 a F
                    try (obtain rfl := Option.some.inj (he88.symm.trans he151))
                    rw [Int.toNat_natCast] at he151
                    obtain ⟨g1, hg1, hgb1⟩ := g_at hgs he151
                    obtain ⟨c1, hcc_1⟩ : ∃ c0, cs[k]? = some c0 := ⟨cs[k]'(by omega), List.getElem?_eq_getElem _⟩
                    have C1 := Y.cw _ _ hcc_1
                    have M1 : Sep _ _ _ (bigR chZ _ :: _) := M; replace M := M1; clear M1
                    replace M := M.bigOut (zip_at hg1 hcc_1)
                    refine s_ld F rfl rfl rfl rfl sc_87_H8 rfl (by exact rdX0 (SlOk.rd M.h5) (by intro e; rfl) he151 rfl) ?_; clear F a; intro a F
                    rw [← hgb1] at F
                    refine s_fa0 F rfl rfl rfl rfl fa_123_3_H8 rfl ?_; clear F a; intro a F
                    refine s_lda F rfl rfl rfl rfl ag_104_H8 rfl rfl (bg_tall M.h4) ?_; clear F a; intro a F
                    have M1 : Sep _ _ _ (chnR g1 c1 :: _) := M; replace M := M1; clear M1
                    refine s_call (m := [_]) F M rfl rfl rfl rfl rfl (rfl : _ = some [_, _]) cb_71_H8 (fun nd_ => c71 g1 c1 C1.W e88.x _ (M.drewN nd_).own.one) ?_; (clear F a M; try clear w); rintro v y w ⟨rfl, hb3⟩ M a F; (try simp only [List.cons_append, List.nil_append] at M)
                    obtain ⟨γ1, v1⟩ := y
                    dsimp only at M F hb3
                    obtain ⟨OA, OC, rfl⟩ := SlOk.form M.h1
                    have hol2 := takeO_len C1.W e88.x
                    have M1 : Sep _ _ _ (bigR chZ _ :: _) := M.f2; replace M := M1; clear M1
                    have M1 : Sep _ _ _ (chnR _ _ :: _) := M.f1; replace M := M1; clear M1
                    replace M := Sep.bigIn (f := chZ) (xs := gs.zip cs) (i := k) (y := (γ1, c1.take e88.x)) M (by rw [List.length_zip]; omega)
                    rw [zip_set] at M
                    have hgs3 := map_set_b hgs hg1 hb3
                    have hY3 : ∀ w3 : List To, (∀ y ∈ w3, y ∈ way.map (·.x) ∨ y ∈ c1.takeO e88.x) → ∃ V H, CSys n t (cs.set (k) (c1.take e88.x)) w3 V H := fun w3 h3 => Y.take hcc_1 (.inr (by have := Y.hn; omega)) h3
                    obtain ⟨gs2, eg2⟩ : ∃ q, q = gs.set (k) γ1 := ⟨_, rfl⟩
                    obtain ⟨cs2, ec2⟩ : ∃ q, q = cs.set (k) (c1.take e88.x) := ⟨_, rfl⟩
                    obtain ⟨out2, eo2⟩ : ∃ q, q = c1.takeO e88.x := ⟨_, rfl⟩
                    rw [← eg2, ← ec2] at M
                    rw [← eo2] at M F hol2 hY3
                    rw [← ec2] at hY3
                    rw [← eg2] at hgs3
                    refine s_I F rfl rfl rfl rfl rfl rfl ?_; clear F a; intro a F
                    refine t_endM M ?_; (clear M; try clear w); intro w M
                    refine joined ((gs2), (cs2), (way), (_), (out2), (_)) ⟨hgs3, hY3, hw, hnd, hol2⟩ (F.keep [9, 14, 0, 1, 2, 3, 6, 7, 8, 10, 13, 15] rfl) ?_; (try dsimp only [List.cons_append, List.nil_append]); (refine M.pick ?_; repeat (first | exact PkG.nil | refine PkG.cons 0 rfl rfl ?_ | refine PkG.cons 1 rfl rfl ?_ | refine PkG.cons 2 rfl rfl ?_ | refine PkG.cons 4 rfl rfl ?_ | refine PkG.cons 5 rfl rfl ?_ | refine PkG.cons 6 rfl rfl ?_)); done
                  ·
                    clear F; intro hc27 F
                    try rw [hc27] at F
                    replace hc27 := of_decide_eq_false hc27
                    refine wp_seq ?_
                    replace F := F.keep [0, 1, 2, 3, 6, 7, 8, 9, 10, 13, 14, 15] rfl
                    refine wp_region_l [.ind, .rd, .ind, .ind] ([0, 1, 2, 3]) rfl ?_
                    refine s_fa0 F rfl rfl rfl rfl fa_123_0_H8 rfl ?_; clear F a; intro a F
                    refine s_ld F rfl rfl rfl rfl sc_3_H8 rfl (by exact cell_of_blk M.h3 (lit rfl)) ?_; clear F a; intro a F
                    refine s_bin F rfl rfl rfl rfl rfl rfl rfl ?_; clear F a; intro a F
                    refine s_I F rfl rfl rfl rfl rfl rfl ?_; clear F a; intro a F
                    refine t_endM M ?_; (clear M; try clear w); intro w M
                    refine c_if F rfl ?_ ?_
                    ·
                      clear F; intro hc28 F
                      try rw [hc28] at F
                      replace hc28 := of_decide_eq_true hc28
                      replace F := F.keep [0, 1, 2, 3, 6, 7, 8, 9, 10, 13, 14, 15] rfl
                      refine wp_region_t [.ind, .ind, .rd, .ind, .ind, .ind, .ind, .ind, .ind, .rd, .ind, .rd, .wr, .ind] [] (otOf [0, 1, 2, 3, 4, 5, 6, 7, 8, 9, 10, 11, 12, 13]) mixed (by kernel_rfl) ?_
                      refine s_I F rfl rfl rfl rfl rfl rfl ?_; clear F a; intro a F
                      refine s_fa0 F rfl rfl rfl rfl fa_123_1_H8 rfl ?_; clear F a; intro a F
                      refine s_ld F rfl rfl rfl rfl sc_3_H8 rfl (by exact cell_of_blk M.h3 (lit rfl)) ?_; clear F a; intro a F
                      refine s_cu F rfl rfl rfl rfl ik_3_H8 ik_124_H8 rfl ?_; clear F a; intro a F
                      refine s_I F rfl rfl rfl rfl rfl rfl ?_; clear F a; intro a F
                      refine s_cu F rfl rfl rfl rfl ik_3_H8 ik_124_H8 rfl ?_; clear F a; intro a F
                      refine s_remU F rfl rfl rfl rfl rfl rfl (by omega) (by omega) ?_; clear F a; intro a F
                      obtain ⟨k, hk, hk2⟩ := rem_nat e88.node (h := h) (by omega)
                      replace hk2 := hk2 (by omega)
                      rw [← hk] at F
                      refine s_ci F rfl rfl rfl rfl ik_124_H8 ik_3_H8 rfl (by omega) (by omega) ?_; clear F a; intro a F
                      refine s_ix F rfl rfl rfl rfl sl_119_H8 rfl rfl (by exact SlOk.rd M.h4) (by omega) (by omega) ?_; clear F a; intro e168 he168 a F
                      try (obtain rfl := Option.some.inj (he88.symm.trans he168))
                      rw [Int.toNat_natCast] at he168
                      obtain ⟨g1, hg1, hgb1⟩ := g_at hgs he168
                      obtain ⟨c1, hcc_1⟩ : ∃ c0, cs[k]? = some c0 := ⟨cs[k]'(by omega), List.getElem?_eq_getElem _⟩
                      have C1 := Y.cw _ _ hcc_1
                      have M1 : Sep _ _ _ (bigR chZ _ :: _) := M; replace M := M1; clear M1
                      replace M := M.bigOut (zip_at hg1 hcc_1)
                      refine s_ld F rfl rfl rfl rfl sc_87_H8 rfl (by exact rdX0 (SlOk.rd M.h5) (by intro e; rfl) he168 rfl) ?_; clear F a; intro a F
                      rw [← hgb1] at F
                      refine s_fa0 F rfl rfl rfl rfl fa_123_2_H8 rfl ?_; clear F a; intro a F
                      refine s_ld F rfl rfl rfl rfl sc_3_H8 rfl (by exact cell_of_blk M.h4 (lit rfl)) ?_; clear F a; intro a F
                      have M1 : Sep _ _ _ (chnR g1 c1 :: _) := M; replace M := M1; clear M1
                      refine s_call (m := [_]) F M rfl rfl rfl rfl rfl (rfl : _ = some [_, _]) cb_73_H8 (fun nd_ => c73 g1 c1 C1.W e88.at_ _ (M.drewN nd_).own.one) ?_; (clear F a M; try clear w); rintro v y w ⟨rfl, hb3⟩ M a F; (try simp only [List.cons_append, List.nil_append] at M)
                      obtain ⟨γ1, v1⟩ := y
                      dsimp only at M F hb3
                      obtain ⟨OA, OC, rfl⟩ := SlOk.form M.h1
                      have hol2 := wordO_len C1.W (c1.tmo e88.at_)
                      have M1 : Sep _ _ _ (bigR chZ _ :: _) := M.f2; replace M := M1; clear M1
                      have M1 : Sep _ _ _ (chnR _ _ :: _) := M.f1; replace M := M1; clear M1
                      replace M := Sep.bigIn (f := chZ) (xs := gs.zip cs) (i := k) (y := (γ1, c1.word (c1.tmo e88.at_))) M (by rw [List.length_zip]; omega)
                      rw [zip_set] at M
                      have hgs3 := map_set_b hgs hg1 hb3
                      have hY3 : ∀ w3 : List To, (∀ y ∈ w3, y ∈ way.map (·.x) ∨ y ∈ c1.wordO (c1.tmo e88.at_)) → ∃ V H, CSys n t (cs.set (k) (c1.word (c1.tmo e88.at_))) w3 V H := fun w3 h3 => Y.tmo hcc_1 h3
                      obtain ⟨gs2, eg2⟩ : ∃ q, q = gs.set (k) γ1 := ⟨_, rfl⟩
                      obtain ⟨cs2, ec2⟩ : ∃ q, q = cs.set (k) (c1.word (c1.tmo e88.at_)) := ⟨_, rfl⟩
                      obtain ⟨out2, eo2⟩ : ∃ q, q = c1.wordO (c1.tmo e88.at_) := ⟨_, rfl⟩
                      rw [← eg2, ← ec2] at M
                      rw [← eo2] at M F hol2 hY3
                      rw [← ec2] at hY3
                      rw [← eg2] at hgs3
                      refine s_I F rfl rfl rfl rfl rfl rfl ?_; clear F a; intro a F
                      refine t_endM M ?_; (clear M; try clear w); intro w M
                      refine joined ((gs2), (cs2), (way), (_), (out2), (_)) ⟨hgs3, hY3, hw, hnd, hol2⟩ (F.keep [9, 14, 0, 1, 2, 3, 6, 7, 8, 10, 13, 15] rfl) ?_; (try dsimp only [List.cons_append, List.nil_append]); (refine M.pick ?_; repeat (first | exact PkG.nil | refine PkG.cons 0 rfl rfl ?_ | refine PkG.cons 1 rfl rfl ?_ | refine PkG.cons 2 rfl rfl ?_ | refine PkG.cons 4 rfl rfl ?_ | refine PkG.cons 5 rfl rfl ?_ | refine PkG.cons 6 rfl rfl ?_)); done
                    ·
                      clear F; intro hc29 F
                      try rw [hc29] at F
                      replace hc29 := of_decide_eq_false hc29
                      refine wp_skip ?_
                      refine joined ((gs), (cs), (way), (_), ([]), (_)) ⟨hgs, (fun w3 h => ⟨V, H, Y.mono fun y hy => (h y hy).elim id (fun e => by cases e)⟩), hw, hnd, (by simp)⟩ (F.keep [9, 14, 0, 1, 2, 3, 6, 7, 8, 10, 13, 15] rfl) ?_; (try dsimp only [List.cons_append, List.nil_append]); (refine M.pick ?_; repeat (first | exact PkG.nil | refine PkG.cons 0 rfl rfl ?_ | refine PkG.cons 1 rfl rfl ?_ | refine PkG.cons 2 rfl rfl ?_ | refine PkG.cons 3 rfl rfl ?_ | refine PkG.cons 4 rfl rfl ?_ | refine PkG.cons 5 rfl rfl ?_)); done
                ·
                  clear F; intro hc30 F
                  try rw [hc30] at F
                  replace hc30 := of_decide_eq_false hc30
                  refine s_no F rfl rfl rfl rfl ?_; clear F a; intro a F
                  refine s_no F rfl rfl rfl rfl ?_; clear F a; intro a F
                  refine s_no F rfl rfl rfl rfl ?_; clear F a; intro a F
                  refine s_no F rfl rfl rfl rfl ?_; clear F a; intro a F
                  refine s_no F rfl rfl rfl rfl ?_; clear F a; intro a F
                  refine s_no F rfl rfl rfl rfl ?_; clear F a; intro a F
                  refine s_I F rfl rfl rfl rfl rfl rfl ?_; clear F a; intro a F
                  refine s_I F rfl rfl rfl rfl rfl rfl ?_; clear F a; intro a F
                  refine t_endM M ?_; (clear M; try clear w); intro w M
                  refine c_f F rfl ?_
                  refine wp_seq ?_
                  replace F := F.keep [0, 1, 2, 3, 6, 7, 8, 9, 10, 13, 14, 15] rfl
                  refine wp_region_l [.ind, .rd, .ind, .ind] ([0, 1, 2, 3]) rfl ?_
                  refine s_fa0 F rfl rfl rfl rfl fa_123_0_H8 rfl ?_; clear F a; intro a F
                  refine s_ld F rfl rfl rfl rfl sc_3_H8 rfl (by exact cell_of_blk M.h3 (lit rfl)) ?_; clear F a; intro a F
                  refine s_bin F rfl rfl rfl rfl rfl rfl rfl ?_; clear F a; intro a F
                  refine s_I F rfl rfl rfl rfl rfl rfl ?_; clear F a; intro a F
                  refine t_endM M ?_; (clear M; try clear w); intro w M
                  refine c_if F rfl ?_ ?_
                  ·
                    clear F; intro hc31 F
                    try rw [hc31] at F
                    replace hc31 := of_decide_eq_true hc31
                    replace F := F.keep [0, 1, 2, 3, 6, 7, 8, 9, 10, 13, 14, 15] rfl
                    refine wp_region_t [.ind, .ind, .rd, .ind, .ind, .ind, .ind, .ind, .ind, .rd, .ind, .rd, .wr, .ind] [] (otOf [0, 1, 2, 3, 4, 5, 6, 7, 8, 9, 10, 11, 12, 13]) mixed (by kernel_rfl) ?_
                    refine s_I F rfl rfl rfl rfl rfl rfl ?_; clear F a; intro a F
                    refine s_fa0 F rfl rfl rfl rfl fa_123_1_H8 rfl ?_; clear F a; intro a F
                    refine s_ld F rfl rfl rfl rfl sc_3_H8 rfl (by exact cell_of_blk M.h3 (lit rfl)) ?_; clear F a; intro a F
                    refine s_cu F rfl rfl rfl rfl ik_3_H8 ik_124_H8 rfl ?_; clear F a; intro a F
                    refine s_I F rfl rfl rfl rfl rfl rfl ?_; clear F a; intro a F
                    refine s_cu F rfl rfl rfl rfl ik_3_H8 ik_124_H8 rfl ?_; clear F a; intro a F
                    refine s_remU F rfl rfl rfl rfl rfl rfl (by omega) (by omega) ?_; clear F a; intro a F
                    obtain ⟨k, hk, hk2⟩ := rem_nat e88.node (h := h) (by omega)
                    replace hk2 := hk2 (by omega)
                    rw [← hk] at F
                    refine s_ci F rfl rfl rfl rfl ik_124_H8 ik_3_H8 rfl (by omega) (by omega) ?_; clear F a; intro a F
                    refine s_ix F rfl rfl rfl rfl sl_119_H8 rfl rfl (by exact SlOk.rd M.h4) (by omega) (by omega) ?_; clear F a; intro e168 he168 a F
                    try (obtain rfl := Option.some.inj (he88.symm.trans he168))
                    rw [Int.toNat_natCast] at he168
                    obtain ⟨g1, hg1, hgb1⟩ := g_at hgs he168
                    obtain ⟨c1, hcc_1⟩ : ∃ c0, cs[k]? = some c0 := ⟨cs[k]'(by omega), List.getElem?_eq_getElem _⟩
                    have C1 := Y.cw _ _ hcc_1
                    have M1 : Sep _ _ _ (bigR chZ _ :: _) := M; replace M := M1; clear M1
                    replace M := M.bigOut (zip_at hg1 hcc_1)
                    refine s_ld F rfl rfl rfl rfl sc_87_H8 rfl (by exact rdX0 (SlOk.rd M.h5) (by intro e; rfl) he168 rfl) ?_; clear F a; intro a F
                    rw [← hgb1] at F
                    refine s_fa0 F rfl rfl rfl rfl fa_123_2_H8 rfl ?_; clear F a; intro a F
                    refine s_ld F rfl rfl rfl rfl sc_3_H8 rfl (by exact cell_of_blk M.h4 (lit rfl)) ?_; clear F a; intro a F
                    have M1 : Sep _ _ _ (chnR g1 c1 :: _) := M; replace M := M1; clear M1
                    refine s_call (m := [_]) F M rfl rfl rfl rfl rfl (rfl : _ = some [_, _]) cb_73_H8 (fun nd_ => c73 g1 c1 C1.W e88.at_ _ (M.drewN nd_).own.one) ?_; (clear F a M; try clear w); rintro v y w ⟨rfl, hb3⟩ M a F; (try simp only [List.cons_append, List.nil_append] at M)
                    obtain ⟨γ1, v1⟩ := y
                    dsimp only at M F hb3
                    obtain ⟨OA, OC, rfl⟩ := SlOk.form M.h1
                    have hol2 := wordO_len C1.W (c1.tmo e88.at_)
                    have M1 : Sep _ _ _ (bigR chZ _ :: _) := M.f2; replace M := M1; clear M1
                    have M1 : Sep _ _ _ (chnR _ _ :: _) := M.f1; replace M := M1; clear M1
                    replace M := Sep.bigIn (f := chZ) (xs := gs.zip cs) (i := k) (y := (γ1, c1.word (c1.tmo e88.at_))) M (by rw [List.length_zip]; omega)
                    rw [zip_set] at M
                    have hgs3 := map_set_b hgs hg1 hb3
                    have hY3 : ∀ w3 : List To, (∀ y ∈ w3, y ∈ way.map (·.x) ∨ y ∈ c1.wordO (c1.tmo e88.at_)) → ∃ V H, CSys n t (cs.set (k) (c1.word (c1.tmo e88.at_))) w3 V H := fun w3 h3 => Y.tmo hcc_1 h3
                    obtain ⟨gs2, eg2⟩ : ∃ q, q = gs.set (k) γ1 := ⟨_, rfl⟩
                    obtain ⟨cs2, ec2⟩ : ∃ q, q = cs.set (k) (c1.word (c1.tmo e88.at_)) := ⟨_, rfl⟩
                    obtain ⟨out2, eo2⟩ : ∃ q, q = c1.wordO (c1.tmo e88.at_) := ⟨_, rfl⟩
                    rw [← eg2, ← ec2] at M
                    rw [← eo2] at M F hol2 hY3
                    rw [← ec2] at hY3
                    rw [← eg2] at hgs3
                    refine s_I F rfl rfl rfl rfl rfl rfl ?_; clear F a; intro a F
                    refine t_endM M ?_; (clear M; try clear w); intro w M
                    refine joined ((gs2), (cs2), (way), (_), (out2), (_)) ⟨hgs3, hY3, hw, hnd, hol2⟩ (F.keep [9, 14, 0, 1, 2, 3, 6, 7, 8, 10, 13, 15] rfl) ?_; (try dsimp only [List.cons_append, List.nil_append]); (refine M.pick ?_; repeat (first | exact PkG.nil | refine PkG.cons 0 rfl rfl ?_ | refine PkG.cons 1 rfl rfl ?_ | refine PkG.cons 2 rfl rfl ?_ | refine PkG.cons 4 rfl rfl ?_ | refine PkG.cons 5 rfl rfl ?_ | refine PkG.cons 6 rfl rfl ?_)); done
                  ·
                    clear F; intro hc32 F
                    try rw [hc32] at F
                    replace hc32 := of_decide_eq_false hc32
                    refine wp_skip ?_
                    refine joined ((gs), (cs), (way), (_), ([]), (_)) ⟨hgs, (fun w3 h => ⟨V, H, Y.mono fun y hy => (h y hy).elim id (fun e => by cases e)⟩), hw, hnd, (by simp)⟩ (F.keep [9, 14, 0, 1, 2, 3, 6, 7, 8, 10, 13, 15] rfl) ?_; (try dsimp only [List.cons_append, List.nil_append]); (refine M.pick ?_; repeat (first | exact PkG.nil | refine PkG.cons 0 rfl rfl ?_ | refine PkG.cons 1 rfl rfl ?_ | refine PkG.cons 2 rfl rfl ?_ | refine PkG.cons 3 rfl rfl ?_ | refine PkG.cons 4 rfl rfl ?_ | refine PkG.cons 5 rfl rfl ?_)); done
              ·
                clear F M; clear a; (try clear w)
                rintro ⟨gs2, cs2, way2, v, out, ov⟩ a w ⟨hgs2, hY2, hw2, hnd2, hol⟩ F M; try dsimp only at F M
                try simp only [List.cons_append, List.nil_append] at F M
                try dsimp only at hgs2 hY2 hw2 hnd2 hol
                refine wp_region_l [.ind, .ind, .ind, .wr, .ind] ([0, 1, 2, 3, 4]) rfl ?_
                refine s_I F rfl rfl rfl rfl rfl rfl ?_; clear F a; intro a F
                refine s_I F rfl rfl rfl rfl rfl rfl ?_; clear F a; intro a F
                refine s_I F rfl rfl rfl rfl rfl rfl ?_; clear F a; intro a F
                refine s_call (m := []) F M rfl rfl rfl rfl rfl (rfl : _ = some [_, _, _]) cb_76_H8 (fun nd_ => c76 way2 h out _ _ _ (by exact SlOk.rd M.h1) (by exact SlOk.rd M.h2) (by omega) hh7 (by omega)) ?_; (clear F a M; try clear w); rintro v y w ⟨rfl, hP⟩ M a F; (try simp only [List.cons_append, List.nil_append] at M)
                obtain ⟨v3, wy⟩ := y
                dsimp only at M F hP
                obtain ⟨Aw, cw, rfl⟩ := SlOk.form M.h0
                refine s_I F rfl rfl rfl rfl rfl rfl ?_; clear F a; intro a F
                refine t_endM M ?_; (clear M; try clear w); intro w M
                replace F := F.keep [0, 1, 2, 3, 6, 7, 8, 9, 10, 13, 14, 15] rfl
                refine wp_region_l [.ind, .ind, .ind] ([0, 1, 2]) rfl ?_
                refine s_I F rfl rfl rfl rfl rfl rfl ?_; clear F a; intro a F
                refine s_add F rfl rfl rfl rfl rfl rfl (by unfold In64; omega) ?_; clear F a; intro a F
                refine s_I F rfl rfl rfl rfl rfl rfl ?_; clear F a; intro a F
                refine t_endM M ?_; (clear M; try clear w); intro w M
                refine again ((i + 1), (gs2), (cs2), (wy), (_), (_)) (by show _ < _; (try dsimp only); omega) ⟨(by omega), (by assumption), hgs2, (by rcases hP.2 with h9 | h9 <;> omega), (fun y hy => (hP.1 y hy).elim (hnd2 y) (fun h9 => h9.1)), (hY2 _ (fun y hy => ontoX hP hy))⟩ (F.keep [9, 13, 0, 1, 2, 3, 6, 7, 8, 10] rfl) ?_
                try dsimp only [List.cons_append, List.nil_append]
                refine M.pick ?_; repeat (first | exact PkG.nil | refine PkG.cons 0 rfl rfl ?_ | refine PkG.cons 1 rfl rfl ?_ | refine PkG.cons 5 rfl rfl ?_ | refine PkG.cons 6 rfl rfl ?_)
          ·
            clear F; intro hc33 F
            try rw [hc33] at F
            replace hc33 := of_decide_eq_false hc33
            refine wp_exit ?_
            refine wp_seq ?_
            refine wp_seq ?_
            replace F := F.keep [0, 1, 2, 3, 6, 7, 8, 9, 10, 13] rfl
            refine wp_region_l [.ind] ([0]) rfl ?_
            refine s_I F rfl rfl rfl rfl rfl rfl ?_; clear F a; intro a F
            refine t_endM M ?_; (clear M; try clear w); intro w M
            refine wp_block ?_
            refine loopX (X := (Int)) F [0, 1, 2, 3, 7, 8, 9, 10, 13] rfl (fun (i : Int) => (0 ≤ i) ∧ (i ≤ h)) (fun (i : Int) => [(18, .int .i64 i)]) (fun (i : Int) => []) (fun (i : Int) => h - i.toNat) (0) M ⟨(by omega), (by omega)⟩ (F.keep [18, 0, 1, 2, 3, 7, 8, 9, 10, 13] rfl) ?_
            clear F M; clear a; (try clear w)
            rintro i a w ⟨j0, j1⟩ F M; try dsimp only at F M
            try simp only [List.cons_append, List.nil_append] at F M
            try dsimp only at j0 j1
            refine wp_seq ?_
            refine wp_seq ?_
            refine wp_region_l [.ind, .ind, .ind] ([0, 1, 2]) rfl ?_
            refine s_I F rfl rfl rfl rfl rfl rfl ?_; clear F a; intro a F
            refine s_I F rfl rfl rfl rfl rfl rfl ?_; clear F a; intro a F
            refine s_bin F rfl rfl rfl rfl rfl rfl rfl ?_; clear F a; intro a F
            refine t_endM M ?_; (clear M; try clear w); intro w M
            refine c_if F rfl ?_ ?_
            ·
              clear F; intro hc34 F
              try rw [hc34] at F
              replace hc34 := of_decide_eq_true hc34
              refine wp_skip ?_
              refine wp_seq ?_
              refine wp_block ?_
              refine wp_seq ?_
              replace F := F.keep [0, 1, 2, 3, 7, 8, 9, 10, 13, 18] rfl
              refine wp_region_l [.ind] ([0]) rfl ?_
              refine s_I F rfl rfl rfl rfl rfl rfl ?_; clear F a; intro a F
              refine t_endM M ?_; (clear M; try clear w); intro w M
              refine wp_block ?_
              refine loopX (X := (Int)) F [0, 1, 2, 3, 7, 8, 9, 10, 13, 18] rfl (fun (k : Int) => (0 ≤ k) ∧ (k ≤ i)) (fun (k : Int) => [(19, .int .i64 k)]) (fun (k : Int) => []) (fun (k : Int) => h - k.toNat) (0) M ⟨(by omega), (by assumption)⟩ (F.keep [19, 0, 1, 2, 3, 7, 8, 9, 10, 13, 18] rfl) ?_
              clear F M; clear a; (try clear w)
              rintro k a w ⟨k0, k1⟩ F M; try dsimp only at F M
              try simp only [List.cons_append, List.nil_append] at F M
              try dsimp only at k0 k1
              refine wp_seq ?_
              refine wp_seq ?_
              refine wp_region_l [.ind, .ind, .ind] ([0, 1, 2]) rfl ?_
              refine s_I F rfl rfl rfl rfl rfl rfl ?_; clear F a; intro a F
              refine s_I F rfl rfl rfl rfl rfl rfl ?_; clear F a; intro a F
              refine s_bin F rfl rfl rfl rfl rfl rfl rfl ?_; clear F a; intro a F
              refine t_endM M ?_; (clear M; try clear w); intro w M
              refine c_if F rfl ?_ ?_
              ·
                clear F; intro hc35 F
                try rw [hc35] at F
                replace hc35 := of_decide_eq_true hc35
                refine wp_skip ?_
                refine wp_seq ?_
                refine wp_block ?_
                refine wp_seq ?_
                skip
                replace F := F.keep [0, 1, 2, 3, 7, 8, 9, 10, 13, 18, 19] rfl
                refine wp_region_t [.ind, .ind, .ind, .rd, .wr, .ind, .ind, .ind, .rd, .wr, .ind, .ind] [(8, 4)] (otOf [0, 1, 2, 3, 5, 6, 7, 8, 4, 9, 10, 11]) mixed (by kernel_rfl) ?_
                refine s_I F rfl rfl rfl rfl rfl rfl ?_; clear F a; intro a F
                refine s_I F rfl rfl rfl rfl rfl rfl ?_; clear F a; intro a F
                refine s_ix F rfl rfl rfl rfl sl_119_H8 rfl rfl (by exact SlOk.rd M.h2) (by omega) (by omega) ?_; clear F a; intro e189 he189 a F
                obtain ⟨g1, hg1, hgb1⟩ := g_at hgs he189
                obtain ⟨c1, hcc_1⟩ : ∃ c0, cs[i.toNat]? = some c0 := ⟨cs[i.toNat]'(by omega), List.getElem?_eq_getElem _⟩
                have C1 := Y.cw _ _ hcc_1
                refine s_ldL F rfl rfl rfl rfl sc_87_H8 rfl (by exact rdX0 (SlOk.rd M.h2) (by intro e; rfl) he189 rfl) ?_; clear F a; intro a F
                refine s_I F rfl rfl rfl rfl rfl rfl ?_; clear F a; intro a F
                refine s_I F rfl rfl rfl rfl rfl rfl ?_; clear F a; intro a F
                refine s_ix F rfl rfl rfl rfl sl_119_H8 rfl rfl (by exact SlOk.rd M.h2) (by omega) (by omega) ?_; clear F a; intro e194 he194 a F
                try (obtain rfl := Option.some.inj (he189.symm.trans he194))
                obtain ⟨g2, hg2, hgb2⟩ := g_at hgs he194
                obtain ⟨c2, hcc_2⟩ : ∃ c0, cs[k.toNat]? = some c0 := ⟨cs[k.toNat]'(by omega), List.getElem?_eq_getElem _⟩
                have C2 := Y.cw _ _ hcc_2
                refine s_ldL F rfl rfl rfl rfl sc_87_H8 rfl (by exact rdX0 (SlOk.rd M.h2) (by intro e; rfl) he194 rfl) ?_; clear F a; intro a F
                rw [← hgb1] at F
                refine s_callP (m := []) F M rfl rfl rfl rfl rfl (rfl : _ = some [_]) cb_63_H8 (fun nd_ => c63 g1 c1 (by have := C1.W.ll; omega) _ (by exact ro_mem (f := chZ) (roF (M.drewN nd_)) (List.mem_of_getElem? (zip_at hg1 hcc_1)))) (fun _ x w _ M => by (try simp only [List.cons_append, List.nil_append] at M); exact (by (refine pend_take (by exact rdX0 (SlOk.rd M.h3) (by intro e; rfl) he194 rfl) ?_); (refine pend_skip rfl ?_); exact pend_none)) ?_; (clear F a M; try clear w); rintro v y1 w rfl M a F; (try simp only [List.cons_append, List.nil_append] at M)
                obtain ⟨LA1, LC1, rfl⟩ := SlOk.form M.h0
                rw [← hgb2] at F
                refine s_callP (m := []) F M rfl rfl rfl rfl rfl (rfl : _ = some [_]) cb_63_H8 (fun nd_ => c63 g2 c2 (by have := C2.W.ll; omega) _ (by exact ro_mem (f := chZ) (roF (M.drewN nd_).f1) (List.mem_of_getElem? (zip_at hg2 hcc_2)))) (fun _ x w _ M => by (try simp only [List.cons_append, List.nil_append] at M); exact (by (refine pend_skip rfl ?_); (refine pend_skip rfl ?_); exact pend_none)) ?_; (clear F a M; try clear w); rintro v y2 w rfl M a F; (try simp only [List.cons_append, List.nil_append] at M)
                obtain ⟨LA2, LC2, rfl⟩ := SlOk.form M.h0
                refine s_I F rfl rfl rfl rfl rfl rfl ?_; clear F a; intro a F
                refine s_I F rfl rfl rfl rfl rfl rfl ?_; clear F a; intro a F
                refine t_endM M ?_; (clear M; try clear w); intro w M
                refine wp_seq ?_
                replace F := F.keep [0, 1, 2, 3, 7, 8, 9, 10, 13, 18, 19, 20, 21] rfl
                refine wp_region_l [.ind, .ind, .ind, .ind, .ind, .ind] ([0, 1, 2, 3, 4, 5]) rfl ?_
                refine s_I F rfl rfl rfl rfl rfl rfl ?_; clear F a; intro a F
                refine s_len F rfl rfl rfl rfl sl_69_H8 rfl ?_; clear F a; intro a F
                refine s_I F rfl rfl rfl rfl rfl rfl ?_; clear F a; intro a F
                refine s_len F rfl rfl rfl rfl sl_69_H8 rfl ?_; clear F a; intro a F
                refine s_min F rfl rfl rfl rfl rfl rfl ?_; clear F a; intro a F
                refine s_I F rfl rfl rfl rfl rfl rfl ?_; clear F a; intro a F
                refine t_endM M ?_; (clear M; try clear w); intro w M
                refine wp_seq ?_
                replace F := F.keep [0, 1, 2, 3, 7, 8, 9, 10, 13, 18, 19, 20, 21, 22] rfl
                refine wp_region_t [.ind, .ind, .ind, .ind, .ind, .ind, .wr, .ind] [] (otOf [0, 1, 2, 3, 4, 5, 6, 7]) mixed (by kernel_rfl) ?_
                refine s_I F rfl rfl rfl rfl rfl rfl ?_; clear F a; intro a F
                refine s_I F rfl rfl rfl rfl rfl rfl ?_; clear F a; intro a F
                refine s_slc F rfl rfl rfl rfl sl_69_H8 rfl rfl rfl (by exact SlOk.rd M.h1) (by omega) (by omega) (by omega) ?_; clear F a; intro a F
                refine s_I F rfl rfl rfl rfl rfl rfl ?_; clear F a; intro a F
                refine s_I F rfl rfl rfl rfl rfl rfl ?_; clear F a; intro a F
                refine s_slc F rfl rfl rfl rfl sl_69_H8 rfl rfl rfl (by exact SlOk.rd M.h0) (by omega) (by omega) (by omega) ?_; clear F a; intro a F
                refine s_cq F M rfl rfl rfl rfl rfl (rfl : _ = some [_, _]) cb_62_H8 (fun nd_ => c62 (c1.log.take (min (c1.log.length : Int) (c2.log.length : Int)).toNat) (c2.log.take (min (c1.log.length : Int) (c2.log.length : Int)).toNat) (by have := C1.W.ll; rw [List.length_take]; omega) _ _ _ (by exact RdSl.pre (SlOk.rd M.h1) (by intro e; rfl) _ (by omega)) (by exact RdSl.pre (SlOk.rd M.h0) (by intro e; rfl) _ (by omega))) ?_; (clear F a M; try clear w); rintro v w rfl M a F
                rw [decide_eq_true (Y.agree hcc_1 hcc_2 (by omega) (by omega))] at F
                refine s_I F rfl rfl rfl rfl rfl rfl ?_; clear F a; intro a F
                refine t_endM M ?_; (clear M; try clear w); intro w M
                refine c_if F rfl ?_ ?_
                ·
                  clear F; intro hc36 F
                  try rw [hc36] at F
                  replace hc36 := nt hc36
                  cases hc36
                ·
                  clear F; intro hc37 F
                  try rw [hc37] at F
                  replace hc37 := nf hc37
                  refine wp_skip ?_
                  replace F := F.keep [0, 1, 2, 3, 7, 8, 9, 10, 13, 18, 19, 20, 21, 22] rfl
                  refine wp_region_l [.ind, .ind, .ind] ([0, 1, 2]) rfl ?_
                  refine s_I F rfl rfl rfl rfl rfl rfl ?_; clear F a; intro a F
                  refine s_add F rfl rfl rfl rfl rfl rfl (by unfold In64; omega) ?_; clear F a; intro a F
                  refine s_I F rfl rfl rfl rfl rfl rfl ?_; clear F a; intro a F
                  refine t_endM M ?_; (clear M; try clear w); intro w M
                  refine again (k + 1) (by show _ < _; (try dsimp only); omega) ⟨(by omega), (by assumption)⟩ (F.keep [19, 0, 1, 2, 3, 7, 8, 9, 10, 13, 18] rfl) ?_
                  try dsimp only [List.cons_append, List.nil_append]
                  refine M.pick ?_; repeat (first | exact PkG.nil | refine PkG.cons 2 rfl rfl ?_ | refine PkG.cons 3 rfl rfl ?_ | refine PkG.cons 4 rfl rfl ?_ | refine PkG.cons 5 rfl rfl ?_)
              ·
                clear F; intro hc38 F
                try rw [hc38] at F
                replace hc38 := of_decide_eq_false hc38
                refine wp_exit ?_
                replace F := F.keep [0, 1, 2, 3, 7, 8, 9, 10, 13, 18, 19] rfl
                refine wp_region_l [.ind, .ind, .ind] ([0, 1, 2]) rfl ?_
                refine s_I F rfl rfl rfl rfl rfl rfl ?_; clear F a; intro a F
                refine s_add F rfl rfl rfl rfl rfl rfl (by unfold In64; omega) ?_; clear F a; intro a F
                refine s_I F rfl rfl rfl rfl rfl rfl ?_; clear F a; intro a F
                refine t_endM M ?_; (clear M; try clear w); intro w M
                refine again (i + 1) (by show _ < _; (try dsimp only); omega) ⟨(by omega), (by assumption)⟩ (F.keep [18, 0, 1, 2, 3, 7, 8, 9, 10, 13] rfl) ?_
                try dsimp only [List.cons_append, List.nil_append]
                refine M.pick ?_; repeat (first | exact PkG.nil | refine PkG.cons 0 rfl rfl ?_ | refine PkG.cons 1 rfl rfl ?_ | refine PkG.cons 2 rfl rfl ?_ | refine PkG.cons 3 rfl rfl ?_)
            ·
              clear F; intro hc39 F
              try rw [hc39] at F
              replace hc39 := of_decide_eq_false hc39
              refine wp_exit ?_
              refine wp_seq ?_
              replace F := F.keep [0, 1, 2, 3, 7, 8, 9, 10, 13, 18] rfl
              refine wp_region_l [.wr, .ind] ([0, 1]) rfl ?_
              refine s_cq F M rfl rfl rfl rfl rfl (rfl : _ = some []) cb_57_H8 (fun nd_ => c57 _) ?_; (clear F a M; try clear w); rintro v w rfl M a F
              refine s_I F rfl rfl rfl rfl rfl rfl ?_; clear F a; intro a F
              refine t_endM M ?_; (clear M; try clear w); intro w M
              refine wp_ret ?_
              refine ret1 F rfl rfl ?_
              -- end 2
              exact ⟨_, rfl, rfl, M.chg⟩
theorem law18 (n t me : Int) (ws : List ByteArray) (l : List Brg) (v1 v2 : Value) (w0 : World) (hr1 : RdSl w0.heap v1 ws.length 1 (ws.flatMap encS)) (hr2 : RdSl w0.heap v2 l.length 9 (l.flatMap encBg)) : Cl Try.prog 18 #[.agg #[.int .i64 n, .int .i64 t, .int .i64 me], v1, v2] w0 (RetQ w0 fun v => v = .bool true) := by
  by_cases hf : quorum n t = 0 ∨ 10 < ws.length ∨ 250 < l.length
  · exact law18a n t me ws l v1 v2 w0 hr1 hr2 hf
  · exact law18b n t me ws l v1 v2 w0 hr1 hr2 (by omega) (by omega) (fun e => hf (.inl e))
end Go.Proofs.Ytboibdmflblphaa
