/- P14: a part of the proof. -/
import Derived.Test.YteajeenmojbjhaaGreatDoorP12
import Derived.Test.YteajeenmojbjhaaGreatDoorP11
import Derived.KernelRfl
namespace Go.Proofs.YteajeenmojbjhaaGreatDoor.Ev
open Go Fw
theorem ty3 : TyAll Tryz.prog 3 ti3 := tyB_ok (by kernel_rfl)
theorem ty4 : TyAll Tryz.prog 4 ti4 := tyB_ok (by kernel_rfl)
theorem ty5 : TyAll Tryz.prog 5 ti5 := tyB_ok (by kernel_rfl)
theorem ty9 : TyAll Tryz.prog 9 ti9 := tyB_ok (by kernel_rfl)
theorem ty20 : TyAll Tryz.prog 20 ti20 := tyB_ok (by kernel_rfl)
theorem ty22 : TyAll Tryz.prog 22 ti22 := tyB_ok (by kernel_rfl)
theorem ty23 : TyAll Tryz.prog 23 ti23 := tyB_ok (by kernel_rfl)
theorem ty25 : TyAll Tryz.prog 25 ti25 := tyB_ok (by kernel_rfl)
theorem ty26 : TyAll Tryz.prog 26 ti26 := tyB_ok (by kernel_rfl)
theorem ty38 : TyAll Tryz.prog 38 ti38 := tyB_ok (by kernel_rfl)
theorem ty39 : TyAll Tryz.prog 39 ti39 := tyB_ok (by kernel_rfl)
theorem ty41 : TyAll Tryz.prog 41 ti41 := tyB_ok (by kernel_rfl)
theorem ty42 : TyAll Tryz.prog 42 ti42 := tyB_ok (by kernel_rfl)
theorem ty45 : TyAll Tryz.prog 45 ti45 := tyB_ok (by kernel_rfl)
theorem ty46 : TyAll Tryz.prog 46 ti46 := tyB_ok (by kernel_rfl)
theorem ty49 : TyAll Tryz.prog 49 ti49 := tyB_ok (by kernel_rfl)
theorem ty54 : TyAll Tryz.prog 54 ti54 := tyB_ok (by kernel_rfl)
theorem ty58 : TyAll Tryz.prog 58 ti58 := tyB_ok (by kernel_rfl)
theorem ty60 : TyAll Tryz.prog 60 ti60 := tyB_ok (by kernel_rfl)
theorem ty65 : TyAll Tryz.prog 65 ti65 := tyB_ok (by kernel_rfl)
theorem ty76 : TyAll Tryz.prog 76 ti76 := tyB_ok (by kernel_rfl)
theorem ty78 : TyAll Tryz.prog 78 ti78 := tyB_ok (by kernel_rfl)
theorem ty80 : TyAll Tryz.prog 80 ti80 := tyB_ok (by kernel_rfl)
theorem ty82 : TyAll Tryz.prog 82 ti82 := tyB_ok (by kernel_rfl)
theorem ty83 : TyAll Tryz.prog 83 ti83 := tyB_ok (by kernel_rfl)
theorem ty84 : TyAll Tryz.prog 84 ti84 := tyB_ok (by kernel_rfl)
theorem ty86 : TyAll Tryz.prog 86 ti86 := tyB_ok (by kernel_rfl)
theorem ty92 : TyAll Tryz.prog 92 ti92 := tyB_ok (by kernel_rfl)
theorem ty98 : TyAll Tryz.prog 98 ti98 := tyB_ok (by kernel_rfl)
theorem ty102 : TyAll Tryz.prog 102 ti102 := tyB_ok (by kernel_rfl)
theorem ty104 : TyAll Tryz.prog 104 ti104 := tyB_ok (by kernel_rfl)
theorem ty106 : TyAll Tryz.prog 106 ti106 := tyB_ok (by kernel_rfl)
theorem ty118 : TyAll Tryz.prog 118 ti118 := tyB_ok (by kernel_rfl)
theorem ty121 : TyAll Tryz.prog 121 ti121 := tyB_ok (by kernel_rfl)
theorem ty124 : TyAll Tryz.prog 124 ti124 := tyB_ok (by kernel_rfl)
theorem ty133 : TyAll Tryz.prog 133 ti133 := tyB_ok (by kernel_rfl)
theorem ty136 : TyAll Tryz.prog 136 ti136 := tyB_ok (by kernel_rfl)
theorem ty139 : TyAll Tryz.prog 139 ti139 := tyB_ok (by kernel_rfl)
theorem ty140 : TyAll Tryz.prog 140 ti140 := tyB_ok (by kernel_rfl)
theorem ty142 : TyAll Tryz.prog 142 ti142 := tyB_ok (by kernel_rfl)
theorem ty143 : TyAll Tryz.prog 143 ti143 := tyB_ok (by kernel_rfl)
theorem ty145 : TyAll Tryz.prog 145 ti145 := tyB_ok (by kernel_rfl)
theorem ty147 : TyAll Tryz.prog 147 ti147 := tyB_ok (by kernel_rfl)
theorem ty148 : TyAll Tryz.prog 148 ti148 := tyB_ok (by kernel_rfl)
theorem ty150 : TyAll Tryz.prog 150 ti150 := tyB_ok (by kernel_rfl)
theorem ty152 : TyAll Tryz.prog 152 ti152 := tyB_ok (by kernel_rfl)
theorem ty154 : TyAll Tryz.prog 154 ti154 := tyB_ok (by kernel_rfl)
theorem ty160 : TyAll Tryz.prog 160 ti160 := tyB_ok (by kernel_rfl)
theorem ty166 : TyAll Tryz.prog 166 ti166 := tyB_ok (by kernel_rfl)
theorem ty170 : TyAll Tryz.prog 170 ti170 := tyB_ok (by kernel_rfl)
theorem ty173 : TyAll Tryz.prog 173 ti173 := tyB_ok (by kernel_rfl)
theorem ty174 : TyAll Tryz.prog 174 ti174 := tyB_ok (by kernel_rfl)
theorem ty180 : TyAll Tryz.prog 180 ti180 := tyB_ok (by kernel_rfl)
theorem ty189 : TyAll Tryz.prog 189 ti189 := tyB_ok (by kernel_rfl)
theorem ty191 : TyAll Tryz.prog 191 ti191 := tyB_ok (by kernel_rfl)
theorem ty206 : TyAll Tryz.prog 206 ti206 := tyB_ok (by kernel_rfl)
theorem ty208 : TyAll Tryz.prog 208 ti208 := tyB_ok (by kernel_rfl)
theorem ty209 : TyAll Tryz.prog 209 ti209 := tyB_ok (by kernel_rfl)
theorem ty211 : TyAll Tryz.prog 211 ti211 := tyB_ok (by kernel_rfl)
theorem ty213 : TyAll Tryz.prog 213 ti213 := tyB_ok (by kernel_rfl)
theorem ty217 : TyAll Tryz.prog 217 ti217 := tyB_ok (by kernel_rfl)
theorem ty224 : TyAll Tryz.prog 224 ti224 := tyB_ok (by kernel_rfl)
theorem ty241 : TyAll Tryz.prog 241 ti241 := tyB_ok (by kernel_rfl)
theorem ty244 : TyAll Tryz.prog 244 ti244 := tyB_ok (by kernel_rfl)
theorem ty246 : TyAll Tryz.prog 246 ti246 := tyB_ok (by kernel_rfl)
theorem ty247 : TyAll Tryz.prog 247 ti247 := tyB_ok (by kernel_rfl)
theorem ty271 : TyAll Tryz.prog 271 ti271 := tyB_ok (by kernel_rfl)
theorem ty274 : TyAll Tryz.prog 274 ti274 := tyB_ok (by kernel_rfl)
theorem ty280 : TyAll Tryz.prog 280 ti280 := tyB_ok (by kernel_rfl)
theorem ty293 : TyAll Tryz.prog 293 ti293 := tyB_ok (by kernel_rfl)
theorem ty295 : TyAll Tryz.prog 295 ti295 := tyB_ok (by kernel_rfl)
theorem ty296 : TyAll Tryz.prog 296 ti296 := tyB_ok (by kernel_rfl)
theorem ty297 : TyAll Tryz.prog 297 ti297 := tyB_ok (by kernel_rfl)
theorem ty299 : TyAll Tryz.prog 299 ti299 := tyB_ok (by kernel_rfl)
theorem tyAll : TT.All (TyAll Tryz.prog) 0 1 := ⟨⟨⟨⟨⟨⟨trivial,⟨⟨trivial,⟨ty160,trivial⟩⟩,⟨trivial,⟨ty224,trivial⟩⟩⟩⟩,⟨⟨trivial,⟨⟨ty80,trivial⟩,⟨ty208,trivial⟩⟩⟩,trivial⟩⟩,⟨⟨⟨⟨trivial,⟨ty136,trivial⟩⟩,trivial⟩,⟨⟨⟨trivial,ty296⟩,trivial⟩,⟨⟨ty104,trivial⟩,trivial⟩⟩⟩,⟨⟨⟨⟨trivial,ty280⟩,⟨ty152,trivial⟩⟩,trivial⟩,trivial⟩⟩⟩,⟨⟨⟨⟨⟨⟨ty4,trivial⟩,trivial⟩,trivial⟩,trivial⟩,⟨⟨⟨⟨ty20,trivial⟩,⟨ty148,trivial⟩⟩,⟨⟨ty84,trivial⟩,trivial⟩⟩,⟨⟨trivial,⟨ty180,trivial⟩⟩,⟨trivial,⟨ty244,trivial⟩⟩⟩⟩⟩,⟨⟨⟨⟨trivial,⟨ty140,trivial⟩⟩,⟨⟨ty76,trivial⟩,trivial⟩⟩,trivial⟩,⟨⟨trivial,⟨⟨ty92,trivial⟩,trivial⟩⟩,⟨⟨⟨ty60,trivial⟩,trivial⟩,⟨⟨ty124,trivial⟩,trivial⟩⟩⟩⟩⟩⟩,⟨⟨⟨⟨trivial,⟨trivial,⟨⟨ty98,trivial⟩,trivial⟩⟩⟩,⟨⟨⟨⟨trivial,ty274⟩,trivial⟩,⟨⟨ty82,trivial⟩,trivial⟩⟩,trivial⟩⟩,⟨⟨trivial,⟨⟨⟨ty42,trivial⟩,⟨ty170,trivial⟩⟩,⟨⟨ty106,trivial⟩,trivial⟩⟩⟩,⟨⟨⟨⟨ty26,trivial⟩,⟨ty154,trivial⟩⟩,trivial⟩,⟨⟨⟨ty58,trivial⟩,trivial⟩,trivial⟩⟩⟩⟩,⟨⟨⟨trivial,⟨⟨⟨ty38,trivial⟩,⟨ty166,trivial⟩⟩,⟨⟨ty102,trivial⟩,trivial⟩⟩⟩,⟨⟨⟨⟨ty22,trivial⟩,⟨ty150,trivial⟩⟩,⟨⟨ty86,trivial⟩,trivial⟩⟩,⟨⟨⟨ty54,trivial⟩,trivial⟩,⟨⟨ty118,trivial⟩,⟨ty246,trivial⟩⟩⟩⟩⟩,⟨⟨⟨⟨trivial,⟨ty142,trivial⟩⟩,⟨⟨ty78,trivial⟩,⟨ty206,trivial⟩⟩⟩,⟨⟨⟨ty46,trivial⟩,⟨ty174,trivial⟩⟩,trivial⟩⟩,trivial⟩⟩⟩⟩,⟨⟨⟨⟨⟨⟨trivial,⟨⟨ty65,trivial⟩,trivial⟩⟩,trivial⟩,⟨⟨⟨trivial,⟨ty145,trivial⟩⟩,⟨trivial,⟨ty209,trivial⟩⟩⟩,⟨⟨⟨ty49,trivial⟩,trivial⟩,⟨trivial,⟨ty241,trivial⟩⟩⟩⟩⟩,⟨⟨⟨⟨⟨ty9,trivial⟩,trivial⟩,trivial⟩,⟨⟨⟨ty41,ty297⟩,trivial⟩,trivial⟩⟩,⟨⟨⟨⟨ty25,trivial⟩,trivial⟩,⟨trivial,⟨ty217,trivial⟩⟩⟩,⟨trivial,⟨⟨ty121,trivial⟩,trivial⟩⟩⟩⟩⟩,⟨⟨⟨⟨⟨⟨ty5,trivial⟩,⟨ty133,trivial⟩⟩,trivial⟩,⟨⟨⟨trivial,ty293⟩,trivial⟩,trivial⟩⟩,⟨⟨trivial,⟨trivial,⟨ty213,trivial⟩⟩⟩,trivial⟩⟩,⟨⟨trivial,⟨⟨⟨ty45,trivial⟩,⟨ty173,trivial⟩⟩,trivial⟩⟩,⟨trivial,⟨⟨trivial,⟨ty189,trivial⟩⟩,trivial⟩⟩⟩⟩⟩,⟨⟨⟨⟨⟨⟨⟨ty3,trivial⟩,trivial⟩,trivial⟩,trivial⟩,⟨⟨⟨trivial,⟨ty147,trivial⟩⟩,⟨⟨ty83,trivial⟩,⟨ty211,trivial⟩⟩⟩,trivial⟩⟩,⟨⟨⟨⟨trivial,⟨ty139,trivial⟩⟩,trivial⟩,⟨⟨⟨trivial,ty299⟩,trivial⟩,trivial⟩⟩,trivial⟩⟩,⟨⟨⟨trivial,⟨⟨⟨ty39,ty295⟩,trivial⟩,trivial⟩⟩,⟨⟨⟨⟨ty23,trivial⟩,trivial⟩,trivial⟩,⟨trivial,⟨trivial,⟨ty247,trivial⟩⟩⟩⟩⟩,⟨⟨⟨⟨⟨trivial,ty271⟩,⟨ty143,trivial⟩⟩,trivial⟩,trivial⟩,⟨trivial,⟨⟨trivial,⟨ty191,trivial⟩⟩,trivial⟩⟩⟩⟩⟩⟩⟩
theorem eqAll : TT.All (fun t ti => ti.flat ≠ [] → EqOk Tryz.prog t ti.flat) 0 1 := ⟨⟨⟨⟨⟨⟨trivial,⟨⟨trivial,⟨(fun h => absurd rfl h),trivial⟩⟩,⟨trivial,⟨(fun h => absurd rfl h),trivial⟩⟩⟩⟩,⟨⟨trivial,⟨⟨(fun h => absurd rfl h),trivial⟩,⟨(fun h => absurd rfl h),trivial⟩⟩⟩,trivial⟩⟩,⟨⟨⟨⟨trivial,⟨(fun h => absurd rfl h),trivial⟩⟩,trivial⟩,⟨⟨⟨trivial,(fun h => absurd rfl h)⟩,trivial⟩,⟨⟨(fun h => absurd rfl h),trivial⟩,trivial⟩⟩⟩,⟨⟨⟨⟨trivial,(fun h => absurd rfl h)⟩,⟨(fun h => absurd rfl h),trivial⟩⟩,trivial⟩,trivial⟩⟩⟩,⟨⟨⟨⟨⟨⟨(fun h => absurd rfl h),trivial⟩,trivial⟩,trivial⟩,trivial⟩,⟨⟨⟨⟨(fun h => absurd rfl h),trivial⟩,⟨(fun h => absurd rfl h),trivial⟩⟩,⟨⟨(fun h => absurd rfl h),trivial⟩,trivial⟩⟩,⟨⟨trivial,⟨(fun h => absurd rfl h),trivial⟩⟩,⟨trivial,⟨(fun h => absurd rfl h),trivial⟩⟩⟩⟩⟩,⟨⟨⟨⟨trivial,⟨(fun h => absurd rfl h),trivial⟩⟩,⟨⟨(fun h => absurd rfl h),trivial⟩,trivial⟩⟩,trivial⟩,⟨⟨trivial,⟨⟨(fun h => absurd rfl h),trivial⟩,trivial⟩⟩,⟨⟨⟨(fun h => absurd rfl h),trivial⟩,trivial⟩,⟨⟨(fun h => absurd rfl h),trivial⟩,trivial⟩⟩⟩⟩⟩⟩,⟨⟨⟨⟨trivial,⟨trivial,⟨⟨(fun h => absurd rfl h),trivial⟩,trivial⟩⟩⟩,⟨⟨⟨⟨trivial,(fun h => absurd rfl h)⟩,trivial⟩,⟨⟨(fun h => absurd rfl h),trivial⟩,trivial⟩⟩,trivial⟩⟩,⟨⟨trivial,⟨⟨⟨(fun h => absurd rfl h),trivial⟩,⟨(fun h => absurd rfl h),trivial⟩⟩,⟨⟨(fun h => absurd rfl h),trivial⟩,trivial⟩⟩⟩,⟨⟨⟨⟨(fun h => absurd rfl h),trivial⟩,⟨(fun h => absurd rfl h),trivial⟩⟩,trivial⟩,⟨⟨⟨(fun h => absurd rfl h),trivial⟩,trivial⟩,trivial⟩⟩⟩⟩,⟨⟨⟨trivial,⟨⟨⟨(fun h => absurd rfl h),trivial⟩,⟨(fun h => absurd rfl h),trivial⟩⟩,⟨⟨(fun h => absurd rfl h),trivial⟩,trivial⟩⟩⟩,⟨⟨⟨⟨(fun h => absurd rfl h),trivial⟩,⟨(fun h => absurd rfl h),trivial⟩⟩,⟨⟨(fun h => absurd rfl h),trivial⟩,trivial⟩⟩,⟨⟨⟨(fun _ => eqOk54),trivial⟩,trivial⟩,⟨⟨(fun h => absurd rfl h),trivial⟩,⟨(fun h => absurd rfl h),trivial⟩⟩⟩⟩⟩,⟨⟨⟨⟨trivial,⟨(fun h => absurd rfl h),trivial⟩⟩,⟨⟨(fun h => absurd rfl h),trivial⟩,⟨(fun h => absurd rfl h),trivial⟩⟩⟩,⟨⟨⟨(fun h => absurd rfl h),trivial⟩,⟨(fun h => absurd rfl h),trivial⟩⟩,trivial⟩⟩,trivial⟩⟩⟩⟩,⟨⟨⟨⟨⟨⟨trivial,⟨⟨(fun h => absurd rfl h),trivial⟩,trivial⟩⟩,trivial⟩,⟨⟨⟨trivial,⟨(fun h => absurd rfl h),trivial⟩⟩,⟨trivial,⟨(fun h => absurd rfl h),trivial⟩⟩⟩,⟨⟨⟨(fun h => absurd rfl h),trivial⟩,trivial⟩,⟨trivial,⟨(fun h => absurd rfl h),trivial⟩⟩⟩⟩⟩,⟨⟨⟨⟨⟨(fun h => absurd rfl h),trivial⟩,trivial⟩,trivial⟩,⟨⟨⟨(fun h => absurd rfl h),(fun h => absurd rfl h)⟩,trivial⟩,trivial⟩⟩,⟨⟨⟨⟨(fun _ => eqOk25),trivial⟩,trivial⟩,⟨trivial,⟨(fun h => absurd rfl h),trivial⟩⟩⟩,⟨trivial,⟨⟨(fun h => absurd rfl h),trivial⟩,trivial⟩⟩⟩⟩⟩,⟨⟨⟨⟨⟨⟨(fun h => absurd rfl h),trivial⟩,⟨(fun h => absurd rfl h),trivial⟩⟩,trivial⟩,⟨⟨⟨trivial,(fun h => absurd rfl h)⟩,trivial⟩,trivial⟩⟩,⟨⟨trivial,⟨trivial,⟨(fun h => absurd rfl h),trivial⟩⟩⟩,trivial⟩⟩,⟨⟨trivial,⟨⟨⟨(fun h => absurd rfl h),trivial⟩,⟨(fun h => absurd rfl h),trivial⟩⟩,trivial⟩⟩,⟨trivial,⟨⟨trivial,⟨(fun h => absurd rfl h),trivial⟩⟩,trivial⟩⟩⟩⟩⟩,⟨⟨⟨⟨⟨⟨⟨(fun h => absurd rfl h),trivial⟩,trivial⟩,trivial⟩,trivial⟩,⟨⟨⟨trivial,⟨(fun h => absurd rfl h),trivial⟩⟩,⟨⟨(fun h => absurd rfl h),trivial⟩,⟨(fun h => absurd rfl h),trivial⟩⟩⟩,trivial⟩⟩,⟨⟨⟨⟨trivial,⟨(fun h => absurd rfl h),trivial⟩⟩,trivial⟩,⟨⟨⟨trivial,(fun h => absurd rfl h)⟩,trivial⟩,trivial⟩⟩,trivial⟩⟩,⟨⟨⟨trivial,⟨⟨⟨(fun h => absurd rfl h),(fun h => absurd rfl h)⟩,trivial⟩,trivial⟩⟩,⟨⟨⟨⟨(fun h => absurd rfl h),trivial⟩,trivial⟩,trivial⟩,⟨trivial,⟨trivial,⟨(fun h => absurd rfl h),trivial⟩⟩⟩⟩⟩,⟨⟨⟨⟨⟨trivial,(fun h => absurd rfl h)⟩,⟨(fun h => absurd rfl h),trivial⟩⟩,trivial⟩,trivial⟩,⟨trivial,⟨⟨trivial,⟨(fun h => absurd rfl h),trivial⟩⟩,trivial⟩⟩⟩⟩⟩⟩⟩
theorem ty_get {t : Nat} {ti : TI} (h : tt t = some ti) : TyAll Tryz.prog t ti := by
 have := Tb.all_get tyAll h
 simpa using this
theorem tabs : Tabs Tryz.prog tt := ⟨fun _ _ h => (ty_get h).ty,fun t ti h hf => by
 have := Tb.all_get eqAll h hf
 simpa using this,fun _ _ e h he => (ty_get h).pz e he,exts,fun _ _ h => (ty_get h).zl,fun _ _ h => (ty_get h).s1,by decide +kernel⟩
theorem findT_one {t a b g : Nat} (h : findT t [(a,b)] = some g) : t = a ∧ g = b := by
 have h : bif2 (Nat.beq a t) (some b) none = some g := h
 rw [bif2_if] at h
 split at h
 ·rename_i e
  rw [beq_iff] at e
  cases h
  exact ⟨e.symm,rfl⟩
 ·cases h
theorem invs : InvOk Tryz.prog inv := by
 intro name t g h
 unfold inv at h
 split at h
 ·obtain ⟨rfl,rfl⟩ := findT_one h
  exact ⟨by kernel_rfl,fun v w => by kernel_rfl⟩
 ·obtain ⟨rfl,rfl⟩ := findT_one h
  exact ⟨by kernel_rfl,fun v w => by kernel_rfl⟩
 ·cases h
end Go.Proofs.YteajeenmojbjhaaGreatDoor.Ev
