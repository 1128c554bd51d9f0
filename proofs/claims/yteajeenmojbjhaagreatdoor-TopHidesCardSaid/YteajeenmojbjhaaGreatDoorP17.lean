/- P17: a part of the proof. -/
import Derived.Test.YteajeenmojbjhaaGreatDoorP16
import Derived.Test.YteajeenmojbjhaaGreatDoorP15
import Derived.KernelRfl
namespace Go.Proofs.YteajeenmojbjhaaGreatDoor.Ev
open Go Fw
set_option maxRecDepth 100000
theorem st24 (hF : Facts [q21,q22,q23]) : PF q24 := fact102 (l := [q21,q22,q23]) hF (by kernel_rfl)
theorem st30 (hF : Facts [q21,q22,q29]) : PF q30 := fact102 (l := [q21,q22,q29]) hF (by kernel_rfl)
theorem st36 (hF : Facts [q21,q22,q35]) : PF q36 := fact102 (l := [q21,q22,q35]) hF (by kernel_rfl)
theorem st42 (hF : Facts [q21,q22,q41]) : PF q42 := fact102 (l := [q21,q22,q41]) hF (by kernel_rfl)
theorem st48 (hF : Facts [q21,q22,q47]) : PF q48 := fact102 (l := [q21,q22,q47]) hF (by kernel_rfl)
theorem st75 (hF : Facts [q73,q22,q74]) : PF q75 := fact102 (l := [q73,q22,q74]) hF (by kernel_rfl)
theorem st98 (hF : Facts [q96,q22,q97]) : PF q98 := fact102 (l := [q96,q22,q97]) hF (by kernel_rfl)
theorem st103 (hF : Facts [q21,q22,q102]) : PF q103 := fact102 (l := [q21,q22,q102]) hF (by kernel_rfl)
theorem st130 (hF : Facts [q128,q22,q129]) : PF q130 := fact102 (l := [q128,q22,q129]) hF (by kernel_rfl)
theorem st153 (hF : Facts [q151,q22,q152]) : PF q153 := fact102 (l := [q151,q22,q152]) hF (by kernel_rfl)
theorem st158 (hF : Facts [q21,q22,q157]) : PF q158 := fact102 (l := [q21,q22,q157]) hF (by kernel_rfl)
theorem st164 (hF : Facts [q96,q22,q163]) : PF q164 := fact102 (l := [q96,q22,q163]) hF (by kernel_rfl)
theorem st169 (hF : Facts [q21,q22,q168]) : PF q169 := fact102 (l := [q21,q22,q168]) hF (by kernel_rfl)
theorem st175 (hF : Facts [q151,q22,q174]) : PF q175 := fact102 (l := [q151,q22,q174]) hF (by kernel_rfl)
theorem st218 (hF : Facts [q216,q22,q217]) : PF q218 := fact102 (l := [q216,q22,q217]) hF (by kernel_rfl)
theorem st261 (hF : Facts [q259,q22,q260]) : PF q261 := fact102 (l := [q259,q22,q260]) hF (by kernel_rfl)
theorem st266 (hF : Facts [q21,q22,q265]) : PF q266 := fact102 (l := [q21,q22,q265]) hF (by kernel_rfl)
end Go.Proofs.YteajeenmojbjhaaGreatDoor.Ev
