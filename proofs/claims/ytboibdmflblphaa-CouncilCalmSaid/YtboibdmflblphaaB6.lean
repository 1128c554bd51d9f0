/- B6 of the seat. -/
import Derived.Test.YtboibdmflblphaaB5
namespace Go.Proofs.Ytboibdmflblphaa
open Go Fw
theorem sl_79_B6 : slcB Try.prog 79 = some (82, 8) := by kernel_rfl
theorem fa_71_3_B6 : FA Try.prog 71 3 3 := fun _ _ _ => by kernel_rfl
theorem sc_69_B6 : scalB Try.prog 69 = true := by kernel_rfl
theorem sl_69_B6 : slcB Try.prog 69 = some (9, 1) := by kernel_rfl
theorem sc_9_B6 : scalB Try.prog 9 = true := by kernel_rfl
theorem st_9_B6 : strB Try.prog 9 = true := by kernel_rfl
theorem fa_82_3_B6 : FA Try.prog 82 3 3 := fun _ _ _ => by kernel_rfl
theorem fa_32_4_B6 : FA Try.prog 32 4 4 := fun _ _ _ => by kernel_rfl
theorem bs_69_3_B6 : ∀ (x0 : ByteArray) (x1 : ByteArray) (x2 : ByteArray), News Try.prog (Instr.buildSlice 69 3 #[(0, .string x0), (1, .string x1), (2, .string x2)]) (.cells #[.string x0, .string x1, .string x2] 9) fun b => .slice (some ⟨b, 0, none⟩) 3 3 := by intros; intro w; kernel_rfl
theorem cb_52_B6 : callB Try.prog 52 = true := by kernel_rfl
theorem pt_73_B6 : ptrB Try.prog 73 = true := by kernel_rfl
theorem bs_69_1_B6 : ∀ (x0 : ByteArray), News Try.prog (Instr.buildSlice 69 1 #[(0, .string x0)]) (.cells #[.string x0] 9) fun b => .slice (some ⟨b, 0, none⟩) 1 1 := by intros; intro w; kernel_rfl
theorem cb_53_B6 : callB Try.prog 53 = true := by kernel_rfl
theorem cb_54_B6 : callB Try.prog 54 = true := by kernel_rfl
theorem cb_55_B6 : callB Try.prog 55 = true := by kernel_rfl
theorem cb_90_B6 : callB Try.prog 90 = true := by kernel_rfl
theorem bl_32_0_1_B6 : ∀ (x0 : Int) (x1 : Int), ∀ w : World, (Instr.build 32 #[(0, .int .i64 x0), (1, .int .i64 x1)]).run Try.prog w = .ok (.agg #[.int .i64 x0, .int .i64 x1, .int .i64 0, .int .i64 0, .string { data := #[] }]) w := by intros; kernel_rfl
theorem cb_91_B6 : callB Try.prog 91 = true := by kernel_rfl
theorem bl_32_1_B6 : ∀ (x1 : Int), ∀ w : World, (Instr.build 32 #[(1, .int .i64 x1)]).run Try.prog w = .ok (.agg #[.int .i64 0, .int .i64 x1, .int .i64 0, .int .i64 0, .string { data := #[] }]) w := by intros; kernel_rfl
open VoteM AgrM CouM
def xA : ByteArray := { data := #[97] }
def xB : ByteArray := { data := #[98] }
def xC : ByteArray := { data := #[99] }
def cS0 : Cou := ⟨[⟨4, 1, 1, 0, xA, 0, 1, VoteM.empty, -1, VoteM.empty, -1, [], [], false, false, VoteM.empty⟩, ⟨4, 1, 2, 0, xB, 0, 1, VoteM.empty, -1, VoteM.empty, -1, [], [], false, false, VoteM.empty⟩, ⟨4, 1, 3, 0, xC, 0, 1, VoteM.empty, -1, VoteM.empty, -1, [], [], false, false, VoteM.empty⟩], opnN 3, [⟨1, ⟨1, 1, 0, -1, xA⟩⟩, ⟨2, ⟨1, 1, 0, -1, xA⟩⟩, ⟨3, ⟨1, 1, 0, -1, xA⟩⟩]⟩
def cS1 : Cou := ⟨[⟨4, 1, 1, 0, xA, 0, 2, VoteM.empty, -1, VoteM.empty, -1, [⟨1, 1, 0, -1, xA⟩], [], false, false, VoteM.empty⟩, ⟨4, 1, 2, 0, xB, 0, 1, VoteM.empty, -1, VoteM.empty, -1, [], [], false, false, VoteM.empty⟩, ⟨4, 1, 3, 0, xC, 0, 1, VoteM.empty, -1, VoteM.empty, -1, [], [], false, false, VoteM.empty⟩], opnN 3, [⟨2, ⟨1, 1, 0, -1, xA⟩⟩, ⟨3, ⟨1, 1, 0, -1, xA⟩⟩, ⟨1, ⟨2, 1, 0, 0, xA⟩⟩, ⟨2, ⟨2, 1, 0, 0, xA⟩⟩, ⟨3, ⟨2, 1, 0, 0, xA⟩⟩]⟩
def cS2 : Cou := ⟨[⟨4, 1, 1, 0, xA, 0, 2, VoteM.empty, -1, VoteM.empty, -1, [⟨1, 1, 0, -1, xA⟩], [], false, false, VoteM.empty⟩, ⟨4, 1, 2, 0, xB, 0, 2, VoteM.empty, -1, VoteM.empty, -1, [⟨1, 1, 0, -1, xA⟩], [], false, false, VoteM.empty⟩, ⟨4, 1, 3, 0, xC, 0, 1, VoteM.empty, -1, VoteM.empty, -1, [], [], false, false, VoteM.empty⟩], opnN 3, [⟨3, ⟨1, 1, 0, -1, xA⟩⟩, ⟨1, ⟨2, 1, 0, 0, xA⟩⟩, ⟨2, ⟨2, 1, 0, 0, xA⟩⟩, ⟨3, ⟨2, 1, 0, 0, xA⟩⟩, ⟨1, ⟨2, 2, 0, 0, xA⟩⟩, ⟨2, ⟨2, 2, 0, 0, xA⟩⟩, ⟨3, ⟨2, 2, 0, 0, xA⟩⟩]⟩
def cS3 : Cou := ⟨[⟨4, 1, 1, 0, xA, 0, 2, VoteM.empty, -1, VoteM.empty, -1, [⟨1, 1, 0, -1, xA⟩], [], false, false, VoteM.empty⟩, ⟨4, 1, 2, 0, xB, 0, 2, VoteM.empty, -1, VoteM.empty, -1, [⟨1, 1, 0, -1, xA⟩], [], false, false, VoteM.empty⟩, ⟨4, 1, 3, 0, xC, 0, 2, VoteM.empty, -1, VoteM.empty, -1, [⟨1, 1, 0, -1, xA⟩], [], false, false, VoteM.empty⟩], opnN 3, [⟨1, ⟨2, 1, 0, 0, xA⟩⟩, ⟨2, ⟨2, 1, 0, 0, xA⟩⟩, ⟨3, ⟨2, 1, 0, 0, xA⟩⟩, ⟨1, ⟨2, 2, 0, 0, xA⟩⟩, ⟨2, ⟨2, 2, 0, 0, xA⟩⟩, ⟨3, ⟨2, 2, 0, 0, xA⟩⟩, ⟨1, ⟨2, 3, 0, 0, xA⟩⟩, ⟨2, ⟨2, 3, 0, 0, xA⟩⟩, ⟨3, ⟨2, 3, 0, 0, xA⟩⟩]⟩
def cS4 : Cou := ⟨[⟨4, 1, 1, 0, xA, 0, 2, VoteM.empty, -1, VoteM.empty, -1, [⟨1, 1, 0, -1, xA⟩], [⟨2, 1, 0, 0, xA⟩], false, false, VoteM.empty⟩, ⟨4, 1, 2, 0, xB, 0, 2, VoteM.empty, -1, VoteM.empty, -1, [⟨1, 1, 0, -1, xA⟩], [], false, false, VoteM.empty⟩, ⟨4, 1, 3, 0, xC, 0, 2, VoteM.empty, -1, VoteM.empty, -1, [⟨1, 1, 0, -1, xA⟩], [], false, false, VoteM.empty⟩], opnN 3, [⟨2, ⟨2, 1, 0, 0, xA⟩⟩, ⟨3, ⟨2, 1, 0, 0, xA⟩⟩, ⟨1, ⟨2, 2, 0, 0, xA⟩⟩, ⟨2, ⟨2, 2, 0, 0, xA⟩⟩, ⟨3, ⟨2, 2, 0, 0, xA⟩⟩, ⟨1, ⟨2, 3, 0, 0, xA⟩⟩, ⟨2, ⟨2, 3, 0, 0, xA⟩⟩, ⟨3, ⟨2, 3, 0, 0, xA⟩⟩]⟩
def cS5 : Cou := ⟨[⟨4, 1, 1, 0, xA, 0, 2, VoteM.empty, -1, VoteM.empty, -1, [⟨1, 1, 0, -1, xA⟩], [⟨2, 1, 0, 0, xA⟩], false, false, VoteM.empty⟩, ⟨4, 1, 2, 0, xB, 0, 2, VoteM.empty, -1, VoteM.empty, -1, [⟨1, 1, 0, -1, xA⟩], [⟨2, 1, 0, 0, xA⟩], false, false, VoteM.empty⟩, ⟨4, 1, 3, 0, xC, 0, 2, VoteM.empty, -1, VoteM.empty, -1, [⟨1, 1, 0, -1, xA⟩], [], false, false, VoteM.empty⟩], opnN 3, [⟨3, ⟨2, 1, 0, 0, xA⟩⟩, ⟨1, ⟨2, 2, 0, 0, xA⟩⟩, ⟨2, ⟨2, 2, 0, 0, xA⟩⟩, ⟨3, ⟨2, 2, 0, 0, xA⟩⟩, ⟨1, ⟨2, 3, 0, 0, xA⟩⟩, ⟨2, ⟨2, 3, 0, 0, xA⟩⟩, ⟨3, ⟨2, 3, 0, 0, xA⟩⟩]⟩
def cS6 : Cou := ⟨[⟨4, 1, 1, 0, xA, 0, 2, VoteM.empty, -1, VoteM.empty, -1, [⟨1, 1, 0, -1, xA⟩], [⟨2, 1, 0, 0, xA⟩], false, false, VoteM.empty⟩, ⟨4, 1, 2, 0, xB, 0, 2, VoteM.empty, -1, VoteM.empty, -1, [⟨1, 1, 0, -1, xA⟩], [⟨2, 1, 0, 0, xA⟩], false, false, VoteM.empty⟩, ⟨4, 1, 3, 0, xC, 0, 2, VoteM.empty, -1, VoteM.empty, -1, [⟨1, 1, 0, -1, xA⟩], [⟨2, 1, 0, 0, xA⟩], false, false, VoteM.empty⟩], opnN 3, [⟨1, ⟨2, 2, 0, 0, xA⟩⟩, ⟨2, ⟨2, 2, 0, 0, xA⟩⟩, ⟨3, ⟨2, 2, 0, 0, xA⟩⟩, ⟨1, ⟨2, 3, 0, 0, xA⟩⟩, ⟨2, ⟨2, 3, 0, 0, xA⟩⟩, ⟨3, ⟨2, 3, 0, 0, xA⟩⟩]⟩
def cS7 : Cou := ⟨[⟨4, 1, 1, 0, xA, 0, 2, VoteM.empty, -1, VoteM.empty, -1, [⟨1, 1, 0, -1, xA⟩], [⟨2, 1, 0, 0, xA⟩, ⟨2, 2, 0, 0, xA⟩], false, false, VoteM.empty⟩, ⟨4, 1, 2, 0, xB, 0, 2, VoteM.empty, -1, VoteM.empty, -1, [⟨1, 1, 0, -1, xA⟩], [⟨2, 1, 0, 0, xA⟩], false, false, VoteM.empty⟩, ⟨4, 1, 3, 0, xC, 0, 2, VoteM.empty, -1, VoteM.empty, -1, [⟨1, 1, 0, -1, xA⟩], [⟨2, 1, 0, 0, xA⟩], false, false, VoteM.empty⟩], opnN 3, [⟨2, ⟨2, 2, 0, 0, xA⟩⟩, ⟨3, ⟨2, 2, 0, 0, xA⟩⟩, ⟨1, ⟨2, 3, 0, 0, xA⟩⟩, ⟨2, ⟨2, 3, 0, 0, xA⟩⟩, ⟨3, ⟨2, 3, 0, 0, xA⟩⟩]⟩
def cS8 : Cou := ⟨[⟨4, 1, 1, 0, xA, 0, 2, VoteM.empty, -1, VoteM.empty, -1, [⟨1, 1, 0, -1, xA⟩], [⟨2, 1, 0, 0, xA⟩, ⟨2, 2, 0, 0, xA⟩], false, false, VoteM.empty⟩, ⟨4, 1, 2, 0, xB, 0, 2, VoteM.empty, -1, VoteM.empty, -1, [⟨1, 1, 0, -1, xA⟩], [⟨2, 1, 0, 0, xA⟩, ⟨2, 2, 0, 0, xA⟩], false, false, VoteM.empty⟩, ⟨4, 1, 3, 0, xC, 0, 2, VoteM.empty, -1, VoteM.empty, -1, [⟨1, 1, 0, -1, xA⟩], [⟨2, 1, 0, 0, xA⟩], false, false, VoteM.empty⟩], opnN 3, [⟨3, ⟨2, 2, 0, 0, xA⟩⟩, ⟨1, ⟨2, 3, 0, 0, xA⟩⟩, ⟨2, ⟨2, 3, 0, 0, xA⟩⟩, ⟨3, ⟨2, 3, 0, 0, xA⟩⟩]⟩
def cS9 : Cou := ⟨[⟨4, 1, 1, 0, xA, 0, 2, VoteM.empty, -1, VoteM.empty, -1, [⟨1, 1, 0, -1, xA⟩], [⟨2, 1, 0, 0, xA⟩, ⟨2, 2, 0, 0, xA⟩], false, false, VoteM.empty⟩, ⟨4, 1, 2, 0, xB, 0, 2, VoteM.empty, -1, VoteM.empty, -1, [⟨1, 1, 0, -1, xA⟩], [⟨2, 1, 0, 0, xA⟩, ⟨2, 2, 0, 0, xA⟩], false, false, VoteM.empty⟩, ⟨4, 1, 3, 0, xC, 0, 2, VoteM.empty, -1, VoteM.empty, -1, [⟨1, 1, 0, -1, xA⟩], [⟨2, 1, 0, 0, xA⟩, ⟨2, 2, 0, 0, xA⟩], false, false, VoteM.empty⟩], opnN 3, [⟨1, ⟨2, 3, 0, 0, xA⟩⟩, ⟨2, ⟨2, 3, 0, 0, xA⟩⟩, ⟨3, ⟨2, 3, 0, 0, xA⟩⟩]⟩
def cS10 : Cou := ⟨[⟨4, 1, 1, 0, xA, 0, 3, xA, 0, xA, 0, [⟨1, 1, 0, -1, xA⟩], [⟨2, 1, 0, 0, xA⟩, ⟨2, 2, 0, 0, xA⟩, ⟨2, 3, 0, 0, xA⟩], true, false, VoteM.empty⟩, ⟨4, 1, 2, 0, xB, 0, 2, VoteM.empty, -1, VoteM.empty, -1, [⟨1, 1, 0, -1, xA⟩], [⟨2, 1, 0, 0, xA⟩, ⟨2, 2, 0, 0, xA⟩], false, false, VoteM.empty⟩, ⟨4, 1, 3, 0, xC, 0, 2, VoteM.empty, -1, VoteM.empty, -1, [⟨1, 1, 0, -1, xA⟩], [⟨2, 1, 0, 0, xA⟩, ⟨2, 2, 0, 0, xA⟩], false, false, VoteM.empty⟩], opnN 3, [⟨2, ⟨2, 3, 0, 0, xA⟩⟩, ⟨3, ⟨2, 3, 0, 0, xA⟩⟩, ⟨1, ⟨3, 1, 0, 0, xA⟩⟩, ⟨2, ⟨3, 1, 0, 0, xA⟩⟩, ⟨3, ⟨3, 1, 0, 0, xA⟩⟩]⟩
def cS11 : Cou := ⟨[⟨4, 1, 1, 0, xA, 0, 3, xA, 0, xA, 0, [⟨1, 1, 0, -1, xA⟩], [⟨2, 1, 0, 0, xA⟩, ⟨2, 2, 0, 0, xA⟩, ⟨2, 3, 0, 0, xA⟩], true, false, VoteM.empty⟩, ⟨4, 1, 2, 0, xB, 0, 3, xA, 0, xA, 0, [⟨1, 1, 0, -1, xA⟩], [⟨2, 1, 0, 0, xA⟩, ⟨2, 2, 0, 0, xA⟩, ⟨2, 3, 0, 0, xA⟩], true, false, VoteM.empty⟩, ⟨4, 1, 3, 0, xC, 0, 2, VoteM.empty, -1, VoteM.empty, -1, [⟨1, 1, 0, -1, xA⟩], [⟨2, 1, 0, 0, xA⟩, ⟨2, 2, 0, 0, xA⟩], false, false, VoteM.empty⟩], opnN 3, [⟨3, ⟨2, 3, 0, 0, xA⟩⟩, ⟨1, ⟨3, 1, 0, 0, xA⟩⟩, ⟨2, ⟨3, 1, 0, 0, xA⟩⟩, ⟨3, ⟨3, 1, 0, 0, xA⟩⟩, ⟨1, ⟨3, 2, 0, 0, xA⟩⟩, ⟨2, ⟨3, 2, 0, 0, xA⟩⟩, ⟨3, ⟨3, 2, 0, 0, xA⟩⟩]⟩
def cS12 : Cou := ⟨[⟨4, 1, 1, 0, xA, 0, 3, xA, 0, xA, 0, [⟨1, 1, 0, -1, xA⟩], [⟨2, 1, 0, 0, xA⟩, ⟨2, 2, 0, 0, xA⟩, ⟨2, 3, 0, 0, xA⟩], true, false, VoteM.empty⟩, ⟨4, 1, 2, 0, xB, 0, 3, xA, 0, xA, 0, [⟨1, 1, 0, -1, xA⟩], [⟨2, 1, 0, 0, xA⟩, ⟨2, 2, 0, 0, xA⟩, ⟨2, 3, 0, 0, xA⟩], true, false, VoteM.empty⟩, ⟨4, 1, 3, 0, xC, 0, 3, xA, 0, xA, 0, [⟨1, 1, 0, -1, xA⟩], [⟨2, 1, 0, 0, xA⟩, ⟨2, 2, 0, 0, xA⟩, ⟨2, 3, 0, 0, xA⟩], true, false, VoteM.empty⟩], opnN 3, [⟨1, ⟨3, 1, 0, 0, xA⟩⟩, ⟨2, ⟨3, 1, 0, 0, xA⟩⟩, ⟨3, ⟨3, 1, 0, 0, xA⟩⟩, ⟨1, ⟨3, 2, 0, 0, xA⟩⟩, ⟨2, ⟨3, 2, 0, 0, xA⟩⟩, ⟨3, ⟨3, 2, 0, 0, xA⟩⟩, ⟨1, ⟨3, 3, 0, 0, xA⟩⟩, ⟨2, ⟨3, 3, 0, 0, xA⟩⟩, ⟨3, ⟨3, 3, 0, 0, xA⟩⟩]⟩
def cS13 : Cou := ⟨[⟨4, 1, 1, 0, xA, 0, 3, xA, 0, xA, 0, [⟨1, 1, 0, -1, xA⟩], [⟨2, 1, 0, 0, xA⟩, ⟨2, 2, 0, 0, xA⟩, ⟨2, 3, 0, 0, xA⟩, ⟨3, 1, 0, 0, xA⟩], true, false, VoteM.empty⟩, ⟨4, 1, 2, 0, xB, 0, 3, xA, 0, xA, 0, [⟨1, 1, 0, -1, xA⟩], [⟨2, 1, 0, 0, xA⟩, ⟨2, 2, 0, 0, xA⟩, ⟨2, 3, 0, 0, xA⟩], true, false, VoteM.empty⟩, ⟨4, 1, 3, 0, xC, 0, 3, xA, 0, xA, 0, [⟨1, 1, 0, -1, xA⟩], [⟨2, 1, 0, 0, xA⟩, ⟨2, 2, 0, 0, xA⟩, ⟨2, 3, 0, 0, xA⟩], true, false, VoteM.empty⟩], opnN 3, [⟨2, ⟨3, 1, 0, 0, xA⟩⟩, ⟨3, ⟨3, 1, 0, 0, xA⟩⟩, ⟨1, ⟨3, 2, 0, 0, xA⟩⟩, ⟨2, ⟨3, 2, 0, 0, xA⟩⟩, ⟨3, ⟨3, 2, 0, 0, xA⟩⟩, ⟨1, ⟨3, 3, 0, 0, xA⟩⟩, ⟨2, ⟨3, 3, 0, 0, xA⟩⟩, ⟨3, ⟨3, 3, 0, 0, xA⟩⟩]⟩
def cS14 : Cou := ⟨[⟨4, 1, 1, 0, xA, 0, 3, xA, 0, xA, 0, [⟨1, 1, 0, -1, xA⟩], [⟨2, 1, 0, 0, xA⟩, ⟨2, 2, 0, 0, xA⟩, ⟨2, 3, 0, 0, xA⟩, ⟨3, 1, 0, 0, xA⟩], true, false, VoteM.empty⟩, ⟨4, 1, 2, 0, xB, 0, 3, xA, 0, xA, 0, [⟨1, 1, 0, -1, xA⟩], [⟨2, 1, 0, 0, xA⟩, ⟨2, 2, 0, 0, xA⟩, ⟨2, 3, 0, 0, xA⟩, ⟨3, 1, 0, 0, xA⟩], true, false, VoteM.empty⟩, ⟨4, 1, 3, 0, xC, 0, 3, xA, 0, xA, 0, [⟨1, 1, 0, -1, xA⟩], [⟨2, 1, 0, 0, xA⟩, ⟨2, 2, 0, 0, xA⟩, ⟨2, 3, 0, 0, xA⟩], true, false, VoteM.empty⟩], opnN 3, [⟨3, ⟨3, 1, 0, 0, xA⟩⟩, ⟨1, ⟨3, 2, 0, 0, xA⟩⟩, ⟨2, ⟨3, 2, 0, 0, xA⟩⟩, ⟨3, ⟨3, 2, 0, 0, xA⟩⟩, ⟨1, ⟨3, 3, 0, 0, xA⟩⟩, ⟨2, ⟨3, 3, 0, 0, xA⟩⟩, ⟨3, ⟨3, 3, 0, 0, xA⟩⟩]⟩
def cS15 : Cou := ⟨[⟨4, 1, 1, 0, xA, 0, 3, xA, 0, xA, 0, [⟨1, 1, 0, -1, xA⟩], [⟨2, 1, 0, 0, xA⟩, ⟨2, 2, 0, 0, xA⟩, ⟨2, 3, 0, 0, xA⟩, ⟨3, 1, 0, 0, xA⟩], true, false, VoteM.empty⟩, ⟨4, 1, 2, 0, xB, 0, 3, xA, 0, xA, 0, [⟨1, 1, 0, -1, xA⟩], [⟨2, 1, 0, 0, xA⟩, ⟨2, 2, 0, 0, xA⟩, ⟨2, 3, 0, 0, xA⟩, ⟨3, 1, 0, 0, xA⟩], true, false, VoteM.empty⟩, ⟨4, 1, 3, 0, xC, 0, 3, xA, 0, xA, 0, [⟨1, 1, 0, -1, xA⟩], [⟨2, 1, 0, 0, xA⟩, ⟨2, 2, 0, 0, xA⟩, ⟨2, 3, 0, 0, xA⟩, ⟨3, 1, 0, 0, xA⟩], true, false, VoteM.empty⟩], opnN 3, [⟨1, ⟨3, 2, 0, 0, xA⟩⟩, ⟨2, ⟨3, 2, 0, 0, xA⟩⟩, ⟨3, ⟨3, 2, 0, 0, xA⟩⟩, ⟨1, ⟨3, 3, 0, 0, xA⟩⟩, ⟨2, ⟨3, 3, 0, 0, xA⟩⟩, ⟨3, ⟨3, 3, 0, 0, xA⟩⟩]⟩
def cS16 : Cou := ⟨[⟨4, 1, 1, 0, xA, 0, 3, xA, 0, xA, 0, [⟨1, 1, 0, -1, xA⟩], [⟨2, 1, 0, 0, xA⟩, ⟨2, 2, 0, 0, xA⟩, ⟨2, 3, 0, 0, xA⟩, ⟨3, 1, 0, 0, xA⟩, ⟨3, 2, 0, 0, xA⟩], true, false, VoteM.empty⟩, ⟨4, 1, 2, 0, xB, 0, 3, xA, 0, xA, 0, [⟨1, 1, 0, -1, xA⟩], [⟨2, 1, 0, 0, xA⟩, ⟨2, 2, 0, 0, xA⟩, ⟨2, 3, 0, 0, xA⟩, ⟨3, 1, 0, 0, xA⟩], true, false, VoteM.empty⟩, ⟨4, 1, 3, 0, xC, 0, 3, xA, 0, xA, 0, [⟨1, 1, 0, -1, xA⟩], [⟨2, 1, 0, 0, xA⟩, ⟨2, 2, 0, 0, xA⟩, ⟨2, 3, 0, 0, xA⟩, ⟨3, 1, 0, 0, xA⟩], true, false, VoteM.empty⟩], opnN 3, [⟨2, ⟨3, 2, 0, 0, xA⟩⟩, ⟨3, ⟨3, 2, 0, 0, xA⟩⟩, ⟨1, ⟨3, 3, 0, 0, xA⟩⟩, ⟨2, ⟨3, 3, 0, 0, xA⟩⟩, ⟨3, ⟨3, 3, 0, 0, xA⟩⟩]⟩
def cS17 : Cou := ⟨[⟨4, 1, 1, 0, xA, 0, 3, xA, 0, xA, 0, [⟨1, 1, 0, -1, xA⟩], [⟨2, 1, 0, 0, xA⟩, ⟨2, 2, 0, 0, xA⟩, ⟨2, 3, 0, 0, xA⟩, ⟨3, 1, 0, 0, xA⟩, ⟨3, 2, 0, 0, xA⟩], true, false, VoteM.empty⟩, ⟨4, 1, 2, 0, xB, 0, 3, xA, 0, xA, 0, [⟨1, 1, 0, -1, xA⟩], [⟨2, 1, 0, 0, xA⟩, ⟨2, 2, 0, 0, xA⟩, ⟨2, 3, 0, 0, xA⟩, ⟨3, 1, 0, 0, xA⟩, ⟨3, 2, 0, 0, xA⟩], true, false, VoteM.empty⟩, ⟨4, 1, 3, 0, xC, 0, 3, xA, 0, xA, 0, [⟨1, 1, 0, -1, xA⟩], [⟨2, 1, 0, 0, xA⟩, ⟨2, 2, 0, 0, xA⟩, ⟨2, 3, 0, 0, xA⟩, ⟨3, 1, 0, 0, xA⟩], true, false, VoteM.empty⟩], opnN 3, [⟨3, ⟨3, 2, 0, 0, xA⟩⟩, ⟨1, ⟨3, 3, 0, 0, xA⟩⟩, ⟨2, ⟨3, 3, 0, 0, xA⟩⟩, ⟨3, ⟨3, 3, 0, 0, xA⟩⟩]⟩
def cS18 : Cou := ⟨[⟨4, 1, 1, 0, xA, 0, 3, xA, 0, xA, 0, [⟨1, 1, 0, -1, xA⟩], [⟨2, 1, 0, 0, xA⟩, ⟨2, 2, 0, 0, xA⟩, ⟨2, 3, 0, 0, xA⟩, ⟨3, 1, 0, 0, xA⟩, ⟨3, 2, 0, 0, xA⟩], true, false, VoteM.empty⟩, ⟨4, 1, 2, 0, xB, 0, 3, xA, 0, xA, 0, [⟨1, 1, 0, -1, xA⟩], [⟨2, 1, 0, 0, xA⟩, ⟨2, 2, 0, 0, xA⟩, ⟨2, 3, 0, 0, xA⟩, ⟨3, 1, 0, 0, xA⟩, ⟨3, 2, 0, 0, xA⟩], true, false, VoteM.empty⟩, ⟨4, 1, 3, 0, xC, 0, 3, xA, 0, xA, 0, [⟨1, 1, 0, -1, xA⟩], [⟨2, 1, 0, 0, xA⟩, ⟨2, 2, 0, 0, xA⟩, ⟨2, 3, 0, 0, xA⟩, ⟨3, 1, 0, 0, xA⟩, ⟨3, 2, 0, 0, xA⟩], true, false, VoteM.empty⟩], opnN 3, [⟨1, ⟨3, 3, 0, 0, xA⟩⟩, ⟨2, ⟨3, 3, 0, 0, xA⟩⟩, ⟨3, ⟨3, 3, 0, 0, xA⟩⟩]⟩
def cS19 : Cou := ⟨[⟨4, 1, 1, 0, xA, 0, 3, xA, 0, xA, 0, [⟨1, 1, 0, -1, xA⟩], [⟨2, 1, 0, 0, xA⟩, ⟨2, 2, 0, 0, xA⟩, ⟨2, 3, 0, 0, xA⟩, ⟨3, 1, 0, 0, xA⟩, ⟨3, 2, 0, 0, xA⟩, ⟨3, 3, 0, 0, xA⟩], true, true, xA⟩, ⟨4, 1, 2, 0, xB, 0, 3, xA, 0, xA, 0, [⟨1, 1, 0, -1, xA⟩], [⟨2, 1, 0, 0, xA⟩, ⟨2, 2, 0, 0, xA⟩, ⟨2, 3, 0, 0, xA⟩, ⟨3, 1, 0, 0, xA⟩, ⟨3, 2, 0, 0, xA⟩], true, false, VoteM.empty⟩, ⟨4, 1, 3, 0, xC, 0, 3, xA, 0, xA, 0, [⟨1, 1, 0, -1, xA⟩], [⟨2, 1, 0, 0, xA⟩, ⟨2, 2, 0, 0, xA⟩, ⟨2, 3, 0, 0, xA⟩, ⟨3, 1, 0, 0, xA⟩, ⟨3, 2, 0, 0, xA⟩], true, false, VoteM.empty⟩], updB (opnN 3) 1 false, [⟨2, ⟨3, 3, 0, 0, xA⟩⟩, ⟨3, ⟨3, 3, 0, 0, xA⟩⟩]⟩
def cS20 : Cou := ⟨[⟨4, 1, 1, 0, xA, 0, 3, xA, 0, xA, 0, [⟨1, 1, 0, -1, xA⟩], [⟨2, 1, 0, 0, xA⟩, ⟨2, 2, 0, 0, xA⟩, ⟨2, 3, 0, 0, xA⟩, ⟨3, 1, 0, 0, xA⟩, ⟨3, 2, 0, 0, xA⟩, ⟨3, 3, 0, 0, xA⟩], true, true, xA⟩, ⟨4, 1, 2, 0, xB, 0, 3, xA, 0, xA, 0, [⟨1, 1, 0, -1, xA⟩], [⟨2, 1, 0, 0, xA⟩, ⟨2, 2, 0, 0, xA⟩, ⟨2, 3, 0, 0, xA⟩, ⟨3, 1, 0, 0, xA⟩, ⟨3, 2, 0, 0, xA⟩, ⟨3, 3, 0, 0, xA⟩], true, true, xA⟩, ⟨4, 1, 3, 0, xC, 0, 3, xA, 0, xA, 0, [⟨1, 1, 0, -1, xA⟩], [⟨2, 1, 0, 0, xA⟩, ⟨2, 2, 0, 0, xA⟩, ⟨2, 3, 0, 0, xA⟩, ⟨3, 1, 0, 0, xA⟩, ⟨3, 2, 0, 0, xA⟩], true, false, VoteM.empty⟩], updB (updB (opnN 3) 1 false) 2 false, [⟨3, ⟨3, 3, 0, 0, xA⟩⟩]⟩
def cS21 : Cou := ⟨[⟨4, 1, 1, 0, xA, 0, 3, xA, 0, xA, 0, [⟨1, 1, 0, -1, xA⟩], [⟨2, 1, 0, 0, xA⟩, ⟨2, 2, 0, 0, xA⟩, ⟨2, 3, 0, 0, xA⟩, ⟨3, 1, 0, 0, xA⟩, ⟨3, 2, 0, 0, xA⟩, ⟨3, 3, 0, 0, xA⟩], true, true, xA⟩, ⟨4, 1, 2, 0, xB, 0, 3, xA, 0, xA, 0, [⟨1, 1, 0, -1, xA⟩], [⟨2, 1, 0, 0, xA⟩, ⟨2, 2, 0, 0, xA⟩, ⟨2, 3, 0, 0, xA⟩, ⟨3, 1, 0, 0, xA⟩, ⟨3, 2, 0, 0, xA⟩, ⟨3, 3, 0, 0, xA⟩], true, true, xA⟩, ⟨4, 1, 3, 0, xC, 0, 3, xA, 0, xA, 0, [⟨1, 1, 0, -1, xA⟩], [⟨2, 1, 0, 0, xA⟩, ⟨2, 2, 0, 0, xA⟩, ⟨2, 3, 0, 0, xA⟩, ⟨3, 1, 0, 0, xA⟩, ⟨3, 2, 0, 0, xA⟩, ⟨3, 3, 0, 0, xA⟩], true, true, xA⟩], updB (updB (updB (opnN 3) 1 false) 2 false) 3 false, []⟩
def cQ : Nat → Cou
  | 0 => cS0
  | 1 => cS1
  | 2 => cS2
  | 3 => cS3
  | 4 => cS4
  | 5 => cS5
  | 6 => cS6
  | 7 => cS7
  | 8 => cS8
  | 9 => cS9
  | 10 => cS10
  | 11 => cS11
  | 12 => cS12
  | 13 => cS13
  | 14 => cS14
  | 15 => cS15
  | 16 => cS16
  | 17 => cS17
  | 18 => cS18
  | 19 => cS19
  | 20 => cS20
  | _ => cS21
theorem cq_new : newC 4 1 0 [xA, xB, xC] = cQ 0 := by kernel_rfl
theorem cs0 : cS0.deliver 0 = (cS1, true) := by kernel_rfl
theorem cs1 : cS1.deliver 0 = (cS2, true) := by kernel_rfl
theorem cs2 : cS2.deliver 0 = (cS3, true) := by kernel_rfl
theorem cs3 : cS3.deliver 0 = (cS4, true) := by kernel_rfl
theorem cs4 : cS4.deliver 0 = (cS5, true) := by kernel_rfl
theorem cs5 : cS5.deliver 0 = (cS6, true) := by kernel_rfl
theorem cs6 : cS6.deliver 0 = (cS7, true) := by kernel_rfl
theorem cs7 : cS7.deliver 0 = (cS8, true) := by kernel_rfl
theorem cs8 : cS8.deliver 0 = (cS9, true) := by kernel_rfl
theorem cs9 : cS9.deliver 0 = (cS10, true) := by kernel_rfl
theorem cs10 : cS10.deliver 0 = (cS11, true) := by kernel_rfl
theorem cs11 : cS11.deliver 0 = (cS12, true) := by kernel_rfl
theorem cs12 : cS12.deliver 0 = (cS13, true) := by kernel_rfl
theorem cs13 : cS13.deliver 0 = (cS14, true) := by kernel_rfl
theorem cs14 : cS14.deliver 0 = (cS15, true) := by kernel_rfl
theorem cs15 : cS15.deliver 0 = (cS16, true) := by kernel_rfl
theorem cs16 : cS16.deliver 0 = (cS17, true) := by kernel_rfl
theorem cs17 : cS17.deliver 0 = (cS18, true) := by kernel_rfl
theorem cs18 : cS18.deliver 0 = (cS19, true) := by kernel_rfl
theorem cs19 : cS19.deliver 0 = (cS20, true) := by kernel_rfl
theorem cs20 : cS20.deliver 0 = (cS21, true) := by kernel_rfl
theorem cq_end : (cQ 21).deliver 0 = (cQ 21, false) := by kernel_rfl
theorem cq_lose : (cQ 21).lose 0 = (cQ 21, false) := by kernel_rfl
theorem cq_step {k : Nat} (h : k < 21) : (cQ k).deliver 0 = (cQ (k + 1), true) := by
  have : k = 0 ∨ k = 1 ∨ k = 2 ∨ k = 3 ∨ k = 4 ∨ k = 5 ∨ k = 6 ∨ k = 7 ∨ k = 8 ∨ k = 9 ∨ k = 10 ∨ k = 11 ∨ k = 12 ∨ k = 13 ∨ k = 14 ∨ k = 15 ∨ k = 16 ∨ k = 17 ∨ k = 18 ∨ k = 19 ∨ k = 20 := by omega
  rcases this with rfl | rfl | rfl | rfl | rfl | rfl | rfl | rfl | rfl | rfl | rfl | rfl | rfl | rfl | rfl | rfl | rfl | rfl | rfl | rfl | rfl
  · exact cs0
  · exact cs1
  · exact cs2
  · exact cs3
  · exact cs4
  · exact cs5
  · exact cs6
  · exact cs7
  · exact cs8
  · exact cs9
  · exact cs10
  · exact cs11
  · exact cs12
  · exact cs13
  · exact cs14
  · exact cs15
  · exact cs16
  · exact cs17
  · exact cs18
  · exact cs19
  · exact cs20
theorem okc3 : okC 4 1 0 [xA, xB, xC] = true := by kernel_rfl
theorem cq_wf : ∀ {k : Nat}, k ≤ 21 → (cQ k).Wf 4 1
  | 0, _ => by rw [← cq_new]; exact newC_wf okc3
  | k + 1, h => by
    have h1 := (cq_wf (k := k) (by omega)).deliver 0
    rw [cq_step (by omega)] at h1
    exact h1
theorem cq_len : (cQ 21).way.length = 0 := by kernel_rfl
theorem cq_len1 : (({ cQ 21 with way := (cQ 21).way ++ [⟨1, ⟨2, 4, 0, 0, VoteM.empty⟩⟩] } : Cou).way.length : Int) = 1 := by kernel_rfl
theorem cq_d1 : decd (cQ 21) 1 = (xA, true) := by kernel_rfl
theorem cq_d2 : decd (cQ 21) 2 = (xA, true) := by kernel_rfl
theorem cq_d3 : decd (cQ 21) 3 = (xA, true) := by kernel_rfl
theorem cq_dec {j : Int} (h1 : 1 ≤ j) (h2 : j ≤ 3) : decd (cQ 21) j = (xA, true) := by
  have : j = 1 ∨ j = 2 ∨ j = 3 := by omega
  rcases this with rfl | rfl | rfl
  · exact cq_d1
  · exact cq_d2
  · exact cq_d3
theorem cq_f1 : (cQ 21).forge 1 ⟨2, 4, 0, 0, VoteM.empty⟩ = ({ cQ 21 with way := (cQ 21).way ++ [⟨1, ⟨2, 4, 0, 0, VoteM.empty⟩⟩] }, true) := by kernel_rfl
theorem cq_f2 : ({ cQ 21 with way := (cQ 21).way ++ [⟨1, ⟨2, 4, 0, 0, VoteM.empty⟩⟩] } : Cou).forge 1 ⟨0, 2, 0, 0, VoteM.empty⟩ = ({ cQ 21 with way := (cQ 21).way ++ [⟨1, ⟨2, 4, 0, 0, VoteM.empty⟩⟩] }, false) := by kernel_rfl
def fewC (vs : List ByteArray) (l : List Deed) : Prop := l.length ≤ 150 ∧ vs.length ≤ 20 ∧ (∀ v ∈ vs, v.size ≤ 5000) ∧ ∀ d ∈ l, d.w.value.size ≤ 5000
instance (vs : List ByteArray) (l : List Deed) : Decidable (fewC vs l) := by unfold fewC; infer_instance

set_option maxRecDepth 100000 in
set_option maxHeartbeats 400000 in
theorem c50 (n t h : Int) (vs : List ByteArray) (vv : Value) (l : List Deed) (v : Value) (w0 : World) (hr2 : RdSl w0.heap vv vs.length 1 (vs.flatMap encS)) (hr : RdSl w0.heap v l.length 8 (l.flatMap encDd)) : Cl Try.prog 50 #[.agg #[.int .i64 n, .int .i64 t, .int .i64 h, vv], v] w0 (RetQ w0 fun r => r = .int .i64 (if fewC vs l then 1 else 0)) := by
  have M : Sep (fun _ => False) w0 w0 _ := Sep.nil _ w0
  have hro := ro_of hr
  have hrv := ro_of hr2
  obtain ⟨A, cc, rfl, hcc⟩ := hr.form
  obtain ⟨VA, VC, rfl, hvc⟩ := hr2.form
  refine enter (vs := [_, _]) Try.func50 rfl rfl rfl ?_
  intro a F
  refine wp_seq ?_
  refine wp_region_l [.wr, .ind] ([0, 1]) rfl ?_
  refine s_bxA F M rfl rfl rfl rfl rfl ?_; (clear F a M; try clear w); intro b2 w M a F
  refine s_I F rfl rfl rfl rfl rfl rfl ?_; clear F a; intro a F
  refine t_endM M ?_; (clear M; try clear w); intro w M
  refine wp_seq ?_
  refine wp_seq ?_
  refine wp_region_l [.ind, .ind, .ind, .ind, .ind, .rd, .ind, .ind, .ind] ([0, 1, 2, 3, 4, 5, 6, 7, 8]) rfl ?_
  refine s_I F rfl rfl rfl rfl rfl rfl ?_; clear F a; intro a F
  refine s_len F rfl rfl rfl rfl sl_79_B6 rfl ?_; clear F a; intro a F
  refine s_bin F rfl rfl rfl rfl rfl rfl rfl ?_; clear F a; intro a F
  refine s_I F rfl rfl rfl rfl rfl rfl ?_; clear F a; intro a F
  refine bsplit F 10 rfl ?_ ?_
  ·
    clear F; intro hc0 F
    try rw [hc0] at F
    replace hc0 := of_decide_eq_true hc0
    refine s_no F rfl rfl rfl rfl ?_; clear F a; intro a F
    refine s_no F rfl rfl rfl rfl ?_; clear F a; intro a F
    refine s_no F rfl rfl rfl rfl ?_; clear F a; intro a F
    refine s_no F rfl rfl rfl rfl ?_; clear F a; intro a F
    refine s_I F rfl rfl rfl rfl rfl rfl ?_; clear F a; intro a F
    refine t_endM M ?_; (clear M; try clear w); intro w M
    refine c_t F rfl ?_
    refine wp_seq ?_
    replace F := F.keep [0, 1, 2, 4] rfl
    refine wp_region_l [.ind] ([0]) rfl ?_
    refine s_I F rfl rfl rfl rfl rfl rfl ?_; clear F a; intro a F
    refine t_endM M ?_; (clear M; try clear w); intro w M
    refine wp_ret ?_
    refine ret1 F rfl rfl ?_
    -- end 0
    refine ⟨_, rfl, ?_, M.chg⟩
    rw [if_neg (fun h => by have := h.1; have := h.2.1; omega)]
  ·
    clear F; intro hc1 F
    try rw [hc1] at F
    replace hc1 := of_decide_eq_false hc1
    refine s_fa0 F rfl rfl rfl rfl fa_71_3_B6 rfl ?_; clear F a; intro a F
    refine s_ld F rfl rfl rfl rfl sc_69_B6 rfl (by exact cell_of_blk M.h0 (lit rfl)) ?_; clear F a; intro a F
    refine s_len F rfl rfl rfl rfl sl_69_B6 rfl ?_; clear F a; intro a F
    refine s_bin F rfl rfl rfl rfl rfl rfl rfl ?_; clear F a; intro a F
    refine s_I F rfl rfl rfl rfl rfl rfl ?_; clear F a; intro a F
    refine t_endM M ?_; (clear M; try clear w); intro w M
    refine c_if F rfl ?_ ?_
    ·
      clear F; intro hc2 F
      try rw [hc2] at F
      replace hc2 := of_decide_eq_true hc2
      refine wp_seq ?_
      replace F := F.keep [0, 1, 2, 4] rfl
      refine wp_region_l [.ind] ([0]) rfl ?_
      refine s_I F rfl rfl rfl rfl rfl rfl ?_; clear F a; intro a F
      refine t_endM M ?_; (clear M; try clear w); intro w M
      refine wp_ret ?_
      refine ret1 F rfl rfl ?_
      -- end 1
      refine ⟨_, rfl, ?_, M.chg⟩
      rw [if_neg (fun h => by have := h.1; have := h.2.1; omega)]
    ·
      clear F; intro hc3 F
      try rw [hc3] at F
      replace hc3 := of_decide_eq_false hc3
      refine wp_skip ?_
      refine wp_seq ?_
      refine wp_seq ?_
      replace F := F.keep [0, 1, 2, 4] rfl
      refine wp_region_l [.ind] ([0]) rfl ?_
      refine s_I F rfl rfl rfl rfl rfl rfl ?_; clear F a; intro a F
      refine t_endM M ?_; (clear M; try clear w); intro w M
      refine wp_block ?_
      refine loopX (X := (Int)) F [0, 1, 2] rfl (fun (i : Int) => (0 ≤ i) ∧ (i ≤ vs.length) ∧ (∀ m ∈ vs.take i.toNat, m.size ≤ 5000)) (fun (i : Int) => [(5, .int .i64 i)]) (fun (i : Int) => []) (fun (i : Int) => vs.length - i.toNat) (0) M ⟨(by omega), (by omega), (by simp)⟩ (F.keep [5, 0, 1, 2] rfl) ?_
      clear F M; clear a; (try clear w)
      rintro i a w ⟨i0, i1, ha⟩ F M; try dsimp only at F M
      try simp only [List.cons_append, List.nil_append] at F M
      try dsimp only at i0 i1 ha
      refine wp_seq ?_
      refine wp_seq ?_
      refine wp_region_l [.ind, .ind, .rd, .ind, .ind] ([0, 1, 2, 3, 4]) rfl ?_
      refine s_I F rfl rfl rfl rfl rfl rfl ?_; clear F a; intro a F
      refine s_fa0 F rfl rfl rfl rfl fa_71_3_B6 rfl ?_; clear F a; intro a F
      refine s_ld F rfl rfl rfl rfl sc_69_B6 rfl (by exact cell_of_blk M.h0 (lit rfl)) ?_; clear F a; intro a F
      refine s_len F rfl rfl rfl rfl sl_69_B6 rfl ?_; clear F a; intro a F
      refine s_bin F rfl rfl rfl rfl rfl rfl rfl ?_; clear F a; intro a F
      refine t_endM M ?_; (clear M; try clear w); intro w M
      refine c_if F rfl ?_ ?_
      ·
        clear F; intro hc4 F
        try rw [hc4] at F
        replace hc4 := of_decide_eq_true hc4
        refine wp_skip ?_
        refine wp_seq ?_
        refine wp_block ?_
        refine wp_seq ?_
        replace F := F.keep [0, 1, 2, 5] rfl
        refine wp_region_l [.ind, .rd, .ind, .ind, .rd, .ind, .ind] ([0, 1, 2, 3, 4, 5, 6]) rfl ?_
        refine s_fa0 F rfl rfl rfl rfl fa_71_3_B6 rfl ?_; clear F a; intro a F
        refine s_ld F rfl rfl rfl rfl sc_69_B6 rfl (by exact cell_of_blk M.h0 (lit rfl)) ?_; clear F a; intro a F
        refine s_I F rfl rfl rfl rfl rfl rfl ?_; clear F a; intro a F
        refine s_ix F rfl rfl rfl rfl sl_69_B6 rfl rfl (by exact M.chg.ro hrv) (by omega) (by omega) ?_; clear F a; intro e26 he26 a F
        refine s_ld F rfl rfl rfl rfl sc_9_B6 rfl (by exact rdX0 (M.chg.ro hrv) (by intro e; rfl) he26 rfl) ?_; clear F a; intro a F
        refine s_lenS F rfl rfl rfl rfl st_9_B6 rfl ?_; clear F a; intro a F
        refine s_bin F rfl rfl rfl rfl rfl rfl rfl ?_; clear F a; intro a F
        refine t_endM M ?_; (clear M; try clear w); intro w M
        refine c_if F rfl ?_ ?_
        ·
          clear F; intro hc5 F
          try rw [hc5] at F
          replace hc5 := of_decide_eq_true hc5
          refine wp_seq ?_
          replace F := F.keep [0, 1, 2, 5] rfl
          refine wp_region_l [.ind] ([0]) rfl ?_
          refine s_I F rfl rfl rfl rfl rfl rfl ?_; clear F a; intro a F
          refine t_endM M ?_; (clear M; try clear w); intro w M
          refine wp_ret ?_
          refine ret1 F rfl rfl ?_
          -- end 2
          refine ⟨_, rfl, ?_, M.chg⟩
          rw [if_neg (fun h => by have := h.2.2.1 e26 (List.mem_of_getElem? he26); omega)]
        ·
          clear F; intro hc6 F
          try rw [hc6] at F
          replace hc6 := of_decide_eq_false hc6
          refine wp_skip ?_
          replace F := F.keep [0, 1, 2, 5] rfl
          refine wp_region_l [.ind, .ind, .ind] ([0, 1, 2]) rfl ?_
          refine s_I F rfl rfl rfl rfl rfl rfl ?_; clear F a; intro a F
          refine s_add F rfl rfl rfl rfl rfl rfl (by unfold In64; omega) ?_; clear F a; intro a F
          refine s_I F rfl rfl rfl rfl rfl rfl ?_; clear F a; intro a F
          refine t_endM M ?_; (clear M; try clear w); intro w M
          refine again (i + 1) (by show _ < _; (try dsimp only); omega) ⟨(by omega), (by assumption), all_take ha i0 he26 (by omega)⟩ (F.keep [5, 0, 1, 2] rfl) ?_
          try dsimp only [List.cons_append, List.nil_append]
          refine M.pick ?_; repeat (first | exact PkG.nil | refine PkG.cons 0 rfl rfl ?_)
      ·
        clear F; intro hc7 F
        try rw [hc7] at F
        replace hc7 := of_decide_eq_false hc7
        refine wp_exit ?_
        refine wp_seq ?_
        refine wp_seq ?_
        replace F := F.keep [0, 1, 2, 5] rfl
        refine wp_region_l [.ind] ([0]) rfl ?_
        refine s_I F rfl rfl rfl rfl rfl rfl ?_; clear F a; intro a F
        refine t_endM M ?_; (clear M; try clear w); intro w M
        refine wp_block ?_
        refine loopX (X := (Int)) F [0, 1, 2, 5] rfl (fun (j : Int) => (0 ≤ j) ∧ (j ≤ l.length) ∧ (∀ m ∈ l.take j.toNat, m.w.value.size ≤ 5000)) (fun (j : Int) => [(6, .int .i64 j)]) (fun (j : Int) => []) (fun (j : Int) => l.length - j.toNat) (0) M ⟨(by omega), (by omega), (by simp)⟩ (F.keep [6, 0, 1, 2, 5] rfl) ?_
        clear F M; clear a; (try clear w)
        rintro j a w ⟨j0, j1, hb⟩ F M; try dsimp only at F M
        try simp only [List.cons_append, List.nil_append] at F M
        try dsimp only at j0 j1 hb
        refine wp_seq ?_
        refine wp_seq ?_
        refine wp_region_l [.ind, .ind, .ind, .ind] ([0, 1, 2, 3]) rfl ?_
        refine s_I F rfl rfl rfl rfl rfl rfl ?_; clear F a; intro a F
        refine s_I F rfl rfl rfl rfl rfl rfl ?_; clear F a; intro a F
        refine s_len F rfl rfl rfl rfl sl_79_B6 rfl ?_; clear F a; intro a F
        refine s_bin F rfl rfl rfl rfl rfl rfl rfl ?_; clear F a; intro a F
        refine t_endM M ?_; (clear M; try clear w); intro w M
        refine c_if F rfl ?_ ?_
        ·
          clear F; intro hc8 F
          try rw [hc8] at F
          replace hc8 := of_decide_eq_true hc8
          refine wp_skip ?_
          refine wp_seq ?_
          refine wp_block ?_
          refine wp_seq ?_
          replace F := F.keep [0, 1, 2, 5, 6] rfl
          refine wp_region_l [.ind, .ind, .ind, .ind, .ind, .rd, .ind, .ind] ([0, 1, 2, 3, 4, 5, 6, 7]) rfl ?_
          refine s_I F rfl rfl rfl rfl rfl rfl ?_; clear F a; intro a F
          refine s_I F rfl rfl rfl rfl rfl rfl ?_; clear F a; intro a F
          refine s_ix F rfl rfl rfl rfl sl_79_B6 rfl rfl (by exact M.chg.ro hro) (by omega) (by omega) ?_; clear F a; intro e38 he38 a F
          refine s_fa F rfl rfl rfl rfl fa_82_3_B6 rfl ?_; clear F a; intro a F
          refine s_fa F rfl rfl rfl rfl fa_32_4_B6 rfl ?_; clear F a; intro a F
          refine s_ld F rfl rfl rfl rfl sc_9_B6 rfl (by exact rdX2 (M.chg.ro hro) (by intro e; rfl) he38 rfl) ?_; clear F a; intro a F
          refine s_lenS F rfl rfl rfl rfl st_9_B6 rfl ?_; clear F a; intro a F
          refine s_bin F rfl rfl rfl rfl rfl rfl rfl ?_; clear F a; intro a F
          refine t_endM M ?_; (clear M; try clear w); intro w M
          refine c_if F rfl ?_ ?_
          ·
            clear F; intro hc9 F
            try rw [hc9] at F
            replace hc9 := of_decide_eq_true hc9
            refine wp_seq ?_
            replace F := F.keep [0, 1, 2, 5, 6] rfl
            refine wp_region_l [.ind] ([0]) rfl ?_
            refine s_I F rfl rfl rfl rfl rfl rfl ?_; clear F a; intro a F
            refine t_endM M ?_; (clear M; try clear w); intro w M
            refine wp_ret ?_
            refine ret1 F rfl rfl ?_
            -- end 3
            refine ⟨_, rfl, ?_, M.chg⟩
            rw [if_neg (fun h => by have := h.2.2.2 e38 (List.mem_of_getElem? he38); omega)]
          ·
            clear F; intro hc10 F
            try rw [hc10] at F
            replace hc10 := of_decide_eq_false hc10
            refine wp_skip ?_
            replace F := F.keep [0, 1, 2, 5, 6] rfl
            refine wp_region_l [.ind, .ind, .ind] ([0, 1, 2]) rfl ?_
            refine s_I F rfl rfl rfl rfl rfl rfl ?_; clear F a; intro a F
            refine s_add F rfl rfl rfl rfl rfl rfl (by unfold In64; omega) ?_; clear F a; intro a F
            refine s_I F rfl rfl rfl rfl rfl rfl ?_; clear F a; intro a F
            refine t_endM M ?_; (clear M; try clear w); intro w M
            refine again (j + 1) (by show _ < _; (try dsimp only); omega) ⟨(by omega), (by assumption), all_take hb j0 he38 (by omega)⟩ (F.keep [6, 0, 1, 2, 5] rfl) ?_
            try dsimp only [List.cons_append, List.nil_append]
            refine M.pick ?_; repeat (first | exact PkG.nil | refine PkG.cons 0 rfl rfl ?_)
        ·
          clear F; intro hc11 F
          try rw [hc11] at F
          replace hc11 := of_decide_eq_false hc11
          refine wp_exit ?_
          refine wp_seq ?_
          replace F := F.keep [0, 1, 2, 5, 6] rfl
          refine wp_region_l [.ind] ([0]) rfl ?_
          refine s_I F rfl rfl rfl rfl rfl rfl ?_; clear F a; intro a F
          refine t_endM M ?_; (clear M; try clear w); intro w M
          refine wp_ret ?_
          refine ret1 F rfl rfl ?_
          -- end 4
          refine ⟨_, rfl, ?_, M.chg⟩
          rw [take_all (by omega)] at ha hb
          rw [if_pos ⟨by omega, by omega, ha, hb⟩]
set_option maxRecDepth 100000 in
set_option maxHeartbeats 400000 in
theorem c51 (w0 : World) : Cl Try.prog 51 #[] w0 (RetQ w0 fun v => v = .bool true) := by
  have M : Sep (fun _ => False) w0 w0 _ := Sep.nil _ w0
  refine enter (vs := []) Try.func51 rfl rfl rfl ?_
  intro a F
  refine wp_seq ?_
  refine wp_region_l [.ind] ([0]) rfl ?_
  refine s_I F rfl rfl rfl rfl rfl rfl ?_; clear F a; intro a F
  refine t_endM M ?_; (clear M; try clear w); intro w M
  refine wp_seq ?_
  refine wp_region_l [.wr, .wr, .ind] ([0, 1, 2]) rfl ?_
  refine s_bs F M rfl rfl rfl rfl (parts3 F rfl rfl rfl) (bs_69_3_B6 _ _ _) ?_; (clear F a M; try clear w); intro b6 w M a F
  refine s_call (m := []) F M rfl rfl rfl rfl rfl (rfl : _ = some [_, _, _, _]) cb_52_B6 (fun nd_ => c52 4 1 0 ⟨by decide, by decide⟩ ⟨by decide, by decide⟩ [xA, xB, xC] _ okc3 _ (by exact rd_blk M.h0 rfl)) ?_; (clear F a M; try clear w); rintro v g0 w rfl M a F; (try simp only [List.cons_append, List.nil_append] at M)
  rw [cq_new] at M
  refine s_I F rfl rfl rfl rfl rfl rfl ?_; clear F a; intro a F
  refine t_endM M ?_; (clear M; try clear w); intro w M
  refine wp_seq ?_
  refine wp_seq ?_
  replace F := F.keep [0, 1] rfl
  refine wp_region_l [.ind, .ind, .ind, .wr, .wr, .ind, .ind] ([0, 1, 2, 3, 4, 5, 6]) rfl ?_
  refine s_I F rfl rfl rfl rfl rfl rfl ?_; clear F a; intro a F
  refine s_pn F rfl rfl rfl rfl pt_73_B6 rfl ?_; clear F a; intro a F
  replace F : Fr _ _ ((9, Value.bool false) :: _) := F
  refine s_I F rfl rfl rfl rfl rfl rfl ?_; clear F a; intro a F
  refine s_bs F M rfl rfl rfl rfl (parts1 F rfl) (bs_69_1_B6 _) ?_; (clear F a M; try clear w); intro b11 w M a F
  refine s_cq F M rfl rfl rfl rfl rfl (rfl : _ = some [_, _, _, _]) cb_52_B6 (fun nd_ => c52a 4 1 0 ⟨by decide, by decide⟩ ⟨by decide, by decide⟩ [xA] _ (by decide) _ (by exact rd_blk M.h0 rfl)) ?_; (clear F a M; try clear w); rintro v w rfl M a F
  refine s_pne F rfl rfl rfl rfl pt_73_B6 rfl ?_; clear F a; intro a F
  replace F : Fr _ _ ((13, Value.bool false) :: _) := F
  refine s_I F rfl rfl rfl rfl rfl rfl ?_; clear F a; intro a F
  refine t_endM M ?_; (clear M; try clear w); intro w M
  refine c_f F rfl ?_
  refine wp_skip ?_
  refine wp_seq ?_
  refine wp_seq ?_
  replace F := F.keep [0, 1] rfl
  refine wp_region_l [.ind] ([0]) rfl ?_
  refine s_I F rfl rfl rfl rfl rfl rfl ?_; clear F a; intro a F
  refine t_endM M ?_; (clear M; try clear w); intro w M
  refine wp_block ?_
  have M1 : Sep _ _ _ (couR _ _ :: _) := M.f1; replace M := M1; clear M1
  refine loopX (X := (Nat) × (Gc)) F [0, 1] rfl (fun ((k, g) : (Nat) × (Gc)) => (k ≤ 21) ∧ (g.b = g0.b)) (fun ((k, g) : (Nat) × (Gc)) => [(2, .int .i64 (k : Int))]) (fun ((k, g) : (Nat) × (Gc)) => [couR g (cQ k)]) (fun ((k, g) : (Nat) × (Gc)) => 21 - k) ((0), (g0)) M ⟨(by omega), rfl⟩ (F.keep [2, 0, 1] rfl) ?_
  clear F M; clear a; (try clear w)
  rintro ⟨k, g⟩ a w ⟨hk, hg⟩ F M; try dsimp only at F M
  try simp only [List.cons_append, List.nil_append] at F M
  try dsimp only at hk hg
  rw [← hg] at F
  refine wp_seq ?_
  refine wp_seq ?_
  refine wp_region_l [.ind, .ind, .ind, .ind, .wr, .ind] ([0, 1, 2, 3, 4, 5]) rfl ?_
  refine s_I F rfl rfl rfl rfl rfl rfl ?_; clear F a; intro a F
  refine s_bin F rfl rfl rfl rfl rfl rfl rfl ?_; clear F a; intro a F
  refine s_I F rfl rfl rfl rfl rfl rfl ?_; clear F a; intro a F
  refine bsplit F 17 rfl ?_ ?_
  ·
    clear F; intro hc0 F
    try rw [hc0] at F
    replace hc0 := of_decide_eq_true hc0
    refine s_I F rfl rfl rfl rfl rfl rfl ?_; clear F a; intro a F
    have M1 : Sep _ _ _ (couR _ _ :: _) := M; replace M := M1; clear M1
    refine s_call (m := [_]) F M rfl rfl rfl rfl rfl (rfl : _ = some [_, _]) cb_53_B6 (fun nd_ => c53 g (cQ k) (cq_wf (by omega)) 0 _ (M.drewN nd_).own.one) ?_; (clear F a M; try clear w); rintro v g3 w ⟨rfl, hb3⟩ M a F; (try simp only [List.cons_append, List.nil_append] at M)
    refine s_I F rfl rfl rfl rfl rfl rfl ?_; clear F a; intro a F
    refine t_endM M ?_; (clear M; try clear w); intro w M
    refine c_if F rfl ?_ ?_
    ·
      clear F; intro hc1 F
      try rw [hc1] at F
      skip
      have hk2 : k < 21 := (by rcases Nat.lt_or_ge k 21 with e | e; exact e; obtain rfl : k = 21 := (by omega); rw [cq_end] at hc1; cases hc1)
      rw [cq_step hk2] at M
      dsimp only at M
      refine wp_skip ?_
      refine wp_seq ?_
      refine wp_block ?_
      refine wp_skip ?_
      replace F := F.keep [0, 1, 2] rfl
      refine wp_region_l [.ind, .ind, .ind] ([0, 1, 2]) rfl ?_
      refine s_I F rfl rfl rfl rfl rfl rfl ?_; clear F a; intro a F
      refine s_add F rfl rfl rfl rfl rfl rfl (by unfold In64; omega) ?_; clear F a; intro a F
      refine s_I F rfl rfl rfl rfl rfl rfl ?_; clear F a; intro a F
      refine t_endM M ?_; (clear M; try clear w); intro w M
      rw [hg] at F
      refine again ((k + 1), (g3)) (by show _ < _; (try dsimp only); omega) ⟨(by assumption), (hb3.trans hg)⟩ (F.keep [2, 0, 1] rfl) ?_
      try dsimp only [List.cons_append, List.nil_append]
      refine M.pick ?_; repeat (first | exact PkG.nil | refine PkG.cons 0 rfl rfl ?_ | refine PkG.cons 1 rfl rfl ?_ | refine PkG.cons 2 rfl rfl ?_)
    ·
      clear F; intro hc2 F
      try rw [hc2] at F
      skip
      obtain rfl : k = 21 := (by rcases Nat.lt_or_ge k 21 with e | e; rw [cq_step e] at hc2; cases hc2; omega)
      rw [cq_end] at M
      dsimp only at M
      rw [← hb3] at F
      refine wp_exit ?_
      refine wp_seq ?_
      refine wp_seq ?_
      replace F := F.keep [0, 1, 2] rfl
      refine wp_region_l [.ind] ([0]) rfl ?_
      refine s_I F rfl rfl rfl rfl rfl rfl ?_; clear F a; intro a F
      refine t_endM M ?_; (clear M; try clear w); intro w M
      refine wp_block ?_
      refine loopX (X := (Int)) F [1, 2] rfl (fun (j : Int) => (1 ≤ j) ∧ (j ≤ 4)) (fun (j : Int) => [(3, .int .i64 j)]) (fun (j : Int) => []) (fun (j : Int) => (4 - j).toNat) (1) M ⟨(by omega), (by omega)⟩ (F.keep [3, 1, 2] rfl) ?_
      clear F M; clear a; (try clear w)
      rintro j a w ⟨j0, j1⟩ F M; try dsimp only at F M
      try simp only [List.cons_append, List.nil_append] at F M
      try dsimp only at j0 j1
      refine wp_seq ?_
      refine wp_seq ?_
      refine wp_region_l [.ind, .ind] ([0, 1]) rfl ?_
      refine s_I F rfl rfl rfl rfl rfl rfl ?_; clear F a; intro a F
      refine s_bin F rfl rfl rfl rfl rfl rfl rfl ?_; clear F a; intro a F
      refine t_endM M ?_; (clear M; try clear w); intro w M
      refine c_if F rfl ?_ ?_
      ·
        clear F; intro hc3 F
        try rw [hc3] at F
        replace hc3 := of_decide_eq_true hc3
        refine wp_skip ?_
        refine wp_seq ?_
        refine wp_block ?_
        refine wp_seq ?_
        replace F := F.keep [1, 2, 3] rfl
        refine wp_region_l [.ind, .ind, .wr, .ind, .ind, .ind, .ind, .ind] ([0, 1, 2, 3, 4, 5, 6, 7]) rfl ?_
        refine s_I F rfl rfl rfl rfl rfl rfl ?_; clear F a; intro a F
        refine s_I F rfl rfl rfl rfl rfl rfl ?_; clear F a; intro a F
        refine s_cq F M rfl rfl rfl rfl rfl (rfl : _ = some [_, _]) cb_54_B6 (fun nd_ => c54 g3 (cQ 21) (cq_wf (by omega)).l7 j _ (by exact roF (M.drewN nd_))) ?_; (clear F a M; try clear w); rintro v w rfl M a F
        rw [cq_dec j0 (by omega)] at F
        refine s_I F rfl rfl rfl rfl rfl rfl ?_; clear F a; intro a F
        refine s_I F rfl rfl rfl rfl rfl rfl ?_; clear F a; intro a F
        refine s_I F rfl rfl rfl rfl rfl rfl ?_; clear F a; intro a F
        refine s_I F rfl rfl rfl rfl rfl rfl ?_; clear F a; intro a F
        refine s_I F rfl rfl rfl rfl rfl rfl ?_; clear F a; intro a F
        refine t_endM M ?_; (clear M; try clear w); intro w M
        refine wp_seq ?_
        replace F := F.keep [1, 2, 3, 4, 5] rfl
        refine wp_region_l [.ind, .ind, .ind, .ind, .ind, .ind] ([0, 1, 2, 3, 4, 5]) rfl ?_
        refine s_I F rfl rfl rfl rfl rfl rfl ?_; clear F a; intro a F
        refine s_bin F rfl rfl rfl rfl rfl rfl rfl ?_; clear F a; intro a F
        replace F : Fr _ _ ((34, Value.bool false) :: _) := F
        refine s_I F rfl rfl rfl rfl rfl rfl ?_; clear F a; intro a F
        refine s_I F rfl rfl rfl rfl rfl rfl ?_; clear F a; intro a F
        refine s_I F rfl rfl rfl rfl rfl rfl ?_; clear F a; intro a F
        replace F : Fr _ _ ((37, Value.bool false) :: _) := F
        refine s_I F rfl rfl rfl rfl rfl rfl ?_; clear F a; intro a F
        refine t_endM M ?_; (clear M; try clear w); intro w M
        refine c_f F rfl ?_
        refine wp_skip ?_
        replace F := F.keep [1, 2, 3, 4, 5] rfl
        refine wp_region_l [.ind, .ind, .ind] ([0, 1, 2]) rfl ?_
        refine s_I F rfl rfl rfl rfl rfl rfl ?_; clear F a; intro a F
        refine s_add F rfl rfl rfl rfl rfl rfl (by unfold In64; omega) ?_; clear F a; intro a F
        refine s_I F rfl rfl rfl rfl rfl rfl ?_; clear F a; intro a F
        refine t_endM M ?_; (clear M; try clear w); intro w M
        refine again (j + 1) (by show _ < _; (try dsimp only); omega) ⟨(by omega), (by omega)⟩ (F.keep [3, 1, 2] rfl) ?_
        try dsimp only [List.cons_append, List.nil_append]
        refine M.pick ?_; repeat (first | exact PkG.nil | refine PkG.cons 0 rfl rfl ?_ | refine PkG.cons 1 rfl rfl ?_ | refine PkG.cons 2 rfl rfl ?_)
      ·
        clear F; intro hc4 F
        try rw [hc4] at F
        replace hc4 := of_decide_eq_false hc4
        refine wp_exit ?_
        refine wp_seq ?_
        replace F := F.keep [1, 2, 3] rfl
        refine wp_region_l [.ind, .wr, .ind, .ind, .ind, .wr, .ind, .ind, .ind, .ind, .wr, .ind, .ind, .ind, .ind, .ind, .wr, .ind, .ind, .ind, .ind, .wr, .ind, .ind, .ind, .ind, .wr, .ind, .ind, .ind] ([0, 1, 2, 3, 4, 5, 6, 7, 8, 9, 10, 11, 12, 13, 14, 15, 16, 17, 18, 19, 20, 21, 22, 23, 24, 25, 26, 27, 28, 29]) rfl ?_
        refine s_I F rfl rfl rfl rfl rfl rfl ?_; clear F a; intro a F
        refine s_cq F M rfl rfl rfl rfl rfl (rfl : _ = some [_]) cb_55_B6 (fun nd_ => c55 g3 (cQ 21) _ (by exact roF (M.drewN nd_))) ?_; (clear F a M; try clear w); rintro v w rfl M a F
        rw [cq_len] at F
        refine s_bin F rfl rfl rfl rfl rfl rfl rfl ?_; clear F a; intro a F
        replace F : Fr _ _ ((41, Value.bool true) :: _) := F
        refine s_I F rfl rfl rfl rfl rfl rfl ?_; clear F a; intro a F
        refine s_I F rfl rfl rfl rfl rfl rfl ?_; clear F a; intro a F
        have M1 : Sep _ _ _ (couR _ _ :: _) := M; replace M := M1; clear M1
        refine s_call (m := [_]) F M rfl rfl rfl rfl rfl (rfl : _ = some [_, _]) cb_53_B6 (fun nd_ => c53 g3 (cQ 21) (cq_wf (by omega)) 0 _ (M.drewN nd_).own.one) ?_; (clear F a M; try clear w); rintro v g4 w ⟨rfl, hb4⟩ M a F; (try simp only [List.cons_append, List.nil_append] at M)
        rw [cq_end] at F M
        dsimp only at F M
        rw [← hb4] at F
        refine s_I F rfl rfl rfl rfl rfl rfl ?_; clear F a; intro a F
        replace F : Fr _ _ ((45, Value.bool true) :: _) := F
        refine s_I F rfl rfl rfl rfl rfl rfl ?_; clear F a; intro a F
        refine s_I F rfl rfl rfl rfl rfl rfl ?_; clear F a; intro a F
        refine s_I F rfl rfl rfl rfl rfl rfl ?_; clear F a; intro a F
        have M1 : Sep _ _ _ (couR _ _ :: _) := M; replace M := M1; clear M1
        refine s_call (m := [_]) F M rfl rfl rfl rfl rfl (rfl : _ = some [_, _]) cb_90_B6 (fun nd_ => c90 g4 (cQ 21) (cq_wf (by omega)) 0 _ (M.drewN nd_).own.one) ?_; (clear F a M; try clear w); rintro v g5 w ⟨rfl, hb5⟩ M a F; (try simp only [List.cons_append, List.nil_append] at M)
        rw [cq_lose] at F M
        dsimp only at F M
        rw [← hb5] at F
        refine s_I F rfl rfl rfl rfl rfl rfl ?_; clear F a; intro a F
        replace F : Fr _ _ ((50, Value.bool true) :: _) := F
        refine s_I F rfl rfl rfl rfl rfl rfl ?_; clear F a; intro a F
        refine s_I F rfl rfl rfl rfl rfl rfl ?_; clear F a; intro a F
        refine s_I F rfl rfl rfl rfl rfl rfl ?_; clear F a; intro a F
        refine s_bld F rfl rfl rfl rfl (parts2 F rfl rfl) (bl_32_0_1_B6 _ _) ?_; clear F a; intro a F
        have M1 : Sep _ _ _ (couR _ _ :: _) := M; replace M := M1; clear M1
        refine s_call (m := [_]) F M rfl rfl rfl rfl rfl (rfl : _ = some [_, _, _]) cb_91_B6 (fun nd_ => c91 g5 (cQ 21) (cq_wf (by omega)) 1 ⟨2, 4, 0, 0, VoteM.empty⟩ _ (M.drewN nd_).own.one) ?_; (clear F a M; try clear w); rintro v g6 w ⟨rfl, hb6⟩ M a F; (try simp only [List.cons_append, List.nil_append] at M)
        have hwf := (cq_wf (k := 21) (by omega)).forge 1 ⟨2, 4, 0, 0, VoteM.empty⟩
        rw [cq_f1] at F M hwf
        dsimp only at F M hwf
        rw [← hb6] at F
        replace F : Fr _ _ ((55, Value.bool true) :: _) := F
        refine s_I F rfl rfl rfl rfl rfl rfl ?_; clear F a; intro a F
        refine s_I F rfl rfl rfl rfl rfl rfl ?_; clear F a; intro a F
        refine s_I F rfl rfl rfl rfl rfl rfl ?_; clear F a; intro a F
        refine s_bld F rfl rfl rfl rfl (parts1 F rfl) (bl_32_1_B6 _) ?_; clear F a; intro a F
        have M1 : Sep _ _ _ (couR _ _ :: _) := M; replace M := M1; clear M1
        refine s_call (m := [_]) F M rfl rfl rfl rfl rfl (rfl : _ = some [_, _, _]) cb_91_B6 (fun nd_ => c91 g6 ({ cQ 21 with way := (cQ 21).way ++ [⟨1, ⟨2, 4, 0, 0, VoteM.empty⟩⟩] } : Cou) hwf 1 ⟨0, 2, 0, 0, VoteM.empty⟩ _ (M.drewN nd_).own.one) ?_; (clear F a M; try clear w); rintro v g7 w ⟨rfl, hb7⟩ M a F; (try simp only [List.cons_append, List.nil_append] at M)
        rw [cq_f2] at F M
        dsimp only at F M
        rw [← hb7] at F
        refine s_I F rfl rfl rfl rfl rfl rfl ?_; clear F a; intro a F
        replace F : Fr _ _ ((61, Value.bool true) :: _) := F
        refine s_I F rfl rfl rfl rfl rfl rfl ?_; clear F a; intro a F
        refine s_I F rfl rfl rfl rfl rfl rfl ?_; clear F a; intro a F
        refine s_I F rfl rfl rfl rfl rfl rfl ?_; clear F a; intro a F
        refine s_cq F M rfl rfl rfl rfl rfl (rfl : _ = some [_]) cb_55_B6 (fun nd_ => c55 g7 ({ cQ 21 with way := (cQ 21).way ++ [⟨1, ⟨2, 4, 0, 0, VoteM.empty⟩⟩] } : Cou) _ (by exact roF (M.drewN nd_))) ?_; (clear F a M; try clear w); rintro v w rfl M a F
        rw [cq_len1] at F
        refine s_bin F rfl rfl rfl rfl rfl rfl rfl ?_; clear F a; intro a F
        replace F : Fr _ _ ((66, Value.bool true) :: _) := F
        refine s_I F rfl rfl rfl rfl rfl rfl ?_; clear F a; intro a F
        refine s_I F rfl rfl rfl rfl rfl rfl ?_; clear F a; intro a F
        refine t_endM M ?_; (clear M; try clear w); intro w M
        refine wp_ret ?_
        refine ret1 F rfl rfl ?_
        -- end 0
        exact ⟨_, rfl, rfl, M.chg⟩
  ·
    clear F; intro hc5 F
    try rw [hc5] at F
    replace hc5 := of_decide_eq_false hc5
    exfalso
    omega
end Go.Proofs.Ytboibdmflblphaa
