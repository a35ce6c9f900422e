-- Laid by a program of this work (wip/gen): out of the translation, with texts of our own.
import Derived.Test.YtnnadgnohchmbaaPALLx0
import Derived.Test.YtnnadgnohchmbaaPALLx9
import Derived.Test.YtnnadgnohchmbaaWOpen
import Derived.KernelRfl
namespace Go.Proofs.Ytnnadgnohchmbaa.PALL
open Go.RowKit Go.Proofs.YtnnadgnohchmbaaW.PrintWords Go.Proofs.YtnnadgnohchmbaaW.Open
set_option linter.unusedVariables false
theorem o_P9 : Opens Try.prog 9 Kd.string okStr := opens_string Try.underlying9
theorem o_P5 : Opens Try.prog 5 (Kd.int .u8) okU8 := opens_u8 Try.underlying5
theorem o_P3 : Opens Try.prog 3 (Kd.int .i64) okI64 := opens_i64 Try.underlying3
def ok_T45 (y : S45) : Prop := okU8 y.f0 ∧ okI64 y.f1
theorem o_P45 : Opens Try.prog 45 k45 ok_T45 := opens_iso (fun x : S45 => (x.f0, x.f1)) (fun p => ⟨p.1, p.2⟩) (fun _ => rfl) (opens_struct Try.underlying45 (by kernel_rfl) (opensF_cons rfl (by kernel_rfl) o_P5 (opensF_one rfl (by kernel_rfl) o_P3)))
theorem o_P40 : Opens Try.prog 40 (Kd.slice 45 k45) (okL 16 ok_T45) := opens_slice Try.underlying40 (by kernel_rfl) (by kernel_rfl) o_P45
/-- THE ONE PURE STATEMENT of mapmakerlaw02_WireReads. -/
def mapmakerlaw02_WireReads.Pure : Prop := ∀ (y0 : ByteArray) (y1 : List (S45)), okStr y0 → (okL 16 ok_T45) y1 → ∃ k, mapmakerlaw02_WireReads.f k y0 y1 = some true
end Go.Proofs.Ytnnadgnohchmbaa.PALL
