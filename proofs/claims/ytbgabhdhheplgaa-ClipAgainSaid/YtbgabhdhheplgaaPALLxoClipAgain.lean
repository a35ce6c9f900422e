-- Laid by a program of this work (wip/gen): out of the translation, with texts of our own.
import Derived.Test.YtbgabhdhheplgaaPALLx0
import Derived.Test.YtbgabhdhheplgaaPALLx26
import Derived.Test.YtbgabhdhheplgaaWOpen
import Derived.KernelRfl
namespace Go.Proofs.Ytbgabhdhheplgaa.PALL
open Go.RowKit Go.Proofs.YtbgabhdhheplgaaW.PrintWords Go.Proofs.YtbgabhdhheplgaaW.Open
set_option linter.unusedVariables false
theorem o_P3 : Opens Try.prog 3 (Kd.int .i64) okI64 := opens_i64 Try.underlying3
def ok_T37 (y : S37) : Prop := okI64 y.f0 ∧ okI64 y.f1
theorem o_P37 : Opens Try.prog 37 k37 ok_T37 := opens_iso (fun x : S37 => (x.f0, x.f1)) (fun p => ⟨p.1, p.2⟩) (fun _ => rfl) (opens_struct Try.underlying37 (by kernel_rfl) (opensF_cons rfl (by kernel_rfl) o_P3 (opensF_one rfl (by kernel_rfl) o_P3)))
theorem o_P22 : Opens Try.prog 22 (Kd.slice 37 k37) (okL 16 ok_T37) := opens_slice Try.underlying22 (by kernel_rfl) (by kernel_rfl) o_P37
def ok_T28 (y : S28) : Prop := okI64 y.f0 ∧ okI64 y.f1 ∧ okI64 y.f2 ∧ okI64 y.f3
theorem o_P28 : Opens Try.prog 28 k28 ok_T28 := opens_iso (fun x : S28 => (x.f0, x.f1, x.f2, x.f3)) (fun p => ⟨p.1, p.2.1, p.2.2.1, p.2.2.2⟩) (fun _ => rfl) (opens_struct Try.underlying28 (by kernel_rfl) (opensF_cons rfl (by kernel_rfl) o_P3 (opensF_cons rfl (by kernel_rfl) o_P3 (opensF_cons rfl (by kernel_rfl) o_P3 (opensF_one rfl (by kernel_rfl) o_P3)))))
/-- THE ONE PURE STATEMENT of mapmakerlaw12_ClipAgain. -/
def mapmakerlaw12_ClipAgain.Pure : Prop := ∀ (y0 : List (S37)) (y1 : S28), (okL 16 ok_T37) y0 → ok_T28 y1 → ∃ k, mapmakerlaw12_ClipAgain.f k y0 y1.f0 y1.f1 y1.f2 y1.f3 = some true
end Go.Proofs.Ytbgabhdhheplgaa.PALL
