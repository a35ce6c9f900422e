-- Laid by a program of this work (wip/gen): out of the translation, with texts of our own.
import Derived.Test.YtdkegdnfbpobnaaPPTSx0
import Derived.Test.YtdkegdnfbpobnaaPPTSx14
import Derived.Test.YtdkegdnfbpobnaaWOpen
import Derived.KernelRfl
namespace Go.Proofs.Ytdkegdnfbpobnaa.PPTS
open Go.RowKit Go.Proofs.YtdkegdnfbpobnaaW.PrintWords Go.Proofs.YtdkegdnfbpobnaaW.Open
set_option linter.unusedVariables false
theorem o_P3 : Opens Try.prog 3 (Kd.int .i64) okI64 := opens_i64 Try.underlying3
def ok_T23 (y : S23) : Prop := okI64 y.f0 ∧ okI64 y.f1 ∧ okI64 y.f2
theorem o_P23 : Opens Try.prog 23 k23 ok_T23 := opens_iso (fun x : S23 => (x.f0, x.f1, x.f2)) (fun p => ⟨p.1, p.2.1, p.2.2⟩) (fun _ => rfl) (opens_struct Try.underlying23 (by kernel_rfl) (opensF_cons rfl (by kernel_rfl) o_P3 (opensF_cons rfl (by kernel_rfl) o_P3 (opensF_one rfl (by kernel_rfl) o_P3))))
def ok_T25 (y : S25) : Prop := okI64 y.f0 ∧ okI64 y.f1
theorem o_P25 : Opens Try.prog 25 k25 ok_T25 := opens_iso (fun x : S25 => (x.f0, x.f1)) (fun p => ⟨p.1, p.2⟩) (fun _ => rfl) (opens_struct Try.underlying25 (by kernel_rfl) (opensF_cons rfl (by kernel_rfl) o_P3 (opensF_one rfl (by kernel_rfl) o_P3)))
/-- THE ONE PURE STATEMENT of mapmakerlaw29_QuantPoints. -/
def mapmakerlaw29_QuantPoints.Pure : Prop := ∀ (y0 : S23) (y1 : S25), ok_T23 y0 → ok_T25 y1 → ∃ k, mapmakerlaw29_QuantPoints.f k y0.f0 y0.f1 y0.f2 y1.f0 y1.f1 = some true
end Go.Proofs.Ytdkegdnfbpobnaa.PPTS
