-- Laid by a program of this work (wip/gen): out of the translation, with texts of our own.
import Derived.Test.YtdkegdnfbpobnaaPARSx0
import Derived.Test.YtdkegdnfbpobnaaWOpen
import Derived.KernelRfl
namespace Go.Proofs.Ytdkegdnfbpobnaa.PARS
open Go.RowKit Go.Proofs.YtdkegdnfbpobnaaW.PrintWords Go.Proofs.YtdkegdnfbpobnaaW.Open
set_option linter.unusedVariables false
theorem o_P3 : Opens Try.prog 3 (Kd.int .i64) okI64 := opens_i64 Try.underlying3
def ok_T23 (y : S23) : Prop := okI64 y.f0 ∧ okI64 y.f1 ∧ okI64 y.f2
theorem o_P23 : Opens Try.prog 23 k23 ok_T23 := opens_iso (fun x : S23 => (x.f0, x.f1, x.f2)) (fun p => ⟨p.1, p.2.1, p.2.2⟩) (fun _ => rfl) (opens_struct Try.underlying23 (by kernel_rfl) (opensF_cons rfl (by kernel_rfl) o_P3 (opensF_cons rfl (by kernel_rfl) o_P3 (opensF_one rfl (by kernel_rfl) o_P3))))
def ok_T25 (y : S25) : Prop := okI64 y.f0 ∧ okI64 y.f1
theorem o_P25 : Opens Try.prog 25 k25 ok_T25 := opens_iso (fun x : S25 => (x.f0, x.f1)) (fun p => ⟨p.1, p.2⟩) (fun _ => rfl) (opens_struct Try.underlying25 (by kernel_rfl) (opensF_cons rfl (by kernel_rfl) o_P3 (opensF_one rfl (by kernel_rfl) o_P3)))
theorem o_P30 : Opens Try.prog 30 (Kd.slice 25 k25) (okL 16 ok_T25) := opens_slice Try.underlying30 (by kernel_rfl) (by kernel_rfl) o_P25
theorem o_P32 : Opens Try.prog 32 (Kd.slice 30 (Kd.slice 25 k25)) (okL 24 (okL 16 ok_T25)) := opens_slice Try.underlying32 (by kernel_rfl) (by kernel_rfl) o_P30
end Go.Proofs.Ytdkegdnfbpobnaa.PARS
