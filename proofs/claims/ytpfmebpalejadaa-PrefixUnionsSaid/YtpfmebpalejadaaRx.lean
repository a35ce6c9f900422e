-- Laid by a program of this work (wip/gen): out of the translation, with texts of our own.
import Derived.Test.YtpfmebpalejadaaPALLx
import Derived.Test.YtpfmebpalejadaaWOpen
import Derived.KernelRfl
namespace Go.Proofs.Ytpfmebpalejadaa.PALL
open Go.RowKit Go.Proofs.YtpfmebpalejadaaW.PrintWords Go.Proofs.YtpfmebpalejadaaW.Open
set_option linter.unusedVariables false
theorem o_P3 : Opens Try.prog 3 (Kd.int .i64) okI64 := opens_i64 Try.underlying3
theorem o_P9 : Opens Try.prog 9 Kd.string okStr := opens_string Try.underlying9
theorem o_P33 : Opens Try.prog 33 (Kd.slice 9 Kd.string) (okL 16 okStr) := opens_slice Try.underlying33 (by kernel_rfl) (by kernel_rfl) o_P9
theorem o_P22 : Opens Try.prog 22 (Kd.slice 33 (Kd.slice 9 Kd.string)) (okL 24 (okL 16 okStr)) := opens_slice Try.underlying22 (by kernel_rfl) (by kernel_rfl) o_P33
theorem o_P35 : Opens Try.prog 35 k35 (fun y : S35 => okI64 y.f0 ∧ okL 16 okStr y.f1) := opens_iso (fun x : S35 => (x.f0, x.f1)) (fun p => ⟨p.1, p.2⟩) (fun _ => rfl) (opens_struct Try.underlying35 (by kernel_rfl) (opensF_cons rfl (by kernel_rfl) o_P3 (opensF_one rfl (by kernel_rfl) o_P33)))
theorem o_P29 : Opens Try.prog 29 (Kd.slice 35 k35) (okL 32 (fun y : S35 => okI64 y.f0 ∧ okL 16 okStr y.f1)) := opens_slice Try.underlying29 (by kernel_rfl) (by kernel_rfl) o_P35
end Go.Proofs.Ytpfmebpalejadaa.PALL
