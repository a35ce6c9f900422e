-- Out of the translation and of texts of our own, merged (wip/gen/pack.py): what the row names and no more.
import Derived.KernelRfl
import Derived.Test.YtegkikdefckccaaLeW1
import Derived.Test.YtegkikdefckccaaLeP1
section
namespace Go.Proofs.Ytegkikdefckccaa.PALL
open Go.RowKit Go.Proofs.YtegkikdefckccaaW.PrintWords Go.Proofs.YtegkikdefckccaaW.Open
set_option linter.unusedVariables false
theorem o_P3 : Opens Try.prog 3 (Kd.int .i64) okI64 := opens_i64 Try.underlying3
def ok_T24 (y : S24) : Prop := okI64 y.f0 ∧ okI64 y.f1 ∧ okI64 y.f2 ∧ okI64 y.f3
theorem o_P24 : Opens Try.prog 24 k24 ok_T24 := opens_iso (fun x : S24 => (x.f0, x.f1, x.f2, x.f3)) (fun p => ⟨p.1, p.2.1, p.2.2.1, p.2.2.2⟩) (fun _ => rfl) (opens_struct Try.underlying24 (by kernel_rfl) (opensF_cons rfl (by kernel_rfl) o_P3 (opensF_cons rfl (by kernel_rfl) o_P3 (opensF_cons rfl (by kernel_rfl) o_P3 (opensF_one rfl (by kernel_rfl) o_P3)))))
def ok_T49 (y : S49) : Prop := okI64 y.f0 ∧ okI64 y.f1
theorem o_P49 : Opens Try.prog 49 k49 ok_T49 := opens_iso (fun x : S49 => (x.f0, x.f1)) (fun p => ⟨p.1, p.2⟩) (fun _ => rfl) (opens_struct Try.underlying49 (by kernel_rfl) (opensF_cons rfl (by kernel_rfl) o_P3 (opensF_one rfl (by kernel_rfl) o_P3)))
def ok_T51 (y : S51) : Prop := ok_T49 y.f0 ∧ ok_T24 y.f1
theorem o_P51 : Opens Try.prog 51 k51 ok_T51 := opens_iso (fun x : S51 => (x.f0, x.f1)) (fun p => ⟨p.1, p.2⟩) (fun _ => rfl) (opens_struct Try.underlying51 (by kernel_rfl) (opensF_cons rfl (by kernel_rfl) o_P49 (opensF_one rfl (by kernel_rfl) o_P24)))
theorem o_P22 : Opens Try.prog 22 (Kd.slice 51 k51) (okL 48 ok_T51) := opens_slice Try.underlying22 (by kernel_rfl) (by kernel_rfl) o_P51
end Go.Proofs.Ytegkikdefckccaa.PALL
end
