-- Out of the translation and of texts of our own, merged (wip/gen/pack.py): what the row names and no more.
import Derived.KernelRfl
import Derived.Test.YtjpkkdnilfoafaaFaW1
import Derived.Test.YtjpkkdnilfoafaaFaP1
section
namespace Go.Proofs.Ytjpkkdnilfoafaa.PALL
open Go.RowKit Go.Proofs.YtjpkkdnilfoafaaW.PrintWords Go.Proofs.YtjpkkdnilfoafaaW.Open
set_option linter.unusedVariables false
theorem o_P3 : Opens Try.prog 3 (Kd.int .i64) okI64 := opens_i64 Try.underlying3
theorem o_P9 : Opens Try.prog 9 Kd.string okStr := opens_string Try.underlying9
def ok_T29 (y : S29) : Prop := okI64 y.f0 ∧ okI64 y.f1
theorem o_P29 : Opens Try.prog 29 k29 ok_T29 := opens_iso (fun x : S29 => (x.f0, x.f1)) (fun p => ⟨p.1, p.2⟩) (fun _ => rfl) (opens_struct Try.underlying29 (by kernel_rfl) (opensF_cons rfl (by kernel_rfl) o_P3 (opensF_one rfl (by kernel_rfl) o_P3)))
theorem o_P48 : Opens Try.prog 48 (Kd.slice 29 k29) (okL 16 ok_T29) := opens_slice Try.underlying48 (by kernel_rfl) (by kernel_rfl) o_P29
theorem o_P25 : Opens Try.prog 25 (Kd.slice 48 (Kd.slice 29 k29)) (okL 24 (okL 16 ok_T29)) := opens_slice Try.underlying25 (by kernel_rfl) (by kernel_rfl) o_P48
def ok_T23 (y : S23) : Prop := okI64 y.f0 ∧ okI64 y.f1
theorem o_P23 : Opens Try.prog 23 k23 ok_T23 := opens_iso (fun x : S23 => (x.f0, x.f1)) (fun p => ⟨p.1, p.2⟩) (fun _ => rfl) (opens_struct Try.underlying23 (by kernel_rfl) (opensF_cons rfl (by kernel_rfl) o_P3 (opensF_one rfl (by kernel_rfl) o_P3)))
def ok_T159 (y : S159) : Prop := okStr y.f0 ∧ okStr y.f1
theorem o_P159 : Opens Try.prog 159 k159 ok_T159 := opens_iso (fun x : S159 => (x.f0, x.f1)) (fun p => ⟨p.1, p.2⟩) (fun _ => rfl) (opens_struct Try.underlying159 (by kernel_rfl) (opensF_cons rfl (by kernel_rfl) o_P9 (opensF_one rfl (by kernel_rfl) o_P9)))
theorem o_P24 : Opens Try.prog 24 (Kd.slice 159 k159) (okL 32 ok_T159) := opens_slice Try.underlying24 (by kernel_rfl) (by kernel_rfl) o_P159
def ok_T27 (y : S27) : Prop := ok_T23 y.f0 ∧ okI64 y.f1 ∧ (okL 32 ok_T159) y.f2 ∧ (okL 24 (okL 16 ok_T29)) y.f3
theorem o_P27 : Opens Try.prog 27 k27 ok_T27 := opens_iso (fun x : S27 => (x.f0, x.f1, x.f2, x.f3)) (fun p => ⟨p.1, p.2.1, p.2.2.1, p.2.2.2⟩) (fun _ => rfl) (opens_struct Try.underlying27 (by kernel_rfl) (opensF_cons rfl (by kernel_rfl) o_P23 (opensF_cons rfl (by kernel_rfl) o_P3 (opensF_cons rfl (by kernel_rfl) o_P24 (opensF_one rfl (by kernel_rfl) o_P25)))))
theorem o_P31 : Opens Try.prog 31 (Kd.slice 27 k27) (okL 72 ok_T27) := opens_slice Try.underlying31 (by kernel_rfl) (by kernel_rfl) o_P27
end Go.Proofs.Ytjpkkdnilfoafaa.PALL
end
