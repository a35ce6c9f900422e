import Derived.Test.YtnnadgnohchmbaaPALLx5
import Derived.Test.YtnnadgnohchmbaaPl1
namespace Go.Proofs.Ytnnadgnohchmbaa.Pure
open Go.RowKit Go.Proofs.Ytnnadgnohchmbaa.PALL Go.Proofs.Ytnnadgnohchmbaa.Pl Go.Proofs.YtnnadgnohchmbaaW.PrintWords Go.Proofs.YtnnadgnohchmbaaW.PrintLast

theorem WirePuts : mapmakerlaw02_WirePuts.Pure := by
  intro a0 a1 a2 a3 h0 h1 h2 h3
  have r1 : 0 ≤ a1 ∧ a1 ≤ 18446744073709551615 := by simpa [Lit.wf, IntKind.min, IntKind.max, IntKind.signed, IntKind.bits] using h1
  have r2 : -9223372036854775808 ≤ a2 ∧ a2 ≤ 9223372036854775807 := by simpa [Lit.wf, IntKind.min, IntKind.max, IntKind.signed, IntKind.bits] using h2
  refine ⟨11, ?_⟩
  have hl : (mapmakerlaw02_lives.f).bind (fun t => some t) = some true := rfl
  rw [mapmakerlaw02_WirePuts.f]
  split
  · rw [mapmakerlaw02_WirePuts.j0, if_pos rfl]; exact hl
  · rename_i c0
    by_cases c3 : (a3.size : Int) > 2000
    · rw [mapmakerlaw02_WirePuts.j0, if_pos (decide_eq_true c3)]; exact hl
    · obtain ⟨n, rfl⟩ := Int.eq_ofNat_of_zero_le r1.1
      rw [mapmakerlaw02_WirePuts.j0, if_neg (by simpa using c3), wire_putUint a0 (by omega) n 10 (by omega) (by omega), ref_putUint a0 (by omega) n 10 (by omega) (by omega),
        wire_putInt a0 (by omega) a2 10 r2 (by omega), ref_putInt a0 (by omega) a2 10 r2 (by omega), wire_putText a0 a3 (by omega) h3 10 (by omega), ref_putText a0 a3 (by omega) h3 10 (by omega)]
      simp only [Option.bind_some, if_true]
      exact hl
end Go.Proofs.Ytnnadgnohchmbaa.Pure
