-- Laid by a program of this work (wip/gen): out of the translation, with texts of our own.
import Derived.Test.YtopapknfpoandaaDoorPALLx0
namespace Go.Proofs.YtopapknfpoandaaDoor.PALL
open Go.RowKit Go.Proofs.YtopapknfpoandaaDoorW.PrintWords Go.Proofs.YtopapknfpoandaaDoorW.PrintLast Go.Proofs.YtopapknfpoandaaDoorW.PrintMore Go.Proofs.YtopapknfpoandaaDoorW.SepW
attribute [local go_sem] max2_int min2_int max_two min_two max_three min_three max_four min_four   -- for this text's walks alone
set_option linter.unusedVariables false
set_option linter.unusedSimpArgs false

-- NOT PRINTED: function 3 (mapmakerlaw30_CmdsEncodes)

-- NOT PRINTED: function 25 (mapmakerref30_next)

/-! ### mapmakerref30_unzigzag: function 28 -/
def mapmakerref30_unzigzag.f (a0 : Int) : Option (Int) := if (Int.tmod a0 2) = 1 then (some (wrap64 (Int.tdiv (wrap64 (-(wrap64 (a0 + 1)))) 2))) else (some (wrap64 (Int.tdiv a0 2)))
set_option maxHeartbeats 8000000 in
set_option maxRecDepth 100000 in
theorem mapmakerref30_unzigzag.calls (a0 : Int) (r : Int) (w : World) (h : mapmakerref30_unzigzag.f a0 = some r) :
    Calls Tryd.prog 28 #[.int .i64 a0] w fun e w' => e = .returned (.int .i64 r) ∧ Drawn0 w w' := by
  have H : (if (Int.tmod a0 2) = 1 then (some (wrap64 (Int.tdiv (wrap64 (-(wrap64 (a0 + 1)))) 2))) else (some (wrap64 (Int.tdiv a0 2)))) = some r := h
  clear h
  by_cases c2 : (Int.tmod a0 2) = 1
  · rw [if_pos c2] at H
    have c2b0 : ((Int.tmod a0 2) == 1) = true := beq_iff_eq.mpr c2
    have c2b1 : ((Int.tmod a0 2) != 1) = false := bne_eq_false_iff_eq.mpr c2
    clear c2
    obtain rfl := Option.some.inj H
    go_enter Tryd.func28, Tryd.ntmps28
    go_wp2
    go_ret
    exact ⟨by first | rfl | (simp; done) | (simp [*]; done), by repeat (first | exact Drawn0.refl _ | apply Drawn0.step)⟩
  · rw [if_neg c2] at H
    have c2b0 : ((Int.tmod a0 2) == 1) = false := beq_eq_false_iff_ne.mpr c2
    have c2b1 : ((Int.tmod a0 2) != 1) = true := bne_iff_ne.mpr c2
    obtain rfl := Option.some.inj H
    go_enter Tryd.func28, Tryd.ntmps28
    go_wp2
    go_ret
    exact ⟨by first | rfl | (simp; done) | (simp [*]; done), by repeat (first | exact Drawn0.refl _ | apply Drawn0.step)⟩

-- NOT PRINTED: function 26 (mapmakerref30_points)

-- NOT PRINTED: function 27 (mapmakerref30_part)

-- NOT PRINTED: function 20 (mapmakerref30_decode)

-- NOT PRINTED: function 15 (mapmakerref30_Decode)

-- NOT PRINTED: function 4 (mapmakerlaw30_CmdsDecodes)

-- NOT PRINTED: function 5 (mapmakerlaw30_CmdsRoundTrip)

-- NOT PRINTED: function 6 (mapmakerlaw30_CmdsInverse)

end Go.Proofs.YtopapknfpoandaaDoor.PALL
