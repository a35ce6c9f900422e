-- Laid by a program of this work (wip/gen): out of the translation, with texts of our own.
import Derived.Test.YtopapknfpoandaaDoorPALLx0
import Derived.Test.YtopapknfpoandaaDoorPALLx5
import Derived.Test.YtopapknfpoandaaDoorPALLx7
namespace Go.Proofs.YtopapknfpoandaaDoor.PALL
open Go.RowKit Go.Proofs.YtopapknfpoandaaDoorW.PrintWords Go.Proofs.YtopapknfpoandaaDoorW.PrintLast Go.Proofs.YtopapknfpoandaaDoorW.PrintMore Go.Proofs.YtopapknfpoandaaDoorW.SepW
attribute [local go_sem] max2_int min2_int max_two min_two max_three min_three max_four min_four   -- for this text's walks alone
set_option linter.unusedVariables false
set_option linter.unusedSimpArgs false

/-! ### mapmakerref30_Encode: function 10 -/
mutual
def mapmakerref30_Encode.j0 : Nat → List Int → Int → List (List (S44)) → Int → Int → Option (List Int × Int)
 | 0, _, _, _, _, _ => none
 | k + 1, x5, x147000, x147001, x149000, x149001 => mapmakerref30_Encode.l0 k x5 0 x147000 x147001 x149000 x149001
def mapmakerref30_Encode.l0 : Nat → List Int → Int → Int → List (List (S44)) → Int → Int → Option (List Int × Int)
 | 0, _, _, _, _, _, _ => none
 | k + 1, x5, x7, x147000, x147001, x149000, x149001 => if x7 < (x147001.length : Int) then (if 0 ≤ x7 then (if x147000 = 1 then (mapmakerref30_Encode.j2 k x5 x7 (rd_L2 x147001 x7) x147000 x147001 x149000 x149001) else (if x5.length < 17592186044416 then (mapmakerref30_Encode.j2 k (x5 ++ [9]) x7 (rd_L2 x147001 x7) x147000 x147001 x149000 x149001) else (none))) else (none)) else (some (x5, 0))
def mapmakerref30_Encode.j2 : Nat → List Int → Int → List (S44) → Int → List (List (S44)) → Int → Int → Option (List Int × Int)
 | 0, _, _, _, _, _, _, _ => none
 | k + 1, x5, x7, x8, x147000, x147001, x149000, x149001 => if 1 ≤ (x8.length : Int) then ((mapmakerref30_steps.f k (x8.take 1) x149000 x149001).bind fun bt160 => (if x5.length + bt160.1.length < 17592186044416 then ((some (x5 ++ bt160.1 : List Int)).bind fun y166 => (if x147000 = 1 then (if x147000 = 3 then (if y166.length < 17592186044416 then (mapmakerref30_Encode.l0 k (y166 ++ [15]) (wrap64 (x7 + 1)) x147000 x147001 bt160.2.1 bt160.2.2) else (none)) else (mapmakerref30_Encode.l0 k y166 (wrap64 (x7 + 1)) x147000 x147001 bt160.2.1 bt160.2.2)) else ((mapmakerref30_steps.f k (x8.drop 1) bt160.2.1 bt160.2.2).bind fun bt176 => (if y166.length < 17592186044416 then ((some (y166 ++ [wrap64 (2 + (wrap64 (8 * (wrap64 ((x8.length : Int) - 1)))))] : List Int)).bind fun y182 => (if y182.length + bt176.1.length < 17592186044416 then ((some (y182 ++ bt176.1 : List Int)).bind fun y185 => (if x147000 = 3 then (if y185.length < 17592186044416 then (mapmakerref30_Encode.l0 k (y185 ++ [15]) (wrap64 (x7 + 1)) x147000 x147001 bt176.2.1 bt176.2.2) else (none)) else (mapmakerref30_Encode.l0 k y185 (wrap64 (x7 + 1)) x147000 x147001 bt176.2.1 bt176.2.2))) else (none))) else (none))))) else (none))) else (none)
end
def mapmakerref30_Encode.f (k : Nat) (a0_0 : Int) (l0_1 : List (List (S44))) : Option (List Int × Int) := (mapmakerref30_Check.f k a0_0 l0_1).bind fun t147 => (if t147 = 0 then (if a0_0 = 1 then (if ([] : List Int).length < 17592186044416 then (mapmakerref30_Encode.j0 k (([] : List Int) ++ [wrap64 (1 + (wrap64 (8 * (l0_1.length : Int))))]) a0_0 l0_1 0 0) else (none)) else (mapmakerref30_Encode.j0 k ([] : List Int) a0_0 l0_1 0 0)) else (some (([] : List Int), t147)))
theorem mapmakerref30_Encode.mono_l : ∀ k, (∀ y0 y1 y2 y3 y4, LeO (mapmakerref30_Encode.j0 k y0 y1 y2 y3 y4) (mapmakerref30_Encode.j0 (k + 1) y0 y1 y2 y3 y4)) ∧ (∀ y0 y1 y2 y3 y4 y5, LeO (mapmakerref30_Encode.l0 k y0 y1 y2 y3 y4 y5) (mapmakerref30_Encode.l0 (k + 1) y0 y1 y2 y3 y4 y5)) ∧ (∀ y0 y1 y2 y3 y4 y5 y6, LeO (mapmakerref30_Encode.j2 k y0 y1 y2 y3 y4 y5 y6) (mapmakerref30_Encode.j2 (k + 1) y0 y1 y2 y3 y4 y5 y6))
 | 0 => ⟨fun _ _ _ _ _ r h => by simp [mapmakerref30_Encode.j0] at h, fun _ _ _ _ _ _ r h => by simp [mapmakerref30_Encode.l0] at h, fun _ _ _ _ _ _ _ r h => by simp [mapmakerref30_Encode.j2] at h⟩
 | k + 1 => by
  obtain ⟨ih0, ih1, ih2⟩ := mapmakerref30_Encode.mono_l k
  refine ⟨?_, ?_, ?_⟩
  ·intro y0 y1 y2 y3 y4
   unfold mapmakerref30_Encode.j0
   repeat' first
   | (with_reducible exact ih0 _ _ _ _ _)
   | (with_reducible exact ih1 _ _ _ _ _ _)
   | (with_reducible exact ih2 _ _ _ _ _ _ _)
   | (with_reducible exact mapmakerref30_Check.mono _ _ _)
   | (with_reducible exact mapmakerref30_steps.mono _ _ _ _)
   | (with_reducible exact LeO.refl _)
   | (with_reducible exact LeO.none _)
   | (with_reducible refine LeO.ite ?_ ?_)
   | (with_reducible refine LeO.bind ?_ (fun _ => ?_))
   | exact ih0 _ _ _ _ _
   | exact ih1 _ _ _ _ _ _
   | exact ih2 _ _ _ _ _ _ _
   | exact mapmakerref30_Check.mono _ _ _
   | exact mapmakerref30_steps.mono _ _ _ _
   | exact LeO.none _
   | refine LeO.ite ?_ ?_
   | refine LeO.bind ?_ (fun _ => ?_)
  ·intro y0 y1 y2 y3 y4 y5
   unfold mapmakerref30_Encode.l0
   repeat' first
   | (with_reducible exact ih0 _ _ _ _ _)
   | (with_reducible exact ih1 _ _ _ _ _ _)
   | (with_reducible exact ih2 _ _ _ _ _ _ _)
   | (with_reducible exact mapmakerref30_Check.mono _ _ _)
   | (with_reducible exact mapmakerref30_steps.mono _ _ _ _)
   | (with_reducible exact LeO.refl _)
   | (with_reducible exact LeO.none _)
   | (with_reducible refine LeO.ite ?_ ?_)
   | (with_reducible refine LeO.bind ?_ (fun _ => ?_))
   | exact ih0 _ _ _ _ _
   | exact ih1 _ _ _ _ _ _
   | exact ih2 _ _ _ _ _ _ _
   | exact mapmakerref30_Check.mono _ _ _
   | exact mapmakerref30_steps.mono _ _ _ _
   | exact LeO.none _
   | refine LeO.ite ?_ ?_
   | refine LeO.bind ?_ (fun _ => ?_)
  ·intro y0 y1 y2 y3 y4 y5 y6
   unfold mapmakerref30_Encode.j2
   repeat' first
   | (with_reducible exact ih0 _ _ _ _ _)
   | (with_reducible exact ih1 _ _ _ _ _ _)
   | (with_reducible exact ih2 _ _ _ _ _ _ _)
   | (with_reducible exact mapmakerref30_Check.mono _ _ _)
   | (with_reducible exact mapmakerref30_steps.mono _ _ _ _)
   | (with_reducible exact LeO.refl _)
   | (with_reducible exact LeO.none _)
   | (with_reducible refine LeO.ite ?_ ?_)
   | (with_reducible refine LeO.bind ?_ (fun _ => ?_))
   | exact ih0 _ _ _ _ _
   | exact ih1 _ _ _ _ _ _
   | exact ih2 _ _ _ _ _ _ _
   | exact mapmakerref30_Check.mono _ _ _
   | exact mapmakerref30_steps.mono _ _ _ _
   | exact LeO.none _
   | refine LeO.ite ?_ ?_
   | refine LeO.bind ?_ (fun _ => ?_)
theorem mapmakerref30_Encode.mono : ∀ a0 a1 k, LeO (mapmakerref30_Encode.f k a0 a1) (mapmakerref30_Encode.f (k + 1) a0 a1) := by
 intro a0 a1 k
 obtain ⟨ih0, ih1, ih2⟩ := mapmakerref30_Encode.mono_l k
 unfold mapmakerref30_Encode.f
 repeat' first
   | (with_reducible exact ih0 _ _ _ _ _)
   | (with_reducible exact ih1 _ _ _ _ _ _)
   | (with_reducible exact ih2 _ _ _ _ _ _ _)
   | (with_reducible exact mapmakerref30_Check.mono _ _ _)
   | (with_reducible exact mapmakerref30_steps.mono _ _ _ _)
   | (with_reducible exact LeO.refl _)
   | (with_reducible exact LeO.none _)
   | (with_reducible refine LeO.ite ?_ ?_)
   | (with_reducible refine LeO.bind ?_ (fun _ => ?_))
   | exact ih0 _ _ _ _ _
   | exact ih1 _ _ _ _ _ _
   | exact ih2 _ _ _ _ _ _ _
   | exact mapmakerref30_Check.mono _ _ _
   | exact mapmakerref30_steps.mono _ _ _ _
   | exact LeO.none _
   | refine LeO.ite ?_ ?_
   | refine LeO.bind ?_ (fun _ => ?_)
def mapmakerref30_Encode.T14 : Bool × List (List Nat × List Nat) := (true, [([], []), ([0], [0]), ([], []), ([1, 2], [1, 2]), ([3], [3]), ([4], [4]), ([4], [4]), ([], []), ([5, 3, 0, 1, 2, 3, 4, 5, 7], [5]), ([7, 6, 8, 0, 1, 2, 3, 4, 5, 6, 7, 8], [6, 7])])
def mapmakerref30_Encode.B14 : List Nat := [0, 1, 0, 7, 15, 31, 31, 0, 191, 511]
theorem mapmakerref30_Encode.tab14 : rtab .any (opsOf Tryd.f10 14) = mapmakerref30_Encode.T14 := by kernel_rfl
theorem mapmakerref30_Encode.bits14 : waitsOk mapmakerref30_Encode.T14.2 mapmakerref30_Encode.B14 = true := by kernel_rfl
def mapmakerref30_Encode.T17 : Bool × List (List Nat × List Nat) := (true, [([], []), ([0], [0]), ([], []), ([1, 2], [1, 2]), ([3], [3]), ([4], [4]), ([4], [4]), ([], []), ([5, 3, 0, 1, 2, 3, 4, 5, 7], [5]), ([7, 6, 8, 0, 1, 2, 3, 4, 5, 6, 7, 8], [6, 7])])
def mapmakerref30_Encode.B17 : List Nat := [0, 1, 0, 7, 15, 31, 31, 0, 191, 511]
theorem mapmakerref30_Encode.tab17 : rtab .any (opsOf Tryd.f10 17) = mapmakerref30_Encode.T17 := by kernel_rfl
theorem mapmakerref30_Encode.bits17 : waitsOk mapmakerref30_Encode.T17.2 mapmakerref30_Encode.B17 = true := by kernel_rfl
end Go.Proofs.YtopapknfpoandaaDoor.PALL
