-- Laid by a program of this work (wip/gen): out of the translation, with texts of our own.
import Derived.Test.YtnnadgnohchmbaaPALLx0
import Derived.Test.YtnnadgnohchmbaaPALLx1
import Derived.Test.YtnnadgnohchmbaaPALLx2
import Derived.Test.YtnnadgnohchmbaaPALLx3
import Derived.Test.YtnnadgnohchmbaaPALLx4
import Derived.Test.YtnnadgnohchmbaaPALLx5
import Derived.Test.YtnnadgnohchmbaaPALLx7
import Derived.Test.YtnnadgnohchmbaaPALLx8
namespace Go.Proofs.Ytnnadgnohchmbaa.PALL
open Go.RowKit Go.Proofs.YtnnadgnohchmbaaW.PrintWords Go.Proofs.YtnnadgnohchmbaaW.PrintLast Go.Proofs.YtnnadgnohchmbaaW.PrintMore Go.Proofs.YtnnadgnohchmbaaW.SepW
attribute [local go_sem] max2_int min2_int max_two min_two max_three min_three max_four min_four   -- for this text's walks alone
set_option linter.unusedVariables false
set_option linter.unusedSimpArgs false

/-! ### mapmakerlaw02_WireReads: function 6 -/
mutual
def mapmakerlaw02_WireReads.j0 : Nat → ByteArray → List (S45) → Bool → Option (Bool)
 | 0, _, _, _ => none
 | k + 1, x0, x1, x23 => if x23 = true then ((mapmakerlaw02_lives.f).bind fun t174 => (some t174)) else ((wire_Read.f x0).bind fun bt175 => ((mapmakerref02_Read.f x0).bind fun bt179 => (mapmakerlaw02_WireReads.l0 k x1 0 bt175.1 bt175.2.1 bt175.2.2 bt179.1 bt179.2.1 bt179.2.2)))
def mapmakerlaw02_WireReads.l0 : Nat → List (S45) → Int → ByteArray → Int → Int → ByteArray → Int → Int → Option (Bool)
 | 0, _, _, _, _, _, _, _, _ => none
 | k + 1, x1, x7, x179000, x179001, x179002, x183000, x183001, x183002 => if x7 < (x1.length : Int) then (if 0 ≤ x7 then (if (Int.tmod ((rd_T45 x1 x7).f0) 4) = 0 then ((mapmakerref02_Uint.f k x183000 x183001 x183002).bind fun bt190 => ((wire_Reader_Uint.f k x179000 x179001 x179002).bind fun bt195 => (if bt195.1 = bt190.2.2.2 then (mapmakerlaw02_WireReads.j2 k x1 x7 bt195.2.1 bt195.2.2.1 bt195.2.2.2 bt190.1 bt190.2.1 bt190.2.2.1) else (some false)))) else (if (Int.tmod ((rd_T45 x1 x7).f0) 4) = 1 then ((mapmakerref02_Int.f k x183000 x183001 x183002).bind fun bt199 => ((wire_Reader_Int.f k x179000 x179001 x179002).bind fun bt204 => (if bt204.1 = bt199.2.2.2 then (mapmakerlaw02_WireReads.j2 k x1 x7 bt204.2.1 bt204.2.2.1 bt204.2.2.2 bt199.1 bt199.2.1 bt199.2.2.1) else (some false)))) else (if (Int.tmod ((rd_T45 x1 x7).f0) 4) = 2 then ((mapmakerref02_Count.f k x183000 x183001 x183002 ((rd_T45 x1 x7).f1)).bind fun bt209 => ((wire_Reader_Count.f k x179000 x179001 x179002 ((rd_T45 x1 x7).f1)).bind fun bt215 => (if bt215.1 = bt209.2.2.2 then (mapmakerlaw02_WireReads.j2 k x1 x7 bt215.2.1 bt215.2.2.1 bt215.2.2.2 bt209.1 bt209.2.1 bt209.2.2.1) else (some false)))) else ((mapmakerref02_Text.f k x183000 x183001 x183002 ((rd_T45 x1 x7).f1)).bind fun bt220 => ((wire_Reader_Text.f k x179000 x179001 x179002 ((rd_T45 x1 x7).f1)).bind fun bt226 => (if bt226.1.toList = bt220.2.2.2.toList then (mapmakerlaw02_WireReads.j2 k x1 x7 bt226.2.1 bt226.2.2.1 bt226.2.2.2 bt220.1 bt220.2.1 bt220.2.2.1) else (some false))))))) else (none)) else ((wire_Reader_Done.f x179000 x179001 x179002).bind fun bt183 => ((mapmakerref02_Done.f x183000 x183001 x183002).bind fun t187 => (if bt183.1 = t187 then ((mapmakerlaw02_lives.f).bind fun t188 => (some t188)) else (some false))))
def mapmakerlaw02_WireReads.j2 : Nat → List (S45) → Int → ByteArray → Int → Int → ByteArray → Int → Int → Option (Bool)
 | 0, _, _, _, _, _, _, _, _ => none
 | k + 1, x1, x7, x179000, x179001, x179002, x183000, x183001, x183002 => (wire_Reader_Left.f x179000 x179001 x179002).bind fun bt230 => ((mapmakerref02_Left.f x183000 x183001 x183002).bind fun t234 => (if bt230.1 = t234 then ((wire_Reader_Err.f bt230.2.1 bt230.2.2.1 bt230.2.2.2).bind fun bt235 => ((mapmakerref02_Err.f x183000 x183001 x183002).bind fun t239 => (if bt235.1 = t239 then ((wire_Reader_Done.f bt235.2.1 bt235.2.2.1 bt235.2.2.2).bind fun bt240 => ((mapmakerref02_Done.f x183000 x183001 x183002).bind fun t244 => (if bt240.1 = t244 then (mapmakerlaw02_WireReads.l0 k x1 (wrap64 (x7 + 1)) bt240.2.1 bt240.2.2.1 bt240.2.2.2 x183000 x183001 x183002) else (some false)))) else (some false)))) else (some false)))
end
def mapmakerlaw02_WireReads.f (k : Nat) (a0 : ByteArray) (l1 : List (S45)) : Option (Bool) := if (a0.size : Int) > 2000 then (mapmakerlaw02_WireReads.j0 k a0 l1 true) else (mapmakerlaw02_WireReads.j0 k a0 l1 (decide ((l1.length : Int) > 60)))
theorem mapmakerlaw02_WireReads.mono_l : ∀ k, (∀ y0 y1 y2, LeO (mapmakerlaw02_WireReads.j0 k y0 y1 y2) (mapmakerlaw02_WireReads.j0 (k + 1) y0 y1 y2)) ∧ (∀ y0 y1 y2 y3 y4 y5 y6 y7, LeO (mapmakerlaw02_WireReads.l0 k y0 y1 y2 y3 y4 y5 y6 y7) (mapmakerlaw02_WireReads.l0 (k + 1) y0 y1 y2 y3 y4 y5 y6 y7)) ∧ (∀ y0 y1 y2 y3 y4 y5 y6 y7, LeO (mapmakerlaw02_WireReads.j2 k y0 y1 y2 y3 y4 y5 y6 y7) (mapmakerlaw02_WireReads.j2 (k + 1) y0 y1 y2 y3 y4 y5 y6 y7))
 | 0 => ⟨fun _ _ _ r h => by simp [mapmakerlaw02_WireReads.j0] at h, fun _ _ _ _ _ _ _ _ r h => by simp [mapmakerlaw02_WireReads.l0] at h, fun _ _ _ _ _ _ _ _ r h => by simp [mapmakerlaw02_WireReads.j2] at h⟩
 | k + 1 => by
  obtain ⟨ih0, ih1, ih2⟩ := mapmakerlaw02_WireReads.mono_l k
  refine ⟨?_, ?_, ?_⟩
  ·intro y0 y1 y2
   unfold mapmakerlaw02_WireReads.j0
   repeat' first
   | (with_reducible exact ih0 _ _ _)
   | (with_reducible exact ih1 _ _ _ _ _ _ _ _)
   | (with_reducible exact ih2 _ _ _ _ _ _ _ _)
   | (with_reducible exact mapmakerref02_Count.mono _ _ _ _ _)
   | (with_reducible exact mapmakerref02_Int.mono _ _ _ _)
   | (with_reducible exact mapmakerref02_Text.mono _ _ _ _ _)
   | (with_reducible exact mapmakerref02_Uint.mono _ _ _ _)
   | (with_reducible exact wire_Reader_Count.mono _ _ _ _ _)
   | (with_reducible exact wire_Reader_Int.mono _ _ _ _)
   | (with_reducible exact wire_Reader_Text.mono _ _ _ _ _)
   | (with_reducible exact wire_Reader_Uint.mono _ _ _ _)
   | (with_reducible exact LeO.refl _)
   | (with_reducible exact LeO.none _)
   | (with_reducible refine LeO.ite ?_ ?_)
   | (with_reducible refine LeO.bind ?_ (fun _ => ?_))
   | exact ih0 _ _ _
   | exact ih1 _ _ _ _ _ _ _ _
   | exact ih2 _ _ _ _ _ _ _ _
   | exact mapmakerref02_Count.mono _ _ _ _ _
   | exact mapmakerref02_Int.mono _ _ _ _
   | exact mapmakerref02_Text.mono _ _ _ _ _
   | exact mapmakerref02_Uint.mono _ _ _ _
   | exact wire_Reader_Count.mono _ _ _ _ _
   | exact wire_Reader_Int.mono _ _ _ _
   | exact wire_Reader_Text.mono _ _ _ _ _
   | exact wire_Reader_Uint.mono _ _ _ _
   | exact LeO.none _
   | refine LeO.ite ?_ ?_
   | refine LeO.bind ?_ (fun _ => ?_)
  ·intro y0 y1 y2 y3 y4 y5 y6 y7
   unfold mapmakerlaw02_WireReads.l0
   repeat' first
   | (with_reducible exact ih0 _ _ _)
   | (with_reducible exact ih1 _ _ _ _ _ _ _ _)
   | (with_reducible exact ih2 _ _ _ _ _ _ _ _)
   | (with_reducible exact mapmakerref02_Count.mono _ _ _ _ _)
   | (with_reducible exact mapmakerref02_Int.mono _ _ _ _)
   | (with_reducible exact mapmakerref02_Text.mono _ _ _ _ _)
   | (with_reducible exact mapmakerref02_Uint.mono _ _ _ _)
   | (with_reducible exact wire_Reader_Count.mono _ _ _ _ _)
   | (with_reducible exact wire_Reader_Int.mono _ _ _ _)
   | (with_reducible exact wire_Reader_Text.mono _ _ _ _ _)
   | (with_reducible exact wire_Reader_Uint.mono _ _ _ _)
   | (with_reducible exact LeO.refl _)
   | (with_reducible exact LeO.none _)
   | (with_reducible refine LeO.ite ?_ ?_)
   | (with_reducible refine LeO.bind ?_ (fun _ => ?_))
   | exact ih0 _ _ _
   | exact ih1 _ _ _ _ _ _ _ _
   | exact ih2 _ _ _ _ _ _ _ _
   | exact mapmakerref02_Count.mono _ _ _ _ _
   | exact mapmakerref02_Int.mono _ _ _ _
   | exact mapmakerref02_Text.mono _ _ _ _ _
   | exact mapmakerref02_Uint.mono _ _ _ _
   | exact wire_Reader_Count.mono _ _ _ _ _
   | exact wire_Reader_Int.mono _ _ _ _
   | exact wire_Reader_Text.mono _ _ _ _ _
   | exact wire_Reader_Uint.mono _ _ _ _
   | exact LeO.none _
   | refine LeO.ite ?_ ?_
   | refine LeO.bind ?_ (fun _ => ?_)
  ·intro y0 y1 y2 y3 y4 y5 y6 y7
   unfold mapmakerlaw02_WireReads.j2
   repeat' first
   | (with_reducible exact ih0 _ _ _)
   | (with_reducible exact ih1 _ _ _ _ _ _ _ _)
   | (with_reducible exact ih2 _ _ _ _ _ _ _ _)
   | (with_reducible exact mapmakerref02_Count.mono _ _ _ _ _)
   | (with_reducible exact mapmakerref02_Int.mono _ _ _ _)
   | (with_reducible exact mapmakerref02_Text.mono _ _ _ _ _)
   | (with_reducible exact mapmakerref02_Uint.mono _ _ _ _)
   | (with_reducible exact wire_Reader_Count.mono _ _ _ _ _)
   | (with_reducible exact wire_Reader_Int.mono _ _ _ _)
   | (with_reducible exact wire_Reader_Text.mono _ _ _ _ _)
   | (with_reducible exact wire_Reader_Uint.mono _ _ _ _)
   | (with_reducible exact LeO.refl _)
   | (with_reducible exact LeO.none _)
   | (with_reducible refine LeO.ite ?_ ?_)
   | (with_reducible refine LeO.bind ?_ (fun _ => ?_))
   | exact ih0 _ _ _
   | exact ih1 _ _ _ _ _ _ _ _
   | exact ih2 _ _ _ _ _ _ _ _
   | exact mapmakerref02_Count.mono _ _ _ _ _
   | exact mapmakerref02_Int.mono _ _ _ _
   | exact mapmakerref02_Text.mono _ _ _ _ _
   | exact mapmakerref02_Uint.mono _ _ _ _
   | exact wire_Reader_Count.mono _ _ _ _ _
   | exact wire_Reader_Int.mono _ _ _ _
   | exact wire_Reader_Text.mono _ _ _ _ _
   | exact wire_Reader_Uint.mono _ _ _ _
   | exact LeO.none _
   | refine LeO.ite ?_ ?_
   | refine LeO.bind ?_ (fun _ => ?_)
theorem mapmakerlaw02_WireReads.mono : ∀ a0 a1 k, LeO (mapmakerlaw02_WireReads.f k a0 a1) (mapmakerlaw02_WireReads.f (k + 1) a0 a1) := by
 intro a0 a1 k
 obtain ⟨ih0, ih1, ih2⟩ := mapmakerlaw02_WireReads.mono_l k
 unfold mapmakerlaw02_WireReads.f
 repeat' first
   | (with_reducible exact ih0 _ _ _)
   | (with_reducible exact ih1 _ _ _ _ _ _ _ _)
   | (with_reducible exact ih2 _ _ _ _ _ _ _ _)
   | (with_reducible exact mapmakerref02_Count.mono _ _ _ _ _)
   | (with_reducible exact mapmakerref02_Int.mono _ _ _ _)
   | (with_reducible exact mapmakerref02_Text.mono _ _ _ _ _)
   | (with_reducible exact mapmakerref02_Uint.mono _ _ _ _)
   | (with_reducible exact wire_Reader_Count.mono _ _ _ _ _)
   | (with_reducible exact wire_Reader_Int.mono _ _ _ _)
   | (with_reducible exact wire_Reader_Text.mono _ _ _ _ _)
   | (with_reducible exact wire_Reader_Uint.mono _ _ _ _)
   | (with_reducible exact LeO.refl _)
   | (with_reducible exact LeO.none _)
   | (with_reducible refine LeO.ite ?_ ?_)
   | (with_reducible refine LeO.bind ?_ (fun _ => ?_))
   | exact ih0 _ _ _
   | exact ih1 _ _ _ _ _ _ _ _
   | exact ih2 _ _ _ _ _ _ _ _
   | exact mapmakerref02_Count.mono _ _ _ _ _
   | exact mapmakerref02_Int.mono _ _ _ _
   | exact mapmakerref02_Text.mono _ _ _ _ _
   | exact mapmakerref02_Uint.mono _ _ _ _
   | exact wire_Reader_Count.mono _ _ _ _ _
   | exact wire_Reader_Int.mono _ _ _ _
   | exact wire_Reader_Text.mono _ _ _ _ _
   | exact wire_Reader_Uint.mono _ _ _ _
   | exact LeO.none _
   | refine LeO.ite ?_ ?_
   | refine LeO.bind ?_ (fun _ => ?_)
def mapmakerlaw02_WireReads.T10 : Bool × List (List Nat × List Nat) := (true, [([], []), ([], []), ([], []), ([1, 2], [1, 2]), ([3], [3]), ([4], [4]), ([0, 5], [0, 5]), ([6], [6]), ([7], [7]), ([7], [7]), ([], []), ([10, 8, 6, 0, 1, 2, 3, 4, 5, 6, 7, 8, 10], [8, 10]), ([9, 11, 0, 1, 2, 3, 4, 5, 6, 7, 8, 9, 10, 11], [9])])
def mapmakerlaw02_WireReads.B10 : List Nat := [0, 0, 0, 6, 14, 30, 63, 127, 255, 255, 0, 1535, 4095]
theorem mapmakerlaw02_WireReads.tab10 : rtab .any (opsOf Try.f6 10) = mapmakerlaw02_WireReads.T10 := by kernel_rfl
theorem mapmakerlaw02_WireReads.bits10 : waitsOk mapmakerlaw02_WireReads.T10.2 mapmakerlaw02_WireReads.B10 = true := by kernel_rfl
def mapmakerlaw02_WireReads.T25 : Bool × List (List Nat × List Nat) := (true, [([], []), ([], []), ([], []), ([1, 2], [1, 2]), ([3], [3]), ([4], [4]), ([0, 5], [0, 5]), ([6], [6]), ([7], [7]), ([7], [7]), ([], []), ([10, 8, 6, 0, 1, 2, 3, 4, 5, 6, 7, 8, 10], [8, 10]), ([9, 11, 0, 1, 2, 3, 4, 5, 6, 7, 8, 9, 10, 11], [9])])
def mapmakerlaw02_WireReads.B25 : List Nat := [0, 0, 0, 6, 14, 30, 63, 127, 255, 255, 0, 1535, 4095]
theorem mapmakerlaw02_WireReads.tab25 : rtab .any (opsOf Try.f6 25) = mapmakerlaw02_WireReads.T25 := by kernel_rfl
theorem mapmakerlaw02_WireReads.bits25 : waitsOk mapmakerlaw02_WireReads.T25.2 mapmakerlaw02_WireReads.B25 = true := by kernel_rfl
def mapmakerlaw02_WireReads.T29 : Bool × List (List Nat × List Nat) := (true, [([], []), ([0], [0]), ([], []), ([2, 1], [2]), ([1, 3], [1, 3]), ([4, 3], [4]), ([5], [5]), ([6, 5, 5], [5, 6]), ([5], [5]), ([8, 7, 5], [5, 8]), ([7, 9, 5], [5, 7, 9]), ([5, 10], [5, 10]), ([11, 9], [11]), ([12], [12]), ([13, 12, 12], [12, 13]), ([12], [12]), ([15, 14, 12], [12, 15]), ([14, 16, 12], [12, 14, 16]), ([12, 17], [12, 17])])
def mapmakerlaw02_WireReads.B29 : List Nat := [0, 1, 0, 7, 15, 31, 63, 127, 63, 511, 1023, 2047, 4095, 8191, 16383, 8191, 65535, 131071, 262143]
theorem mapmakerlaw02_WireReads.tab29 : rtab .any (opsOf Try.f6 29) = mapmakerlaw02_WireReads.T29 := by kernel_rfl
theorem mapmakerlaw02_WireReads.bits29 : waitsOk mapmakerlaw02_WireReads.T29.2 mapmakerlaw02_WireReads.B29 = true := by kernel_rfl
def mapmakerlaw02_WireReads.T31 : Bool × List (List Nat × List Nat) := (true, [([], []), ([0], [0]), ([], []), ([2, 1], [2]), ([1, 3], [1, 3]), ([4, 3], [4]), ([5, 5], [5]), ([5, 6], [5, 6]), ([7, 6, 0, 1, 2, 3, 4, 5, 6, 7], [7])])
def mapmakerlaw02_WireReads.B31 : List Nat := [0, 1, 0, 7, 15, 31, 63, 127, 255]
theorem mapmakerlaw02_WireReads.tab31 : rtab .any (opsOf Try.f6 31) = mapmakerlaw02_WireReads.T31 := by kernel_rfl
theorem mapmakerlaw02_WireReads.bits31 : waitsOk mapmakerlaw02_WireReads.T31.2 mapmakerlaw02_WireReads.B31 = true := by kernel_rfl
set_option linter.defProp false
def b1_ := @blk_drewN
def b2_ := @blk_drew
def b3_ := @blk_alloc
def b4_ := @below_alloc
def b5_ := @pw_below_drewN
def b6_ := @below_drew1
def b7_ := @below_set
def b8_ := @IsS59.ge
def b9_ := @IsS59.alloc
def c1_ := @IsS59.drewN
def c2_ := @IsS59.drew
def c3_ := @IsS59.far
def c4_ := @World.block_lt_of_cell?
def c5_ := @Nat.lt_of_lt_of_le
theorem n9 {α : Type} : (∀ (l : List α) (i : Nat) (a : α), l.toArray.setIfInBounds i a = (l.set i a).toArray) ∧ (∀ (a b : α) (l : List α), (a :: l).set 0 b = b :: l) ∧ (∀ (a b : α) (l : List α) (n : Nat), (a :: l).set (n + 1) b = a :: l.set n b) :=
  ⟨fun _ _ _ => List.setIfInBounds_toArray .., fun _ _ _ => rfl, fun _ _ _ _ => rfl⟩
abbrev d0_ : Array Bool := #[false, false, false, false, false, false, false, false, false, false, false, false, false]
abbrev d1_ : Array Bool := #[false, true, false, false, false, false, false, false, false, false, false, false, false]
abbrev d2_ : Array Bool := #[false, true, true, false, false, false, false, false, false, false, false, false, false]
abbrev d3_ : Array Bool := #[false, true, true, true, false, false, false, false, false, false, false, false, false]
abbrev d4_ : Array Bool := #[false, true, true, true, true, false, false, false, false, false, false, false, false]
abbrev d5_ : Array Bool := #[true, true, true, true, true, false, false, false, false, false, false, false, false]
abbrev d6_ : Array Bool := #[true, true, true, true, true, true, false, false, false, false, false, false, false]
abbrev d7_ : Array Bool := #[true, true, true, true, true, true, true, true, true, true, true, false, false]
abbrev d8_ : Array Bool := #[true, true, true, true, true, true, true, false, false, false, false, false, false]
abbrev d9_ : Array Bool := #[true, true, true, true, true, true, false, false, false, false, true, false, false]
abbrev d10_ : Array Bool := #[true, true, true, true, true, true, true, true, false, false, false, false, false]
abbrev d11_ : Array Bool := #[true, true, true, true, true, true, true, true, true, false, false, false, false]
abbrev d12_ : Array Bool := #[true, true, true, true, true, true, true, true, true, true, false, false, false]
abbrev d13_ : Array Bool := #[true, true, true, true, true, true, true, false, false, false, true, false, false]
abbrev d14_ : Array Bool := #[true, true, true, true, true, true, true, true, false, false, true, false, false]
abbrev d15_ : Array Bool := #[true, true, true, true, true, true, true, true, true, false, true, false, false]
abbrev d16_ : Array Bool := #[true, true, true, true, true, true, true, true, true, true, true, true, false]
abbrev d17_ : Array Bool := #[true, true, true, true, true, true, true, true, true, true, true, true, true]
abbrev d18_ : Array Bool := #[false, false, false, false, false, false, false, false, false, false, false, false, false, false, false, false, false, false, false]
abbrev d19_ : Array Bool := #[true, false, false, false, false, false, false, false, false, false, false, false, false, false, false, false, false, false, false]
abbrev d20_ : Array Bool := #[true, false, true, false, false, false, false, false, false, false, false, false, false, false, false, false, false, false, false]
abbrev d21_ : Array Bool := #[true, true, true, false, false, false, false, false, false, false, false, false, false, false, false, false, false, false, false]
abbrev d22_ : Array Bool := #[true, true, true, true, false, false, false, false, false, false, false, false, false, false, false, false, false, false, false]
abbrev d23_ : Array Bool := #[true, true, true, true, true, false, false, false, false, false, false, false, false, false, false, false, false, false, false]
abbrev d24_ : Array Bool := #[true, true, true, true, true, true, false, false, false, false, false, false, false, false, false, false, false, false, false]
abbrev d25_ : Array Bool := #[true, true, true, true, true, true, true, false, false, false, false, false, false, false, false, false, false, false, false]
abbrev d26_ : Array Bool := #[true, true, true, true, true, true, true, false, true, false, false, false, false, false, false, false, false, false, false]
abbrev d27_ : Array Bool := #[true, true, true, true, true, true, true, true, true, false, false, false, false, false, false, false, false, false, false]
abbrev d28_ : Array Bool := #[true, true, true, true, true, true, true, true, true, true, false, false, false, false, false, false, false, false, false]
abbrev d29_ : Array Bool := #[true, true, true, true, true, true, true, true, true, true, true, false, false, false, false, false, false, false, false]
abbrev d30_ : Array Bool := #[true, true, true, true, true, true, true, true, true, true, true, true, false, false, false, false, false, false, false]
abbrev d31_ : Array Bool := #[true, true, true, true, true, true, true, true, true, true, true, true, true, false, false, false, false, false, false]
abbrev d32_ : Array Bool := #[true, true, true, true, true, true, true, true, true, true, true, true, true, true, false, false, false, false, false]
abbrev d33_ : Array Bool := #[true, true, true, true, true, true, true, true, true, true, true, true, true, true, false, true, false, false, false]
abbrev d34_ : Array Bool := #[true, true, true, true, true, true, true, true, true, true, true, true, true, true, true, true, false, false, false]
abbrev d35_ : Array Bool := #[true, true, true, true, true, true, true, true, true, true, true, true, true, true, true, true, true, false, false]
abbrev d36_ : Array Bool := #[true, true, true, true, true, true, true, true, true, true, true, true, true, true, true, true, true, true, false]
abbrev d37_ : Array Bool := #[true, true, true, true, true, true, true, true, true, true, true, true, true, true, true, true, true, true, true]
abbrev d38_ : Array Bool := #[true, true, true, true, true, true, true, true, true, true, true, true, true, true, true, false, false, false, false]
abbrev d39_ : Array Bool := #[true, true, true, true, true, true, true, true, false, false, false, false, false, false, false, false, false, false, false]
abbrev d40_ : Array Bool := #[false, false, false, false, false, false, false, false, false]
abbrev d41_ : Array Bool := #[true, false, false, false, false, false, false, false, false]
abbrev d42_ : Array Bool := #[true, false, true, false, false, false, false, false, false]
abbrev d43_ : Array Bool := #[true, true, true, false, false, false, false, false, false]
abbrev d44_ : Array Bool := #[true, true, true, true, false, false, false, false, false]
abbrev d45_ : Array Bool := #[true, true, true, true, true, false, false, false, false]
abbrev d46_ : Array Bool := #[true, true, true, true, true, true, false, false, false]
abbrev d47_ : Array Bool := #[true, true, true, true, true, true, true, false, false]
abbrev d48_ : Array Bool := #[true, true, true, true, true, true, true, true, false]
abbrev d49_ : Array Bool := #[true, true, true, true, true, true, true, true, true]
set_option maxHeartbeats 8000000 in
set_option maxRecDepth 100000 in
theorem mapmakerlaw02_WireReads.calls (k : Nat) (a0 : ByteArray) (A1 : Option Addr) (c1 : Nat) (l1 : List (S45)) (r : Bool) (w : World) (hr1 : Kd.C k45 w A1 l1.length l1) (hc1 : l1.length ≤ c1) (h : mapmakerlaw02_WireReads.f k a0 l1 = some r) :
  Calls Try.prog 6 #[.string a0, .slice A1 l1.length c1] w fun e w' => e = .returned (.bool r) ∧ Below w.heap.size w w' := by
 have hu42 := Try.underlying42
 have HR1 := Aside0.mk hr1
 have HC1 := Aside0.mk hc1
 clear hr1 hc1
 have HB := Aside0.mk (Below.refl w.heap.size w)
 have H : (if (a0.size : Int) > 2000 then (mapmakerlaw02_WireReads.j0 k a0 l1 true) else (mapmakerlaw02_WireReads.j0 k a0 l1 (decide ((l1.length : Int) > 60)))) = some r := h
 clear h
 have HC3 := Aside0.mk H
 clear H
 go_enter Try.func6, Try.ntmps6
 go_upto_region 1 with (fail)
 go_cut [23] (fun v23 wc => ∃ (kq : Nat) (x23_2 : Bool), v23 = .bool x23_2 ∧ Aside0 (mapmakerlaw02_WireReads.j0 kq a0 l1 x23_2 = some r) ∧ Aside0 (kq ≤ k) ∧ Aside0 (Below w.heap.size w wc))
 case first =>
  have H := HC3.out
  clear HC3
  by_cases c4 : (a0.size : Int) > 2000
  ·rw [if_pos c4] at H
   have c4b0 : decide (2000 < (a0.size : Int)) = true := decide_eq_true c4
   have c4b1 : decide (2000 < a0.size) = true := decide_eq_true (by omega)
   clear c4
   (first | rw [c4b0] | (simp only [i64_w, i32_w]; rw [c4b0]) | skip)
   have H' := Aside0.mk H
   clear H
   go_wp2
   go_meet
   case rel => exact ⟨_, (true), (by first | rfl | (simp; done) | (simp [*]; done)), H', ⟨by first | omega | exact Nat.le_refl _⟩, ⟨by repeat (first | (with_reducible first | exact HB.out | apply b4_ | apply b5_ | apply b6_) | exact HB.out)⟩⟩
  ·rw [if_neg c4] at H
   have c4b0 : decide (2000 < (a0.size : Int)) = false := decide_eq_false c4
   have c4b1 : decide (2000 < a0.size) = false := decide_eq_false (by omega)
   clear c4
   (first | rw [c4b0] | (simp only [i64_w, i32_w]; rw [c4b0]) | skip)
   have H' := Aside0.mk H
   clear H
   go_wp2
   go_meet
   case rel => exact ⟨_, (decide ((l1.length : Int) > 60)), (by first | rfl | (simp; done) | (simp [*]; done)), H', ⟨by first | omega | exact Nat.le_refl _⟩, ⟨by repeat (first | (with_reducible first | exact HB.out | apply b4_ | apply b5_ | apply b6_) | exact HB.out)⟩⟩
 case rest =>
  clear HC3
  try clear c1
  try clear p2
  try clear c4
  try clear c4b0
  try clear c4b1
  obtain ⟨kq, x23_2, rfl, HA, HJ2, HB⟩ := hcut
  cases kq with
  | zero => exact absurd HA.out (by simp [mapmakerlaw02_WireReads.j0])
  | succ kj2 =>
   have H := HA.out
   clear HA
   simp only [mapmakerlaw02_WireReads.j0] at H
   by_cases c5 : x23_2 = true
   ·subst c5
    have H1 : ((mapmakerlaw02_lives.f).bind fun t174 => (some t174)) = some r := by rw [if_pos rfl] at H; exact H
    clear H
    have H := H1
    clear H1
    replace H := Option.bind_eq_some_iff.mp H
    obtain ⟨t174, A60, H⟩ := H
    replace H : (some t174) = some r := H
    have A6 := Aside0.mk A60
    clear A60
    obtain rfl := Option.some.inj H
    go_wp2_with (first | ((with_reducible refine gate_callee (f := 7) rfl ?_); refine goesL_ (some 24) rfl rfl Try.func7 (by kernel_rfl) rfl #[] rfl (by (try simp only [List.map_toArray, List.map_cons, List.map_nil]); first | done | rfl) ?_; (with_reducible refine (mapmakerlaw02_lives.calls  t174 _ A6.out).mono ?_); rintro e w7 ⟨rfl, hb⟩; refine ⟨_, rfl, ?_⟩; have n0_ := Aside0.mk (below_step (by repeat (first | (with_reducible first | exact HB.out | apply b4_ | apply b5_ | apply b6_) | exact HB.out)) hb); clear HB; have HB := n0_; clear n0_; (try clear hb); (try clear hb2); (try clear hk); (try clear hi)))
    go_ret
    exact ⟨by first | rfl | (simp [errW_none, errW_some] <;> rfl) | (simp [*, errW_none, errW_some] <;> rfl), by repeat (first | (with_reducible first | exact HB.out | apply b4_ | apply b5_ | apply b6_) | exact HB.out)⟩
   ·replace c5 := Bool.eq_false_iff.mpr c5
    subst c5
    have H1 : ((wire_Read.f a0).bind fun bt175 => ((mapmakerref02_Read.f a0).bind fun bt179 => (mapmakerlaw02_WireReads.l0 kj2 l1 0 bt175.1 bt175.2.1 bt175.2.2 bt179.1 bt179.2.1 bt179.2.2))) = some r := by rw [if_neg (show ¬ (false = true) by decide)] at H; exact H
    clear H
    have H := H1
    clear H1
    replace H := Option.bind_eq_some_iff.mp H
    obtain ⟨⟨t175, t176, t177⟩, A80, H⟩ := H
    replace H : ((mapmakerref02_Read.f a0).bind fun bt179 => (mapmakerlaw02_WireReads.l0 kj2 l1 0 t175 t176 t177 bt179.1 bt179.2.1 bt179.2.2)) = some r := H
    have A8 := Aside0.mk A80
    clear A80
    replace H := Option.bind_eq_some_iff.mp H
    obtain ⟨⟨t179, t180, t181⟩, A90, H⟩ := H
    replace H : (mapmakerlaw02_WireReads.l0 kj2 l1 0 t175 t176 t177 t179 t180 t181) = some r := H
    have A9 := Aside0.mk A90
    clear A90
    have H' := Aside0.mk H
    clear H
    go_wp2_with (first | ((with_reducible refine gate_callee (f := 14) rfl ?_); refine goesL_ (some 26) rfl rfl Try.func14 (by kernel_rfl) rfl #[.string a0] rfl (by (try simp only [List.map_toArray, List.map_cons, List.map_nil]); first | done | rfl) ?_; (with_reducible refine (wire_Read.calls a0 t175 t176 t177 w _ ?side1 A8.out).mono ?_); (case side1 => repeat (first | (with_reducible first | exact HB.out | apply b4_ | apply b5_ | apply b6_) | exact HB.out)); rintro e w10 ⟨g178, rfl, hi, hb, hb2⟩; refine ⟨_, rfl, ?_⟩; have n0_ := Aside0.mk (hb); have n1_ := Aside0.mk (hi); clear HB; have HB := n0_; have A2 := n1_; clear n0_ n1_; (try clear hb); (try clear hb2); (try clear hk); (try clear hi)) | ((with_reducible refine gate_callee (f := 21) rfl ?_); refine goesL_ (some 28) rfl rfl Try.func21 (by kernel_rfl) rfl #[.string a0] rfl (by (try simp only [List.map_toArray, List.map_cons, List.map_nil]); first | done | rfl) ?_; (with_reducible refine (mapmakerref02_Read.calls a0 t179 t180 t181 _ A9.out).mono ?_); rintro e w11 ⟨rfl, hb⟩; refine ⟨_, rfl, ?_⟩; have n0_ := Aside0.mk (IsS59.below (by repeat (first | (with_reducible first | exact A2.out | apply b9_ | apply c1_ | apply c2_) | exact A2.out)) hb); have n1_ := Aside0.mk (below_step (by repeat (first | (with_reducible first | exact HB.out | apply b4_ | apply b5_ | apply b6_ | refine b7_ ?_ (b8_ A2.out)) | exact HB.out)) hb); clear A2; clear HB; have A2 := n0_; have HB := n1_; clear n0_ n1_; (try clear hb); (try clear hb2); (try clear hk); (try clear hi)) | ((with_reducible refine gate_dst (N := 6) rfl ?_); (try (refine gate_guard (by rfl) ?_; dsimp only)); refine box_event ?hg (N := 6) ?hd (cs := #[.string (⟨#[]⟩ : ByteArray), .int .i64 0, .int .i64 0]) (t := 42) ?hr ?_; (case hd => rfl); (case hg => rfl); (case hr => first | (go_simp; done) | (go_simp; rfl)); intro A3 hg w12 hbox hb; have n0_ := Aside0.mk (IsS59.below (by repeat (first | (with_reducible first | exact A2.out | apply b9_ | apply c1_ | apply c2_) | exact A2.out)) hb); have n1_ := Aside0.mk (below_step (by repeat (first | (with_reducible first | exact HB.out | apply b4_ | apply b5_ | apply b6_ | refine b7_ ?_ (b8_ A2.out)) | exact HB.out)) hb); have n2_ := Aside0.mk (hbox); have n3_ := Aside0.mk ((by rw [hg]; exact (below_size (by repeat (first | (with_reducible first | exact HB.out | apply b4_ | apply b5_ | apply b6_ | refine b7_ ?_ (b8_ A2.out)) | exact HB.out))) : w.heap.size ≤ A3)); have n4_ := Aside0.mk ((by rw [hg]; exact (below_size (by repeat (first | (with_reducible first | exact HB.out | apply b4_ | apply b5_ | apply b6_ | refine b7_ ?_ (b8_ A2.out)) | exact HB.out))) : w.heap.size ≤ A3)); have n5_ := Aside0.mk ((by rw [hg]; exact Nat.ne_of_lt (IsS59.lt (show IsS59 w _ g178 t175 t176 t177 from by repeat (first | (with_reducible first | exact A2.out | apply b9_ | apply c1_ | apply c2_) | exact A2.out))) : g178 ≠ A3)); have n6_ := Aside0.mk ((by rw [hg]; exact Nat.ne_of_gt (IsS59.lt (show IsS59 w _ g178 t175 t176 t177 from by repeat (first | (with_reducible first | exact A2.out | apply b9_ | apply c1_ | apply c2_) | exact A2.out))) : A3 ≠ g178)); clear A2; clear HB; have A2 := n0_; have HB := n1_; have A0 := n2_; have By := n3_; have Ag := n4_; have Aa := n5_; have Au := n6_; clear n0_ n1_ n2_ n3_ n4_ n5_ n6_; clear hb hbox hg; have hnb13 := Au.out; have hnc13 := Aa.out; have hcz14_0 : w12.cell? ⟨A3, 0, none⟩ = some (.string (⟨#[]⟩ : ByteArray)) := (blk_cell A0.out 0).trans rfl; have hcz14_1 : w12.cell? ⟨A3, 1, none⟩ = some (.int .i64 0) := (blk_cell A0.out 1).trans rfl; have hcz14_2 : w12.cell? ⟨A3, 2, none⟩ = some (.int .i64 0) := (blk_cell A0.out 2).trans rfl; have hfz14_0 := blk_frozen A0.out 0; have hfz14_1 := blk_frozen A0.out 1; have hfz14_2 := blk_frozen A0.out 2))
    go_loopg [7] kj2 (fun kq v7 w' => ∃ (x7_2 : Int) (Ai : ByteArray) (Ah : Int) (Aj : Int) (A7 : ByteArray) (A5 : Int) (A4 : Int), v7 = .int .i64 x7_2 ∧ Aside0 (mapmakerlaw02_WireReads.l0 kq l1 x7_2 Ai Ah Aj A7 A5 A4 = some r) ∧ Aside0 (kq ≤ kj2) ∧ Aside0 (w'.heap[A3]? = some (.cells #[.string A7, .int .i64 A5, .int .i64 A4] 42 (0, 0))) ∧ Aside0 (IsS59 w w' g178 Ai Ah Aj) ∧ Aside0 (Below w.heap.size w w'))
    case atStart => exact ⟨(0), (t175), (t176), (t177), (t179), (t180), (t181), (by first | rfl | (simp; done) | (simp [*]; done)), H', ⟨Nat.le_refl _⟩, ⟨by (with_reducible repeat first | apply b1_ | apply b2_ | apply b3_); refine blk_put (cs := #[.string t179, .int .i64 t180, .int .i64 0]) ?_ 2 _ rfl; (with_reducible repeat first | apply b1_ | apply b2_ | apply b3_); refine blk_put (cs := #[.string t179, .int .i64 0, .int .i64 0]) ?_ 1 _ rfl; (with_reducible repeat first | apply b1_ | apply b2_ | apply b3_); refine blk_put (cs := #[.string (⟨#[]⟩ : ByteArray), .int .i64 0, .int .i64 0]) ?_ 0 _ rfl; (with_reducible repeat first | apply b1_ | apply b2_ | apply b3_); exact A0.out⟩, ⟨by repeat (first | (with_reducible first | exact A2.out | apply b9_ | apply c1_ | apply c2_ | refine c3_ ?_ Aa.out _) | exact A2.out)⟩, ⟨by repeat (first | (with_reducible first | exact HB.out | apply b4_ | apply b5_ | apply b6_ | refine b7_ ?_ (b8_ A2.out) | refine b7_ ?_ Ag.out) | exact HB.out)⟩⟩
    case round =>
     clear H'
     try clear c1
     try clear c2
     try clear p2
     try clear c4
     try clear c4b0
     try clear c4b1
     try clear c5
     try clear c6
     try clear c7
     try clear c13
     try clear c14
     try clear hcz14_0
     try clear hcz14_1
     try clear hcz14_2
     try clear hfz14_0
     try clear hfz14_1
     try clear hfz14_2
     try clear p2
     obtain ⟨x7_2, Ai, Ah, Aj, A7, A5, A4, rfl, HA, HK2, A0, A2, HB⟩ := hrel
     cases gk with
     | zero => exact absurd HA.out (by simp [mapmakerlaw02_WireReads.l0])
     | succ k2 =>
      have H := HA.out
      clear HA
      simp only [mapmakerlaw02_WireReads.l0] at H
      by_cases c15 : x7_2 < (l1.length : Int)
      ·rw [if_pos c15] at H
       have c15b0 : decide (x7_2 < (l1.length : Int)) = true := decide_eq_true c15
       clear c15
       by_cases c16 : 0 ≤ x7_2
       ·rw [if_pos c16] at H
        have c16b0 : decide (0 ≤ x7_2) = true := decide_eq_true c16
        clear c16
        have HC17 := Aside0.mk H
        clear H
        have p189 : 0 ≤ (x7_2 : Int) := of_decide_eq_true (by first | (with_reducible assumption) | assumption)
        have q189 : x7_2 < (l1.length : Int) := of_decide_eq_true (by first | (with_reducible assumption) | assumption)
        obtain ⟨ad189, e189, C5, C6⟩ := at_T45 HR1.out x7_2 p189 q189
        cases e189
        replace C5 := (HB.out.cell (c4_ w _ C5)).trans C5
        replace C6 := (HB.out.cell (c4_ w _ C6)).trans C6
        replace p189 := eq_true p189
        replace q189 := eq_true q189
        go_upto_block 2 with (fail)
        go_cut [] (fun wc => ∃ (kq : Nat) (Bv : ByteArray) (Bw : Int) (Bx : Int) (Ab : ByteArray) (Ac : Int) (Ad : Int), Aside0 (mapmakerlaw02_WireReads.j2 kq l1 x7_2 Bv Bw Bx Ab Ac Ad = some r) ∧ Aside0 (kq ≤ k2) ∧ Aside0 (wc.heap[A3]? = some (.cells #[.string Ab, .int .i64 Ac, .int .i64 Ad] 42 (0, 0))) ∧ Aside0 (IsS59 w wc g178 Bv Bw Bx) ∧ Aside0 (Below w.heap.size w wc))
        case first =>
         have H := HC17.out
         clear HC17
         by_cases c18 : (Int.tmod ((rd_T45 l1 x7_2).f0) 4) = 0
         ·rw [if_pos c18] at H
          have c18b0 : ((Int.tmod ((rd_T45 l1 x7_2).f0) 4) == 0) = true := beq_iff_eq.mpr c18
          have c18b1 : ((Int.tmod ((rd_T45 l1 x7_2).f0) 4) != 0) = false := bne_eq_false_iff_eq.mpr c18
          clear c18
          (first | rw [c18b0] | (simp only [i64_w, i32_w]; rw [c18b0]) | skip)
          replace H := Option.bind_eq_some_iff.mp H
          obtain ⟨⟨t190, t191, t192, t193⟩, A190, H⟩ := H
          replace H : ((wire_Reader_Uint.f k2 Ai Ah Aj).bind fun bt195 => (if bt195.1 = t193 then (mapmakerlaw02_WireReads.j2 k2 l1 x7_2 bt195.2.1 bt195.2.2.1 bt195.2.2.2 t190 t191 t192) else (some false))) = some r := H
          have A19 := Aside0.mk A190
          clear A190
          replace H := Option.bind_eq_some_iff.mp H
          obtain ⟨⟨t195, t196, t197, t198⟩, A200, H⟩ := H
          replace H : (if t195 = t193 then (mapmakerlaw02_WireReads.j2 k2 l1 x7_2 t196 t197 t198 t190 t191 t192) else (some false)) = some r := H
          have A20 := Aside0.mk A200
          clear A200
          by_cases c21 : t195 = t193
          ·rw [if_pos c21] at H
           have c21b0 : (t195 == t193) = true := beq_iff_eq.mpr c21
           have c21b1 : (t195 != t193) = false := bne_eq_false_iff_eq.mpr c21
           clear c21
           have H' := Aside0.mk H
           clear H
           have hnb22 := Au.out
           have hnc22 := Aa.out
           have hcz23_0 : wr.cell? ⟨A3, 0, none⟩ = some (.string A7) := (blk_cell A0.out 0).trans rfl
           have hcz23_1 : wr.cell? ⟨A3, 1, none⟩ = some (.int .i64 A5) := (blk_cell A0.out 1).trans rfl
           have hcz23_2 : wr.cell? ⟨A3, 2, none⟩ = some (.int .i64 A4) := (blk_cell A0.out 2).trans rfl
           have hfz23_0 := blk_frozen A0.out 0
           have hfz23_1 := blk_frozen A0.out 1
           have hfz23_2 := blk_frozen A0.out 2
           go_wp2_with (first | ((with_reducible refine gate_callee (f := 22) rfl ?_); refine goesL_ (some 67) rfl rfl Try.func22 (by kernel_rfl) rfl #[.agg #[.string A7, .int .i64 A5, .int .i64 A4]] rfl (by (try simp only [List.map_toArray, List.map_cons, List.map_nil]); first | done | rfl) ?_; (with_reducible refine (mapmakerref02_Uint.calls k2 A7 A5 A4 t190 t191 t192 t193 _ A19.out).mono ?_); rintro e w24 ⟨rfl, hb⟩; refine ⟨_, rfl, ?_⟩; have n0_ := Aside0.mk (blk_below (g := A3) (o := .cells #[.string A7, .int .i64 A5, .int .i64 A4] 42 (0, 0)) (by (with_reducible repeat first | apply b1_ | apply b2_ | apply b3_); exact A0.out) hb); have n1_ := Aside0.mk (IsS59.below (by repeat (first | (with_reducible first | exact A2.out | apply b9_ | apply c1_ | apply c2_ | refine c3_ ?_ Aa.out _) | exact A2.out)) hb); have n2_ := Aside0.mk (below_step (by repeat (first | (with_reducible first | exact HB.out | apply b4_ | apply b5_ | apply b6_ | refine b7_ ?_ (b8_ A2.out) | refine b7_ ?_ Ag.out) | exact HB.out)) hb); clear A0; clear A2; clear HB; have A0 := n0_; have A2 := n1_; have HB := n2_; clear n0_ n1_ n2_; (try clear hb); (try clear hb2); (try clear hk); (try clear hi)) | ((with_reducible refine gate_dst (N := 8) rfl ?_); (try (refine gate_guard (by rfl) ?_; dsimp only)); refine box_event ?hg (N := 8) ?hd (cs := #[.string (⟨#[]⟩ : ByteArray), .int .i64 0, .int .i64 0]) (t := 42) ?hr ?_; (case hd => rfl); (case hg => rfl); (case hr => first | (go_simp; done) | (go_simp; rfl)); intro B5 hg w25 hbox hb; have n0_ := Aside0.mk (blk_below (g := A3) (o := .cells #[.string A7, .int .i64 A5, .int .i64 A4] 42 (0, 0)) (by (with_reducible repeat first | apply b1_ | apply b2_ | apply b3_); exact A0.out) hb); have n1_ := Aside0.mk (IsS59.below (by repeat (first | (with_reducible first | exact A2.out | apply b9_ | apply c1_ | apply c2_ | refine c3_ ?_ Aa.out _) | exact A2.out)) hb); have n2_ := Aside0.mk (below_step (by repeat (first | (with_reducible first | exact HB.out | apply b4_ | apply b5_ | apply b6_ | refine b7_ ?_ (b8_ A2.out) | refine b7_ ?_ Ag.out) | exact HB.out)) hb); have n3_ := Aside0.mk (hbox); have n4_ := Aside0.mk ((by rw [hg]; exact (below_size (by repeat (first | (with_reducible first | exact HB.out | apply b4_ | apply b5_ | apply b6_ | refine b7_ ?_ (b8_ A2.out) | refine b7_ ?_ Ag.out) | exact HB.out))) : w.heap.size ≤ B5)); have n5_ := Aside0.mk ((by rw [hg]; exact (below_size (by repeat (first | (with_reducible first | exact HB.out | apply b4_ | apply b5_ | apply b6_ | refine b7_ ?_ (b8_ A2.out) | refine b7_ ?_ Ag.out) | exact HB.out))) : w.heap.size ≤ B5)); have n6_ := Aside0.mk ((by rw [hg]; exact Nat.ne_of_lt (blk_lt (g := A3) (o := .cells #[.string A7, .int .i64 A5, .int .i64 A4] 42 (0, 0)) (by (with_reducible repeat first | apply b1_ | apply b2_ | apply b3_); exact A0.out)) : A3 ≠ B5)); have n7_ := Aside0.mk ((by rw [hg]; exact Nat.ne_of_gt (blk_lt (g := A3) (o := .cells #[.string A7, .int .i64 A5, .int .i64 A4] 42 (0, 0)) (by (with_reducible repeat first | apply b1_ | apply b2_ | apply b3_); exact A0.out)) : B5 ≠ A3)); have n8_ := Aside0.mk ((by rw [hg]; exact Nat.ne_of_lt (IsS59.lt (show IsS59 w _ g178 Ai Ah Aj from by repeat (first | (with_reducible first | exact A2.out | apply b9_ | apply c1_ | apply c2_ | refine c3_ ?_ Aa.out _) | exact A2.out))) : g178 ≠ B5)); have n9_ := Aside0.mk ((by rw [hg]; exact Nat.ne_of_gt (IsS59.lt (show IsS59 w _ g178 Ai Ah Aj from by repeat (first | (with_reducible first | exact A2.out | apply b9_ | apply c1_ | apply c2_ | refine c3_ ?_ Aa.out _) | exact A2.out))) : B5 ≠ g178)); clear A0; clear A2; clear HB; have A0 := n0_; have A2 := n1_; have HB := n2_; have B8 := n3_; have C7 := n4_; have C4 := n5_; have Be := n6_; have Bg := n7_; have Bz := n8_; have C1 := n9_; clear n0_ n1_ n2_ n3_ n4_ n5_ n6_ n7_ n8_ n9_; clear hb hbox hg; have hnb26 := Bg.out; have hnc26 := Be.out; have hnb27 := C1.out; have hnc27 := Bz.out; have hcz28_0 : w25.cell? ⟨B5, 0, none⟩ = some (.string (⟨#[]⟩ : ByteArray)) := (blk_cell B8.out 0).trans rfl; have hcz28_1 : w25.cell? ⟨B5, 1, none⟩ = some (.int .i64 0) := (blk_cell B8.out 1).trans rfl; have hcz28_2 : w25.cell? ⟨B5, 2, none⟩ = some (.int .i64 0) := (blk_cell B8.out 2).trans rfl; have hfz28_0 := blk_frozen B8.out 0; have hfz28_1 := blk_frozen B8.out 1; have hfz28_2 := blk_frozen B8.out 2; have hcz29_0 : w25.cell? ⟨A3, 0, none⟩ = some (.string A7) := (blk_cell A0.out 0).trans rfl; have hcz29_1 : w25.cell? ⟨A3, 1, none⟩ = some (.int .i64 A5) := (blk_cell A0.out 1).trans rfl; have hcz29_2 : w25.cell? ⟨A3, 2, none⟩ = some (.int .i64 A4) := (blk_cell A0.out 2).trans rfl; have hfz29_0 := blk_frozen A0.out 0; have hfz29_1 := blk_frozen A0.out 1; have hfz29_2 := blk_frozen A0.out 2) | ((with_reducible refine gate_callee (f := 15) rfl ?_); refine goesL_ (some 72) rfl rfl Try.func15 (by kernel_rfl) rfl #[.pointer (some ⟨g178, 0, none⟩)] rfl (by (try simp only [List.map_toArray, List.map_cons, List.map_nil]); first | done | rfl) ?_; (with_reducible refine (wire_Reader_Uint.calls k2 g178 Ai Ah Aj t195 t196 t197 t198 w _ ?side1 ?side2 A20.out).mono ?_); (case side1 => repeat (first | (with_reducible first | exact A2.out | apply b9_ | apply c1_ | apply c2_ | refine c3_ ?_ Aa.out _ | refine c3_ ?_ Bz.out _) | exact A2.out)); (case side2 => repeat (first | (with_reducible first | exact HB.out | apply b4_ | apply b5_ | apply b6_ | refine b7_ ?_ (b8_ A2.out) | refine b7_ ?_ Ag.out | refine b7_ ?_ C4.out) | exact HB.out)); rintro e w30 ⟨rfl, hi, hb, hk⟩; refine ⟨_, rfl, ?_⟩; have n0_ := Aside0.mk (KeepBut.blk hk (g' := A3) (o := .cells #[.string t190, .int .i64 t191, .int .i64 t192] 42 (0, 0)) (by (with_reducible repeat first | apply b1_ | apply b2_ | apply b3_); refine blk_put (cs := #[.string t190, .int .i64 t191, .int .i64 A4]) ?_ 2 _ rfl; (with_reducible repeat first | apply b1_ | apply b2_ | apply b3_); refine blk_put (cs := #[.string t190, .int .i64 A5, .int .i64 A4]) ?_ 1 _ rfl; (with_reducible repeat first | apply b1_ | apply b2_ | apply b3_); refine blk_put (cs := #[.string A7, .int .i64 A5, .int .i64 A4]) ?_ 0 _ rfl; (with_reducible repeat first | apply b1_ | apply b2_ | apply b3_); refine blk_far ?_ Be.out _; (with_reducible repeat first | apply b1_ | apply b2_ | apply b3_); refine blk_far ?_ Be.out _; (with_reducible repeat first | apply b1_ | apply b2_ | apply b3_); refine blk_far ?_ Be.out _; (with_reducible repeat first | apply b1_ | apply b2_ | apply b3_); exact A0.out) Au.out (by simp)); have n1_ := Aside0.mk (KeepBut.blk hk (g' := B5) (o := .cells #[.string t190, .int .i64 t191, .int .i64 t192] 42 (0, 0)) (by (with_reducible repeat first | apply b1_ | apply b2_ | apply b3_); refine blk_far ?_ Bg.out _; (with_reducible repeat first | apply b1_ | apply b2_ | apply b3_); refine blk_far ?_ Bg.out _; (with_reducible repeat first | apply b1_ | apply b2_ | apply b3_); refine blk_far ?_ Bg.out _; (with_reducible repeat first | apply b1_ | apply b2_ | apply b3_); refine blk_put (cs := #[.string t190, .int .i64 t191, .int .i64 0]) ?_ 2 _ rfl; (with_reducible repeat first | apply b1_ | apply b2_ | apply b3_); refine blk_put (cs := #[.string t190, .int .i64 0, .int .i64 0]) ?_ 1 _ rfl; (with_reducible repeat first | apply b1_ | apply b2_ | apply b3_); refine blk_put (cs := #[.string (⟨#[]⟩ : ByteArray), .int .i64 0, .int .i64 0]) ?_ 0 _ rfl; (with_reducible repeat first | apply b1_ | apply b2_ | apply b3_); exact B8.out) C1.out (by simp)); have n2_ := Aside0.mk (hb); have n3_ := Aside0.mk (hi); clear A0; clear B8; clear HB; clear A2; have A0 := n0_; have B8 := n1_; have HB := n2_; have A2 := n3_; clear n0_ n1_ n2_ n3_; (try clear hb); (try clear hb2); (try clear hk); (try clear hi)))
           go_meet
           case rel => exact ⟨_, (t196), (t197), (t198), (t190), (t191), (t192), H', ⟨by have := HJ2.out; have := HK2.out; first | omega | exact Nat.le_refl _⟩, ⟨by (with_reducible repeat first | apply b1_ | apply b2_ | apply b3_); exact A0.out⟩, ⟨by repeat (first | (with_reducible first | exact A2.out | apply b9_ | apply c1_ | apply c2_ | refine c3_ ?_ Aa.out _ | refine c3_ ?_ Bz.out _) | exact A2.out)⟩, ⟨by repeat (first | (with_reducible first | exact HB.out | apply b4_ | apply b5_ | apply b6_ | refine b7_ ?_ (b8_ A2.out) | refine b7_ ?_ Ag.out | refine b7_ ?_ C4.out) | exact HB.out)⟩⟩
          ·rw [if_neg c21] at H
           have c21b0 : (t195 == t193) = false := beq_eq_false_iff_ne.mpr c21
           have c21b1 : (t195 != t193) = true := bne_iff_ne.mpr c21
           obtain rfl := Option.some.inj H
           have hnb31 := Au.out
           have hnc31 := Aa.out
           have hcz32_0 : wr.cell? ⟨A3, 0, none⟩ = some (.string A7) := (blk_cell A0.out 0).trans rfl
           have hcz32_1 : wr.cell? ⟨A3, 1, none⟩ = some (.int .i64 A5) := (blk_cell A0.out 1).trans rfl
           have hcz32_2 : wr.cell? ⟨A3, 2, none⟩ = some (.int .i64 A4) := (blk_cell A0.out 2).trans rfl
           have hfz32_0 := blk_frozen A0.out 0
           have hfz32_1 := blk_frozen A0.out 1
           have hfz32_2 := blk_frozen A0.out 2
           go_wp2_with (first | ((with_reducible refine gate_callee (f := 22) rfl ?_); refine goesL_ (some 67) rfl rfl Try.func22 (by kernel_rfl) rfl #[.agg #[.string A7, .int .i64 A5, .int .i64 A4]] rfl (by (try simp only [List.map_toArray, List.map_cons, List.map_nil]); first | done | rfl) ?_; (with_reducible refine (mapmakerref02_Uint.calls k2 A7 A5 A4 t190 t191 t192 t193 _ A19.out).mono ?_); rintro e w33 ⟨rfl, hb⟩; refine ⟨_, rfl, ?_⟩; have n0_ := Aside0.mk (blk_below (g := A3) (o := .cells #[.string A7, .int .i64 A5, .int .i64 A4] 42 (0, 0)) (by (with_reducible repeat first | apply b1_ | apply b2_ | apply b3_); exact A0.out) hb); have n1_ := Aside0.mk (IsS59.below (by repeat (first | (with_reducible first | exact A2.out | apply b9_ | apply c1_ | apply c2_ | refine c3_ ?_ Aa.out _) | exact A2.out)) hb); have n2_ := Aside0.mk (below_step (by repeat (first | (with_reducible first | exact HB.out | apply b4_ | apply b5_ | apply b6_ | refine b7_ ?_ (b8_ A2.out) | refine b7_ ?_ Ag.out) | exact HB.out)) hb); clear A0; clear A2; clear HB; have A0 := n0_; have A2 := n1_; have HB := n2_; clear n0_ n1_ n2_; (try clear hb); (try clear hb2); (try clear hk); (try clear hi)) | ((with_reducible refine gate_dst (N := 8) rfl ?_); (try (refine gate_guard (by rfl) ?_; dsimp only)); refine box_event ?hg (N := 8) ?hd (cs := #[.string (⟨#[]⟩ : ByteArray), .int .i64 0, .int .i64 0]) (t := 42) ?hr ?_; (case hd => rfl); (case hg => rfl); (case hr => first | (go_simp; done) | (go_simp; rfl)); intro B5 hg w34 hbox hb; have n0_ := Aside0.mk (blk_below (g := A3) (o := .cells #[.string A7, .int .i64 A5, .int .i64 A4] 42 (0, 0)) (by (with_reducible repeat first | apply b1_ | apply b2_ | apply b3_); exact A0.out) hb); have n1_ := Aside0.mk (IsS59.below (by repeat (first | (with_reducible first | exact A2.out | apply b9_ | apply c1_ | apply c2_ | refine c3_ ?_ Aa.out _) | exact A2.out)) hb); have n2_ := Aside0.mk (below_step (by repeat (first | (with_reducible first | exact HB.out | apply b4_ | apply b5_ | apply b6_ | refine b7_ ?_ (b8_ A2.out) | refine b7_ ?_ Ag.out) | exact HB.out)) hb); have n3_ := Aside0.mk (hbox); have n4_ := Aside0.mk ((by rw [hg]; exact (below_size (by repeat (first | (with_reducible first | exact HB.out | apply b4_ | apply b5_ | apply b6_ | refine b7_ ?_ (b8_ A2.out) | refine b7_ ?_ Ag.out) | exact HB.out))) : w.heap.size ≤ B5)); have n5_ := Aside0.mk ((by rw [hg]; exact (below_size (by repeat (first | (with_reducible first | exact HB.out | apply b4_ | apply b5_ | apply b6_ | refine b7_ ?_ (b8_ A2.out) | refine b7_ ?_ Ag.out) | exact HB.out))) : w.heap.size ≤ B5)); have n6_ := Aside0.mk ((by rw [hg]; exact Nat.ne_of_lt (blk_lt (g := A3) (o := .cells #[.string A7, .int .i64 A5, .int .i64 A4] 42 (0, 0)) (by (with_reducible repeat first | apply b1_ | apply b2_ | apply b3_); exact A0.out)) : A3 ≠ B5)); have n7_ := Aside0.mk ((by rw [hg]; exact Nat.ne_of_gt (blk_lt (g := A3) (o := .cells #[.string A7, .int .i64 A5, .int .i64 A4] 42 (0, 0)) (by (with_reducible repeat first | apply b1_ | apply b2_ | apply b3_); exact A0.out)) : B5 ≠ A3)); have n8_ := Aside0.mk ((by rw [hg]; exact Nat.ne_of_lt (IsS59.lt (show IsS59 w _ g178 Ai Ah Aj from by repeat (first | (with_reducible first | exact A2.out | apply b9_ | apply c1_ | apply c2_ | refine c3_ ?_ Aa.out _) | exact A2.out))) : g178 ≠ B5)); have n9_ := Aside0.mk ((by rw [hg]; exact Nat.ne_of_gt (IsS59.lt (show IsS59 w _ g178 Ai Ah Aj from by repeat (first | (with_reducible first | exact A2.out | apply b9_ | apply c1_ | apply c2_ | refine c3_ ?_ Aa.out _) | exact A2.out))) : B5 ≠ g178)); clear A0; clear A2; clear HB; have A0 := n0_; have A2 := n1_; have HB := n2_; have B8 := n3_; have C7 := n4_; have C4 := n5_; have Be := n6_; have Bg := n7_; have Bz := n8_; have C1 := n9_; clear n0_ n1_ n2_ n3_ n4_ n5_ n6_ n7_ n8_ n9_; clear hb hbox hg; have hnb35 := Bg.out; have hnc35 := Be.out; have hnb36 := C1.out; have hnc36 := Bz.out; have hcz37_0 : w34.cell? ⟨B5, 0, none⟩ = some (.string (⟨#[]⟩ : ByteArray)) := (blk_cell B8.out 0).trans rfl; have hcz37_1 : w34.cell? ⟨B5, 1, none⟩ = some (.int .i64 0) := (blk_cell B8.out 1).trans rfl; have hcz37_2 : w34.cell? ⟨B5, 2, none⟩ = some (.int .i64 0) := (blk_cell B8.out 2).trans rfl; have hfz37_0 := blk_frozen B8.out 0; have hfz37_1 := blk_frozen B8.out 1; have hfz37_2 := blk_frozen B8.out 2; have hcz38_0 : w34.cell? ⟨A3, 0, none⟩ = some (.string A7) := (blk_cell A0.out 0).trans rfl; have hcz38_1 : w34.cell? ⟨A3, 1, none⟩ = some (.int .i64 A5) := (blk_cell A0.out 1).trans rfl; have hcz38_2 : w34.cell? ⟨A3, 2, none⟩ = some (.int .i64 A4) := (blk_cell A0.out 2).trans rfl; have hfz38_0 := blk_frozen A0.out 0; have hfz38_1 := blk_frozen A0.out 1; have hfz38_2 := blk_frozen A0.out 2) | ((with_reducible refine gate_callee (f := 15) rfl ?_); refine goesL_ (some 72) rfl rfl Try.func15 (by kernel_rfl) rfl #[.pointer (some ⟨g178, 0, none⟩)] rfl (by (try simp only [List.map_toArray, List.map_cons, List.map_nil]); first | done | rfl) ?_; (with_reducible refine (wire_Reader_Uint.calls k2 g178 Ai Ah Aj t195 t196 t197 t198 w _ ?side1 ?side2 A20.out).mono ?_); (case side1 => repeat (first | (with_reducible first | exact A2.out | apply b9_ | apply c1_ | apply c2_ | refine c3_ ?_ Aa.out _ | refine c3_ ?_ Bz.out _) | exact A2.out)); (case side2 => repeat (first | (with_reducible first | exact HB.out | apply b4_ | apply b5_ | apply b6_ | refine b7_ ?_ (b8_ A2.out) | refine b7_ ?_ Ag.out | refine b7_ ?_ C4.out) | exact HB.out)); rintro e w39 ⟨rfl, hi, hb, hk⟩; refine ⟨_, rfl, ?_⟩; have n0_ := Aside0.mk (KeepBut.blk hk (g' := A3) (o := .cells #[.string t190, .int .i64 t191, .int .i64 t192] 42 (0, 0)) (by (with_reducible repeat first | apply b1_ | apply b2_ | apply b3_); refine blk_put (cs := #[.string t190, .int .i64 t191, .int .i64 A4]) ?_ 2 _ rfl; (with_reducible repeat first | apply b1_ | apply b2_ | apply b3_); refine blk_put (cs := #[.string t190, .int .i64 A5, .int .i64 A4]) ?_ 1 _ rfl; (with_reducible repeat first | apply b1_ | apply b2_ | apply b3_); refine blk_put (cs := #[.string A7, .int .i64 A5, .int .i64 A4]) ?_ 0 _ rfl; (with_reducible repeat first | apply b1_ | apply b2_ | apply b3_); refine blk_far ?_ Be.out _; (with_reducible repeat first | apply b1_ | apply b2_ | apply b3_); refine blk_far ?_ Be.out _; (with_reducible repeat first | apply b1_ | apply b2_ | apply b3_); refine blk_far ?_ Be.out _; (with_reducible repeat first | apply b1_ | apply b2_ | apply b3_); exact A0.out) Au.out (by simp)); have n1_ := Aside0.mk (KeepBut.blk hk (g' := B5) (o := .cells #[.string t190, .int .i64 t191, .int .i64 t192] 42 (0, 0)) (by (with_reducible repeat first | apply b1_ | apply b2_ | apply b3_); refine blk_far ?_ Bg.out _; (with_reducible repeat first | apply b1_ | apply b2_ | apply b3_); refine blk_far ?_ Bg.out _; (with_reducible repeat first | apply b1_ | apply b2_ | apply b3_); refine blk_far ?_ Bg.out _; (with_reducible repeat first | apply b1_ | apply b2_ | apply b3_); refine blk_put (cs := #[.string t190, .int .i64 t191, .int .i64 0]) ?_ 2 _ rfl; (with_reducible repeat first | apply b1_ | apply b2_ | apply b3_); refine blk_put (cs := #[.string t190, .int .i64 0, .int .i64 0]) ?_ 1 _ rfl; (with_reducible repeat first | apply b1_ | apply b2_ | apply b3_); refine blk_put (cs := #[.string (⟨#[]⟩ : ByteArray), .int .i64 0, .int .i64 0]) ?_ 0 _ rfl; (with_reducible repeat first | apply b1_ | apply b2_ | apply b3_); exact B8.out) C1.out (by simp)); have n2_ := Aside0.mk (hb); have n3_ := Aside0.mk (hi); clear A0; clear B8; clear HB; clear A2; have A0 := n0_; have B8 := n1_; have HB := n2_; have A2 := n3_; clear n0_ n1_ n2_ n3_; (try clear hb); (try clear hb2); (try clear hk); (try clear hi)))
           go_ret
           exact ⟨by first | rfl | (simp [errW_none, errW_some] <;> rfl) | (simp [*, errW_none, errW_some] <;> rfl), by repeat (first | (with_reducible first | exact HB.out | apply b4_ | apply b5_ | apply b6_ | refine b7_ ?_ (b8_ A2.out) | refine b7_ ?_ Ag.out | refine b7_ ?_ C4.out) | exact HB.out)⟩
         ·rw [if_neg c18] at H
          have c18b0 : ((Int.tmod ((rd_T45 l1 x7_2).f0) 4) == 0) = false := beq_eq_false_iff_ne.mpr c18
          have c18b1 : ((Int.tmod ((rd_T45 l1 x7_2).f0) 4) != 0) = true := bne_iff_ne.mpr c18
          (first | rw [c18b0] | (simp only [i64_w, i32_w]; rw [c18b0]) | skip)
          by_cases c40 : (Int.tmod ((rd_T45 l1 x7_2).f0) 4) = 1
          ·rw [if_pos c40] at H
           have c40b0 : ((Int.tmod ((rd_T45 l1 x7_2).f0) 4) == 1) = true := beq_iff_eq.mpr c40
           have c40b1 : ((Int.tmod ((rd_T45 l1 x7_2).f0) 4) != 1) = false := bne_eq_false_iff_eq.mpr c40
           clear c40
           replace H := Option.bind_eq_some_iff.mp H
           obtain ⟨⟨t199, t200, t201, t202⟩, A410, H⟩ := H
           replace H : ((wire_Reader_Int.f k2 Ai Ah Aj).bind fun bt204 => (if bt204.1 = t202 then (mapmakerlaw02_WireReads.j2 k2 l1 x7_2 bt204.2.1 bt204.2.2.1 bt204.2.2.2 t199 t200 t201) else (some false))) = some r := H
           have A41 := Aside0.mk A410
           clear A410
           replace H := Option.bind_eq_some_iff.mp H
           obtain ⟨⟨t204, t205, t206, t207⟩, A420, H⟩ := H
           replace H : (if t204 = t202 then (mapmakerlaw02_WireReads.j2 k2 l1 x7_2 t205 t206 t207 t199 t200 t201) else (some false)) = some r := H
           have A42 := Aside0.mk A420
           clear A420
           by_cases c43 : t204 = t202
           ·rw [if_pos c43] at H
            have c43b0 : (t204 == t202) = true := beq_iff_eq.mpr c43
            have c43b1 : (t204 != t202) = false := bne_eq_false_iff_eq.mpr c43
            clear c43
            have H' := Aside0.mk H
            clear H
            have hnb44 := Au.out
            have hnc44 := Aa.out
            have hcz45_0 : wr.cell? ⟨A3, 0, none⟩ = some (.string A7) := (blk_cell A0.out 0).trans rfl
            have hcz45_1 : wr.cell? ⟨A3, 1, none⟩ = some (.int .i64 A5) := (blk_cell A0.out 1).trans rfl
            have hcz45_2 : wr.cell? ⟨A3, 2, none⟩ = some (.int .i64 A4) := (blk_cell A0.out 2).trans rfl
            have hfz45_0 := blk_frozen A0.out 0
            have hfz45_1 := blk_frozen A0.out 1
            have hfz45_2 := blk_frozen A0.out 2
            go_wp2_with (first | ((with_reducible refine gate_callee (f := 23) rfl ?_); refine goesL_ (some 79) rfl rfl Try.func23 (by kernel_rfl) rfl #[.agg #[.string A7, .int .i64 A5, .int .i64 A4]] rfl (by (try simp only [List.map_toArray, List.map_cons, List.map_nil]); first | done | rfl) ?_; (with_reducible refine (mapmakerref02_Int.calls k2 A7 A5 A4 t199 t200 t201 t202 _ A41.out).mono ?_); rintro e w46 ⟨rfl, hb⟩; refine ⟨_, rfl, ?_⟩; have n0_ := Aside0.mk (blk_below (g := A3) (o := .cells #[.string A7, .int .i64 A5, .int .i64 A4] 42 (0, 0)) (by (with_reducible repeat first | apply b1_ | apply b2_ | apply b3_); exact A0.out) hb); have n1_ := Aside0.mk (IsS59.below (by repeat (first | (with_reducible first | exact A2.out | apply b9_ | apply c1_ | apply c2_ | refine c3_ ?_ Aa.out _) | exact A2.out)) hb); have n2_ := Aside0.mk (below_step (by repeat (first | (with_reducible first | exact HB.out | apply b4_ | apply b5_ | apply b6_ | refine b7_ ?_ (b8_ A2.out) | refine b7_ ?_ Ag.out) | exact HB.out)) hb); clear A0; clear A2; clear HB; have A0 := n0_; have A2 := n1_; have HB := n2_; clear n0_ n1_ n2_; (try clear hb); (try clear hb2); (try clear hk); (try clear hi)) | ((with_reducible refine gate_dst (N := 10) rfl ?_); (try (refine gate_guard (by rfl) ?_; dsimp only)); refine box_event ?hg (N := 10) ?hd (cs := #[.string (⟨#[]⟩ : ByteArray), .int .i64 0, .int .i64 0]) (t := 42) ?hr ?_; (case hd => rfl); (case hg => rfl); (case hr => first | (go_simp; done) | (go_simp; rfl)); intro B6 hg w47 hbox hb; have n0_ := Aside0.mk (blk_below (g := A3) (o := .cells #[.string A7, .int .i64 A5, .int .i64 A4] 42 (0, 0)) (by (with_reducible repeat first | apply b1_ | apply b2_ | apply b3_); exact A0.out) hb); have n1_ := Aside0.mk (IsS59.below (by repeat (first | (with_reducible first | exact A2.out | apply b9_ | apply c1_ | apply c2_ | refine c3_ ?_ Aa.out _) | exact A2.out)) hb); have n2_ := Aside0.mk (below_step (by repeat (first | (with_reducible first | exact HB.out | apply b4_ | apply b5_ | apply b6_ | refine b7_ ?_ (b8_ A2.out) | refine b7_ ?_ Ag.out) | exact HB.out)) hb); have n3_ := Aside0.mk (hbox); have n4_ := Aside0.mk ((by rw [hg]; exact (below_size (by repeat (first | (with_reducible first | exact HB.out | apply b4_ | apply b5_ | apply b6_ | refine b7_ ?_ (b8_ A2.out) | refine b7_ ?_ Ag.out) | exact HB.out))) : w.heap.size ≤ B6)); have n5_ := Aside0.mk ((by rw [hg]; exact (below_size (by repeat (first | (with_reducible first | exact HB.out | apply b4_ | apply b5_ | apply b6_ | refine b7_ ?_ (b8_ A2.out) | refine b7_ ?_ Ag.out) | exact HB.out))) : w.heap.size ≤ B6)); have n6_ := Aside0.mk ((by rw [hg]; exact Nat.ne_of_lt (blk_lt (g := A3) (o := .cells #[.string A7, .int .i64 A5, .int .i64 A4] 42 (0, 0)) (by (with_reducible repeat first | apply b1_ | apply b2_ | apply b3_); exact A0.out)) : A3 ≠ B6)); have n7_ := Aside0.mk ((by rw [hg]; exact Nat.ne_of_gt (blk_lt (g := A3) (o := .cells #[.string A7, .int .i64 A5, .int .i64 A4] 42 (0, 0)) (by (with_reducible repeat first | apply b1_ | apply b2_ | apply b3_); exact A0.out)) : B6 ≠ A3)); have n8_ := Aside0.mk ((by rw [hg]; exact Nat.ne_of_lt (IsS59.lt (show IsS59 w _ g178 Ai Ah Aj from by repeat (first | (with_reducible first | exact A2.out | apply b9_ | apply c1_ | apply c2_ | refine c3_ ?_ Aa.out _) | exact A2.out))) : g178 ≠ B6)); have n9_ := Aside0.mk ((by rw [hg]; exact Nat.ne_of_gt (IsS59.lt (show IsS59 w _ g178 Ai Ah Aj from by repeat (first | (with_reducible first | exact A2.out | apply b9_ | apply c1_ | apply c2_ | refine c3_ ?_ Aa.out _) | exact A2.out))) : B6 ≠ g178)); clear A0; clear A2; clear HB; have A0 := n0_; have A2 := n1_; have HB := n2_; have B7 := n3_; have C8 := n4_; have C3 := n5_; have Bf := n6_; have Bd := n7_; have C0 := n8_; have C2 := n9_; clear n0_ n1_ n2_ n3_ n4_ n5_ n6_ n7_ n8_ n9_; clear hb hbox hg; have hnb48 := Bd.out; have hnc48 := Bf.out; have hnb49 := C2.out; have hnc49 := C0.out; have hcz50_0 : w47.cell? ⟨B6, 0, none⟩ = some (.string (⟨#[]⟩ : ByteArray)) := (blk_cell B7.out 0).trans rfl; have hcz50_1 : w47.cell? ⟨B6, 1, none⟩ = some (.int .i64 0) := (blk_cell B7.out 1).trans rfl; have hcz50_2 : w47.cell? ⟨B6, 2, none⟩ = some (.int .i64 0) := (blk_cell B7.out 2).trans rfl; have hfz50_0 := blk_frozen B7.out 0; have hfz50_1 := blk_frozen B7.out 1; have hfz50_2 := blk_frozen B7.out 2; have hcz51_0 : w47.cell? ⟨A3, 0, none⟩ = some (.string A7) := (blk_cell A0.out 0).trans rfl; have hcz51_1 : w47.cell? ⟨A3, 1, none⟩ = some (.int .i64 A5) := (blk_cell A0.out 1).trans rfl; have hcz51_2 : w47.cell? ⟨A3, 2, none⟩ = some (.int .i64 A4) := (blk_cell A0.out 2).trans rfl; have hfz51_0 := blk_frozen A0.out 0; have hfz51_1 := blk_frozen A0.out 1; have hfz51_2 := blk_frozen A0.out 2) | ((with_reducible refine gate_callee (f := 16) rfl ?_); refine goesL_ (some 84) rfl rfl Try.func16 (by kernel_rfl) rfl #[.pointer (some ⟨g178, 0, none⟩)] rfl (by (try simp only [List.map_toArray, List.map_cons, List.map_nil]); first | done | rfl) ?_; (with_reducible refine (wire_Reader_Int.calls k2 g178 Ai Ah Aj t204 t205 t206 t207 w _ ?side1 ?side2 A42.out).mono ?_); (case side1 => repeat (first | (with_reducible first | exact A2.out | apply b9_ | apply c1_ | apply c2_ | refine c3_ ?_ Aa.out _ | refine c3_ ?_ C0.out _) | exact A2.out)); (case side2 => repeat (first | (with_reducible first | exact HB.out | apply b4_ | apply b5_ | apply b6_ | refine b7_ ?_ (b8_ A2.out) | refine b7_ ?_ Ag.out | refine b7_ ?_ C3.out) | exact HB.out)); rintro e w52 ⟨rfl, hi, hb, hk⟩; refine ⟨_, rfl, ?_⟩; have n0_ := Aside0.mk (KeepBut.blk hk (g' := A3) (o := .cells #[.string t199, .int .i64 t200, .int .i64 t201] 42 (0, 0)) (by (with_reducible repeat first | apply b1_ | apply b2_ | apply b3_); refine blk_put (cs := #[.string t199, .int .i64 t200, .int .i64 A4]) ?_ 2 _ rfl; (with_reducible repeat first | apply b1_ | apply b2_ | apply b3_); refine blk_put (cs := #[.string t199, .int .i64 A5, .int .i64 A4]) ?_ 1 _ rfl; (with_reducible repeat first | apply b1_ | apply b2_ | apply b3_); refine blk_put (cs := #[.string A7, .int .i64 A5, .int .i64 A4]) ?_ 0 _ rfl; (with_reducible repeat first | apply b1_ | apply b2_ | apply b3_); refine blk_far ?_ Bf.out _; (with_reducible repeat first | apply b1_ | apply b2_ | apply b3_); refine blk_far ?_ Bf.out _; (with_reducible repeat first | apply b1_ | apply b2_ | apply b3_); refine blk_far ?_ Bf.out _; (with_reducible repeat first | apply b1_ | apply b2_ | apply b3_); exact A0.out) Au.out (by simp)); have n1_ := Aside0.mk (KeepBut.blk hk (g' := B6) (o := .cells #[.string t199, .int .i64 t200, .int .i64 t201] 42 (0, 0)) (by (with_reducible repeat first | apply b1_ | apply b2_ | apply b3_); refine blk_far ?_ Bd.out _; (with_reducible repeat first | apply b1_ | apply b2_ | apply b3_); refine blk_far ?_ Bd.out _; (with_reducible repeat first | apply b1_ | apply b2_ | apply b3_); refine blk_far ?_ Bd.out _; (with_reducible repeat first | apply b1_ | apply b2_ | apply b3_); refine blk_put (cs := #[.string t199, .int .i64 t200, .int .i64 0]) ?_ 2 _ rfl; (with_reducible repeat first | apply b1_ | apply b2_ | apply b3_); refine blk_put (cs := #[.string t199, .int .i64 0, .int .i64 0]) ?_ 1 _ rfl; (with_reducible repeat first | apply b1_ | apply b2_ | apply b3_); refine blk_put (cs := #[.string (⟨#[]⟩ : ByteArray), .int .i64 0, .int .i64 0]) ?_ 0 _ rfl; (with_reducible repeat first | apply b1_ | apply b2_ | apply b3_); exact B7.out) C2.out (by simp)); have n2_ := Aside0.mk (hb); have n3_ := Aside0.mk (hi); clear A0; clear B7; clear HB; clear A2; have A0 := n0_; have B7 := n1_; have HB := n2_; have A2 := n3_; clear n0_ n1_ n2_ n3_; (try clear hb); (try clear hb2); (try clear hk); (try clear hi)))
            go_meet
            case rel => exact ⟨_, (t205), (t206), (t207), (t199), (t200), (t201), H', ⟨by have := HJ2.out; have := HK2.out; first | omega | exact Nat.le_refl _⟩, ⟨by (with_reducible repeat first | apply b1_ | apply b2_ | apply b3_); exact A0.out⟩, ⟨by repeat (first | (with_reducible first | exact A2.out | apply b9_ | apply c1_ | apply c2_ | refine c3_ ?_ Aa.out _ | refine c3_ ?_ C0.out _) | exact A2.out)⟩, ⟨by repeat (first | (with_reducible first | exact HB.out | apply b4_ | apply b5_ | apply b6_ | refine b7_ ?_ (b8_ A2.out) | refine b7_ ?_ Ag.out | refine b7_ ?_ C3.out) | exact HB.out)⟩⟩
           ·rw [if_neg c43] at H
            have c43b0 : (t204 == t202) = false := beq_eq_false_iff_ne.mpr c43
            have c43b1 : (t204 != t202) = true := bne_iff_ne.mpr c43
            obtain rfl := Option.some.inj H
            have hnb53 := Au.out
            have hnc53 := Aa.out
            have hcz54_0 : wr.cell? ⟨A3, 0, none⟩ = some (.string A7) := (blk_cell A0.out 0).trans rfl
            have hcz54_1 : wr.cell? ⟨A3, 1, none⟩ = some (.int .i64 A5) := (blk_cell A0.out 1).trans rfl
            have hcz54_2 : wr.cell? ⟨A3, 2, none⟩ = some (.int .i64 A4) := (blk_cell A0.out 2).trans rfl
            have hfz54_0 := blk_frozen A0.out 0
            have hfz54_1 := blk_frozen A0.out 1
            have hfz54_2 := blk_frozen A0.out 2
            go_wp2_with (first | ((with_reducible refine gate_callee (f := 23) rfl ?_); refine goesL_ (some 79) rfl rfl Try.func23 (by kernel_rfl) rfl #[.agg #[.string A7, .int .i64 A5, .int .i64 A4]] rfl (by (try simp only [List.map_toArray, List.map_cons, List.map_nil]); first | done | rfl) ?_; (with_reducible refine (mapmakerref02_Int.calls k2 A7 A5 A4 t199 t200 t201 t202 _ A41.out).mono ?_); rintro e w55 ⟨rfl, hb⟩; refine ⟨_, rfl, ?_⟩; have n0_ := Aside0.mk (blk_below (g := A3) (o := .cells #[.string A7, .int .i64 A5, .int .i64 A4] 42 (0, 0)) (by (with_reducible repeat first | apply b1_ | apply b2_ | apply b3_); exact A0.out) hb); have n1_ := Aside0.mk (IsS59.below (by repeat (first | (with_reducible first | exact A2.out | apply b9_ | apply c1_ | apply c2_ | refine c3_ ?_ Aa.out _) | exact A2.out)) hb); have n2_ := Aside0.mk (below_step (by repeat (first | (with_reducible first | exact HB.out | apply b4_ | apply b5_ | apply b6_ | refine b7_ ?_ (b8_ A2.out) | refine b7_ ?_ Ag.out) | exact HB.out)) hb); clear A0; clear A2; clear HB; have A0 := n0_; have A2 := n1_; have HB := n2_; clear n0_ n1_ n2_; (try clear hb); (try clear hb2); (try clear hk); (try clear hi)) | ((with_reducible refine gate_dst (N := 10) rfl ?_); (try (refine gate_guard (by rfl) ?_; dsimp only)); refine box_event ?hg (N := 10) ?hd (cs := #[.string (⟨#[]⟩ : ByteArray), .int .i64 0, .int .i64 0]) (t := 42) ?hr ?_; (case hd => rfl); (case hg => rfl); (case hr => first | (go_simp; done) | (go_simp; rfl)); intro B6 hg w56 hbox hb; have n0_ := Aside0.mk (blk_below (g := A3) (o := .cells #[.string A7, .int .i64 A5, .int .i64 A4] 42 (0, 0)) (by (with_reducible repeat first | apply b1_ | apply b2_ | apply b3_); exact A0.out) hb); have n1_ := Aside0.mk (IsS59.below (by repeat (first | (with_reducible first | exact A2.out | apply b9_ | apply c1_ | apply c2_ | refine c3_ ?_ Aa.out _) | exact A2.out)) hb); have n2_ := Aside0.mk (below_step (by repeat (first | (with_reducible first | exact HB.out | apply b4_ | apply b5_ | apply b6_ | refine b7_ ?_ (b8_ A2.out) | refine b7_ ?_ Ag.out) | exact HB.out)) hb); have n3_ := Aside0.mk (hbox); have n4_ := Aside0.mk ((by rw [hg]; exact (below_size (by repeat (first | (with_reducible first | exact HB.out | apply b4_ | apply b5_ | apply b6_ | refine b7_ ?_ (b8_ A2.out) | refine b7_ ?_ Ag.out) | exact HB.out))) : w.heap.size ≤ B6)); have n5_ := Aside0.mk ((by rw [hg]; exact (below_size (by repeat (first | (with_reducible first | exact HB.out | apply b4_ | apply b5_ | apply b6_ | refine b7_ ?_ (b8_ A2.out) | refine b7_ ?_ Ag.out) | exact HB.out))) : w.heap.size ≤ B6)); have n6_ := Aside0.mk ((by rw [hg]; exact Nat.ne_of_lt (blk_lt (g := A3) (o := .cells #[.string A7, .int .i64 A5, .int .i64 A4] 42 (0, 0)) (by (with_reducible repeat first | apply b1_ | apply b2_ | apply b3_); exact A0.out)) : A3 ≠ B6)); have n7_ := Aside0.mk ((by rw [hg]; exact Nat.ne_of_gt (blk_lt (g := A3) (o := .cells #[.string A7, .int .i64 A5, .int .i64 A4] 42 (0, 0)) (by (with_reducible repeat first | apply b1_ | apply b2_ | apply b3_); exact A0.out)) : B6 ≠ A3)); have n8_ := Aside0.mk ((by rw [hg]; exact Nat.ne_of_lt (IsS59.lt (show IsS59 w _ g178 Ai Ah Aj from by repeat (first | (with_reducible first | exact A2.out | apply b9_ | apply c1_ | apply c2_ | refine c3_ ?_ Aa.out _) | exact A2.out))) : g178 ≠ B6)); have n9_ := Aside0.mk ((by rw [hg]; exact Nat.ne_of_gt (IsS59.lt (show IsS59 w _ g178 Ai Ah Aj from by repeat (first | (with_reducible first | exact A2.out | apply b9_ | apply c1_ | apply c2_ | refine c3_ ?_ Aa.out _) | exact A2.out))) : B6 ≠ g178)); clear A0; clear A2; clear HB; have A0 := n0_; have A2 := n1_; have HB := n2_; have B7 := n3_; have C8 := n4_; have C3 := n5_; have Bf := n6_; have Bd := n7_; have C0 := n8_; have C2 := n9_; clear n0_ n1_ n2_ n3_ n4_ n5_ n6_ n7_ n8_ n9_; clear hb hbox hg; have hnb57 := Bd.out; have hnc57 := Bf.out; have hnb58 := C2.out; have hnc58 := C0.out; have hcz59_0 : w56.cell? ⟨B6, 0, none⟩ = some (.string (⟨#[]⟩ : ByteArray)) := (blk_cell B7.out 0).trans rfl; have hcz59_1 : w56.cell? ⟨B6, 1, none⟩ = some (.int .i64 0) := (blk_cell B7.out 1).trans rfl; have hcz59_2 : w56.cell? ⟨B6, 2, none⟩ = some (.int .i64 0) := (blk_cell B7.out 2).trans rfl; have hfz59_0 := blk_frozen B7.out 0; have hfz59_1 := blk_frozen B7.out 1; have hfz59_2 := blk_frozen B7.out 2; have hcz60_0 : w56.cell? ⟨A3, 0, none⟩ = some (.string A7) := (blk_cell A0.out 0).trans rfl; have hcz60_1 : w56.cell? ⟨A3, 1, none⟩ = some (.int .i64 A5) := (blk_cell A0.out 1).trans rfl; have hcz60_2 : w56.cell? ⟨A3, 2, none⟩ = some (.int .i64 A4) := (blk_cell A0.out 2).trans rfl; have hfz60_0 := blk_frozen A0.out 0; have hfz60_1 := blk_frozen A0.out 1; have hfz60_2 := blk_frozen A0.out 2) | ((with_reducible refine gate_callee (f := 16) rfl ?_); refine goesL_ (some 84) rfl rfl Try.func16 (by kernel_rfl) rfl #[.pointer (some ⟨g178, 0, none⟩)] rfl (by (try simp only [List.map_toArray, List.map_cons, List.map_nil]); first | done | rfl) ?_; (with_reducible refine (wire_Reader_Int.calls k2 g178 Ai Ah Aj t204 t205 t206 t207 w _ ?side1 ?side2 A42.out).mono ?_); (case side1 => repeat (first | (with_reducible first | exact A2.out | apply b9_ | apply c1_ | apply c2_ | refine c3_ ?_ Aa.out _ | refine c3_ ?_ C0.out _) | exact A2.out)); (case side2 => repeat (first | (with_reducible first | exact HB.out | apply b4_ | apply b5_ | apply b6_ | refine b7_ ?_ (b8_ A2.out) | refine b7_ ?_ Ag.out | refine b7_ ?_ C3.out) | exact HB.out)); rintro e w61 ⟨rfl, hi, hb, hk⟩; refine ⟨_, rfl, ?_⟩; have n0_ := Aside0.mk (KeepBut.blk hk (g' := A3) (o := .cells #[.string t199, .int .i64 t200, .int .i64 t201] 42 (0, 0)) (by (with_reducible repeat first | apply b1_ | apply b2_ | apply b3_); refine blk_put (cs := #[.string t199, .int .i64 t200, .int .i64 A4]) ?_ 2 _ rfl; (with_reducible repeat first | apply b1_ | apply b2_ | apply b3_); refine blk_put (cs := #[.string t199, .int .i64 A5, .int .i64 A4]) ?_ 1 _ rfl; (with_reducible repeat first | apply b1_ | apply b2_ | apply b3_); refine blk_put (cs := #[.string A7, .int .i64 A5, .int .i64 A4]) ?_ 0 _ rfl; (with_reducible repeat first | apply b1_ | apply b2_ | apply b3_); refine blk_far ?_ Bf.out _; (with_reducible repeat first | apply b1_ | apply b2_ | apply b3_); refine blk_far ?_ Bf.out _; (with_reducible repeat first | apply b1_ | apply b2_ | apply b3_); refine blk_far ?_ Bf.out _; (with_reducible repeat first | apply b1_ | apply b2_ | apply b3_); exact A0.out) Au.out (by simp)); have n1_ := Aside0.mk (KeepBut.blk hk (g' := B6) (o := .cells #[.string t199, .int .i64 t200, .int .i64 t201] 42 (0, 0)) (by (with_reducible repeat first | apply b1_ | apply b2_ | apply b3_); refine blk_far ?_ Bd.out _; (with_reducible repeat first | apply b1_ | apply b2_ | apply b3_); refine blk_far ?_ Bd.out _; (with_reducible repeat first | apply b1_ | apply b2_ | apply b3_); refine blk_far ?_ Bd.out _; (with_reducible repeat first | apply b1_ | apply b2_ | apply b3_); refine blk_put (cs := #[.string t199, .int .i64 t200, .int .i64 0]) ?_ 2 _ rfl; (with_reducible repeat first | apply b1_ | apply b2_ | apply b3_); refine blk_put (cs := #[.string t199, .int .i64 0, .int .i64 0]) ?_ 1 _ rfl; (with_reducible repeat first | apply b1_ | apply b2_ | apply b3_); refine blk_put (cs := #[.string (⟨#[]⟩ : ByteArray), .int .i64 0, .int .i64 0]) ?_ 0 _ rfl; (with_reducible repeat first | apply b1_ | apply b2_ | apply b3_); exact B7.out) C2.out (by simp)); have n2_ := Aside0.mk (hb); have n3_ := Aside0.mk (hi); clear A0; clear B7; clear HB; clear A2; have A0 := n0_; have B7 := n1_; have HB := n2_; have A2 := n3_; clear n0_ n1_ n2_ n3_; (try clear hb); (try clear hb2); (try clear hk); (try clear hi)))
            go_ret
            exact ⟨by first | rfl | (simp [errW_none, errW_some] <;> rfl) | (simp [*, errW_none, errW_some] <;> rfl), by repeat (first | (with_reducible first | exact HB.out | apply b4_ | apply b5_ | apply b6_ | refine b7_ ?_ (b8_ A2.out) | refine b7_ ?_ Ag.out | refine b7_ ?_ C3.out) | exact HB.out)⟩
          ·rw [if_neg c40] at H
           have c40b0 : ((Int.tmod ((rd_T45 l1 x7_2).f0) 4) == 1) = false := beq_eq_false_iff_ne.mpr c40
           have c40b1 : ((Int.tmod ((rd_T45 l1 x7_2).f0) 4) != 1) = true := bne_iff_ne.mpr c40
           by_cases c62 : (Int.tmod ((rd_T45 l1 x7_2).f0) 4) = 2
           ·rw [if_pos c62] at H
            have c62b0 : ((Int.tmod ((rd_T45 l1 x7_2).f0) 4) == 2) = true := beq_iff_eq.mpr c62
            have c62b1 : ((Int.tmod ((rd_T45 l1 x7_2).f0) 4) != 2) = false := bne_eq_false_iff_eq.mpr c62
            clear c62
            replace H := Option.bind_eq_some_iff.mp H
            obtain ⟨⟨t209, t210, t211, t212⟩, A630, H⟩ := H
            replace H : ((wire_Reader_Count.f k2 Ai Ah Aj ((rd_T45 l1 x7_2).f1)).bind fun bt215 => (if bt215.1 = t212 then (mapmakerlaw02_WireReads.j2 k2 l1 x7_2 bt215.2.1 bt215.2.2.1 bt215.2.2.2 t209 t210 t211) else (some false))) = some r := H
            have A63 := Aside0.mk A630
            clear A630
            replace H := Option.bind_eq_some_iff.mp H
            obtain ⟨⟨t215, t216, t217, t218⟩, A640, H⟩ := H
            replace H : (if t215 = t212 then (mapmakerlaw02_WireReads.j2 k2 l1 x7_2 t216 t217 t218 t209 t210 t211) else (some false)) = some r := H
            have A64 := Aside0.mk A640
            clear A640
            by_cases c65 : t215 = t212
            ·rw [if_pos c65] at H
             have c65b0 : (t215 == t212) = true := beq_iff_eq.mpr c65
             have c65b1 : (t215 != t212) = false := bne_eq_false_iff_eq.mpr c65
             clear c65
             have H' := Aside0.mk H
             clear H
             try go_wp2
             have n0_ := Aside0.mk (b2_ A0.out)
             have n1_ := Aside0.mk (c2_ A2.out)
             have n2_ := Aside0.mk (b6_ HB.out)
             clear A0
             clear A2
             clear HB
             have A0 := n0_
             have A2 := n1_
             have HB := n2_
             clear n0_ n1_ n2_
             have p208 : 0 ≤ (x7_2 : Int) := of_decide_eq_true (by first | (with_reducible assumption) | assumption)
             have q208 : x7_2 < (l1.length : Int) := of_decide_eq_true (by first | (with_reducible assumption) | assumption)
             obtain ⟨ad208, e208, Bu, Bh⟩ := at_T45 HR1.out x7_2 p208 q208
             have Ao := Bh
             have An := Bu
             obtain rfl : ad189 = ad208 := (by injection e208)
             replace Bu := (HB.out.cell (c4_ w _ Bu)).trans Bu
             replace Bh := (HB.out.cell (c4_ w _ Bh)).trans Bh
             replace p208 := eq_true p208
             replace q208 := eq_true q208
             refine start_ (n := 13) (S := fun w' => w'.cell? ⟨A3, 0, none⟩ = some (.string A7) ∧ w'.cell? ⟨A3, 1, none⟩ = some (.int .i64 A5) ∧ w'.cell? ⟨A3, 2, none⟩ = some (.int .i64 A4) ∧ w'.cell? (ad189.add ((x7_2).toNat * 2)) = some (.int .u8 ((rd_T45 l1 x7_2).f0)) ∧ w'.cell? ⟨(ad189.add ((x7_2).toNat * 2)).block, (ad189.add ((x7_2).toNat * 2)).off + 1, none⟩ = some (.int .i64 ((rd_T45 l1 x7_2).f1))) (ds := []) d0_ (by kernel_rfl) rfl rfl ⟨(blk_cell A0.out 0).trans rfl, (blk_cell A0.out 1).trans rfl, (blk_cell A0.out 2).trans rfl, ((HB.out.cell (c4_ w _ An)).trans An), ((HB.out.cell (c4_ w _ Ao)).trans Ao)⟩ (fun hHeld => ?_); refine with_tabW mapmakerlaw02_WireReads.tab25 mapmakerlaw02_WireReads.bits25 (fun HT_ HW_ => ?_)
             generalize wr.drew = w66 at A0 A2 HB Bu Bh hHeld ⊢
             refine pure_ (i := 1) (N := some 91) (v := ?_) (a' := ?_) d1_ rfl rfl (any_of HT_.out (by kernel_rfl)) (fun _ _ _ h => h) (Or.inl ⟨by rfl, ?_⟩) ?_ ?_
             rotate_left
             ·intro w'
              go_simp
              with_reducible rfl
             rotate_left
             ·simp only [Act.put, n9, i64_w, i32_w]
              rfl
             refine pure_ (i := 2) (N := some 92) (v := ?_) (a' := ?_) d2_ rfl rfl (any_of HT_.out (by kernel_rfl)) (fun _ _ _ h => h) (Or.inl ⟨by rfl, ?_⟩) ?_ ?_
             rotate_left
             ·intro w'
              go_simp
              with_reducible rfl
             rotate_left
             ·simp only [Act.put, n9, i64_w, i32_w]
              rfl
             refine pure_ (i := 3) (N := some 93) (v := ?_) (a' := ?_) d3_ rfl rfl (any_of HT_.out (by kernel_rfl)) (fun _ _ _ h => h) (Or.inl ⟨by rfl, ?_⟩) ?_ ?_
             rotate_left
             ·intro w'
              go_simp
              with_reducible rfl
             rotate_left
             ·simp only [Act.put, n9, i64_w, i32_w]
              rfl
             refine pure_ (i := 4) (N := some 94) (v := ?_) (a' := ?_) d4_ rfl rfl (any_of HT_.out (by kernel_rfl)) (fun _ _ _ h => h) (Or.inl ⟨by rfl, ?_⟩) ?_ ?_
             rotate_left
             ·intro w'
              go_simp
              with_reducible rfl
             rotate_left
             ·simp only [Act.put, n9, i64_w, i32_w]
              rfl
             refine take_ (i := 0) (N := some 90) (v := ?_) (a' := ?_) d5_ rfl rfl (take_ofW HT_.out HW_.out (by kernel_rfl)) (fun _ _ _ h => h) (Or.inl ⟨by rfl, ?_⟩) hHeld ?_ ?_
             rotate_left
             ·rintro w' ⟨s0, s1, s2, s3, s4⟩
              go_simp
              with_reducible rfl
             rotate_left
             ·simp only [Act.put, n9, i64_w, i32_w]
              rfl
             refine take_ (i := 5) (N := some 95) (v := ?_) (a' := ?_) d6_ rfl rfl (take_ofW HT_.out HW_.out (by kernel_rfl)) (fun _ _ _ h => h) (Or.inl ⟨by rfl, ?_⟩) hHeld ?_ ?_
             rotate_left
             ·rintro w' ⟨s0, s1, s2, s3, s4⟩
              go_simp
              with_reducible rfl
             rotate_left
             ·simp only [Act.put, n9, i64_w, i32_w]
              rfl
             refine join_ (σ := Nat) 2 d7_ (fun s_ => [(96, .tuple #[.agg #[.string t209, .int .i64 t210, .int .i64 t211], .int .i64 t212]), (12, .pointer (some ⟨s_, 0, none⟩)), (89, .tuple #[.agg #[.string t209, .int .i64 t210, .int .i64 t211], .int .i64 t212]), (97, .agg #[.string t209, .int .i64 t210, .int .i64 t211]), (98, .int .i64 t212)]) (fun s_ w' => (w'.cell? ⟨A3, 0, none⟩ = some (.string A7) ∧ w'.cell? ⟨A3, 1, none⟩ = some (.int .i64 A5) ∧ w'.cell? ⟨A3, 2, none⟩ = some (.int .i64 A4) ∧ w'.cell? (ad189.add ((x7_2).toNat * 2)) = some (.int .u8 ((rd_T45 l1 x7_2).f0)) ∧ w'.cell? ⟨(ad189.add ((x7_2).toNat * 2)).block, (ad189.add ((x7_2).toNat * 2)).off + 1, none⟩ = some (.int .i64 ((rd_T45 l1 x7_2).f1))) ∧ (w'.heap[A3]? = some (.cells #[.string A7, .int .i64 A5, .int .i64 A4] 42 (0, 0))) ∧ (w'.heap[s_]? = some (.cells #[.string (⟨#[]⟩ : ByteArray), .int .i64 0, .int .i64 0] 42 (0, 0))) ∧ (w.heap.size ≤ s_) ∧ (w.heap.size ≤ s_) ∧ (g178 ≠ s_) ∧ (s_ ≠ g178) ∧ (A3 ≠ s_) ∧ (s_ ≠ A3) ∧ (IsS59 w w' g178 Ai Ah Aj) ∧ (Below w.heap.size w w')) ?_ ?_
             rotate_left
             ·intro hCont
              refine two_ (i := 6) (j := 10) (Ni := some 96) (Nj := some 12) d8_ d9_ rfl rfl rfl rfl (two_of HT_.out (by kernel_rfl)) (by decide) (by decide) (fun K hK => ?_) (fun K hK => ?_)
              ·skip
               refine goes_ Try.func24 (by kernel_rfl) rfl #[.agg #[.string A7, .int .i64 A5, .int .i64 A4], .int .i64 ((rd_T45 l1 x7_2).f1)] (by rfl) rfl rfl (by (try simp only [List.map_toArray, List.map_cons, List.map_nil]); first | done | rfl) ?_
               with_reducible refine (mapmakerref02_Count.calls k2 A7 A5 A4 ((rd_T45 l1 x7_2).f1) t209 t210 t211 t212 _ A63.out).mono ?_
               rintro e w67 ⟨rfl, hb⟩
               refine ⟨_, rfl, ?_⟩
               have n0_ := Aside0.mk (blk_below (g := A3) (o := .cells #[.string A7, .int .i64 A5, .int .i64 A4] 42 (0, 0)) (by (with_reducible repeat first | apply b1_ | apply b2_ | apply b3_); exact A0.out) hb)
               have n1_ := Aside0.mk (IsS59.below (by repeat (first | (with_reducible first | exact A2.out | apply b9_ | apply c1_ | apply c2_ | refine c3_ ?_ Aa.out _) | exact A2.out)) hb)
               have n2_ := Aside0.mk (below_step (by repeat (first | (with_reducible first | exact HB.out | apply b4_ | apply b5_ | apply b6_ | refine b7_ ?_ (b8_ A2.out) | refine b7_ ?_ Ag.out) | exact HB.out)) hb)
               clear A0
               clear A2
               clear HB
               have A0 := n0_
               have A2 := n1_
               have HB := n2_
               clear n0_ n1_ n2_
               (try clear hb)
               (try clear hb2)
               (try clear hk)
               (try clear hi)
               refine hK.out _ _ ⟨(blk_cell A0.out 0).trans rfl, (blk_cell A0.out 1).trans rfl, (blk_cell A0.out 2).trans rfl, ((HB.out.cell (c4_ w _ An)).trans An), ((HB.out.cell (c4_ w _ Ao)).trans Ao)⟩ (fun hHeld => ?_)
               clear hK K
               refine norm_ (a' := ?_) ?_ ?_
               rotate_left
               ·show Act.put _ (some 96) _ = _
                simp only [Act.put, n9, i64_w, i32_w]
                rfl
               refine pure_ (i := 7) (N := some 89) (v := ?_) (a' := ?_) d10_ rfl rfl (any_of HT_.out (by kernel_rfl)) (fun _ _ _ h => h) (Or.inl ⟨by rfl, ?_⟩) ?_ ?_
               rotate_left
               ·intro w'
                go_simp
                with_reducible rfl
               rotate_left
               ·simp only [Act.put, n9, i64_w, i32_w]
                rfl
               refine pure_ (i := 8) (N := some 97) (v := ?_) (a' := ?_) d11_ rfl rfl (any_of HT_.out (by kernel_rfl)) (fun _ _ _ h => h) (Or.inl ⟨by rfl, ?_⟩) ?_ ?_
               rotate_left
               ·intro w'
                go_simp
                with_reducible rfl
               rotate_left
               ·simp only [Act.put, n9, i64_w, i32_w]
                rfl
               refine pure_ (i := 9) (N := some 98) (v := ?_) (a' := ?_) d12_ rfl rfl (any_of HT_.out (by kernel_rfl)) (fun _ _ _ h => h) (Or.inl ⟨by rfl, ?_⟩) ?_ ?_
               rotate_left
               ·intro w'
                go_simp
                with_reducible rfl
               rotate_left
               ·simp only [Act.put, n9, i64_w, i32_w]
                rfl
               refine one_ (i := 10) (N := some 12) d7_ rfl rfl (one_of HT_.out (by kernel_rfl)) (by decide) (fun K hK => ?_)
               refine box_step ?hg (N := 12) ?hd (cs := #[.string (⟨#[]⟩ : ByteArray), .int .i64 0, .int .i64 0]) (t := 42) ?hr ?_; (case hd => rfl); (case hg => rfl); (case hr => first | (go_simp; done) | (go_simp; rfl))
               intro Af hg w68 hbox hb
               have n0_ := Aside0.mk (blk_below (g := A3) (o := .cells #[.string A7, .int .i64 A5, .int .i64 A4] 42 (0, 0)) (by (with_reducible repeat first | apply b1_ | apply b2_ | apply b3_); exact A0.out) hb)
               have n1_ := Aside0.mk (IsS59.below (by repeat (first | (with_reducible first | exact A2.out | apply b9_ | apply c1_ | apply c2_ | refine c3_ ?_ Aa.out _) | exact A2.out)) hb)
               have n2_ := Aside0.mk (below_step (by repeat (first | (with_reducible first | exact HB.out | apply b4_ | apply b5_ | apply b6_ | refine b7_ ?_ (b8_ A2.out) | refine b7_ ?_ Ag.out) | exact HB.out)) hb)
               have n3_ := Aside0.mk (hbox)
               have n4_ := Aside0.mk ((by rw [hg]; exact (below_size (by repeat (first | (with_reducible first | exact HB.out | apply b4_ | apply b5_ | apply b6_ | refine b7_ ?_ (b8_ A2.out) | refine b7_ ?_ Ag.out) | exact HB.out))) : w.heap.size ≤ Af))
               have n5_ := Aside0.mk ((by rw [hg]; exact (below_size (by repeat (first | (with_reducible first | exact HB.out | apply b4_ | apply b5_ | apply b6_ | refine b7_ ?_ (b8_ A2.out) | refine b7_ ?_ Ag.out) | exact HB.out))) : w.heap.size ≤ Af))
               have n6_ := Aside0.mk ((by rw [hg]; exact Nat.ne_of_lt (blk_lt (g := A3) (o := .cells #[.string A7, .int .i64 A5, .int .i64 A4] 42 (0, 0)) (by (with_reducible repeat first | apply b1_ | apply b2_ | apply b3_); exact A0.out)) : A3 ≠ Af))
               have n7_ := Aside0.mk ((by rw [hg]; exact Nat.ne_of_gt (blk_lt (g := A3) (o := .cells #[.string A7, .int .i64 A5, .int .i64 A4] 42 (0, 0)) (by (with_reducible repeat first | apply b1_ | apply b2_ | apply b3_); exact A0.out)) : Af ≠ A3))
               have n8_ := Aside0.mk ((by rw [hg]; exact Nat.ne_of_lt (IsS59.lt (show IsS59 w _ g178 Ai Ah Aj from by repeat (first | (with_reducible first | exact A2.out | apply b9_ | apply c1_ | apply c2_ | refine c3_ ?_ Aa.out _) | exact A2.out))) : g178 ≠ Af))
               have n9_ := Aside0.mk ((by rw [hg]; exact Nat.ne_of_gt (IsS59.lt (show IsS59 w _ g178 Ai Ah Aj from by repeat (first | (with_reducible first | exact A2.out | apply b9_ | apply c1_ | apply c2_ | refine c3_ ?_ Aa.out _) | exact A2.out))) : Af ≠ g178))
               clear A0
               clear A2
               clear HB
               have A0 := n0_
               have A2 := n1_
               have HB := n2_
               have Aw := n3_
               have Aq := n4_
               have Ba := n5_
               have Al := n6_
               have Az := n7_
               have B1 := n8_
               have B4 := n9_
               clear n0_ n1_ n2_ n3_ n4_ n5_ n6_ n7_ n8_ n9_
               clear hb hbox hg
               refine hK.out _ _ ⟨(blk_cell A0.out 0).trans rfl, (blk_cell A0.out 1).trans rfl, (blk_cell A0.out 2).trans rfl, ((HB.out.cell (c4_ w _ An)).trans An), ((HB.out.cell (c4_ w _ Ao)).trans Ao)⟩ (fun hHeld => ?_)
               clear hK K
               refine norm_ (a' := ?_) ?_ ?_
               rotate_left
               ·show Act.put _ (some 12) _ = _
                simp only [Act.put, n9, i64_w, i32_w]
                rfl
               exact norm_ (by simp only [putAll, Act.put, n9]) (hCont (Af) _ ⟨hHeld, (by (with_reducible repeat first | apply b1_ | apply b2_ | apply b3_); exact A0.out), (by (with_reducible repeat first | apply b1_ | apply b2_ | apply b3_); exact Aw.out), Aq.out, Ba.out, B1.out, B4.out, Al.out, Az.out, (by repeat (first | (with_reducible first | exact A2.out | apply b9_ | apply c1_ | apply c2_ | refine c3_ ?_ Aa.out _ | refine c3_ ?_ B1.out _) | exact A2.out)), (by repeat (first | (with_reducible first | exact HB.out | apply b4_ | apply b5_ | apply b6_ | refine b7_ ?_ (b8_ A2.out) | refine b7_ ?_ Ag.out | refine b7_ ?_ Ba.out) | exact HB.out))⟩)
              ·skip
               refine box_step ?hg (N := 12) ?hd (cs := #[.string (⟨#[]⟩ : ByteArray), .int .i64 0, .int .i64 0]) (t := 42) ?hr ?_; (case hd => rfl); (case hg => rfl); (case hr => first | (go_simp; done) | (go_simp; rfl))
               intro Af hg w67 hbox hb
               have n0_ := Aside0.mk (blk_below (g := A3) (o := .cells #[.string A7, .int .i64 A5, .int .i64 A4] 42 (0, 0)) (by (with_reducible repeat first | apply b1_ | apply b2_ | apply b3_); exact A0.out) hb)
               have n1_ := Aside0.mk (IsS59.below (by repeat (first | (with_reducible first | exact A2.out | apply b9_ | apply c1_ | apply c2_ | refine c3_ ?_ Aa.out _) | exact A2.out)) hb)
               have n2_ := Aside0.mk (below_step (by repeat (first | (with_reducible first | exact HB.out | apply b4_ | apply b5_ | apply b6_ | refine b7_ ?_ (b8_ A2.out) | refine b7_ ?_ Ag.out) | exact HB.out)) hb)
               have n3_ := Aside0.mk (hbox)
               have n4_ := Aside0.mk ((by rw [hg]; exact (below_size (by repeat (first | (with_reducible first | exact HB.out | apply b4_ | apply b5_ | apply b6_ | refine b7_ ?_ (b8_ A2.out) | refine b7_ ?_ Ag.out) | exact HB.out))) : w.heap.size ≤ Af))
               have n5_ := Aside0.mk ((by rw [hg]; exact (below_size (by repeat (first | (with_reducible first | exact HB.out | apply b4_ | apply b5_ | apply b6_ | refine b7_ ?_ (b8_ A2.out) | refine b7_ ?_ Ag.out) | exact HB.out))) : w.heap.size ≤ Af))
               have n6_ := Aside0.mk ((by rw [hg]; exact Nat.ne_of_lt (blk_lt (g := A3) (o := .cells #[.string A7, .int .i64 A5, .int .i64 A4] 42 (0, 0)) (by (with_reducible repeat first | apply b1_ | apply b2_ | apply b3_); exact A0.out)) : A3 ≠ Af))
               have n7_ := Aside0.mk ((by rw [hg]; exact Nat.ne_of_gt (blk_lt (g := A3) (o := .cells #[.string A7, .int .i64 A5, .int .i64 A4] 42 (0, 0)) (by (with_reducible repeat first | apply b1_ | apply b2_ | apply b3_); exact A0.out)) : Af ≠ A3))
               have n8_ := Aside0.mk ((by rw [hg]; exact Nat.ne_of_lt (IsS59.lt (show IsS59 w _ g178 Ai Ah Aj from by repeat (first | (with_reducible first | exact A2.out | apply b9_ | apply c1_ | apply c2_ | refine c3_ ?_ Aa.out _) | exact A2.out))) : g178 ≠ Af))
               have n9_ := Aside0.mk ((by rw [hg]; exact Nat.ne_of_gt (IsS59.lt (show IsS59 w _ g178 Ai Ah Aj from by repeat (first | (with_reducible first | exact A2.out | apply b9_ | apply c1_ | apply c2_ | refine c3_ ?_ Aa.out _) | exact A2.out))) : Af ≠ g178))
               clear A0
               clear A2
               clear HB
               have A0 := n0_
               have A2 := n1_
               have HB := n2_
               have Aw := n3_
               have Aq := n4_
               have Ba := n5_
               have Al := n6_
               have Az := n7_
               have B1 := n8_
               have B4 := n9_
               clear n0_ n1_ n2_ n3_ n4_ n5_ n6_ n7_ n8_ n9_
               clear hb hbox hg
               refine hK.out _ _ ⟨(blk_cell A0.out 0).trans rfl, (blk_cell A0.out 1).trans rfl, (blk_cell A0.out 2).trans rfl, ((HB.out.cell (c4_ w _ An)).trans An), ((HB.out.cell (c4_ w _ Ao)).trans Ao)⟩ (fun hHeld => ?_)
               clear hK K
               refine norm_ (a' := ?_) ?_ ?_
               rotate_left
               ·show Act.put _ (some 12) _ = _
                simp only [Act.put, n9, i64_w, i32_w]
                rfl
               refine one_ (i := 6) (N := some 96) d13_ rfl rfl (one_of HT_.out (by kernel_rfl)) (by decide) (fun K hK => ?_)
               refine goes_ Try.func24 (by kernel_rfl) rfl #[.agg #[.string A7, .int .i64 A5, .int .i64 A4], .int .i64 ((rd_T45 l1 x7_2).f1)] (by rfl) rfl rfl (by (try simp only [List.map_toArray, List.map_cons, List.map_nil]); first | done | rfl) ?_
               with_reducible refine (mapmakerref02_Count.calls k2 A7 A5 A4 ((rd_T45 l1 x7_2).f1) t209 t210 t211 t212 _ A63.out).mono ?_
               rintro e w68 ⟨rfl, hb⟩
               refine ⟨_, rfl, ?_⟩
               have n0_ := Aside0.mk (blk_below (g := A3) (o := .cells #[.string A7, .int .i64 A5, .int .i64 A4] 42 (0, 0)) (by (with_reducible repeat first | apply b1_ | apply b2_ | apply b3_); exact A0.out) hb)
               have n1_ := Aside0.mk (IsS59.below (by repeat (first | (with_reducible first | exact A2.out | apply b9_ | apply c1_ | apply c2_ | refine c3_ ?_ Aa.out _ | refine c3_ ?_ B1.out _) | exact A2.out)) hb)
               have n2_ := Aside0.mk (blk_below (g := Af) (o := .cells #[.string (⟨#[]⟩ : ByteArray), .int .i64 0, .int .i64 0] 42 (0, 0)) (by (with_reducible repeat first | apply b1_ | apply b2_ | apply b3_); exact Aw.out) hb)
               have n3_ := Aside0.mk (below_step (by repeat (first | (with_reducible first | exact HB.out | apply b4_ | apply b5_ | apply b6_ | refine b7_ ?_ (b8_ A2.out) | refine b7_ ?_ Ag.out | refine b7_ ?_ Ba.out) | exact HB.out)) hb)
               clear A0
               clear A2
               clear Aw
               clear HB
               have A0 := n0_
               have A2 := n1_
               have Aw := n2_
               have HB := n3_
               clear n0_ n1_ n2_ n3_
               (try clear hb)
               (try clear hb2)
               (try clear hk)
               (try clear hi)
               refine hK.out _ _ ⟨(blk_cell A0.out 0).trans rfl, (blk_cell A0.out 1).trans rfl, (blk_cell A0.out 2).trans rfl, ((HB.out.cell (c4_ w _ An)).trans An), ((HB.out.cell (c4_ w _ Ao)).trans Ao)⟩ (fun hHeld => ?_)
               clear hK K
               refine norm_ (a' := ?_) ?_ ?_
               rotate_left
               ·show Act.put _ (some 96) _ = _
                simp only [Act.put, n9, i64_w, i32_w]
                rfl
               refine pure_ (i := 7) (N := some 89) (v := ?_) (a' := ?_) d14_ rfl rfl (any_of HT_.out (by kernel_rfl)) (fun _ _ _ h => h) (Or.inl ⟨by rfl, ?_⟩) ?_ ?_
               rotate_left
               ·intro w'
                go_simp
                with_reducible rfl
               rotate_left
               ·simp only [Act.put, n9, i64_w, i32_w]
                rfl
               refine pure_ (i := 8) (N := some 97) (v := ?_) (a' := ?_) d15_ rfl rfl (any_of HT_.out (by kernel_rfl)) (fun _ _ _ h => h) (Or.inl ⟨by rfl, ?_⟩) ?_ ?_
               rotate_left
               ·intro w'
                go_simp
                with_reducible rfl
               rotate_left
               ·simp only [Act.put, n9, i64_w, i32_w]
                rfl
               refine pure_ (i := 9) (N := some 98) (v := ?_) (a' := ?_) d7_ rfl rfl (any_of HT_.out (by kernel_rfl)) (fun _ _ _ h => h) (Or.inl ⟨by rfl, ?_⟩) ?_ ?_
               rotate_left
               ·intro w'
                go_simp
                with_reducible rfl
               rotate_left
               ·simp only [Act.put, n9, i64_w, i32_w]
                rfl
               exact norm_ (by simp only [putAll, Act.put, n9]) (hCont (Af) _ ⟨hHeld, (by (with_reducible repeat first | apply b1_ | apply b2_ | apply b3_); exact A0.out), (by (with_reducible repeat first | apply b1_ | apply b2_ | apply b3_); exact Aw.out), Aq.out, Ba.out, B1.out, B4.out, Al.out, Az.out, (by repeat (first | (with_reducible first | exact A2.out | apply b9_ | apply c1_ | apply c2_ | refine c3_ ?_ Aa.out _ | refine c3_ ?_ B1.out _) | exact A2.out)), (by repeat (first | (with_reducible first | exact HB.out | apply b4_ | apply b5_ | apply b6_ | refine b7_ ?_ (b8_ A2.out) | refine b7_ ?_ Ag.out | refine b7_ ?_ Ba.out) | exact HB.out))⟩)
             rintro Af w69 ⟨hS_, h0_, h1_, h2_, h3_, h4_, h5_, h6_, h7_, h8_, h9_⟩
             have n0_ : Aside0 (w69.heap[A3]? = some (.cells #[.string A7, .int .i64 A5, .int .i64 A4] 42 (0, 0))) := ⟨h0_⟩
             have n1_ : Aside0 (w69.heap[Af]? = some (.cells #[.string (⟨#[]⟩ : ByteArray), .int .i64 0, .int .i64 0] 42 (0, 0))) := ⟨h1_⟩
             have n2_ : Aside0 (w.heap.size ≤ Af) := ⟨h2_⟩
             have n3_ : Aside0 (w.heap.size ≤ Af) := ⟨h3_⟩
             have n4_ : Aside0 (g178 ≠ Af) := ⟨h4_⟩
             have n5_ : Aside0 (Af ≠ g178) := ⟨h5_⟩
             have n6_ : Aside0 (A3 ≠ Af) := ⟨h6_⟩
             have n7_ : Aside0 (Af ≠ A3) := ⟨h7_⟩
             have n8_ : Aside0 (IsS59 w w69 g178 Ai Ah Aj) := ⟨h8_⟩
             have n9_ : Aside0 (Below w.heap.size w w69) := ⟨h9_⟩
             clear A0
             clear A2
             clear HB
             clear h0_ h1_ h2_ h3_ h4_ h5_ h6_ h7_ h8_ h9_
             have A0 := n0_
             have Aw := n1_
             have Aq := n2_
             have Ba := n3_
             have B1 := n4_
             have B4 := n5_
             have Al := n6_
             have Az := n7_
             have A2 := n8_
             have HB := n9_
             clear n0_ n1_ n2_ n3_ n4_ n5_ n6_ n7_ n8_ n9_
             have hHeld : w69.cell? ⟨A3, 0, none⟩ = some (.string A7) ∧ w69.cell? ⟨A3, 1, none⟩ = some (.int .i64 A5) ∧ w69.cell? ⟨A3, 2, none⟩ = some (.int .i64 A4) ∧ w69.cell? (ad189.add ((x7_2).toNat * 2)) = some (.int .u8 ((rd_T45 l1 x7_2).f0)) ∧ w69.cell? ⟨(ad189.add ((x7_2).toNat * 2)).block, (ad189.add ((x7_2).toNat * 2)).off + 1, none⟩ = some (.int .i64 ((rd_T45 l1 x7_2).f1)) := hS_
             refine norm_ (a' := ?_) ?_ ?_
             rotate_left
             ·simp only [putAll, Act.put, n9]
              rfl
             refine one_ (i := 11) (N := none) d16_ rfl rfl (one_of HT_.out (by kernel_rfl)) (by decide) (fun K hK => ?_)
             have hs70 : w69.cell? ⟨Af, 0, none⟩ = some (.string (⟨#[]⟩ : ByteArray)) := (blk_cell Aw.out 0).trans rfl
             have hfs70 := blk_frozen Aw.out 0
             have hns70_0 := Al.out
             have hms70_0 := Az.out
             have hs71 : w69.cell? ⟨Af, 1, none⟩ = some (.int .i64 0) := (blk_cell Aw.out 1).trans rfl
             have hfs71 := blk_frozen Aw.out 1
             have hns71_0 := Al.out
             have hms71_0 := Az.out
             have hs72 : w69.cell? ⟨Af, 2, none⟩ = some (.int .i64 0) := (blk_cell Aw.out 2).trans rfl
             have hfs72 := blk_frozen Aw.out 2
             have hns72_0 := Al.out
             have hms72_0 := Az.out
             refine skip_ (w1 := ?_) (by rfl) rfl ?_ ?_
             rotate_left
             ·go_simp
              rfl
             refine hK.out _ _ ⟨((cell_far (p := ⟨Af, _, none⟩) Al.out _).trans (((cell_far (p := ⟨Af, _, none⟩) Al.out _).trans (((cell_far (p := ⟨Af, _, none⟩) Al.out _).trans (hHeld.1)))))), ((cell_far (p := ⟨Af, _, none⟩) Al.out _).trans (((cell_far (p := ⟨Af, _, none⟩) Al.out _).trans (((cell_far (p := ⟨Af, _, none⟩) Al.out _).trans (hHeld.2.1)))))), ((cell_far (p := ⟨Af, _, none⟩) Al.out _).trans (((cell_far (p := ⟨Af, _, none⟩) Al.out _).trans (((cell_far (p := ⟨Af, _, none⟩) Al.out _).trans (hHeld.2.2.1)))))), ((cell_far (p := ⟨Af, _, none⟩) (by first | exact Nat.ne_of_lt (c5_ (by have := c4_ _ _ An; first | rwa [add_block] at this | exact this) Aq.out) | (rw [add_block]; exact Nat.ne_of_lt (c5_ (by have := c4_ _ _ An; first | rwa [add_block] at this | exact this) Aq.out)) | (show (Addr.add _ _).block ≠ _; rw [add_block]; exact Nat.ne_of_lt (c5_ (by have := c4_ _ _ An; first | rwa [add_block] at this | exact this) Aq.out)) | (dsimp only; exact Nat.ne_of_lt (c5_ (by have := c4_ _ _ An; first | rwa [add_block] at this | exact this) Aq.out))) _).trans (((cell_far (p := ⟨Af, _, none⟩) (by first | exact Nat.ne_of_lt (c5_ (by have := c4_ _ _ An; first | rwa [add_block] at this | exact this) Aq.out) | (rw [add_block]; exact Nat.ne_of_lt (c5_ (by have := c4_ _ _ An; first | rwa [add_block] at this | exact this) Aq.out)) | (show (Addr.add _ _).block ≠ _; rw [add_block]; exact Nat.ne_of_lt (c5_ (by have := c4_ _ _ An; first | rwa [add_block] at this | exact this) Aq.out)) | (dsimp only; exact Nat.ne_of_lt (c5_ (by have := c4_ _ _ An; first | rwa [add_block] at this | exact this) Aq.out))) _).trans (((cell_far (p := ⟨Af, _, none⟩) (by first | exact Nat.ne_of_lt (c5_ (by have := c4_ _ _ An; first | rwa [add_block] at this | exact this) Aq.out) | (rw [add_block]; exact Nat.ne_of_lt (c5_ (by have := c4_ _ _ An; first | rwa [add_block] at this | exact this) Aq.out)) | (show (Addr.add _ _).block ≠ _; rw [add_block]; exact Nat.ne_of_lt (c5_ (by have := c4_ _ _ An; first | rwa [add_block] at this | exact this) Aq.out)) | (dsimp only; exact Nat.ne_of_lt (c5_ (by have := c4_ _ _ An; first | rwa [add_block] at this | exact this) Aq.out))) _).trans (hHeld.2.2.2.1)))))), ((cell_far (p := ⟨Af, _, none⟩) (by first | exact Nat.ne_of_lt (c5_ (by have := c4_ _ _ Ao; first | rwa [add_block] at this | exact this) Aq.out) | (rw [add_block]; exact Nat.ne_of_lt (c5_ (by have := c4_ _ _ Ao; first | rwa [add_block] at this | exact this) Aq.out)) | (show (Addr.add _ _).block ≠ _; rw [add_block]; exact Nat.ne_of_lt (c5_ (by have := c4_ _ _ Ao; first | rwa [add_block] at this | exact this) Aq.out)) | (dsimp only; exact Nat.ne_of_lt (c5_ (by have := c4_ _ _ Ao; first | rwa [add_block] at this | exact this) Aq.out))) _).trans (((cell_far (p := ⟨Af, _, none⟩) (by first | exact Nat.ne_of_lt (c5_ (by have := c4_ _ _ Ao; first | rwa [add_block] at this | exact this) Aq.out) | (rw [add_block]; exact Nat.ne_of_lt (c5_ (by have := c4_ _ _ Ao; first | rwa [add_block] at this | exact this) Aq.out)) | (show (Addr.add _ _).block ≠ _; rw [add_block]; exact Nat.ne_of_lt (c5_ (by have := c4_ _ _ Ao; first | rwa [add_block] at this | exact this) Aq.out)) | (dsimp only; exact Nat.ne_of_lt (c5_ (by have := c4_ _ _ Ao; first | rwa [add_block] at this | exact this) Aq.out))) _).trans (((cell_far (p := ⟨Af, _, none⟩) (by first | exact Nat.ne_of_lt (c5_ (by have := c4_ _ _ Ao; first | rwa [add_block] at this | exact this) Aq.out) | (rw [add_block]; exact Nat.ne_of_lt (c5_ (by have := c4_ _ _ Ao; first | rwa [add_block] at this | exact this) Aq.out)) | (show (Addr.add _ _).block ≠ _; rw [add_block]; exact Nat.ne_of_lt (c5_ (by have := c4_ _ _ Ao; first | rwa [add_block] at this | exact this) Aq.out)) | (dsimp only; exact Nat.ne_of_lt (c5_ (by have := c4_ _ _ Ao; first | rwa [add_block] at this | exact this) Aq.out))) _).trans (hHeld.2.2.2.2))))))⟩ (fun hHeld => ?_)
             clear hK K
             refine pure_ (i := 12) (N := some 13) (v := ?_) (a' := ?_) d17_ rfl rfl (any_of HT_.out (by kernel_rfl)) (fun _ _ _ h => h) (Or.inl ⟨by rfl, ?_⟩) ?_ ?_
             rotate_left
             ·intro w'
              go_simp
              with_reducible rfl
             rotate_left
             ·simp only [Act.put, n9, i64_w, i32_w]
              rfl
             refine done_ (done_of HT_.out (by kernel_rfl)) ?_
             have hnb73 := Az.out
             have hnc73 := Al.out
             have hnb74 := B4.out
             have hnc74 := B1.out
             have hcz75_0 : w69.cell? ⟨Af, 0, none⟩ = some (.string (⟨#[]⟩ : ByteArray)) := (blk_cell Aw.out 0).trans rfl
             have hcz75_1 : w69.cell? ⟨Af, 1, none⟩ = some (.int .i64 0) := (blk_cell Aw.out 1).trans rfl
             have hcz75_2 : w69.cell? ⟨Af, 2, none⟩ = some (.int .i64 0) := (blk_cell Aw.out 2).trans rfl
             have hfz75_0 := blk_frozen Aw.out 0
             have hfz75_1 := blk_frozen Aw.out 1
             have hfz75_2 := blk_frozen Aw.out 2
             have hnb76 := Au.out
             have hnc76 := Aa.out
             have hcz77_0 : w69.cell? ⟨A3, 0, none⟩ = some (.string A7) := (blk_cell A0.out 0).trans rfl
             have hcz77_1 : w69.cell? ⟨A3, 1, none⟩ = some (.int .i64 A5) := (blk_cell A0.out 1).trans rfl
             have hcz77_2 : w69.cell? ⟨A3, 2, none⟩ = some (.int .i64 A4) := (blk_cell A0.out 2).trans rfl
             have hfz77_0 := blk_frozen A0.out 0
             have hfz77_1 := blk_frozen A0.out 1
             have hfz77_2 := blk_frozen A0.out 2
             have p214 : 0 ≤ (x7_2 : Int) := of_decide_eq_true (by first | (with_reducible assumption) | assumption)
             have q214 : x7_2 < (l1.length : Int) := of_decide_eq_true (by first | (with_reducible assumption) | assumption)
             obtain ⟨ad214, e214, At, Ay⟩ := at_T45 HR1.out x7_2 p214 q214
             obtain rfl : ad189 = ad214 := (by injection e214)
             have Bo : ad189.block ≠ Af := Nat.ne_of_lt (c5_ (by have := c4_ _ _ At; first | rwa [add_block] at this | exact this) Aq.out)
             have Br : ad189.block ≠ Af := Nat.ne_of_lt (c5_ (by have := c4_ _ _ At; first | rwa [add_block] at this | exact this) Aq.out)
             have Bj : ad189.block ≠ Af := Nat.ne_of_lt (c5_ (by have := c4_ _ _ At; first | rwa [add_block] at this | exact this) Aq.out)
             have Bs : ad189.block ≠ A3 := Nat.ne_of_lt (c5_ (by have := c4_ _ _ At; first | rwa [add_block] at this | exact this) By.out)
             have Bk : ad189.block ≠ A3 := Nat.ne_of_lt (c5_ (by have := c4_ _ _ At; first | rwa [add_block] at this | exact this) By.out)
             have Bp : ad189.block ≠ A3 := Nat.ne_of_lt (c5_ (by have := c4_ _ _ At; first | rwa [add_block] at this | exact this) By.out)
             replace At := (HB.out.cell (c4_ w _ At)).trans At
             replace Ay := (HB.out.cell (c4_ w _ Ay)).trans Ay
             replace At := (cell_far (p := ⟨Af, 0, none⟩) (by first | exact Bo | (rw [add_block]; exact Bo)) (.string t209)).trans At
             replace Ay := (cell_far (p := ⟨Af, 0, none⟩) (by first | exact Bo | (rw [add_block]; exact Bo)) (.string t209)).trans Ay
             replace At := (cell_far (p := ⟨Af, 1, none⟩) (by first | exact Br | (rw [add_block]; exact Br)) (.int .i64 t210)).trans At
             replace Ay := (cell_far (p := ⟨Af, 1, none⟩) (by first | exact Br | (rw [add_block]; exact Br)) (.int .i64 t210)).trans Ay
             replace At := (cell_far (p := ⟨Af, 2, none⟩) (by first | exact Bj | (rw [add_block]; exact Bj)) (.int .i64 t211)).trans At
             replace Ay := (cell_far (p := ⟨Af, 2, none⟩) (by first | exact Bj | (rw [add_block]; exact Bj)) (.int .i64 t211)).trans Ay
             replace At := (cell_far (p := ⟨A3, 0, none⟩) (by first | exact Bs | (rw [add_block]; exact Bs)) (.string t209)).trans At
             replace Ay := (cell_far (p := ⟨A3, 0, none⟩) (by first | exact Bs | (rw [add_block]; exact Bs)) (.string t209)).trans Ay
             replace At := (cell_far (p := ⟨A3, 1, none⟩) (by first | exact Bk | (rw [add_block]; exact Bk)) (.int .i64 t210)).trans At
             replace Ay := (cell_far (p := ⟨A3, 1, none⟩) (by first | exact Bk | (rw [add_block]; exact Bk)) (.int .i64 t210)).trans Ay
             replace At := (cell_far (p := ⟨A3, 2, none⟩) (by first | exact Bp | (rw [add_block]; exact Bp)) (.int .i64 t211)).trans At
             replace Ay := (cell_far (p := ⟨A3, 2, none⟩) (by first | exact Bp | (rw [add_block]; exact Bp)) (.int .i64 t211)).trans Ay
             clear Bo
             clear Br
             clear Bj
             clear Bs
             clear Bk
             clear Bp
             replace p214 := eq_true p214
             replace q214 := eq_true q214
             try go_wp2_with (first | ((with_reducible refine gate_callee (f := 25) rfl ?_); refine goesL_ (some 106) rfl rfl Try.func25 (by kernel_rfl) rfl #[.pointer (some ⟨g178, 0, none⟩), .int .i64 ((rd_T45 l1 x7_2).f1)] rfl (by (try simp only [List.map_toArray, List.map_cons, List.map_nil]); first | done | rfl) ?_; (with_reducible refine (wire_Reader_Count.calls k2 g178 Ai Ah Aj ((rd_T45 l1 x7_2).f1) t215 t216 t217 t218 w _ ?side1 ?side2 A64.out).mono ?_); (case side1 => repeat (first | (with_reducible first | exact A2.out | apply b9_ | apply c1_ | apply c2_ | refine c3_ ?_ Aa.out _ | refine c3_ ?_ B1.out _) | exact A2.out)); (case side2 => repeat (first | (with_reducible first | exact HB.out | apply b4_ | apply b5_ | apply b6_ | refine b7_ ?_ (b8_ A2.out) | refine b7_ ?_ Ag.out | refine b7_ ?_ Ba.out) | exact HB.out)); rintro e w78 ⟨rfl, hi, hb, hk⟩; refine ⟨_, rfl, ?_⟩; have n0_ := Aside0.mk (KeepBut.blk hk (g' := A3) (o := .cells #[.string t209, .int .i64 t210, .int .i64 t211] 42 (0, 0)) (by (with_reducible repeat first | apply b1_ | apply b2_ | apply b3_); refine blk_put (cs := #[.string t209, .int .i64 t210, .int .i64 A4]) ?_ 2 _ rfl; (with_reducible repeat first | apply b1_ | apply b2_ | apply b3_); refine blk_put (cs := #[.string t209, .int .i64 A5, .int .i64 A4]) ?_ 1 _ rfl; (with_reducible repeat first | apply b1_ | apply b2_ | apply b3_); refine blk_put (cs := #[.string A7, .int .i64 A5, .int .i64 A4]) ?_ 0 _ rfl; (with_reducible repeat first | apply b1_ | apply b2_ | apply b3_); refine blk_far ?_ Al.out _; (with_reducible repeat first | apply b1_ | apply b2_ | apply b3_); refine blk_far ?_ Al.out _; (with_reducible repeat first | apply b1_ | apply b2_ | apply b3_); refine blk_far ?_ Al.out _; (with_reducible repeat first | apply b1_ | apply b2_ | apply b3_); exact A0.out) Au.out (by simp)); have n1_ := Aside0.mk (KeepBut.blk hk (g' := Af) (o := .cells #[.string t209, .int .i64 t210, .int .i64 t211] 42 (0, 0)) (by (with_reducible repeat first | apply b1_ | apply b2_ | apply b3_); refine blk_far ?_ Az.out _; (with_reducible repeat first | apply b1_ | apply b2_ | apply b3_); refine blk_far ?_ Az.out _; (with_reducible repeat first | apply b1_ | apply b2_ | apply b3_); refine blk_far ?_ Az.out _; (with_reducible repeat first | apply b1_ | apply b2_ | apply b3_); refine blk_put (cs := #[.string t209, .int .i64 t210, .int .i64 0]) ?_ 2 _ rfl; (with_reducible repeat first | apply b1_ | apply b2_ | apply b3_); refine blk_put (cs := #[.string t209, .int .i64 0, .int .i64 0]) ?_ 1 _ rfl; (with_reducible repeat first | apply b1_ | apply b2_ | apply b3_); refine blk_put (cs := #[.string (⟨#[]⟩ : ByteArray), .int .i64 0, .int .i64 0]) ?_ 0 _ rfl; (with_reducible repeat first | apply b1_ | apply b2_ | apply b3_); exact Aw.out) B4.out (by simp)); have n2_ := Aside0.mk (hb); have n3_ := Aside0.mk (hi); clear A0; clear Aw; clear HB; clear A2; have A0 := n0_; have Aw := n1_; have HB := n2_; have A2 := n3_; clear n0_ n1_ n2_ n3_; (try clear hb); (try clear hb2); (try clear hk); (try clear hi)))
             go_meet
             case rel => exact ⟨_, (t216), (t217), (t218), (t209), (t210), (t211), H', ⟨by have := HJ2.out; have := HK2.out; first | omega | exact Nat.le_refl _⟩, ⟨by (with_reducible repeat first | apply b1_ | apply b2_ | apply b3_); exact A0.out⟩, ⟨by repeat (first | (with_reducible first | exact A2.out | apply b9_ | apply c1_ | apply c2_ | refine c3_ ?_ Aa.out _ | refine c3_ ?_ B1.out _) | exact A2.out)⟩, ⟨by repeat (first | (with_reducible first | exact HB.out | apply b4_ | apply b5_ | apply b6_ | refine b7_ ?_ (b8_ A2.out) | refine b7_ ?_ Ag.out | refine b7_ ?_ Ba.out) | exact HB.out)⟩⟩
            ·rw [if_neg c65] at H
             have c65b0 : (t215 == t212) = false := beq_eq_false_iff_ne.mpr c65
             have c65b1 : (t215 != t212) = true := bne_iff_ne.mpr c65
             obtain rfl := Option.some.inj H
             try go_wp2
             have n0_ := Aside0.mk (b2_ A0.out)
             have n1_ := Aside0.mk (c2_ A2.out)
             have n2_ := Aside0.mk (b6_ HB.out)
             clear A0
             clear A2
             clear HB
             have A0 := n0_
             have A2 := n1_
             have HB := n2_
             clear n0_ n1_ n2_
             have p208 : 0 ≤ (x7_2 : Int) := of_decide_eq_true (by first | (with_reducible assumption) | assumption)
             have q208 : x7_2 < (l1.length : Int) := of_decide_eq_true (by first | (with_reducible assumption) | assumption)
             obtain ⟨ad208, e208, Bu, Bh⟩ := at_T45 HR1.out x7_2 p208 q208
             have Ao := Bh
             have An := Bu
             obtain rfl : ad189 = ad208 := (by injection e208)
             replace Bu := (HB.out.cell (c4_ w _ Bu)).trans Bu
             replace Bh := (HB.out.cell (c4_ w _ Bh)).trans Bh
             replace p208 := eq_true p208
             replace q208 := eq_true q208
             refine start_ (n := 13) (S := fun w' => w'.cell? ⟨A3, 0, none⟩ = some (.string A7) ∧ w'.cell? ⟨A3, 1, none⟩ = some (.int .i64 A5) ∧ w'.cell? ⟨A3, 2, none⟩ = some (.int .i64 A4) ∧ w'.cell? (ad189.add ((x7_2).toNat * 2)) = some (.int .u8 ((rd_T45 l1 x7_2).f0)) ∧ w'.cell? ⟨(ad189.add ((x7_2).toNat * 2)).block, (ad189.add ((x7_2).toNat * 2)).off + 1, none⟩ = some (.int .i64 ((rd_T45 l1 x7_2).f1))) (ds := []) d0_ (by kernel_rfl) rfl rfl ⟨(blk_cell A0.out 0).trans rfl, (blk_cell A0.out 1).trans rfl, (blk_cell A0.out 2).trans rfl, ((HB.out.cell (c4_ w _ An)).trans An), ((HB.out.cell (c4_ w _ Ao)).trans Ao)⟩ (fun hHeld => ?_); refine with_tabW mapmakerlaw02_WireReads.tab25 mapmakerlaw02_WireReads.bits25 (fun HT_ HW_ => ?_)
             generalize wr.drew = w79 at A0 A2 HB Bu Bh hHeld ⊢
             refine pure_ (i := 1) (N := some 91) (v := ?_) (a' := ?_) d1_ rfl rfl (any_of HT_.out (by kernel_rfl)) (fun _ _ _ h => h) (Or.inl ⟨by rfl, ?_⟩) ?_ ?_
             rotate_left
             ·intro w'
              go_simp
              with_reducible rfl
             rotate_left
             ·simp only [Act.put, n9, i64_w, i32_w]
              rfl
             refine pure_ (i := 2) (N := some 92) (v := ?_) (a' := ?_) d2_ rfl rfl (any_of HT_.out (by kernel_rfl)) (fun _ _ _ h => h) (Or.inl ⟨by rfl, ?_⟩) ?_ ?_
             rotate_left
             ·intro w'
              go_simp
              with_reducible rfl
             rotate_left
             ·simp only [Act.put, n9, i64_w, i32_w]
              rfl
             refine pure_ (i := 3) (N := some 93) (v := ?_) (a' := ?_) d3_ rfl rfl (any_of HT_.out (by kernel_rfl)) (fun _ _ _ h => h) (Or.inl ⟨by rfl, ?_⟩) ?_ ?_
             rotate_left
             ·intro w'
              go_simp
              with_reducible rfl
             rotate_left
             ·simp only [Act.put, n9, i64_w, i32_w]
              rfl
             refine pure_ (i := 4) (N := some 94) (v := ?_) (a' := ?_) d4_ rfl rfl (any_of HT_.out (by kernel_rfl)) (fun _ _ _ h => h) (Or.inl ⟨by rfl, ?_⟩) ?_ ?_
             rotate_left
             ·intro w'
              go_simp
              with_reducible rfl
             rotate_left
             ·simp only [Act.put, n9, i64_w, i32_w]
              rfl
             refine take_ (i := 0) (N := some 90) (v := ?_) (a' := ?_) d5_ rfl rfl (take_ofW HT_.out HW_.out (by kernel_rfl)) (fun _ _ _ h => h) (Or.inl ⟨by rfl, ?_⟩) hHeld ?_ ?_
             rotate_left
             ·rintro w' ⟨s0, s1, s2, s3, s4⟩
              go_simp
              with_reducible rfl
             rotate_left
             ·simp only [Act.put, n9, i64_w, i32_w]
              rfl
             refine take_ (i := 5) (N := some 95) (v := ?_) (a' := ?_) d6_ rfl rfl (take_ofW HT_.out HW_.out (by kernel_rfl)) (fun _ _ _ h => h) (Or.inl ⟨by rfl, ?_⟩) hHeld ?_ ?_
             rotate_left
             ·rintro w' ⟨s0, s1, s2, s3, s4⟩
              go_simp
              with_reducible rfl
             rotate_left
             ·simp only [Act.put, n9, i64_w, i32_w]
              rfl
             refine join_ (σ := Nat) 2 d7_ (fun s_ => [(96, .tuple #[.agg #[.string t209, .int .i64 t210, .int .i64 t211], .int .i64 t212]), (12, .pointer (some ⟨s_, 0, none⟩)), (89, .tuple #[.agg #[.string t209, .int .i64 t210, .int .i64 t211], .int .i64 t212]), (97, .agg #[.string t209, .int .i64 t210, .int .i64 t211]), (98, .int .i64 t212)]) (fun s_ w' => (w'.cell? ⟨A3, 0, none⟩ = some (.string A7) ∧ w'.cell? ⟨A3, 1, none⟩ = some (.int .i64 A5) ∧ w'.cell? ⟨A3, 2, none⟩ = some (.int .i64 A4) ∧ w'.cell? (ad189.add ((x7_2).toNat * 2)) = some (.int .u8 ((rd_T45 l1 x7_2).f0)) ∧ w'.cell? ⟨(ad189.add ((x7_2).toNat * 2)).block, (ad189.add ((x7_2).toNat * 2)).off + 1, none⟩ = some (.int .i64 ((rd_T45 l1 x7_2).f1))) ∧ (w'.heap[A3]? = some (.cells #[.string A7, .int .i64 A5, .int .i64 A4] 42 (0, 0))) ∧ (w'.heap[s_]? = some (.cells #[.string (⟨#[]⟩ : ByteArray), .int .i64 0, .int .i64 0] 42 (0, 0))) ∧ (w.heap.size ≤ s_) ∧ (w.heap.size ≤ s_) ∧ (g178 ≠ s_) ∧ (s_ ≠ g178) ∧ (A3 ≠ s_) ∧ (s_ ≠ A3) ∧ (IsS59 w w' g178 Ai Ah Aj) ∧ (Below w.heap.size w w')) ?_ ?_
             rotate_left
             ·intro hCont
              refine two_ (i := 6) (j := 10) (Ni := some 96) (Nj := some 12) d8_ d9_ rfl rfl rfl rfl (two_of HT_.out (by kernel_rfl)) (by decide) (by decide) (fun K hK => ?_) (fun K hK => ?_)
              ·skip
               refine goes_ Try.func24 (by kernel_rfl) rfl #[.agg #[.string A7, .int .i64 A5, .int .i64 A4], .int .i64 ((rd_T45 l1 x7_2).f1)] (by rfl) rfl rfl (by (try simp only [List.map_toArray, List.map_cons, List.map_nil]); first | done | rfl) ?_
               with_reducible refine (mapmakerref02_Count.calls k2 A7 A5 A4 ((rd_T45 l1 x7_2).f1) t209 t210 t211 t212 _ A63.out).mono ?_
               rintro e w80 ⟨rfl, hb⟩
               refine ⟨_, rfl, ?_⟩
               have n0_ := Aside0.mk (blk_below (g := A3) (o := .cells #[.string A7, .int .i64 A5, .int .i64 A4] 42 (0, 0)) (by (with_reducible repeat first | apply b1_ | apply b2_ | apply b3_); exact A0.out) hb)
               have n1_ := Aside0.mk (IsS59.below (by repeat (first | (with_reducible first | exact A2.out | apply b9_ | apply c1_ | apply c2_ | refine c3_ ?_ Aa.out _) | exact A2.out)) hb)
               have n2_ := Aside0.mk (below_step (by repeat (first | (with_reducible first | exact HB.out | apply b4_ | apply b5_ | apply b6_ | refine b7_ ?_ (b8_ A2.out) | refine b7_ ?_ Ag.out) | exact HB.out)) hb)
               clear A0
               clear A2
               clear HB
               have A0 := n0_
               have A2 := n1_
               have HB := n2_
               clear n0_ n1_ n2_
               (try clear hb)
               (try clear hb2)
               (try clear hk)
               (try clear hi)
               refine hK.out _ _ ⟨(blk_cell A0.out 0).trans rfl, (blk_cell A0.out 1).trans rfl, (blk_cell A0.out 2).trans rfl, ((HB.out.cell (c4_ w _ An)).trans An), ((HB.out.cell (c4_ w _ Ao)).trans Ao)⟩ (fun hHeld => ?_)
               clear hK K
               refine norm_ (a' := ?_) ?_ ?_
               rotate_left
               ·show Act.put _ (some 96) _ = _
                simp only [Act.put, n9, i64_w, i32_w]
                rfl
               refine pure_ (i := 7) (N := some 89) (v := ?_) (a' := ?_) d10_ rfl rfl (any_of HT_.out (by kernel_rfl)) (fun _ _ _ h => h) (Or.inl ⟨by rfl, ?_⟩) ?_ ?_
               rotate_left
               ·intro w'
                go_simp
                with_reducible rfl
               rotate_left
               ·simp only [Act.put, n9, i64_w, i32_w]
                rfl
               refine pure_ (i := 8) (N := some 97) (v := ?_) (a' := ?_) d11_ rfl rfl (any_of HT_.out (by kernel_rfl)) (fun _ _ _ h => h) (Or.inl ⟨by rfl, ?_⟩) ?_ ?_
               rotate_left
               ·intro w'
                go_simp
                with_reducible rfl
               rotate_left
               ·simp only [Act.put, n9, i64_w, i32_w]
                rfl
               refine pure_ (i := 9) (N := some 98) (v := ?_) (a' := ?_) d12_ rfl rfl (any_of HT_.out (by kernel_rfl)) (fun _ _ _ h => h) (Or.inl ⟨by rfl, ?_⟩) ?_ ?_
               rotate_left
               ·intro w'
                go_simp
                with_reducible rfl
               rotate_left
               ·simp only [Act.put, n9, i64_w, i32_w]
                rfl
               refine one_ (i := 10) (N := some 12) d7_ rfl rfl (one_of HT_.out (by kernel_rfl)) (by decide) (fun K hK => ?_)
               refine box_step ?hg (N := 12) ?hd (cs := #[.string (⟨#[]⟩ : ByteArray), .int .i64 0, .int .i64 0]) (t := 42) ?hr ?_; (case hd => rfl); (case hg => rfl); (case hr => first | (go_simp; done) | (go_simp; rfl))
               intro Af hg w81 hbox hb
               have n0_ := Aside0.mk (blk_below (g := A3) (o := .cells #[.string A7, .int .i64 A5, .int .i64 A4] 42 (0, 0)) (by (with_reducible repeat first | apply b1_ | apply b2_ | apply b3_); exact A0.out) hb)
               have n1_ := Aside0.mk (IsS59.below (by repeat (first | (with_reducible first | exact A2.out | apply b9_ | apply c1_ | apply c2_ | refine c3_ ?_ Aa.out _) | exact A2.out)) hb)
               have n2_ := Aside0.mk (below_step (by repeat (first | (with_reducible first | exact HB.out | apply b4_ | apply b5_ | apply b6_ | refine b7_ ?_ (b8_ A2.out) | refine b7_ ?_ Ag.out) | exact HB.out)) hb)
               have n3_ := Aside0.mk (hbox)
               have n4_ := Aside0.mk ((by rw [hg]; exact (below_size (by repeat (first | (with_reducible first | exact HB.out | apply b4_ | apply b5_ | apply b6_ | refine b7_ ?_ (b8_ A2.out) | refine b7_ ?_ Ag.out) | exact HB.out))) : w.heap.size ≤ Af))
               have n5_ := Aside0.mk ((by rw [hg]; exact (below_size (by repeat (first | (with_reducible first | exact HB.out | apply b4_ | apply b5_ | apply b6_ | refine b7_ ?_ (b8_ A2.out) | refine b7_ ?_ Ag.out) | exact HB.out))) : w.heap.size ≤ Af))
               have n6_ := Aside0.mk ((by rw [hg]; exact Nat.ne_of_lt (blk_lt (g := A3) (o := .cells #[.string A7, .int .i64 A5, .int .i64 A4] 42 (0, 0)) (by (with_reducible repeat first | apply b1_ | apply b2_ | apply b3_); exact A0.out)) : A3 ≠ Af))
               have n7_ := Aside0.mk ((by rw [hg]; exact Nat.ne_of_gt (blk_lt (g := A3) (o := .cells #[.string A7, .int .i64 A5, .int .i64 A4] 42 (0, 0)) (by (with_reducible repeat first | apply b1_ | apply b2_ | apply b3_); exact A0.out)) : Af ≠ A3))
               have n8_ := Aside0.mk ((by rw [hg]; exact Nat.ne_of_lt (IsS59.lt (show IsS59 w _ g178 Ai Ah Aj from by repeat (first | (with_reducible first | exact A2.out | apply b9_ | apply c1_ | apply c2_ | refine c3_ ?_ Aa.out _) | exact A2.out))) : g178 ≠ Af))
               have n9_ := Aside0.mk ((by rw [hg]; exact Nat.ne_of_gt (IsS59.lt (show IsS59 w _ g178 Ai Ah Aj from by repeat (first | (with_reducible first | exact A2.out | apply b9_ | apply c1_ | apply c2_ | refine c3_ ?_ Aa.out _) | exact A2.out))) : Af ≠ g178))
               clear A0
               clear A2
               clear HB
               have A0 := n0_
               have A2 := n1_
               have HB := n2_
               have Aw := n3_
               have Aq := n4_
               have Ba := n5_
               have Al := n6_
               have Az := n7_
               have B1 := n8_
               have B4 := n9_
               clear n0_ n1_ n2_ n3_ n4_ n5_ n6_ n7_ n8_ n9_
               clear hb hbox hg
               refine hK.out _ _ ⟨(blk_cell A0.out 0).trans rfl, (blk_cell A0.out 1).trans rfl, (blk_cell A0.out 2).trans rfl, ((HB.out.cell (c4_ w _ An)).trans An), ((HB.out.cell (c4_ w _ Ao)).trans Ao)⟩ (fun hHeld => ?_)
               clear hK K
               refine norm_ (a' := ?_) ?_ ?_
               rotate_left
               ·show Act.put _ (some 12) _ = _
                simp only [Act.put, n9, i64_w, i32_w]
                rfl
               exact norm_ (by simp only [putAll, Act.put, n9]) (hCont (Af) _ ⟨hHeld, (by (with_reducible repeat first | apply b1_ | apply b2_ | apply b3_); exact A0.out), (by (with_reducible repeat first | apply b1_ | apply b2_ | apply b3_); exact Aw.out), Aq.out, Ba.out, B1.out, B4.out, Al.out, Az.out, (by repeat (first | (with_reducible first | exact A2.out | apply b9_ | apply c1_ | apply c2_ | refine c3_ ?_ Aa.out _ | refine c3_ ?_ B1.out _) | exact A2.out)), (by repeat (first | (with_reducible first | exact HB.out | apply b4_ | apply b5_ | apply b6_ | refine b7_ ?_ (b8_ A2.out) | refine b7_ ?_ Ag.out | refine b7_ ?_ Ba.out) | exact HB.out))⟩)
              ·skip
               refine box_step ?hg (N := 12) ?hd (cs := #[.string (⟨#[]⟩ : ByteArray), .int .i64 0, .int .i64 0]) (t := 42) ?hr ?_; (case hd => rfl); (case hg => rfl); (case hr => first | (go_simp; done) | (go_simp; rfl))
               intro Af hg w80 hbox hb
               have n0_ := Aside0.mk (blk_below (g := A3) (o := .cells #[.string A7, .int .i64 A5, .int .i64 A4] 42 (0, 0)) (by (with_reducible repeat first | apply b1_ | apply b2_ | apply b3_); exact A0.out) hb)
               have n1_ := Aside0.mk (IsS59.below (by repeat (first | (with_reducible first | exact A2.out | apply b9_ | apply c1_ | apply c2_ | refine c3_ ?_ Aa.out _) | exact A2.out)) hb)
               have n2_ := Aside0.mk (below_step (by repeat (first | (with_reducible first | exact HB.out | apply b4_ | apply b5_ | apply b6_ | refine b7_ ?_ (b8_ A2.out) | refine b7_ ?_ Ag.out) | exact HB.out)) hb)
               have n3_ := Aside0.mk (hbox)
               have n4_ := Aside0.mk ((by rw [hg]; exact (below_size (by repeat (first | (with_reducible first | exact HB.out | apply b4_ | apply b5_ | apply b6_ | refine b7_ ?_ (b8_ A2.out) | refine b7_ ?_ Ag.out) | exact HB.out))) : w.heap.size ≤ Af))
               have n5_ := Aside0.mk ((by rw [hg]; exact (below_size (by repeat (first | (with_reducible first | exact HB.out | apply b4_ | apply b5_ | apply b6_ | refine b7_ ?_ (b8_ A2.out) | refine b7_ ?_ Ag.out) | exact HB.out))) : w.heap.size ≤ Af))
               have n6_ := Aside0.mk ((by rw [hg]; exact Nat.ne_of_lt (blk_lt (g := A3) (o := .cells #[.string A7, .int .i64 A5, .int .i64 A4] 42 (0, 0)) (by (with_reducible repeat first | apply b1_ | apply b2_ | apply b3_); exact A0.out)) : A3 ≠ Af))
               have n7_ := Aside0.mk ((by rw [hg]; exact Nat.ne_of_gt (blk_lt (g := A3) (o := .cells #[.string A7, .int .i64 A5, .int .i64 A4] 42 (0, 0)) (by (with_reducible repeat first | apply b1_ | apply b2_ | apply b3_); exact A0.out)) : Af ≠ A3))
               have n8_ := Aside0.mk ((by rw [hg]; exact Nat.ne_of_lt (IsS59.lt (show IsS59 w _ g178 Ai Ah Aj from by repeat (first | (with_reducible first | exact A2.out | apply b9_ | apply c1_ | apply c2_ | refine c3_ ?_ Aa.out _) | exact A2.out))) : g178 ≠ Af))
               have n9_ := Aside0.mk ((by rw [hg]; exact Nat.ne_of_gt (IsS59.lt (show IsS59 w _ g178 Ai Ah Aj from by repeat (first | (with_reducible first | exact A2.out | apply b9_ | apply c1_ | apply c2_ | refine c3_ ?_ Aa.out _) | exact A2.out))) : Af ≠ g178))
               clear A0
               clear A2
               clear HB
               have A0 := n0_
               have A2 := n1_
               have HB := n2_
               have Aw := n3_
               have Aq := n4_
               have Ba := n5_
               have Al := n6_
               have Az := n7_
               have B1 := n8_
               have B4 := n9_
               clear n0_ n1_ n2_ n3_ n4_ n5_ n6_ n7_ n8_ n9_
               clear hb hbox hg
               refine hK.out _ _ ⟨(blk_cell A0.out 0).trans rfl, (blk_cell A0.out 1).trans rfl, (blk_cell A0.out 2).trans rfl, ((HB.out.cell (c4_ w _ An)).trans An), ((HB.out.cell (c4_ w _ Ao)).trans Ao)⟩ (fun hHeld => ?_)
               clear hK K
               refine norm_ (a' := ?_) ?_ ?_
               rotate_left
               ·show Act.put _ (some 12) _ = _
                simp only [Act.put, n9, i64_w, i32_w]
                rfl
               refine one_ (i := 6) (N := some 96) d13_ rfl rfl (one_of HT_.out (by kernel_rfl)) (by decide) (fun K hK => ?_)
               refine goes_ Try.func24 (by kernel_rfl) rfl #[.agg #[.string A7, .int .i64 A5, .int .i64 A4], .int .i64 ((rd_T45 l1 x7_2).f1)] (by rfl) rfl rfl (by (try simp only [List.map_toArray, List.map_cons, List.map_nil]); first | done | rfl) ?_
               with_reducible refine (mapmakerref02_Count.calls k2 A7 A5 A4 ((rd_T45 l1 x7_2).f1) t209 t210 t211 t212 _ A63.out).mono ?_
               rintro e w81 ⟨rfl, hb⟩
               refine ⟨_, rfl, ?_⟩
               have n0_ := Aside0.mk (blk_below (g := A3) (o := .cells #[.string A7, .int .i64 A5, .int .i64 A4] 42 (0, 0)) (by (with_reducible repeat first | apply b1_ | apply b2_ | apply b3_); exact A0.out) hb)
               have n1_ := Aside0.mk (IsS59.below (by repeat (first | (with_reducible first | exact A2.out | apply b9_ | apply c1_ | apply c2_ | refine c3_ ?_ Aa.out _ | refine c3_ ?_ B1.out _) | exact A2.out)) hb)
               have n2_ := Aside0.mk (blk_below (g := Af) (o := .cells #[.string (⟨#[]⟩ : ByteArray), .int .i64 0, .int .i64 0] 42 (0, 0)) (by (with_reducible repeat first | apply b1_ | apply b2_ | apply b3_); exact Aw.out) hb)
               have n3_ := Aside0.mk (below_step (by repeat (first | (with_reducible first | exact HB.out | apply b4_ | apply b5_ | apply b6_ | refine b7_ ?_ (b8_ A2.out) | refine b7_ ?_ Ag.out | refine b7_ ?_ Ba.out) | exact HB.out)) hb)
               clear A0
               clear A2
               clear Aw
               clear HB
               have A0 := n0_
               have A2 := n1_
               have Aw := n2_
               have HB := n3_
               clear n0_ n1_ n2_ n3_
               (try clear hb)
               (try clear hb2)
               (try clear hk)
               (try clear hi)
               refine hK.out _ _ ⟨(blk_cell A0.out 0).trans rfl, (blk_cell A0.out 1).trans rfl, (blk_cell A0.out 2).trans rfl, ((HB.out.cell (c4_ w _ An)).trans An), ((HB.out.cell (c4_ w _ Ao)).trans Ao)⟩ (fun hHeld => ?_)
               clear hK K
               refine norm_ (a' := ?_) ?_ ?_
               rotate_left
               ·show Act.put _ (some 96) _ = _
                simp only [Act.put, n9, i64_w, i32_w]
                rfl
               refine pure_ (i := 7) (N := some 89) (v := ?_) (a' := ?_) d14_ rfl rfl (any_of HT_.out (by kernel_rfl)) (fun _ _ _ h => h) (Or.inl ⟨by rfl, ?_⟩) ?_ ?_
               rotate_left
               ·intro w'
                go_simp
                with_reducible rfl
               rotate_left
               ·simp only [Act.put, n9, i64_w, i32_w]
                rfl
               refine pure_ (i := 8) (N := some 97) (v := ?_) (a' := ?_) d15_ rfl rfl (any_of HT_.out (by kernel_rfl)) (fun _ _ _ h => h) (Or.inl ⟨by rfl, ?_⟩) ?_ ?_
               rotate_left
               ·intro w'
                go_simp
                with_reducible rfl
               rotate_left
               ·simp only [Act.put, n9, i64_w, i32_w]
                rfl
               refine pure_ (i := 9) (N := some 98) (v := ?_) (a' := ?_) d7_ rfl rfl (any_of HT_.out (by kernel_rfl)) (fun _ _ _ h => h) (Or.inl ⟨by rfl, ?_⟩) ?_ ?_
               rotate_left
               ·intro w'
                go_simp
                with_reducible rfl
               rotate_left
               ·simp only [Act.put, n9, i64_w, i32_w]
                rfl
               exact norm_ (by simp only [putAll, Act.put, n9]) (hCont (Af) _ ⟨hHeld, (by (with_reducible repeat first | apply b1_ | apply b2_ | apply b3_); exact A0.out), (by (with_reducible repeat first | apply b1_ | apply b2_ | apply b3_); exact Aw.out), Aq.out, Ba.out, B1.out, B4.out, Al.out, Az.out, (by repeat (first | (with_reducible first | exact A2.out | apply b9_ | apply c1_ | apply c2_ | refine c3_ ?_ Aa.out _ | refine c3_ ?_ B1.out _) | exact A2.out)), (by repeat (first | (with_reducible first | exact HB.out | apply b4_ | apply b5_ | apply b6_ | refine b7_ ?_ (b8_ A2.out) | refine b7_ ?_ Ag.out | refine b7_ ?_ Ba.out) | exact HB.out))⟩)
             rintro Af w82 ⟨hS_, h0_, h1_, h2_, h3_, h4_, h5_, h6_, h7_, h8_, h9_⟩
             have n0_ : Aside0 (w82.heap[A3]? = some (.cells #[.string A7, .int .i64 A5, .int .i64 A4] 42 (0, 0))) := ⟨h0_⟩
             have n1_ : Aside0 (w82.heap[Af]? = some (.cells #[.string (⟨#[]⟩ : ByteArray), .int .i64 0, .int .i64 0] 42 (0, 0))) := ⟨h1_⟩
             have n2_ : Aside0 (w.heap.size ≤ Af) := ⟨h2_⟩
             have n3_ : Aside0 (w.heap.size ≤ Af) := ⟨h3_⟩
             have n4_ : Aside0 (g178 ≠ Af) := ⟨h4_⟩
             have n5_ : Aside0 (Af ≠ g178) := ⟨h5_⟩
             have n6_ : Aside0 (A3 ≠ Af) := ⟨h6_⟩
             have n7_ : Aside0 (Af ≠ A3) := ⟨h7_⟩
             have n8_ : Aside0 (IsS59 w w82 g178 Ai Ah Aj) := ⟨h8_⟩
             have n9_ : Aside0 (Below w.heap.size w w82) := ⟨h9_⟩
             clear A0
             clear A2
             clear HB
             clear h0_ h1_ h2_ h3_ h4_ h5_ h6_ h7_ h8_ h9_
             have A0 := n0_
             have Aw := n1_
             have Aq := n2_
             have Ba := n3_
             have B1 := n4_
             have B4 := n5_
             have Al := n6_
             have Az := n7_
             have A2 := n8_
             have HB := n9_
             clear n0_ n1_ n2_ n3_ n4_ n5_ n6_ n7_ n8_ n9_
             have hHeld : w82.cell? ⟨A3, 0, none⟩ = some (.string A7) ∧ w82.cell? ⟨A3, 1, none⟩ = some (.int .i64 A5) ∧ w82.cell? ⟨A3, 2, none⟩ = some (.int .i64 A4) ∧ w82.cell? (ad189.add ((x7_2).toNat * 2)) = some (.int .u8 ((rd_T45 l1 x7_2).f0)) ∧ w82.cell? ⟨(ad189.add ((x7_2).toNat * 2)).block, (ad189.add ((x7_2).toNat * 2)).off + 1, none⟩ = some (.int .i64 ((rd_T45 l1 x7_2).f1)) := hS_
             refine norm_ (a' := ?_) ?_ ?_
             rotate_left
             ·simp only [putAll, Act.put, n9]
              rfl
             refine one_ (i := 11) (N := none) d16_ rfl rfl (one_of HT_.out (by kernel_rfl)) (by decide) (fun K hK => ?_)
             have hs83 : w82.cell? ⟨Af, 0, none⟩ = some (.string (⟨#[]⟩ : ByteArray)) := (blk_cell Aw.out 0).trans rfl
             have hfs83 := blk_frozen Aw.out 0
             have hns83_0 := Al.out
             have hms83_0 := Az.out
             have hs84 : w82.cell? ⟨Af, 1, none⟩ = some (.int .i64 0) := (blk_cell Aw.out 1).trans rfl
             have hfs84 := blk_frozen Aw.out 1
             have hns84_0 := Al.out
             have hms84_0 := Az.out
             have hs85 : w82.cell? ⟨Af, 2, none⟩ = some (.int .i64 0) := (blk_cell Aw.out 2).trans rfl
             have hfs85 := blk_frozen Aw.out 2
             have hns85_0 := Al.out
             have hms85_0 := Az.out
             refine skip_ (w1 := ?_) (by rfl) rfl ?_ ?_
             rotate_left
             ·go_simp
              rfl
             refine hK.out _ _ ⟨((cell_far (p := ⟨Af, _, none⟩) Al.out _).trans (((cell_far (p := ⟨Af, _, none⟩) Al.out _).trans (((cell_far (p := ⟨Af, _, none⟩) Al.out _).trans (hHeld.1)))))), ((cell_far (p := ⟨Af, _, none⟩) Al.out _).trans (((cell_far (p := ⟨Af, _, none⟩) Al.out _).trans (((cell_far (p := ⟨Af, _, none⟩) Al.out _).trans (hHeld.2.1)))))), ((cell_far (p := ⟨Af, _, none⟩) Al.out _).trans (((cell_far (p := ⟨Af, _, none⟩) Al.out _).trans (((cell_far (p := ⟨Af, _, none⟩) Al.out _).trans (hHeld.2.2.1)))))), ((cell_far (p := ⟨Af, _, none⟩) (by first | exact Nat.ne_of_lt (c5_ (by have := c4_ _ _ An; first | rwa [add_block] at this | exact this) Aq.out) | (rw [add_block]; exact Nat.ne_of_lt (c5_ (by have := c4_ _ _ An; first | rwa [add_block] at this | exact this) Aq.out)) | (show (Addr.add _ _).block ≠ _; rw [add_block]; exact Nat.ne_of_lt (c5_ (by have := c4_ _ _ An; first | rwa [add_block] at this | exact this) Aq.out)) | (dsimp only; exact Nat.ne_of_lt (c5_ (by have := c4_ _ _ An; first | rwa [add_block] at this | exact this) Aq.out))) _).trans (((cell_far (p := ⟨Af, _, none⟩) (by first | exact Nat.ne_of_lt (c5_ (by have := c4_ _ _ An; first | rwa [add_block] at this | exact this) Aq.out) | (rw [add_block]; exact Nat.ne_of_lt (c5_ (by have := c4_ _ _ An; first | rwa [add_block] at this | exact this) Aq.out)) | (show (Addr.add _ _).block ≠ _; rw [add_block]; exact Nat.ne_of_lt (c5_ (by have := c4_ _ _ An; first | rwa [add_block] at this | exact this) Aq.out)) | (dsimp only; exact Nat.ne_of_lt (c5_ (by have := c4_ _ _ An; first | rwa [add_block] at this | exact this) Aq.out))) _).trans (((cell_far (p := ⟨Af, _, none⟩) (by first | exact Nat.ne_of_lt (c5_ (by have := c4_ _ _ An; first | rwa [add_block] at this | exact this) Aq.out) | (rw [add_block]; exact Nat.ne_of_lt (c5_ (by have := c4_ _ _ An; first | rwa [add_block] at this | exact this) Aq.out)) | (show (Addr.add _ _).block ≠ _; rw [add_block]; exact Nat.ne_of_lt (c5_ (by have := c4_ _ _ An; first | rwa [add_block] at this | exact this) Aq.out)) | (dsimp only; exact Nat.ne_of_lt (c5_ (by have := c4_ _ _ An; first | rwa [add_block] at this | exact this) Aq.out))) _).trans (hHeld.2.2.2.1)))))), ((cell_far (p := ⟨Af, _, none⟩) (by first | exact Nat.ne_of_lt (c5_ (by have := c4_ _ _ Ao; first | rwa [add_block] at this | exact this) Aq.out) | (rw [add_block]; exact Nat.ne_of_lt (c5_ (by have := c4_ _ _ Ao; first | rwa [add_block] at this | exact this) Aq.out)) | (show (Addr.add _ _).block ≠ _; rw [add_block]; exact Nat.ne_of_lt (c5_ (by have := c4_ _ _ Ao; first | rwa [add_block] at this | exact this) Aq.out)) | (dsimp only; exact Nat.ne_of_lt (c5_ (by have := c4_ _ _ Ao; first | rwa [add_block] at this | exact this) Aq.out))) _).trans (((cell_far (p := ⟨Af, _, none⟩) (by first | exact Nat.ne_of_lt (c5_ (by have := c4_ _ _ Ao; first | rwa [add_block] at this | exact this) Aq.out) | (rw [add_block]; exact Nat.ne_of_lt (c5_ (by have := c4_ _ _ Ao; first | rwa [add_block] at this | exact this) Aq.out)) | (show (Addr.add _ _).block ≠ _; rw [add_block]; exact Nat.ne_of_lt (c5_ (by have := c4_ _ _ Ao; first | rwa [add_block] at this | exact this) Aq.out)) | (dsimp only; exact Nat.ne_of_lt (c5_ (by have := c4_ _ _ Ao; first | rwa [add_block] at this | exact this) Aq.out))) _).trans (((cell_far (p := ⟨Af, _, none⟩) (by first | exact Nat.ne_of_lt (c5_ (by have := c4_ _ _ Ao; first | rwa [add_block] at this | exact this) Aq.out) | (rw [add_block]; exact Nat.ne_of_lt (c5_ (by have := c4_ _ _ Ao; first | rwa [add_block] at this | exact this) Aq.out)) | (show (Addr.add _ _).block ≠ _; rw [add_block]; exact Nat.ne_of_lt (c5_ (by have := c4_ _ _ Ao; first | rwa [add_block] at this | exact this) Aq.out)) | (dsimp only; exact Nat.ne_of_lt (c5_ (by have := c4_ _ _ Ao; first | rwa [add_block] at this | exact this) Aq.out))) _).trans (hHeld.2.2.2.2))))))⟩ (fun hHeld => ?_)
             clear hK K
             refine pure_ (i := 12) (N := some 13) (v := ?_) (a' := ?_) d17_ rfl rfl (any_of HT_.out (by kernel_rfl)) (fun _ _ _ h => h) (Or.inl ⟨by rfl, ?_⟩) ?_ ?_
             rotate_left
             ·intro w'
              go_simp
              with_reducible rfl
             rotate_left
             ·simp only [Act.put, n9, i64_w, i32_w]
              rfl
             refine done_ (done_of HT_.out (by kernel_rfl)) ?_
             have hnb86 := Az.out
             have hnc86 := Al.out
             have hnb87 := B4.out
             have hnc87 := B1.out
             have hcz88_0 : w82.cell? ⟨Af, 0, none⟩ = some (.string (⟨#[]⟩ : ByteArray)) := (blk_cell Aw.out 0).trans rfl
             have hcz88_1 : w82.cell? ⟨Af, 1, none⟩ = some (.int .i64 0) := (blk_cell Aw.out 1).trans rfl
             have hcz88_2 : w82.cell? ⟨Af, 2, none⟩ = some (.int .i64 0) := (blk_cell Aw.out 2).trans rfl
             have hfz88_0 := blk_frozen Aw.out 0
             have hfz88_1 := blk_frozen Aw.out 1
             have hfz88_2 := blk_frozen Aw.out 2
             have hnb89 := Au.out
             have hnc89 := Aa.out
             have hcz90_0 : w82.cell? ⟨A3, 0, none⟩ = some (.string A7) := (blk_cell A0.out 0).trans rfl
             have hcz90_1 : w82.cell? ⟨A3, 1, none⟩ = some (.int .i64 A5) := (blk_cell A0.out 1).trans rfl
             have hcz90_2 : w82.cell? ⟨A3, 2, none⟩ = some (.int .i64 A4) := (blk_cell A0.out 2).trans rfl
             have hfz90_0 := blk_frozen A0.out 0
             have hfz90_1 := blk_frozen A0.out 1
             have hfz90_2 := blk_frozen A0.out 2
             have p214 : 0 ≤ (x7_2 : Int) := of_decide_eq_true (by first | (with_reducible assumption) | assumption)
             have q214 : x7_2 < (l1.length : Int) := of_decide_eq_true (by first | (with_reducible assumption) | assumption)
             obtain ⟨ad214, e214, At, Ay⟩ := at_T45 HR1.out x7_2 p214 q214
             obtain rfl : ad189 = ad214 := (by injection e214)
             have Bo : ad189.block ≠ Af := Nat.ne_of_lt (c5_ (by have := c4_ _ _ At; first | rwa [add_block] at this | exact this) Aq.out)
             have Br : ad189.block ≠ Af := Nat.ne_of_lt (c5_ (by have := c4_ _ _ At; first | rwa [add_block] at this | exact this) Aq.out)
             have Bj : ad189.block ≠ Af := Nat.ne_of_lt (c5_ (by have := c4_ _ _ At; first | rwa [add_block] at this | exact this) Aq.out)
             have Bs : ad189.block ≠ A3 := Nat.ne_of_lt (c5_ (by have := c4_ _ _ At; first | rwa [add_block] at this | exact this) By.out)
             have Bk : ad189.block ≠ A3 := Nat.ne_of_lt (c5_ (by have := c4_ _ _ At; first | rwa [add_block] at this | exact this) By.out)
             have Bp : ad189.block ≠ A3 := Nat.ne_of_lt (c5_ (by have := c4_ _ _ At; first | rwa [add_block] at this | exact this) By.out)
             replace At := (HB.out.cell (c4_ w _ At)).trans At
             replace Ay := (HB.out.cell (c4_ w _ Ay)).trans Ay
             replace At := (cell_far (p := ⟨Af, 0, none⟩) (by first | exact Bo | (rw [add_block]; exact Bo)) (.string t209)).trans At
             replace Ay := (cell_far (p := ⟨Af, 0, none⟩) (by first | exact Bo | (rw [add_block]; exact Bo)) (.string t209)).trans Ay
             replace At := (cell_far (p := ⟨Af, 1, none⟩) (by first | exact Br | (rw [add_block]; exact Br)) (.int .i64 t210)).trans At
             replace Ay := (cell_far (p := ⟨Af, 1, none⟩) (by first | exact Br | (rw [add_block]; exact Br)) (.int .i64 t210)).trans Ay
             replace At := (cell_far (p := ⟨Af, 2, none⟩) (by first | exact Bj | (rw [add_block]; exact Bj)) (.int .i64 t211)).trans At
             replace Ay := (cell_far (p := ⟨Af, 2, none⟩) (by first | exact Bj | (rw [add_block]; exact Bj)) (.int .i64 t211)).trans Ay
             replace At := (cell_far (p := ⟨A3, 0, none⟩) (by first | exact Bs | (rw [add_block]; exact Bs)) (.string t209)).trans At
             replace Ay := (cell_far (p := ⟨A3, 0, none⟩) (by first | exact Bs | (rw [add_block]; exact Bs)) (.string t209)).trans Ay
             replace At := (cell_far (p := ⟨A3, 1, none⟩) (by first | exact Bk | (rw [add_block]; exact Bk)) (.int .i64 t210)).trans At
             replace Ay := (cell_far (p := ⟨A3, 1, none⟩) (by first | exact Bk | (rw [add_block]; exact Bk)) (.int .i64 t210)).trans Ay
             replace At := (cell_far (p := ⟨A3, 2, none⟩) (by first | exact Bp | (rw [add_block]; exact Bp)) (.int .i64 t211)).trans At
             replace Ay := (cell_far (p := ⟨A3, 2, none⟩) (by first | exact Bp | (rw [add_block]; exact Bp)) (.int .i64 t211)).trans Ay
             clear Bo
             clear Br
             clear Bj
             clear Bs
             clear Bk
             clear Bp
             replace p214 := eq_true p214
             replace q214 := eq_true q214
             try go_wp2_with (first | ((with_reducible refine gate_callee (f := 25) rfl ?_); refine goesL_ (some 106) rfl rfl Try.func25 (by kernel_rfl) rfl #[.pointer (some ⟨g178, 0, none⟩), .int .i64 ((rd_T45 l1 x7_2).f1)] rfl (by (try simp only [List.map_toArray, List.map_cons, List.map_nil]); first | done | rfl) ?_; (with_reducible refine (wire_Reader_Count.calls k2 g178 Ai Ah Aj ((rd_T45 l1 x7_2).f1) t215 t216 t217 t218 w _ ?side1 ?side2 A64.out).mono ?_); (case side1 => repeat (first | (with_reducible first | exact A2.out | apply b9_ | apply c1_ | apply c2_ | refine c3_ ?_ Aa.out _ | refine c3_ ?_ B1.out _) | exact A2.out)); (case side2 => repeat (first | (with_reducible first | exact HB.out | apply b4_ | apply b5_ | apply b6_ | refine b7_ ?_ (b8_ A2.out) | refine b7_ ?_ Ag.out | refine b7_ ?_ Ba.out) | exact HB.out)); rintro e w91 ⟨rfl, hi, hb, hk⟩; refine ⟨_, rfl, ?_⟩; have n0_ := Aside0.mk (KeepBut.blk hk (g' := A3) (o := .cells #[.string t209, .int .i64 t210, .int .i64 t211] 42 (0, 0)) (by (with_reducible repeat first | apply b1_ | apply b2_ | apply b3_); refine blk_put (cs := #[.string t209, .int .i64 t210, .int .i64 A4]) ?_ 2 _ rfl; (with_reducible repeat first | apply b1_ | apply b2_ | apply b3_); refine blk_put (cs := #[.string t209, .int .i64 A5, .int .i64 A4]) ?_ 1 _ rfl; (with_reducible repeat first | apply b1_ | apply b2_ | apply b3_); refine blk_put (cs := #[.string A7, .int .i64 A5, .int .i64 A4]) ?_ 0 _ rfl; (with_reducible repeat first | apply b1_ | apply b2_ | apply b3_); refine blk_far ?_ Al.out _; (with_reducible repeat first | apply b1_ | apply b2_ | apply b3_); refine blk_far ?_ Al.out _; (with_reducible repeat first | apply b1_ | apply b2_ | apply b3_); refine blk_far ?_ Al.out _; (with_reducible repeat first | apply b1_ | apply b2_ | apply b3_); exact A0.out) Au.out (by simp)); have n1_ := Aside0.mk (KeepBut.blk hk (g' := Af) (o := .cells #[.string t209, .int .i64 t210, .int .i64 t211] 42 (0, 0)) (by (with_reducible repeat first | apply b1_ | apply b2_ | apply b3_); refine blk_far ?_ Az.out _; (with_reducible repeat first | apply b1_ | apply b2_ | apply b3_); refine blk_far ?_ Az.out _; (with_reducible repeat first | apply b1_ | apply b2_ | apply b3_); refine blk_far ?_ Az.out _; (with_reducible repeat first | apply b1_ | apply b2_ | apply b3_); refine blk_put (cs := #[.string t209, .int .i64 t210, .int .i64 0]) ?_ 2 _ rfl; (with_reducible repeat first | apply b1_ | apply b2_ | apply b3_); refine blk_put (cs := #[.string t209, .int .i64 0, .int .i64 0]) ?_ 1 _ rfl; (with_reducible repeat first | apply b1_ | apply b2_ | apply b3_); refine blk_put (cs := #[.string (⟨#[]⟩ : ByteArray), .int .i64 0, .int .i64 0]) ?_ 0 _ rfl; (with_reducible repeat first | apply b1_ | apply b2_ | apply b3_); exact Aw.out) B4.out (by simp)); have n2_ := Aside0.mk (hb); have n3_ := Aside0.mk (hi); clear A0; clear Aw; clear HB; clear A2; have A0 := n0_; have Aw := n1_; have HB := n2_; have A2 := n3_; clear n0_ n1_ n2_ n3_; (try clear hb); (try clear hb2); (try clear hk); (try clear hi)))
             go_ret
             exact ⟨by first | rfl | (simp [errW_none, errW_some] <;> rfl) | (simp [*, errW_none, errW_some] <;> rfl), by repeat (first | (with_reducible first | exact HB.out | apply b4_ | apply b5_ | apply b6_ | refine b7_ ?_ (b8_ A2.out) | refine b7_ ?_ Ag.out | refine b7_ ?_ Ba.out) | exact HB.out)⟩
           ·rw [if_neg c62] at H
            have c62b0 : ((Int.tmod ((rd_T45 l1 x7_2).f0) 4) == 2) = false := beq_eq_false_iff_ne.mpr c62
            have c62b1 : ((Int.tmod ((rd_T45 l1 x7_2).f0) 4) != 2) = true := bne_iff_ne.mpr c62
            replace H := Option.bind_eq_some_iff.mp H
            obtain ⟨⟨t220, t221, t222, t223⟩, A920, H⟩ := H
            replace H : ((wire_Reader_Text.f k2 Ai Ah Aj ((rd_T45 l1 x7_2).f1)).bind fun bt226 => (if bt226.1.toList = t223.toList then (mapmakerlaw02_WireReads.j2 k2 l1 x7_2 bt226.2.1 bt226.2.2.1 bt226.2.2.2 t220 t221 t222) else (some false))) = some r := H
            have A92 := Aside0.mk A920
            clear A920
            replace H := Option.bind_eq_some_iff.mp H
            obtain ⟨⟨t226, t227, t228, t229⟩, A930, H⟩ := H
            replace H : (if t226.toList = t223.toList then (mapmakerlaw02_WireReads.j2 k2 l1 x7_2 t227 t228 t229 t220 t221 t222) else (some false)) = some r := H
            have A93 := Aside0.mk A930
            clear A930
            by_cases c94 : t226.toList = t223.toList
            ·rw [if_pos c94] at H
             have c94b0 : (t226.toList == t223.toList) = true := beq_iff_eq.mpr c94
             have c94b1 : (t226.toList != t223.toList) = false := bne_eq_false_iff_eq.mpr c94
             clear c94
             have H' := Aside0.mk H
             clear H
             try go_wp2
             have n0_ := Aside0.mk (b2_ A0.out)
             have n1_ := Aside0.mk (c2_ A2.out)
             have n2_ := Aside0.mk (b6_ HB.out)
             clear A0
             clear A2
             clear HB
             have A0 := n0_
             have A2 := n1_
             have HB := n2_
             clear n0_ n1_ n2_
             have p219 : 0 ≤ (x7_2 : Int) := of_decide_eq_true (by first | (with_reducible assumption) | assumption)
             have q219 : x7_2 < (l1.length : Int) := of_decide_eq_true (by first | (with_reducible assumption) | assumption)
             obtain ⟨ad219, e219, Bb, Bc⟩ := at_T45 HR1.out x7_2 p219 q219
             have Am := Bc
             have Ap := Bb
             obtain rfl : ad189 = ad219 := (by injection e219)
             replace Bb := (HB.out.cell (c4_ w _ Bb)).trans Bb
             replace Bc := (HB.out.cell (c4_ w _ Bc)).trans Bc
             replace p219 := eq_true p219
             replace q219 := eq_true q219
             refine start_ (n := 13) (S := fun w' => w'.cell? ⟨A3, 0, none⟩ = some (.string A7) ∧ w'.cell? ⟨A3, 1, none⟩ = some (.int .i64 A5) ∧ w'.cell? ⟨A3, 2, none⟩ = some (.int .i64 A4) ∧ w'.cell? (ad189.add ((x7_2).toNat * 2)) = some (.int .u8 ((rd_T45 l1 x7_2).f0)) ∧ w'.cell? ⟨(ad189.add ((x7_2).toNat * 2)).block, (ad189.add ((x7_2).toNat * 2)).off + 1, none⟩ = some (.int .i64 ((rd_T45 l1 x7_2).f1))) (ds := []) d0_ (by kernel_rfl) rfl rfl ⟨(blk_cell A0.out 0).trans rfl, (blk_cell A0.out 1).trans rfl, (blk_cell A0.out 2).trans rfl, ((HB.out.cell (c4_ w _ Ap)).trans Ap), ((HB.out.cell (c4_ w _ Am)).trans Am)⟩ (fun hHeld => ?_); refine with_tabW mapmakerlaw02_WireReads.tab10 mapmakerlaw02_WireReads.bits10 (fun HT_ HW_ => ?_)
             generalize wr.drew = w95 at A0 A2 HB Bb Bc hHeld ⊢
             refine pure_ (i := 1) (N := some 45) (v := ?_) (a' := ?_) d1_ rfl rfl (any_of HT_.out (by kernel_rfl)) (fun _ _ _ h => h) (Or.inl ⟨by rfl, ?_⟩) ?_ ?_
             rotate_left
             ·intro w'
              go_simp
              with_reducible rfl
             rotate_left
             ·simp only [Act.put, n9, i64_w, i32_w]
              rfl
             refine pure_ (i := 2) (N := some 46) (v := ?_) (a' := ?_) d2_ rfl rfl (any_of HT_.out (by kernel_rfl)) (fun _ _ _ h => h) (Or.inl ⟨by rfl, ?_⟩) ?_ ?_
             rotate_left
             ·intro w'
              go_simp
              with_reducible rfl
             rotate_left
             ·simp only [Act.put, n9, i64_w, i32_w]
              rfl
             refine pure_ (i := 3) (N := some 47) (v := ?_) (a' := ?_) d3_ rfl rfl (any_of HT_.out (by kernel_rfl)) (fun _ _ _ h => h) (Or.inl ⟨by rfl, ?_⟩) ?_ ?_
             rotate_left
             ·intro w'
              go_simp
              with_reducible rfl
             rotate_left
             ·simp only [Act.put, n9, i64_w, i32_w]
              rfl
             refine pure_ (i := 4) (N := some 48) (v := ?_) (a' := ?_) d4_ rfl rfl (any_of HT_.out (by kernel_rfl)) (fun _ _ _ h => h) (Or.inl ⟨by rfl, ?_⟩) ?_ ?_
             rotate_left
             ·intro w'
              go_simp
              with_reducible rfl
             rotate_left
             ·simp only [Act.put, n9, i64_w, i32_w]
              rfl
             refine take_ (i := 0) (N := some 44) (v := ?_) (a' := ?_) d5_ rfl rfl (take_ofW HT_.out HW_.out (by kernel_rfl)) (fun _ _ _ h => h) (Or.inl ⟨by rfl, ?_⟩) hHeld ?_ ?_
             rotate_left
             ·rintro w' ⟨s0, s1, s2, s3, s4⟩
              go_simp
              with_reducible rfl
             rotate_left
             ·simp only [Act.put, n9, i64_w, i32_w]
              rfl
             refine take_ (i := 5) (N := some 49) (v := ?_) (a' := ?_) d6_ rfl rfl (take_ofW HT_.out HW_.out (by kernel_rfl)) (fun _ _ _ h => h) (Or.inl ⟨by rfl, ?_⟩) hHeld ?_ ?_
             rotate_left
             ·rintro w' ⟨s0, s1, s2, s3, s4⟩
              go_simp
              with_reducible rfl
             rotate_left
             ·simp only [Act.put, n9, i64_w, i32_w]
              rfl
             refine join_ (σ := Nat) 2 d7_ (fun s_ => [(50, .tuple #[.agg #[.string t220, .int .i64 t221, .int .i64 t222], .string t223]), (14, .pointer (some ⟨s_, 0, none⟩)), (43, .tuple #[.agg #[.string t220, .int .i64 t221, .int .i64 t222], .string t223]), (51, .agg #[.string t220, .int .i64 t221, .int .i64 t222]), (52, .string t223)]) (fun s_ w' => (w'.cell? ⟨A3, 0, none⟩ = some (.string A7) ∧ w'.cell? ⟨A3, 1, none⟩ = some (.int .i64 A5) ∧ w'.cell? ⟨A3, 2, none⟩ = some (.int .i64 A4) ∧ w'.cell? (ad189.add ((x7_2).toNat * 2)) = some (.int .u8 ((rd_T45 l1 x7_2).f0)) ∧ w'.cell? ⟨(ad189.add ((x7_2).toNat * 2)).block, (ad189.add ((x7_2).toNat * 2)).off + 1, none⟩ = some (.int .i64 ((rd_T45 l1 x7_2).f1))) ∧ (w'.heap[A3]? = some (.cells #[.string A7, .int .i64 A5, .int .i64 A4] 42 (0, 0))) ∧ (w'.heap[s_]? = some (.cells #[.string (⟨#[]⟩ : ByteArray), .int .i64 0, .int .i64 0] 42 (0, 0))) ∧ (w.heap.size ≤ s_) ∧ (w.heap.size ≤ s_) ∧ (g178 ≠ s_) ∧ (s_ ≠ g178) ∧ (A3 ≠ s_) ∧ (s_ ≠ A3) ∧ (IsS59 w w' g178 Ai Ah Aj) ∧ (Below w.heap.size w w')) ?_ ?_
             rotate_left
             ·intro hCont
              refine two_ (i := 6) (j := 10) (Ni := some 50) (Nj := some 14) d8_ d9_ rfl rfl rfl rfl (two_of HT_.out (by kernel_rfl)) (by decide) (by decide) (fun K hK => ?_) (fun K hK => ?_)
              ·skip
               refine goes_ Try.func26 (by kernel_rfl) rfl #[.agg #[.string A7, .int .i64 A5, .int .i64 A4], .int .i64 ((rd_T45 l1 x7_2).f1)] (by rfl) rfl rfl (by (try simp only [List.map_toArray, List.map_cons, List.map_nil]); first | done | rfl) ?_
               with_reducible refine (mapmakerref02_Text.calls k2 A7 A5 A4 ((rd_T45 l1 x7_2).f1) t220 t221 t222 t223 _ A92.out).mono ?_
               rintro e w96 ⟨rfl, hb⟩
               refine ⟨_, rfl, ?_⟩
               have n0_ := Aside0.mk (blk_below (g := A3) (o := .cells #[.string A7, .int .i64 A5, .int .i64 A4] 42 (0, 0)) (by (with_reducible repeat first | apply b1_ | apply b2_ | apply b3_); exact A0.out) hb)
               have n1_ := Aside0.mk (IsS59.below (by repeat (first | (with_reducible first | exact A2.out | apply b9_ | apply c1_ | apply c2_ | refine c3_ ?_ Aa.out _) | exact A2.out)) hb)
               have n2_ := Aside0.mk (below_step (by repeat (first | (with_reducible first | exact HB.out | apply b4_ | apply b5_ | apply b6_ | refine b7_ ?_ (b8_ A2.out) | refine b7_ ?_ Ag.out) | exact HB.out)) hb)
               clear A0
               clear A2
               clear HB
               have A0 := n0_
               have A2 := n1_
               have HB := n2_
               clear n0_ n1_ n2_
               (try clear hb)
               (try clear hb2)
               (try clear hk)
               (try clear hi)
               refine hK.out _ _ ⟨(blk_cell A0.out 0).trans rfl, (blk_cell A0.out 1).trans rfl, (blk_cell A0.out 2).trans rfl, ((HB.out.cell (c4_ w _ Ap)).trans Ap), ((HB.out.cell (c4_ w _ Am)).trans Am)⟩ (fun hHeld => ?_)
               clear hK K
               refine norm_ (a' := ?_) ?_ ?_
               rotate_left
               ·show Act.put _ (some 50) _ = _
                simp only [Act.put, n9, i64_w, i32_w]
                rfl
               refine pure_ (i := 7) (N := some 43) (v := ?_) (a' := ?_) d10_ rfl rfl (any_of HT_.out (by kernel_rfl)) (fun _ _ _ h => h) (Or.inl ⟨by rfl, ?_⟩) ?_ ?_
               rotate_left
               ·intro w'
                go_simp
                with_reducible rfl
               rotate_left
               ·simp only [Act.put, n9, i64_w, i32_w]
                rfl
               refine pure_ (i := 8) (N := some 51) (v := ?_) (a' := ?_) d11_ rfl rfl (any_of HT_.out (by kernel_rfl)) (fun _ _ _ h => h) (Or.inl ⟨by rfl, ?_⟩) ?_ ?_
               rotate_left
               ·intro w'
                go_simp
                with_reducible rfl
               rotate_left
               ·simp only [Act.put, n9, i64_w, i32_w]
                rfl
               refine pure_ (i := 9) (N := some 52) (v := ?_) (a' := ?_) d12_ rfl rfl (any_of HT_.out (by kernel_rfl)) (fun _ _ _ h => h) (Or.inl ⟨by rfl, ?_⟩) ?_ ?_
               rotate_left
               ·intro w'
                go_simp
                with_reducible rfl
               rotate_left
               ·simp only [Act.put, n9, i64_w, i32_w]
                rfl
               refine one_ (i := 10) (N := some 14) d7_ rfl rfl (one_of HT_.out (by kernel_rfl)) (by decide) (fun K hK => ?_)
               refine box_step ?hg (N := 14) ?hd (cs := #[.string (⟨#[]⟩ : ByteArray), .int .i64 0, .int .i64 0]) (t := 42) ?hr ?_; (case hd => rfl); (case hg => rfl); (case hr => first | (go_simp; done) | (go_simp; rfl))
               intro Ae hg w97 hbox hb
               have n0_ := Aside0.mk (blk_below (g := A3) (o := .cells #[.string A7, .int .i64 A5, .int .i64 A4] 42 (0, 0)) (by (with_reducible repeat first | apply b1_ | apply b2_ | apply b3_); exact A0.out) hb)
               have n1_ := Aside0.mk (IsS59.below (by repeat (first | (with_reducible first | exact A2.out | apply b9_ | apply c1_ | apply c2_ | refine c3_ ?_ Aa.out _) | exact A2.out)) hb)
               have n2_ := Aside0.mk (below_step (by repeat (first | (with_reducible first | exact HB.out | apply b4_ | apply b5_ | apply b6_ | refine b7_ ?_ (b8_ A2.out) | refine b7_ ?_ Ag.out) | exact HB.out)) hb)
               have n3_ := Aside0.mk (hbox)
               have n4_ := Aside0.mk ((by rw [hg]; exact (below_size (by repeat (first | (with_reducible first | exact HB.out | apply b4_ | apply b5_ | apply b6_ | refine b7_ ?_ (b8_ A2.out) | refine b7_ ?_ Ag.out) | exact HB.out))) : w.heap.size ≤ Ae))
               have n5_ := Aside0.mk ((by rw [hg]; exact (below_size (by repeat (first | (with_reducible first | exact HB.out | apply b4_ | apply b5_ | apply b6_ | refine b7_ ?_ (b8_ A2.out) | refine b7_ ?_ Ag.out) | exact HB.out))) : w.heap.size ≤ Ae))
               have n6_ := Aside0.mk ((by rw [hg]; exact Nat.ne_of_lt (blk_lt (g := A3) (o := .cells #[.string A7, .int .i64 A5, .int .i64 A4] 42 (0, 0)) (by (with_reducible repeat first | apply b1_ | apply b2_ | apply b3_); exact A0.out)) : A3 ≠ Ae))
               have n7_ := Aside0.mk ((by rw [hg]; exact Nat.ne_of_gt (blk_lt (g := A3) (o := .cells #[.string A7, .int .i64 A5, .int .i64 A4] 42 (0, 0)) (by (with_reducible repeat first | apply b1_ | apply b2_ | apply b3_); exact A0.out)) : Ae ≠ A3))
               have n8_ := Aside0.mk ((by rw [hg]; exact Nat.ne_of_lt (IsS59.lt (show IsS59 w _ g178 Ai Ah Aj from by repeat (first | (with_reducible first | exact A2.out | apply b9_ | apply c1_ | apply c2_ | refine c3_ ?_ Aa.out _) | exact A2.out))) : g178 ≠ Ae))
               have n9_ := Aside0.mk ((by rw [hg]; exact Nat.ne_of_gt (IsS59.lt (show IsS59 w _ g178 Ai Ah Aj from by repeat (first | (with_reducible first | exact A2.out | apply b9_ | apply c1_ | apply c2_ | refine c3_ ?_ Aa.out _) | exact A2.out))) : Ae ≠ g178))
               clear A0
               clear A2
               clear HB
               have A0 := n0_
               have A2 := n1_
               have HB := n2_
               have Ax := n3_
               have Ar := n4_
               have B9 := n5_
               have Ak := n6_
               have B0 := n7_
               have B2 := n8_
               have B3 := n9_
               clear n0_ n1_ n2_ n3_ n4_ n5_ n6_ n7_ n8_ n9_
               clear hb hbox hg
               refine hK.out _ _ ⟨(blk_cell A0.out 0).trans rfl, (blk_cell A0.out 1).trans rfl, (blk_cell A0.out 2).trans rfl, ((HB.out.cell (c4_ w _ Ap)).trans Ap), ((HB.out.cell (c4_ w _ Am)).trans Am)⟩ (fun hHeld => ?_)
               clear hK K
               refine norm_ (a' := ?_) ?_ ?_
               rotate_left
               ·show Act.put _ (some 14) _ = _
                simp only [Act.put, n9, i64_w, i32_w]
                rfl
               exact norm_ (by simp only [putAll, Act.put, n9]) (hCont (Ae) _ ⟨hHeld, (by (with_reducible repeat first | apply b1_ | apply b2_ | apply b3_); exact A0.out), (by (with_reducible repeat first | apply b1_ | apply b2_ | apply b3_); exact Ax.out), Ar.out, B9.out, B2.out, B3.out, Ak.out, B0.out, (by repeat (first | (with_reducible first | exact A2.out | apply b9_ | apply c1_ | apply c2_ | refine c3_ ?_ Aa.out _ | refine c3_ ?_ B2.out _) | exact A2.out)), (by repeat (first | (with_reducible first | exact HB.out | apply b4_ | apply b5_ | apply b6_ | refine b7_ ?_ (b8_ A2.out) | refine b7_ ?_ Ag.out | refine b7_ ?_ B9.out) | exact HB.out))⟩)
              ·skip
               refine box_step ?hg (N := 14) ?hd (cs := #[.string (⟨#[]⟩ : ByteArray), .int .i64 0, .int .i64 0]) (t := 42) ?hr ?_; (case hd => rfl); (case hg => rfl); (case hr => first | (go_simp; done) | (go_simp; rfl))
               intro Ae hg w96 hbox hb
               have n0_ := Aside0.mk (blk_below (g := A3) (o := .cells #[.string A7, .int .i64 A5, .int .i64 A4] 42 (0, 0)) (by (with_reducible repeat first | apply b1_ | apply b2_ | apply b3_); exact A0.out) hb)
               have n1_ := Aside0.mk (IsS59.below (by repeat (first | (with_reducible first | exact A2.out | apply b9_ | apply c1_ | apply c2_ | refine c3_ ?_ Aa.out _) | exact A2.out)) hb)
               have n2_ := Aside0.mk (below_step (by repeat (first | (with_reducible first | exact HB.out | apply b4_ | apply b5_ | apply b6_ | refine b7_ ?_ (b8_ A2.out) | refine b7_ ?_ Ag.out) | exact HB.out)) hb)
               have n3_ := Aside0.mk (hbox)
               have n4_ := Aside0.mk ((by rw [hg]; exact (below_size (by repeat (first | (with_reducible first | exact HB.out | apply b4_ | apply b5_ | apply b6_ | refine b7_ ?_ (b8_ A2.out) | refine b7_ ?_ Ag.out) | exact HB.out))) : w.heap.size ≤ Ae))
               have n5_ := Aside0.mk ((by rw [hg]; exact (below_size (by repeat (first | (with_reducible first | exact HB.out | apply b4_ | apply b5_ | apply b6_ | refine b7_ ?_ (b8_ A2.out) | refine b7_ ?_ Ag.out) | exact HB.out))) : w.heap.size ≤ Ae))
               have n6_ := Aside0.mk ((by rw [hg]; exact Nat.ne_of_lt (blk_lt (g := A3) (o := .cells #[.string A7, .int .i64 A5, .int .i64 A4] 42 (0, 0)) (by (with_reducible repeat first | apply b1_ | apply b2_ | apply b3_); exact A0.out)) : A3 ≠ Ae))
               have n7_ := Aside0.mk ((by rw [hg]; exact Nat.ne_of_gt (blk_lt (g := A3) (o := .cells #[.string A7, .int .i64 A5, .int .i64 A4] 42 (0, 0)) (by (with_reducible repeat first | apply b1_ | apply b2_ | apply b3_); exact A0.out)) : Ae ≠ A3))
               have n8_ := Aside0.mk ((by rw [hg]; exact Nat.ne_of_lt (IsS59.lt (show IsS59 w _ g178 Ai Ah Aj from by repeat (first | (with_reducible first | exact A2.out | apply b9_ | apply c1_ | apply c2_ | refine c3_ ?_ Aa.out _) | exact A2.out))) : g178 ≠ Ae))
               have n9_ := Aside0.mk ((by rw [hg]; exact Nat.ne_of_gt (IsS59.lt (show IsS59 w _ g178 Ai Ah Aj from by repeat (first | (with_reducible first | exact A2.out | apply b9_ | apply c1_ | apply c2_ | refine c3_ ?_ Aa.out _) | exact A2.out))) : Ae ≠ g178))
               clear A0
               clear A2
               clear HB
               have A0 := n0_
               have A2 := n1_
               have HB := n2_
               have Ax := n3_
               have Ar := n4_
               have B9 := n5_
               have Ak := n6_
               have B0 := n7_
               have B2 := n8_
               have B3 := n9_
               clear n0_ n1_ n2_ n3_ n4_ n5_ n6_ n7_ n8_ n9_
               clear hb hbox hg
               refine hK.out _ _ ⟨(blk_cell A0.out 0).trans rfl, (blk_cell A0.out 1).trans rfl, (blk_cell A0.out 2).trans rfl, ((HB.out.cell (c4_ w _ Ap)).trans Ap), ((HB.out.cell (c4_ w _ Am)).trans Am)⟩ (fun hHeld => ?_)
               clear hK K
               refine norm_ (a' := ?_) ?_ ?_
               rotate_left
               ·show Act.put _ (some 14) _ = _
                simp only [Act.put, n9, i64_w, i32_w]
                rfl
               refine one_ (i := 6) (N := some 50) d13_ rfl rfl (one_of HT_.out (by kernel_rfl)) (by decide) (fun K hK => ?_)
               refine goes_ Try.func26 (by kernel_rfl) rfl #[.agg #[.string A7, .int .i64 A5, .int .i64 A4], .int .i64 ((rd_T45 l1 x7_2).f1)] (by rfl) rfl rfl (by (try simp only [List.map_toArray, List.map_cons, List.map_nil]); first | done | rfl) ?_
               with_reducible refine (mapmakerref02_Text.calls k2 A7 A5 A4 ((rd_T45 l1 x7_2).f1) t220 t221 t222 t223 _ A92.out).mono ?_
               rintro e w97 ⟨rfl, hb⟩
               refine ⟨_, rfl, ?_⟩
               have n0_ := Aside0.mk (blk_below (g := A3) (o := .cells #[.string A7, .int .i64 A5, .int .i64 A4] 42 (0, 0)) (by (with_reducible repeat first | apply b1_ | apply b2_ | apply b3_); exact A0.out) hb)
               have n1_ := Aside0.mk (IsS59.below (by repeat (first | (with_reducible first | exact A2.out | apply b9_ | apply c1_ | apply c2_ | refine c3_ ?_ Aa.out _ | refine c3_ ?_ B2.out _) | exact A2.out)) hb)
               have n2_ := Aside0.mk (blk_below (g := Ae) (o := .cells #[.string (⟨#[]⟩ : ByteArray), .int .i64 0, .int .i64 0] 42 (0, 0)) (by (with_reducible repeat first | apply b1_ | apply b2_ | apply b3_); exact Ax.out) hb)
               have n3_ := Aside0.mk (below_step (by repeat (first | (with_reducible first | exact HB.out | apply b4_ | apply b5_ | apply b6_ | refine b7_ ?_ (b8_ A2.out) | refine b7_ ?_ Ag.out | refine b7_ ?_ B9.out) | exact HB.out)) hb)
               clear A0
               clear A2
               clear Ax
               clear HB
               have A0 := n0_
               have A2 := n1_
               have Ax := n2_
               have HB := n3_
               clear n0_ n1_ n2_ n3_
               (try clear hb)
               (try clear hb2)
               (try clear hk)
               (try clear hi)
               refine hK.out _ _ ⟨(blk_cell A0.out 0).trans rfl, (blk_cell A0.out 1).trans rfl, (blk_cell A0.out 2).trans rfl, ((HB.out.cell (c4_ w _ Ap)).trans Ap), ((HB.out.cell (c4_ w _ Am)).trans Am)⟩ (fun hHeld => ?_)
               clear hK K
               refine norm_ (a' := ?_) ?_ ?_
               rotate_left
               ·show Act.put _ (some 50) _ = _
                simp only [Act.put, n9, i64_w, i32_w]
                rfl
               refine pure_ (i := 7) (N := some 43) (v := ?_) (a' := ?_) d14_ rfl rfl (any_of HT_.out (by kernel_rfl)) (fun _ _ _ h => h) (Or.inl ⟨by rfl, ?_⟩) ?_ ?_
               rotate_left
               ·intro w'
                go_simp
                with_reducible rfl
               rotate_left
               ·simp only [Act.put, n9, i64_w, i32_w]
                rfl
               refine pure_ (i := 8) (N := some 51) (v := ?_) (a' := ?_) d15_ rfl rfl (any_of HT_.out (by kernel_rfl)) (fun _ _ _ h => h) (Or.inl ⟨by rfl, ?_⟩) ?_ ?_
               rotate_left
               ·intro w'
                go_simp
                with_reducible rfl
               rotate_left
               ·simp only [Act.put, n9, i64_w, i32_w]
                rfl
               refine pure_ (i := 9) (N := some 52) (v := ?_) (a' := ?_) d7_ rfl rfl (any_of HT_.out (by kernel_rfl)) (fun _ _ _ h => h) (Or.inl ⟨by rfl, ?_⟩) ?_ ?_
               rotate_left
               ·intro w'
                go_simp
                with_reducible rfl
               rotate_left
               ·simp only [Act.put, n9, i64_w, i32_w]
                rfl
               exact norm_ (by simp only [putAll, Act.put, n9]) (hCont (Ae) _ ⟨hHeld, (by (with_reducible repeat first | apply b1_ | apply b2_ | apply b3_); exact A0.out), (by (with_reducible repeat first | apply b1_ | apply b2_ | apply b3_); exact Ax.out), Ar.out, B9.out, B2.out, B3.out, Ak.out, B0.out, (by repeat (first | (with_reducible first | exact A2.out | apply b9_ | apply c1_ | apply c2_ | refine c3_ ?_ Aa.out _ | refine c3_ ?_ B2.out _) | exact A2.out)), (by repeat (first | (with_reducible first | exact HB.out | apply b4_ | apply b5_ | apply b6_ | refine b7_ ?_ (b8_ A2.out) | refine b7_ ?_ Ag.out | refine b7_ ?_ B9.out) | exact HB.out))⟩)
             rintro Ae w98 ⟨hS_, h0_, h1_, h2_, h3_, h4_, h5_, h6_, h7_, h8_, h9_⟩
             have n0_ : Aside0 (w98.heap[A3]? = some (.cells #[.string A7, .int .i64 A5, .int .i64 A4] 42 (0, 0))) := ⟨h0_⟩
             have n1_ : Aside0 (w98.heap[Ae]? = some (.cells #[.string (⟨#[]⟩ : ByteArray), .int .i64 0, .int .i64 0] 42 (0, 0))) := ⟨h1_⟩
             have n2_ : Aside0 (w.heap.size ≤ Ae) := ⟨h2_⟩
             have n3_ : Aside0 (w.heap.size ≤ Ae) := ⟨h3_⟩
             have n4_ : Aside0 (g178 ≠ Ae) := ⟨h4_⟩
             have n5_ : Aside0 (Ae ≠ g178) := ⟨h5_⟩
             have n6_ : Aside0 (A3 ≠ Ae) := ⟨h6_⟩
             have n7_ : Aside0 (Ae ≠ A3) := ⟨h7_⟩
             have n8_ : Aside0 (IsS59 w w98 g178 Ai Ah Aj) := ⟨h8_⟩
             have n9_ : Aside0 (Below w.heap.size w w98) := ⟨h9_⟩
             clear A0
             clear A2
             clear HB
             clear h0_ h1_ h2_ h3_ h4_ h5_ h6_ h7_ h8_ h9_
             have A0 := n0_
             have Ax := n1_
             have Ar := n2_
             have B9 := n3_
             have B2 := n4_
             have B3 := n5_
             have Ak := n6_
             have B0 := n7_
             have A2 := n8_
             have HB := n9_
             clear n0_ n1_ n2_ n3_ n4_ n5_ n6_ n7_ n8_ n9_
             have hHeld : w98.cell? ⟨A3, 0, none⟩ = some (.string A7) ∧ w98.cell? ⟨A3, 1, none⟩ = some (.int .i64 A5) ∧ w98.cell? ⟨A3, 2, none⟩ = some (.int .i64 A4) ∧ w98.cell? (ad189.add ((x7_2).toNat * 2)) = some (.int .u8 ((rd_T45 l1 x7_2).f0)) ∧ w98.cell? ⟨(ad189.add ((x7_2).toNat * 2)).block, (ad189.add ((x7_2).toNat * 2)).off + 1, none⟩ = some (.int .i64 ((rd_T45 l1 x7_2).f1)) := hS_
             refine norm_ (a' := ?_) ?_ ?_
             rotate_left
             ·simp only [putAll, Act.put, n9]
              rfl
             refine one_ (i := 11) (N := none) d16_ rfl rfl (one_of HT_.out (by kernel_rfl)) (by decide) (fun K hK => ?_)
             have hs99 : w98.cell? ⟨Ae, 0, none⟩ = some (.string (⟨#[]⟩ : ByteArray)) := (blk_cell Ax.out 0).trans rfl
             have hfs99 := blk_frozen Ax.out 0
             have hns99_0 := Ak.out
             have hms99_0 := B0.out
             have hs100 : w98.cell? ⟨Ae, 1, none⟩ = some (.int .i64 0) := (blk_cell Ax.out 1).trans rfl
             have hfs100 := blk_frozen Ax.out 1
             have hns100_0 := Ak.out
             have hms100_0 := B0.out
             have hs101 : w98.cell? ⟨Ae, 2, none⟩ = some (.int .i64 0) := (blk_cell Ax.out 2).trans rfl
             have hfs101 := blk_frozen Ax.out 2
             have hns101_0 := Ak.out
             have hms101_0 := B0.out
             refine skip_ (w1 := ?_) (by rfl) rfl ?_ ?_
             rotate_left
             ·go_simp
              rfl
             refine hK.out _ _ ⟨((cell_far (p := ⟨Ae, _, none⟩) Ak.out _).trans (((cell_far (p := ⟨Ae, _, none⟩) Ak.out _).trans (((cell_far (p := ⟨Ae, _, none⟩) Ak.out _).trans (hHeld.1)))))), ((cell_far (p := ⟨Ae, _, none⟩) Ak.out _).trans (((cell_far (p := ⟨Ae, _, none⟩) Ak.out _).trans (((cell_far (p := ⟨Ae, _, none⟩) Ak.out _).trans (hHeld.2.1)))))), ((cell_far (p := ⟨Ae, _, none⟩) Ak.out _).trans (((cell_far (p := ⟨Ae, _, none⟩) Ak.out _).trans (((cell_far (p := ⟨Ae, _, none⟩) Ak.out _).trans (hHeld.2.2.1)))))), ((cell_far (p := ⟨Ae, _, none⟩) (by first | exact Nat.ne_of_lt (c5_ (by have := c4_ _ _ Ap; first | rwa [add_block] at this | exact this) Ar.out) | (rw [add_block]; exact Nat.ne_of_lt (c5_ (by have := c4_ _ _ Ap; first | rwa [add_block] at this | exact this) Ar.out)) | (show (Addr.add _ _).block ≠ _; rw [add_block]; exact Nat.ne_of_lt (c5_ (by have := c4_ _ _ Ap; first | rwa [add_block] at this | exact this) Ar.out)) | (dsimp only; exact Nat.ne_of_lt (c5_ (by have := c4_ _ _ Ap; first | rwa [add_block] at this | exact this) Ar.out))) _).trans (((cell_far (p := ⟨Ae, _, none⟩) (by first | exact Nat.ne_of_lt (c5_ (by have := c4_ _ _ Ap; first | rwa [add_block] at this | exact this) Ar.out) | (rw [add_block]; exact Nat.ne_of_lt (c5_ (by have := c4_ _ _ Ap; first | rwa [add_block] at this | exact this) Ar.out)) | (show (Addr.add _ _).block ≠ _; rw [add_block]; exact Nat.ne_of_lt (c5_ (by have := c4_ _ _ Ap; first | rwa [add_block] at this | exact this) Ar.out)) | (dsimp only; exact Nat.ne_of_lt (c5_ (by have := c4_ _ _ Ap; first | rwa [add_block] at this | exact this) Ar.out))) _).trans (((cell_far (p := ⟨Ae, _, none⟩) (by first | exact Nat.ne_of_lt (c5_ (by have := c4_ _ _ Ap; first | rwa [add_block] at this | exact this) Ar.out) | (rw [add_block]; exact Nat.ne_of_lt (c5_ (by have := c4_ _ _ Ap; first | rwa [add_block] at this | exact this) Ar.out)) | (show (Addr.add _ _).block ≠ _; rw [add_block]; exact Nat.ne_of_lt (c5_ (by have := c4_ _ _ Ap; first | rwa [add_block] at this | exact this) Ar.out)) | (dsimp only; exact Nat.ne_of_lt (c5_ (by have := c4_ _ _ Ap; first | rwa [add_block] at this | exact this) Ar.out))) _).trans (hHeld.2.2.2.1)))))), ((cell_far (p := ⟨Ae, _, none⟩) (by first | exact Nat.ne_of_lt (c5_ (by have := c4_ _ _ Am; first | rwa [add_block] at this | exact this) Ar.out) | (rw [add_block]; exact Nat.ne_of_lt (c5_ (by have := c4_ _ _ Am; first | rwa [add_block] at this | exact this) Ar.out)) | (show (Addr.add _ _).block ≠ _; rw [add_block]; exact Nat.ne_of_lt (c5_ (by have := c4_ _ _ Am; first | rwa [add_block] at this | exact this) Ar.out)) | (dsimp only; exact Nat.ne_of_lt (c5_ (by have := c4_ _ _ Am; first | rwa [add_block] at this | exact this) Ar.out))) _).trans (((cell_far (p := ⟨Ae, _, none⟩) (by first | exact Nat.ne_of_lt (c5_ (by have := c4_ _ _ Am; first | rwa [add_block] at this | exact this) Ar.out) | (rw [add_block]; exact Nat.ne_of_lt (c5_ (by have := c4_ _ _ Am; first | rwa [add_block] at this | exact this) Ar.out)) | (show (Addr.add _ _).block ≠ _; rw [add_block]; exact Nat.ne_of_lt (c5_ (by have := c4_ _ _ Am; first | rwa [add_block] at this | exact this) Ar.out)) | (dsimp only; exact Nat.ne_of_lt (c5_ (by have := c4_ _ _ Am; first | rwa [add_block] at this | exact this) Ar.out))) _).trans (((cell_far (p := ⟨Ae, _, none⟩) (by first | exact Nat.ne_of_lt (c5_ (by have := c4_ _ _ Am; first | rwa [add_block] at this | exact this) Ar.out) | (rw [add_block]; exact Nat.ne_of_lt (c5_ (by have := c4_ _ _ Am; first | rwa [add_block] at this | exact this) Ar.out)) | (show (Addr.add _ _).block ≠ _; rw [add_block]; exact Nat.ne_of_lt (c5_ (by have := c4_ _ _ Am; first | rwa [add_block] at this | exact this) Ar.out)) | (dsimp only; exact Nat.ne_of_lt (c5_ (by have := c4_ _ _ Am; first | rwa [add_block] at this | exact this) Ar.out))) _).trans (hHeld.2.2.2.2))))))⟩ (fun hHeld => ?_)
             clear hK K
             refine pure_ (i := 12) (N := some 15) (v := ?_) (a' := ?_) d17_ rfl rfl (any_of HT_.out (by kernel_rfl)) (fun _ _ _ h => h) (Or.inl ⟨by rfl, ?_⟩) ?_ ?_
             rotate_left
             ·intro w'
              go_simp
              with_reducible rfl
             rotate_left
             ·simp only [Act.put, n9, i64_w, i32_w]
              rfl
             refine done_ (done_of HT_.out (by kernel_rfl)) ?_
             have hnb102 := B0.out
             have hnc102 := Ak.out
             have hnb103 := B3.out
             have hnc103 := B2.out
             have hcz104_0 : w98.cell? ⟨Ae, 0, none⟩ = some (.string (⟨#[]⟩ : ByteArray)) := (blk_cell Ax.out 0).trans rfl
             have hcz104_1 : w98.cell? ⟨Ae, 1, none⟩ = some (.int .i64 0) := (blk_cell Ax.out 1).trans rfl
             have hcz104_2 : w98.cell? ⟨Ae, 2, none⟩ = some (.int .i64 0) := (blk_cell Ax.out 2).trans rfl
             have hfz104_0 := blk_frozen Ax.out 0
             have hfz104_1 := blk_frozen Ax.out 1
             have hfz104_2 := blk_frozen Ax.out 2
             have hnb105 := Au.out
             have hnc105 := Aa.out
             have hcz106_0 : w98.cell? ⟨A3, 0, none⟩ = some (.string A7) := (blk_cell A0.out 0).trans rfl
             have hcz106_1 : w98.cell? ⟨A3, 1, none⟩ = some (.int .i64 A5) := (blk_cell A0.out 1).trans rfl
             have hcz106_2 : w98.cell? ⟨A3, 2, none⟩ = some (.int .i64 A4) := (blk_cell A0.out 2).trans rfl
             have hfz106_0 := blk_frozen A0.out 0
             have hfz106_1 := blk_frozen A0.out 1
             have hfz106_2 := blk_frozen A0.out 2
             have p225 : 0 ≤ (x7_2 : Int) := of_decide_eq_true (by first | (with_reducible assumption) | assumption)
             have q225 : x7_2 < (l1.length : Int) := of_decide_eq_true (by first | (with_reducible assumption) | assumption)
             obtain ⟨ad225, e225, As, Av⟩ := at_T45 HR1.out x7_2 p225 q225
             obtain rfl : ad189 = ad225 := (by injection e225)
             have Bt : ad189.block ≠ Ae := Nat.ne_of_lt (c5_ (by have := c4_ _ _ As; first | rwa [add_block] at this | exact this) Ar.out)
             have Bl : ad189.block ≠ Ae := Nat.ne_of_lt (c5_ (by have := c4_ _ _ As; first | rwa [add_block] at this | exact this) Ar.out)
             have Bm : ad189.block ≠ Ae := Nat.ne_of_lt (c5_ (by have := c4_ _ _ As; first | rwa [add_block] at this | exact this) Ar.out)
             have Bi : ad189.block ≠ A3 := Nat.ne_of_lt (c5_ (by have := c4_ _ _ As; first | rwa [add_block] at this | exact this) By.out)
             have Bq : ad189.block ≠ A3 := Nat.ne_of_lt (c5_ (by have := c4_ _ _ As; first | rwa [add_block] at this | exact this) By.out)
             have Bn : ad189.block ≠ A3 := Nat.ne_of_lt (c5_ (by have := c4_ _ _ As; first | rwa [add_block] at this | exact this) By.out)
             replace As := (HB.out.cell (c4_ w _ As)).trans As
             replace Av := (HB.out.cell (c4_ w _ Av)).trans Av
             replace As := (cell_far (p := ⟨Ae, 0, none⟩) (by first | exact Bt | (rw [add_block]; exact Bt)) (.string t220)).trans As
             replace Av := (cell_far (p := ⟨Ae, 0, none⟩) (by first | exact Bt | (rw [add_block]; exact Bt)) (.string t220)).trans Av
             replace As := (cell_far (p := ⟨Ae, 1, none⟩) (by first | exact Bl | (rw [add_block]; exact Bl)) (.int .i64 t221)).trans As
             replace Av := (cell_far (p := ⟨Ae, 1, none⟩) (by first | exact Bl | (rw [add_block]; exact Bl)) (.int .i64 t221)).trans Av
             replace As := (cell_far (p := ⟨Ae, 2, none⟩) (by first | exact Bm | (rw [add_block]; exact Bm)) (.int .i64 t222)).trans As
             replace Av := (cell_far (p := ⟨Ae, 2, none⟩) (by first | exact Bm | (rw [add_block]; exact Bm)) (.int .i64 t222)).trans Av
             replace As := (cell_far (p := ⟨A3, 0, none⟩) (by first | exact Bi | (rw [add_block]; exact Bi)) (.string t220)).trans As
             replace Av := (cell_far (p := ⟨A3, 0, none⟩) (by first | exact Bi | (rw [add_block]; exact Bi)) (.string t220)).trans Av
             replace As := (cell_far (p := ⟨A3, 1, none⟩) (by first | exact Bq | (rw [add_block]; exact Bq)) (.int .i64 t221)).trans As
             replace Av := (cell_far (p := ⟨A3, 1, none⟩) (by first | exact Bq | (rw [add_block]; exact Bq)) (.int .i64 t221)).trans Av
             replace As := (cell_far (p := ⟨A3, 2, none⟩) (by first | exact Bn | (rw [add_block]; exact Bn)) (.int .i64 t222)).trans As
             replace Av := (cell_far (p := ⟨A3, 2, none⟩) (by first | exact Bn | (rw [add_block]; exact Bn)) (.int .i64 t222)).trans Av
             clear Bt
             clear Bl
             clear Bm
             clear Bi
             clear Bq
             clear Bn
             replace p225 := eq_true p225
             replace q225 := eq_true q225
             try go_wp2_with (first | ((with_reducible refine gate_callee (f := 17) rfl ?_); refine goesL_ (some 60) rfl rfl Try.func17 (by kernel_rfl) rfl #[.pointer (some ⟨g178, 0, none⟩), .int .i64 ((rd_T45 l1 x7_2).f1)] rfl (by (try simp only [List.map_toArray, List.map_cons, List.map_nil]); first | done | rfl) ?_; (with_reducible refine (wire_Reader_Text.calls k2 g178 Ai Ah Aj ((rd_T45 l1 x7_2).f1) t226 t227 t228 t229 w _ ?side1 ?side2 A93.out).mono ?_); (case side1 => repeat (first | (with_reducible first | exact A2.out | apply b9_ | apply c1_ | apply c2_ | refine c3_ ?_ Aa.out _ | refine c3_ ?_ B2.out _) | exact A2.out)); (case side2 => repeat (first | (with_reducible first | exact HB.out | apply b4_ | apply b5_ | apply b6_ | refine b7_ ?_ (b8_ A2.out) | refine b7_ ?_ Ag.out | refine b7_ ?_ B9.out) | exact HB.out)); rintro e w107 ⟨rfl, hi, hb, hk⟩; refine ⟨_, rfl, ?_⟩; have n0_ := Aside0.mk (KeepBut.blk hk (g' := A3) (o := .cells #[.string t220, .int .i64 t221, .int .i64 t222] 42 (0, 0)) (by (with_reducible repeat first | apply b1_ | apply b2_ | apply b3_); refine blk_put (cs := #[.string t220, .int .i64 t221, .int .i64 A4]) ?_ 2 _ rfl; (with_reducible repeat first | apply b1_ | apply b2_ | apply b3_); refine blk_put (cs := #[.string t220, .int .i64 A5, .int .i64 A4]) ?_ 1 _ rfl; (with_reducible repeat first | apply b1_ | apply b2_ | apply b3_); refine blk_put (cs := #[.string A7, .int .i64 A5, .int .i64 A4]) ?_ 0 _ rfl; (with_reducible repeat first | apply b1_ | apply b2_ | apply b3_); refine blk_far ?_ Ak.out _; (with_reducible repeat first | apply b1_ | apply b2_ | apply b3_); refine blk_far ?_ Ak.out _; (with_reducible repeat first | apply b1_ | apply b2_ | apply b3_); refine blk_far ?_ Ak.out _; (with_reducible repeat first | apply b1_ | apply b2_ | apply b3_); exact A0.out) Au.out (by simp)); have n1_ := Aside0.mk (KeepBut.blk hk (g' := Ae) (o := .cells #[.string t220, .int .i64 t221, .int .i64 t222] 42 (0, 0)) (by (with_reducible repeat first | apply b1_ | apply b2_ | apply b3_); refine blk_far ?_ B0.out _; (with_reducible repeat first | apply b1_ | apply b2_ | apply b3_); refine blk_far ?_ B0.out _; (with_reducible repeat first | apply b1_ | apply b2_ | apply b3_); refine blk_far ?_ B0.out _; (with_reducible repeat first | apply b1_ | apply b2_ | apply b3_); refine blk_put (cs := #[.string t220, .int .i64 t221, .int .i64 0]) ?_ 2 _ rfl; (with_reducible repeat first | apply b1_ | apply b2_ | apply b3_); refine blk_put (cs := #[.string t220, .int .i64 0, .int .i64 0]) ?_ 1 _ rfl; (with_reducible repeat first | apply b1_ | apply b2_ | apply b3_); refine blk_put (cs := #[.string (⟨#[]⟩ : ByteArray), .int .i64 0, .int .i64 0]) ?_ 0 _ rfl; (with_reducible repeat first | apply b1_ | apply b2_ | apply b3_); exact Ax.out) B3.out (by simp)); have n2_ := Aside0.mk (hb); have n3_ := Aside0.mk (hi); clear A0; clear Ax; clear HB; clear A2; have A0 := n0_; have Ax := n1_; have HB := n2_; have A2 := n3_; clear n0_ n1_ n2_ n3_; (try clear hb); (try clear hb2); (try clear hk); (try clear hi)))
             go_meet
             case rel => exact ⟨_, (t227), (t228), (t229), (t220), (t221), (t222), H', ⟨by have := HJ2.out; have := HK2.out; first | omega | exact Nat.le_refl _⟩, ⟨by (with_reducible repeat first | apply b1_ | apply b2_ | apply b3_); exact A0.out⟩, ⟨by repeat (first | (with_reducible first | exact A2.out | apply b9_ | apply c1_ | apply c2_ | refine c3_ ?_ Aa.out _ | refine c3_ ?_ B2.out _) | exact A2.out)⟩, ⟨by repeat (first | (with_reducible first | exact HB.out | apply b4_ | apply b5_ | apply b6_ | refine b7_ ?_ (b8_ A2.out) | refine b7_ ?_ Ag.out | refine b7_ ?_ B9.out) | exact HB.out)⟩⟩
            ·rw [if_neg c94] at H
             have c94b0 : (t226.toList == t223.toList) = false := beq_eq_false_iff_ne.mpr c94
             have c94b1 : (t226.toList != t223.toList) = true := bne_iff_ne.mpr c94
             obtain rfl := Option.some.inj H
             try go_wp2
             have n0_ := Aside0.mk (b2_ A0.out)
             have n1_ := Aside0.mk (c2_ A2.out)
             have n2_ := Aside0.mk (b6_ HB.out)
             clear A0
             clear A2
             clear HB
             have A0 := n0_
             have A2 := n1_
             have HB := n2_
             clear n0_ n1_ n2_
             have p219 : 0 ≤ (x7_2 : Int) := of_decide_eq_true (by first | (with_reducible assumption) | assumption)
             have q219 : x7_2 < (l1.length : Int) := of_decide_eq_true (by first | (with_reducible assumption) | assumption)
             obtain ⟨ad219, e219, Bb, Bc⟩ := at_T45 HR1.out x7_2 p219 q219
             have Am := Bc
             have Ap := Bb
             obtain rfl : ad189 = ad219 := (by injection e219)
             replace Bb := (HB.out.cell (c4_ w _ Bb)).trans Bb
             replace Bc := (HB.out.cell (c4_ w _ Bc)).trans Bc
             replace p219 := eq_true p219
             replace q219 := eq_true q219
             refine start_ (n := 13) (S := fun w' => w'.cell? ⟨A3, 0, none⟩ = some (.string A7) ∧ w'.cell? ⟨A3, 1, none⟩ = some (.int .i64 A5) ∧ w'.cell? ⟨A3, 2, none⟩ = some (.int .i64 A4) ∧ w'.cell? (ad189.add ((x7_2).toNat * 2)) = some (.int .u8 ((rd_T45 l1 x7_2).f0)) ∧ w'.cell? ⟨(ad189.add ((x7_2).toNat * 2)).block, (ad189.add ((x7_2).toNat * 2)).off + 1, none⟩ = some (.int .i64 ((rd_T45 l1 x7_2).f1))) (ds := []) d0_ (by kernel_rfl) rfl rfl ⟨(blk_cell A0.out 0).trans rfl, (blk_cell A0.out 1).trans rfl, (blk_cell A0.out 2).trans rfl, ((HB.out.cell (c4_ w _ Ap)).trans Ap), ((HB.out.cell (c4_ w _ Am)).trans Am)⟩ (fun hHeld => ?_); refine with_tabW mapmakerlaw02_WireReads.tab10 mapmakerlaw02_WireReads.bits10 (fun HT_ HW_ => ?_)
             generalize wr.drew = w108 at A0 A2 HB Bb Bc hHeld ⊢
             refine pure_ (i := 1) (N := some 45) (v := ?_) (a' := ?_) d1_ rfl rfl (any_of HT_.out (by kernel_rfl)) (fun _ _ _ h => h) (Or.inl ⟨by rfl, ?_⟩) ?_ ?_
             rotate_left
             ·intro w'
              go_simp
              with_reducible rfl
             rotate_left
             ·simp only [Act.put, n9, i64_w, i32_w]
              rfl
             refine pure_ (i := 2) (N := some 46) (v := ?_) (a' := ?_) d2_ rfl rfl (any_of HT_.out (by kernel_rfl)) (fun _ _ _ h => h) (Or.inl ⟨by rfl, ?_⟩) ?_ ?_
             rotate_left
             ·intro w'
              go_simp
              with_reducible rfl
             rotate_left
             ·simp only [Act.put, n9, i64_w, i32_w]
              rfl
             refine pure_ (i := 3) (N := some 47) (v := ?_) (a' := ?_) d3_ rfl rfl (any_of HT_.out (by kernel_rfl)) (fun _ _ _ h => h) (Or.inl ⟨by rfl, ?_⟩) ?_ ?_
             rotate_left
             ·intro w'
              go_simp
              with_reducible rfl
             rotate_left
             ·simp only [Act.put, n9, i64_w, i32_w]
              rfl
             refine pure_ (i := 4) (N := some 48) (v := ?_) (a' := ?_) d4_ rfl rfl (any_of HT_.out (by kernel_rfl)) (fun _ _ _ h => h) (Or.inl ⟨by rfl, ?_⟩) ?_ ?_
             rotate_left
             ·intro w'
              go_simp
              with_reducible rfl
             rotate_left
             ·simp only [Act.put, n9, i64_w, i32_w]
              rfl
             refine take_ (i := 0) (N := some 44) (v := ?_) (a' := ?_) d5_ rfl rfl (take_ofW HT_.out HW_.out (by kernel_rfl)) (fun _ _ _ h => h) (Or.inl ⟨by rfl, ?_⟩) hHeld ?_ ?_
             rotate_left
             ·rintro w' ⟨s0, s1, s2, s3, s4⟩
              go_simp
              with_reducible rfl
             rotate_left
             ·simp only [Act.put, n9, i64_w, i32_w]
              rfl
             refine take_ (i := 5) (N := some 49) (v := ?_) (a' := ?_) d6_ rfl rfl (take_ofW HT_.out HW_.out (by kernel_rfl)) (fun _ _ _ h => h) (Or.inl ⟨by rfl, ?_⟩) hHeld ?_ ?_
             rotate_left
             ·rintro w' ⟨s0, s1, s2, s3, s4⟩
              go_simp
              with_reducible rfl
             rotate_left
             ·simp only [Act.put, n9, i64_w, i32_w]
              rfl
             refine join_ (σ := Nat) 2 d7_ (fun s_ => [(50, .tuple #[.agg #[.string t220, .int .i64 t221, .int .i64 t222], .string t223]), (14, .pointer (some ⟨s_, 0, none⟩)), (43, .tuple #[.agg #[.string t220, .int .i64 t221, .int .i64 t222], .string t223]), (51, .agg #[.string t220, .int .i64 t221, .int .i64 t222]), (52, .string t223)]) (fun s_ w' => (w'.cell? ⟨A3, 0, none⟩ = some (.string A7) ∧ w'.cell? ⟨A3, 1, none⟩ = some (.int .i64 A5) ∧ w'.cell? ⟨A3, 2, none⟩ = some (.int .i64 A4) ∧ w'.cell? (ad189.add ((x7_2).toNat * 2)) = some (.int .u8 ((rd_T45 l1 x7_2).f0)) ∧ w'.cell? ⟨(ad189.add ((x7_2).toNat * 2)).block, (ad189.add ((x7_2).toNat * 2)).off + 1, none⟩ = some (.int .i64 ((rd_T45 l1 x7_2).f1))) ∧ (w'.heap[A3]? = some (.cells #[.string A7, .int .i64 A5, .int .i64 A4] 42 (0, 0))) ∧ (w'.heap[s_]? = some (.cells #[.string (⟨#[]⟩ : ByteArray), .int .i64 0, .int .i64 0] 42 (0, 0))) ∧ (w.heap.size ≤ s_) ∧ (w.heap.size ≤ s_) ∧ (g178 ≠ s_) ∧ (s_ ≠ g178) ∧ (A3 ≠ s_) ∧ (s_ ≠ A3) ∧ (IsS59 w w' g178 Ai Ah Aj) ∧ (Below w.heap.size w w')) ?_ ?_
             rotate_left
             ·intro hCont
              refine two_ (i := 6) (j := 10) (Ni := some 50) (Nj := some 14) d8_ d9_ rfl rfl rfl rfl (two_of HT_.out (by kernel_rfl)) (by decide) (by decide) (fun K hK => ?_) (fun K hK => ?_)
              ·skip
               refine goes_ Try.func26 (by kernel_rfl) rfl #[.agg #[.string A7, .int .i64 A5, .int .i64 A4], .int .i64 ((rd_T45 l1 x7_2).f1)] (by rfl) rfl rfl (by (try simp only [List.map_toArray, List.map_cons, List.map_nil]); first | done | rfl) ?_
               with_reducible refine (mapmakerref02_Text.calls k2 A7 A5 A4 ((rd_T45 l1 x7_2).f1) t220 t221 t222 t223 _ A92.out).mono ?_
               rintro e w109 ⟨rfl, hb⟩
               refine ⟨_, rfl, ?_⟩
               have n0_ := Aside0.mk (blk_below (g := A3) (o := .cells #[.string A7, .int .i64 A5, .int .i64 A4] 42 (0, 0)) (by (with_reducible repeat first | apply b1_ | apply b2_ | apply b3_); exact A0.out) hb)
               have n1_ := Aside0.mk (IsS59.below (by repeat (first | (with_reducible first | exact A2.out | apply b9_ | apply c1_ | apply c2_ | refine c3_ ?_ Aa.out _) | exact A2.out)) hb)
               have n2_ := Aside0.mk (below_step (by repeat (first | (with_reducible first | exact HB.out | apply b4_ | apply b5_ | apply b6_ | refine b7_ ?_ (b8_ A2.out) | refine b7_ ?_ Ag.out) | exact HB.out)) hb)
               clear A0
               clear A2
               clear HB
               have A0 := n0_
               have A2 := n1_
               have HB := n2_
               clear n0_ n1_ n2_
               (try clear hb)
               (try clear hb2)
               (try clear hk)
               (try clear hi)
               refine hK.out _ _ ⟨(blk_cell A0.out 0).trans rfl, (blk_cell A0.out 1).trans rfl, (blk_cell A0.out 2).trans rfl, ((HB.out.cell (c4_ w _ Ap)).trans Ap), ((HB.out.cell (c4_ w _ Am)).trans Am)⟩ (fun hHeld => ?_)
               clear hK K
               refine norm_ (a' := ?_) ?_ ?_
               rotate_left
               ·show Act.put _ (some 50) _ = _
                simp only [Act.put, n9, i64_w, i32_w]
                rfl
               refine pure_ (i := 7) (N := some 43) (v := ?_) (a' := ?_) d10_ rfl rfl (any_of HT_.out (by kernel_rfl)) (fun _ _ _ h => h) (Or.inl ⟨by rfl, ?_⟩) ?_ ?_
               rotate_left
               ·intro w'
                go_simp
                with_reducible rfl
               rotate_left
               ·simp only [Act.put, n9, i64_w, i32_w]
                rfl
               refine pure_ (i := 8) (N := some 51) (v := ?_) (a' := ?_) d11_ rfl rfl (any_of HT_.out (by kernel_rfl)) (fun _ _ _ h => h) (Or.inl ⟨by rfl, ?_⟩) ?_ ?_
               rotate_left
               ·intro w'
                go_simp
                with_reducible rfl
               rotate_left
               ·simp only [Act.put, n9, i64_w, i32_w]
                rfl
               refine pure_ (i := 9) (N := some 52) (v := ?_) (a' := ?_) d12_ rfl rfl (any_of HT_.out (by kernel_rfl)) (fun _ _ _ h => h) (Or.inl ⟨by rfl, ?_⟩) ?_ ?_
               rotate_left
               ·intro w'
                go_simp
                with_reducible rfl
               rotate_left
               ·simp only [Act.put, n9, i64_w, i32_w]
                rfl
               refine one_ (i := 10) (N := some 14) d7_ rfl rfl (one_of HT_.out (by kernel_rfl)) (by decide) (fun K hK => ?_)
               refine box_step ?hg (N := 14) ?hd (cs := #[.string (⟨#[]⟩ : ByteArray), .int .i64 0, .int .i64 0]) (t := 42) ?hr ?_; (case hd => rfl); (case hg => rfl); (case hr => first | (go_simp; done) | (go_simp; rfl))
               intro Ae hg w110 hbox hb
               have n0_ := Aside0.mk (blk_below (g := A3) (o := .cells #[.string A7, .int .i64 A5, .int .i64 A4] 42 (0, 0)) (by (with_reducible repeat first | apply b1_ | apply b2_ | apply b3_); exact A0.out) hb)
               have n1_ := Aside0.mk (IsS59.below (by repeat (first | (with_reducible first | exact A2.out | apply b9_ | apply c1_ | apply c2_ | refine c3_ ?_ Aa.out _) | exact A2.out)) hb)
               have n2_ := Aside0.mk (below_step (by repeat (first | (with_reducible first | exact HB.out | apply b4_ | apply b5_ | apply b6_ | refine b7_ ?_ (b8_ A2.out) | refine b7_ ?_ Ag.out) | exact HB.out)) hb)
               have n3_ := Aside0.mk (hbox)
               have n4_ := Aside0.mk ((by rw [hg]; exact (below_size (by repeat (first | (with_reducible first | exact HB.out | apply b4_ | apply b5_ | apply b6_ | refine b7_ ?_ (b8_ A2.out) | refine b7_ ?_ Ag.out) | exact HB.out))) : w.heap.size ≤ Ae))
               have n5_ := Aside0.mk ((by rw [hg]; exact (below_size (by repeat (first | (with_reducible first | exact HB.out | apply b4_ | apply b5_ | apply b6_ | refine b7_ ?_ (b8_ A2.out) | refine b7_ ?_ Ag.out) | exact HB.out))) : w.heap.size ≤ Ae))
               have n6_ := Aside0.mk ((by rw [hg]; exact Nat.ne_of_lt (blk_lt (g := A3) (o := .cells #[.string A7, .int .i64 A5, .int .i64 A4] 42 (0, 0)) (by (with_reducible repeat first | apply b1_ | apply b2_ | apply b3_); exact A0.out)) : A3 ≠ Ae))
               have n7_ := Aside0.mk ((by rw [hg]; exact Nat.ne_of_gt (blk_lt (g := A3) (o := .cells #[.string A7, .int .i64 A5, .int .i64 A4] 42 (0, 0)) (by (with_reducible repeat first | apply b1_ | apply b2_ | apply b3_); exact A0.out)) : Ae ≠ A3))
               have n8_ := Aside0.mk ((by rw [hg]; exact Nat.ne_of_lt (IsS59.lt (show IsS59 w _ g178 Ai Ah Aj from by repeat (first | (with_reducible first | exact A2.out | apply b9_ | apply c1_ | apply c2_ | refine c3_ ?_ Aa.out _) | exact A2.out))) : g178 ≠ Ae))
               have n9_ := Aside0.mk ((by rw [hg]; exact Nat.ne_of_gt (IsS59.lt (show IsS59 w _ g178 Ai Ah Aj from by repeat (first | (with_reducible first | exact A2.out | apply b9_ | apply c1_ | apply c2_ | refine c3_ ?_ Aa.out _) | exact A2.out))) : Ae ≠ g178))
               clear A0
               clear A2
               clear HB
               have A0 := n0_
               have A2 := n1_
               have HB := n2_
               have Ax := n3_
               have Ar := n4_
               have B9 := n5_
               have Ak := n6_
               have B0 := n7_
               have B2 := n8_
               have B3 := n9_
               clear n0_ n1_ n2_ n3_ n4_ n5_ n6_ n7_ n8_ n9_
               clear hb hbox hg
               refine hK.out _ _ ⟨(blk_cell A0.out 0).trans rfl, (blk_cell A0.out 1).trans rfl, (blk_cell A0.out 2).trans rfl, ((HB.out.cell (c4_ w _ Ap)).trans Ap), ((HB.out.cell (c4_ w _ Am)).trans Am)⟩ (fun hHeld => ?_)
               clear hK K
               refine norm_ (a' := ?_) ?_ ?_
               rotate_left
               ·show Act.put _ (some 14) _ = _
                simp only [Act.put, n9, i64_w, i32_w]
                rfl
               exact norm_ (by simp only [putAll, Act.put, n9]) (hCont (Ae) _ ⟨hHeld, (by (with_reducible repeat first | apply b1_ | apply b2_ | apply b3_); exact A0.out), (by (with_reducible repeat first | apply b1_ | apply b2_ | apply b3_); exact Ax.out), Ar.out, B9.out, B2.out, B3.out, Ak.out, B0.out, (by repeat (first | (with_reducible first | exact A2.out | apply b9_ | apply c1_ | apply c2_ | refine c3_ ?_ Aa.out _ | refine c3_ ?_ B2.out _) | exact A2.out)), (by repeat (first | (with_reducible first | exact HB.out | apply b4_ | apply b5_ | apply b6_ | refine b7_ ?_ (b8_ A2.out) | refine b7_ ?_ Ag.out | refine b7_ ?_ B9.out) | exact HB.out))⟩)
              ·skip
               refine box_step ?hg (N := 14) ?hd (cs := #[.string (⟨#[]⟩ : ByteArray), .int .i64 0, .int .i64 0]) (t := 42) ?hr ?_; (case hd => rfl); (case hg => rfl); (case hr => first | (go_simp; done) | (go_simp; rfl))
               intro Ae hg w109 hbox hb
               have n0_ := Aside0.mk (blk_below (g := A3) (o := .cells #[.string A7, .int .i64 A5, .int .i64 A4] 42 (0, 0)) (by (with_reducible repeat first | apply b1_ | apply b2_ | apply b3_); exact A0.out) hb)
               have n1_ := Aside0.mk (IsS59.below (by repeat (first | (with_reducible first | exact A2.out | apply b9_ | apply c1_ | apply c2_ | refine c3_ ?_ Aa.out _) | exact A2.out)) hb)
               have n2_ := Aside0.mk (below_step (by repeat (first | (with_reducible first | exact HB.out | apply b4_ | apply b5_ | apply b6_ | refine b7_ ?_ (b8_ A2.out) | refine b7_ ?_ Ag.out) | exact HB.out)) hb)
               have n3_ := Aside0.mk (hbox)
               have n4_ := Aside0.mk ((by rw [hg]; exact (below_size (by repeat (first | (with_reducible first | exact HB.out | apply b4_ | apply b5_ | apply b6_ | refine b7_ ?_ (b8_ A2.out) | refine b7_ ?_ Ag.out) | exact HB.out))) : w.heap.size ≤ Ae))
               have n5_ := Aside0.mk ((by rw [hg]; exact (below_size (by repeat (first | (with_reducible first | exact HB.out | apply b4_ | apply b5_ | apply b6_ | refine b7_ ?_ (b8_ A2.out) | refine b7_ ?_ Ag.out) | exact HB.out))) : w.heap.size ≤ Ae))
               have n6_ := Aside0.mk ((by rw [hg]; exact Nat.ne_of_lt (blk_lt (g := A3) (o := .cells #[.string A7, .int .i64 A5, .int .i64 A4] 42 (0, 0)) (by (with_reducible repeat first | apply b1_ | apply b2_ | apply b3_); exact A0.out)) : A3 ≠ Ae))
               have n7_ := Aside0.mk ((by rw [hg]; exact Nat.ne_of_gt (blk_lt (g := A3) (o := .cells #[.string A7, .int .i64 A5, .int .i64 A4] 42 (0, 0)) (by (with_reducible repeat first | apply b1_ | apply b2_ | apply b3_); exact A0.out)) : Ae ≠ A3))
               have n8_ := Aside0.mk ((by rw [hg]; exact Nat.ne_of_lt (IsS59.lt (show IsS59 w _ g178 Ai Ah Aj from by repeat (first | (with_reducible first | exact A2.out | apply b9_ | apply c1_ | apply c2_ | refine c3_ ?_ Aa.out _) | exact A2.out))) : g178 ≠ Ae))
               have n9_ := Aside0.mk ((by rw [hg]; exact Nat.ne_of_gt (IsS59.lt (show IsS59 w _ g178 Ai Ah Aj from by repeat (first | (with_reducible first | exact A2.out | apply b9_ | apply c1_ | apply c2_ | refine c3_ ?_ Aa.out _) | exact A2.out))) : Ae ≠ g178))
               clear A0
               clear A2
               clear HB
               have A0 := n0_
               have A2 := n1_
               have HB := n2_
               have Ax := n3_
               have Ar := n4_
               have B9 := n5_
               have Ak := n6_
               have B0 := n7_
               have B2 := n8_
               have B3 := n9_
               clear n0_ n1_ n2_ n3_ n4_ n5_ n6_ n7_ n8_ n9_
               clear hb hbox hg
               refine hK.out _ _ ⟨(blk_cell A0.out 0).trans rfl, (blk_cell A0.out 1).trans rfl, (blk_cell A0.out 2).trans rfl, ((HB.out.cell (c4_ w _ Ap)).trans Ap), ((HB.out.cell (c4_ w _ Am)).trans Am)⟩ (fun hHeld => ?_)
               clear hK K
               refine norm_ (a' := ?_) ?_ ?_
               rotate_left
               ·show Act.put _ (some 14) _ = _
                simp only [Act.put, n9, i64_w, i32_w]
                rfl
               refine one_ (i := 6) (N := some 50) d13_ rfl rfl (one_of HT_.out (by kernel_rfl)) (by decide) (fun K hK => ?_)
               refine goes_ Try.func26 (by kernel_rfl) rfl #[.agg #[.string A7, .int .i64 A5, .int .i64 A4], .int .i64 ((rd_T45 l1 x7_2).f1)] (by rfl) rfl rfl (by (try simp only [List.map_toArray, List.map_cons, List.map_nil]); first | done | rfl) ?_
               with_reducible refine (mapmakerref02_Text.calls k2 A7 A5 A4 ((rd_T45 l1 x7_2).f1) t220 t221 t222 t223 _ A92.out).mono ?_
               rintro e w110 ⟨rfl, hb⟩
               refine ⟨_, rfl, ?_⟩
               have n0_ := Aside0.mk (blk_below (g := A3) (o := .cells #[.string A7, .int .i64 A5, .int .i64 A4] 42 (0, 0)) (by (with_reducible repeat first | apply b1_ | apply b2_ | apply b3_); exact A0.out) hb)
               have n1_ := Aside0.mk (IsS59.below (by repeat (first | (with_reducible first | exact A2.out | apply b9_ | apply c1_ | apply c2_ | refine c3_ ?_ Aa.out _ | refine c3_ ?_ B2.out _) | exact A2.out)) hb)
               have n2_ := Aside0.mk (blk_below (g := Ae) (o := .cells #[.string (⟨#[]⟩ : ByteArray), .int .i64 0, .int .i64 0] 42 (0, 0)) (by (with_reducible repeat first | apply b1_ | apply b2_ | apply b3_); exact Ax.out) hb)
               have n3_ := Aside0.mk (below_step (by repeat (first | (with_reducible first | exact HB.out | apply b4_ | apply b5_ | apply b6_ | refine b7_ ?_ (b8_ A2.out) | refine b7_ ?_ Ag.out | refine b7_ ?_ B9.out) | exact HB.out)) hb)
               clear A0
               clear A2
               clear Ax
               clear HB
               have A0 := n0_
               have A2 := n1_
               have Ax := n2_
               have HB := n3_
               clear n0_ n1_ n2_ n3_
               (try clear hb)
               (try clear hb2)
               (try clear hk)
               (try clear hi)
               refine hK.out _ _ ⟨(blk_cell A0.out 0).trans rfl, (blk_cell A0.out 1).trans rfl, (blk_cell A0.out 2).trans rfl, ((HB.out.cell (c4_ w _ Ap)).trans Ap), ((HB.out.cell (c4_ w _ Am)).trans Am)⟩ (fun hHeld => ?_)
               clear hK K
               refine norm_ (a' := ?_) ?_ ?_
               rotate_left
               ·show Act.put _ (some 50) _ = _
                simp only [Act.put, n9, i64_w, i32_w]
                rfl
               refine pure_ (i := 7) (N := some 43) (v := ?_) (a' := ?_) d14_ rfl rfl (any_of HT_.out (by kernel_rfl)) (fun _ _ _ h => h) (Or.inl ⟨by rfl, ?_⟩) ?_ ?_
               rotate_left
               ·intro w'
                go_simp
                with_reducible rfl
               rotate_left
               ·simp only [Act.put, n9, i64_w, i32_w]
                rfl
               refine pure_ (i := 8) (N := some 51) (v := ?_) (a' := ?_) d15_ rfl rfl (any_of HT_.out (by kernel_rfl)) (fun _ _ _ h => h) (Or.inl ⟨by rfl, ?_⟩) ?_ ?_
               rotate_left
               ·intro w'
                go_simp
                with_reducible rfl
               rotate_left
               ·simp only [Act.put, n9, i64_w, i32_w]
                rfl
               refine pure_ (i := 9) (N := some 52) (v := ?_) (a' := ?_) d7_ rfl rfl (any_of HT_.out (by kernel_rfl)) (fun _ _ _ h => h) (Or.inl ⟨by rfl, ?_⟩) ?_ ?_
               rotate_left
               ·intro w'
                go_simp
                with_reducible rfl
               rotate_left
               ·simp only [Act.put, n9, i64_w, i32_w]
                rfl
               exact norm_ (by simp only [putAll, Act.put, n9]) (hCont (Ae) _ ⟨hHeld, (by (with_reducible repeat first | apply b1_ | apply b2_ | apply b3_); exact A0.out), (by (with_reducible repeat first | apply b1_ | apply b2_ | apply b3_); exact Ax.out), Ar.out, B9.out, B2.out, B3.out, Ak.out, B0.out, (by repeat (first | (with_reducible first | exact A2.out | apply b9_ | apply c1_ | apply c2_ | refine c3_ ?_ Aa.out _ | refine c3_ ?_ B2.out _) | exact A2.out)), (by repeat (first | (with_reducible first | exact HB.out | apply b4_ | apply b5_ | apply b6_ | refine b7_ ?_ (b8_ A2.out) | refine b7_ ?_ Ag.out | refine b7_ ?_ B9.out) | exact HB.out))⟩)
             rintro Ae w111 ⟨hS_, h0_, h1_, h2_, h3_, h4_, h5_, h6_, h7_, h8_, h9_⟩
             have n0_ : Aside0 (w111.heap[A3]? = some (.cells #[.string A7, .int .i64 A5, .int .i64 A4] 42 (0, 0))) := ⟨h0_⟩
             have n1_ : Aside0 (w111.heap[Ae]? = some (.cells #[.string (⟨#[]⟩ : ByteArray), .int .i64 0, .int .i64 0] 42 (0, 0))) := ⟨h1_⟩
             have n2_ : Aside0 (w.heap.size ≤ Ae) := ⟨h2_⟩
             have n3_ : Aside0 (w.heap.size ≤ Ae) := ⟨h3_⟩
             have n4_ : Aside0 (g178 ≠ Ae) := ⟨h4_⟩
             have n5_ : Aside0 (Ae ≠ g178) := ⟨h5_⟩
             have n6_ : Aside0 (A3 ≠ Ae) := ⟨h6_⟩
             have n7_ : Aside0 (Ae ≠ A3) := ⟨h7_⟩
             have n8_ : Aside0 (IsS59 w w111 g178 Ai Ah Aj) := ⟨h8_⟩
             have n9_ : Aside0 (Below w.heap.size w w111) := ⟨h9_⟩
             clear A0
             clear A2
             clear HB
             clear h0_ h1_ h2_ h3_ h4_ h5_ h6_ h7_ h8_ h9_
             have A0 := n0_
             have Ax := n1_
             have Ar := n2_
             have B9 := n3_
             have B2 := n4_
             have B3 := n5_
             have Ak := n6_
             have B0 := n7_
             have A2 := n8_
             have HB := n9_
             clear n0_ n1_ n2_ n3_ n4_ n5_ n6_ n7_ n8_ n9_
             have hHeld : w111.cell? ⟨A3, 0, none⟩ = some (.string A7) ∧ w111.cell? ⟨A3, 1, none⟩ = some (.int .i64 A5) ∧ w111.cell? ⟨A3, 2, none⟩ = some (.int .i64 A4) ∧ w111.cell? (ad189.add ((x7_2).toNat * 2)) = some (.int .u8 ((rd_T45 l1 x7_2).f0)) ∧ w111.cell? ⟨(ad189.add ((x7_2).toNat * 2)).block, (ad189.add ((x7_2).toNat * 2)).off + 1, none⟩ = some (.int .i64 ((rd_T45 l1 x7_2).f1)) := hS_
             refine norm_ (a' := ?_) ?_ ?_
             rotate_left
             ·simp only [putAll, Act.put, n9]
              rfl
             refine one_ (i := 11) (N := none) d16_ rfl rfl (one_of HT_.out (by kernel_rfl)) (by decide) (fun K hK => ?_)
             have hs112 : w111.cell? ⟨Ae, 0, none⟩ = some (.string (⟨#[]⟩ : ByteArray)) := (blk_cell Ax.out 0).trans rfl
             have hfs112 := blk_frozen Ax.out 0
             have hns112_0 := Ak.out
             have hms112_0 := B0.out
             have hs113 : w111.cell? ⟨Ae, 1, none⟩ = some (.int .i64 0) := (blk_cell Ax.out 1).trans rfl
             have hfs113 := blk_frozen Ax.out 1
             have hns113_0 := Ak.out
             have hms113_0 := B0.out
             have hs114 : w111.cell? ⟨Ae, 2, none⟩ = some (.int .i64 0) := (blk_cell Ax.out 2).trans rfl
             have hfs114 := blk_frozen Ax.out 2
             have hns114_0 := Ak.out
             have hms114_0 := B0.out
             refine skip_ (w1 := ?_) (by rfl) rfl ?_ ?_
             rotate_left
             ·go_simp
              rfl
             refine hK.out _ _ ⟨((cell_far (p := ⟨Ae, _, none⟩) Ak.out _).trans (((cell_far (p := ⟨Ae, _, none⟩) Ak.out _).trans (((cell_far (p := ⟨Ae, _, none⟩) Ak.out _).trans (hHeld.1)))))), ((cell_far (p := ⟨Ae, _, none⟩) Ak.out _).trans (((cell_far (p := ⟨Ae, _, none⟩) Ak.out _).trans (((cell_far (p := ⟨Ae, _, none⟩) Ak.out _).trans (hHeld.2.1)))))), ((cell_far (p := ⟨Ae, _, none⟩) Ak.out _).trans (((cell_far (p := ⟨Ae, _, none⟩) Ak.out _).trans (((cell_far (p := ⟨Ae, _, none⟩) Ak.out _).trans (hHeld.2.2.1)))))), ((cell_far (p := ⟨Ae, _, none⟩) (by first | exact Nat.ne_of_lt (c5_ (by have := c4_ _ _ Ap; first | rwa [add_block] at this | exact this) Ar.out) | (rw [add_block]; exact Nat.ne_of_lt (c5_ (by have := c4_ _ _ Ap; first | rwa [add_block] at this | exact this) Ar.out)) | (show (Addr.add _ _).block ≠ _; rw [add_block]; exact Nat.ne_of_lt (c5_ (by have := c4_ _ _ Ap; first | rwa [add_block] at this | exact this) Ar.out)) | (dsimp only; exact Nat.ne_of_lt (c5_ (by have := c4_ _ _ Ap; first | rwa [add_block] at this | exact this) Ar.out))) _).trans (((cell_far (p := ⟨Ae, _, none⟩) (by first | exact Nat.ne_of_lt (c5_ (by have := c4_ _ _ Ap; first | rwa [add_block] at this | exact this) Ar.out) | (rw [add_block]; exact Nat.ne_of_lt (c5_ (by have := c4_ _ _ Ap; first | rwa [add_block] at this | exact this) Ar.out)) | (show (Addr.add _ _).block ≠ _; rw [add_block]; exact Nat.ne_of_lt (c5_ (by have := c4_ _ _ Ap; first | rwa [add_block] at this | exact this) Ar.out)) | (dsimp only; exact Nat.ne_of_lt (c5_ (by have := c4_ _ _ Ap; first | rwa [add_block] at this | exact this) Ar.out))) _).trans (((cell_far (p := ⟨Ae, _, none⟩) (by first | exact Nat.ne_of_lt (c5_ (by have := c4_ _ _ Ap; first | rwa [add_block] at this | exact this) Ar.out) | (rw [add_block]; exact Nat.ne_of_lt (c5_ (by have := c4_ _ _ Ap; first | rwa [add_block] at this | exact this) Ar.out)) | (show (Addr.add _ _).block ≠ _; rw [add_block]; exact Nat.ne_of_lt (c5_ (by have := c4_ _ _ Ap; first | rwa [add_block] at this | exact this) Ar.out)) | (dsimp only; exact Nat.ne_of_lt (c5_ (by have := c4_ _ _ Ap; first | rwa [add_block] at this | exact this) Ar.out))) _).trans (hHeld.2.2.2.1)))))), ((cell_far (p := ⟨Ae, _, none⟩) (by first | exact Nat.ne_of_lt (c5_ (by have := c4_ _ _ Am; first | rwa [add_block] at this | exact this) Ar.out) | (rw [add_block]; exact Nat.ne_of_lt (c5_ (by have := c4_ _ _ Am; first | rwa [add_block] at this | exact this) Ar.out)) | (show (Addr.add _ _).block ≠ _; rw [add_block]; exact Nat.ne_of_lt (c5_ (by have := c4_ _ _ Am; first | rwa [add_block] at this | exact this) Ar.out)) | (dsimp only; exact Nat.ne_of_lt (c5_ (by have := c4_ _ _ Am; first | rwa [add_block] at this | exact this) Ar.out))) _).trans (((cell_far (p := ⟨Ae, _, none⟩) (by first | exact Nat.ne_of_lt (c5_ (by have := c4_ _ _ Am; first | rwa [add_block] at this | exact this) Ar.out) | (rw [add_block]; exact Nat.ne_of_lt (c5_ (by have := c4_ _ _ Am; first | rwa [add_block] at this | exact this) Ar.out)) | (show (Addr.add _ _).block ≠ _; rw [add_block]; exact Nat.ne_of_lt (c5_ (by have := c4_ _ _ Am; first | rwa [add_block] at this | exact this) Ar.out)) | (dsimp only; exact Nat.ne_of_lt (c5_ (by have := c4_ _ _ Am; first | rwa [add_block] at this | exact this) Ar.out))) _).trans (((cell_far (p := ⟨Ae, _, none⟩) (by first | exact Nat.ne_of_lt (c5_ (by have := c4_ _ _ Am; first | rwa [add_block] at this | exact this) Ar.out) | (rw [add_block]; exact Nat.ne_of_lt (c5_ (by have := c4_ _ _ Am; first | rwa [add_block] at this | exact this) Ar.out)) | (show (Addr.add _ _).block ≠ _; rw [add_block]; exact Nat.ne_of_lt (c5_ (by have := c4_ _ _ Am; first | rwa [add_block] at this | exact this) Ar.out)) | (dsimp only; exact Nat.ne_of_lt (c5_ (by have := c4_ _ _ Am; first | rwa [add_block] at this | exact this) Ar.out))) _).trans (hHeld.2.2.2.2))))))⟩ (fun hHeld => ?_)
             clear hK K
             refine pure_ (i := 12) (N := some 15) (v := ?_) (a' := ?_) d17_ rfl rfl (any_of HT_.out (by kernel_rfl)) (fun _ _ _ h => h) (Or.inl ⟨by rfl, ?_⟩) ?_ ?_
             rotate_left
             ·intro w'
              go_simp
              with_reducible rfl
             rotate_left
             ·simp only [Act.put, n9, i64_w, i32_w]
              rfl
             refine done_ (done_of HT_.out (by kernel_rfl)) ?_
             have hnb115 := B0.out
             have hnc115 := Ak.out
             have hnb116 := B3.out
             have hnc116 := B2.out
             have hcz117_0 : w111.cell? ⟨Ae, 0, none⟩ = some (.string (⟨#[]⟩ : ByteArray)) := (blk_cell Ax.out 0).trans rfl
             have hcz117_1 : w111.cell? ⟨Ae, 1, none⟩ = some (.int .i64 0) := (blk_cell Ax.out 1).trans rfl
             have hcz117_2 : w111.cell? ⟨Ae, 2, none⟩ = some (.int .i64 0) := (blk_cell Ax.out 2).trans rfl
             have hfz117_0 := blk_frozen Ax.out 0
             have hfz117_1 := blk_frozen Ax.out 1
             have hfz117_2 := blk_frozen Ax.out 2
             have hnb118 := Au.out
             have hnc118 := Aa.out
             have hcz119_0 : w111.cell? ⟨A3, 0, none⟩ = some (.string A7) := (blk_cell A0.out 0).trans rfl
             have hcz119_1 : w111.cell? ⟨A3, 1, none⟩ = some (.int .i64 A5) := (blk_cell A0.out 1).trans rfl
             have hcz119_2 : w111.cell? ⟨A3, 2, none⟩ = some (.int .i64 A4) := (blk_cell A0.out 2).trans rfl
             have hfz119_0 := blk_frozen A0.out 0
             have hfz119_1 := blk_frozen A0.out 1
             have hfz119_2 := blk_frozen A0.out 2
             have p225 : 0 ≤ (x7_2 : Int) := of_decide_eq_true (by first | (with_reducible assumption) | assumption)
             have q225 : x7_2 < (l1.length : Int) := of_decide_eq_true (by first | (with_reducible assumption) | assumption)
             obtain ⟨ad225, e225, As, Av⟩ := at_T45 HR1.out x7_2 p225 q225
             obtain rfl : ad189 = ad225 := (by injection e225)
             have Bt : ad189.block ≠ Ae := Nat.ne_of_lt (c5_ (by have := c4_ _ _ As; first | rwa [add_block] at this | exact this) Ar.out)
             have Bl : ad189.block ≠ Ae := Nat.ne_of_lt (c5_ (by have := c4_ _ _ As; first | rwa [add_block] at this | exact this) Ar.out)
             have Bm : ad189.block ≠ Ae := Nat.ne_of_lt (c5_ (by have := c4_ _ _ As; first | rwa [add_block] at this | exact this) Ar.out)
             have Bi : ad189.block ≠ A3 := Nat.ne_of_lt (c5_ (by have := c4_ _ _ As; first | rwa [add_block] at this | exact this) By.out)
             have Bq : ad189.block ≠ A3 := Nat.ne_of_lt (c5_ (by have := c4_ _ _ As; first | rwa [add_block] at this | exact this) By.out)
             have Bn : ad189.block ≠ A3 := Nat.ne_of_lt (c5_ (by have := c4_ _ _ As; first | rwa [add_block] at this | exact this) By.out)
             replace As := (HB.out.cell (c4_ w _ As)).trans As
             replace Av := (HB.out.cell (c4_ w _ Av)).trans Av
             replace As := (cell_far (p := ⟨Ae, 0, none⟩) (by first | exact Bt | (rw [add_block]; exact Bt)) (.string t220)).trans As
             replace Av := (cell_far (p := ⟨Ae, 0, none⟩) (by first | exact Bt | (rw [add_block]; exact Bt)) (.string t220)).trans Av
             replace As := (cell_far (p := ⟨Ae, 1, none⟩) (by first | exact Bl | (rw [add_block]; exact Bl)) (.int .i64 t221)).trans As
             replace Av := (cell_far (p := ⟨Ae, 1, none⟩) (by first | exact Bl | (rw [add_block]; exact Bl)) (.int .i64 t221)).trans Av
             replace As := (cell_far (p := ⟨Ae, 2, none⟩) (by first | exact Bm | (rw [add_block]; exact Bm)) (.int .i64 t222)).trans As
             replace Av := (cell_far (p := ⟨Ae, 2, none⟩) (by first | exact Bm | (rw [add_block]; exact Bm)) (.int .i64 t222)).trans Av
             replace As := (cell_far (p := ⟨A3, 0, none⟩) (by first | exact Bi | (rw [add_block]; exact Bi)) (.string t220)).trans As
             replace Av := (cell_far (p := ⟨A3, 0, none⟩) (by first | exact Bi | (rw [add_block]; exact Bi)) (.string t220)).trans Av
             replace As := (cell_far (p := ⟨A3, 1, none⟩) (by first | exact Bq | (rw [add_block]; exact Bq)) (.int .i64 t221)).trans As
             replace Av := (cell_far (p := ⟨A3, 1, none⟩) (by first | exact Bq | (rw [add_block]; exact Bq)) (.int .i64 t221)).trans Av
             replace As := (cell_far (p := ⟨A3, 2, none⟩) (by first | exact Bn | (rw [add_block]; exact Bn)) (.int .i64 t222)).trans As
             replace Av := (cell_far (p := ⟨A3, 2, none⟩) (by first | exact Bn | (rw [add_block]; exact Bn)) (.int .i64 t222)).trans Av
             clear Bt
             clear Bl
             clear Bm
             clear Bi
             clear Bq
             clear Bn
             replace p225 := eq_true p225
             replace q225 := eq_true q225
             try go_wp2_with (first | ((with_reducible refine gate_callee (f := 17) rfl ?_); refine goesL_ (some 60) rfl rfl Try.func17 (by kernel_rfl) rfl #[.pointer (some ⟨g178, 0, none⟩), .int .i64 ((rd_T45 l1 x7_2).f1)] rfl (by (try simp only [List.map_toArray, List.map_cons, List.map_nil]); first | done | rfl) ?_; (with_reducible refine (wire_Reader_Text.calls k2 g178 Ai Ah Aj ((rd_T45 l1 x7_2).f1) t226 t227 t228 t229 w _ ?side1 ?side2 A93.out).mono ?_); (case side1 => repeat (first | (with_reducible first | exact A2.out | apply b9_ | apply c1_ | apply c2_ | refine c3_ ?_ Aa.out _ | refine c3_ ?_ B2.out _) | exact A2.out)); (case side2 => repeat (first | (with_reducible first | exact HB.out | apply b4_ | apply b5_ | apply b6_ | refine b7_ ?_ (b8_ A2.out) | refine b7_ ?_ Ag.out | refine b7_ ?_ B9.out) | exact HB.out)); rintro e w120 ⟨rfl, hi, hb, hk⟩; refine ⟨_, rfl, ?_⟩; have n0_ := Aside0.mk (KeepBut.blk hk (g' := A3) (o := .cells #[.string t220, .int .i64 t221, .int .i64 t222] 42 (0, 0)) (by (with_reducible repeat first | apply b1_ | apply b2_ | apply b3_); refine blk_put (cs := #[.string t220, .int .i64 t221, .int .i64 A4]) ?_ 2 _ rfl; (with_reducible repeat first | apply b1_ | apply b2_ | apply b3_); refine blk_put (cs := #[.string t220, .int .i64 A5, .int .i64 A4]) ?_ 1 _ rfl; (with_reducible repeat first | apply b1_ | apply b2_ | apply b3_); refine blk_put (cs := #[.string A7, .int .i64 A5, .int .i64 A4]) ?_ 0 _ rfl; (with_reducible repeat first | apply b1_ | apply b2_ | apply b3_); refine blk_far ?_ Ak.out _; (with_reducible repeat first | apply b1_ | apply b2_ | apply b3_); refine blk_far ?_ Ak.out _; (with_reducible repeat first | apply b1_ | apply b2_ | apply b3_); refine blk_far ?_ Ak.out _; (with_reducible repeat first | apply b1_ | apply b2_ | apply b3_); exact A0.out) Au.out (by simp)); have n1_ := Aside0.mk (KeepBut.blk hk (g' := Ae) (o := .cells #[.string t220, .int .i64 t221, .int .i64 t222] 42 (0, 0)) (by (with_reducible repeat first | apply b1_ | apply b2_ | apply b3_); refine blk_far ?_ B0.out _; (with_reducible repeat first | apply b1_ | apply b2_ | apply b3_); refine blk_far ?_ B0.out _; (with_reducible repeat first | apply b1_ | apply b2_ | apply b3_); refine blk_far ?_ B0.out _; (with_reducible repeat first | apply b1_ | apply b2_ | apply b3_); refine blk_put (cs := #[.string t220, .int .i64 t221, .int .i64 0]) ?_ 2 _ rfl; (with_reducible repeat first | apply b1_ | apply b2_ | apply b3_); refine blk_put (cs := #[.string t220, .int .i64 0, .int .i64 0]) ?_ 1 _ rfl; (with_reducible repeat first | apply b1_ | apply b2_ | apply b3_); refine blk_put (cs := #[.string (⟨#[]⟩ : ByteArray), .int .i64 0, .int .i64 0]) ?_ 0 _ rfl; (with_reducible repeat first | apply b1_ | apply b2_ | apply b3_); exact Ax.out) B3.out (by simp)); have n2_ := Aside0.mk (hb); have n3_ := Aside0.mk (hi); clear A0; clear Ax; clear HB; clear A2; have A0 := n0_; have Ax := n1_; have HB := n2_; have A2 := n3_; clear n0_ n1_ n2_ n3_; (try clear hb); (try clear hb2); (try clear hk); (try clear hi)))
             go_ret
             exact ⟨by first | rfl | (simp [errW_none, errW_some] <;> rfl) | (simp [*, errW_none, errW_some] <;> rfl), by repeat (first | (with_reducible first | exact HB.out | apply b4_ | apply b5_ | apply b6_ | refine b7_ ?_ (b8_ A2.out) | refine b7_ ?_ Ag.out | refine b7_ ?_ B9.out) | exact HB.out)⟩
        case rest =>
         clear HC17
         try clear c1
         try clear c2
         try clear p2
         try clear q2
         try clear hx2
         try clear c9
         try clear c10
         try clear c11
         try clear c17
         try clear p21
         try clear q21
         try clear hx21
         try clear p22
         try clear q22
         try clear hx22
         try clear c26
         try clear c94
         try clear c94b0
         try clear c94b1
         try clear c102
         try clear c103
         try clear c105
         try clear c115
         try clear c116
         try clear c118
         try clear hcz104_0
         try clear hcz104_1
         try clear hcz104_2
         try clear hcz106_0
         try clear hcz106_1
         try clear hcz106_2
         try clear hcz117_0
         try clear hcz117_1
         try clear hcz117_2
         try clear hcz119_0
         try clear hcz119_1
         try clear hcz119_2
         try clear hfz104_0
         try clear hfz104_1
         try clear hfz104_2
         try clear hfz106_0
         try clear hfz106_1
         try clear hfz106_2
         try clear hfz117_0
         try clear hfz117_1
         try clear hfz117_2
         try clear hfz119_0
         try clear hfz119_1
         try clear hfz119_2
         try clear Bb
         try clear Bc
         try clear As
         try clear Av
         try clear p219
         try clear p225
         try clear q219
         try clear q225
         obtain ⟨kq, Bv, Bw, Bx, Ab, Ac, Ad, HA, HJ16, A0, A2, HB⟩ := hcut
         cases kq with
         | zero => exact absurd HA.out (by simp [mapmakerlaw02_WireReads.j2])
         | succ kj16 =>
          have H := HA.out
          clear HA
          simp only [mapmakerlaw02_WireReads.j2] at H
          replace H := Option.bind_eq_some_iff.mp H
          obtain ⟨⟨t230, t231, t232, t233⟩, A1210, H⟩ := H
          replace H : ((mapmakerref02_Left.f Ab Ac Ad).bind fun t234 => (if t230 = t234 then ((wire_Reader_Err.f t231 t232 t233).bind fun bt235 => ((mapmakerref02_Err.f Ab Ac Ad).bind fun t239 => (if bt235.1 = t239 then ((wire_Reader_Done.f bt235.2.1 bt235.2.2.1 bt235.2.2.2).bind fun bt240 => ((mapmakerref02_Done.f Ab Ac Ad).bind fun t244 => (if bt240.1 = t244 then (mapmakerlaw02_WireReads.l0 kj16 l1 (wrap64 (x7_2 + 1)) bt240.2.1 bt240.2.2.1 bt240.2.2.2 Ab Ac Ad) else (some false)))) else (some false)))) else (some false))) = some r := H
          have A121 := Aside0.mk A1210
          clear A1210
          replace H := Option.bind_eq_some_iff.mp H
          obtain ⟨t234, A1220, H⟩ := H
          replace H : (if t230 = t234 then ((wire_Reader_Err.f t231 t232 t233).bind fun bt235 => ((mapmakerref02_Err.f Ab Ac Ad).bind fun t239 => (if bt235.1 = t239 then ((wire_Reader_Done.f bt235.2.1 bt235.2.2.1 bt235.2.2.2).bind fun bt240 => ((mapmakerref02_Done.f Ab Ac Ad).bind fun t244 => (if bt240.1 = t244 then (mapmakerlaw02_WireReads.l0 kj16 l1 (wrap64 (x7_2 + 1)) bt240.2.1 bt240.2.2.1 bt240.2.2.2 Ab Ac Ad) else (some false)))) else (some false)))) else (some false)) = some r := H
          have A122 := Aside0.mk A1220
          clear A1220
          by_cases c123 : t230 = t234
          ·rw [if_pos c123] at H
           have c123b0 : (t230 == t234) = true := beq_iff_eq.mpr c123
           have c123b1 : (t230 != t234) = false := bne_eq_false_iff_eq.mpr c123
           clear c123
           replace H := Option.bind_eq_some_iff.mp H
           obtain ⟨⟨t235, t236, t237, t238⟩, A1240, H⟩ := H
           replace H : ((mapmakerref02_Err.f Ab Ac Ad).bind fun t239 => (if t235 = t239 then ((wire_Reader_Done.f t236 t237 t238).bind fun bt240 => ((mapmakerref02_Done.f Ab Ac Ad).bind fun t244 => (if bt240.1 = t244 then (mapmakerlaw02_WireReads.l0 kj16 l1 (wrap64 (x7_2 + 1)) bt240.2.1 bt240.2.2.1 bt240.2.2.2 Ab Ac Ad) else (some false)))) else (some false))) = some r := H
           have A124 := Aside0.mk A1240
           clear A1240
           replace H := Option.bind_eq_some_iff.mp H
           obtain ⟨t239, A1250, H⟩ := H
           replace H : (if t235 = t239 then ((wire_Reader_Done.f t236 t237 t238).bind fun bt240 => ((mapmakerref02_Done.f Ab Ac Ad).bind fun t244 => (if bt240.1 = t244 then (mapmakerlaw02_WireReads.l0 kj16 l1 (wrap64 (x7_2 + 1)) bt240.2.1 bt240.2.2.1 bt240.2.2.2 Ab Ac Ad) else (some false)))) else (some false)) = some r := H
           have A125 := Aside0.mk A1250
           clear A1250
           by_cases c126 : t235 = t239
           ·rw [if_pos c126] at H
            have c126b0 : (t235 == t239) = true := beq_iff_eq.mpr c126
            have c126b1 : (t235 != t239) = false := bne_eq_false_iff_eq.mpr c126
            clear c126
            replace H := Option.bind_eq_some_iff.mp H
            obtain ⟨⟨t240, t241, t242, t243⟩, A1270, H⟩ := H
            replace H : ((mapmakerref02_Done.f Ab Ac Ad).bind fun t244 => (if t240 = t244 then (mapmakerlaw02_WireReads.l0 kj16 l1 (wrap64 (x7_2 + 1)) t241 t242 t243 Ab Ac Ad) else (some false))) = some r := H
            have A127 := Aside0.mk A1270
            clear A1270
            replace H := Option.bind_eq_some_iff.mp H
            obtain ⟨t244, A1280, H⟩ := H
            replace H : (if t240 = t244 then (mapmakerlaw02_WireReads.l0 kj16 l1 (wrap64 (x7_2 + 1)) t241 t242 t243 Ab Ac Ad) else (some false)) = some r := H
            have A128 := Aside0.mk A1280
            clear A1280
            by_cases c129 : t240 = t244
            ·rw [if_pos c129] at H
             have c129b0 : (t240 == t244) = true := beq_iff_eq.mpr c129
             have c129b1 : (t240 != t244) = false := bne_eq_false_iff_eq.mpr c129
             clear c129
             have H' := Aside0.mk H
             clear H
             try go_wp2
             have n0_ := Aside0.mk (b2_ A0.out)
             have n1_ := Aside0.mk (c2_ A2.out)
             have n2_ := Aside0.mk (b6_ HB.out)
             clear A0
             clear A2
             clear HB
             have A0 := n0_
             have A2 := n1_
             have HB := n2_
             clear n0_ n1_ n2_
             refine start_ (n := 19) (S := fun w' => w'.cell? ⟨A3, 0, none⟩ = some (.string Ab) ∧ w'.cell? ⟨A3, 1, none⟩ = some (.int .i64 Ac) ∧ w'.cell? ⟨A3, 2, none⟩ = some (.int .i64 Ad)) (ds := []) d18_ (by kernel_rfl) rfl rfl ⟨(blk_cell A0.out 0).trans rfl, (blk_cell A0.out 1).trans rfl, (blk_cell A0.out 2).trans rfl⟩ (fun hHeld => ?_); refine with_tabW mapmakerlaw02_WireReads.tab29 mapmakerlaw02_WireReads.bits29 (fun HT_ HW_ => ?_)
             generalize wc.drew = w130 at A0 A2 HB hHeld ⊢
             refine pure_ (i := 0) (N := some 109) (v := ?_) (a' := ?_) d19_ rfl rfl (any_of HT_.out (by kernel_rfl)) (fun _ _ _ h => h) (Or.inl ⟨by rfl, ?_⟩) ?_ ?_
             rotate_left
             ·intro w'
              go_simp
              with_reducible rfl
             rotate_left
             ·simp only [Act.put, n9, i64_w, i32_w]
              rfl
             refine take_ (i := 2) (N := some 111) (v := ?_) (a' := ?_) d20_ rfl rfl (take_ofW HT_.out HW_.out (by kernel_rfl)) (fun _ _ _ h => h) (Or.inl ⟨by rfl, ?_⟩) hHeld ?_ ?_
             rotate_left
             ·rintro w' ⟨s0, s1, s2⟩
              go_simp
              with_reducible rfl
             rotate_left
             ·simp only [Act.put, n9, i64_w, i32_w]
              rfl
             refine one_ (i := 1) (N := some 110) d21_ rfl rfl (one_of HT_.out (by kernel_rfl)) (by decide) (fun K hK => ?_)
             refine goes_ Try.func19 (by kernel_rfl) rfl #[.pointer (some ⟨g178, 0, none⟩)] (by rfl) rfl rfl (by (try simp only [List.map_toArray, List.map_cons, List.map_nil]); first | done | rfl) ?_
             with_reducible refine (wire_Reader_Left.calls g178 Bv Bw Bx t230 t231 t232 t233 w _ ?side1 ?side2 A121.out).mono ?_
             (case side1 => repeat (first | (with_reducible first | exact A2.out | apply b9_ | apply c1_ | apply c2_ | refine c3_ ?_ Aa.out _) | exact A2.out))
             (case side2 => repeat (first | (with_reducible first | exact HB.out | apply b4_ | apply b5_ | apply b6_ | refine b7_ ?_ (b8_ A2.out) | refine b7_ ?_ Ag.out) | exact HB.out))
             rintro e w131 ⟨rfl, hi, hb, hk⟩
             refine ⟨_, rfl, ?_⟩
             have n0_ := Aside0.mk (KeepBut.blk hk (g' := A3) (o := .cells #[.string Ab, .int .i64 Ac, .int .i64 Ad] 42 (0, 0)) (by (with_reducible repeat first | apply b1_ | apply b2_ | apply b3_); exact A0.out) Au.out (by simp))
             have n1_ := Aside0.mk (hb)
             have n2_ := Aside0.mk (hi)
             clear A0
             clear HB
             clear A2
             have A0 := n0_
             have HB := n1_
             have A2 := n2_
             clear n0_ n1_ n2_
             (try clear hb)
             (try clear hb2)
             (try clear hk)
             (try clear hi)
             refine hK.out _ _ ⟨(blk_cell A0.out 0).trans rfl, (blk_cell A0.out 1).trans rfl, (blk_cell A0.out 2).trans rfl⟩ (fun hHeld => ?_)
             clear hK K
             refine norm_ (a' := ?_) ?_ ?_
             rotate_left
             ·show Act.put _ (some 110) _ = _
              simp only [Act.put, n9, i64_w, i32_w]
              rfl
             refine one_ (i := 3) (N := some 112) d22_ rfl rfl (one_of HT_.out (by kernel_rfl)) (by decide) (fun K hK => ?_)
             refine goes_ Try.func27 (by kernel_rfl) rfl #[.agg #[.string Ab, .int .i64 Ac, .int .i64 Ad]] (by rfl) rfl rfl (by (try simp only [List.map_toArray, List.map_cons, List.map_nil]); first | done | rfl) ?_
             with_reducible refine (mapmakerref02_Left.calls Ab Ac Ad t234 _ A122.out).mono ?_
             rintro e w132 ⟨rfl, hb⟩
             refine ⟨_, rfl, ?_⟩
             have n0_ := Aside0.mk (blk_below (g := A3) (o := .cells #[.string Ab, .int .i64 Ac, .int .i64 Ad] 42 (0, 0)) (by (with_reducible repeat first | apply b1_ | apply b2_ | apply b3_); exact A0.out) hb)
             have n1_ := Aside0.mk (IsS59.below (by repeat (first | (with_reducible first | exact A2.out | apply b9_ | apply c1_ | apply c2_ | refine c3_ ?_ Aa.out _) | exact A2.out)) hb)
             have n2_ := Aside0.mk (below_step (by repeat (first | (with_reducible first | exact HB.out | apply b4_ | apply b5_ | apply b6_ | refine b7_ ?_ (b8_ A2.out) | refine b7_ ?_ Ag.out) | exact HB.out)) hb)
             clear A0
             clear A2
             clear HB
             have A0 := n0_
             have A2 := n1_
             have HB := n2_
             clear n0_ n1_ n2_
             (try clear hb)
             (try clear hb2)
             (try clear hk)
             (try clear hi)
             refine hK.out _ _ ⟨(blk_cell A0.out 0).trans rfl, (blk_cell A0.out 1).trans rfl, (blk_cell A0.out 2).trans rfl⟩ (fun hHeld => ?_)
             clear hK K
             refine norm_ (a' := ?_) ?_ ?_
             rotate_left
             ·show Act.put _ (some 112) _ = _
              simp only [Act.put, n9, i64_w, i32_w]
              rfl
             refine pure_ (i := 4) (N := some 113) (v := ?_) (a' := ?_) d23_ rfl rfl (any_of HT_.out (by kernel_rfl)) (fun _ _ _ h => h) (Or.inl ⟨by rfl, ?_⟩) ?_ ?_
             rotate_left
             ·intro w'
              go_simp
              with_reducible rfl
             rotate_left
             ·simp only [Act.put, n9, i64_w, i32_w]
              rfl
             refine pure_ (i := 5) (N := some 114) (v := ?_) (a' := ?_) d24_ rfl rfl (any_of HT_.out (by kernel_rfl)) (fun _ _ _ h => h) (Or.inl ⟨by rfl, ?_⟩) ?_ ?_
             rotate_left
             ·intro w'
              go_simp
              with_reducible rfl
             rotate_left
             ·simp only [Act.put, n9, i64_w, i32_w]
              rfl
             refine pure_ (i := 6) (N := some 115) (v := ?_) (a' := ?_) d25_ rfl rfl (any_of HT_.out (by kernel_rfl)) (fun _ _ _ h => h) (Or.inl ⟨by rfl, ?_⟩) ?_ ?_
             rotate_left
             ·intro w'
              go_simp
              with_reducible rfl
             rotate_left
             ·simp only [Act.put, n9, i64_w, i32_w]
              rfl
             refine take_ (i := 8) (N := some 117) (v := ?_) (a' := ?_) d26_ rfl rfl (take_ofW HT_.out HW_.out (by kernel_rfl)) (fun _ _ _ h => h) (Or.inl ⟨by rfl, ?_⟩) hHeld ?_ ?_
             rotate_left
             ·rintro w' ⟨s0, s1, s2⟩
              go_simp
              with_reducible rfl
             rotate_left
             ·simp only [Act.put, n9, i64_w, i32_w]
              rfl
             refine one_ (i := 7) (N := some 116) d27_ rfl rfl (one_of HT_.out (by kernel_rfl)) (by decide) (fun K hK => ?_)
             refine goes_ Try.func20 (by kernel_rfl) rfl #[.pointer (some ⟨g178, 0, none⟩)] (by rfl) rfl rfl (by (try simp only [List.map_toArray, List.map_cons, List.map_nil]); first | done | rfl) ?_
             with_reducible refine (wire_Reader_Err.calls g178 t231 t232 t233 t235 t236 t237 t238 w _ ?side1 ?side2 A124.out).mono ?_
             (case side1 => repeat (first | (with_reducible first | exact A2.out | apply b9_ | apply c1_ | apply c2_ | refine c3_ ?_ Aa.out _) | exact A2.out))
             (case side2 => repeat (first | (with_reducible first | exact HB.out | apply b4_ | apply b5_ | apply b6_ | refine b7_ ?_ (b8_ A2.out) | refine b7_ ?_ Ag.out) | exact HB.out))
             rintro e w133 ⟨rfl, hi, hb, hk⟩
             refine ⟨_, rfl, ?_⟩
             have n0_ := Aside0.mk (KeepBut.blk hk (g' := A3) (o := .cells #[.string Ab, .int .i64 Ac, .int .i64 Ad] 42 (0, 0)) (by (with_reducible repeat first | apply b1_ | apply b2_ | apply b3_); exact A0.out) Au.out (by simp))
             have n1_ := Aside0.mk (hb)
             have n2_ := Aside0.mk (hi)
             clear A0
             clear HB
             clear A2
             have A0 := n0_
             have HB := n1_
             have A2 := n2_
             clear n0_ n1_ n2_
             (try clear hb)
             (try clear hb2)
             (try clear hk)
             (try clear hi)
             refine hK.out _ _ ⟨(blk_cell A0.out 0).trans rfl, (blk_cell A0.out 1).trans rfl, (blk_cell A0.out 2).trans rfl⟩ (fun hHeld => ?_)
             clear hK K
             refine norm_ (a' := ?_) ?_ ?_
             rotate_left
             ·show Act.put _ (some 116) _ = _
              simp only [Act.put, n9, i64_w, i32_w]
              rfl
             refine one_ (i := 9) (N := some 118) d28_ rfl rfl (one_of HT_.out (by kernel_rfl)) (by decide) (fun K hK => ?_)
             refine goes_ Try.func28 (by kernel_rfl) rfl #[.agg #[.string Ab, .int .i64 Ac, .int .i64 Ad]] (by rfl) rfl rfl (by (try simp only [List.map_toArray, List.map_cons, List.map_nil]); first | done | rfl) ?_
             with_reducible refine (mapmakerref02_Err.calls Ab Ac Ad t239 _ A125.out).mono ?_
             rintro e w134 ⟨rfl, hb⟩
             refine ⟨_, rfl, ?_⟩
             have n0_ := Aside0.mk (blk_below (g := A3) (o := .cells #[.string Ab, .int .i64 Ac, .int .i64 Ad] 42 (0, 0)) (by (with_reducible repeat first | apply b1_ | apply b2_ | apply b3_); exact A0.out) hb)
             have n1_ := Aside0.mk (IsS59.below (by repeat (first | (with_reducible first | exact A2.out | apply b9_ | apply c1_ | apply c2_ | refine c3_ ?_ Aa.out _) | exact A2.out)) hb)
             have n2_ := Aside0.mk (below_step (by repeat (first | (with_reducible first | exact HB.out | apply b4_ | apply b5_ | apply b6_ | refine b7_ ?_ (b8_ A2.out) | refine b7_ ?_ Ag.out) | exact HB.out)) hb)
             clear A0
             clear A2
             clear HB
             have A0 := n0_
             have A2 := n1_
             have HB := n2_
             clear n0_ n1_ n2_
             (try clear hb)
             (try clear hb2)
             (try clear hk)
             (try clear hi)
             refine hK.out _ _ ⟨(blk_cell A0.out 0).trans rfl, (blk_cell A0.out 1).trans rfl, (blk_cell A0.out 2).trans rfl⟩ (fun hHeld => ?_)
             clear hK K
             refine norm_ (a' := ?_) ?_ ?_
             rotate_left
             ·show Act.put _ (some 118) _ = _
              simp only [Act.put, n9, i64_w, i32_w]
              rfl
             refine pure_ (i := 10) (N := some 119) (v := ?_) (a' := ?_) d29_ rfl rfl (any_of HT_.out (by kernel_rfl)) (fun _ _ _ h => h) (Or.inl ⟨by rfl, ?_⟩) ?_ ?_
             rotate_left
             ·intro w'
              go_simp
              with_reducible rfl
             rotate_left
             ·simp only [Act.put, n9, i64_w, i32_w]
              rfl
             refine pure_ (i := 11) (N := some 120) (v := ?_) (a' := ?_) d30_ rfl rfl (any_of HT_.out (by kernel_rfl)) (fun _ _ _ h => h) (Or.inl ⟨by rfl, ?_⟩) ?_ ?_
             rotate_left
             ·intro w'
              go_simp
              with_reducible rfl
             rotate_left
             ·simp only [Act.put, n9, i64_w, i32_w]
              rfl
             refine pure_ (i := 12) (N := some 121) (v := ?_) (a' := ?_) d31_ rfl rfl (any_of HT_.out (by kernel_rfl)) (fun _ _ _ h => h) (Or.inl ⟨by rfl, ?_⟩) ?_ ?_
             rotate_left
             ·intro w'
              go_simp
              with_reducible rfl
             rotate_left
             ·simp only [Act.put, n9, i64_w, i32_w]
              rfl
             refine pure_ (i := 13) (N := some 122) (v := ?_) (a' := ?_) d32_ rfl rfl (any_of HT_.out (by kernel_rfl)) (fun _ _ _ h => h) (Or.inl ⟨by rfl, ?_⟩) ?_ ?_
             rotate_left
             ·intro w'
              go_simp
              with_reducible rfl
             rotate_left
             ·simp only [Act.put, n9, i64_w, i32_w]
              rfl
             refine take_ (i := 15) (N := some 124) (v := ?_) (a' := ?_) d33_ rfl rfl (take_ofW HT_.out HW_.out (by kernel_rfl)) (fun _ _ _ h => h) (Or.inl ⟨by rfl, ?_⟩) hHeld ?_ ?_
             rotate_left
             ·rintro w' ⟨s0, s1, s2⟩
              go_simp
              with_reducible rfl
             rotate_left
             ·simp only [Act.put, n9, i64_w, i32_w]
              rfl
             refine one_ (i := 14) (N := some 123) d34_ rfl rfl (one_of HT_.out (by kernel_rfl)) (by decide) (fun K hK => ?_)
             refine goes_ Try.func18 (by kernel_rfl) rfl #[.pointer (some ⟨g178, 0, none⟩)] (by rfl) rfl rfl (by (try simp only [List.map_toArray, List.map_cons, List.map_nil]); first | done | rfl) ?_
             with_reducible refine (wire_Reader_Done.calls g178 t236 t237 t238 t240 t241 t242 t243 w _ ?side1 ?side2 A127.out).mono ?_
             (case side1 => repeat (first | (with_reducible first | exact A2.out | apply b9_ | apply c1_ | apply c2_ | refine c3_ ?_ Aa.out _) | exact A2.out))
             (case side2 => repeat (first | (with_reducible first | exact HB.out | apply b4_ | apply b5_ | apply b6_ | refine b7_ ?_ (b8_ A2.out) | refine b7_ ?_ Ag.out) | exact HB.out))
             rintro e w135 ⟨rfl, hi, hb, hk⟩
             refine ⟨_, rfl, ?_⟩
             have n0_ := Aside0.mk (KeepBut.blk hk (g' := A3) (o := .cells #[.string Ab, .int .i64 Ac, .int .i64 Ad] 42 (0, 0)) (by (with_reducible repeat first | apply b1_ | apply b2_ | apply b3_); exact A0.out) Au.out (by simp))
             have n1_ := Aside0.mk (hb)
             have n2_ := Aside0.mk (hi)
             clear A0
             clear HB
             clear A2
             have A0 := n0_
             have HB := n1_
             have A2 := n2_
             clear n0_ n1_ n2_
             (try clear hb)
             (try clear hb2)
             (try clear hk)
             (try clear hi)
             refine hK.out _ _ ⟨(blk_cell A0.out 0).trans rfl, (blk_cell A0.out 1).trans rfl, (blk_cell A0.out 2).trans rfl⟩ (fun hHeld => ?_)
             clear hK K
             refine norm_ (a' := ?_) ?_ ?_
             rotate_left
             ·show Act.put _ (some 123) _ = _
              simp only [Act.put, n9, i64_w, i32_w]
              rfl
             refine one_ (i := 16) (N := some 125) d35_ rfl rfl (one_of HT_.out (by kernel_rfl)) (by decide) (fun K hK => ?_)
             refine goes_ Try.func29 (by kernel_rfl) rfl #[.agg #[.string Ab, .int .i64 Ac, .int .i64 Ad]] (by rfl) rfl rfl (by (try simp only [List.map_toArray, List.map_cons, List.map_nil]); first | done | rfl) ?_
             with_reducible refine (mapmakerref02_Done.calls Ab Ac Ad t244 _ A128.out).mono ?_
             rintro e w136 ⟨rfl, hb⟩
             refine ⟨_, rfl, ?_⟩
             have n0_ := Aside0.mk (blk_below (g := A3) (o := .cells #[.string Ab, .int .i64 Ac, .int .i64 Ad] 42 (0, 0)) (by (with_reducible repeat first | apply b1_ | apply b2_ | apply b3_); exact A0.out) hb)
             have n1_ := Aside0.mk (IsS59.below (by repeat (first | (with_reducible first | exact A2.out | apply b9_ | apply c1_ | apply c2_ | refine c3_ ?_ Aa.out _) | exact A2.out)) hb)
             have n2_ := Aside0.mk (below_step (by repeat (first | (with_reducible first | exact HB.out | apply b4_ | apply b5_ | apply b6_ | refine b7_ ?_ (b8_ A2.out) | refine b7_ ?_ Ag.out) | exact HB.out)) hb)
             clear A0
             clear A2
             clear HB
             have A0 := n0_
             have A2 := n1_
             have HB := n2_
             clear n0_ n1_ n2_
             (try clear hb)
             (try clear hb2)
             (try clear hk)
             (try clear hi)
             refine hK.out _ _ ⟨(blk_cell A0.out 0).trans rfl, (blk_cell A0.out 1).trans rfl, (blk_cell A0.out 2).trans rfl⟩ (fun hHeld => ?_)
             clear hK K
             refine norm_ (a' := ?_) ?_ ?_
             rotate_left
             ·show Act.put _ (some 125) _ = _
              simp only [Act.put, n9, i64_w, i32_w]
              rfl
             refine pure_ (i := 17) (N := some 126) (v := ?_) (a' := ?_) d36_ rfl rfl (any_of HT_.out (by kernel_rfl)) (fun _ _ _ h => h) (Or.inl ⟨by rfl, ?_⟩) ?_ ?_
             rotate_left
             ·intro w'
              go_simp
              with_reducible rfl
             rotate_left
             ·simp only [Act.put, n9, i64_w, i32_w]
              rfl
             refine pure_ (i := 18) (N := some 127) (v := ?_) (a' := ?_) d37_ rfl rfl (any_of HT_.out (by kernel_rfl)) (fun _ _ _ h => h) (Or.inl ⟨by rfl, ?_⟩) ?_ ?_
             rotate_left
             ·intro w'
              go_simp
              with_reducible rfl
             rotate_left
             ·simp only [Act.put, n9, i64_w, i32_w]
              rfl
             refine done_ (done_of HT_.out (by kernel_rfl)) ?_
             try go_wp2
             go_roundg kj16
             case measure => have := HJ2.out; have := HK2.out; have := HJ16.out; omega
             case rel => exact ⟨(wrap64 (x7_2 + 1)), (t241), (t242), (t243), (Ab), (Ac), (Ad), (by first | rfl | (simp; done) | (simp [*]; done)), H', ⟨by have := HJ2.out; have := HK2.out; have := HJ16.out; omega⟩, ⟨by (with_reducible repeat first | apply b1_ | apply b2_ | apply b3_); exact A0.out⟩, ⟨by repeat (first | (with_reducible first | exact A2.out | apply b9_ | apply c1_ | apply c2_ | refine c3_ ?_ Aa.out _) | exact A2.out)⟩, ⟨by repeat (first | (with_reducible first | exact HB.out | apply b4_ | apply b5_ | apply b6_ | refine b7_ ?_ (b8_ A2.out) | refine b7_ ?_ Ag.out) | exact HB.out)⟩⟩
            ·rw [if_neg c129] at H
             have c129b0 : (t240 == t244) = false := beq_eq_false_iff_ne.mpr c129
             have c129b1 : (t240 != t244) = true := bne_iff_ne.mpr c129
             obtain rfl := Option.some.inj H
             try go_wp2
             have n0_ := Aside0.mk (b2_ A0.out)
             have n1_ := Aside0.mk (c2_ A2.out)
             have n2_ := Aside0.mk (b6_ HB.out)
             clear A0
             clear A2
             clear HB
             have A0 := n0_
             have A2 := n1_
             have HB := n2_
             clear n0_ n1_ n2_
             refine start_ (n := 19) (S := fun w' => w'.cell? ⟨A3, 0, none⟩ = some (.string Ab) ∧ w'.cell? ⟨A3, 1, none⟩ = some (.int .i64 Ac) ∧ w'.cell? ⟨A3, 2, none⟩ = some (.int .i64 Ad)) (ds := []) d18_ (by kernel_rfl) rfl rfl ⟨(blk_cell A0.out 0).trans rfl, (blk_cell A0.out 1).trans rfl, (blk_cell A0.out 2).trans rfl⟩ (fun hHeld => ?_); refine with_tabW mapmakerlaw02_WireReads.tab29 mapmakerlaw02_WireReads.bits29 (fun HT_ HW_ => ?_)
             generalize wc.drew = w137 at A0 A2 HB hHeld ⊢
             refine pure_ (i := 0) (N := some 109) (v := ?_) (a' := ?_) d19_ rfl rfl (any_of HT_.out (by kernel_rfl)) (fun _ _ _ h => h) (Or.inl ⟨by rfl, ?_⟩) ?_ ?_
             rotate_left
             ·intro w'
              go_simp
              with_reducible rfl
             rotate_left
             ·simp only [Act.put, n9, i64_w, i32_w]
              rfl
             refine take_ (i := 2) (N := some 111) (v := ?_) (a' := ?_) d20_ rfl rfl (take_ofW HT_.out HW_.out (by kernel_rfl)) (fun _ _ _ h => h) (Or.inl ⟨by rfl, ?_⟩) hHeld ?_ ?_
             rotate_left
             ·rintro w' ⟨s0, s1, s2⟩
              go_simp
              with_reducible rfl
             rotate_left
             ·simp only [Act.put, n9, i64_w, i32_w]
              rfl
             refine one_ (i := 1) (N := some 110) d21_ rfl rfl (one_of HT_.out (by kernel_rfl)) (by decide) (fun K hK => ?_)
             refine goes_ Try.func19 (by kernel_rfl) rfl #[.pointer (some ⟨g178, 0, none⟩)] (by rfl) rfl rfl (by (try simp only [List.map_toArray, List.map_cons, List.map_nil]); first | done | rfl) ?_
             with_reducible refine (wire_Reader_Left.calls g178 Bv Bw Bx t230 t231 t232 t233 w _ ?side1 ?side2 A121.out).mono ?_
             (case side1 => repeat (first | (with_reducible first | exact A2.out | apply b9_ | apply c1_ | apply c2_ | refine c3_ ?_ Aa.out _) | exact A2.out))
             (case side2 => repeat (first | (with_reducible first | exact HB.out | apply b4_ | apply b5_ | apply b6_ | refine b7_ ?_ (b8_ A2.out) | refine b7_ ?_ Ag.out) | exact HB.out))
             rintro e w138 ⟨rfl, hi, hb, hk⟩
             refine ⟨_, rfl, ?_⟩
             have n0_ := Aside0.mk (KeepBut.blk hk (g' := A3) (o := .cells #[.string Ab, .int .i64 Ac, .int .i64 Ad] 42 (0, 0)) (by (with_reducible repeat first | apply b1_ | apply b2_ | apply b3_); exact A0.out) Au.out (by simp))
             have n1_ := Aside0.mk (hb)
             have n2_ := Aside0.mk (hi)
             clear A0
             clear HB
             clear A2
             have A0 := n0_
             have HB := n1_
             have A2 := n2_
             clear n0_ n1_ n2_
             (try clear hb)
             (try clear hb2)
             (try clear hk)
             (try clear hi)
             refine hK.out _ _ ⟨(blk_cell A0.out 0).trans rfl, (blk_cell A0.out 1).trans rfl, (blk_cell A0.out 2).trans rfl⟩ (fun hHeld => ?_)
             clear hK K
             refine norm_ (a' := ?_) ?_ ?_
             rotate_left
             ·show Act.put _ (some 110) _ = _
              simp only [Act.put, n9, i64_w, i32_w]
              rfl
             refine one_ (i := 3) (N := some 112) d22_ rfl rfl (one_of HT_.out (by kernel_rfl)) (by decide) (fun K hK => ?_)
             refine goes_ Try.func27 (by kernel_rfl) rfl #[.agg #[.string Ab, .int .i64 Ac, .int .i64 Ad]] (by rfl) rfl rfl (by (try simp only [List.map_toArray, List.map_cons, List.map_nil]); first | done | rfl) ?_
             with_reducible refine (mapmakerref02_Left.calls Ab Ac Ad t234 _ A122.out).mono ?_
             rintro e w139 ⟨rfl, hb⟩
             refine ⟨_, rfl, ?_⟩
             have n0_ := Aside0.mk (blk_below (g := A3) (o := .cells #[.string Ab, .int .i64 Ac, .int .i64 Ad] 42 (0, 0)) (by (with_reducible repeat first | apply b1_ | apply b2_ | apply b3_); exact A0.out) hb)
             have n1_ := Aside0.mk (IsS59.below (by repeat (first | (with_reducible first | exact A2.out | apply b9_ | apply c1_ | apply c2_ | refine c3_ ?_ Aa.out _) | exact A2.out)) hb)
             have n2_ := Aside0.mk (below_step (by repeat (first | (with_reducible first | exact HB.out | apply b4_ | apply b5_ | apply b6_ | refine b7_ ?_ (b8_ A2.out) | refine b7_ ?_ Ag.out) | exact HB.out)) hb)
             clear A0
             clear A2
             clear HB
             have A0 := n0_
             have A2 := n1_
             have HB := n2_
             clear n0_ n1_ n2_
             (try clear hb)
             (try clear hb2)
             (try clear hk)
             (try clear hi)
             refine hK.out _ _ ⟨(blk_cell A0.out 0).trans rfl, (blk_cell A0.out 1).trans rfl, (blk_cell A0.out 2).trans rfl⟩ (fun hHeld => ?_)
             clear hK K
             refine norm_ (a' := ?_) ?_ ?_
             rotate_left
             ·show Act.put _ (some 112) _ = _
              simp only [Act.put, n9, i64_w, i32_w]
              rfl
             refine pure_ (i := 4) (N := some 113) (v := ?_) (a' := ?_) d23_ rfl rfl (any_of HT_.out (by kernel_rfl)) (fun _ _ _ h => h) (Or.inl ⟨by rfl, ?_⟩) ?_ ?_
             rotate_left
             ·intro w'
              go_simp
              with_reducible rfl
             rotate_left
             ·simp only [Act.put, n9, i64_w, i32_w]
              rfl
             refine pure_ (i := 5) (N := some 114) (v := ?_) (a' := ?_) d24_ rfl rfl (any_of HT_.out (by kernel_rfl)) (fun _ _ _ h => h) (Or.inl ⟨by rfl, ?_⟩) ?_ ?_
             rotate_left
             ·intro w'
              go_simp
              with_reducible rfl
             rotate_left
             ·simp only [Act.put, n9, i64_w, i32_w]
              rfl
             refine pure_ (i := 6) (N := some 115) (v := ?_) (a' := ?_) d25_ rfl rfl (any_of HT_.out (by kernel_rfl)) (fun _ _ _ h => h) (Or.inl ⟨by rfl, ?_⟩) ?_ ?_
             rotate_left
             ·intro w'
              go_simp
              with_reducible rfl
             rotate_left
             ·simp only [Act.put, n9, i64_w, i32_w]
              rfl
             refine take_ (i := 8) (N := some 117) (v := ?_) (a' := ?_) d26_ rfl rfl (take_ofW HT_.out HW_.out (by kernel_rfl)) (fun _ _ _ h => h) (Or.inl ⟨by rfl, ?_⟩) hHeld ?_ ?_
             rotate_left
             ·rintro w' ⟨s0, s1, s2⟩
              go_simp
              with_reducible rfl
             rotate_left
             ·simp only [Act.put, n9, i64_w, i32_w]
              rfl
             refine one_ (i := 7) (N := some 116) d27_ rfl rfl (one_of HT_.out (by kernel_rfl)) (by decide) (fun K hK => ?_)
             refine goes_ Try.func20 (by kernel_rfl) rfl #[.pointer (some ⟨g178, 0, none⟩)] (by rfl) rfl rfl (by (try simp only [List.map_toArray, List.map_cons, List.map_nil]); first | done | rfl) ?_
             with_reducible refine (wire_Reader_Err.calls g178 t231 t232 t233 t235 t236 t237 t238 w _ ?side1 ?side2 A124.out).mono ?_
             (case side1 => repeat (first | (with_reducible first | exact A2.out | apply b9_ | apply c1_ | apply c2_ | refine c3_ ?_ Aa.out _) | exact A2.out))
             (case side2 => repeat (first | (with_reducible first | exact HB.out | apply b4_ | apply b5_ | apply b6_ | refine b7_ ?_ (b8_ A2.out) | refine b7_ ?_ Ag.out) | exact HB.out))
             rintro e w140 ⟨rfl, hi, hb, hk⟩
             refine ⟨_, rfl, ?_⟩
             have n0_ := Aside0.mk (KeepBut.blk hk (g' := A3) (o := .cells #[.string Ab, .int .i64 Ac, .int .i64 Ad] 42 (0, 0)) (by (with_reducible repeat first | apply b1_ | apply b2_ | apply b3_); exact A0.out) Au.out (by simp))
             have n1_ := Aside0.mk (hb)
             have n2_ := Aside0.mk (hi)
             clear A0
             clear HB
             clear A2
             have A0 := n0_
             have HB := n1_
             have A2 := n2_
             clear n0_ n1_ n2_
             (try clear hb)
             (try clear hb2)
             (try clear hk)
             (try clear hi)
             refine hK.out _ _ ⟨(blk_cell A0.out 0).trans rfl, (blk_cell A0.out 1).trans rfl, (blk_cell A0.out 2).trans rfl⟩ (fun hHeld => ?_)
             clear hK K
             refine norm_ (a' := ?_) ?_ ?_
             rotate_left
             ·show Act.put _ (some 116) _ = _
              simp only [Act.put, n9, i64_w, i32_w]
              rfl
             refine one_ (i := 9) (N := some 118) d28_ rfl rfl (one_of HT_.out (by kernel_rfl)) (by decide) (fun K hK => ?_)
             refine goes_ Try.func28 (by kernel_rfl) rfl #[.agg #[.string Ab, .int .i64 Ac, .int .i64 Ad]] (by rfl) rfl rfl (by (try simp only [List.map_toArray, List.map_cons, List.map_nil]); first | done | rfl) ?_
             with_reducible refine (mapmakerref02_Err.calls Ab Ac Ad t239 _ A125.out).mono ?_
             rintro e w141 ⟨rfl, hb⟩
             refine ⟨_, rfl, ?_⟩
             have n0_ := Aside0.mk (blk_below (g := A3) (o := .cells #[.string Ab, .int .i64 Ac, .int .i64 Ad] 42 (0, 0)) (by (with_reducible repeat first | apply b1_ | apply b2_ | apply b3_); exact A0.out) hb)
             have n1_ := Aside0.mk (IsS59.below (by repeat (first | (with_reducible first | exact A2.out | apply b9_ | apply c1_ | apply c2_ | refine c3_ ?_ Aa.out _) | exact A2.out)) hb)
             have n2_ := Aside0.mk (below_step (by repeat (first | (with_reducible first | exact HB.out | apply b4_ | apply b5_ | apply b6_ | refine b7_ ?_ (b8_ A2.out) | refine b7_ ?_ Ag.out) | exact HB.out)) hb)
             clear A0
             clear A2
             clear HB
             have A0 := n0_
             have A2 := n1_
             have HB := n2_
             clear n0_ n1_ n2_
             (try clear hb)
             (try clear hb2)
             (try clear hk)
             (try clear hi)
             refine hK.out _ _ ⟨(blk_cell A0.out 0).trans rfl, (blk_cell A0.out 1).trans rfl, (blk_cell A0.out 2).trans rfl⟩ (fun hHeld => ?_)
             clear hK K
             refine norm_ (a' := ?_) ?_ ?_
             rotate_left
             ·show Act.put _ (some 118) _ = _
              simp only [Act.put, n9, i64_w, i32_w]
              rfl
             refine pure_ (i := 10) (N := some 119) (v := ?_) (a' := ?_) d29_ rfl rfl (any_of HT_.out (by kernel_rfl)) (fun _ _ _ h => h) (Or.inl ⟨by rfl, ?_⟩) ?_ ?_
             rotate_left
             ·intro w'
              go_simp
              with_reducible rfl
             rotate_left
             ·simp only [Act.put, n9, i64_w, i32_w]
              rfl
             refine pure_ (i := 11) (N := some 120) (v := ?_) (a' := ?_) d30_ rfl rfl (any_of HT_.out (by kernel_rfl)) (fun _ _ _ h => h) (Or.inl ⟨by rfl, ?_⟩) ?_ ?_
             rotate_left
             ·intro w'
              go_simp
              with_reducible rfl
             rotate_left
             ·simp only [Act.put, n9, i64_w, i32_w]
              rfl
             refine pure_ (i := 12) (N := some 121) (v := ?_) (a' := ?_) d31_ rfl rfl (any_of HT_.out (by kernel_rfl)) (fun _ _ _ h => h) (Or.inl ⟨by rfl, ?_⟩) ?_ ?_
             rotate_left
             ·intro w'
              go_simp
              with_reducible rfl
             rotate_left
             ·simp only [Act.put, n9, i64_w, i32_w]
              rfl
             refine pure_ (i := 13) (N := some 122) (v := ?_) (a' := ?_) d32_ rfl rfl (any_of HT_.out (by kernel_rfl)) (fun _ _ _ h => h) (Or.inl ⟨by rfl, ?_⟩) ?_ ?_
             rotate_left
             ·intro w'
              go_simp
              with_reducible rfl
             rotate_left
             ·simp only [Act.put, n9, i64_w, i32_w]
              rfl
             refine take_ (i := 15) (N := some 124) (v := ?_) (a' := ?_) d33_ rfl rfl (take_ofW HT_.out HW_.out (by kernel_rfl)) (fun _ _ _ h => h) (Or.inl ⟨by rfl, ?_⟩) hHeld ?_ ?_
             rotate_left
             ·rintro w' ⟨s0, s1, s2⟩
              go_simp
              with_reducible rfl
             rotate_left
             ·simp only [Act.put, n9, i64_w, i32_w]
              rfl
             refine one_ (i := 14) (N := some 123) d34_ rfl rfl (one_of HT_.out (by kernel_rfl)) (by decide) (fun K hK => ?_)
             refine goes_ Try.func18 (by kernel_rfl) rfl #[.pointer (some ⟨g178, 0, none⟩)] (by rfl) rfl rfl (by (try simp only [List.map_toArray, List.map_cons, List.map_nil]); first | done | rfl) ?_
             with_reducible refine (wire_Reader_Done.calls g178 t236 t237 t238 t240 t241 t242 t243 w _ ?side1 ?side2 A127.out).mono ?_
             (case side1 => repeat (first | (with_reducible first | exact A2.out | apply b9_ | apply c1_ | apply c2_ | refine c3_ ?_ Aa.out _) | exact A2.out))
             (case side2 => repeat (first | (with_reducible first | exact HB.out | apply b4_ | apply b5_ | apply b6_ | refine b7_ ?_ (b8_ A2.out) | refine b7_ ?_ Ag.out) | exact HB.out))
             rintro e w142 ⟨rfl, hi, hb, hk⟩
             refine ⟨_, rfl, ?_⟩
             have n0_ := Aside0.mk (KeepBut.blk hk (g' := A3) (o := .cells #[.string Ab, .int .i64 Ac, .int .i64 Ad] 42 (0, 0)) (by (with_reducible repeat first | apply b1_ | apply b2_ | apply b3_); exact A0.out) Au.out (by simp))
             have n1_ := Aside0.mk (hb)
             have n2_ := Aside0.mk (hi)
             clear A0
             clear HB
             clear A2
             have A0 := n0_
             have HB := n1_
             have A2 := n2_
             clear n0_ n1_ n2_
             (try clear hb)
             (try clear hb2)
             (try clear hk)
             (try clear hi)
             refine hK.out _ _ ⟨(blk_cell A0.out 0).trans rfl, (blk_cell A0.out 1).trans rfl, (blk_cell A0.out 2).trans rfl⟩ (fun hHeld => ?_)
             clear hK K
             refine norm_ (a' := ?_) ?_ ?_
             rotate_left
             ·show Act.put _ (some 123) _ = _
              simp only [Act.put, n9, i64_w, i32_w]
              rfl
             refine one_ (i := 16) (N := some 125) d35_ rfl rfl (one_of HT_.out (by kernel_rfl)) (by decide) (fun K hK => ?_)
             refine goes_ Try.func29 (by kernel_rfl) rfl #[.agg #[.string Ab, .int .i64 Ac, .int .i64 Ad]] (by rfl) rfl rfl (by (try simp only [List.map_toArray, List.map_cons, List.map_nil]); first | done | rfl) ?_
             with_reducible refine (mapmakerref02_Done.calls Ab Ac Ad t244 _ A128.out).mono ?_
             rintro e w143 ⟨rfl, hb⟩
             refine ⟨_, rfl, ?_⟩
             have n0_ := Aside0.mk (blk_below (g := A3) (o := .cells #[.string Ab, .int .i64 Ac, .int .i64 Ad] 42 (0, 0)) (by (with_reducible repeat first | apply b1_ | apply b2_ | apply b3_); exact A0.out) hb)
             have n1_ := Aside0.mk (IsS59.below (by repeat (first | (with_reducible first | exact A2.out | apply b9_ | apply c1_ | apply c2_ | refine c3_ ?_ Aa.out _) | exact A2.out)) hb)
             have n2_ := Aside0.mk (below_step (by repeat (first | (with_reducible first | exact HB.out | apply b4_ | apply b5_ | apply b6_ | refine b7_ ?_ (b8_ A2.out) | refine b7_ ?_ Ag.out) | exact HB.out)) hb)
             clear A0
             clear A2
             clear HB
             have A0 := n0_
             have A2 := n1_
             have HB := n2_
             clear n0_ n1_ n2_
             (try clear hb)
             (try clear hb2)
             (try clear hk)
             (try clear hi)
             refine hK.out _ _ ⟨(blk_cell A0.out 0).trans rfl, (blk_cell A0.out 1).trans rfl, (blk_cell A0.out 2).trans rfl⟩ (fun hHeld => ?_)
             clear hK K
             refine norm_ (a' := ?_) ?_ ?_
             rotate_left
             ·show Act.put _ (some 125) _ = _
              simp only [Act.put, n9, i64_w, i32_w]
              rfl
             refine pure_ (i := 17) (N := some 126) (v := ?_) (a' := ?_) d36_ rfl rfl (any_of HT_.out (by kernel_rfl)) (fun _ _ _ h => h) (Or.inl ⟨by rfl, ?_⟩) ?_ ?_
             rotate_left
             ·intro w'
              go_simp
              with_reducible rfl
             rotate_left
             ·simp only [Act.put, n9, i64_w, i32_w]
              rfl
             refine pure_ (i := 18) (N := some 127) (v := ?_) (a' := ?_) d37_ rfl rfl (any_of HT_.out (by kernel_rfl)) (fun _ _ _ h => h) (Or.inl ⟨by rfl, ?_⟩) ?_ ?_
             rotate_left
             ·intro w'
              go_simp
              with_reducible rfl
             rotate_left
             ·simp only [Act.put, n9, i64_w, i32_w]
              rfl
             refine done_ (done_of HT_.out (by kernel_rfl)) ?_
             try go_wp2
             go_ret
             exact ⟨by first | rfl | (simp [errW_none, errW_some] <;> rfl) | (simp [*, errW_none, errW_some] <;> rfl), by repeat (first | (with_reducible first | exact HB.out | apply b4_ | apply b5_ | apply b6_ | refine b7_ ?_ (b8_ A2.out) | refine b7_ ?_ Ag.out) | exact HB.out)⟩
           ·rw [if_neg c126] at H
            have c126b0 : (t235 == t239) = false := beq_eq_false_iff_ne.mpr c126
            have c126b1 : (t235 != t239) = true := bne_iff_ne.mpr c126
            obtain rfl := Option.some.inj H
            try go_wp2
            have n0_ := Aside0.mk (b2_ A0.out)
            have n1_ := Aside0.mk (c2_ A2.out)
            have n2_ := Aside0.mk (b6_ HB.out)
            clear A0
            clear A2
            clear HB
            have A0 := n0_
            have A2 := n1_
            have HB := n2_
            clear n0_ n1_ n2_
            refine start_ (n := 19) (S := fun w' => w'.cell? ⟨A3, 0, none⟩ = some (.string Ab) ∧ w'.cell? ⟨A3, 1, none⟩ = some (.int .i64 Ac) ∧ w'.cell? ⟨A3, 2, none⟩ = some (.int .i64 Ad)) (ds := []) d18_ (by kernel_rfl) rfl rfl ⟨(blk_cell A0.out 0).trans rfl, (blk_cell A0.out 1).trans rfl, (blk_cell A0.out 2).trans rfl⟩ (fun hHeld => ?_); refine with_tabW mapmakerlaw02_WireReads.tab29 mapmakerlaw02_WireReads.bits29 (fun HT_ HW_ => ?_)
            generalize wc.drew = w144 at A0 A2 HB hHeld ⊢
            refine pure_ (i := 0) (N := some 109) (v := ?_) (a' := ?_) d19_ rfl rfl (any_of HT_.out (by kernel_rfl)) (fun _ _ _ h => h) (Or.inl ⟨by rfl, ?_⟩) ?_ ?_
            rotate_left
            ·intro w'
             go_simp
             with_reducible rfl
            rotate_left
            ·simp only [Act.put, n9, i64_w, i32_w]
             rfl
            refine take_ (i := 2) (N := some 111) (v := ?_) (a' := ?_) d20_ rfl rfl (take_ofW HT_.out HW_.out (by kernel_rfl)) (fun _ _ _ h => h) (Or.inl ⟨by rfl, ?_⟩) hHeld ?_ ?_
            rotate_left
            ·rintro w' ⟨s0, s1, s2⟩
             go_simp
             with_reducible rfl
            rotate_left
            ·simp only [Act.put, n9, i64_w, i32_w]
             rfl
            refine one_ (i := 1) (N := some 110) d21_ rfl rfl (one_of HT_.out (by kernel_rfl)) (by decide) (fun K hK => ?_)
            refine goes_ Try.func19 (by kernel_rfl) rfl #[.pointer (some ⟨g178, 0, none⟩)] (by rfl) rfl rfl (by (try simp only [List.map_toArray, List.map_cons, List.map_nil]); first | done | rfl) ?_
            with_reducible refine (wire_Reader_Left.calls g178 Bv Bw Bx t230 t231 t232 t233 w _ ?side1 ?side2 A121.out).mono ?_
            (case side1 => repeat (first | (with_reducible first | exact A2.out | apply b9_ | apply c1_ | apply c2_ | refine c3_ ?_ Aa.out _) | exact A2.out))
            (case side2 => repeat (first | (with_reducible first | exact HB.out | apply b4_ | apply b5_ | apply b6_ | refine b7_ ?_ (b8_ A2.out) | refine b7_ ?_ Ag.out) | exact HB.out))
            rintro e w145 ⟨rfl, hi, hb, hk⟩
            refine ⟨_, rfl, ?_⟩
            have n0_ := Aside0.mk (KeepBut.blk hk (g' := A3) (o := .cells #[.string Ab, .int .i64 Ac, .int .i64 Ad] 42 (0, 0)) (by (with_reducible repeat first | apply b1_ | apply b2_ | apply b3_); exact A0.out) Au.out (by simp))
            have n1_ := Aside0.mk (hb)
            have n2_ := Aside0.mk (hi)
            clear A0
            clear HB
            clear A2
            have A0 := n0_
            have HB := n1_
            have A2 := n2_
            clear n0_ n1_ n2_
            (try clear hb)
            (try clear hb2)
            (try clear hk)
            (try clear hi)
            refine hK.out _ _ ⟨(blk_cell A0.out 0).trans rfl, (blk_cell A0.out 1).trans rfl, (blk_cell A0.out 2).trans rfl⟩ (fun hHeld => ?_)
            clear hK K
            refine norm_ (a' := ?_) ?_ ?_
            rotate_left
            ·show Act.put _ (some 110) _ = _
             simp only [Act.put, n9, i64_w, i32_w]
             rfl
            refine one_ (i := 3) (N := some 112) d22_ rfl rfl (one_of HT_.out (by kernel_rfl)) (by decide) (fun K hK => ?_)
            refine goes_ Try.func27 (by kernel_rfl) rfl #[.agg #[.string Ab, .int .i64 Ac, .int .i64 Ad]] (by rfl) rfl rfl (by (try simp only [List.map_toArray, List.map_cons, List.map_nil]); first | done | rfl) ?_
            with_reducible refine (mapmakerref02_Left.calls Ab Ac Ad t234 _ A122.out).mono ?_
            rintro e w146 ⟨rfl, hb⟩
            refine ⟨_, rfl, ?_⟩
            have n0_ := Aside0.mk (blk_below (g := A3) (o := .cells #[.string Ab, .int .i64 Ac, .int .i64 Ad] 42 (0, 0)) (by (with_reducible repeat first | apply b1_ | apply b2_ | apply b3_); exact A0.out) hb)
            have n1_ := Aside0.mk (IsS59.below (by repeat (first | (with_reducible first | exact A2.out | apply b9_ | apply c1_ | apply c2_ | refine c3_ ?_ Aa.out _) | exact A2.out)) hb)
            have n2_ := Aside0.mk (below_step (by repeat (first | (with_reducible first | exact HB.out | apply b4_ | apply b5_ | apply b6_ | refine b7_ ?_ (b8_ A2.out) | refine b7_ ?_ Ag.out) | exact HB.out)) hb)
            clear A0
            clear A2
            clear HB
            have A0 := n0_
            have A2 := n1_
            have HB := n2_
            clear n0_ n1_ n2_
            (try clear hb)
            (try clear hb2)
            (try clear hk)
            (try clear hi)
            refine hK.out _ _ ⟨(blk_cell A0.out 0).trans rfl, (blk_cell A0.out 1).trans rfl, (blk_cell A0.out 2).trans rfl⟩ (fun hHeld => ?_)
            clear hK K
            refine norm_ (a' := ?_) ?_ ?_
            rotate_left
            ·show Act.put _ (some 112) _ = _
             simp only [Act.put, n9, i64_w, i32_w]
             rfl
            refine pure_ (i := 4) (N := some 113) (v := ?_) (a' := ?_) d23_ rfl rfl (any_of HT_.out (by kernel_rfl)) (fun _ _ _ h => h) (Or.inl ⟨by rfl, ?_⟩) ?_ ?_
            rotate_left
            ·intro w'
             go_simp
             with_reducible rfl
            rotate_left
            ·simp only [Act.put, n9, i64_w, i32_w]
             rfl
            refine pure_ (i := 5) (N := some 114) (v := ?_) (a' := ?_) d24_ rfl rfl (any_of HT_.out (by kernel_rfl)) (fun _ _ _ h => h) (Or.inl ⟨by rfl, ?_⟩) ?_ ?_
            rotate_left
            ·intro w'
             go_simp
             with_reducible rfl
            rotate_left
            ·simp only [Act.put, n9, i64_w, i32_w]
             rfl
            refine pure_ (i := 6) (N := some 115) (v := ?_) (a' := ?_) d25_ rfl rfl (any_of HT_.out (by kernel_rfl)) (fun _ _ _ h => h) (Or.inl ⟨by rfl, ?_⟩) ?_ ?_
            rotate_left
            ·intro w'
             go_simp
             with_reducible rfl
            rotate_left
            ·simp only [Act.put, n9, i64_w, i32_w]
             rfl
            refine take_ (i := 8) (N := some 117) (v := ?_) (a' := ?_) d26_ rfl rfl (take_ofW HT_.out HW_.out (by kernel_rfl)) (fun _ _ _ h => h) (Or.inl ⟨by rfl, ?_⟩) hHeld ?_ ?_
            rotate_left
            ·rintro w' ⟨s0, s1, s2⟩
             go_simp
             with_reducible rfl
            rotate_left
            ·simp only [Act.put, n9, i64_w, i32_w]
             rfl
            refine one_ (i := 7) (N := some 116) d27_ rfl rfl (one_of HT_.out (by kernel_rfl)) (by decide) (fun K hK => ?_)
            refine goes_ Try.func20 (by kernel_rfl) rfl #[.pointer (some ⟨g178, 0, none⟩)] (by rfl) rfl rfl (by (try simp only [List.map_toArray, List.map_cons, List.map_nil]); first | done | rfl) ?_
            with_reducible refine (wire_Reader_Err.calls g178 t231 t232 t233 t235 t236 t237 t238 w _ ?side1 ?side2 A124.out).mono ?_
            (case side1 => repeat (first | (with_reducible first | exact A2.out | apply b9_ | apply c1_ | apply c2_ | refine c3_ ?_ Aa.out _) | exact A2.out))
            (case side2 => repeat (first | (with_reducible first | exact HB.out | apply b4_ | apply b5_ | apply b6_ | refine b7_ ?_ (b8_ A2.out) | refine b7_ ?_ Ag.out) | exact HB.out))
            rintro e w147 ⟨rfl, hi, hb, hk⟩
            refine ⟨_, rfl, ?_⟩
            have n0_ := Aside0.mk (KeepBut.blk hk (g' := A3) (o := .cells #[.string Ab, .int .i64 Ac, .int .i64 Ad] 42 (0, 0)) (by (with_reducible repeat first | apply b1_ | apply b2_ | apply b3_); exact A0.out) Au.out (by simp))
            have n1_ := Aside0.mk (hb)
            have n2_ := Aside0.mk (hi)
            clear A0
            clear HB
            clear A2
            have A0 := n0_
            have HB := n1_
            have A2 := n2_
            clear n0_ n1_ n2_
            (try clear hb)
            (try clear hb2)
            (try clear hk)
            (try clear hi)
            refine hK.out _ _ ⟨(blk_cell A0.out 0).trans rfl, (blk_cell A0.out 1).trans rfl, (blk_cell A0.out 2).trans rfl⟩ (fun hHeld => ?_)
            clear hK K
            refine norm_ (a' := ?_) ?_ ?_
            rotate_left
            ·show Act.put _ (some 116) _ = _
             simp only [Act.put, n9, i64_w, i32_w]
             rfl
            refine one_ (i := 9) (N := some 118) d28_ rfl rfl (one_of HT_.out (by kernel_rfl)) (by decide) (fun K hK => ?_)
            refine goes_ Try.func28 (by kernel_rfl) rfl #[.agg #[.string Ab, .int .i64 Ac, .int .i64 Ad]] (by rfl) rfl rfl (by (try simp only [List.map_toArray, List.map_cons, List.map_nil]); first | done | rfl) ?_
            with_reducible refine (mapmakerref02_Err.calls Ab Ac Ad t239 _ A125.out).mono ?_
            rintro e w148 ⟨rfl, hb⟩
            refine ⟨_, rfl, ?_⟩
            have n0_ := Aside0.mk (blk_below (g := A3) (o := .cells #[.string Ab, .int .i64 Ac, .int .i64 Ad] 42 (0, 0)) (by (with_reducible repeat first | apply b1_ | apply b2_ | apply b3_); exact A0.out) hb)
            have n1_ := Aside0.mk (IsS59.below (by repeat (first | (with_reducible first | exact A2.out | apply b9_ | apply c1_ | apply c2_ | refine c3_ ?_ Aa.out _) | exact A2.out)) hb)
            have n2_ := Aside0.mk (below_step (by repeat (first | (with_reducible first | exact HB.out | apply b4_ | apply b5_ | apply b6_ | refine b7_ ?_ (b8_ A2.out) | refine b7_ ?_ Ag.out) | exact HB.out)) hb)
            clear A0
            clear A2
            clear HB
            have A0 := n0_
            have A2 := n1_
            have HB := n2_
            clear n0_ n1_ n2_
            (try clear hb)
            (try clear hb2)
            (try clear hk)
            (try clear hi)
            refine hK.out _ _ ⟨(blk_cell A0.out 0).trans rfl, (blk_cell A0.out 1).trans rfl, (blk_cell A0.out 2).trans rfl⟩ (fun hHeld => ?_)
            clear hK K
            refine norm_ (a' := ?_) ?_ ?_
            rotate_left
            ·show Act.put _ (some 118) _ = _
             simp only [Act.put, n9, i64_w, i32_w]
             rfl
            refine pure_ (i := 10) (N := some 119) (v := ?_) (a' := ?_) d29_ rfl rfl (any_of HT_.out (by kernel_rfl)) (fun _ _ _ h => h) (Or.inl ⟨by rfl, ?_⟩) ?_ ?_
            rotate_left
            ·intro w'
             go_simp
             with_reducible rfl
            rotate_left
            ·simp only [Act.put, n9, i64_w, i32_w]
             rfl
            refine pure_ (i := 11) (N := some 120) (v := ?_) (a' := ?_) d30_ rfl rfl (any_of HT_.out (by kernel_rfl)) (fun _ _ _ h => h) (Or.inl ⟨by rfl, ?_⟩) ?_ ?_
            rotate_left
            ·intro w'
             go_simp
             with_reducible rfl
            rotate_left
            ·simp only [Act.put, n9, i64_w, i32_w]
             rfl
            refine pure_ (i := 12) (N := some 121) (v := ?_) (a' := ?_) d31_ rfl rfl (any_of HT_.out (by kernel_rfl)) (fun _ _ _ h => h) (Or.inl ⟨by rfl, ?_⟩) ?_ ?_
            rotate_left
            ·intro w'
             go_simp
             with_reducible rfl
            rotate_left
            ·simp only [Act.put, n9, i64_w, i32_w]
             rfl
            refine pure_ (i := 13) (N := some 122) (v := undef) (a' := ?_) d32_ rfl rfl (any_of HT_.out (by kernel_rfl)) (fun _ _ _ h => h) (Or.inr ⟨by rfl, rfl⟩) ?_ ?_
            rotate_left
            ·simp only [Act.put, n9, i64_w, i32_w]
             rfl
            refine pure_ (i := 14) (N := some 123) (v := undef) (a' := ?_) d38_ rfl rfl (any_of HT_.out (by kernel_rfl)) (fun _ _ _ h => h) (Or.inr ⟨by rfl, rfl⟩) ?_ ?_
            rotate_left
            ·simp only [Act.put, n9, i64_w, i32_w]
             rfl
            refine pure_ (i := 15) (N := some 124) (v := undef) (a' := ?_) d34_ rfl rfl (any_of HT_.out (by kernel_rfl)) (fun _ _ _ h => h) (Or.inr ⟨by rfl, rfl⟩) ?_ ?_
            rotate_left
            ·simp only [Act.put, n9, i64_w, i32_w]
             rfl
            refine pure_ (i := 16) (N := some 125) (v := undef) (a' := ?_) d35_ rfl rfl (any_of HT_.out (by kernel_rfl)) (fun _ _ _ h => h) (Or.inr ⟨by rfl, rfl⟩) ?_ ?_
            rotate_left
            ·simp only [Act.put, n9, i64_w, i32_w]
             rfl
            refine pure_ (i := 17) (N := some 126) (v := undef) (a' := ?_) d36_ rfl rfl (any_of HT_.out (by kernel_rfl)) (fun _ _ _ h => h) (Or.inr ⟨by rfl, rfl⟩) ?_ ?_
            rotate_left
            ·simp only [Act.put, n9, i64_w, i32_w]
             rfl
            refine pure_ (i := 18) (N := some 127) (v := ?_) (a' := ?_) d37_ rfl rfl (any_of HT_.out (by kernel_rfl)) (fun _ _ _ h => h) (Or.inl ⟨by rfl, ?_⟩) ?_ ?_
            rotate_left
            ·intro w'
             go_simp
             with_reducible rfl
            rotate_left
            ·simp only [Act.put, n9, i64_w, i32_w]
             rfl
            refine done_ (done_of HT_.out (by kernel_rfl)) ?_
            try go_wp2
            go_ret
            exact ⟨by first | rfl | (simp [errW_none, errW_some] <;> rfl) | (simp [*, errW_none, errW_some] <;> rfl), by repeat (first | (with_reducible first | exact HB.out | apply b4_ | apply b5_ | apply b6_ | refine b7_ ?_ (b8_ A2.out) | refine b7_ ?_ Ag.out) | exact HB.out)⟩
          ·rw [if_neg c123] at H
           have c123b0 : (t230 == t234) = false := beq_eq_false_iff_ne.mpr c123
           have c123b1 : (t230 != t234) = true := bne_iff_ne.mpr c123
           obtain rfl := Option.some.inj H
           try go_wp2
           have n0_ := Aside0.mk (b2_ A0.out)
           have n1_ := Aside0.mk (c2_ A2.out)
           have n2_ := Aside0.mk (b6_ HB.out)
           clear A0
           clear A2
           clear HB
           have A0 := n0_
           have A2 := n1_
           have HB := n2_
           clear n0_ n1_ n2_
           refine start_ (n := 19) (S := fun w' => w'.cell? ⟨A3, 0, none⟩ = some (.string Ab) ∧ w'.cell? ⟨A3, 1, none⟩ = some (.int .i64 Ac) ∧ w'.cell? ⟨A3, 2, none⟩ = some (.int .i64 Ad)) (ds := []) d18_ (by kernel_rfl) rfl rfl ⟨(blk_cell A0.out 0).trans rfl, (blk_cell A0.out 1).trans rfl, (blk_cell A0.out 2).trans rfl⟩ (fun hHeld => ?_); refine with_tabW mapmakerlaw02_WireReads.tab29 mapmakerlaw02_WireReads.bits29 (fun HT_ HW_ => ?_)
           generalize wc.drew = w149 at A0 A2 HB hHeld ⊢
           refine pure_ (i := 0) (N := some 109) (v := ?_) (a' := ?_) d19_ rfl rfl (any_of HT_.out (by kernel_rfl)) (fun _ _ _ h => h) (Or.inl ⟨by rfl, ?_⟩) ?_ ?_
           rotate_left
           ·intro w'
            go_simp
            with_reducible rfl
           rotate_left
           ·simp only [Act.put, n9, i64_w, i32_w]
            rfl
           refine take_ (i := 2) (N := some 111) (v := ?_) (a' := ?_) d20_ rfl rfl (take_ofW HT_.out HW_.out (by kernel_rfl)) (fun _ _ _ h => h) (Or.inl ⟨by rfl, ?_⟩) hHeld ?_ ?_
           rotate_left
           ·rintro w' ⟨s0, s1, s2⟩
            go_simp
            with_reducible rfl
           rotate_left
           ·simp only [Act.put, n9, i64_w, i32_w]
            rfl
           refine one_ (i := 1) (N := some 110) d21_ rfl rfl (one_of HT_.out (by kernel_rfl)) (by decide) (fun K hK => ?_)
           refine goes_ Try.func19 (by kernel_rfl) rfl #[.pointer (some ⟨g178, 0, none⟩)] (by rfl) rfl rfl (by (try simp only [List.map_toArray, List.map_cons, List.map_nil]); first | done | rfl) ?_
           with_reducible refine (wire_Reader_Left.calls g178 Bv Bw Bx t230 t231 t232 t233 w _ ?side1 ?side2 A121.out).mono ?_
           (case side1 => repeat (first | (with_reducible first | exact A2.out | apply b9_ | apply c1_ | apply c2_ | refine c3_ ?_ Aa.out _) | exact A2.out))
           (case side2 => repeat (first | (with_reducible first | exact HB.out | apply b4_ | apply b5_ | apply b6_ | refine b7_ ?_ (b8_ A2.out) | refine b7_ ?_ Ag.out) | exact HB.out))
           rintro e w150 ⟨rfl, hi, hb, hk⟩
           refine ⟨_, rfl, ?_⟩
           have n0_ := Aside0.mk (KeepBut.blk hk (g' := A3) (o := .cells #[.string Ab, .int .i64 Ac, .int .i64 Ad] 42 (0, 0)) (by (with_reducible repeat first | apply b1_ | apply b2_ | apply b3_); exact A0.out) Au.out (by simp))
           have n1_ := Aside0.mk (hb)
           have n2_ := Aside0.mk (hi)
           clear A0
           clear HB
           clear A2
           have A0 := n0_
           have HB := n1_
           have A2 := n2_
           clear n0_ n1_ n2_
           (try clear hb)
           (try clear hb2)
           (try clear hk)
           (try clear hi)
           refine hK.out _ _ ⟨(blk_cell A0.out 0).trans rfl, (blk_cell A0.out 1).trans rfl, (blk_cell A0.out 2).trans rfl⟩ (fun hHeld => ?_)
           clear hK K
           refine norm_ (a' := ?_) ?_ ?_
           rotate_left
           ·show Act.put _ (some 110) _ = _
            simp only [Act.put, n9, i64_w, i32_w]
            rfl
           refine one_ (i := 3) (N := some 112) d22_ rfl rfl (one_of HT_.out (by kernel_rfl)) (by decide) (fun K hK => ?_)
           refine goes_ Try.func27 (by kernel_rfl) rfl #[.agg #[.string Ab, .int .i64 Ac, .int .i64 Ad]] (by rfl) rfl rfl (by (try simp only [List.map_toArray, List.map_cons, List.map_nil]); first | done | rfl) ?_
           with_reducible refine (mapmakerref02_Left.calls Ab Ac Ad t234 _ A122.out).mono ?_
           rintro e w151 ⟨rfl, hb⟩
           refine ⟨_, rfl, ?_⟩
           have n0_ := Aside0.mk (blk_below (g := A3) (o := .cells #[.string Ab, .int .i64 Ac, .int .i64 Ad] 42 (0, 0)) (by (with_reducible repeat first | apply b1_ | apply b2_ | apply b3_); exact A0.out) hb)
           have n1_ := Aside0.mk (IsS59.below (by repeat (first | (with_reducible first | exact A2.out | apply b9_ | apply c1_ | apply c2_ | refine c3_ ?_ Aa.out _) | exact A2.out)) hb)
           have n2_ := Aside0.mk (below_step (by repeat (first | (with_reducible first | exact HB.out | apply b4_ | apply b5_ | apply b6_ | refine b7_ ?_ (b8_ A2.out) | refine b7_ ?_ Ag.out) | exact HB.out)) hb)
           clear A0
           clear A2
           clear HB
           have A0 := n0_
           have A2 := n1_
           have HB := n2_
           clear n0_ n1_ n2_
           (try clear hb)
           (try clear hb2)
           (try clear hk)
           (try clear hi)
           refine hK.out _ _ ⟨(blk_cell A0.out 0).trans rfl, (blk_cell A0.out 1).trans rfl, (blk_cell A0.out 2).trans rfl⟩ (fun hHeld => ?_)
           clear hK K
           refine norm_ (a' := ?_) ?_ ?_
           rotate_left
           ·show Act.put _ (some 112) _ = _
            simp only [Act.put, n9, i64_w, i32_w]
            rfl
           refine pure_ (i := 4) (N := some 113) (v := ?_) (a' := ?_) d23_ rfl rfl (any_of HT_.out (by kernel_rfl)) (fun _ _ _ h => h) (Or.inl ⟨by rfl, ?_⟩) ?_ ?_
           rotate_left
           ·intro w'
            go_simp
            with_reducible rfl
           rotate_left
           ·simp only [Act.put, n9, i64_w, i32_w]
            rfl
           refine pure_ (i := 5) (N := some 114) (v := ?_) (a' := ?_) d24_ rfl rfl (any_of HT_.out (by kernel_rfl)) (fun _ _ _ h => h) (Or.inl ⟨by rfl, ?_⟩) ?_ ?_
           rotate_left
           ·intro w'
            go_simp
            with_reducible rfl
           rotate_left
           ·simp only [Act.put, n9, i64_w, i32_w]
            rfl
           refine pure_ (i := 6) (N := some 115) (v := undef) (a' := ?_) d25_ rfl rfl (any_of HT_.out (by kernel_rfl)) (fun _ _ _ h => h) (Or.inr ⟨by rfl, rfl⟩) ?_ ?_
           rotate_left
           ·simp only [Act.put, n9, i64_w, i32_w]
            rfl
           refine pure_ (i := 7) (N := some 116) (v := undef) (a' := ?_) d39_ rfl rfl (any_of HT_.out (by kernel_rfl)) (fun _ _ _ h => h) (Or.inr ⟨by rfl, rfl⟩) ?_ ?_
           rotate_left
           ·simp only [Act.put, n9, i64_w, i32_w]
            rfl
           refine pure_ (i := 8) (N := some 117) (v := undef) (a' := ?_) d27_ rfl rfl (any_of HT_.out (by kernel_rfl)) (fun _ _ _ h => h) (Or.inr ⟨by rfl, rfl⟩) ?_ ?_
           rotate_left
           ·simp only [Act.put, n9, i64_w, i32_w]
            rfl
           refine pure_ (i := 9) (N := some 118) (v := undef) (a' := ?_) d28_ rfl rfl (any_of HT_.out (by kernel_rfl)) (fun _ _ _ h => h) (Or.inr ⟨by rfl, rfl⟩) ?_ ?_
           rotate_left
           ·simp only [Act.put, n9, i64_w, i32_w]
            rfl
           refine pure_ (i := 10) (N := some 119) (v := undef) (a' := ?_) d29_ rfl rfl (any_of HT_.out (by kernel_rfl)) (fun _ _ _ h => h) (Or.inr ⟨by rfl, rfl⟩) ?_ ?_
           rotate_left
           ·simp only [Act.put, n9, i64_w, i32_w]
            rfl
           refine pure_ (i := 11) (N := some 120) (v := ?_) (a' := ?_) d30_ rfl rfl (any_of HT_.out (by kernel_rfl)) (fun _ _ _ h => h) (Or.inl ⟨by rfl, ?_⟩) ?_ ?_
           rotate_left
           ·intro w'
            go_simp
            with_reducible rfl
           rotate_left
           ·simp only [Act.put, n9, i64_w, i32_w]
            rfl
           refine pure_ (i := 12) (N := some 121) (v := ?_) (a' := ?_) d31_ rfl rfl (any_of HT_.out (by kernel_rfl)) (fun _ _ _ h => h) (Or.inl ⟨by rfl, ?_⟩) ?_ ?_
           rotate_left
           ·intro w'
            go_simp
            with_reducible rfl
           rotate_left
           ·simp only [Act.put, n9, i64_w, i32_w]
            rfl
           refine pure_ (i := 13) (N := some 122) (v := undef) (a' := ?_) d32_ rfl rfl (any_of HT_.out (by kernel_rfl)) (fun _ _ _ h => h) (Or.inr ⟨by rfl, rfl⟩) ?_ ?_
           rotate_left
           ·simp only [Act.put, n9, i64_w, i32_w]
            rfl
           refine pure_ (i := 14) (N := some 123) (v := undef) (a' := ?_) d38_ rfl rfl (any_of HT_.out (by kernel_rfl)) (fun _ _ _ h => h) (Or.inr ⟨by rfl, rfl⟩) ?_ ?_
           rotate_left
           ·simp only [Act.put, n9, i64_w, i32_w]
            rfl
           refine pure_ (i := 15) (N := some 124) (v := undef) (a' := ?_) d34_ rfl rfl (any_of HT_.out (by kernel_rfl)) (fun _ _ _ h => h) (Or.inr ⟨by rfl, rfl⟩) ?_ ?_
           rotate_left
           ·simp only [Act.put, n9, i64_w, i32_w]
            rfl
           refine pure_ (i := 16) (N := some 125) (v := undef) (a' := ?_) d35_ rfl rfl (any_of HT_.out (by kernel_rfl)) (fun _ _ _ h => h) (Or.inr ⟨by rfl, rfl⟩) ?_ ?_
           rotate_left
           ·simp only [Act.put, n9, i64_w, i32_w]
            rfl
           refine pure_ (i := 17) (N := some 126) (v := undef) (a' := ?_) d36_ rfl rfl (any_of HT_.out (by kernel_rfl)) (fun _ _ _ h => h) (Or.inr ⟨by rfl, rfl⟩) ?_ ?_
           rotate_left
           ·simp only [Act.put, n9, i64_w, i32_w]
            rfl
           refine pure_ (i := 18) (N := some 127) (v := ?_) (a' := ?_) d37_ rfl rfl (any_of HT_.out (by kernel_rfl)) (fun _ _ _ h => h) (Or.inl ⟨by rfl, ?_⟩) ?_ ?_
           rotate_left
           ·intro w'
            go_simp
            with_reducible rfl
           rotate_left
           ·simp only [Act.put, n9, i64_w, i32_w]
            rfl
           refine done_ (done_of HT_.out (by kernel_rfl)) ?_
           try go_wp2
           go_ret
           exact ⟨by first | rfl | (simp [errW_none, errW_some] <;> rfl) | (simp [*, errW_none, errW_some] <;> rfl), by repeat (first | (with_reducible first | exact HB.out | apply b4_ | apply b5_ | apply b6_ | refine b7_ ?_ (b8_ A2.out) | refine b7_ ?_ Ag.out) | exact HB.out)⟩
       ·rw [if_neg c16] at H
        exact absurd H (by simp)
      ·rw [if_neg c15] at H
       have c15b0 : decide (x7_2 < (l1.length : Int)) = false := decide_eq_false c15
       clear c15
       replace H := Option.bind_eq_some_iff.mp H
       obtain ⟨⟨t183, t184, t185, t186⟩, A1520, H⟩ := H
       replace H : ((mapmakerref02_Done.f A7 A5 A4).bind fun t187 => (if t183 = t187 then ((mapmakerlaw02_lives.f).bind fun t188 => (some t188)) else (some false))) = some r := H
       have A152 := Aside0.mk A1520
       clear A1520
       replace H := Option.bind_eq_some_iff.mp H
       obtain ⟨t187, A1530, H⟩ := H
       replace H : (if t183 = t187 then ((mapmakerlaw02_lives.f).bind fun t188 => (some t188)) else (some false)) = some r := H
       have A153 := Aside0.mk A1530
       clear A1530
       by_cases c154 : t183 = t187
       ·rw [if_pos c154] at H
        have c154b0 : (t183 == t187) = true := beq_iff_eq.mpr c154
        have c154b1 : (t183 != t187) = false := bne_eq_false_iff_eq.mpr c154
        clear c154
        replace H := Option.bind_eq_some_iff.mp H
        obtain ⟨t188, A1550, H⟩ := H
        replace H : (some t188) = some r := H
        have A155 := Aside0.mk A1550
        clear A1550
        obtain rfl := Option.some.inj H
        try go_wp2
        have n0_ := Aside0.mk (b2_ A0.out)
        have n1_ := Aside0.mk (c2_ A2.out)
        have n2_ := Aside0.mk (b6_ HB.out)
        clear A0
        clear A2
        clear HB
        have A0 := n0_
        have A2 := n1_
        have HB := n2_
        clear n0_ n1_ n2_
        refine start_ (n := 9) (S := fun w' => w'.cell? ⟨A3, 0, none⟩ = some (.string A7) ∧ w'.cell? ⟨A3, 1, none⟩ = some (.int .i64 A5) ∧ w'.cell? ⟨A3, 2, none⟩ = some (.int .i64 A4)) (ds := []) d40_ (by kernel_rfl) rfl rfl ⟨(blk_cell A0.out 0).trans rfl, (blk_cell A0.out 1).trans rfl, (blk_cell A0.out 2).trans rfl⟩ (fun hHeld => ?_); refine with_tabW mapmakerlaw02_WireReads.tab31 mapmakerlaw02_WireReads.bits31 (fun HT_ HW_ => ?_)
        generalize wr.drew = w156 at A0 A2 HB hHeld ⊢
        refine pure_ (i := 0) (N := some 128) (v := ?_) (a' := ?_) d41_ rfl rfl (any_of HT_.out (by kernel_rfl)) (fun _ _ _ h => h) (Or.inl ⟨by rfl, ?_⟩) ?_ ?_
        rotate_left
        ·intro w'
         go_simp
         with_reducible rfl
        rotate_left
        ·simp only [Act.put, n9, i64_w, i32_w]
         rfl
        refine take_ (i := 2) (N := some 130) (v := ?_) (a' := ?_) d42_ rfl rfl (take_ofW HT_.out HW_.out (by kernel_rfl)) (fun _ _ _ h => h) (Or.inl ⟨by rfl, ?_⟩) hHeld ?_ ?_
        rotate_left
        ·rintro w' ⟨s0, s1, s2⟩
         go_simp
         with_reducible rfl
        rotate_left
        ·simp only [Act.put, n9, i64_w, i32_w]
         rfl
        refine one_ (i := 1) (N := some 129) d43_ rfl rfl (one_of HT_.out (by kernel_rfl)) (by decide) (fun K hK => ?_)
        refine goes_ Try.func18 (by kernel_rfl) rfl #[.pointer (some ⟨g178, 0, none⟩)] (by rfl) rfl rfl (by (try simp only [List.map_toArray, List.map_cons, List.map_nil]); first | done | rfl) ?_
        with_reducible refine (wire_Reader_Done.calls g178 Ai Ah Aj t183 t184 t185 t186 w _ ?side1 ?side2 A152.out).mono ?_
        (case side1 => repeat (first | (with_reducible first | exact A2.out | apply b9_ | apply c1_ | apply c2_ | refine c3_ ?_ Aa.out _) | exact A2.out))
        (case side2 => repeat (first | (with_reducible first | exact HB.out | apply b4_ | apply b5_ | apply b6_ | refine b7_ ?_ (b8_ A2.out) | refine b7_ ?_ Ag.out) | exact HB.out))
        rintro e w157 ⟨rfl, hi, hb, hk⟩
        refine ⟨_, rfl, ?_⟩
        have n0_ := Aside0.mk (KeepBut.blk hk (g' := A3) (o := .cells #[.string A7, .int .i64 A5, .int .i64 A4] 42 (0, 0)) (by (with_reducible repeat first | apply b1_ | apply b2_ | apply b3_); exact A0.out) Au.out (by simp))
        have n1_ := Aside0.mk (hb)
        have n2_ := Aside0.mk (hi)
        clear A0
        clear HB
        clear A2
        have A0 := n0_
        have HB := n1_
        have A2 := n2_
        clear n0_ n1_ n2_
        (try clear hb)
        (try clear hb2)
        (try clear hk)
        (try clear hi)
        refine hK.out _ _ ⟨(blk_cell A0.out 0).trans rfl, (blk_cell A0.out 1).trans rfl, (blk_cell A0.out 2).trans rfl⟩ (fun hHeld => ?_)
        clear hK K
        refine norm_ (a' := ?_) ?_ ?_
        rotate_left
        ·show Act.put _ (some 129) _ = _
         simp only [Act.put, n9, i64_w, i32_w]
         rfl
        refine one_ (i := 3) (N := some 131) d44_ rfl rfl (one_of HT_.out (by kernel_rfl)) (by decide) (fun K hK => ?_)
        refine goes_ Try.func29 (by kernel_rfl) rfl #[.agg #[.string A7, .int .i64 A5, .int .i64 A4]] (by rfl) rfl rfl (by (try simp only [List.map_toArray, List.map_cons, List.map_nil]); first | done | rfl) ?_
        with_reducible refine (mapmakerref02_Done.calls A7 A5 A4 t187 _ A153.out).mono ?_
        rintro e w158 ⟨rfl, hb⟩
        refine ⟨_, rfl, ?_⟩
        have n0_ := Aside0.mk (blk_below (g := A3) (o := .cells #[.string A7, .int .i64 A5, .int .i64 A4] 42 (0, 0)) (by (with_reducible repeat first | apply b1_ | apply b2_ | apply b3_); exact A0.out) hb)
        have n1_ := Aside0.mk (IsS59.below (by repeat (first | (with_reducible first | exact A2.out | apply b9_ | apply c1_ | apply c2_ | refine c3_ ?_ Aa.out _) | exact A2.out)) hb)
        have n2_ := Aside0.mk (below_step (by repeat (first | (with_reducible first | exact HB.out | apply b4_ | apply b5_ | apply b6_ | refine b7_ ?_ (b8_ A2.out) | refine b7_ ?_ Ag.out) | exact HB.out)) hb)
        clear A0
        clear A2
        clear HB
        have A0 := n0_
        have A2 := n1_
        have HB := n2_
        clear n0_ n1_ n2_
        (try clear hb)
        (try clear hb2)
        (try clear hk)
        (try clear hi)
        refine hK.out _ _ ⟨(blk_cell A0.out 0).trans rfl, (blk_cell A0.out 1).trans rfl, (blk_cell A0.out 2).trans rfl⟩ (fun hHeld => ?_)
        clear hK K
        refine norm_ (a' := ?_) ?_ ?_
        rotate_left
        ·show Act.put _ (some 131) _ = _
         simp only [Act.put, n9, i64_w, i32_w]
         rfl
        refine pure_ (i := 4) (N := some 132) (v := ?_) (a' := ?_) d45_ rfl rfl (any_of HT_.out (by kernel_rfl)) (fun _ _ _ h => h) (Or.inl ⟨by rfl, ?_⟩) ?_ ?_
        rotate_left
        ·intro w'
         go_simp
         with_reducible rfl
        rotate_left
        ·simp only [Act.put, n9, i64_w, i32_w]
         rfl
        refine pure_ (i := 5) (N := some 133) (v := ?_) (a' := ?_) d46_ rfl rfl (any_of HT_.out (by kernel_rfl)) (fun _ _ _ h => h) (Or.inl ⟨by rfl, ?_⟩) ?_ ?_
        rotate_left
        ·intro w'
         go_simp
         with_reducible rfl
        rotate_left
        ·simp only [Act.put, n9, i64_w, i32_w]
         rfl
        refine one_ (i := 6) (N := some 134) d47_ rfl rfl (one_of HT_.out (by kernel_rfl)) (by decide) (fun K hK => ?_)
        refine goes_ Try.func7 (by kernel_rfl) rfl #[] (by rfl) rfl rfl (by (try simp only [List.map_toArray, List.map_cons, List.map_nil]); first | done | rfl) ?_
        with_reducible refine (mapmakerlaw02_lives.calls  t188 _ A155.out).mono ?_
        rintro e w159 ⟨rfl, hb⟩
        refine ⟨_, rfl, ?_⟩
        have n0_ := Aside0.mk (blk_below (g := A3) (o := .cells #[.string A7, .int .i64 A5, .int .i64 A4] 42 (0, 0)) (by (with_reducible repeat first | apply b1_ | apply b2_ | apply b3_); exact A0.out) hb)
        have n1_ := Aside0.mk (IsS59.below (by repeat (first | (with_reducible first | exact A2.out | apply b9_ | apply c1_ | apply c2_ | refine c3_ ?_ Aa.out _) | exact A2.out)) hb)
        have n2_ := Aside0.mk (below_step (by repeat (first | (with_reducible first | exact HB.out | apply b4_ | apply b5_ | apply b6_ | refine b7_ ?_ (b8_ A2.out) | refine b7_ ?_ Ag.out) | exact HB.out)) hb)
        clear A0
        clear A2
        clear HB
        have A0 := n0_
        have A2 := n1_
        have HB := n2_
        clear n0_ n1_ n2_
        (try clear hb)
        (try clear hb2)
        (try clear hk)
        (try clear hi)
        refine hK.out _ _ ⟨(blk_cell A0.out 0).trans rfl, (blk_cell A0.out 1).trans rfl, (blk_cell A0.out 2).trans rfl⟩ (fun hHeld => ?_)
        clear hK K
        refine norm_ (a' := ?_) ?_ ?_
        rotate_left
        ·show Act.put _ (some 134) _ = _
         simp only [Act.put, n9, i64_w, i32_w]
         rfl
        refine pure_ (i := 7) (N := some 135) (v := ?_) (a' := ?_) d48_ rfl rfl (any_of HT_.out (by kernel_rfl)) (fun _ _ _ h => h) (Or.inl ⟨by rfl, ?_⟩) ?_ ?_
        rotate_left
        ·intro w'
         go_simp
         with_reducible rfl
        rotate_left
        ·simp only [Act.put, n9, i64_w, i32_w]
         rfl
        refine pure_ (i := 8) (N := some 4) (v := ?_) (a' := ?_) d49_ rfl rfl (any_of HT_.out (by kernel_rfl)) (fun _ _ _ h => h) (Or.inl ⟨by rfl, ?_⟩) ?_ ?_
        rotate_left
        ·intro w'
         go_simp
         with_reducible rfl
        rotate_left
        ·simp only [Act.put, n9, i64_w, i32_w]
         rfl
        refine done_ (done_of HT_.out (by kernel_rfl)) ?_
        try go_wp2
        go_ret
        exact ⟨by first | rfl | (simp [errW_none, errW_some] <;> rfl) | (simp [*, errW_none, errW_some] <;> rfl), by repeat (first | (with_reducible first | exact HB.out | apply b4_ | apply b5_ | apply b6_ | refine b7_ ?_ (b8_ A2.out) | refine b7_ ?_ Ag.out) | exact HB.out)⟩
       ·rw [if_neg c154] at H
        have c154b0 : (t183 == t187) = false := beq_eq_false_iff_ne.mpr c154
        have c154b1 : (t183 != t187) = true := bne_iff_ne.mpr c154
        obtain rfl := Option.some.inj H
        try go_wp2
        have n0_ := Aside0.mk (b2_ A0.out)
        have n1_ := Aside0.mk (c2_ A2.out)
        have n2_ := Aside0.mk (b6_ HB.out)
        clear A0
        clear A2
        clear HB
        have A0 := n0_
        have A2 := n1_
        have HB := n2_
        clear n0_ n1_ n2_
        refine start_ (n := 9) (S := fun w' => w'.cell? ⟨A3, 0, none⟩ = some (.string A7) ∧ w'.cell? ⟨A3, 1, none⟩ = some (.int .i64 A5) ∧ w'.cell? ⟨A3, 2, none⟩ = some (.int .i64 A4)) (ds := []) d40_ (by kernel_rfl) rfl rfl ⟨(blk_cell A0.out 0).trans rfl, (blk_cell A0.out 1).trans rfl, (blk_cell A0.out 2).trans rfl⟩ (fun hHeld => ?_); refine with_tabW mapmakerlaw02_WireReads.tab31 mapmakerlaw02_WireReads.bits31 (fun HT_ HW_ => ?_)
        generalize wr.drew = w160 at A0 A2 HB hHeld ⊢
        refine pure_ (i := 0) (N := some 128) (v := ?_) (a' := ?_) d41_ rfl rfl (any_of HT_.out (by kernel_rfl)) (fun _ _ _ h => h) (Or.inl ⟨by rfl, ?_⟩) ?_ ?_
        rotate_left
        ·intro w'
         go_simp
         with_reducible rfl
        rotate_left
        ·simp only [Act.put, n9, i64_w, i32_w]
         rfl
        refine take_ (i := 2) (N := some 130) (v := ?_) (a' := ?_) d42_ rfl rfl (take_ofW HT_.out HW_.out (by kernel_rfl)) (fun _ _ _ h => h) (Or.inl ⟨by rfl, ?_⟩) hHeld ?_ ?_
        rotate_left
        ·rintro w' ⟨s0, s1, s2⟩
         go_simp
         with_reducible rfl
        rotate_left
        ·simp only [Act.put, n9, i64_w, i32_w]
         rfl
        refine one_ (i := 1) (N := some 129) d43_ rfl rfl (one_of HT_.out (by kernel_rfl)) (by decide) (fun K hK => ?_)
        refine goes_ Try.func18 (by kernel_rfl) rfl #[.pointer (some ⟨g178, 0, none⟩)] (by rfl) rfl rfl (by (try simp only [List.map_toArray, List.map_cons, List.map_nil]); first | done | rfl) ?_
        with_reducible refine (wire_Reader_Done.calls g178 Ai Ah Aj t183 t184 t185 t186 w _ ?side1 ?side2 A152.out).mono ?_
        (case side1 => repeat (first | (with_reducible first | exact A2.out | apply b9_ | apply c1_ | apply c2_ | refine c3_ ?_ Aa.out _) | exact A2.out))
        (case side2 => repeat (first | (with_reducible first | exact HB.out | apply b4_ | apply b5_ | apply b6_ | refine b7_ ?_ (b8_ A2.out) | refine b7_ ?_ Ag.out) | exact HB.out))
        rintro e w161 ⟨rfl, hi, hb, hk⟩
        refine ⟨_, rfl, ?_⟩
        have n0_ := Aside0.mk (KeepBut.blk hk (g' := A3) (o := .cells #[.string A7, .int .i64 A5, .int .i64 A4] 42 (0, 0)) (by (with_reducible repeat first | apply b1_ | apply b2_ | apply b3_); exact A0.out) Au.out (by simp))
        have n1_ := Aside0.mk (hb)
        have n2_ := Aside0.mk (hi)
        clear A0
        clear HB
        clear A2
        have A0 := n0_
        have HB := n1_
        have A2 := n2_
        clear n0_ n1_ n2_
        (try clear hb)
        (try clear hb2)
        (try clear hk)
        (try clear hi)
        refine hK.out _ _ ⟨(blk_cell A0.out 0).trans rfl, (blk_cell A0.out 1).trans rfl, (blk_cell A0.out 2).trans rfl⟩ (fun hHeld => ?_)
        clear hK K
        refine norm_ (a' := ?_) ?_ ?_
        rotate_left
        ·show Act.put _ (some 129) _ = _
         simp only [Act.put, n9, i64_w, i32_w]
         rfl
        refine one_ (i := 3) (N := some 131) d44_ rfl rfl (one_of HT_.out (by kernel_rfl)) (by decide) (fun K hK => ?_)
        refine goes_ Try.func29 (by kernel_rfl) rfl #[.agg #[.string A7, .int .i64 A5, .int .i64 A4]] (by rfl) rfl rfl (by (try simp only [List.map_toArray, List.map_cons, List.map_nil]); first | done | rfl) ?_
        with_reducible refine (mapmakerref02_Done.calls A7 A5 A4 t187 _ A153.out).mono ?_
        rintro e w162 ⟨rfl, hb⟩
        refine ⟨_, rfl, ?_⟩
        have n0_ := Aside0.mk (blk_below (g := A3) (o := .cells #[.string A7, .int .i64 A5, .int .i64 A4] 42 (0, 0)) (by (with_reducible repeat first | apply b1_ | apply b2_ | apply b3_); exact A0.out) hb)
        have n1_ := Aside0.mk (IsS59.below (by repeat (first | (with_reducible first | exact A2.out | apply b9_ | apply c1_ | apply c2_ | refine c3_ ?_ Aa.out _) | exact A2.out)) hb)
        have n2_ := Aside0.mk (below_step (by repeat (first | (with_reducible first | exact HB.out | apply b4_ | apply b5_ | apply b6_ | refine b7_ ?_ (b8_ A2.out) | refine b7_ ?_ Ag.out) | exact HB.out)) hb)
        clear A0
        clear A2
        clear HB
        have A0 := n0_
        have A2 := n1_
        have HB := n2_
        clear n0_ n1_ n2_
        (try clear hb)
        (try clear hb2)
        (try clear hk)
        (try clear hi)
        refine hK.out _ _ ⟨(blk_cell A0.out 0).trans rfl, (blk_cell A0.out 1).trans rfl, (blk_cell A0.out 2).trans rfl⟩ (fun hHeld => ?_)
        clear hK K
        refine norm_ (a' := ?_) ?_ ?_
        rotate_left
        ·show Act.put _ (some 131) _ = _
         simp only [Act.put, n9, i64_w, i32_w]
         rfl
        refine pure_ (i := 4) (N := some 132) (v := ?_) (a' := ?_) d45_ rfl rfl (any_of HT_.out (by kernel_rfl)) (fun _ _ _ h => h) (Or.inl ⟨by rfl, ?_⟩) ?_ ?_
        rotate_left
        ·intro w'
         go_simp
         with_reducible rfl
        rotate_left
        ·simp only [Act.put, n9, i64_w, i32_w]
         rfl
        refine pure_ (i := 5) (N := some 133) (v := ?_) (a' := ?_) d46_ rfl rfl (any_of HT_.out (by kernel_rfl)) (fun _ _ _ h => h) (Or.inl ⟨by rfl, ?_⟩) ?_ ?_
        rotate_left
        ·intro w'
         go_simp
         with_reducible rfl
        rotate_left
        ·simp only [Act.put, n9, i64_w, i32_w]
         rfl
        refine pure_ (i := 6) (N := some 134) (v := undef) (a' := ?_) d47_ rfl rfl (any_of HT_.out (by kernel_rfl)) (fun _ _ _ h => h) (Or.inr ⟨by rfl, rfl⟩) ?_ ?_
        rotate_left
        ·simp only [Act.put, n9, i64_w, i32_w]
         rfl
        refine pure_ (i := 7) (N := some 135) (v := ?_) (a' := ?_) d48_ rfl rfl (any_of HT_.out (by kernel_rfl)) (fun _ _ _ h => h) (Or.inl ⟨by rfl, ?_⟩) ?_ ?_
        rotate_left
        ·intro w'
         go_simp
         with_reducible rfl
        rotate_left
        ·simp only [Act.put, n9, i64_w, i32_w]
         rfl
        refine pure_ (i := 8) (N := some 4) (v := ?_) (a' := ?_) d49_ rfl rfl (any_of HT_.out (by kernel_rfl)) (fun _ _ _ h => h) (Or.inl ⟨by rfl, ?_⟩) ?_ ?_
        rotate_left
        ·intro w'
         go_simp
         with_reducible rfl
        rotate_left
        ·simp only [Act.put, n9, i64_w, i32_w]
         rfl
        refine done_ (done_of HT_.out (by kernel_rfl)) ?_
        try go_wp2
        go_ret
        exact ⟨by first | rfl | (simp [errW_none, errW_some] <;> rfl) | (simp [*, errW_none, errW_some] <;> rfl), by repeat (first | (with_reducible first | exact HB.out | apply b4_ | apply b5_ | apply b6_ | refine b7_ ?_ (b8_ A2.out) | refine b7_ ?_ Ag.out) | exact HB.out)⟩

end Go.Proofs.Ytnnadgnohchmbaa.PALL
