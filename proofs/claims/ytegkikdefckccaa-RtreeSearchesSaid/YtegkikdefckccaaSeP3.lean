-- Out of the translation and of texts of our own, merged (wip/gen/pack.py): what the row names and no more.
import Derived.Test.YtegkikdefckccaaSeP1
import Derived.Test.YtegkikdefckccaaSeP2
section
namespace Go.Proofs.Ytegkikdefckccaa.PALL
open Go.RowKit Go.Proofs.YtegkikdefckccaaW.PrintWords Go.Proofs.YtegkikdefckccaaW.PrintLast Go.Proofs.YtegkikdefckccaaW.PrintMore Go.Proofs.YtegkikdefckccaaW.SepW
attribute [local go_sem] max2_int min2_int max_two min_two max_three min_three max_four min_four   -- for this text's walks alone
set_option linter.unusedVariables false
set_option linter.unusedSimpArgs false
abbrev dq11_0 : Array Bool := #[false, false, false, false, false, false, false, false, false, false, false, false, false, false, false, false, false, false, false, false, false, false, false, false, false, false, false, false, false, false, false, false, false, false, false, false, false, false, false, false, false, false, false, false, false, false, false, false]
abbrev dq11_1 : Array Bool := #[true, false, false, false, false, false, false, false, false, false, false, false, false, false, false, false, false, false, false, false, false, false, false, false, false, false, false, false, false, false, false, false, false, false, false, false, false, false, false, false, false, false, false, false, false, false, false, false]
abbrev dq11_2 : Array Bool := #[true, true, false, false, false, false, false, false, false, false, false, false, false, false, false, false, false, false, false, false, false, false, false, false, false, false, false, false, false, false, false, false, false, false, false, false, false, false, false, false, false, false, false, false, false, false, false, false]
abbrev dq11_3 : Array Bool := #[true, true, true, false, false, false, false, false, false, false, false, false, false, false, false, false, false, false, false, false, false, false, false, false, false, false, false, false, false, false, false, false, false, false, false, false, false, false, false, false, false, false, false, false, false, false, false, false]
abbrev dq11_4 : Array Bool := #[true, true, true, true, false, false, false, false, false, false, false, false, false, false, false, false, false, false, false, false, false, false, false, false, false, false, false, false, false, false, false, false, false, false, false, false, false, false, false, false, false, false, false, false, false, false, false, false]
abbrev dq11_5 : Array Bool := #[true, true, true, true, true, false, false, false, false, false, false, false, false, false, false, false, false, false, false, false, false, false, false, false, false, false, false, false, false, false, false, false, false, false, false, false, false, false, false, false, false, false, false, false, false, false, false, false]
abbrev dq11_6 : Array Bool := #[true, true, true, true, true, true, false, false, false, false, false, false, false, false, false, false, false, false, false, false, false, false, false, false, false, false, false, false, false, false, false, false, false, false, false, false, false, false, false, false, false, false, false, false, false, false, false, false]
abbrev dq11_7 : Array Bool := #[true, true, true, true, true, true, true, false, false, false, false, false, false, false, false, false, false, false, false, false, false, false, false, false, false, false, false, false, false, false, false, false, false, false, false, false, false, false, false, false, false, false, false, false, false, false, false, false]
abbrev dq11_8 : Array Bool := #[true, true, true, true, true, true, true, false, false, true, false, false, false, false, false, false, false, false, false, false, false, false, false, false, false, false, false, false, false, false, false, false, false, false, false, false, false, false, false, false, false, false, false, false, false, false, false, false]
abbrev dq11_9 : Array Bool := #[true, true, true, true, true, true, true, false, false, true, true, false, false, false, false, false, false, false, false, false, false, false, false, false, false, false, false, false, false, false, false, false, false, false, false, false, false, false, false, false, false, false, false, false, false, false, false, false]
abbrev dq11_10 : Array Bool := #[true, true, true, true, true, true, true, false, false, true, true, true, false, false, false, false, false, false, false, false, false, false, false, false, false, false, false, false, false, false, false, false, false, false, false, false, false, false, false, false, false, false, false, false, false, false, false, false]
abbrev dq11_11 : Array Bool := #[true, true, true, true, true, true, true, false, false, true, true, true, true, false, false, false, false, false, false, false, false, false, false, false, false, false, false, false, false, false, false, false, false, false, false, false, false, false, false, false, false, false, false, false, false, false, false, false]
abbrev dq11_12 : Array Bool := #[true, true, true, true, true, true, true, false, false, true, true, true, true, true, false, false, false, false, false, false, false, false, false, false, false, false, false, false, false, false, false, false, false, false, false, false, false, false, false, false, false, false, false, false, false, false, false, false]
abbrev dq11_13 : Array Bool := #[true, true, true, true, true, true, true, true, false, true, true, true, true, true, false, false, false, false, false, false, false, false, false, false, false, false, false, false, false, false, false, false, false, false, false, false, false, false, false, false, false, false, false, false, false, false, false, false]
abbrev dq11_14 : Array Bool := #[true, true, true, true, true, true, true, true, false, true, true, true, true, true, true, false, false, false, false, false, false, false, false, false, false, false, false, false, false, false, false, false, false, false, false, false, false, false, false, false, false, false, false, false, false, false, false, false]
abbrev dq11_15 : Array Bool := #[true, true, true, true, true, true, true, true, true, true, true, true, true, true, true, false, false, false, false, false, false, false, false, false, false, false, false, false, false, false, false, false, false, false, false, false, false, false, false, false, false, false, false, false, false, false, false, false]
abbrev dq11_16 : Array Bool := #[true, true, true, true, true, true, true, true, true, true, true, true, true, true, true, true, false, false, false, false, false, false, false, false, false, false, false, false, false, false, false, false, false, false, false, false, false, false, false, false, false, false, false, false, false, false, false, false]
abbrev dq11_17 : Array Bool := #[true, true, true, true, true, true, true, true, true, true, true, true, true, true, true, true, true, false, false, false, false, false, false, false, false, false, false, false, false, false, false, false, false, false, false, false, false, false, false, false, false, false, false, false, false, false, false, false]
abbrev dq11_18 : Array Bool := #[true, true, true, true, true, true, true, true, true, true, true, true, true, true, true, true, true, true, false, false, false, false, false, false, false, false, false, false, false, false, false, false, false, false, false, false, false, false, false, false, false, false, false, false, false, false, false, false]
abbrev dq11_19 : Array Bool := #[true, true, true, true, true, true, true, true, true, true, true, true, true, true, true, true, true, true, true, false, false, false, false, false, false, false, false, false, false, false, false, false, false, false, false, false, false, false, false, false, false, false, false, false, false, false, false, false]
abbrev dq11_20 : Array Bool := #[true, true, true, true, true, true, true, true, true, true, true, true, true, true, true, true, true, true, true, true, false, false, false, false, false, false, false, false, false, false, false, false, false, false, false, false, false, false, false, false, false, false, false, false, false, false, false, false]
abbrev dq11_21 : Array Bool := #[true, true, true, true, true, true, true, true, true, true, true, true, true, true, true, true, true, true, true, true, true, false, false, false, false, false, false, false, false, false, false, false, false, false, false, false, false, false, false, false, false, false, false, false, false, false, false, false]
abbrev dq11_22 : Array Bool := #[true, true, true, true, true, true, true, true, true, true, true, true, true, true, true, true, true, true, true, true, true, true, false, false, false, false, false, false, false, false, false, false, false, false, false, false, false, false, false, false, false, false, false, false, false, false, false, false]
abbrev dq11_23 : Array Bool := #[true, true, true, true, true, true, true, true, true, true, true, true, true, true, true, true, true, true, true, true, true, true, true, false, false, false, false, false, false, false, false, false, false, false, false, false, false, false, false, false, false, false, false, false, false, false, false, false]
abbrev dq11_24 : Array Bool := #[true, true, true, true, true, true, true, true, true, true, true, true, true, true, true, true, true, true, true, true, true, true, true, true, false, false, false, false, false, false, false, false, false, false, false, false, false, false, false, false, false, false, false, false, false, false, false, false]
abbrev dq11_25 : Array Bool := #[true, true, true, true, true, true, true, true, true, true, true, true, true, true, true, true, true, true, true, true, true, true, true, true, true, false, false, false, false, false, false, false, false, false, false, false, false, false, false, false, false, false, false, false, false, false, false, false]
abbrev dq11_26 : Array Bool := #[true, true, true, true, true, true, true, true, true, true, true, true, true, true, true, true, true, true, true, true, true, true, true, true, true, true, false, false, false, false, false, false, false, false, false, false, false, false, false, false, false, false, false, false, false, false, false, false]
abbrev dq11_27 : Array Bool := #[true, true, true, true, true, true, true, true, true, true, true, true, true, true, true, true, true, true, true, true, true, true, true, true, true, true, true, false, false, false, false, false, false, false, false, false, false, false, false, false, false, false, false, false, false, false, false, false]
abbrev dq11_28 : Array Bool := #[true, true, true, true, true, true, true, true, true, true, true, true, true, true, true, true, true, true, true, true, true, true, true, true, true, true, true, true, false, false, false, false, false, false, false, false, false, false, false, false, false, false, false, false, false, false, false, false]
abbrev dq11_29 : Array Bool := #[true, true, true, true, true, true, true, true, true, true, true, true, true, true, true, true, true, true, true, true, true, true, true, true, true, true, true, true, true, false, false, false, false, false, false, false, false, false, false, false, false, false, false, false, false, false, false, false]
abbrev dq11_30 : Array Bool := #[true, true, true, true, true, true, true, true, true, true, true, true, true, true, true, true, true, true, true, true, true, true, true, true, true, true, true, true, true, true, false, false, false, false, false, false, false, false, false, false, false, false, false, false, false, false, false, false]
abbrev dq11_31 : Array Bool := #[true, true, true, true, true, true, true, true, true, true, true, true, true, true, true, true, true, true, true, true, true, true, true, true, true, true, true, true, true, true, true, false, false, false, false, false, false, false, false, false, false, false, false, false, false, false, false, false]
abbrev dq11_32 : Array Bool := #[true, true, true, true, true, true, true, true, true, true, true, true, true, true, true, true, true, true, true, true, true, true, true, true, true, true, true, true, true, true, true, true, false, false, false, false, false, false, false, false, false, false, false, false, false, false, false, false]
abbrev dq11_33 : Array Bool := #[true, true, true, true, true, true, true, true, true, true, true, true, true, true, true, true, true, true, true, true, true, true, true, true, true, true, true, true, true, true, true, true, true, false, false, false, false, false, false, false, false, false, false, false, false, false, false, false]
abbrev dq11_34 : Array Bool := #[true, true, true, true, true, true, true, true, true, true, true, true, true, true, true, true, true, true, true, true, true, true, true, true, true, true, true, true, true, true, true, true, true, true, false, false, false, false, false, false, false, false, false, false, false, false, false, false]
abbrev dq11_35 : Array Bool := #[true, true, true, true, true, true, true, true, true, true, true, true, true, true, true, true, true, true, true, true, true, true, true, true, true, true, true, true, true, true, true, true, true, true, true, false, false, false, false, false, false, false, false, false, false, false, false, false]
abbrev dq11_36 : Array Bool := #[true, true, true, true, true, true, true, true, true, true, true, true, true, true, true, true, true, true, true, true, true, true, true, true, true, true, true, true, true, true, true, true, true, true, true, true, false, false, false, false, false, false, false, false, false, false, false, false]
abbrev dq11_37 : Array Bool := #[true, true, true, true, true, true, true, true, true, true, true, true, true, true, true, true, true, true, true, true, true, true, true, true, true, true, true, true, true, true, true, true, true, true, true, true, true, false, false, false, false, false, false, false, false, false, false, false]
abbrev dq11_38 : Array Bool := #[true, true, true, true, true, true, true, true, true, true, true, true, true, true, true, true, true, true, true, true, true, true, true, true, true, true, true, true, true, true, true, true, true, true, true, true, true, true, false, false, false, false, false, false, false, false, false, false]
abbrev dq11_39 : Array Bool := #[true, true, true, true, true, true, true, true, true, true, true, true, true, true, true, true, true, true, true, true, true, true, true, true, true, true, true, true, true, true, true, true, true, true, true, true, true, true, true, false, false, false, false, false, false, false, false, false]
abbrev dq11_40 : Array Bool := #[true, true, true, true, true, true, true, true, true, true, true, true, true, true, true, true, true, true, true, true, true, true, true, true, true, true, true, true, true, true, true, true, true, true, true, true, true, true, true, true, false, false, false, false, false, false, false, false]
abbrev dq11_41 : Array Bool := #[true, true, true, true, true, true, true, true, true, true, true, true, true, true, true, true, true, true, true, true, true, true, true, true, true, true, true, true, true, true, true, true, true, true, true, true, true, true, true, true, true, false, false, false, false, false, false, false]
abbrev dq11_42 : Array Bool := #[true, true, true, true, true, true, true, true, true, true, true, true, true, true, true, true, true, true, true, true, true, true, true, true, true, true, true, true, true, true, true, true, true, true, true, true, true, true, true, true, true, true, false, false, false, false, false, false]
abbrev dq11_43 : Array Bool := #[true, true, true, true, true, true, true, true, true, true, true, true, true, true, true, true, true, true, true, true, true, true, true, true, true, true, true, true, true, true, true, true, true, true, true, true, true, true, true, true, true, true, true, false, false, false, false, false]
abbrev dq11_44 : Array Bool := #[true, true, true, true, true, true, true, true, true, true, true, true, true, true, true, true, true, true, true, true, true, true, true, true, true, true, true, true, true, true, true, true, true, true, true, true, true, true, true, true, true, true, true, true, false, false, false, false]
abbrev dq11_45 : Array Bool := #[true, true, true, true, true, true, true, true, true, true, true, true, true, true, true, true, true, true, true, true, true, true, true, true, true, true, true, true, true, true, true, true, true, true, true, true, true, true, true, true, true, true, true, true, true, false, false, false]
abbrev dq11_46 : Array Bool := #[true, true, true, true, true, true, true, true, true, true, true, true, true, true, true, true, true, true, true, true, true, true, true, true, true, true, true, true, true, true, true, true, true, true, true, true, true, true, true, true, true, true, true, true, true, true, false, false]
abbrev dq11_47 : Array Bool := #[true, true, true, true, true, true, true, true, true, true, true, true, true, true, true, true, true, true, true, true, true, true, true, true, true, true, true, true, true, true, true, true, true, true, true, true, true, true, true, true, true, true, true, true, true, true, true, false]
abbrev dq11_48 : Array Bool := #[true, true, true, true, true, true, true, true, true, true, true, true, true, true, true, true, true, true, true, true, true, true, true, true, true, true, true, true, true, true, true, true, true, true, true, true, true, true, true, true, true, true, true, true, true, true, true, true]
abbrev dq11_49 : Array Bool := #[true, true, true, true, true, true, true, true, true, true, true, true, true, true, true, true, true, true, true, true, true, true, false, false, true, false, false, false, false, false, false, false, false, false, false, false, false, false, false, false, false, false, false, false, false, false, false, false]
abbrev dq11_50 : Array Bool := #[true, true, true, true, true, true, true, true, true, true, true, true, true, true, true, true, true, true, true, true, true, true, false, false, true, true, false, false, false, false, false, false, false, false, false, false, false, false, false, false, false, false, false, false, false, false, false, false]
abbrev dq11_51 : Array Bool := #[true, true, true, true, true, true, true, true, true, true, true, true, true, true, true, true, true, true, true, true, true, true, false, false, true, true, true, false, false, false, false, false, false, false, false, false, false, false, false, false, false, false, false, false, false, false, false, false]
abbrev dq11_52 : Array Bool := #[true, true, true, true, true, true, true, true, true, true, true, true, true, true, true, true, true, true, true, true, true, true, false, false, true, true, true, true, false, false, false, false, false, false, false, false, false, false, false, false, false, false, false, false, false, false, false, false]
abbrev dq11_53 : Array Bool := #[true, true, true, true, true, true, true, true, true, true, true, true, true, true, true, true, true, true, true, true, true, true, false, false, true, true, true, true, true, false, false, false, false, false, false, false, false, false, false, false, false, false, false, false, false, false, false, false]
abbrev dq11_54 : Array Bool := #[true, true, true, true, true, true, true, true, true, true, true, true, true, true, true, true, true, true, true, true, true, true, true, false, true, true, true, true, true, false, false, false, false, false, false, false, false, false, false, false, false, false, false, false, false, false, false, false]
abbrev dq11_55 : Array Bool := #[true, true, true, true, true, true, true, true, true, true, true, true, true, true, true, true, true, true, true, true, true, true, true, false, true, true, true, true, true, true, false, false, false, false, false, false, false, false, false, false, false, false, false, false, false, false, false, false]
abbrev dq11_56 : Array Bool := #[true, true, true, true, true, true, true, true, true, true, true, true, true, true, true, true, true, true, true, true, true, true, true, true, true, true, true, true, true, true, true, true, true, true, true, true, true, false, true, false, false, false, false, false, false, false, false, false]
abbrev dq11_57 : Array Bool := #[true, true, true, true, true, true, true, true, true, true, true, true, true, true, true, true, true, true, true, true, true, true, true, true, true, true, true, true, true, true, true, true, true, true, true, true, true, false, true, true, false, false, false, false, false, false, false, false]
abbrev dq11_58 : Array Bool := #[true, true, true, true, true, true, true, true, true, true, true, true, true, true, true, true, true, true, true, true, true, true, true, true, true, true, true, true, true, true, true, true, true, true, true, true, true, false, true, true, true, false, false, false, false, false, false, false]
abbrev dq11_59 : Array Bool := #[true, true, true, true, true, true, true, true, true, true, true, true, true, true, true, true, true, true, true, true, true, true, true, true, true, true, true, true, true, true, true, true, true, true, true, true, true, false, true, true, true, true, false, false, false, false, false, false]
abbrev dq11_60 : Array Bool := #[true, true, true, true, true, true, true, true, true, true, true, true, true, true, true, true, true, true, true, true, true, true, true, true, true, true, true, true, true, true, true, true, true, true, true, true, true, false, true, true, true, true, true, false, false, false, false, false]
abbrev dq11_61 : Array Bool := #[true, true, true, true, true, true, true, true, false, false, false, false, false, false, false, false, false, false, false, false, false, false, false, false, false, false, false, false, false, false, false, false, false, false, false, false, false, false, false, false, false, false, false, false, false, false, false, false]
abbrev dq11_62 : Array Bool := #[true, true, true, true, true, true, true, true, true, false, false, false, false, false, false, false, false, false, false, false, false, false, false, false, false, false, false, false, false, false, false, false, false, false, false, false, false, false, false, false, false, false, false, false, false, false, false, false]
abbrev dq11_63 : Array Bool := #[true, true, true, true, true, true, true, true, true, true, false, false, false, false, false, false, false, false, false, false, false, false, false, false, false, false, false, false, false, false, false, false, false, false, false, false, false, false, false, false, false, false, false, false, false, false, false, false]
abbrev dq11_64 : Array Bool := #[true, true, true, true, true, true, true, true, true, true, true, false, false, false, false, false, false, false, false, false, false, false, false, false, false, false, false, false, false, false, false, false, false, false, false, false, false, false, false, false, false, false, false, false, false, false, false, false]
abbrev dq11_65 : Array Bool := #[true, true, true, true, true, true, true, true, true, true, true, true, false, false, false, false, false, false, false, false, false, false, false, false, false, false, false, false, false, false, false, false, false, false, false, false, false, false, false, false, false, false, false, false, false, false, false, false]
abbrev dq11_66 : Array Bool := #[true, true, true, true, true, true, true, true, true, true, true, true, true, false, false, false, false, false, false, false, false, false, false, false, false, false, false, false, false, false, false, false, false, false, false, false, false, false, false, false, false, false, false, false, false, false, false, false]
abbrev dq11_67 : Array Bool := #[true, true, true, true, true, true, true, true, true, true, true, true, true, true, false, false, false, false, false, false, false, false, false, false, false, false, false, false, false, false, false, false, false, false, false, false, false, false, false, false, false, false, false, false, false, false, false, false]
theorem dq11_n {α : Type} : (∀ (l : List α) (i : Nat) (a : α), l.toArray.setIfInBounds i a = (l.set i a).toArray) ∧ (∀ (a b : α) (l : List α), (a :: l).set 0 b = b :: l) ∧ (∀ (a b : α) (l : List α) (n : Nat), (a :: l).set (n + 1) b = a :: l.set n b) :=
  ⟨fun _ _ _ => List.setIfInBounds_toArray .., fun _ _ _ => rfl, fun _ _ _ _ => rfl⟩
mutual
def mapmakerref34_Items.l0 : Nat → List (S51) → List (S51) → Int → Option ((List (S51)))
 | 0, _, _, _ => none
 | k + 1, x0, x3, x4 => if x4 < (x0.length : Int) then (mapmakerref34_Items.l1 k x0 x3 x4 (x3.length : Int)) else (some x3)
def mapmakerref34_Items.l1 : Nat → List (S51) → List (S51) → Int → Int → Option ((List (S51)))
 | 0, _, _, _, _ => none
 | k + 1, x0, x3, x4, x5 => if x5 > 0 then (if 0 ≤ x4 then (if x4 < (x0.length : Int) then ((mapmakerref34_Key.f k ((rd_T51 x0 x4).f1.f0) ((rd_T51 x0 x4).f1.f1) ((rd_T51 x0 x4).f1.f2) ((rd_T51 x0 x4).f1.f3)).bind fun t198 => (if 0 ≤ (wrap64 (x5 - 1)) then (if (wrap64 (x5 - 1)) < (x3.length : Int) then ((mapmakerref34_Key.f k ((rd_T51 x3 (wrap64 (x5 - 1))).f1.f0) ((rd_T51 x3 (wrap64 (x5 - 1))).f1.f1) ((rd_T51 x3 (wrap64 (x5 - 1))).f1.f2) ((rd_T51 x3 (wrap64 (x5 - 1))).f1.f3)).bind fun t200 => (if t198 < t200 then (mapmakerref34_Items.l1 k x0 x3 x4 (wrap64 (x5 - 1))) else ((mapmakerref34_Key.f k ((rd_T51 x0 x4).f1.f0) ((rd_T51 x0 x4).f1.f1) ((rd_T51 x0 x4).f1.f2) ((rd_T51 x0 x4).f1.f3)).bind fun t202 => ((mapmakerref34_Key.f k ((rd_T51 x3 (wrap64 (x5 - 1))).f1.f0) ((rd_T51 x3 (wrap64 (x5 - 1))).f1.f1) ((rd_T51 x3 (wrap64 (x5 - 1))).f1.f2) ((rd_T51 x3 (wrap64 (x5 - 1))).f1.f3)).bind fun t204 => (if t202 = t204 then ((mapmakerref14_Less.f ((rd_T51 x0 x4).f0.f0) ((rd_T51 x0 x4).f0.f1) ((rd_T51 x3 (wrap64 (x5 - 1))).f0.f0) ((rd_T51 x3 (wrap64 (x5 - 1))).f0.f1)).bind fun t207 => (if t207 = true then (mapmakerref34_Items.l1 k x0 x3 x4 (wrap64 (x5 - 1))) else (if 0 ≤ x5 then (if x5 ≤ (x3.length : Int) then ((some (x3.take (x5 : Int).toNat : List (S51))).bind fun y208 => (if ([] : List (S51)).length + y208.length < 2932031007402 then ((some (([] : List (S51)) ++ y208 : List (S51))).bind fun y212 => (if y212.length < 2932031007402 then ((some (y212 ++ [(⟨(⟨(rd_T51 x0 x4).f0.f0, (rd_T51 x0 x4).f0.f1⟩ : S49), (⟨(rd_T51 x0 x4).f1.f0, (rd_T51 x0 x4).f1.f1, (rd_T51 x0 x4).f1.f2, (rd_T51 x0 x4).f1.f3⟩ : S24)⟩ : S51)] : List (S51))).bind fun y216 => ((some (x3.drop (x5 : Int).toNat : List (S51))).bind fun y219 => (if y216.length + y219.length < 2932031007402 then (mapmakerref34_Items.l0 k x0 (y216 ++ y219) (wrap64 (x4 + 1))) else (none)))) else (none))) else (none))) else (none)) else (none)))) else (if 0 ≤ x5 then (if x5 ≤ (x3.length : Int) then ((some (x3.take (x5 : Int).toNat : List (S51))).bind fun y226 => (if ([] : List (S51)).length + y226.length < 2932031007402 then ((some (([] : List (S51)) ++ y226 : List (S51))).bind fun y230 => (if y230.length < 2932031007402 then ((some (y230 ++ [(⟨(⟨(rd_T51 x0 x4).f0.f0, (rd_T51 x0 x4).f0.f1⟩ : S49), (⟨(rd_T51 x0 x4).f1.f0, (rd_T51 x0 x4).f1.f1, (rd_T51 x0 x4).f1.f2, (rd_T51 x0 x4).f1.f3⟩ : S24)⟩ : S51)] : List (S51))).bind fun y234 => ((some (x3.drop (x5 : Int).toNat : List (S51))).bind fun y237 => (if y234.length + y237.length < 2932031007402 then (mapmakerref34_Items.l0 k x0 (y234 ++ y237) (wrap64 (x4 + 1))) else (none)))) else (none))) else (none))) else (none)) else (none))))))) else (none)) else (none))) else (none)) else (none)) else (if 0 ≤ x5 then (if x5 ≤ (x3.length : Int) then ((some (x3.take (x5 : Int).toNat : List (S51))).bind fun y244 => (if ([] : List (S51)).length + y244.length < 2932031007402 then ((some (([] : List (S51)) ++ y244 : List (S51))).bind fun y248 => (if 0 ≤ x4 then (if x4 < (x0.length : Int) then (if y248.length < 2932031007402 then ((some (y248 ++ [(⟨(⟨(rd_T51 x0 x4).f0.f0, (rd_T51 x0 x4).f0.f1⟩ : S49), (⟨(rd_T51 x0 x4).f1.f0, (rd_T51 x0 x4).f1.f1, (rd_T51 x0 x4).f1.f2, (rd_T51 x0 x4).f1.f3⟩ : S24)⟩ : S51)] : List (S51))).bind fun y252 => ((some (x3.drop (x5 : Int).toNat : List (S51))).bind fun y255 => (if y252.length + y255.length < 2932031007402 then (mapmakerref34_Items.l0 k x0 (y252 ++ y255) (wrap64 (x4 + 1))) else (none)))) else (none)) else (none)) else (none))) else (none))) else (none)) else (none))
end
def mapmakerref34_Items.f (k : Nat) (l0 : List (S51)) : Option ((List (S51))) := mapmakerref34_Items.l0 k l0 ([] : List (S51)) 0
def mapmakerref34_Items.T6 : Bool × List (List Nat × List Nat) := (true, [([], []), ([0], [0]), ([1], [1]), ([2], [2]), ([2], [2]), ([3, 4, 2], [2, 3, 4]), ([5, 2], [2, 5]), ([6, 2], [2, 6]), ([7, 2, 2], [2, 7]), ([2], [2]), ([2], [2]), ([10, 2], [2, 10]), ([9, 11, 2], [2, 9, 11]), ([12, 2], [2, 12]), ([13, 2], [2, 13]), ([14, 8, 2], [2, 14]), ([8, 15, 2], [2, 8, 15]), ([16, 15, 2], [2, 16]), ([17], [17]), ([17], [17]), ([18, 19, 17], [17, 18, 19]), ([20, 17], [17, 20]), ([21, 17], [17, 21]), ([22, 17, 17], [17, 22]), ([17], [17]), ([17], [17]), ([25, 17], [17, 25]), ([24, 26, 17], [17, 24, 26]), ([27, 17], [17, 27]), ([28, 17], [17, 28]), ([29, 23, 17], [17, 29]), ([23, 30, 17], [17, 23, 30]), ([31, 30, 17], [17, 31]), ([32], [32]), ([32], [32]), ([33, 34, 32], [32, 33, 34]), ([35, 32], [32, 35]), ([36, 32], [32, 36]), ([32], [32]), ([32], [32]), ([39, 32], [32, 39]), ([38, 40, 32], [32, 38, 40]), ([41, 32], [32, 41]), ([42, 32], [32, 42]), ([37, 43, 32, 32], [32, 37, 43]), ([32, 44, 17], [17, 32, 44]), ([17, 45, 2], [2, 17, 45]), ([2, 46], [2, 46])])
def mapmakerref34_Items.B6 : List Nat := [0, 1, 3, 7, 7, 31, 63, 127, 255, 7, 7, 1031, 3591, 7687, 15879, 32767, 65535, 131071, 262143, 262143, 1048575, 2097151, 4194303, 8388607, 262143, 262143, 33816575, 117702655, 251920383, 520355839, 1073741823, 2147483647, 4294967295, 8589934591, 8589934591, 34359738367, 68719476735, 137438953471, 8589934591, 8589934591, 558345748479, 1932735283199, 4131758538751, 8529805049855, 17592186044415, 35184372088831, 70368744177663, 140737488355327]
theorem mapmakerref34_Items.tab6 : rtab .any (opsOf Try.f18 6) = mapmakerref34_Items.T6 := by kernel_rfl
theorem mapmakerref34_Items.bits6 : waitsOk mapmakerref34_Items.T6.2 mapmakerref34_Items.B6 = true := by kernel_rfl
set_option maxHeartbeats 8000000 in
set_option maxRecDepth 100000 in
theorem mapmakerref34_Items.calls (k : Nat) (A0 : Option Addr) (c0 : Nat) (l0 : List (S51)) (r : List (S51)) (w : World) (hr0 : Kd.C k51 w A0 l0.length l0) (hc0 : l0.length ≤ c0) (h : mapmakerref34_Items.f k l0 = some r) :
  Calls Try.prog 18 #[.slice A0 l0.length c0] w fun e w' => ∃ v0_ : Value, e = .returned (v0_) ∧ Kd.R k51 51 w' w.heap.size (fun _ => True) v0_ r ∧ Below w.heap.size w w' := by
 have hu24 := Try.underlying24
 have hu49 := Try.underlying49
 have hu51 := Try.underlying51
 have HR0 := Aside0.mk hr0
 have HC0 := Aside0.mk hc0
 clear hr0 hc0
 have HB := Aside0.mk (Below.refl w.heap.size w)
 have H : (mapmakerref34_Items.l0 k l0 ([] : List (S51)) 0) = some r := h
 clear h
 have H' := Aside0.mk H
 clear H
 go_enter Try.func18, Try.ntmps18
 go_wp2
 go_loopg [3, 4] k (fun kq v3 v4 w' => ∃ (x3_1 : List (S51)) (x4_1 : Int), v4 = .int .i64 x4_1 ∧ Aside0 (mapmakerref34_Items.l0 kq l0 x3_1 x4_1 = some r) ∧ Aside0 (kq ≤ k) ∧ Aside0 (Kd.R k51 51 w' w.heap.size (fun _ => True) v3 x3_1) ∧ Aside0 (Below w.heap.size w w'))
 case atStart => exact ⟨(([] : List (S51))), (0), (by first | rfl | (simp; done) | (simp [*]; done)), H', ⟨Nat.le_refl _⟩, ⟨by first | exact Kd.R_nil _ _ _ _ _ | exact Kd.N_nil _ _ _ _ _ | exact Kd.V_nil _ _ _ _ _ | exact Kd.Q_nil _ _ _ _ _ | exact Kd.S_nil _ _ _ _ _⟩, ⟨by repeat (first | (with_reducible first | exact HB.out | apply below_alloc | apply pw_below_drewN | apply below_drew1) | exact HB.out)⟩⟩
 case round =>
  clear H'
  try clear c1
  obtain ⟨x3_1, x4_1, rfl, HA, HK1, HO_3, HB⟩ := hrel
  cases gk with
  | zero => exact absurd HA.out (by simp [mapmakerref34_Items.l0])
  | succ k1 =>
   have H := HA.out
   clear HA
   simp only [mapmakerref34_Items.l0] at H
   by_cases c2 : x4_1 < (l0.length : Int)
   ·rw [if_pos c2] at H
    have c2b0 : decide (x4_1 < (l0.length : Int)) = true := decide_eq_true c2
    clear c2
    have H' := Aside0.mk H
    clear H
    obtain ⟨Ao3, co3, eo3⟩ := Kd.R_slice HO_3.out
    subst eo3
    go_wp2
    go_loopg [5] k1 (fun kq v5 w' => ∃ (x5_2 : Int), v5 = .int .i64 x5_2 ∧ Aside0 (mapmakerref34_Items.l1 kq l0 x3_1 x4_1 x5_2 = some r) ∧ Aside0 (kq ≤ k1) ∧ Aside0 (Kd.R k51 51 w' w.heap.size (fun _ => True) (.slice Ao3 x3_1.length co3) x3_1) ∧ Aside0 (Below w.heap.size w w'))
    case atStart => exact ⟨((x3_1.length : Int)), (by first | rfl | (simp; done) | (simp [*]; done)), H', ⟨Nat.le_refl _⟩, ⟨by (with_reducible repeat (first | apply Kd.R_alloc | apply Kd.R_drewN | apply Kd.R_drew)); exact HO_3.out⟩, ⟨by repeat (first | (with_reducible first | exact HB.out | apply below_alloc | apply pw_below_drewN | apply below_drew1) | exact HB.out)⟩⟩
    case round =>
     clear H'
     try clear c1
     try clear c2
     try clear c2b0
     try clear p2
     obtain ⟨x5_2, rfl, HA, HK2, HO_3, HB⟩ := hrel
     cases gk with
     | zero => exact absurd HA.out (by simp [mapmakerref34_Items.l1])
     | succ k2 =>
      have H := HA.out
      clear HA
      simp only [mapmakerref34_Items.l1] at H
      by_cases c4 : x5_2 > 0
      ·rw [if_pos c4] at H
       have c4b0 : decide (0 < x5_2) = true := decide_eq_true c4
       clear c4
       by_cases c5 : 0 ≤ x4_1
       ·rw [if_pos c5] at H
        have c5b0 : decide (0 ≤ x4_1) = true := decide_eq_true c5
        clear c5
        by_cases c6 : x4_1 < (l0.length : Int)
        ·rw [if_pos c6] at H
         have c6b0 : decide (x4_1 < (l0.length : Int)) = true := decide_eq_true c6
         clear c6
         replace H := Option.bind_eq_some_iff.mp H
         obtain ⟨t198, A70, H⟩ := H
         replace H : (if 0 ≤ (wrap64 (x5_2 - 1)) then (if (wrap64 (x5_2 - 1)) < (x3_1.length : Int) then ((mapmakerref34_Key.f k2 ((rd_T51 x3_1 (wrap64 (x5_2 - 1))).f1.f0) ((rd_T51 x3_1 (wrap64 (x5_2 - 1))).f1.f1) ((rd_T51 x3_1 (wrap64 (x5_2 - 1))).f1.f2) ((rd_T51 x3_1 (wrap64 (x5_2 - 1))).f1.f3)).bind fun t200 => (if t198 < t200 then (mapmakerref34_Items.l1 k2 l0 x3_1 x4_1 (wrap64 (x5_2 - 1))) else ((mapmakerref34_Key.f k2 ((rd_T51 l0 x4_1).f1.f0) ((rd_T51 l0 x4_1).f1.f1) ((rd_T51 l0 x4_1).f1.f2) ((rd_T51 l0 x4_1).f1.f3)).bind fun t202 => ((mapmakerref34_Key.f k2 ((rd_T51 x3_1 (wrap64 (x5_2 - 1))).f1.f0) ((rd_T51 x3_1 (wrap64 (x5_2 - 1))).f1.f1) ((rd_T51 x3_1 (wrap64 (x5_2 - 1))).f1.f2) ((rd_T51 x3_1 (wrap64 (x5_2 - 1))).f1.f3)).bind fun t204 => (if t202 = t204 then ((mapmakerref14_Less.f ((rd_T51 l0 x4_1).f0.f0) ((rd_T51 l0 x4_1).f0.f1) ((rd_T51 x3_1 (wrap64 (x5_2 - 1))).f0.f0) ((rd_T51 x3_1 (wrap64 (x5_2 - 1))).f0.f1)).bind fun t207 => (if t207 = true then (mapmakerref34_Items.l1 k2 l0 x3_1 x4_1 (wrap64 (x5_2 - 1))) else (if 0 ≤ x5_2 then (if x5_2 ≤ (x3_1.length : Int) then ((some (x3_1.take (x5_2 : Int).toNat : List (S51))).bind fun y208 => (if ([] : List (S51)).length + y208.length < 2932031007402 then ((some (([] : List (S51)) ++ y208 : List (S51))).bind fun y212 => (if y212.length < 2932031007402 then ((some (y212 ++ [(⟨(⟨(rd_T51 l0 x4_1).f0.f0, (rd_T51 l0 x4_1).f0.f1⟩ : S49), (⟨(rd_T51 l0 x4_1).f1.f0, (rd_T51 l0 x4_1).f1.f1, (rd_T51 l0 x4_1).f1.f2, (rd_T51 l0 x4_1).f1.f3⟩ : S24)⟩ : S51)] : List (S51))).bind fun y216 => ((some (x3_1.drop (x5_2 : Int).toNat : List (S51))).bind fun y219 => (if y216.length + y219.length < 2932031007402 then (mapmakerref34_Items.l0 k2 l0 (y216 ++ y219) (wrap64 (x4_1 + 1))) else (none)))) else (none))) else (none))) else (none)) else (none)))) else (if 0 ≤ x5_2 then (if x5_2 ≤ (x3_1.length : Int) then ((some (x3_1.take (x5_2 : Int).toNat : List (S51))).bind fun y226 => (if ([] : List (S51)).length + y226.length < 2932031007402 then ((some (([] : List (S51)) ++ y226 : List (S51))).bind fun y230 => (if y230.length < 2932031007402 then ((some (y230 ++ [(⟨(⟨(rd_T51 l0 x4_1).f0.f0, (rd_T51 l0 x4_1).f0.f1⟩ : S49), (⟨(rd_T51 l0 x4_1).f1.f0, (rd_T51 l0 x4_1).f1.f1, (rd_T51 l0 x4_1).f1.f2, (rd_T51 l0 x4_1).f1.f3⟩ : S24)⟩ : S51)] : List (S51))).bind fun y234 => ((some (x3_1.drop (x5_2 : Int).toNat : List (S51))).bind fun y237 => (if y234.length + y237.length < 2932031007402 then (mapmakerref34_Items.l0 k2 l0 (y234 ++ y237) (wrap64 (x4_1 + 1))) else (none)))) else (none))) else (none))) else (none)) else (none))))))) else (none)) else (none)) = some r := H
         have A7 := Aside0.mk A70
         clear A70
         obtain ⟨ji8, hji8⟩ : ∃ j_ : Int, (wrap64 (x5_2 - 1)) = j_ := ⟨_, rfl⟩
         replace H : (if 0 ≤ (ji8) then (if (ji8) < (x3_1.length : Int) then ((mapmakerref34_Key.f k2 ((rd_T51 x3_1 (ji8)).f1.f0) ((rd_T51 x3_1 (ji8)).f1.f1) ((rd_T51 x3_1 (ji8)).f1.f2) ((rd_T51 x3_1 (ji8)).f1.f3)).bind fun t200 => (if t198 < t200 then (mapmakerref34_Items.l1 k2 l0 x3_1 x4_1 ji8) else ((mapmakerref34_Key.f k2 ((rd_T51 l0 x4_1).f1.f0) ((rd_T51 l0 x4_1).f1.f1) ((rd_T51 l0 x4_1).f1.f2) ((rd_T51 l0 x4_1).f1.f3)).bind fun t202 => ((mapmakerref34_Key.f k2 ((rd_T51 x3_1 (ji8)).f1.f0) ((rd_T51 x3_1 (ji8)).f1.f1) ((rd_T51 x3_1 (ji8)).f1.f2) ((rd_T51 x3_1 (ji8)).f1.f3)).bind fun t204 => (if t202 = t204 then ((mapmakerref14_Less.f ((rd_T51 l0 x4_1).f0.f0) ((rd_T51 l0 x4_1).f0.f1) ((rd_T51 x3_1 (ji8)).f0.f0) ((rd_T51 x3_1 (ji8)).f0.f1)).bind fun t207 => (if t207 = true then (mapmakerref34_Items.l1 k2 l0 x3_1 x4_1 ji8) else (if 0 ≤ x5_2 then (if x5_2 ≤ (x3_1.length : Int) then ((some (x3_1.take (x5_2 : Int).toNat : List (S51))).bind fun y208 => (if ([] : List (S51)).length + y208.length < 2932031007402 then ((some (([] : List (S51)) ++ y208 : List (S51))).bind fun y212 => (if y212.length < 2932031007402 then ((some (y212 ++ [(⟨(⟨(rd_T51 l0 x4_1).f0.f0, (rd_T51 l0 x4_1).f0.f1⟩ : S49), (⟨(rd_T51 l0 x4_1).f1.f0, (rd_T51 l0 x4_1).f1.f1, (rd_T51 l0 x4_1).f1.f2, (rd_T51 l0 x4_1).f1.f3⟩ : S24)⟩ : S51)] : List (S51))).bind fun y216 => ((some (x3_1.drop (x5_2 : Int).toNat : List (S51))).bind fun y219 => (if y216.length + y219.length < 2932031007402 then (mapmakerref34_Items.l0 k2 l0 (y216 ++ y219) (wrap64 (x4_1 + 1))) else (none)))) else (none))) else (none))) else (none)) else (none)))) else (if 0 ≤ x5_2 then (if x5_2 ≤ (x3_1.length : Int) then ((some (x3_1.take (x5_2 : Int).toNat : List (S51))).bind fun y226 => (if ([] : List (S51)).length + y226.length < 2932031007402 then ((some (([] : List (S51)) ++ y226 : List (S51))).bind fun y230 => (if y230.length < 2932031007402 then ((some (y230 ++ [(⟨(⟨(rd_T51 l0 x4_1).f0.f0, (rd_T51 l0 x4_1).f0.f1⟩ : S49), (⟨(rd_T51 l0 x4_1).f1.f0, (rd_T51 l0 x4_1).f1.f1, (rd_T51 l0 x4_1).f1.f2, (rd_T51 l0 x4_1).f1.f3⟩ : S24)⟩ : S51)] : List (S51))).bind fun y234 => ((some (x3_1.drop (x5_2 : Int).toNat : List (S51))).bind fun y237 => (if y234.length + y237.length < 2932031007402 then (mapmakerref34_Items.l0 k2 l0 (y234 ++ y237) (wrap64 (x4_1 + 1))) else (none)))) else (none))) else (none))) else (none)) else (none))))))) else (none)) else (none)) = some r := by first | (rw [hji8] at H; exact H) | (simp only [hji8] at H ⊢; exact H)
         (try rw [hji8] at A7)
         have hji8w : (IntKind.i64.wrap (x5_2 - 1)) = ji8 := (i64_w _).trans hji8
         by_cases c9 : 0 ≤ (ji8)
         ·rw [if_pos c9] at H
          have c9b0 : decide (0 ≤ (ji8)) = true := decide_eq_true c9
          clear c9
          by_cases c10 : (ji8) < (x3_1.length : Int)
          ·rw [if_pos c10] at H
           have c10b0 : decide ((ji8) < (x3_1.length : Int)) = true := decide_eq_true c10
           clear c10
           replace H := Option.bind_eq_some_iff.mp H
           obtain ⟨t200, A110, H⟩ := H
           replace H : (if t198 < t200 then (mapmakerref34_Items.l1 k2 l0 x3_1 x4_1 ji8) else ((mapmakerref34_Key.f k2 ((rd_T51 l0 x4_1).f1.f0) ((rd_T51 l0 x4_1).f1.f1) ((rd_T51 l0 x4_1).f1.f2) ((rd_T51 l0 x4_1).f1.f3)).bind fun t202 => ((mapmakerref34_Key.f k2 ((rd_T51 x3_1 (ji8)).f1.f0) ((rd_T51 x3_1 (ji8)).f1.f1) ((rd_T51 x3_1 (ji8)).f1.f2) ((rd_T51 x3_1 (ji8)).f1.f3)).bind fun t204 => (if t202 = t204 then ((mapmakerref14_Less.f ((rd_T51 l0 x4_1).f0.f0) ((rd_T51 l0 x4_1).f0.f1) ((rd_T51 x3_1 (ji8)).f0.f0) ((rd_T51 x3_1 (ji8)).f0.f1)).bind fun t207 => (if t207 = true then (mapmakerref34_Items.l1 k2 l0 x3_1 x4_1 ji8) else (if 0 ≤ x5_2 then (if x5_2 ≤ (x3_1.length : Int) then ((some (x3_1.take (x5_2 : Int).toNat : List (S51))).bind fun y208 => (if ([] : List (S51)).length + y208.length < 2932031007402 then ((some (([] : List (S51)) ++ y208 : List (S51))).bind fun y212 => (if y212.length < 2932031007402 then ((some (y212 ++ [(⟨(⟨(rd_T51 l0 x4_1).f0.f0, (rd_T51 l0 x4_1).f0.f1⟩ : S49), (⟨(rd_T51 l0 x4_1).f1.f0, (rd_T51 l0 x4_1).f1.f1, (rd_T51 l0 x4_1).f1.f2, (rd_T51 l0 x4_1).f1.f3⟩ : S24)⟩ : S51)] : List (S51))).bind fun y216 => ((some (x3_1.drop (x5_2 : Int).toNat : List (S51))).bind fun y219 => (if y216.length + y219.length < 2932031007402 then (mapmakerref34_Items.l0 k2 l0 (y216 ++ y219) (wrap64 (x4_1 + 1))) else (none)))) else (none))) else (none))) else (none)) else (none)))) else (if 0 ≤ x5_2 then (if x5_2 ≤ (x3_1.length : Int) then ((some (x3_1.take (x5_2 : Int).toNat : List (S51))).bind fun y226 => (if ([] : List (S51)).length + y226.length < 2932031007402 then ((some (([] : List (S51)) ++ y226 : List (S51))).bind fun y230 => (if y230.length < 2932031007402 then ((some (y230 ++ [(⟨(⟨(rd_T51 l0 x4_1).f0.f0, (rd_T51 l0 x4_1).f0.f1⟩ : S49), (⟨(rd_T51 l0 x4_1).f1.f0, (rd_T51 l0 x4_1).f1.f1, (rd_T51 l0 x4_1).f1.f2, (rd_T51 l0 x4_1).f1.f3⟩ : S24)⟩ : S51)] : List (S51))).bind fun y234 => ((some (x3_1.drop (x5_2 : Int).toNat : List (S51))).bind fun y237 => (if y234.length + y237.length < 2932031007402 then (mapmakerref34_Items.l0 k2 l0 (y234 ++ y237) (wrap64 (x4_1 + 1))) else (none)))) else (none))) else (none))) else (none)) else (none)))))) = some r := H
           have A11 := Aside0.mk A110
           clear A110
           by_cases c12 : t198 < t200
           ·rw [if_pos c12] at H
            have c12b0 : decide (t198 < t200) = true := decide_eq_true c12
            clear c12
            have H' := Aside0.mk H
            clear H
            try go_wp2
            have n0_ := Aside0.mk (Kd.R_drew HO_3.out)
            have n1_ := Aside0.mk (below_drew1 HB.out)
            clear HO_3
            clear HB
            have HO_3 := n0_
            have HB := n1_
            clear n0_ n1_
            have p197 : 0 ≤ (x4_1 : Int) := of_decide_eq_true (by first | (with_reducible assumption) | assumption)
            have q197 : x4_1 < (l0.length : Int) := of_decide_eq_true (by first | (with_reducible assumption) | assumption)
            obtain ⟨ad197, e197, hx197_0, hx197_1, hx197_2, hx197_3, hx197_4, hx197_5⟩ := at_T51 HR0.out x4_1 p197 q197
            have hw197_5 := hx197_5
            have hw197_4 := hx197_4
            have hw197_3 := hx197_3
            have hw197_2 := hx197_2
            have hw197_1 := hx197_1
            have hw197_0 := hx197_0
            cases e197
            replace hx197_0 := (HB.out.cell (World.block_lt_of_cell? w _ hx197_0)).trans hx197_0
            replace hx197_1 := (HB.out.cell (World.block_lt_of_cell? w _ hx197_1)).trans hx197_1
            replace hx197_2 := (HB.out.cell (World.block_lt_of_cell? w _ hx197_2)).trans hx197_2
            replace hx197_3 := (HB.out.cell (World.block_lt_of_cell? w _ hx197_3)).trans hx197_3
            replace hx197_4 := (HB.out.cell (World.block_lt_of_cell? w _ hx197_4)).trans hx197_4
            replace hx197_5 := (HB.out.cell (World.block_lt_of_cell? w _ hx197_5)).trans hx197_5
            replace p197 := eq_true p197
            replace q197 := eq_true q197
            have p199 : 0 ≤ ((ji8) : Int) := of_decide_eq_true (by first | (with_reducible assumption) | assumption)
            have q199 : (ji8) < (x3_1.length : Int) := of_decide_eq_true (by first | (with_reducible assumption) | assumption)
            obtain ⟨ad199, e199, hx199_0, hx199_1, hx199_2, hx199_3, hx199_4, hx199_5⟩ := at_T51 (Kd.R_reads' HO_3.out).2.2 (ji8) p199 q199
            cases e199
            replace p199 := eq_true p199
            replace q199 := eq_true q199
            refine start_ (n := 48) (S := fun w' => w'.cell? (ad197.add ((x4_1).toNat * 6)) = some (.int .i64 ((rd_T51 l0 x4_1).f0.f0)) ∧ w'.cell? ⟨(ad197.add ((x4_1).toNat * 6)).block, (ad197.add ((x4_1).toNat * 6)).off + 1, none⟩ = some (.int .i64 ((rd_T51 l0 x4_1).f0.f1)) ∧ w'.cell? ⟨(ad197.add ((x4_1).toNat * 6)).block, (ad197.add ((x4_1).toNat * 6)).off + 2, none⟩ = some (.int .i64 ((rd_T51 l0 x4_1).f1.f0)) ∧ w'.cell? ⟨(ad197.add ((x4_1).toNat * 6)).block, (ad197.add ((x4_1).toNat * 6)).off + 3, none⟩ = some (.int .i64 ((rd_T51 l0 x4_1).f1.f1)) ∧ w'.cell? ⟨(ad197.add ((x4_1).toNat * 6)).block, (ad197.add ((x4_1).toNat * 6)).off + 4, none⟩ = some (.int .i64 ((rd_T51 l0 x4_1).f1.f2)) ∧ w'.cell? ⟨(ad197.add ((x4_1).toNat * 6)).block, (ad197.add ((x4_1).toNat * 6)).off + 5, none⟩ = some (.int .i64 ((rd_T51 l0 x4_1).f1.f3)) ∧ w'.cell? (ad199.add (((ji8)).toNat * 6)) = some (.int .i64 ((rd_T51 x3_1 (ji8)).f0.f0)) ∧ w'.cell? ⟨(ad199.add (((ji8)).toNat * 6)).block, (ad199.add (((ji8)).toNat * 6)).off + 1, none⟩ = some (.int .i64 ((rd_T51 x3_1 (ji8)).f0.f1)) ∧ w'.cell? ⟨(ad199.add (((ji8)).toNat * 6)).block, (ad199.add (((ji8)).toNat * 6)).off + 2, none⟩ = some (.int .i64 ((rd_T51 x3_1 (ji8)).f1.f0)) ∧ w'.cell? ⟨(ad199.add (((ji8)).toNat * 6)).block, (ad199.add (((ji8)).toNat * 6)).off + 3, none⟩ = some (.int .i64 ((rd_T51 x3_1 (ji8)).f1.f1)) ∧ w'.cell? ⟨(ad199.add (((ji8)).toNat * 6)).block, (ad199.add (((ji8)).toNat * 6)).off + 4, none⟩ = some (.int .i64 ((rd_T51 x3_1 (ji8)).f1.f2)) ∧ w'.cell? ⟨(ad199.add (((ji8)).toNat * 6)).block, (ad199.add (((ji8)).toNat * 6)).off + 5, none⟩ = some (.int .i64 ((rd_T51 x3_1 (ji8)).f1.f3))) (ds := []) dq11_0 (by kernel_rfl) rfl rfl ⟨(pw_cell_below HB.out hw197_0), (pw_cell_below HB.out hw197_1), (pw_cell_below HB.out hw197_2), (pw_cell_below HB.out hw197_3), (pw_cell_below HB.out hw197_4), (pw_cell_below HB.out hw197_5), hx199_0, hx199_1, hx199_2, hx199_3, hx199_4, hx199_5⟩ (fun hHeld => ?_); refine with_tabW mapmakerref34_Items.tab6 mapmakerref34_Items.bits6 (fun HT_ HW_ => ?_)
            generalize wr.drew = w13 at HO_3 HB hx197_0 hx197_1 hx197_2 hx197_3 hx197_4 hx197_5 hx199_0 hx199_1 hx199_2 hx199_3 hx199_4 hx199_5 hHeld ⊢
            refine pure_ (i := 0) (N := some 15) (v := ?_) (a' := ?_) dq11_1 rfl rfl (any_of HT_.out (by kernel_rfl)) (fun _ _ _ h => h) (Or.inl ⟨by rfl, ?_⟩) ?_ ?_
            rotate_left
            ·intro w'
             go_simp
             with_reducible rfl
            rotate_left
            ·simp only [Act.put, dq11_n, i64_w, i32_w]
             rfl
            refine pure_ (i := 1) (N := some 16) (v := ?_) (a' := ?_) dq11_2 rfl rfl (any_of HT_.out (by kernel_rfl)) (fun _ _ _ h => h) (Or.inl ⟨by rfl, ?_⟩) ?_ ?_
            rotate_left
            ·intro w'
             go_simp
             with_reducible rfl
            rotate_left
            ·simp only [Act.put, dq11_n, i64_w, i32_w]
             rfl
            refine pure_ (i := 2) (N := some 17) (v := ?_) (a' := ?_) dq11_3 rfl rfl (any_of HT_.out (by kernel_rfl)) (fun _ _ _ h => h) (Or.inl ⟨by rfl, ?_⟩) ?_ ?_
            rotate_left
            ·intro w'
             go_simp
             with_reducible rfl
            rotate_left
            ·simp only [Act.put, dq11_n, i64_w, i32_w]
             rfl
            refine pure_ (i := 3) (N := some 18) (v := ?_) (a' := ?_) dq11_4 rfl rfl (any_of HT_.out (by kernel_rfl)) (fun _ _ _ h => h) (Or.inl ⟨by rfl, ?_⟩) ?_ ?_
            rotate_left
            ·intro w'
             go_simp
             with_reducible rfl
            rotate_left
            ·simp only [Act.put, dq11_n, i64_w, i32_w]
             rfl
            refine pure_ (i := 4) (N := some 19) (v := ?_) (a' := ?_) dq11_5 rfl rfl (any_of HT_.out (by kernel_rfl)) (fun _ _ _ h => h) (Or.inl ⟨by rfl, ?_⟩) ?_ ?_
            rotate_left
            ·intro w'
             go_simp
             with_reducible rfl
            rotate_left
            ·simp only [Act.put, dq11_n, i64_w, i32_w]
             rfl
            refine pure_ (i := 5) (N := some 20) (v := ?_) (a' := ?_) dq11_6 rfl rfl (any_of HT_.out (by kernel_rfl)) (fun _ _ _ h => h) (Or.inl ⟨by rfl, ?_⟩) ?_ ?_
            rotate_left
            ·intro w'
             go_simp
             with_reducible rfl
            rotate_left
            ·simp only [Act.put, dq11_n, i64_w, i32_w]
             rfl
            refine pure_ (i := 6) (N := some 21) (v := ?_) (a' := ?_) dq11_7 rfl rfl (any_of HT_.out (by kernel_rfl)) (fun _ _ _ h => h) (Or.inl ⟨by rfl, ?_⟩) ?_ ?_
            rotate_left
            ·intro w'
             go_simp
             with_reducible rfl
            rotate_left
            ·simp only [Act.put, dq11_n, i64_w, i32_w]
             rfl
            refine pure_ (i := 9) (N := some 24) (v := ?_) (a' := ?_) dq11_8 rfl rfl (any_of HT_.out (by kernel_rfl)) (fun _ _ _ h => h) (Or.inl ⟨by rfl, ?_⟩) ?_ ?_
            rotate_left
            ·intro w'
             go_simp
             with_reducible rfl
            rotate_left
            ·simp only [Act.put, dq11_n, i64_w, i32_w]
             rfl
            refine pure_ (i := 10) (N := some 25) (v := ?_) (a' := ?_) dq11_9 rfl rfl (any_of HT_.out (by kernel_rfl)) (fun _ _ _ h => h) (Or.inl ⟨by rfl, ?_⟩) ?_ ?_
            rotate_left
            ·intro w'
             go_simp
             with_reducible rfl
            rotate_left
            ·simp only [Act.put, dq11_n, i64_w, i32_w]
             rfl
            refine pure_ (i := 11) (N := some 26) (v := ?_) (a' := ?_) dq11_10 rfl rfl (any_of HT_.out (by kernel_rfl)) (fun _ _ _ h => h) (Or.inl ⟨by rfl, ?_⟩) ?_ ?_
            rotate_left
            ·intro w'
             go_simp
             with_reducible rfl
            rotate_left
            ·simp only [Act.put, dq11_n, i64_w, i32_w]
             rfl
            refine pure_ (i := 12) (N := some 27) (v := ?_) (a' := ?_) dq11_11 rfl rfl (any_of HT_.out (by kernel_rfl)) (fun _ _ _ h => h) (Or.inl ⟨by rfl, ?_⟩) ?_ ?_
            rotate_left
            ·intro w'
             go_simp
             with_reducible rfl
            rotate_left
            ·simp only [Act.put, dq11_n, i64_w, i32_w]
             rfl
            refine pure_ (i := 13) (N := some 28) (v := ?_) (a' := ?_) dq11_12 rfl rfl (any_of HT_.out (by kernel_rfl)) (fun _ _ _ h => h) (Or.inl ⟨by rfl, ?_⟩) ?_ ?_
            rotate_left
            ·intro w'
             go_simp
             with_reducible rfl
            rotate_left
            ·simp only [Act.put, dq11_n, i64_w, i32_w]
             rfl
            refine take_ (i := 7) (N := some 22) (v := ?_) (a' := ?_) dq11_13 rfl rfl (take_ofW HT_.out HW_.out (by kernel_rfl)) (fun _ _ _ h => h) (Or.inl ⟨by rfl, ?_⟩) hHeld ?_ ?_
            rotate_left
            ·rintro w' ⟨s0, s1, s2, s3, s4, s5, s6, s7, s8, s9, s10, s11⟩
             go_simp
             with_reducible rfl
            rotate_left
            ·simp only [Act.put, dq11_n, i64_w, i32_w]
             rfl
            refine take_ (i := 14) (N := some 29) (v := ?_) (a' := ?_) dq11_14 rfl rfl (take_ofW HT_.out HW_.out (by kernel_rfl)) (fun _ _ _ h => h) (Or.inl ⟨by rfl, ?_⟩) hHeld ?_ ?_
            rotate_left
            ·rintro w' ⟨s0, s1, s2, s3, s4, s5, s6, s7, s8, s9, s10, s11⟩
             go_simp
             with_reducible rfl
            rotate_left
            ·simp only [Act.put, dq11_n, i64_w, i32_w]
             rfl
            refine one_ (i := 8) (N := some 23) dq11_15 rfl rfl (one_of HT_.out (by kernel_rfl)) (by decide) (fun K hK => ?_)
            refine goes_ Try.func40 (by kernel_rfl) rfl #[.agg #[.int .i64 ((rd_T51 l0 x4_1).f1.f0), .int .i64 ((rd_T51 l0 x4_1).f1.f1), .int .i64 ((rd_T51 l0 x4_1).f1.f2), .int .i64 ((rd_T51 l0 x4_1).f1.f3)]] (by rfl) rfl rfl (by (try simp only [List.map_toArray, List.map_cons, List.map_nil]); first | done | rfl | (simp only [List.length_drop, List.length_take]; rfl)) ?_
            with_reducible refine (mapmakerref34_Key.calls k2 ((rd_T51 l0 x4_1).f1.f0) ((rd_T51 l0 x4_1).f1.f1) ((rd_T51 l0 x4_1).f1.f2) ((rd_T51 l0 x4_1).f1.f3) t198 _ A7.out).mono ?_
            rintro e w14 ⟨rfl, hb⟩
            have HS6_ := pw_cell_below hb hHeld.2.2.2.2.2.2.1
            have HS7_ := pw_cell_below hb hHeld.2.2.2.2.2.2.2.1
            have HS8_ := pw_cell_below hb hHeld.2.2.2.2.2.2.2.2.1
            have HS9_ := pw_cell_below hb hHeld.2.2.2.2.2.2.2.2.2.1
            have HS10_ := pw_cell_below hb hHeld.2.2.2.2.2.2.2.2.2.2.1
            have HS11_ := pw_cell_below hb hHeld.2.2.2.2.2.2.2.2.2.2.2
            refine ⟨_, rfl, ?_⟩
            have n0_ := Aside0.mk (Kd.R_below (by (with_reducible repeat (first | apply Kd.R_alloc | apply Kd.R_drewN | apply Kd.R_drew)); exact HO_3.out) hb)
            have n1_ := Aside0.mk (below_step (by repeat (first | (with_reducible first | exact HB.out | apply below_alloc | apply pw_below_drewN | apply below_drew1) | exact HB.out)) hb)
            clear HO_3
            clear HB
            have HO_3 := n0_
            have HB := n1_
            clear n0_ n1_
            (try clear hb)
            (try clear hb2)
            (try clear hk)
            (try clear hi)
            refine hK.out _ _ ⟨(pw_cell_below HB.out hw197_0), (pw_cell_below HB.out hw197_1), (pw_cell_below HB.out hw197_2), (pw_cell_below HB.out hw197_3), (pw_cell_below HB.out hw197_4), (pw_cell_below HB.out hw197_5), HS6_, HS7_, HS8_, HS9_, HS10_, HS11_⟩ (fun hHeld => ?_)
            clear hK K
            refine norm_ (a' := ?_) ?_ ?_
            rotate_left
            ·show Act.put _ (some 23) _ = _
             simp only [Act.put, dq11_n, i64_w, i32_w]
             rfl
            refine one_ (i := 15) (N := some 30) dq11_16 rfl rfl (one_of HT_.out (by kernel_rfl)) (by decide) (fun K hK => ?_)
            refine goes_ Try.func40 (by kernel_rfl) rfl #[.agg #[.int .i64 ((rd_T51 x3_1 (ji8)).f1.f0), .int .i64 ((rd_T51 x3_1 (ji8)).f1.f1), .int .i64 ((rd_T51 x3_1 (ji8)).f1.f2), .int .i64 ((rd_T51 x3_1 (ji8)).f1.f3)]] (by rfl) rfl rfl (by (try simp only [List.map_toArray, List.map_cons, List.map_nil]); first | done | (simp only [hji8]; rfl) | rfl | (simp only [List.length_drop, List.length_take]; rfl)) ?_
            with_reducible refine (mapmakerref34_Key.calls k2 ((rd_T51 x3_1 (ji8)).f1.f0) ((rd_T51 x3_1 (ji8)).f1.f1) ((rd_T51 x3_1 (ji8)).f1.f2) ((rd_T51 x3_1 (ji8)).f1.f3) t200 _ A11.out).mono ?_
            rintro e w15 ⟨rfl, hb⟩
            have HS6_ := pw_cell_below hb hHeld.2.2.2.2.2.2.1
            have HS7_ := pw_cell_below hb hHeld.2.2.2.2.2.2.2.1
            have HS8_ := pw_cell_below hb hHeld.2.2.2.2.2.2.2.2.1
            have HS9_ := pw_cell_below hb hHeld.2.2.2.2.2.2.2.2.2.1
            have HS10_ := pw_cell_below hb hHeld.2.2.2.2.2.2.2.2.2.2.1
            have HS11_ := pw_cell_below hb hHeld.2.2.2.2.2.2.2.2.2.2.2
            refine ⟨_, rfl, ?_⟩
            have n0_ := Aside0.mk (Kd.R_below (by (with_reducible repeat (first | apply Kd.R_alloc | apply Kd.R_drewN | apply Kd.R_drew)); exact HO_3.out) hb)
            have n1_ := Aside0.mk (below_step (by repeat (first | (with_reducible first | exact HB.out | apply below_alloc | apply pw_below_drewN | apply below_drew1) | exact HB.out)) hb)
            clear HO_3
            clear HB
            have HO_3 := n0_
            have HB := n1_
            clear n0_ n1_
            (try clear hb)
            (try clear hb2)
            (try clear hk)
            (try clear hi)
            refine hK.out _ _ ⟨(pw_cell_below HB.out hw197_0), (pw_cell_below HB.out hw197_1), (pw_cell_below HB.out hw197_2), (pw_cell_below HB.out hw197_3), (pw_cell_below HB.out hw197_4), (pw_cell_below HB.out hw197_5), HS6_, HS7_, HS8_, HS9_, HS10_, HS11_⟩ (fun hHeld => ?_)
            clear hK K
            refine norm_ (a' := ?_) ?_ ?_
            rotate_left
            ·show Act.put _ (some 30) _ = _
             simp only [Act.put, dq11_n, i64_w, i32_w]
             rfl
            refine pure_ (i := 16) (N := some 31) (v := ?_) (a' := ?_) dq11_17 rfl rfl (any_of HT_.out (by kernel_rfl)) (fun _ _ _ h => h) (Or.inl ⟨by rfl, ?_⟩) ?_ ?_
            rotate_left
            ·intro w'
             go_simp
             with_reducible rfl
            rotate_left
            ·simp only [Act.put, dq11_n, i64_w, i32_w]
             rfl
            refine pure_ (i := 17) (N := some 32) (v := ?_) (a' := ?_) dq11_18 rfl rfl (any_of HT_.out (by kernel_rfl)) (fun _ _ _ h => h) (Or.inl ⟨by rfl, ?_⟩) ?_ ?_
            rotate_left
            ·intro w'
             go_simp
             with_reducible rfl
            rotate_left
            ·simp only [Act.put, dq11_n, i64_w, i32_w]
             rfl
            refine pure_ (i := 18) (N := some 33) (v := undef) (a' := ?_) dq11_19 rfl rfl (any_of HT_.out (by kernel_rfl)) (fun _ _ _ h => h) (Or.inr ⟨by rfl, rfl⟩) ?_ ?_
            rotate_left
            ·simp only [Act.put, dq11_n, i64_w, i32_w]
             rfl
            refine pure_ (i := 19) (N := some 34) (v := undef) (a' := ?_) dq11_20 rfl rfl (any_of HT_.out (by kernel_rfl)) (fun _ _ _ h => h) (Or.inr ⟨by rfl, rfl⟩) ?_ ?_
            rotate_left
            ·simp only [Act.put, dq11_n, i64_w, i32_w]
             rfl
            refine pure_ (i := 20) (N := some 35) (v := undef) (a' := ?_) dq11_21 rfl rfl (any_of HT_.out (by kernel_rfl)) (fun _ _ _ h => h) (Or.inr ⟨by rfl, rfl⟩) ?_ ?_
            rotate_left
            ·simp only [Act.put, dq11_n, i64_w, i32_w]
             rfl
            refine pure_ (i := 21) (N := some 36) (v := undef) (a' := ?_) dq11_22 rfl rfl (any_of HT_.out (by kernel_rfl)) (fun _ _ _ h => h) (Or.inr ⟨by rfl, rfl⟩) ?_ ?_
            rotate_left
            ·simp only [Act.put, dq11_n, i64_w, i32_w]
             rfl
            refine pure_ (i := 22) (N := some 37) (v := undef) (a' := ?_) dq11_23 rfl rfl (any_of HT_.out (by kernel_rfl)) (fun _ _ _ h => h) (Or.inr ⟨by rfl, rfl⟩) ?_ ?_
            rotate_left
            ·simp only [Act.put, dq11_n, i64_w, i32_w]
             rfl
            refine pure_ (i := 23) (N := some 38) (v := undef) (a' := ?_) dq11_24 rfl rfl (any_of HT_.out (by kernel_rfl)) (fun _ _ _ h => h) (Or.inr ⟨by rfl, rfl⟩) ?_ ?_
            rotate_left
            ·simp only [Act.put, dq11_n, i64_w, i32_w]
             rfl
            refine pure_ (i := 24) (N := some 39) (v := undef) (a' := ?_) dq11_25 rfl rfl (any_of HT_.out (by kernel_rfl)) (fun _ _ _ h => h) (Or.inr ⟨by rfl, rfl⟩) ?_ ?_
            rotate_left
            ·simp only [Act.put, dq11_n, i64_w, i32_w]
             rfl
            refine pure_ (i := 25) (N := some 40) (v := undef) (a' := ?_) dq11_26 rfl rfl (any_of HT_.out (by kernel_rfl)) (fun _ _ _ h => h) (Or.inr ⟨by rfl, rfl⟩) ?_ ?_
            rotate_left
            ·simp only [Act.put, dq11_n, i64_w, i32_w]
             rfl
            refine pure_ (i := 26) (N := some 41) (v := undef) (a' := ?_) dq11_27 rfl rfl (any_of HT_.out (by kernel_rfl)) (fun _ _ _ h => h) (Or.inr ⟨by rfl, rfl⟩) ?_ ?_
            rotate_left
            ·simp only [Act.put, dq11_n, i64_w, i32_w]
             rfl
            refine pure_ (i := 27) (N := some 42) (v := undef) (a' := ?_) dq11_28 rfl rfl (any_of HT_.out (by kernel_rfl)) (fun _ _ _ h => h) (Or.inr ⟨by rfl, rfl⟩) ?_ ?_
            rotate_left
            ·simp only [Act.put, dq11_n, i64_w, i32_w]
             rfl
            refine pure_ (i := 28) (N := some 43) (v := undef) (a' := ?_) dq11_29 rfl rfl (any_of HT_.out (by kernel_rfl)) (fun _ _ _ h => h) (Or.inr ⟨by rfl, rfl⟩) ?_ ?_
            rotate_left
            ·simp only [Act.put, dq11_n, i64_w, i32_w]
             rfl
            refine pure_ (i := 29) (N := some 44) (v := undef) (a' := ?_) dq11_30 rfl rfl (any_of HT_.out (by kernel_rfl)) (fun _ _ _ h => h) (Or.inr ⟨by rfl, rfl⟩) ?_ ?_
            rotate_left
            ·simp only [Act.put, dq11_n, i64_w, i32_w]
             rfl
            refine pure_ (i := 30) (N := some 45) (v := undef) (a' := ?_) dq11_31 rfl rfl (any_of HT_.out (by kernel_rfl)) (fun _ _ _ h => h) (Or.inr ⟨by rfl, rfl⟩) ?_ ?_
            rotate_left
            ·simp only [Act.put, dq11_n, i64_w, i32_w]
             rfl
            refine pure_ (i := 31) (N := some 46) (v := undef) (a' := ?_) dq11_32 rfl rfl (any_of HT_.out (by kernel_rfl)) (fun _ _ _ h => h) (Or.inr ⟨by rfl, rfl⟩) ?_ ?_
            rotate_left
            ·simp only [Act.put, dq11_n, i64_w, i32_w]
             rfl
            refine pure_ (i := 32) (N := some 47) (v := undef) (a' := ?_) dq11_33 rfl rfl (any_of HT_.out (by kernel_rfl)) (fun _ _ _ h => h) (Or.inr ⟨by rfl, rfl⟩) ?_ ?_
            rotate_left
            ·simp only [Act.put, dq11_n, i64_w, i32_w]
             rfl
            refine pure_ (i := 33) (N := some 48) (v := undef) (a' := ?_) dq11_34 rfl rfl (any_of HT_.out (by kernel_rfl)) (fun _ _ _ h => h) (Or.inr ⟨by rfl, rfl⟩) ?_ ?_
            rotate_left
            ·simp only [Act.put, dq11_n, i64_w, i32_w]
             rfl
            refine pure_ (i := 34) (N := some 49) (v := undef) (a' := ?_) dq11_35 rfl rfl (any_of HT_.out (by kernel_rfl)) (fun _ _ _ h => h) (Or.inr ⟨by rfl, rfl⟩) ?_ ?_
            rotate_left
            ·simp only [Act.put, dq11_n, i64_w, i32_w]
             rfl
            refine pure_ (i := 35) (N := some 50) (v := undef) (a' := ?_) dq11_36 rfl rfl (any_of HT_.out (by kernel_rfl)) (fun _ _ _ h => h) (Or.inr ⟨by rfl, rfl⟩) ?_ ?_
            rotate_left
            ·simp only [Act.put, dq11_n, i64_w, i32_w]
             rfl
            refine pure_ (i := 36) (N := some 51) (v := undef) (a' := ?_) dq11_37 rfl rfl (any_of HT_.out (by kernel_rfl)) (fun _ _ _ h => h) (Or.inr ⟨by rfl, rfl⟩) ?_ ?_
            rotate_left
            ·simp only [Act.put, dq11_n, i64_w, i32_w]
             rfl
            refine pure_ (i := 37) (N := some 52) (v := undef) (a' := ?_) dq11_38 rfl rfl (any_of HT_.out (by kernel_rfl)) (fun _ _ _ h => h) (Or.inr ⟨by rfl, rfl⟩) ?_ ?_
            rotate_left
            ·simp only [Act.put, dq11_n, i64_w, i32_w]
             rfl
            refine pure_ (i := 38) (N := some 53) (v := undef) (a' := ?_) dq11_39 rfl rfl (any_of HT_.out (by kernel_rfl)) (fun _ _ _ h => h) (Or.inr ⟨by rfl, rfl⟩) ?_ ?_
            rotate_left
            ·simp only [Act.put, dq11_n, i64_w, i32_w]
             rfl
            refine pure_ (i := 39) (N := some 54) (v := undef) (a' := ?_) dq11_40 rfl rfl (any_of HT_.out (by kernel_rfl)) (fun _ _ _ h => h) (Or.inr ⟨by rfl, rfl⟩) ?_ ?_
            rotate_left
            ·simp only [Act.put, dq11_n, i64_w, i32_w]
             rfl
            refine pure_ (i := 40) (N := some 55) (v := undef) (a' := ?_) dq11_41 rfl rfl (any_of HT_.out (by kernel_rfl)) (fun _ _ _ h => h) (Or.inr ⟨by rfl, rfl⟩) ?_ ?_
            rotate_left
            ·simp only [Act.put, dq11_n, i64_w, i32_w]
             rfl
            refine pure_ (i := 41) (N := some 56) (v := undef) (a' := ?_) dq11_42 rfl rfl (any_of HT_.out (by kernel_rfl)) (fun _ _ _ h => h) (Or.inr ⟨by rfl, rfl⟩) ?_ ?_
            rotate_left
            ·simp only [Act.put, dq11_n, i64_w, i32_w]
             rfl
            refine pure_ (i := 42) (N := some 57) (v := undef) (a' := ?_) dq11_43 rfl rfl (any_of HT_.out (by kernel_rfl)) (fun _ _ _ h => h) (Or.inr ⟨by rfl, rfl⟩) ?_ ?_
            rotate_left
            ·simp only [Act.put, dq11_n, i64_w, i32_w]
             rfl
            refine pure_ (i := 43) (N := some 58) (v := undef) (a' := ?_) dq11_44 rfl rfl (any_of HT_.out (by kernel_rfl)) (fun _ _ _ h => h) (Or.inr ⟨by rfl, rfl⟩) ?_ ?_
            rotate_left
            ·simp only [Act.put, dq11_n, i64_w, i32_w]
             rfl
            refine pure_ (i := 44) (N := some 59) (v := undef) (a' := ?_) dq11_45 rfl rfl (any_of HT_.out (by kernel_rfl)) (fun _ _ _ h => h) (Or.inr ⟨by rfl, rfl⟩) ?_ ?_
            rotate_left
            ·simp only [Act.put, dq11_n, i64_w, i32_w]
             rfl
            refine pure_ (i := 45) (N := some 60) (v := undef) (a' := ?_) dq11_46 rfl rfl (any_of HT_.out (by kernel_rfl)) (fun _ _ _ h => h) (Or.inr ⟨by rfl, rfl⟩) ?_ ?_
            rotate_left
            ·simp only [Act.put, dq11_n, i64_w, i32_w]
             rfl
            refine pure_ (i := 46) (N := some 61) (v := ?_) (a' := ?_) dq11_47 rfl rfl (any_of HT_.out (by kernel_rfl)) (fun _ _ _ h => h) (Or.inl ⟨by rfl, ?_⟩) ?_ ?_
            rotate_left
            ·intro w'
             go_simp
             with_reducible rfl
            rotate_left
            ·simp only [Act.put, dq11_n, i64_w, i32_w]
             rfl
            refine pure_ (i := 47) (N := some 62) (v := ?_) (a' := ?_) dq11_48 rfl rfl (any_of HT_.out (by kernel_rfl)) (fun _ _ _ h => h) (Or.inl ⟨by rfl, ?_⟩) ?_ ?_
            rotate_left
            ·intro w'
             go_simp
             with_reducible rfl
            rotate_left
            ·simp only [Act.put, dq11_n, i64_w, i32_w]
             rfl
            refine done_ (done_of HT_.out (by kernel_rfl)) ?_
            try go_wp2
            go_roundg k2
            case measure => have := HK1.out; have := HK2.out; omega
            case rel => exact ⟨(ji8), (by first | rfl | (simp; done) | (simp only [← hji8] <;> (first | rfl | simp)) | (simp [*]; done)), H', ⟨by have := HK1.out; have := HK2.out; omega⟩, ⟨by (with_reducible repeat (first | apply Kd.R_alloc | apply Kd.R_drewN | apply Kd.R_drew)); exact HO_3.out⟩, ⟨by repeat (first | (with_reducible first | exact HB.out | apply below_alloc | apply pw_below_drewN | apply below_drew1) | exact HB.out)⟩⟩
           ·rw [if_neg c12] at H
            have c12b0 : decide (t198 < t200) = false := decide_eq_false c12
            clear c12
            replace H := Option.bind_eq_some_iff.mp H
            obtain ⟨t202, A160, H⟩ := H
            replace H : ((mapmakerref34_Key.f k2 ((rd_T51 x3_1 (ji8)).f1.f0) ((rd_T51 x3_1 (ji8)).f1.f1) ((rd_T51 x3_1 (ji8)).f1.f2) ((rd_T51 x3_1 (ji8)).f1.f3)).bind fun t204 => (if t202 = t204 then ((mapmakerref14_Less.f ((rd_T51 l0 x4_1).f0.f0) ((rd_T51 l0 x4_1).f0.f1) ((rd_T51 x3_1 (ji8)).f0.f0) ((rd_T51 x3_1 (ji8)).f0.f1)).bind fun t207 => (if t207 = true then (mapmakerref34_Items.l1 k2 l0 x3_1 x4_1 ji8) else (if 0 ≤ x5_2 then (if x5_2 ≤ (x3_1.length : Int) then ((some (x3_1.take (x5_2 : Int).toNat : List (S51))).bind fun y208 => (if ([] : List (S51)).length + y208.length < 2932031007402 then ((some (([] : List (S51)) ++ y208 : List (S51))).bind fun y212 => (if y212.length < 2932031007402 then ((some (y212 ++ [(⟨(⟨(rd_T51 l0 x4_1).f0.f0, (rd_T51 l0 x4_1).f0.f1⟩ : S49), (⟨(rd_T51 l0 x4_1).f1.f0, (rd_T51 l0 x4_1).f1.f1, (rd_T51 l0 x4_1).f1.f2, (rd_T51 l0 x4_1).f1.f3⟩ : S24)⟩ : S51)] : List (S51))).bind fun y216 => ((some (x3_1.drop (x5_2 : Int).toNat : List (S51))).bind fun y219 => (if y216.length + y219.length < 2932031007402 then (mapmakerref34_Items.l0 k2 l0 (y216 ++ y219) (wrap64 (x4_1 + 1))) else (none)))) else (none))) else (none))) else (none)) else (none)))) else (if 0 ≤ x5_2 then (if x5_2 ≤ (x3_1.length : Int) then ((some (x3_1.take (x5_2 : Int).toNat : List (S51))).bind fun y226 => (if ([] : List (S51)).length + y226.length < 2932031007402 then ((some (([] : List (S51)) ++ y226 : List (S51))).bind fun y230 => (if y230.length < 2932031007402 then ((some (y230 ++ [(⟨(⟨(rd_T51 l0 x4_1).f0.f0, (rd_T51 l0 x4_1).f0.f1⟩ : S49), (⟨(rd_T51 l0 x4_1).f1.f0, (rd_T51 l0 x4_1).f1.f1, (rd_T51 l0 x4_1).f1.f2, (rd_T51 l0 x4_1).f1.f3⟩ : S24)⟩ : S51)] : List (S51))).bind fun y234 => ((some (x3_1.drop (x5_2 : Int).toNat : List (S51))).bind fun y237 => (if y234.length + y237.length < 2932031007402 then (mapmakerref34_Items.l0 k2 l0 (y234 ++ y237) (wrap64 (x4_1 + 1))) else (none)))) else (none))) else (none))) else (none)) else (none)))) = some r := H
            have A16 := Aside0.mk A160
            clear A160
            replace H := Option.bind_eq_some_iff.mp H
            obtain ⟨t204, A170, H⟩ := H
            replace H : (if t202 = t204 then ((mapmakerref14_Less.f ((rd_T51 l0 x4_1).f0.f0) ((rd_T51 l0 x4_1).f0.f1) ((rd_T51 x3_1 (ji8)).f0.f0) ((rd_T51 x3_1 (ji8)).f0.f1)).bind fun t207 => (if t207 = true then (mapmakerref34_Items.l1 k2 l0 x3_1 x4_1 ji8) else (if 0 ≤ x5_2 then (if x5_2 ≤ (x3_1.length : Int) then ((some (x3_1.take (x5_2 : Int).toNat : List (S51))).bind fun y208 => (if ([] : List (S51)).length + y208.length < 2932031007402 then ((some (([] : List (S51)) ++ y208 : List (S51))).bind fun y212 => (if y212.length < 2932031007402 then ((some (y212 ++ [(⟨(⟨(rd_T51 l0 x4_1).f0.f0, (rd_T51 l0 x4_1).f0.f1⟩ : S49), (⟨(rd_T51 l0 x4_1).f1.f0, (rd_T51 l0 x4_1).f1.f1, (rd_T51 l0 x4_1).f1.f2, (rd_T51 l0 x4_1).f1.f3⟩ : S24)⟩ : S51)] : List (S51))).bind fun y216 => ((some (x3_1.drop (x5_2 : Int).toNat : List (S51))).bind fun y219 => (if y216.length + y219.length < 2932031007402 then (mapmakerref34_Items.l0 k2 l0 (y216 ++ y219) (wrap64 (x4_1 + 1))) else (none)))) else (none))) else (none))) else (none)) else (none)))) else (if 0 ≤ x5_2 then (if x5_2 ≤ (x3_1.length : Int) then ((some (x3_1.take (x5_2 : Int).toNat : List (S51))).bind fun y226 => (if ([] : List (S51)).length + y226.length < 2932031007402 then ((some (([] : List (S51)) ++ y226 : List (S51))).bind fun y230 => (if y230.length < 2932031007402 then ((some (y230 ++ [(⟨(⟨(rd_T51 l0 x4_1).f0.f0, (rd_T51 l0 x4_1).f0.f1⟩ : S49), (⟨(rd_T51 l0 x4_1).f1.f0, (rd_T51 l0 x4_1).f1.f1, (rd_T51 l0 x4_1).f1.f2, (rd_T51 l0 x4_1).f1.f3⟩ : S24)⟩ : S51)] : List (S51))).bind fun y234 => ((some (x3_1.drop (x5_2 : Int).toNat : List (S51))).bind fun y237 => (if y234.length + y237.length < 2932031007402 then (mapmakerref34_Items.l0 k2 l0 (y234 ++ y237) (wrap64 (x4_1 + 1))) else (none)))) else (none))) else (none))) else (none)) else (none))) = some r := H
            have A17 := Aside0.mk A170
            clear A170
            by_cases c18 : t202 = t204
            ·rw [if_pos c18] at H
             have c18b0 : (t202 == t204) = true := beq_iff_eq.mpr c18
             have c18b1 : (t202 != t204) = false := bne_eq_false_iff_eq.mpr c18
             clear c18
             replace H := Option.bind_eq_some_iff.mp H
             obtain ⟨t207, A190, H⟩ := H
             replace H : (if t207 = true then (mapmakerref34_Items.l1 k2 l0 x3_1 x4_1 ji8) else (if 0 ≤ x5_2 then (if x5_2 ≤ (x3_1.length : Int) then ((some (x3_1.take (x5_2 : Int).toNat : List (S51))).bind fun y208 => (if ([] : List (S51)).length + y208.length < 2932031007402 then ((some (([] : List (S51)) ++ y208 : List (S51))).bind fun y212 => (if y212.length < 2932031007402 then ((some (y212 ++ [(⟨(⟨(rd_T51 l0 x4_1).f0.f0, (rd_T51 l0 x4_1).f0.f1⟩ : S49), (⟨(rd_T51 l0 x4_1).f1.f0, (rd_T51 l0 x4_1).f1.f1, (rd_T51 l0 x4_1).f1.f2, (rd_T51 l0 x4_1).f1.f3⟩ : S24)⟩ : S51)] : List (S51))).bind fun y216 => ((some (x3_1.drop (x5_2 : Int).toNat : List (S51))).bind fun y219 => (if y216.length + y219.length < 2932031007402 then (mapmakerref34_Items.l0 k2 l0 (y216 ++ y219) (wrap64 (x4_1 + 1))) else (none)))) else (none))) else (none))) else (none)) else (none))) = some r := H
             have A19 := Aside0.mk A190
             clear A190
             by_cases c20 : t207 = true
             ·subst c20
              have H1 : (mapmakerref34_Items.l1 k2 l0 x3_1 x4_1 ji8) = some r := by rw [if_pos rfl] at H; exact H
              clear H
              have H := H1
              clear H1
              have H' := Aside0.mk H
              clear H
              try go_wp2
              have n0_ := Aside0.mk (Kd.R_drew HO_3.out)
              have n1_ := Aside0.mk (below_drew1 HB.out)
              clear HO_3
              clear HB
              have HO_3 := n0_
              have HB := n1_
              clear n0_ n1_
              have p197 : 0 ≤ (x4_1 : Int) := of_decide_eq_true (by first | (with_reducible assumption) | assumption)
              have q197 : x4_1 < (l0.length : Int) := of_decide_eq_true (by first | (with_reducible assumption) | assumption)
              obtain ⟨ad197, e197, hx197_0, hx197_1, hx197_2, hx197_3, hx197_4, hx197_5⟩ := at_T51 HR0.out x4_1 p197 q197
              have hw197_5 := hx197_5
              have hw197_4 := hx197_4
              have hw197_3 := hx197_3
              have hw197_2 := hx197_2
              have hw197_1 := hx197_1
              have hw197_0 := hx197_0
              cases e197
              replace hx197_0 := (HB.out.cell (World.block_lt_of_cell? w _ hx197_0)).trans hx197_0
              replace hx197_1 := (HB.out.cell (World.block_lt_of_cell? w _ hx197_1)).trans hx197_1
              replace hx197_2 := (HB.out.cell (World.block_lt_of_cell? w _ hx197_2)).trans hx197_2
              replace hx197_3 := (HB.out.cell (World.block_lt_of_cell? w _ hx197_3)).trans hx197_3
              replace hx197_4 := (HB.out.cell (World.block_lt_of_cell? w _ hx197_4)).trans hx197_4
              replace hx197_5 := (HB.out.cell (World.block_lt_of_cell? w _ hx197_5)).trans hx197_5
              replace p197 := eq_true p197
              replace q197 := eq_true q197
              have p199 : 0 ≤ ((ji8) : Int) := of_decide_eq_true (by first | (with_reducible assumption) | assumption)
              have q199 : (ji8) < (x3_1.length : Int) := of_decide_eq_true (by first | (with_reducible assumption) | assumption)
              obtain ⟨ad199, e199, hx199_0, hx199_1, hx199_2, hx199_3, hx199_4, hx199_5⟩ := at_T51 (Kd.R_reads' HO_3.out).2.2 (ji8) p199 q199
              cases e199
              replace p199 := eq_true p199
              replace q199 := eq_true q199
              have p201 : 0 ≤ (x4_1 : Int) := of_decide_eq_true (by first | (with_reducible assumption) | assumption)
              have q201 : x4_1 < (l0.length : Int) := of_decide_eq_true (by first | (with_reducible assumption) | assumption)
              obtain ⟨ad201, e201, hx201_0, hx201_1, hx201_2, hx201_3, hx201_4, hx201_5⟩ := at_T51 HR0.out x4_1 p201 q201
              have hw201_5 := hx201_5
              have hw201_4 := hx201_4
              have hw201_3 := hx201_3
              have hw201_2 := hx201_2
              have hw201_1 := hx201_1
              have hw201_0 := hx201_0
              obtain rfl : ad197 = ad201 := (by injection e201)
              replace hx201_0 := (HB.out.cell (World.block_lt_of_cell? w _ hx201_0)).trans hx201_0
              replace hx201_1 := (HB.out.cell (World.block_lt_of_cell? w _ hx201_1)).trans hx201_1
              replace hx201_2 := (HB.out.cell (World.block_lt_of_cell? w _ hx201_2)).trans hx201_2
              replace hx201_3 := (HB.out.cell (World.block_lt_of_cell? w _ hx201_3)).trans hx201_3
              replace hx201_4 := (HB.out.cell (World.block_lt_of_cell? w _ hx201_4)).trans hx201_4
              replace hx201_5 := (HB.out.cell (World.block_lt_of_cell? w _ hx201_5)).trans hx201_5
              replace p201 := eq_true p201
              replace q201 := eq_true q201
              have p203 : 0 ≤ ((ji8) : Int) := of_decide_eq_true (by first | (with_reducible assumption) | assumption)
              have q203 : (ji8) < (x3_1.length : Int) := of_decide_eq_true (by first | (with_reducible assumption) | assumption)
              obtain ⟨ad203, e203, hx203_0, hx203_1, hx203_2, hx203_3, hx203_4, hx203_5⟩ := at_T51 (Kd.R_reads' HO_3.out).2.2 (ji8) p203 q203
              obtain rfl : ad199 = ad203 := (by injection e203)
              replace p203 := eq_true p203
              replace q203 := eq_true q203
              have p205 : 0 ≤ (x4_1 : Int) := of_decide_eq_true (by first | (with_reducible assumption) | assumption)
              have q205 : x4_1 < (l0.length : Int) := of_decide_eq_true (by first | (with_reducible assumption) | assumption)
              obtain ⟨ad205, e205, hx205_0, hx205_1, hx205_2, hx205_3, hx205_4, hx205_5⟩ := at_T51 HR0.out x4_1 p205 q205
              have hw205_5 := hx205_5
              have hw205_4 := hx205_4
              have hw205_3 := hx205_3
              have hw205_2 := hx205_2
              have hw205_1 := hx205_1
              have hw205_0 := hx205_0
              obtain rfl : ad197 = ad205 := (by injection e205)
              replace hx205_0 := (HB.out.cell (World.block_lt_of_cell? w _ hx205_0)).trans hx205_0
              replace hx205_1 := (HB.out.cell (World.block_lt_of_cell? w _ hx205_1)).trans hx205_1
              replace hx205_2 := (HB.out.cell (World.block_lt_of_cell? w _ hx205_2)).trans hx205_2
              replace hx205_3 := (HB.out.cell (World.block_lt_of_cell? w _ hx205_3)).trans hx205_3
              replace hx205_4 := (HB.out.cell (World.block_lt_of_cell? w _ hx205_4)).trans hx205_4
              replace hx205_5 := (HB.out.cell (World.block_lt_of_cell? w _ hx205_5)).trans hx205_5
              replace p205 := eq_true p205
              replace q205 := eq_true q205
              have p206 : 0 ≤ ((ji8) : Int) := of_decide_eq_true (by first | (with_reducible assumption) | assumption)
              have q206 : (ji8) < (x3_1.length : Int) := of_decide_eq_true (by first | (with_reducible assumption) | assumption)
              obtain ⟨ad206, e206, hx206_0, hx206_1, hx206_2, hx206_3, hx206_4, hx206_5⟩ := at_T51 (Kd.R_reads' HO_3.out).2.2 (ji8) p206 q206
              obtain rfl : ad199 = ad206 := (by injection e206)
              replace p206 := eq_true p206
              replace q206 := eq_true q206
              refine start_ (n := 48) (S := fun w' => w'.cell? (ad197.add ((x4_1).toNat * 6)) = some (.int .i64 ((rd_T51 l0 x4_1).f0.f0)) ∧ w'.cell? ⟨(ad197.add ((x4_1).toNat * 6)).block, (ad197.add ((x4_1).toNat * 6)).off + 1, none⟩ = some (.int .i64 ((rd_T51 l0 x4_1).f0.f1)) ∧ w'.cell? ⟨(ad197.add ((x4_1).toNat * 6)).block, (ad197.add ((x4_1).toNat * 6)).off + 2, none⟩ = some (.int .i64 ((rd_T51 l0 x4_1).f1.f0)) ∧ w'.cell? ⟨(ad197.add ((x4_1).toNat * 6)).block, (ad197.add ((x4_1).toNat * 6)).off + 3, none⟩ = some (.int .i64 ((rd_T51 l0 x4_1).f1.f1)) ∧ w'.cell? ⟨(ad197.add ((x4_1).toNat * 6)).block, (ad197.add ((x4_1).toNat * 6)).off + 4, none⟩ = some (.int .i64 ((rd_T51 l0 x4_1).f1.f2)) ∧ w'.cell? ⟨(ad197.add ((x4_1).toNat * 6)).block, (ad197.add ((x4_1).toNat * 6)).off + 5, none⟩ = some (.int .i64 ((rd_T51 l0 x4_1).f1.f3)) ∧ w'.cell? (ad199.add (((ji8)).toNat * 6)) = some (.int .i64 ((rd_T51 x3_1 (ji8)).f0.f0)) ∧ w'.cell? ⟨(ad199.add (((ji8)).toNat * 6)).block, (ad199.add (((ji8)).toNat * 6)).off + 1, none⟩ = some (.int .i64 ((rd_T51 x3_1 (ji8)).f0.f1)) ∧ w'.cell? ⟨(ad199.add (((ji8)).toNat * 6)).block, (ad199.add (((ji8)).toNat * 6)).off + 2, none⟩ = some (.int .i64 ((rd_T51 x3_1 (ji8)).f1.f0)) ∧ w'.cell? ⟨(ad199.add (((ji8)).toNat * 6)).block, (ad199.add (((ji8)).toNat * 6)).off + 3, none⟩ = some (.int .i64 ((rd_T51 x3_1 (ji8)).f1.f1)) ∧ w'.cell? ⟨(ad199.add (((ji8)).toNat * 6)).block, (ad199.add (((ji8)).toNat * 6)).off + 4, none⟩ = some (.int .i64 ((rd_T51 x3_1 (ji8)).f1.f2)) ∧ w'.cell? ⟨(ad199.add (((ji8)).toNat * 6)).block, (ad199.add (((ji8)).toNat * 6)).off + 5, none⟩ = some (.int .i64 ((rd_T51 x3_1 (ji8)).f1.f3)) ∧ w'.cell? (ad197.add ((x4_1).toNat * 6)) = some (.int .i64 ((rd_T51 l0 x4_1).f0.f0)) ∧ w'.cell? ⟨(ad197.add ((x4_1).toNat * 6)).block, (ad197.add ((x4_1).toNat * 6)).off + 1, none⟩ = some (.int .i64 ((rd_T51 l0 x4_1).f0.f1)) ∧ w'.cell? ⟨(ad197.add ((x4_1).toNat * 6)).block, (ad197.add ((x4_1).toNat * 6)).off + 2, none⟩ = some (.int .i64 ((rd_T51 l0 x4_1).f1.f0)) ∧ w'.cell? ⟨(ad197.add ((x4_1).toNat * 6)).block, (ad197.add ((x4_1).toNat * 6)).off + 3, none⟩ = some (.int .i64 ((rd_T51 l0 x4_1).f1.f1)) ∧ w'.cell? ⟨(ad197.add ((x4_1).toNat * 6)).block, (ad197.add ((x4_1).toNat * 6)).off + 4, none⟩ = some (.int .i64 ((rd_T51 l0 x4_1).f1.f2)) ∧ w'.cell? ⟨(ad197.add ((x4_1).toNat * 6)).block, (ad197.add ((x4_1).toNat * 6)).off + 5, none⟩ = some (.int .i64 ((rd_T51 l0 x4_1).f1.f3)) ∧ w'.cell? (ad199.add (((ji8)).toNat * 6)) = some (.int .i64 ((rd_T51 x3_1 (ji8)).f0.f0)) ∧ w'.cell? ⟨(ad199.add (((ji8)).toNat * 6)).block, (ad199.add (((ji8)).toNat * 6)).off + 1, none⟩ = some (.int .i64 ((rd_T51 x3_1 (ji8)).f0.f1)) ∧ w'.cell? ⟨(ad199.add (((ji8)).toNat * 6)).block, (ad199.add (((ji8)).toNat * 6)).off + 2, none⟩ = some (.int .i64 ((rd_T51 x3_1 (ji8)).f1.f0)) ∧ w'.cell? ⟨(ad199.add (((ji8)).toNat * 6)).block, (ad199.add (((ji8)).toNat * 6)).off + 3, none⟩ = some (.int .i64 ((rd_T51 x3_1 (ji8)).f1.f1)) ∧ w'.cell? ⟨(ad199.add (((ji8)).toNat * 6)).block, (ad199.add (((ji8)).toNat * 6)).off + 4, none⟩ = some (.int .i64 ((rd_T51 x3_1 (ji8)).f1.f2)) ∧ w'.cell? ⟨(ad199.add (((ji8)).toNat * 6)).block, (ad199.add (((ji8)).toNat * 6)).off + 5, none⟩ = some (.int .i64 ((rd_T51 x3_1 (ji8)).f1.f3)) ∧ w'.cell? (ad197.add ((x4_1).toNat * 6)) = some (.int .i64 ((rd_T51 l0 x4_1).f0.f0)) ∧ w'.cell? ⟨(ad197.add ((x4_1).toNat * 6)).block, (ad197.add ((x4_1).toNat * 6)).off + 1, none⟩ = some (.int .i64 ((rd_T51 l0 x4_1).f0.f1)) ∧ w'.cell? ⟨(ad197.add ((x4_1).toNat * 6)).block, (ad197.add ((x4_1).toNat * 6)).off + 2, none⟩ = some (.int .i64 ((rd_T51 l0 x4_1).f1.f0)) ∧ w'.cell? ⟨(ad197.add ((x4_1).toNat * 6)).block, (ad197.add ((x4_1).toNat * 6)).off + 3, none⟩ = some (.int .i64 ((rd_T51 l0 x4_1).f1.f1)) ∧ w'.cell? ⟨(ad197.add ((x4_1).toNat * 6)).block, (ad197.add ((x4_1).toNat * 6)).off + 4, none⟩ = some (.int .i64 ((rd_T51 l0 x4_1).f1.f2)) ∧ w'.cell? ⟨(ad197.add ((x4_1).toNat * 6)).block, (ad197.add ((x4_1).toNat * 6)).off + 5, none⟩ = some (.int .i64 ((rd_T51 l0 x4_1).f1.f3)) ∧ w'.cell? (ad199.add (((ji8)).toNat * 6)) = some (.int .i64 ((rd_T51 x3_1 (ji8)).f0.f0)) ∧ w'.cell? ⟨(ad199.add (((ji8)).toNat * 6)).block, (ad199.add (((ji8)).toNat * 6)).off + 1, none⟩ = some (.int .i64 ((rd_T51 x3_1 (ji8)).f0.f1)) ∧ w'.cell? ⟨(ad199.add (((ji8)).toNat * 6)).block, (ad199.add (((ji8)).toNat * 6)).off + 2, none⟩ = some (.int .i64 ((rd_T51 x3_1 (ji8)).f1.f0)) ∧ w'.cell? ⟨(ad199.add (((ji8)).toNat * 6)).block, (ad199.add (((ji8)).toNat * 6)).off + 3, none⟩ = some (.int .i64 ((rd_T51 x3_1 (ji8)).f1.f1)) ∧ w'.cell? ⟨(ad199.add (((ji8)).toNat * 6)).block, (ad199.add (((ji8)).toNat * 6)).off + 4, none⟩ = some (.int .i64 ((rd_T51 x3_1 (ji8)).f1.f2)) ∧ w'.cell? ⟨(ad199.add (((ji8)).toNat * 6)).block, (ad199.add (((ji8)).toNat * 6)).off + 5, none⟩ = some (.int .i64 ((rd_T51 x3_1 (ji8)).f1.f3))) (ds := []) dq11_0 (by kernel_rfl) rfl rfl ⟨(pw_cell_below HB.out hw197_0), (pw_cell_below HB.out hw197_1), (pw_cell_below HB.out hw197_2), (pw_cell_below HB.out hw197_3), (pw_cell_below HB.out hw197_4), (pw_cell_below HB.out hw197_5), hx199_0, hx199_1, hx199_2, hx199_3, hx199_4, hx199_5, (pw_cell_below HB.out hw201_0), (pw_cell_below HB.out hw201_1), (pw_cell_below HB.out hw201_2), (pw_cell_below HB.out hw201_3), (pw_cell_below HB.out hw201_4), (pw_cell_below HB.out hw201_5), hx203_0, hx203_1, hx203_2, hx203_3, hx203_4, hx203_5, (pw_cell_below HB.out hw205_0), (pw_cell_below HB.out hw205_1), (pw_cell_below HB.out hw205_2), (pw_cell_below HB.out hw205_3), (pw_cell_below HB.out hw205_4), (pw_cell_below HB.out hw205_5), hx206_0, hx206_1, hx206_2, hx206_3, hx206_4, hx206_5⟩ (fun hHeld => ?_); refine with_tabW mapmakerref34_Items.tab6 mapmakerref34_Items.bits6 (fun HT_ HW_ => ?_)
              generalize wr.drew = w21 at HO_3 HB hx197_0 hx197_1 hx197_2 hx197_3 hx197_4 hx197_5 hx199_0 hx199_1 hx199_2 hx199_3 hx199_4 hx199_5 hx201_0 hx201_1 hx201_2 hx201_3 hx201_4 hx201_5 hx203_0 hx203_1 hx203_2 hx203_3 hx203_4 hx203_5 hx205_0 hx205_1 hx205_2 hx205_3 hx205_4 hx205_5 hx206_0 hx206_1 hx206_2 hx206_3 hx206_4 hx206_5 hHeld ⊢
              refine pure_ (i := 0) (N := some 15) (v := ?_) (a' := ?_) dq11_1 rfl rfl (any_of HT_.out (by kernel_rfl)) (fun _ _ _ h => h) (Or.inl ⟨by rfl, ?_⟩) ?_ ?_
              rotate_left
              ·intro w'
               go_simp
               with_reducible rfl
              rotate_left
              ·simp only [Act.put, dq11_n, i64_w, i32_w]
               rfl
              refine pure_ (i := 1) (N := some 16) (v := ?_) (a' := ?_) dq11_2 rfl rfl (any_of HT_.out (by kernel_rfl)) (fun _ _ _ h => h) (Or.inl ⟨by rfl, ?_⟩) ?_ ?_
              rotate_left
              ·intro w'
               go_simp
               with_reducible rfl
              rotate_left
              ·simp only [Act.put, dq11_n, i64_w, i32_w]
               rfl
              refine pure_ (i := 2) (N := some 17) (v := ?_) (a' := ?_) dq11_3 rfl rfl (any_of HT_.out (by kernel_rfl)) (fun _ _ _ h => h) (Or.inl ⟨by rfl, ?_⟩) ?_ ?_
              rotate_left
              ·intro w'
               go_simp
               with_reducible rfl
              rotate_left
              ·simp only [Act.put, dq11_n, i64_w, i32_w]
               rfl
              refine pure_ (i := 3) (N := some 18) (v := ?_) (a' := ?_) dq11_4 rfl rfl (any_of HT_.out (by kernel_rfl)) (fun _ _ _ h => h) (Or.inl ⟨by rfl, ?_⟩) ?_ ?_
              rotate_left
              ·intro w'
               go_simp
               with_reducible rfl
              rotate_left
              ·simp only [Act.put, dq11_n, i64_w, i32_w]
               rfl
              refine pure_ (i := 4) (N := some 19) (v := ?_) (a' := ?_) dq11_5 rfl rfl (any_of HT_.out (by kernel_rfl)) (fun _ _ _ h => h) (Or.inl ⟨by rfl, ?_⟩) ?_ ?_
              rotate_left
              ·intro w'
               go_simp
               with_reducible rfl
              rotate_left
              ·simp only [Act.put, dq11_n, i64_w, i32_w]
               rfl
              refine pure_ (i := 5) (N := some 20) (v := ?_) (a' := ?_) dq11_6 rfl rfl (any_of HT_.out (by kernel_rfl)) (fun _ _ _ h => h) (Or.inl ⟨by rfl, ?_⟩) ?_ ?_
              rotate_left
              ·intro w'
               go_simp
               with_reducible rfl
              rotate_left
              ·simp only [Act.put, dq11_n, i64_w, i32_w]
               rfl
              refine pure_ (i := 6) (N := some 21) (v := ?_) (a' := ?_) dq11_7 rfl rfl (any_of HT_.out (by kernel_rfl)) (fun _ _ _ h => h) (Or.inl ⟨by rfl, ?_⟩) ?_ ?_
              rotate_left
              ·intro w'
               go_simp
               with_reducible rfl
              rotate_left
              ·simp only [Act.put, dq11_n, i64_w, i32_w]
               rfl
              refine pure_ (i := 9) (N := some 24) (v := ?_) (a' := ?_) dq11_8 rfl rfl (any_of HT_.out (by kernel_rfl)) (fun _ _ _ h => h) (Or.inl ⟨by rfl, ?_⟩) ?_ ?_
              rotate_left
              ·intro w'
               go_simp
               with_reducible rfl
              rotate_left
              ·simp only [Act.put, dq11_n, i64_w, i32_w]
               rfl
              refine pure_ (i := 10) (N := some 25) (v := ?_) (a' := ?_) dq11_9 rfl rfl (any_of HT_.out (by kernel_rfl)) (fun _ _ _ h => h) (Or.inl ⟨by rfl, ?_⟩) ?_ ?_
              rotate_left
              ·intro w'
               go_simp
               with_reducible rfl
              rotate_left
              ·simp only [Act.put, dq11_n, i64_w, i32_w]
               rfl
              refine pure_ (i := 11) (N := some 26) (v := ?_) (a' := ?_) dq11_10 rfl rfl (any_of HT_.out (by kernel_rfl)) (fun _ _ _ h => h) (Or.inl ⟨by rfl, ?_⟩) ?_ ?_
              rotate_left
              ·intro w'
               go_simp
               with_reducible rfl
              rotate_left
              ·simp only [Act.put, dq11_n, i64_w, i32_w]
               rfl
              refine pure_ (i := 12) (N := some 27) (v := ?_) (a' := ?_) dq11_11 rfl rfl (any_of HT_.out (by kernel_rfl)) (fun _ _ _ h => h) (Or.inl ⟨by rfl, ?_⟩) ?_ ?_
              rotate_left
              ·intro w'
               go_simp
               with_reducible rfl
              rotate_left
              ·simp only [Act.put, dq11_n, i64_w, i32_w]
               rfl
              refine pure_ (i := 13) (N := some 28) (v := ?_) (a' := ?_) dq11_12 rfl rfl (any_of HT_.out (by kernel_rfl)) (fun _ _ _ h => h) (Or.inl ⟨by rfl, ?_⟩) ?_ ?_
              rotate_left
              ·intro w'
               go_simp
               with_reducible rfl
              rotate_left
              ·simp only [Act.put, dq11_n, i64_w, i32_w]
               rfl
              refine take_ (i := 7) (N := some 22) (v := ?_) (a' := ?_) dq11_13 rfl rfl (take_ofW HT_.out HW_.out (by kernel_rfl)) (fun _ _ _ h => h) (Or.inl ⟨by rfl, ?_⟩) hHeld ?_ ?_
              rotate_left
              ·rintro w' ⟨s0, s1, s2, s3, s4, s5, s6, s7, s8, s9, s10, s11, s12, s13, s14, s15, s16, s17, s18, s19, s20, s21, s22, s23, s24, s25, s26, s27, s28, s29, s30, s31, s32, s33, s34, s35⟩
               go_simp
               with_reducible rfl
              rotate_left
              ·simp only [Act.put, dq11_n, i64_w, i32_w]
               rfl
              refine take_ (i := 14) (N := some 29) (v := ?_) (a' := ?_) dq11_14 rfl rfl (take_ofW HT_.out HW_.out (by kernel_rfl)) (fun _ _ _ h => h) (Or.inl ⟨by rfl, ?_⟩) hHeld ?_ ?_
              rotate_left
              ·rintro w' ⟨s0, s1, s2, s3, s4, s5, s6, s7, s8, s9, s10, s11, s12, s13, s14, s15, s16, s17, s18, s19, s20, s21, s22, s23, s24, s25, s26, s27, s28, s29, s30, s31, s32, s33, s34, s35⟩
               go_simp
               with_reducible rfl
              rotate_left
              ·simp only [Act.put, dq11_n, i64_w, i32_w]
               rfl
              refine one_ (i := 8) (N := some 23) dq11_15 rfl rfl (one_of HT_.out (by kernel_rfl)) (by decide) (fun K hK => ?_)
              refine goes_ Try.func40 (by kernel_rfl) rfl #[.agg #[.int .i64 ((rd_T51 l0 x4_1).f1.f0), .int .i64 ((rd_T51 l0 x4_1).f1.f1), .int .i64 ((rd_T51 l0 x4_1).f1.f2), .int .i64 ((rd_T51 l0 x4_1).f1.f3)]] (by rfl) rfl rfl (by (try simp only [List.map_toArray, List.map_cons, List.map_nil]); first | done | rfl | (simp only [List.length_drop, List.length_take]; rfl)) ?_
              with_reducible refine (mapmakerref34_Key.calls k2 ((rd_T51 l0 x4_1).f1.f0) ((rd_T51 l0 x4_1).f1.f1) ((rd_T51 l0 x4_1).f1.f2) ((rd_T51 l0 x4_1).f1.f3) t198 _ A7.out).mono ?_
              rintro e w22 ⟨rfl, hb⟩
              have HS6_ := pw_cell_below hb hHeld.2.2.2.2.2.2.1
              have HS7_ := pw_cell_below hb hHeld.2.2.2.2.2.2.2.1
              have HS8_ := pw_cell_below hb hHeld.2.2.2.2.2.2.2.2.1
              have HS9_ := pw_cell_below hb hHeld.2.2.2.2.2.2.2.2.2.1
              have HS10_ := pw_cell_below hb hHeld.2.2.2.2.2.2.2.2.2.2.1
              have HS11_ := pw_cell_below hb hHeld.2.2.2.2.2.2.2.2.2.2.2.1
              have HS18_ := pw_cell_below hb hHeld.2.2.2.2.2.2.2.2.2.2.2.2.2.2.2.2.2.2.1
              have HS19_ := pw_cell_below hb hHeld.2.2.2.2.2.2.2.2.2.2.2.2.2.2.2.2.2.2.2.1
              have HS20_ := pw_cell_below hb hHeld.2.2.2.2.2.2.2.2.2.2.2.2.2.2.2.2.2.2.2.2.1
              have HS21_ := pw_cell_below hb hHeld.2.2.2.2.2.2.2.2.2.2.2.2.2.2.2.2.2.2.2.2.2.1
              have HS22_ := pw_cell_below hb hHeld.2.2.2.2.2.2.2.2.2.2.2.2.2.2.2.2.2.2.2.2.2.2.1
              have HS23_ := pw_cell_below hb hHeld.2.2.2.2.2.2.2.2.2.2.2.2.2.2.2.2.2.2.2.2.2.2.2.1
              have HS30_ := pw_cell_below hb hHeld.2.2.2.2.2.2.2.2.2.2.2.2.2.2.2.2.2.2.2.2.2.2.2.2.2.2.2.2.2.2.1
              have HS31_ := pw_cell_below hb hHeld.2.2.2.2.2.2.2.2.2.2.2.2.2.2.2.2.2.2.2.2.2.2.2.2.2.2.2.2.2.2.2.1
              have HS32_ := pw_cell_below hb hHeld.2.2.2.2.2.2.2.2.2.2.2.2.2.2.2.2.2.2.2.2.2.2.2.2.2.2.2.2.2.2.2.2.1
              have HS33_ := pw_cell_below hb hHeld.2.2.2.2.2.2.2.2.2.2.2.2.2.2.2.2.2.2.2.2.2.2.2.2.2.2.2.2.2.2.2.2.2.1
              have HS34_ := pw_cell_below hb hHeld.2.2.2.2.2.2.2.2.2.2.2.2.2.2.2.2.2.2.2.2.2.2.2.2.2.2.2.2.2.2.2.2.2.2.1
              have HS35_ := pw_cell_below hb hHeld.2.2.2.2.2.2.2.2.2.2.2.2.2.2.2.2.2.2.2.2.2.2.2.2.2.2.2.2.2.2.2.2.2.2.2
              refine ⟨_, rfl, ?_⟩
              have n0_ := Aside0.mk (Kd.R_below (by (with_reducible repeat (first | apply Kd.R_alloc | apply Kd.R_drewN | apply Kd.R_drew)); exact HO_3.out) hb)
              have n1_ := Aside0.mk (below_step (by repeat (first | (with_reducible first | exact HB.out | apply below_alloc | apply pw_below_drewN | apply below_drew1) | exact HB.out)) hb)
              clear HO_3
              clear HB
              have HO_3 := n0_
              have HB := n1_
              clear n0_ n1_
              (try clear hb)
              (try clear hb2)
              (try clear hk)
              (try clear hi)
              refine hK.out _ _ ⟨(pw_cell_below HB.out hw197_0), (pw_cell_below HB.out hw197_1), (pw_cell_below HB.out hw197_2), (pw_cell_below HB.out hw197_3), (pw_cell_below HB.out hw197_4), (pw_cell_below HB.out hw197_5), HS6_, HS7_, HS8_, HS9_, HS10_, HS11_, (pw_cell_below HB.out hw201_0), (pw_cell_below HB.out hw201_1), (pw_cell_below HB.out hw201_2), (pw_cell_below HB.out hw201_3), (pw_cell_below HB.out hw201_4), (pw_cell_below HB.out hw201_5), HS18_, HS19_, HS20_, HS21_, HS22_, HS23_, (pw_cell_below HB.out hw205_0), (pw_cell_below HB.out hw205_1), (pw_cell_below HB.out hw205_2), (pw_cell_below HB.out hw205_3), (pw_cell_below HB.out hw205_4), (pw_cell_below HB.out hw205_5), HS30_, HS31_, HS32_, HS33_, HS34_, HS35_⟩ (fun hHeld => ?_)
              clear hK K
              refine norm_ (a' := ?_) ?_ ?_
              rotate_left
              ·show Act.put _ (some 23) _ = _
               simp only [Act.put, dq11_n, i64_w, i32_w]
               rfl
              refine one_ (i := 15) (N := some 30) dq11_16 rfl rfl (one_of HT_.out (by kernel_rfl)) (by decide) (fun K hK => ?_)
              refine goes_ Try.func40 (by kernel_rfl) rfl #[.agg #[.int .i64 ((rd_T51 x3_1 (ji8)).f1.f0), .int .i64 ((rd_T51 x3_1 (ji8)).f1.f1), .int .i64 ((rd_T51 x3_1 (ji8)).f1.f2), .int .i64 ((rd_T51 x3_1 (ji8)).f1.f3)]] (by rfl) rfl rfl (by (try simp only [List.map_toArray, List.map_cons, List.map_nil]); first | done | (simp only [hji8]; rfl) | rfl | (simp only [List.length_drop, List.length_take]; rfl)) ?_
              with_reducible refine (mapmakerref34_Key.calls k2 ((rd_T51 x3_1 (ji8)).f1.f0) ((rd_T51 x3_1 (ji8)).f1.f1) ((rd_T51 x3_1 (ji8)).f1.f2) ((rd_T51 x3_1 (ji8)).f1.f3) t200 _ A11.out).mono ?_
              rintro e w23 ⟨rfl, hb⟩
              have HS6_ := pw_cell_below hb hHeld.2.2.2.2.2.2.1
              have HS7_ := pw_cell_below hb hHeld.2.2.2.2.2.2.2.1
              have HS8_ := pw_cell_below hb hHeld.2.2.2.2.2.2.2.2.1
              have HS9_ := pw_cell_below hb hHeld.2.2.2.2.2.2.2.2.2.1
              have HS10_ := pw_cell_below hb hHeld.2.2.2.2.2.2.2.2.2.2.1
              have HS11_ := pw_cell_below hb hHeld.2.2.2.2.2.2.2.2.2.2.2.1
              have HS18_ := pw_cell_below hb hHeld.2.2.2.2.2.2.2.2.2.2.2.2.2.2.2.2.2.2.1
              have HS19_ := pw_cell_below hb hHeld.2.2.2.2.2.2.2.2.2.2.2.2.2.2.2.2.2.2.2.1
              have HS20_ := pw_cell_below hb hHeld.2.2.2.2.2.2.2.2.2.2.2.2.2.2.2.2.2.2.2.2.1
              have HS21_ := pw_cell_below hb hHeld.2.2.2.2.2.2.2.2.2.2.2.2.2.2.2.2.2.2.2.2.2.1
              have HS22_ := pw_cell_below hb hHeld.2.2.2.2.2.2.2.2.2.2.2.2.2.2.2.2.2.2.2.2.2.2.1
              have HS23_ := pw_cell_below hb hHeld.2.2.2.2.2.2.2.2.2.2.2.2.2.2.2.2.2.2.2.2.2.2.2.1
              have HS30_ := pw_cell_below hb hHeld.2.2.2.2.2.2.2.2.2.2.2.2.2.2.2.2.2.2.2.2.2.2.2.2.2.2.2.2.2.2.1
              have HS31_ := pw_cell_below hb hHeld.2.2.2.2.2.2.2.2.2.2.2.2.2.2.2.2.2.2.2.2.2.2.2.2.2.2.2.2.2.2.2.1
              have HS32_ := pw_cell_below hb hHeld.2.2.2.2.2.2.2.2.2.2.2.2.2.2.2.2.2.2.2.2.2.2.2.2.2.2.2.2.2.2.2.2.1
              have HS33_ := pw_cell_below hb hHeld.2.2.2.2.2.2.2.2.2.2.2.2.2.2.2.2.2.2.2.2.2.2.2.2.2.2.2.2.2.2.2.2.2.1
              have HS34_ := pw_cell_below hb hHeld.2.2.2.2.2.2.2.2.2.2.2.2.2.2.2.2.2.2.2.2.2.2.2.2.2.2.2.2.2.2.2.2.2.2.1
              have HS35_ := pw_cell_below hb hHeld.2.2.2.2.2.2.2.2.2.2.2.2.2.2.2.2.2.2.2.2.2.2.2.2.2.2.2.2.2.2.2.2.2.2.2
              refine ⟨_, rfl, ?_⟩
              have n0_ := Aside0.mk (Kd.R_below (by (with_reducible repeat (first | apply Kd.R_alloc | apply Kd.R_drewN | apply Kd.R_drew)); exact HO_3.out) hb)
              have n1_ := Aside0.mk (below_step (by repeat (first | (with_reducible first | exact HB.out | apply below_alloc | apply pw_below_drewN | apply below_drew1) | exact HB.out)) hb)
              clear HO_3
              clear HB
              have HO_3 := n0_
              have HB := n1_
              clear n0_ n1_
              (try clear hb)
              (try clear hb2)
              (try clear hk)
              (try clear hi)
              refine hK.out _ _ ⟨(pw_cell_below HB.out hw197_0), (pw_cell_below HB.out hw197_1), (pw_cell_below HB.out hw197_2), (pw_cell_below HB.out hw197_3), (pw_cell_below HB.out hw197_4), (pw_cell_below HB.out hw197_5), HS6_, HS7_, HS8_, HS9_, HS10_, HS11_, (pw_cell_below HB.out hw201_0), (pw_cell_below HB.out hw201_1), (pw_cell_below HB.out hw201_2), (pw_cell_below HB.out hw201_3), (pw_cell_below HB.out hw201_4), (pw_cell_below HB.out hw201_5), HS18_, HS19_, HS20_, HS21_, HS22_, HS23_, (pw_cell_below HB.out hw205_0), (pw_cell_below HB.out hw205_1), (pw_cell_below HB.out hw205_2), (pw_cell_below HB.out hw205_3), (pw_cell_below HB.out hw205_4), (pw_cell_below HB.out hw205_5), HS30_, HS31_, HS32_, HS33_, HS34_, HS35_⟩ (fun hHeld => ?_)
              clear hK K
              refine norm_ (a' := ?_) ?_ ?_
              rotate_left
              ·show Act.put _ (some 30) _ = _
               simp only [Act.put, dq11_n, i64_w, i32_w]
               rfl
              refine pure_ (i := 16) (N := some 31) (v := ?_) (a' := ?_) dq11_17 rfl rfl (any_of HT_.out (by kernel_rfl)) (fun _ _ _ h => h) (Or.inl ⟨by rfl, ?_⟩) ?_ ?_
              rotate_left
              ·intro w'
               go_simp
               with_reducible rfl
              rotate_left
              ·simp only [Act.put, dq11_n, i64_w, i32_w]
               rfl
              refine pure_ (i := 17) (N := some 32) (v := ?_) (a' := ?_) dq11_18 rfl rfl (any_of HT_.out (by kernel_rfl)) (fun _ _ _ h => h) (Or.inl ⟨by rfl, ?_⟩) ?_ ?_
              rotate_left
              ·intro w'
               go_simp
               with_reducible rfl
              rotate_left
              ·simp only [Act.put, dq11_n, i64_w, i32_w]
               rfl
              refine pure_ (i := 18) (N := some 33) (v := ?_) (a' := ?_) dq11_19 rfl rfl (any_of HT_.out (by kernel_rfl)) (fun _ _ _ h => h) (Or.inl ⟨by rfl, ?_⟩) ?_ ?_
              rotate_left
              ·intro w'
               go_simp
               with_reducible rfl
              rotate_left
              ·simp only [Act.put, dq11_n, i64_w, i32_w]
               rfl
              refine pure_ (i := 19) (N := some 34) (v := ?_) (a' := ?_) dq11_20 rfl rfl (any_of HT_.out (by kernel_rfl)) (fun _ _ _ h => h) (Or.inl ⟨by rfl, ?_⟩) ?_ ?_
              rotate_left
              ·intro w'
               go_simp
               with_reducible rfl
              rotate_left
              ·simp only [Act.put, dq11_n, i64_w, i32_w]
               rfl
              refine pure_ (i := 20) (N := some 35) (v := ?_) (a' := ?_) dq11_21 rfl rfl (any_of HT_.out (by kernel_rfl)) (fun _ _ _ h => h) (Or.inl ⟨by rfl, ?_⟩) ?_ ?_
              rotate_left
              ·intro w'
               go_simp
               with_reducible rfl
              rotate_left
              ·simp only [Act.put, dq11_n, i64_w, i32_w]
               rfl
              refine pure_ (i := 21) (N := some 36) (v := ?_) (a' := ?_) dq11_22 rfl rfl (any_of HT_.out (by kernel_rfl)) (fun _ _ _ h => h) (Or.inl ⟨by rfl, ?_⟩) ?_ ?_
              rotate_left
              ·intro w'
               go_simp
               with_reducible rfl
              rotate_left
              ·simp only [Act.put, dq11_n, i64_w, i32_w]
               rfl
              refine pure_ (i := 24) (N := some 39) (v := ?_) (a' := ?_) dq11_49 rfl rfl (any_of HT_.out (by kernel_rfl)) (fun _ _ _ h => h) (Or.inl ⟨by rfl, ?_⟩) ?_ ?_
              rotate_left
              ·intro w'
               go_simp
               with_reducible rfl
              rotate_left
              ·simp only [Act.put, dq11_n, i64_w, i32_w]
               rfl
              refine pure_ (i := 25) (N := some 40) (v := ?_) (a' := ?_) dq11_50 rfl rfl (any_of HT_.out (by kernel_rfl)) (fun _ _ _ h => h) (Or.inl ⟨by rfl, ?_⟩) ?_ ?_
              rotate_left
              ·intro w'
               go_simp
               with_reducible rfl
              rotate_left
              ·simp only [Act.put, dq11_n, i64_w, i32_w]
               rfl
              refine pure_ (i := 26) (N := some 41) (v := ?_) (a' := ?_) dq11_51 rfl rfl (any_of HT_.out (by kernel_rfl)) (fun _ _ _ h => h) (Or.inl ⟨by rfl, ?_⟩) ?_ ?_
              rotate_left
              ·intro w'
               go_simp
               with_reducible rfl
              rotate_left
              ·simp only [Act.put, dq11_n, i64_w, i32_w]
               rfl
              refine pure_ (i := 27) (N := some 42) (v := ?_) (a' := ?_) dq11_52 rfl rfl (any_of HT_.out (by kernel_rfl)) (fun _ _ _ h => h) (Or.inl ⟨by rfl, ?_⟩) ?_ ?_
              rotate_left
              ·intro w'
               go_simp
               with_reducible rfl
              rotate_left
              ·simp only [Act.put, dq11_n, i64_w, i32_w]
               rfl
              refine pure_ (i := 28) (N := some 43) (v := ?_) (a' := ?_) dq11_53 rfl rfl (any_of HT_.out (by kernel_rfl)) (fun _ _ _ h => h) (Or.inl ⟨by rfl, ?_⟩) ?_ ?_
              rotate_left
              ·intro w'
               go_simp
               with_reducible rfl
              rotate_left
              ·simp only [Act.put, dq11_n, i64_w, i32_w]
               rfl
              refine take_ (i := 22) (N := some 37) (v := ?_) (a' := ?_) dq11_54 rfl rfl (take_ofW HT_.out HW_.out (by kernel_rfl)) (fun _ _ _ h => h) (Or.inl ⟨by rfl, ?_⟩) hHeld ?_ ?_
              rotate_left
              ·rintro w' ⟨s0, s1, s2, s3, s4, s5, s6, s7, s8, s9, s10, s11, s12, s13, s14, s15, s16, s17, s18, s19, s20, s21, s22, s23, s24, s25, s26, s27, s28, s29, s30, s31, s32, s33, s34, s35⟩
               go_simp
               with_reducible rfl
              rotate_left
              ·simp only [Act.put, dq11_n, i64_w, i32_w]
               rfl
              refine take_ (i := 29) (N := some 44) (v := ?_) (a' := ?_) dq11_55 rfl rfl (take_ofW HT_.out HW_.out (by kernel_rfl)) (fun _ _ _ h => h) (Or.inl ⟨by rfl, ?_⟩) hHeld ?_ ?_
              rotate_left
              ·rintro w' ⟨s0, s1, s2, s3, s4, s5, s6, s7, s8, s9, s10, s11, s12, s13, s14, s15, s16, s17, s18, s19, s20, s21, s22, s23, s24, s25, s26, s27, s28, s29, s30, s31, s32, s33, s34, s35⟩
               go_simp
               with_reducible rfl
              rotate_left
              ·simp only [Act.put, dq11_n, i64_w, i32_w]
               rfl
              refine one_ (i := 23) (N := some 38) dq11_30 rfl rfl (one_of HT_.out (by kernel_rfl)) (by decide) (fun K hK => ?_)
              refine goes_ Try.func40 (by kernel_rfl) rfl #[.agg #[.int .i64 ((rd_T51 l0 x4_1).f1.f0), .int .i64 ((rd_T51 l0 x4_1).f1.f1), .int .i64 ((rd_T51 l0 x4_1).f1.f2), .int .i64 ((rd_T51 l0 x4_1).f1.f3)]] (by rfl) rfl rfl (by (try simp only [List.map_toArray, List.map_cons, List.map_nil]); first | done | rfl | (simp only [List.length_drop, List.length_take]; rfl)) ?_
              with_reducible refine (mapmakerref34_Key.calls k2 ((rd_T51 l0 x4_1).f1.f0) ((rd_T51 l0 x4_1).f1.f1) ((rd_T51 l0 x4_1).f1.f2) ((rd_T51 l0 x4_1).f1.f3) t202 _ A16.out).mono ?_
              rintro e w24 ⟨rfl, hb⟩
              have HS6_ := pw_cell_below hb hHeld.2.2.2.2.2.2.1
              have HS7_ := pw_cell_below hb hHeld.2.2.2.2.2.2.2.1
              have HS8_ := pw_cell_below hb hHeld.2.2.2.2.2.2.2.2.1
              have HS9_ := pw_cell_below hb hHeld.2.2.2.2.2.2.2.2.2.1
              have HS10_ := pw_cell_below hb hHeld.2.2.2.2.2.2.2.2.2.2.1
              have HS11_ := pw_cell_below hb hHeld.2.2.2.2.2.2.2.2.2.2.2.1
              have HS18_ := pw_cell_below hb hHeld.2.2.2.2.2.2.2.2.2.2.2.2.2.2.2.2.2.2.1
              have HS19_ := pw_cell_below hb hHeld.2.2.2.2.2.2.2.2.2.2.2.2.2.2.2.2.2.2.2.1
              have HS20_ := pw_cell_below hb hHeld.2.2.2.2.2.2.2.2.2.2.2.2.2.2.2.2.2.2.2.2.1
              have HS21_ := pw_cell_below hb hHeld.2.2.2.2.2.2.2.2.2.2.2.2.2.2.2.2.2.2.2.2.2.1
              have HS22_ := pw_cell_below hb hHeld.2.2.2.2.2.2.2.2.2.2.2.2.2.2.2.2.2.2.2.2.2.2.1
              have HS23_ := pw_cell_below hb hHeld.2.2.2.2.2.2.2.2.2.2.2.2.2.2.2.2.2.2.2.2.2.2.2.1
              have HS30_ := pw_cell_below hb hHeld.2.2.2.2.2.2.2.2.2.2.2.2.2.2.2.2.2.2.2.2.2.2.2.2.2.2.2.2.2.2.1
              have HS31_ := pw_cell_below hb hHeld.2.2.2.2.2.2.2.2.2.2.2.2.2.2.2.2.2.2.2.2.2.2.2.2.2.2.2.2.2.2.2.1
              have HS32_ := pw_cell_below hb hHeld.2.2.2.2.2.2.2.2.2.2.2.2.2.2.2.2.2.2.2.2.2.2.2.2.2.2.2.2.2.2.2.2.1
              have HS33_ := pw_cell_below hb hHeld.2.2.2.2.2.2.2.2.2.2.2.2.2.2.2.2.2.2.2.2.2.2.2.2.2.2.2.2.2.2.2.2.2.1
              have HS34_ := pw_cell_below hb hHeld.2.2.2.2.2.2.2.2.2.2.2.2.2.2.2.2.2.2.2.2.2.2.2.2.2.2.2.2.2.2.2.2.2.2.1
              have HS35_ := pw_cell_below hb hHeld.2.2.2.2.2.2.2.2.2.2.2.2.2.2.2.2.2.2.2.2.2.2.2.2.2.2.2.2.2.2.2.2.2.2.2
              refine ⟨_, rfl, ?_⟩
              have n0_ := Aside0.mk (Kd.R_below (by (with_reducible repeat (first | apply Kd.R_alloc | apply Kd.R_drewN | apply Kd.R_drew)); exact HO_3.out) hb)
              have n1_ := Aside0.mk (below_step (by repeat (first | (with_reducible first | exact HB.out | apply below_alloc | apply pw_below_drewN | apply below_drew1) | exact HB.out)) hb)
              clear HO_3
              clear HB
              have HO_3 := n0_
              have HB := n1_
              clear n0_ n1_
              (try clear hb)
              (try clear hb2)
              (try clear hk)
              (try clear hi)
              refine hK.out _ _ ⟨(pw_cell_below HB.out hw197_0), (pw_cell_below HB.out hw197_1), (pw_cell_below HB.out hw197_2), (pw_cell_below HB.out hw197_3), (pw_cell_below HB.out hw197_4), (pw_cell_below HB.out hw197_5), HS6_, HS7_, HS8_, HS9_, HS10_, HS11_, (pw_cell_below HB.out hw201_0), (pw_cell_below HB.out hw201_1), (pw_cell_below HB.out hw201_2), (pw_cell_below HB.out hw201_3), (pw_cell_below HB.out hw201_4), (pw_cell_below HB.out hw201_5), HS18_, HS19_, HS20_, HS21_, HS22_, HS23_, (pw_cell_below HB.out hw205_0), (pw_cell_below HB.out hw205_1), (pw_cell_below HB.out hw205_2), (pw_cell_below HB.out hw205_3), (pw_cell_below HB.out hw205_4), (pw_cell_below HB.out hw205_5), HS30_, HS31_, HS32_, HS33_, HS34_, HS35_⟩ (fun hHeld => ?_)
              clear hK K
              refine norm_ (a' := ?_) ?_ ?_
              rotate_left
              ·show Act.put _ (some 38) _ = _
               simp only [Act.put, dq11_n, i64_w, i32_w]
               rfl
              refine one_ (i := 30) (N := some 45) dq11_31 rfl rfl (one_of HT_.out (by kernel_rfl)) (by decide) (fun K hK => ?_)
              refine goes_ Try.func40 (by kernel_rfl) rfl #[.agg #[.int .i64 ((rd_T51 x3_1 (ji8)).f1.f0), .int .i64 ((rd_T51 x3_1 (ji8)).f1.f1), .int .i64 ((rd_T51 x3_1 (ji8)).f1.f2), .int .i64 ((rd_T51 x3_1 (ji8)).f1.f3)]] (by rfl) rfl rfl (by (try simp only [List.map_toArray, List.map_cons, List.map_nil]); first | done | (simp only [hji8]; rfl) | rfl | (simp only [List.length_drop, List.length_take]; rfl)) ?_
              with_reducible refine (mapmakerref34_Key.calls k2 ((rd_T51 x3_1 (ji8)).f1.f0) ((rd_T51 x3_1 (ji8)).f1.f1) ((rd_T51 x3_1 (ji8)).f1.f2) ((rd_T51 x3_1 (ji8)).f1.f3) t204 _ A17.out).mono ?_
              rintro e w25 ⟨rfl, hb⟩
              have HS6_ := pw_cell_below hb hHeld.2.2.2.2.2.2.1
              have HS7_ := pw_cell_below hb hHeld.2.2.2.2.2.2.2.1
              have HS8_ := pw_cell_below hb hHeld.2.2.2.2.2.2.2.2.1
              have HS9_ := pw_cell_below hb hHeld.2.2.2.2.2.2.2.2.2.1
              have HS10_ := pw_cell_below hb hHeld.2.2.2.2.2.2.2.2.2.2.1
              have HS11_ := pw_cell_below hb hHeld.2.2.2.2.2.2.2.2.2.2.2.1
              have HS18_ := pw_cell_below hb hHeld.2.2.2.2.2.2.2.2.2.2.2.2.2.2.2.2.2.2.1
              have HS19_ := pw_cell_below hb hHeld.2.2.2.2.2.2.2.2.2.2.2.2.2.2.2.2.2.2.2.1
              have HS20_ := pw_cell_below hb hHeld.2.2.2.2.2.2.2.2.2.2.2.2.2.2.2.2.2.2.2.2.1
              have HS21_ := pw_cell_below hb hHeld.2.2.2.2.2.2.2.2.2.2.2.2.2.2.2.2.2.2.2.2.2.1
              have HS22_ := pw_cell_below hb hHeld.2.2.2.2.2.2.2.2.2.2.2.2.2.2.2.2.2.2.2.2.2.2.1
              have HS23_ := pw_cell_below hb hHeld.2.2.2.2.2.2.2.2.2.2.2.2.2.2.2.2.2.2.2.2.2.2.2.1
              have HS30_ := pw_cell_below hb hHeld.2.2.2.2.2.2.2.2.2.2.2.2.2.2.2.2.2.2.2.2.2.2.2.2.2.2.2.2.2.2.1
              have HS31_ := pw_cell_below hb hHeld.2.2.2.2.2.2.2.2.2.2.2.2.2.2.2.2.2.2.2.2.2.2.2.2.2.2.2.2.2.2.2.1
              have HS32_ := pw_cell_below hb hHeld.2.2.2.2.2.2.2.2.2.2.2.2.2.2.2.2.2.2.2.2.2.2.2.2.2.2.2.2.2.2.2.2.1
              have HS33_ := pw_cell_below hb hHeld.2.2.2.2.2.2.2.2.2.2.2.2.2.2.2.2.2.2.2.2.2.2.2.2.2.2.2.2.2.2.2.2.2.1
              have HS34_ := pw_cell_below hb hHeld.2.2.2.2.2.2.2.2.2.2.2.2.2.2.2.2.2.2.2.2.2.2.2.2.2.2.2.2.2.2.2.2.2.2.1
              have HS35_ := pw_cell_below hb hHeld.2.2.2.2.2.2.2.2.2.2.2.2.2.2.2.2.2.2.2.2.2.2.2.2.2.2.2.2.2.2.2.2.2.2.2
              refine ⟨_, rfl, ?_⟩
              have n0_ := Aside0.mk (Kd.R_below (by (with_reducible repeat (first | apply Kd.R_alloc | apply Kd.R_drewN | apply Kd.R_drew)); exact HO_3.out) hb)
              have n1_ := Aside0.mk (below_step (by repeat (first | (with_reducible first | exact HB.out | apply below_alloc | apply pw_below_drewN | apply below_drew1) | exact HB.out)) hb)
              clear HO_3
              clear HB
              have HO_3 := n0_
              have HB := n1_
              clear n0_ n1_
              (try clear hb)
              (try clear hb2)
              (try clear hk)
              (try clear hi)
              refine hK.out _ _ ⟨(pw_cell_below HB.out hw197_0), (pw_cell_below HB.out hw197_1), (pw_cell_below HB.out hw197_2), (pw_cell_below HB.out hw197_3), (pw_cell_below HB.out hw197_4), (pw_cell_below HB.out hw197_5), HS6_, HS7_, HS8_, HS9_, HS10_, HS11_, (pw_cell_below HB.out hw201_0), (pw_cell_below HB.out hw201_1), (pw_cell_below HB.out hw201_2), (pw_cell_below HB.out hw201_3), (pw_cell_below HB.out hw201_4), (pw_cell_below HB.out hw201_5), HS18_, HS19_, HS20_, HS21_, HS22_, HS23_, (pw_cell_below HB.out hw205_0), (pw_cell_below HB.out hw205_1), (pw_cell_below HB.out hw205_2), (pw_cell_below HB.out hw205_3), (pw_cell_below HB.out hw205_4), (pw_cell_below HB.out hw205_5), HS30_, HS31_, HS32_, HS33_, HS34_, HS35_⟩ (fun hHeld => ?_)
              clear hK K
              refine norm_ (a' := ?_) ?_ ?_
              rotate_left
              ·show Act.put _ (some 45) _ = _
               simp only [Act.put, dq11_n, i64_w, i32_w]
               rfl
              refine pure_ (i := 31) (N := some 46) (v := ?_) (a' := ?_) dq11_32 rfl rfl (any_of HT_.out (by kernel_rfl)) (fun _ _ _ h => h) (Or.inl ⟨by rfl, ?_⟩) ?_ ?_
              rotate_left
              ·intro w'
               go_simp
               with_reducible rfl
              rotate_left
              ·simp only [Act.put, dq11_n, i64_w, i32_w]
               rfl
              refine pure_ (i := 32) (N := some 47) (v := ?_) (a' := ?_) dq11_33 rfl rfl (any_of HT_.out (by kernel_rfl)) (fun _ _ _ h => h) (Or.inl ⟨by rfl, ?_⟩) ?_ ?_
              rotate_left
              ·intro w'
               go_simp
               with_reducible rfl
              rotate_left
              ·simp only [Act.put, dq11_n, i64_w, i32_w]
               rfl
              refine pure_ (i := 33) (N := some 48) (v := ?_) (a' := ?_) dq11_34 rfl rfl (any_of HT_.out (by kernel_rfl)) (fun _ _ _ h => h) (Or.inl ⟨by rfl, ?_⟩) ?_ ?_
              rotate_left
              ·intro w'
               go_simp
               with_reducible rfl
              rotate_left
              ·simp only [Act.put, dq11_n, i64_w, i32_w]
               rfl
              refine pure_ (i := 34) (N := some 49) (v := ?_) (a' := ?_) dq11_35 rfl rfl (any_of HT_.out (by kernel_rfl)) (fun _ _ _ h => h) (Or.inl ⟨by rfl, ?_⟩) ?_ ?_
              rotate_left
              ·intro w'
               go_simp
               with_reducible rfl
              rotate_left
              ·simp only [Act.put, dq11_n, i64_w, i32_w]
               rfl
              refine pure_ (i := 35) (N := some 50) (v := ?_) (a' := ?_) dq11_36 rfl rfl (any_of HT_.out (by kernel_rfl)) (fun _ _ _ h => h) (Or.inl ⟨by rfl, ?_⟩) ?_ ?_
              rotate_left
              ·intro w'
               go_simp
               with_reducible rfl
              rotate_left
              ·simp only [Act.put, dq11_n, i64_w, i32_w]
               rfl
              refine pure_ (i := 36) (N := some 51) (v := ?_) (a' := ?_) dq11_37 rfl rfl (any_of HT_.out (by kernel_rfl)) (fun _ _ _ h => h) (Or.inl ⟨by rfl, ?_⟩) ?_ ?_
              rotate_left
              ·intro w'
               go_simp
               with_reducible rfl
              rotate_left
              ·simp only [Act.put, dq11_n, i64_w, i32_w]
               rfl
              refine pure_ (i := 38) (N := some 53) (v := ?_) (a' := ?_) dq11_56 rfl rfl (any_of HT_.out (by kernel_rfl)) (fun _ _ _ h => h) (Or.inl ⟨by rfl, ?_⟩) ?_ ?_
              rotate_left
              ·intro w'
               go_simp
               with_reducible rfl
              rotate_left
              ·simp only [Act.put, dq11_n, i64_w, i32_w]
               rfl
              refine pure_ (i := 39) (N := some 54) (v := ?_) (a' := ?_) dq11_57 rfl rfl (any_of HT_.out (by kernel_rfl)) (fun _ _ _ h => h) (Or.inl ⟨by rfl, ?_⟩) ?_ ?_
              rotate_left
              ·intro w'
               go_simp
               with_reducible rfl
              rotate_left
              ·simp only [Act.put, dq11_n, i64_w, i32_w]
               rfl
              refine pure_ (i := 40) (N := some 55) (v := ?_) (a' := ?_) dq11_58 rfl rfl (any_of HT_.out (by kernel_rfl)) (fun _ _ _ h => h) (Or.inl ⟨by rfl, ?_⟩) ?_ ?_
              rotate_left
              ·intro w'
               go_simp
               with_reducible rfl
              rotate_left
              ·simp only [Act.put, dq11_n, i64_w, i32_w]
               rfl
              refine pure_ (i := 41) (N := some 56) (v := ?_) (a' := ?_) dq11_59 rfl rfl (any_of HT_.out (by kernel_rfl)) (fun _ _ _ h => h) (Or.inl ⟨by rfl, ?_⟩) ?_ ?_
              rotate_left
              ·intro w'
               go_simp
               with_reducible rfl
              rotate_left
              ·simp only [Act.put, dq11_n, i64_w, i32_w]
               rfl
              refine pure_ (i := 42) (N := some 57) (v := ?_) (a' := ?_) dq11_60 rfl rfl (any_of HT_.out (by kernel_rfl)) (fun _ _ _ h => h) (Or.inl ⟨by rfl, ?_⟩) ?_ ?_
              rotate_left
              ·intro w'
               go_simp
               with_reducible rfl
              rotate_left
              ·simp only [Act.put, dq11_n, i64_w, i32_w]
               rfl
              refine take_ (i := 37) (N := some 52) (v := ?_) (a' := ?_) dq11_43 rfl rfl (take_ofW HT_.out HW_.out (by kernel_rfl)) (fun _ _ _ h => h) (Or.inl ⟨by rfl, ?_⟩) hHeld ?_ ?_
              rotate_left
              ·rintro w' ⟨s0, s1, s2, s3, s4, s5, s6, s7, s8, s9, s10, s11, s12, s13, s14, s15, s16, s17, s18, s19, s20, s21, s22, s23, s24, s25, s26, s27, s28, s29, s30, s31, s32, s33, s34, s35⟩
               go_simp
               with_reducible rfl
              rotate_left
              ·simp only [Act.put, dq11_n, i64_w, i32_w]
               rfl
              refine take_ (i := 43) (N := some 58) (v := ?_) (a' := ?_) dq11_44 rfl rfl (take_ofW HT_.out HW_.out (by kernel_rfl)) (fun _ _ _ h => h) (Or.inl ⟨by rfl, ?_⟩) hHeld ?_ ?_
              rotate_left
              ·rintro w' ⟨s0, s1, s2, s3, s4, s5, s6, s7, s8, s9, s10, s11, s12, s13, s14, s15, s16, s17, s18, s19, s20, s21, s22, s23, s24, s25, s26, s27, s28, s29, s30, s31, s32, s33, s34, s35⟩
               go_simp
               with_reducible rfl
              rotate_left
              ·simp only [Act.put, dq11_n, i64_w, i32_w]
               rfl
              refine one_ (i := 44) (N := some 59) dq11_45 rfl rfl (one_of HT_.out (by kernel_rfl)) (by decide) (fun K hK => ?_)
              refine goes_ Try.func41 (by kernel_rfl) rfl #[.agg #[.int .i64 ((rd_T51 l0 x4_1).f0.f0), .int .i64 ((rd_T51 l0 x4_1).f0.f1)], .agg #[.int .i64 ((rd_T51 x3_1 (ji8)).f0.f0), .int .i64 ((rd_T51 x3_1 (ji8)).f0.f1)]] (by rfl) rfl rfl (by (try simp only [List.map_toArray, List.map_cons, List.map_nil]); first | done | (simp only [hji8]; rfl) | rfl | (simp only [List.length_drop, List.length_take]; rfl)) ?_
              with_reducible refine (mapmakerref14_Less.calls ((rd_T51 l0 x4_1).f0.f0) ((rd_T51 l0 x4_1).f0.f1) ((rd_T51 x3_1 (ji8)).f0.f0) ((rd_T51 x3_1 (ji8)).f0.f1) true _ A19.out).mono ?_
              rintro e w26 ⟨rfl, hb⟩
              have HS6_ := pw_cell_below hb hHeld.2.2.2.2.2.2.1
              have HS7_ := pw_cell_below hb hHeld.2.2.2.2.2.2.2.1
              have HS8_ := pw_cell_below hb hHeld.2.2.2.2.2.2.2.2.1
              have HS9_ := pw_cell_below hb hHeld.2.2.2.2.2.2.2.2.2.1
              have HS10_ := pw_cell_below hb hHeld.2.2.2.2.2.2.2.2.2.2.1
              have HS11_ := pw_cell_below hb hHeld.2.2.2.2.2.2.2.2.2.2.2.1
              have HS18_ := pw_cell_below hb hHeld.2.2.2.2.2.2.2.2.2.2.2.2.2.2.2.2.2.2.1
              have HS19_ := pw_cell_below hb hHeld.2.2.2.2.2.2.2.2.2.2.2.2.2.2.2.2.2.2.2.1
              have HS20_ := pw_cell_below hb hHeld.2.2.2.2.2.2.2.2.2.2.2.2.2.2.2.2.2.2.2.2.1
              have HS21_ := pw_cell_below hb hHeld.2.2.2.2.2.2.2.2.2.2.2.2.2.2.2.2.2.2.2.2.2.1
              have HS22_ := pw_cell_below hb hHeld.2.2.2.2.2.2.2.2.2.2.2.2.2.2.2.2.2.2.2.2.2.2.1
              have HS23_ := pw_cell_below hb hHeld.2.2.2.2.2.2.2.2.2.2.2.2.2.2.2.2.2.2.2.2.2.2.2.1
              have HS30_ := pw_cell_below hb hHeld.2.2.2.2.2.2.2.2.2.2.2.2.2.2.2.2.2.2.2.2.2.2.2.2.2.2.2.2.2.2.1
              have HS31_ := pw_cell_below hb hHeld.2.2.2.2.2.2.2.2.2.2.2.2.2.2.2.2.2.2.2.2.2.2.2.2.2.2.2.2.2.2.2.1
              have HS32_ := pw_cell_below hb hHeld.2.2.2.2.2.2.2.2.2.2.2.2.2.2.2.2.2.2.2.2.2.2.2.2.2.2.2.2.2.2.2.2.1
              have HS33_ := pw_cell_below hb hHeld.2.2.2.2.2.2.2.2.2.2.2.2.2.2.2.2.2.2.2.2.2.2.2.2.2.2.2.2.2.2.2.2.2.1
              have HS34_ := pw_cell_below hb hHeld.2.2.2.2.2.2.2.2.2.2.2.2.2.2.2.2.2.2.2.2.2.2.2.2.2.2.2.2.2.2.2.2.2.2.1
              have HS35_ := pw_cell_below hb hHeld.2.2.2.2.2.2.2.2.2.2.2.2.2.2.2.2.2.2.2.2.2.2.2.2.2.2.2.2.2.2.2.2.2.2.2
              refine ⟨_, rfl, ?_⟩
              have n0_ := Aside0.mk (Kd.R_below (by (with_reducible repeat (first | apply Kd.R_alloc | apply Kd.R_drewN | apply Kd.R_drew)); exact HO_3.out) hb)
              have n1_ := Aside0.mk (below_step (by repeat (first | (with_reducible first | exact HB.out | apply below_alloc | apply pw_below_drewN | apply below_drew1) | exact HB.out)) hb)
              clear HO_3
              clear HB
              have HO_3 := n0_
              have HB := n1_
              clear n0_ n1_
              (try clear hb)
              (try clear hb2)
              (try clear hk)
              (try clear hi)
              refine hK.out _ _ ⟨(pw_cell_below HB.out hw197_0), (pw_cell_below HB.out hw197_1), (pw_cell_below HB.out hw197_2), (pw_cell_below HB.out hw197_3), (pw_cell_below HB.out hw197_4), (pw_cell_below HB.out hw197_5), HS6_, HS7_, HS8_, HS9_, HS10_, HS11_, (pw_cell_below HB.out hw201_0), (pw_cell_below HB.out hw201_1), (pw_cell_below HB.out hw201_2), (pw_cell_below HB.out hw201_3), (pw_cell_below HB.out hw201_4), (pw_cell_below HB.out hw201_5), HS18_, HS19_, HS20_, HS21_, HS22_, HS23_, (pw_cell_below HB.out hw205_0), (pw_cell_below HB.out hw205_1), (pw_cell_below HB.out hw205_2), (pw_cell_below HB.out hw205_3), (pw_cell_below HB.out hw205_4), (pw_cell_below HB.out hw205_5), HS30_, HS31_, HS32_, HS33_, HS34_, HS35_⟩ (fun hHeld => ?_)
              clear hK K
              refine norm_ (a' := ?_) ?_ ?_
              rotate_left
              ·show Act.put _ (some 59) _ = _
               simp only [Act.put, dq11_n, i64_w, i32_w]
               rfl
              refine pure_ (i := 45) (N := some 60) (v := ?_) (a' := ?_) dq11_46 rfl rfl (any_of HT_.out (by kernel_rfl)) (fun _ _ _ h => h) (Or.inl ⟨by rfl, ?_⟩) ?_ ?_
              rotate_left
              ·intro w'
               go_simp
               with_reducible rfl
              rotate_left
              ·simp only [Act.put, dq11_n, i64_w, i32_w]
               rfl
              refine pure_ (i := 46) (N := some 61) (v := ?_) (a' := ?_) dq11_47 rfl rfl (any_of HT_.out (by kernel_rfl)) (fun _ _ _ h => h) (Or.inl ⟨by rfl, ?_⟩) ?_ ?_
              rotate_left
              ·intro w'
               go_simp
               with_reducible rfl
              rotate_left
              ·simp only [Act.put, dq11_n, i64_w, i32_w]
               rfl
              refine pure_ (i := 47) (N := some 62) (v := ?_) (a' := ?_) dq11_48 rfl rfl (any_of HT_.out (by kernel_rfl)) (fun _ _ _ h => h) (Or.inl ⟨by rfl, ?_⟩) ?_ ?_
              rotate_left
              ·intro w'
               go_simp
               with_reducible rfl
              rotate_left
              ·simp only [Act.put, dq11_n, i64_w, i32_w]
               rfl
              refine done_ (done_of HT_.out (by kernel_rfl)) ?_
              try go_wp2
              go_roundg k2
              case measure => have := HK1.out; have := HK2.out; omega
              case rel => exact ⟨(ji8), (by first | rfl | (simp; done) | (simp only [← hji8] <;> (first | rfl | simp)) | (simp [*]; done)), H', ⟨by have := HK1.out; have := HK2.out; omega⟩, ⟨by (with_reducible repeat (first | apply Kd.R_alloc | apply Kd.R_drewN | apply Kd.R_drew)); exact HO_3.out⟩, ⟨by repeat (first | (with_reducible first | exact HB.out | apply below_alloc | apply pw_below_drewN | apply below_drew1) | exact HB.out)⟩⟩
             ·replace c20 := Bool.eq_false_iff.mpr c20
              subst c20
              have H1 : (if 0 ≤ x5_2 then (if x5_2 ≤ (x3_1.length : Int) then ((some (x3_1.take (x5_2 : Int).toNat : List (S51))).bind fun y208 => (if ([] : List (S51)).length + y208.length < 2932031007402 then ((some (([] : List (S51)) ++ y208 : List (S51))).bind fun y212 => (if y212.length < 2932031007402 then ((some (y212 ++ [(⟨(⟨(rd_T51 l0 x4_1).f0.f0, (rd_T51 l0 x4_1).f0.f1⟩ : S49), (⟨(rd_T51 l0 x4_1).f1.f0, (rd_T51 l0 x4_1).f1.f1, (rd_T51 l0 x4_1).f1.f2, (rd_T51 l0 x4_1).f1.f3⟩ : S24)⟩ : S51)] : List (S51))).bind fun y216 => ((some (x3_1.drop (x5_2 : Int).toNat : List (S51))).bind fun y219 => (if y216.length + y219.length < 2932031007402 then (mapmakerref34_Items.l0 k2 l0 (y216 ++ y219) (wrap64 (x4_1 + 1))) else (none)))) else (none))) else (none))) else (none)) else (none)) = some r := by rw [if_neg (show ¬ (false = true) by decide)] at H; exact H
              clear H
              have H := H1
              clear H1
              by_cases c27 : 0 ≤ x5_2
              ·rw [if_pos c27] at H
               have c27b0 := eq_true c27
               have c27b1 : decide (0 ≤ x5_2) = true := decide_eq_true c27
               clear c27
               by_cases c28 : x5_2 ≤ (x3_1.length : Int)
               ·rw [if_pos c28] at H
                have c28b0 := eq_true c28
                have c28b1 : decide (x5_2 ≤ (x3_1.length : Int)) = true := decide_eq_true c28
                clear c28
                obtain ⟨y208, hy208⟩ : ∃ y_ : List (S51), y_ = (x3_1.take (x5_2 : Int).toNat) := ⟨_, rfl⟩
                replace H : (if ([] : List (S51)).length + y208.length < 2932031007402 then ((some (([] : List (S51)) ++ y208 : List (S51))).bind fun y212 => (if y212.length < 2932031007402 then ((some (y212 ++ [(⟨(⟨(rd_T51 l0 x4_1).f0.f0, (rd_T51 l0 x4_1).f0.f1⟩ : S49), (⟨(rd_T51 l0 x4_1).f1.f0, (rd_T51 l0 x4_1).f1.f1, (rd_T51 l0 x4_1).f1.f2, (rd_T51 l0 x4_1).f1.f3⟩ : S24)⟩ : S51)] : List (S51))).bind fun y216 => ((some (x3_1.drop (x5_2 : Int).toNat : List (S51))).bind fun y219 => (if y216.length + y219.length < 2932031007402 then (mapmakerref34_Items.l0 k2 l0 (y216 ++ y219) (wrap64 (x4_1 + 1))) else (none)))) else (none))) else (none)) = some r := by first | (rw [hy208]; with_reducible exact H) | (have H2_ := (Option.bind_some _ _).symm.trans H; rw [hy208]; with_reducible exact H2_) | (have H2_ := (Option.bind_some _ _).symm.trans H; with_reducible exact H2_) | with_reducible exact H | (rw [hy208]; exact H) | exact H
                have Ny208 := Aside0.mk hy208
                clear hy208
                by_cases c29 : ([] : List (S51)).length + y208.length < 2932031007402
                ·rw [if_pos c29] at H
                 have LMc29 := Aside0.mk c29
                 clear c29
                 obtain ⟨y212, hy212⟩ : ∃ y_ : List (S51), y_ = (([] : List (S51)) ++ y208) := ⟨_, rfl⟩
                 replace H : (if y212.length < 2932031007402 then ((some (y212 ++ [(⟨(⟨(rd_T51 l0 x4_1).f0.f0, (rd_T51 l0 x4_1).f0.f1⟩ : S49), (⟨(rd_T51 l0 x4_1).f1.f0, (rd_T51 l0 x4_1).f1.f1, (rd_T51 l0 x4_1).f1.f2, (rd_T51 l0 x4_1).f1.f3⟩ : S24)⟩ : S51)] : List (S51))).bind fun y216 => ((some (x3_1.drop (x5_2 : Int).toNat : List (S51))).bind fun y219 => (if y216.length + y219.length < 2932031007402 then (mapmakerref34_Items.l0 k2 l0 (y216 ++ y219) (wrap64 (x4_1 + 1))) else (none)))) else (none)) = some r := by first | (rw [hy212]; with_reducible exact H) | (have H2_ := (Option.bind_some _ _).symm.trans H; rw [hy212]; with_reducible exact H2_) | (have H2_ := (Option.bind_some _ _).symm.trans H; with_reducible exact H2_) | with_reducible exact H | (rw [hy212]; exact H) | exact H
                 have Ny212 := Aside0.mk hy212
                 clear hy212
                 by_cases c30 : y212.length < 2932031007402
                 ·rw [if_pos c30] at H
                  have LMc30 := Aside0.mk c30
                  clear c30
                  obtain ⟨y216, hy216⟩ : ∃ y_ : List (S51), y_ = (y212 ++ [(⟨(⟨(rd_T51 l0 x4_1).f0.f0, (rd_T51 l0 x4_1).f0.f1⟩ : S49), (⟨(rd_T51 l0 x4_1).f1.f0, (rd_T51 l0 x4_1).f1.f1, (rd_T51 l0 x4_1).f1.f2, (rd_T51 l0 x4_1).f1.f3⟩ : S24)⟩ : S51)]) := ⟨_, rfl⟩
                  replace H : ((some (x3_1.drop (x5_2 : Int).toNat : List (S51))).bind fun y219 => (if y216.length + y219.length < 2932031007402 then (mapmakerref34_Items.l0 k2 l0 (y216 ++ y219) (wrap64 (x4_1 + 1))) else (none))) = some r := by first | (rw [hy216]; with_reducible exact H) | (have H2_ := (Option.bind_some _ _).symm.trans H; rw [hy216]; with_reducible exact H2_) | (have H2_ := (Option.bind_some _ _).symm.trans H; with_reducible exact H2_) | with_reducible exact H | (rw [hy216]; exact H) | exact H
                  have Ny216 := Aside0.mk hy216
                  clear hy216
                  have c31b0 := eq_true (of_decide_eq_true (by first | (with_reducible assumption) | assumption) : 0 ≤ x5_2)
                  have c32b0 := eq_true (of_decide_eq_true (by first | (with_reducible assumption) | assumption) : x5_2 ≤ (x3_1.length : Int))
                  obtain ⟨y219, hy219⟩ : ∃ y_ : List (S51), y_ = (x3_1.drop (x5_2 : Int).toNat) := ⟨_, rfl⟩
                  replace H : (if y216.length + y219.length < 2932031007402 then (mapmakerref34_Items.l0 k2 l0 (y216 ++ y219) (wrap64 (x4_1 + 1))) else (none)) = some r := by first | (rw [hy219]; with_reducible exact H) | (have H2_ := (Option.bind_some _ _).symm.trans H; rw [hy219]; with_reducible exact H2_) | (have H2_ := (Option.bind_some _ _).symm.trans H; with_reducible exact H2_) | with_reducible exact H | (rw [hy219]; exact H) | exact H
                  have Ny219 := Aside0.mk hy219
                  clear hy219
                  by_cases c33 : y216.length + y219.length < 2932031007402
                  ·rw [if_pos c33] at H
                   have LMc33 := Aside0.mk c33
                   clear c33
                   obtain ⟨y223, hy223⟩ : ∃ y_ : List (S51), y_ = (y216 ++ y219) := ⟨_, rfl⟩
                   replace H : (mapmakerref34_Items.l0 k2 l0 y223 (wrap64 (x4_1 + 1))) = some r := by first | (rw [hy223]; with_reducible exact H) | (have H2_ := (Option.bind_some _ _).symm.trans H; rw [hy223]; with_reducible exact H2_) | (have H2_ := (Option.bind_some _ _).symm.trans H; with_reducible exact H2_) | with_reducible exact H | (rw [hy223]; exact H) | exact H
                   have Ny223 := Aside0.mk hy223
                   clear hy223
                   have H' := Aside0.mk H
                   clear H
                   try go_wp2
                   have n0_ := Aside0.mk (Kd.R_drew HO_3.out)
                   have n1_ := Aside0.mk (below_drew1 HB.out)
                   clear HO_3
                   clear HB
                   have HO_3 := n0_
                   have HB := n1_
                   clear n0_ n1_
                   have p197 : 0 ≤ (x4_1 : Int) := of_decide_eq_true (by first | (with_reducible assumption) | assumption)
                   have q197 : x4_1 < (l0.length : Int) := of_decide_eq_true (by first | (with_reducible assumption) | assumption)
                   obtain ⟨ad197, e197, hx197_0, hx197_1, hx197_2, hx197_3, hx197_4, hx197_5⟩ := at_T51 HR0.out x4_1 p197 q197
                   have hw197_5 := hx197_5
                   have hw197_4 := hx197_4
                   have hw197_3 := hx197_3
                   have hw197_2 := hx197_2
                   have hw197_1 := hx197_1
                   have hw197_0 := hx197_0
                   cases e197
                   replace hx197_0 := (HB.out.cell (World.block_lt_of_cell? w _ hx197_0)).trans hx197_0
                   replace hx197_1 := (HB.out.cell (World.block_lt_of_cell? w _ hx197_1)).trans hx197_1
                   replace hx197_2 := (HB.out.cell (World.block_lt_of_cell? w _ hx197_2)).trans hx197_2
                   replace hx197_3 := (HB.out.cell (World.block_lt_of_cell? w _ hx197_3)).trans hx197_3
                   replace hx197_4 := (HB.out.cell (World.block_lt_of_cell? w _ hx197_4)).trans hx197_4
                   replace hx197_5 := (HB.out.cell (World.block_lt_of_cell? w _ hx197_5)).trans hx197_5
                   replace p197 := eq_true p197
                   replace q197 := eq_true q197
                   have p199 : 0 ≤ ((ji8) : Int) := of_decide_eq_true (by first | (with_reducible assumption) | assumption)
                   have q199 : (ji8) < (x3_1.length : Int) := of_decide_eq_true (by first | (with_reducible assumption) | assumption)
                   obtain ⟨ad199, e199, hx199_0, hx199_1, hx199_2, hx199_3, hx199_4, hx199_5⟩ := at_T51 (Kd.R_reads' HO_3.out).2.2 (ji8) p199 q199
                   cases e199
                   replace p199 := eq_true p199
                   replace q199 := eq_true q199
                   have p201 : 0 ≤ (x4_1 : Int) := of_decide_eq_true (by first | (with_reducible assumption) | assumption)
                   have q201 : x4_1 < (l0.length : Int) := of_decide_eq_true (by first | (with_reducible assumption) | assumption)
                   obtain ⟨ad201, e201, hx201_0, hx201_1, hx201_2, hx201_3, hx201_4, hx201_5⟩ := at_T51 HR0.out x4_1 p201 q201
                   have hw201_5 := hx201_5
                   have hw201_4 := hx201_4
                   have hw201_3 := hx201_3
                   have hw201_2 := hx201_2
                   have hw201_1 := hx201_1
                   have hw201_0 := hx201_0
                   obtain rfl : ad197 = ad201 := (by injection e201)
                   replace hx201_0 := (HB.out.cell (World.block_lt_of_cell? w _ hx201_0)).trans hx201_0
                   replace hx201_1 := (HB.out.cell (World.block_lt_of_cell? w _ hx201_1)).trans hx201_1
                   replace hx201_2 := (HB.out.cell (World.block_lt_of_cell? w _ hx201_2)).trans hx201_2
                   replace hx201_3 := (HB.out.cell (World.block_lt_of_cell? w _ hx201_3)).trans hx201_3
                   replace hx201_4 := (HB.out.cell (World.block_lt_of_cell? w _ hx201_4)).trans hx201_4
                   replace hx201_5 := (HB.out.cell (World.block_lt_of_cell? w _ hx201_5)).trans hx201_5
                   replace p201 := eq_true p201
                   replace q201 := eq_true q201
                   have p203 : 0 ≤ ((ji8) : Int) := of_decide_eq_true (by first | (with_reducible assumption) | assumption)
                   have q203 : (ji8) < (x3_1.length : Int) := of_decide_eq_true (by first | (with_reducible assumption) | assumption)
                   obtain ⟨ad203, e203, hx203_0, hx203_1, hx203_2, hx203_3, hx203_4, hx203_5⟩ := at_T51 (Kd.R_reads' HO_3.out).2.2 (ji8) p203 q203
                   obtain rfl : ad199 = ad203 := (by injection e203)
                   replace p203 := eq_true p203
                   replace q203 := eq_true q203
                   have p205 : 0 ≤ (x4_1 : Int) := of_decide_eq_true (by first | (with_reducible assumption) | assumption)
                   have q205 : x4_1 < (l0.length : Int) := of_decide_eq_true (by first | (with_reducible assumption) | assumption)
                   obtain ⟨ad205, e205, hx205_0, hx205_1, hx205_2, hx205_3, hx205_4, hx205_5⟩ := at_T51 HR0.out x4_1 p205 q205
                   have hw205_5 := hx205_5
                   have hw205_4 := hx205_4
                   have hw205_3 := hx205_3
                   have hw205_2 := hx205_2
                   have hw205_1 := hx205_1
                   have hw205_0 := hx205_0
                   obtain rfl : ad197 = ad205 := (by injection e205)
                   replace hx205_0 := (HB.out.cell (World.block_lt_of_cell? w _ hx205_0)).trans hx205_0
                   replace hx205_1 := (HB.out.cell (World.block_lt_of_cell? w _ hx205_1)).trans hx205_1
                   replace hx205_2 := (HB.out.cell (World.block_lt_of_cell? w _ hx205_2)).trans hx205_2
                   replace hx205_3 := (HB.out.cell (World.block_lt_of_cell? w _ hx205_3)).trans hx205_3
                   replace hx205_4 := (HB.out.cell (World.block_lt_of_cell? w _ hx205_4)).trans hx205_4
                   replace hx205_5 := (HB.out.cell (World.block_lt_of_cell? w _ hx205_5)).trans hx205_5
                   replace p205 := eq_true p205
                   replace q205 := eq_true q205
                   have p206 : 0 ≤ ((ji8) : Int) := of_decide_eq_true (by first | (with_reducible assumption) | assumption)
                   have q206 : (ji8) < (x3_1.length : Int) := of_decide_eq_true (by first | (with_reducible assumption) | assumption)
                   obtain ⟨ad206, e206, hx206_0, hx206_1, hx206_2, hx206_3, hx206_4, hx206_5⟩ := at_T51 (Kd.R_reads' HO_3.out).2.2 (ji8) p206 q206
                   obtain rfl : ad199 = ad206 := (by injection e206)
                   replace p206 := eq_true p206
                   replace q206 := eq_true q206
                   refine start_ (n := 48) (S := fun w' => w'.cell? (ad197.add ((x4_1).toNat * 6)) = some (.int .i64 ((rd_T51 l0 x4_1).f0.f0)) ∧ w'.cell? ⟨(ad197.add ((x4_1).toNat * 6)).block, (ad197.add ((x4_1).toNat * 6)).off + 1, none⟩ = some (.int .i64 ((rd_T51 l0 x4_1).f0.f1)) ∧ w'.cell? ⟨(ad197.add ((x4_1).toNat * 6)).block, (ad197.add ((x4_1).toNat * 6)).off + 2, none⟩ = some (.int .i64 ((rd_T51 l0 x4_1).f1.f0)) ∧ w'.cell? ⟨(ad197.add ((x4_1).toNat * 6)).block, (ad197.add ((x4_1).toNat * 6)).off + 3, none⟩ = some (.int .i64 ((rd_T51 l0 x4_1).f1.f1)) ∧ w'.cell? ⟨(ad197.add ((x4_1).toNat * 6)).block, (ad197.add ((x4_1).toNat * 6)).off + 4, none⟩ = some (.int .i64 ((rd_T51 l0 x4_1).f1.f2)) ∧ w'.cell? ⟨(ad197.add ((x4_1).toNat * 6)).block, (ad197.add ((x4_1).toNat * 6)).off + 5, none⟩ = some (.int .i64 ((rd_T51 l0 x4_1).f1.f3)) ∧ w'.cell? (ad199.add (((ji8)).toNat * 6)) = some (.int .i64 ((rd_T51 x3_1 (ji8)).f0.f0)) ∧ w'.cell? ⟨(ad199.add (((ji8)).toNat * 6)).block, (ad199.add (((ji8)).toNat * 6)).off + 1, none⟩ = some (.int .i64 ((rd_T51 x3_1 (ji8)).f0.f1)) ∧ w'.cell? ⟨(ad199.add (((ji8)).toNat * 6)).block, (ad199.add (((ji8)).toNat * 6)).off + 2, none⟩ = some (.int .i64 ((rd_T51 x3_1 (ji8)).f1.f0)) ∧ w'.cell? ⟨(ad199.add (((ji8)).toNat * 6)).block, (ad199.add (((ji8)).toNat * 6)).off + 3, none⟩ = some (.int .i64 ((rd_T51 x3_1 (ji8)).f1.f1)) ∧ w'.cell? ⟨(ad199.add (((ji8)).toNat * 6)).block, (ad199.add (((ji8)).toNat * 6)).off + 4, none⟩ = some (.int .i64 ((rd_T51 x3_1 (ji8)).f1.f2)) ∧ w'.cell? ⟨(ad199.add (((ji8)).toNat * 6)).block, (ad199.add (((ji8)).toNat * 6)).off + 5, none⟩ = some (.int .i64 ((rd_T51 x3_1 (ji8)).f1.f3)) ∧ w'.cell? (ad197.add ((x4_1).toNat * 6)) = some (.int .i64 ((rd_T51 l0 x4_1).f0.f0)) ∧ w'.cell? ⟨(ad197.add ((x4_1).toNat * 6)).block, (ad197.add ((x4_1).toNat * 6)).off + 1, none⟩ = some (.int .i64 ((rd_T51 l0 x4_1).f0.f1)) ∧ w'.cell? ⟨(ad197.add ((x4_1).toNat * 6)).block, (ad197.add ((x4_1).toNat * 6)).off + 2, none⟩ = some (.int .i64 ((rd_T51 l0 x4_1).f1.f0)) ∧ w'.cell? ⟨(ad197.add ((x4_1).toNat * 6)).block, (ad197.add ((x4_1).toNat * 6)).off + 3, none⟩ = some (.int .i64 ((rd_T51 l0 x4_1).f1.f1)) ∧ w'.cell? ⟨(ad197.add ((x4_1).toNat * 6)).block, (ad197.add ((x4_1).toNat * 6)).off + 4, none⟩ = some (.int .i64 ((rd_T51 l0 x4_1).f1.f2)) ∧ w'.cell? ⟨(ad197.add ((x4_1).toNat * 6)).block, (ad197.add ((x4_1).toNat * 6)).off + 5, none⟩ = some (.int .i64 ((rd_T51 l0 x4_1).f1.f3)) ∧ w'.cell? (ad199.add (((ji8)).toNat * 6)) = some (.int .i64 ((rd_T51 x3_1 (ji8)).f0.f0)) ∧ w'.cell? ⟨(ad199.add (((ji8)).toNat * 6)).block, (ad199.add (((ji8)).toNat * 6)).off + 1, none⟩ = some (.int .i64 ((rd_T51 x3_1 (ji8)).f0.f1)) ∧ w'.cell? ⟨(ad199.add (((ji8)).toNat * 6)).block, (ad199.add (((ji8)).toNat * 6)).off + 2, none⟩ = some (.int .i64 ((rd_T51 x3_1 (ji8)).f1.f0)) ∧ w'.cell? ⟨(ad199.add (((ji8)).toNat * 6)).block, (ad199.add (((ji8)).toNat * 6)).off + 3, none⟩ = some (.int .i64 ((rd_T51 x3_1 (ji8)).f1.f1)) ∧ w'.cell? ⟨(ad199.add (((ji8)).toNat * 6)).block, (ad199.add (((ji8)).toNat * 6)).off + 4, none⟩ = some (.int .i64 ((rd_T51 x3_1 (ji8)).f1.f2)) ∧ w'.cell? ⟨(ad199.add (((ji8)).toNat * 6)).block, (ad199.add (((ji8)).toNat * 6)).off + 5, none⟩ = some (.int .i64 ((rd_T51 x3_1 (ji8)).f1.f3)) ∧ w'.cell? (ad197.add ((x4_1).toNat * 6)) = some (.int .i64 ((rd_T51 l0 x4_1).f0.f0)) ∧ w'.cell? ⟨(ad197.add ((x4_1).toNat * 6)).block, (ad197.add ((x4_1).toNat * 6)).off + 1, none⟩ = some (.int .i64 ((rd_T51 l0 x4_1).f0.f1)) ∧ w'.cell? ⟨(ad197.add ((x4_1).toNat * 6)).block, (ad197.add ((x4_1).toNat * 6)).off + 2, none⟩ = some (.int .i64 ((rd_T51 l0 x4_1).f1.f0)) ∧ w'.cell? ⟨(ad197.add ((x4_1).toNat * 6)).block, (ad197.add ((x4_1).toNat * 6)).off + 3, none⟩ = some (.int .i64 ((rd_T51 l0 x4_1).f1.f1)) ∧ w'.cell? ⟨(ad197.add ((x4_1).toNat * 6)).block, (ad197.add ((x4_1).toNat * 6)).off + 4, none⟩ = some (.int .i64 ((rd_T51 l0 x4_1).f1.f2)) ∧ w'.cell? ⟨(ad197.add ((x4_1).toNat * 6)).block, (ad197.add ((x4_1).toNat * 6)).off + 5, none⟩ = some (.int .i64 ((rd_T51 l0 x4_1).f1.f3)) ∧ w'.cell? (ad199.add (((ji8)).toNat * 6)) = some (.int .i64 ((rd_T51 x3_1 (ji8)).f0.f0)) ∧ w'.cell? ⟨(ad199.add (((ji8)).toNat * 6)).block, (ad199.add (((ji8)).toNat * 6)).off + 1, none⟩ = some (.int .i64 ((rd_T51 x3_1 (ji8)).f0.f1)) ∧ w'.cell? ⟨(ad199.add (((ji8)).toNat * 6)).block, (ad199.add (((ji8)).toNat * 6)).off + 2, none⟩ = some (.int .i64 ((rd_T51 x3_1 (ji8)).f1.f0)) ∧ w'.cell? ⟨(ad199.add (((ji8)).toNat * 6)).block, (ad199.add (((ji8)).toNat * 6)).off + 3, none⟩ = some (.int .i64 ((rd_T51 x3_1 (ji8)).f1.f1)) ∧ w'.cell? ⟨(ad199.add (((ji8)).toNat * 6)).block, (ad199.add (((ji8)).toNat * 6)).off + 4, none⟩ = some (.int .i64 ((rd_T51 x3_1 (ji8)).f1.f2)) ∧ w'.cell? ⟨(ad199.add (((ji8)).toNat * 6)).block, (ad199.add (((ji8)).toNat * 6)).off + 5, none⟩ = some (.int .i64 ((rd_T51 x3_1 (ji8)).f1.f3))) (ds := []) dq11_0 (by kernel_rfl) rfl rfl ⟨(pw_cell_below HB.out hw197_0), (pw_cell_below HB.out hw197_1), (pw_cell_below HB.out hw197_2), (pw_cell_below HB.out hw197_3), (pw_cell_below HB.out hw197_4), (pw_cell_below HB.out hw197_5), hx199_0, hx199_1, hx199_2, hx199_3, hx199_4, hx199_5, (pw_cell_below HB.out hw201_0), (pw_cell_below HB.out hw201_1), (pw_cell_below HB.out hw201_2), (pw_cell_below HB.out hw201_3), (pw_cell_below HB.out hw201_4), (pw_cell_below HB.out hw201_5), hx203_0, hx203_1, hx203_2, hx203_3, hx203_4, hx203_5, (pw_cell_below HB.out hw205_0), (pw_cell_below HB.out hw205_1), (pw_cell_below HB.out hw205_2), (pw_cell_below HB.out hw205_3), (pw_cell_below HB.out hw205_4), (pw_cell_below HB.out hw205_5), hx206_0, hx206_1, hx206_2, hx206_3, hx206_4, hx206_5⟩ (fun hHeld => ?_); refine with_tabW mapmakerref34_Items.tab6 mapmakerref34_Items.bits6 (fun HT_ HW_ => ?_)
                   generalize wr.drew = w34 at HO_3 HB hx197_0 hx197_1 hx197_2 hx197_3 hx197_4 hx197_5 hx199_0 hx199_1 hx199_2 hx199_3 hx199_4 hx199_5 hx201_0 hx201_1 hx201_2 hx201_3 hx201_4 hx201_5 hx203_0 hx203_1 hx203_2 hx203_3 hx203_4 hx203_5 hx205_0 hx205_1 hx205_2 hx205_3 hx205_4 hx205_5 hx206_0 hx206_1 hx206_2 hx206_3 hx206_4 hx206_5 hHeld ⊢
                   refine pure_ (i := 0) (N := some 15) (v := ?_) (a' := ?_) dq11_1 rfl rfl (any_of HT_.out (by kernel_rfl)) (fun _ _ _ h => h) (Or.inl ⟨by rfl, ?_⟩) ?_ ?_
                   rotate_left
                   ·intro w'
                    go_simp
                    with_reducible rfl
                   rotate_left
                   ·simp only [Act.put, dq11_n, i64_w, i32_w]
                    rfl
                   refine pure_ (i := 1) (N := some 16) (v := ?_) (a' := ?_) dq11_2 rfl rfl (any_of HT_.out (by kernel_rfl)) (fun _ _ _ h => h) (Or.inl ⟨by rfl, ?_⟩) ?_ ?_
                   rotate_left
                   ·intro w'
                    go_simp
                    with_reducible rfl
                   rotate_left
                   ·simp only [Act.put, dq11_n, i64_w, i32_w]
                    rfl
                   refine pure_ (i := 2) (N := some 17) (v := ?_) (a' := ?_) dq11_3 rfl rfl (any_of HT_.out (by kernel_rfl)) (fun _ _ _ h => h) (Or.inl ⟨by rfl, ?_⟩) ?_ ?_
                   rotate_left
                   ·intro w'
                    go_simp
                    with_reducible rfl
                   rotate_left
                   ·simp only [Act.put, dq11_n, i64_w, i32_w]
                    rfl
                   refine pure_ (i := 3) (N := some 18) (v := ?_) (a' := ?_) dq11_4 rfl rfl (any_of HT_.out (by kernel_rfl)) (fun _ _ _ h => h) (Or.inl ⟨by rfl, ?_⟩) ?_ ?_
                   rotate_left
                   ·intro w'
                    go_simp
                    with_reducible rfl
                   rotate_left
                   ·simp only [Act.put, dq11_n, i64_w, i32_w]
                    rfl
                   refine pure_ (i := 4) (N := some 19) (v := ?_) (a' := ?_) dq11_5 rfl rfl (any_of HT_.out (by kernel_rfl)) (fun _ _ _ h => h) (Or.inl ⟨by rfl, ?_⟩) ?_ ?_
                   rotate_left
                   ·intro w'
                    go_simp
                    with_reducible rfl
                   rotate_left
                   ·simp only [Act.put, dq11_n, i64_w, i32_w]
                    rfl
                   refine pure_ (i := 5) (N := some 20) (v := ?_) (a' := ?_) dq11_6 rfl rfl (any_of HT_.out (by kernel_rfl)) (fun _ _ _ h => h) (Or.inl ⟨by rfl, ?_⟩) ?_ ?_
                   rotate_left
                   ·intro w'
                    go_simp
                    with_reducible rfl
                   rotate_left
                   ·simp only [Act.put, dq11_n, i64_w, i32_w]
                    rfl
                   refine pure_ (i := 6) (N := some 21) (v := ?_) (a' := ?_) dq11_7 rfl rfl (any_of HT_.out (by kernel_rfl)) (fun _ _ _ h => h) (Or.inl ⟨by rfl, ?_⟩) ?_ ?_
                   rotate_left
                   ·intro w'
                    go_simp
                    with_reducible rfl
                   rotate_left
                   ·simp only [Act.put, dq11_n, i64_w, i32_w]
                    rfl
                   refine pure_ (i := 9) (N := some 24) (v := ?_) (a' := ?_) dq11_8 rfl rfl (any_of HT_.out (by kernel_rfl)) (fun _ _ _ h => h) (Or.inl ⟨by rfl, ?_⟩) ?_ ?_
                   rotate_left
                   ·intro w'
                    go_simp
                    with_reducible rfl
                   rotate_left
                   ·simp only [Act.put, dq11_n, i64_w, i32_w]
                    rfl
                   refine pure_ (i := 10) (N := some 25) (v := ?_) (a' := ?_) dq11_9 rfl rfl (any_of HT_.out (by kernel_rfl)) (fun _ _ _ h => h) (Or.inl ⟨by rfl, ?_⟩) ?_ ?_
                   rotate_left
                   ·intro w'
                    go_simp
                    with_reducible rfl
                   rotate_left
                   ·simp only [Act.put, dq11_n, i64_w, i32_w]
                    rfl
                   refine pure_ (i := 11) (N := some 26) (v := ?_) (a' := ?_) dq11_10 rfl rfl (any_of HT_.out (by kernel_rfl)) (fun _ _ _ h => h) (Or.inl ⟨by rfl, ?_⟩) ?_ ?_
                   rotate_left
                   ·intro w'
                    go_simp
                    with_reducible rfl
                   rotate_left
                   ·simp only [Act.put, dq11_n, i64_w, i32_w]
                    rfl
                   refine pure_ (i := 12) (N := some 27) (v := ?_) (a' := ?_) dq11_11 rfl rfl (any_of HT_.out (by kernel_rfl)) (fun _ _ _ h => h) (Or.inl ⟨by rfl, ?_⟩) ?_ ?_
                   rotate_left
                   ·intro w'
                    go_simp
                    with_reducible rfl
                   rotate_left
                   ·simp only [Act.put, dq11_n, i64_w, i32_w]
                    rfl
                   refine pure_ (i := 13) (N := some 28) (v := ?_) (a' := ?_) dq11_12 rfl rfl (any_of HT_.out (by kernel_rfl)) (fun _ _ _ h => h) (Or.inl ⟨by rfl, ?_⟩) ?_ ?_
                   rotate_left
                   ·intro w'
                    go_simp
                    with_reducible rfl
                   rotate_left
                   ·simp only [Act.put, dq11_n, i64_w, i32_w]
                    rfl
                   refine take_ (i := 7) (N := some 22) (v := ?_) (a' := ?_) dq11_13 rfl rfl (take_ofW HT_.out HW_.out (by kernel_rfl)) (fun _ _ _ h => h) (Or.inl ⟨by rfl, ?_⟩) hHeld ?_ ?_
                   rotate_left
                   ·rintro w' ⟨s0, s1, s2, s3, s4, s5, s6, s7, s8, s9, s10, s11, s12, s13, s14, s15, s16, s17, s18, s19, s20, s21, s22, s23, s24, s25, s26, s27, s28, s29, s30, s31, s32, s33, s34, s35⟩
                    go_simp
                    with_reducible rfl
                   rotate_left
                   ·simp only [Act.put, dq11_n, i64_w, i32_w]
                    rfl
                   refine take_ (i := 14) (N := some 29) (v := ?_) (a' := ?_) dq11_14 rfl rfl (take_ofW HT_.out HW_.out (by kernel_rfl)) (fun _ _ _ h => h) (Or.inl ⟨by rfl, ?_⟩) hHeld ?_ ?_
                   rotate_left
                   ·rintro w' ⟨s0, s1, s2, s3, s4, s5, s6, s7, s8, s9, s10, s11, s12, s13, s14, s15, s16, s17, s18, s19, s20, s21, s22, s23, s24, s25, s26, s27, s28, s29, s30, s31, s32, s33, s34, s35⟩
                    go_simp
                    with_reducible rfl
                   rotate_left
                   ·simp only [Act.put, dq11_n, i64_w, i32_w]
                    rfl
                   refine one_ (i := 8) (N := some 23) dq11_15 rfl rfl (one_of HT_.out (by kernel_rfl)) (by decide) (fun K hK => ?_)
                   refine goes_ Try.func40 (by kernel_rfl) rfl #[.agg #[.int .i64 ((rd_T51 l0 x4_1).f1.f0), .int .i64 ((rd_T51 l0 x4_1).f1.f1), .int .i64 ((rd_T51 l0 x4_1).f1.f2), .int .i64 ((rd_T51 l0 x4_1).f1.f3)]] (by rfl) rfl rfl (by (try simp only [List.map_toArray, List.map_cons, List.map_nil]); first | done | rfl | (simp only [List.length_drop, List.length_take]; rfl)) ?_
                   with_reducible refine (mapmakerref34_Key.calls k2 ((rd_T51 l0 x4_1).f1.f0) ((rd_T51 l0 x4_1).f1.f1) ((rd_T51 l0 x4_1).f1.f2) ((rd_T51 l0 x4_1).f1.f3) t198 _ A7.out).mono ?_
                   rintro e w35 ⟨rfl, hb⟩
                   have HS6_ := pw_cell_below hb hHeld.2.2.2.2.2.2.1
                   have HS7_ := pw_cell_below hb hHeld.2.2.2.2.2.2.2.1
                   have HS8_ := pw_cell_below hb hHeld.2.2.2.2.2.2.2.2.1
                   have HS9_ := pw_cell_below hb hHeld.2.2.2.2.2.2.2.2.2.1
                   have HS10_ := pw_cell_below hb hHeld.2.2.2.2.2.2.2.2.2.2.1
                   have HS11_ := pw_cell_below hb hHeld.2.2.2.2.2.2.2.2.2.2.2.1
                   have HS18_ := pw_cell_below hb hHeld.2.2.2.2.2.2.2.2.2.2.2.2.2.2.2.2.2.2.1
                   have HS19_ := pw_cell_below hb hHeld.2.2.2.2.2.2.2.2.2.2.2.2.2.2.2.2.2.2.2.1
                   have HS20_ := pw_cell_below hb hHeld.2.2.2.2.2.2.2.2.2.2.2.2.2.2.2.2.2.2.2.2.1
                   have HS21_ := pw_cell_below hb hHeld.2.2.2.2.2.2.2.2.2.2.2.2.2.2.2.2.2.2.2.2.2.1
                   have HS22_ := pw_cell_below hb hHeld.2.2.2.2.2.2.2.2.2.2.2.2.2.2.2.2.2.2.2.2.2.2.1
                   have HS23_ := pw_cell_below hb hHeld.2.2.2.2.2.2.2.2.2.2.2.2.2.2.2.2.2.2.2.2.2.2.2.1
                   have HS30_ := pw_cell_below hb hHeld.2.2.2.2.2.2.2.2.2.2.2.2.2.2.2.2.2.2.2.2.2.2.2.2.2.2.2.2.2.2.1
                   have HS31_ := pw_cell_below hb hHeld.2.2.2.2.2.2.2.2.2.2.2.2.2.2.2.2.2.2.2.2.2.2.2.2.2.2.2.2.2.2.2.1
                   have HS32_ := pw_cell_below hb hHeld.2.2.2.2.2.2.2.2.2.2.2.2.2.2.2.2.2.2.2.2.2.2.2.2.2.2.2.2.2.2.2.2.1
                   have HS33_ := pw_cell_below hb hHeld.2.2.2.2.2.2.2.2.2.2.2.2.2.2.2.2.2.2.2.2.2.2.2.2.2.2.2.2.2.2.2.2.2.1
                   have HS34_ := pw_cell_below hb hHeld.2.2.2.2.2.2.2.2.2.2.2.2.2.2.2.2.2.2.2.2.2.2.2.2.2.2.2.2.2.2.2.2.2.2.1
                   have HS35_ := pw_cell_below hb hHeld.2.2.2.2.2.2.2.2.2.2.2.2.2.2.2.2.2.2.2.2.2.2.2.2.2.2.2.2.2.2.2.2.2.2.2
                   refine ⟨_, rfl, ?_⟩
                   have n0_ := Aside0.mk (Kd.R_below (by (with_reducible repeat (first | apply Kd.R_alloc | apply Kd.R_drewN | apply Kd.R_drew)); exact HO_3.out) hb)
                   have n1_ := Aside0.mk (below_step (by repeat (first | (with_reducible first | exact HB.out | apply below_alloc | apply pw_below_drewN | apply below_drew1) | exact HB.out)) hb)
                   clear HO_3
                   clear HB
                   have HO_3 := n0_
                   have HB := n1_
                   clear n0_ n1_
                   (try clear hb)
                   (try clear hb2)
                   (try clear hk)
                   (try clear hi)
                   refine hK.out _ _ ⟨(pw_cell_below HB.out hw197_0), (pw_cell_below HB.out hw197_1), (pw_cell_below HB.out hw197_2), (pw_cell_below HB.out hw197_3), (pw_cell_below HB.out hw197_4), (pw_cell_below HB.out hw197_5), HS6_, HS7_, HS8_, HS9_, HS10_, HS11_, (pw_cell_below HB.out hw201_0), (pw_cell_below HB.out hw201_1), (pw_cell_below HB.out hw201_2), (pw_cell_below HB.out hw201_3), (pw_cell_below HB.out hw201_4), (pw_cell_below HB.out hw201_5), HS18_, HS19_, HS20_, HS21_, HS22_, HS23_, (pw_cell_below HB.out hw205_0), (pw_cell_below HB.out hw205_1), (pw_cell_below HB.out hw205_2), (pw_cell_below HB.out hw205_3), (pw_cell_below HB.out hw205_4), (pw_cell_below HB.out hw205_5), HS30_, HS31_, HS32_, HS33_, HS34_, HS35_⟩ (fun hHeld => ?_)
                   clear hK K
                   refine norm_ (a' := ?_) ?_ ?_
                   rotate_left
                   ·show Act.put _ (some 23) _ = _
                    simp only [Act.put, dq11_n, i64_w, i32_w]
                    rfl
                   refine one_ (i := 15) (N := some 30) dq11_16 rfl rfl (one_of HT_.out (by kernel_rfl)) (by decide) (fun K hK => ?_)
                   refine goes_ Try.func40 (by kernel_rfl) rfl #[.agg #[.int .i64 ((rd_T51 x3_1 (ji8)).f1.f0), .int .i64 ((rd_T51 x3_1 (ji8)).f1.f1), .int .i64 ((rd_T51 x3_1 (ji8)).f1.f2), .int .i64 ((rd_T51 x3_1 (ji8)).f1.f3)]] (by rfl) rfl rfl (by (try simp only [List.map_toArray, List.map_cons, List.map_nil]); first | done | (simp only [hji8]; rfl) | rfl | (simp only [List.length_drop, List.length_take]; rfl)) ?_
                   with_reducible refine (mapmakerref34_Key.calls k2 ((rd_T51 x3_1 (ji8)).f1.f0) ((rd_T51 x3_1 (ji8)).f1.f1) ((rd_T51 x3_1 (ji8)).f1.f2) ((rd_T51 x3_1 (ji8)).f1.f3) t200 _ A11.out).mono ?_
                   rintro e w36 ⟨rfl, hb⟩
                   have HS6_ := pw_cell_below hb hHeld.2.2.2.2.2.2.1
                   have HS7_ := pw_cell_below hb hHeld.2.2.2.2.2.2.2.1
                   have HS8_ := pw_cell_below hb hHeld.2.2.2.2.2.2.2.2.1
                   have HS9_ := pw_cell_below hb hHeld.2.2.2.2.2.2.2.2.2.1
                   have HS10_ := pw_cell_below hb hHeld.2.2.2.2.2.2.2.2.2.2.1
                   have HS11_ := pw_cell_below hb hHeld.2.2.2.2.2.2.2.2.2.2.2.1
                   have HS18_ := pw_cell_below hb hHeld.2.2.2.2.2.2.2.2.2.2.2.2.2.2.2.2.2.2.1
                   have HS19_ := pw_cell_below hb hHeld.2.2.2.2.2.2.2.2.2.2.2.2.2.2.2.2.2.2.2.1
                   have HS20_ := pw_cell_below hb hHeld.2.2.2.2.2.2.2.2.2.2.2.2.2.2.2.2.2.2.2.2.1
                   have HS21_ := pw_cell_below hb hHeld.2.2.2.2.2.2.2.2.2.2.2.2.2.2.2.2.2.2.2.2.2.1
                   have HS22_ := pw_cell_below hb hHeld.2.2.2.2.2.2.2.2.2.2.2.2.2.2.2.2.2.2.2.2.2.2.1
                   have HS23_ := pw_cell_below hb hHeld.2.2.2.2.2.2.2.2.2.2.2.2.2.2.2.2.2.2.2.2.2.2.2.1
                   have HS30_ := pw_cell_below hb hHeld.2.2.2.2.2.2.2.2.2.2.2.2.2.2.2.2.2.2.2.2.2.2.2.2.2.2.2.2.2.2.1
                   have HS31_ := pw_cell_below hb hHeld.2.2.2.2.2.2.2.2.2.2.2.2.2.2.2.2.2.2.2.2.2.2.2.2.2.2.2.2.2.2.2.1
                   have HS32_ := pw_cell_below hb hHeld.2.2.2.2.2.2.2.2.2.2.2.2.2.2.2.2.2.2.2.2.2.2.2.2.2.2.2.2.2.2.2.2.1
                   have HS33_ := pw_cell_below hb hHeld.2.2.2.2.2.2.2.2.2.2.2.2.2.2.2.2.2.2.2.2.2.2.2.2.2.2.2.2.2.2.2.2.2.1
                   have HS34_ := pw_cell_below hb hHeld.2.2.2.2.2.2.2.2.2.2.2.2.2.2.2.2.2.2.2.2.2.2.2.2.2.2.2.2.2.2.2.2.2.2.1
                   have HS35_ := pw_cell_below hb hHeld.2.2.2.2.2.2.2.2.2.2.2.2.2.2.2.2.2.2.2.2.2.2.2.2.2.2.2.2.2.2.2.2.2.2.2
                   refine ⟨_, rfl, ?_⟩
                   have n0_ := Aside0.mk (Kd.R_below (by (with_reducible repeat (first | apply Kd.R_alloc | apply Kd.R_drewN | apply Kd.R_drew)); exact HO_3.out) hb)
                   have n1_ := Aside0.mk (below_step (by repeat (first | (with_reducible first | exact HB.out | apply below_alloc | apply pw_below_drewN | apply below_drew1) | exact HB.out)) hb)
                   clear HO_3
                   clear HB
                   have HO_3 := n0_
                   have HB := n1_
                   clear n0_ n1_
                   (try clear hb)
                   (try clear hb2)
                   (try clear hk)
                   (try clear hi)
                   refine hK.out _ _ ⟨(pw_cell_below HB.out hw197_0), (pw_cell_below HB.out hw197_1), (pw_cell_below HB.out hw197_2), (pw_cell_below HB.out hw197_3), (pw_cell_below HB.out hw197_4), (pw_cell_below HB.out hw197_5), HS6_, HS7_, HS8_, HS9_, HS10_, HS11_, (pw_cell_below HB.out hw201_0), (pw_cell_below HB.out hw201_1), (pw_cell_below HB.out hw201_2), (pw_cell_below HB.out hw201_3), (pw_cell_below HB.out hw201_4), (pw_cell_below HB.out hw201_5), HS18_, HS19_, HS20_, HS21_, HS22_, HS23_, (pw_cell_below HB.out hw205_0), (pw_cell_below HB.out hw205_1), (pw_cell_below HB.out hw205_2), (pw_cell_below HB.out hw205_3), (pw_cell_below HB.out hw205_4), (pw_cell_below HB.out hw205_5), HS30_, HS31_, HS32_, HS33_, HS34_, HS35_⟩ (fun hHeld => ?_)
                   clear hK K
                   refine norm_ (a' := ?_) ?_ ?_
                   rotate_left
                   ·show Act.put _ (some 30) _ = _
                    simp only [Act.put, dq11_n, i64_w, i32_w]
                    rfl
                   refine pure_ (i := 16) (N := some 31) (v := ?_) (a' := ?_) dq11_17 rfl rfl (any_of HT_.out (by kernel_rfl)) (fun _ _ _ h => h) (Or.inl ⟨by rfl, ?_⟩) ?_ ?_
                   rotate_left
                   ·intro w'
                    go_simp
                    with_reducible rfl
                   rotate_left
                   ·simp only [Act.put, dq11_n, i64_w, i32_w]
                    rfl
                   refine pure_ (i := 17) (N := some 32) (v := ?_) (a' := ?_) dq11_18 rfl rfl (any_of HT_.out (by kernel_rfl)) (fun _ _ _ h => h) (Or.inl ⟨by rfl, ?_⟩) ?_ ?_
                   rotate_left
                   ·intro w'
                    go_simp
                    with_reducible rfl
                   rotate_left
                   ·simp only [Act.put, dq11_n, i64_w, i32_w]
                    rfl
                   refine pure_ (i := 18) (N := some 33) (v := ?_) (a' := ?_) dq11_19 rfl rfl (any_of HT_.out (by kernel_rfl)) (fun _ _ _ h => h) (Or.inl ⟨by rfl, ?_⟩) ?_ ?_
                   rotate_left
                   ·intro w'
                    go_simp
                    with_reducible rfl
                   rotate_left
                   ·simp only [Act.put, dq11_n, i64_w, i32_w]
                    rfl
                   refine pure_ (i := 19) (N := some 34) (v := ?_) (a' := ?_) dq11_20 rfl rfl (any_of HT_.out (by kernel_rfl)) (fun _ _ _ h => h) (Or.inl ⟨by rfl, ?_⟩) ?_ ?_
                   rotate_left
                   ·intro w'
                    go_simp
                    with_reducible rfl
                   rotate_left
                   ·simp only [Act.put, dq11_n, i64_w, i32_w]
                    rfl
                   refine pure_ (i := 20) (N := some 35) (v := ?_) (a' := ?_) dq11_21 rfl rfl (any_of HT_.out (by kernel_rfl)) (fun _ _ _ h => h) (Or.inl ⟨by rfl, ?_⟩) ?_ ?_
                   rotate_left
                   ·intro w'
                    go_simp
                    with_reducible rfl
                   rotate_left
                   ·simp only [Act.put, dq11_n, i64_w, i32_w]
                    rfl
                   refine pure_ (i := 21) (N := some 36) (v := ?_) (a' := ?_) dq11_22 rfl rfl (any_of HT_.out (by kernel_rfl)) (fun _ _ _ h => h) (Or.inl ⟨by rfl, ?_⟩) ?_ ?_
                   rotate_left
                   ·intro w'
                    go_simp
                    with_reducible rfl
                   rotate_left
                   ·simp only [Act.put, dq11_n, i64_w, i32_w]
                    rfl
                   refine pure_ (i := 24) (N := some 39) (v := ?_) (a' := ?_) dq11_49 rfl rfl (any_of HT_.out (by kernel_rfl)) (fun _ _ _ h => h) (Or.inl ⟨by rfl, ?_⟩) ?_ ?_
                   rotate_left
                   ·intro w'
                    go_simp
                    with_reducible rfl
                   rotate_left
                   ·simp only [Act.put, dq11_n, i64_w, i32_w]
                    rfl
                   refine pure_ (i := 25) (N := some 40) (v := ?_) (a' := ?_) dq11_50 rfl rfl (any_of HT_.out (by kernel_rfl)) (fun _ _ _ h => h) (Or.inl ⟨by rfl, ?_⟩) ?_ ?_
                   rotate_left
                   ·intro w'
                    go_simp
                    with_reducible rfl
                   rotate_left
                   ·simp only [Act.put, dq11_n, i64_w, i32_w]
                    rfl
                   refine pure_ (i := 26) (N := some 41) (v := ?_) (a' := ?_) dq11_51 rfl rfl (any_of HT_.out (by kernel_rfl)) (fun _ _ _ h => h) (Or.inl ⟨by rfl, ?_⟩) ?_ ?_
                   rotate_left
                   ·intro w'
                    go_simp
                    with_reducible rfl
                   rotate_left
                   ·simp only [Act.put, dq11_n, i64_w, i32_w]
                    rfl
                   refine pure_ (i := 27) (N := some 42) (v := ?_) (a' := ?_) dq11_52 rfl rfl (any_of HT_.out (by kernel_rfl)) (fun _ _ _ h => h) (Or.inl ⟨by rfl, ?_⟩) ?_ ?_
                   rotate_left
                   ·intro w'
                    go_simp
                    with_reducible rfl
                   rotate_left
                   ·simp only [Act.put, dq11_n, i64_w, i32_w]
                    rfl
                   refine pure_ (i := 28) (N := some 43) (v := ?_) (a' := ?_) dq11_53 rfl rfl (any_of HT_.out (by kernel_rfl)) (fun _ _ _ h => h) (Or.inl ⟨by rfl, ?_⟩) ?_ ?_
                   rotate_left
                   ·intro w'
                    go_simp
                    with_reducible rfl
                   rotate_left
                   ·simp only [Act.put, dq11_n, i64_w, i32_w]
                    rfl
                   refine take_ (i := 22) (N := some 37) (v := ?_) (a' := ?_) dq11_54 rfl rfl (take_ofW HT_.out HW_.out (by kernel_rfl)) (fun _ _ _ h => h) (Or.inl ⟨by rfl, ?_⟩) hHeld ?_ ?_
                   rotate_left
                   ·rintro w' ⟨s0, s1, s2, s3, s4, s5, s6, s7, s8, s9, s10, s11, s12, s13, s14, s15, s16, s17, s18, s19, s20, s21, s22, s23, s24, s25, s26, s27, s28, s29, s30, s31, s32, s33, s34, s35⟩
                    go_simp
                    with_reducible rfl
                   rotate_left
                   ·simp only [Act.put, dq11_n, i64_w, i32_w]
                    rfl
                   refine take_ (i := 29) (N := some 44) (v := ?_) (a' := ?_) dq11_55 rfl rfl (take_ofW HT_.out HW_.out (by kernel_rfl)) (fun _ _ _ h => h) (Or.inl ⟨by rfl, ?_⟩) hHeld ?_ ?_
                   rotate_left
                   ·rintro w' ⟨s0, s1, s2, s3, s4, s5, s6, s7, s8, s9, s10, s11, s12, s13, s14, s15, s16, s17, s18, s19, s20, s21, s22, s23, s24, s25, s26, s27, s28, s29, s30, s31, s32, s33, s34, s35⟩
                    go_simp
                    with_reducible rfl
                   rotate_left
                   ·simp only [Act.put, dq11_n, i64_w, i32_w]
                    rfl
                   refine one_ (i := 23) (N := some 38) dq11_30 rfl rfl (one_of HT_.out (by kernel_rfl)) (by decide) (fun K hK => ?_)
                   refine goes_ Try.func40 (by kernel_rfl) rfl #[.agg #[.int .i64 ((rd_T51 l0 x4_1).f1.f0), .int .i64 ((rd_T51 l0 x4_1).f1.f1), .int .i64 ((rd_T51 l0 x4_1).f1.f2), .int .i64 ((rd_T51 l0 x4_1).f1.f3)]] (by rfl) rfl rfl (by (try simp only [List.map_toArray, List.map_cons, List.map_nil]); first | done | rfl | (simp only [List.length_drop, List.length_take]; rfl)) ?_
                   with_reducible refine (mapmakerref34_Key.calls k2 ((rd_T51 l0 x4_1).f1.f0) ((rd_T51 l0 x4_1).f1.f1) ((rd_T51 l0 x4_1).f1.f2) ((rd_T51 l0 x4_1).f1.f3) t202 _ A16.out).mono ?_
                   rintro e w37 ⟨rfl, hb⟩
                   have HS6_ := pw_cell_below hb hHeld.2.2.2.2.2.2.1
                   have HS7_ := pw_cell_below hb hHeld.2.2.2.2.2.2.2.1
                   have HS8_ := pw_cell_below hb hHeld.2.2.2.2.2.2.2.2.1
                   have HS9_ := pw_cell_below hb hHeld.2.2.2.2.2.2.2.2.2.1
                   have HS10_ := pw_cell_below hb hHeld.2.2.2.2.2.2.2.2.2.2.1
                   have HS11_ := pw_cell_below hb hHeld.2.2.2.2.2.2.2.2.2.2.2.1
                   have HS18_ := pw_cell_below hb hHeld.2.2.2.2.2.2.2.2.2.2.2.2.2.2.2.2.2.2.1
                   have HS19_ := pw_cell_below hb hHeld.2.2.2.2.2.2.2.2.2.2.2.2.2.2.2.2.2.2.2.1
                   have HS20_ := pw_cell_below hb hHeld.2.2.2.2.2.2.2.2.2.2.2.2.2.2.2.2.2.2.2.2.1
                   have HS21_ := pw_cell_below hb hHeld.2.2.2.2.2.2.2.2.2.2.2.2.2.2.2.2.2.2.2.2.2.1
                   have HS22_ := pw_cell_below hb hHeld.2.2.2.2.2.2.2.2.2.2.2.2.2.2.2.2.2.2.2.2.2.2.1
                   have HS23_ := pw_cell_below hb hHeld.2.2.2.2.2.2.2.2.2.2.2.2.2.2.2.2.2.2.2.2.2.2.2.1
                   have HS30_ := pw_cell_below hb hHeld.2.2.2.2.2.2.2.2.2.2.2.2.2.2.2.2.2.2.2.2.2.2.2.2.2.2.2.2.2.2.1
                   have HS31_ := pw_cell_below hb hHeld.2.2.2.2.2.2.2.2.2.2.2.2.2.2.2.2.2.2.2.2.2.2.2.2.2.2.2.2.2.2.2.1
                   have HS32_ := pw_cell_below hb hHeld.2.2.2.2.2.2.2.2.2.2.2.2.2.2.2.2.2.2.2.2.2.2.2.2.2.2.2.2.2.2.2.2.1
                   have HS33_ := pw_cell_below hb hHeld.2.2.2.2.2.2.2.2.2.2.2.2.2.2.2.2.2.2.2.2.2.2.2.2.2.2.2.2.2.2.2.2.2.1
                   have HS34_ := pw_cell_below hb hHeld.2.2.2.2.2.2.2.2.2.2.2.2.2.2.2.2.2.2.2.2.2.2.2.2.2.2.2.2.2.2.2.2.2.2.1
                   have HS35_ := pw_cell_below hb hHeld.2.2.2.2.2.2.2.2.2.2.2.2.2.2.2.2.2.2.2.2.2.2.2.2.2.2.2.2.2.2.2.2.2.2.2
                   refine ⟨_, rfl, ?_⟩
                   have n0_ := Aside0.mk (Kd.R_below (by (with_reducible repeat (first | apply Kd.R_alloc | apply Kd.R_drewN | apply Kd.R_drew)); exact HO_3.out) hb)
                   have n1_ := Aside0.mk (below_step (by repeat (first | (with_reducible first | exact HB.out | apply below_alloc | apply pw_below_drewN | apply below_drew1) | exact HB.out)) hb)
                   clear HO_3
                   clear HB
                   have HO_3 := n0_
                   have HB := n1_
                   clear n0_ n1_
                   (try clear hb)
                   (try clear hb2)
                   (try clear hk)
                   (try clear hi)
                   refine hK.out _ _ ⟨(pw_cell_below HB.out hw197_0), (pw_cell_below HB.out hw197_1), (pw_cell_below HB.out hw197_2), (pw_cell_below HB.out hw197_3), (pw_cell_below HB.out hw197_4), (pw_cell_below HB.out hw197_5), HS6_, HS7_, HS8_, HS9_, HS10_, HS11_, (pw_cell_below HB.out hw201_0), (pw_cell_below HB.out hw201_1), (pw_cell_below HB.out hw201_2), (pw_cell_below HB.out hw201_3), (pw_cell_below HB.out hw201_4), (pw_cell_below HB.out hw201_5), HS18_, HS19_, HS20_, HS21_, HS22_, HS23_, (pw_cell_below HB.out hw205_0), (pw_cell_below HB.out hw205_1), (pw_cell_below HB.out hw205_2), (pw_cell_below HB.out hw205_3), (pw_cell_below HB.out hw205_4), (pw_cell_below HB.out hw205_5), HS30_, HS31_, HS32_, HS33_, HS34_, HS35_⟩ (fun hHeld => ?_)
                   clear hK K
                   refine norm_ (a' := ?_) ?_ ?_
                   rotate_left
                   ·show Act.put _ (some 38) _ = _
                    simp only [Act.put, dq11_n, i64_w, i32_w]
                    rfl
                   refine one_ (i := 30) (N := some 45) dq11_31 rfl rfl (one_of HT_.out (by kernel_rfl)) (by decide) (fun K hK => ?_)
                   refine goes_ Try.func40 (by kernel_rfl) rfl #[.agg #[.int .i64 ((rd_T51 x3_1 (ji8)).f1.f0), .int .i64 ((rd_T51 x3_1 (ji8)).f1.f1), .int .i64 ((rd_T51 x3_1 (ji8)).f1.f2), .int .i64 ((rd_T51 x3_1 (ji8)).f1.f3)]] (by rfl) rfl rfl (by (try simp only [List.map_toArray, List.map_cons, List.map_nil]); first | done | (simp only [hji8]; rfl) | rfl | (simp only [List.length_drop, List.length_take]; rfl)) ?_
                   with_reducible refine (mapmakerref34_Key.calls k2 ((rd_T51 x3_1 (ji8)).f1.f0) ((rd_T51 x3_1 (ji8)).f1.f1) ((rd_T51 x3_1 (ji8)).f1.f2) ((rd_T51 x3_1 (ji8)).f1.f3) t204 _ A17.out).mono ?_
                   rintro e w38 ⟨rfl, hb⟩
                   have HS6_ := pw_cell_below hb hHeld.2.2.2.2.2.2.1
                   have HS7_ := pw_cell_below hb hHeld.2.2.2.2.2.2.2.1
                   have HS8_ := pw_cell_below hb hHeld.2.2.2.2.2.2.2.2.1
                   have HS9_ := pw_cell_below hb hHeld.2.2.2.2.2.2.2.2.2.1
                   have HS10_ := pw_cell_below hb hHeld.2.2.2.2.2.2.2.2.2.2.1
                   have HS11_ := pw_cell_below hb hHeld.2.2.2.2.2.2.2.2.2.2.2.1
                   have HS18_ := pw_cell_below hb hHeld.2.2.2.2.2.2.2.2.2.2.2.2.2.2.2.2.2.2.1
                   have HS19_ := pw_cell_below hb hHeld.2.2.2.2.2.2.2.2.2.2.2.2.2.2.2.2.2.2.2.1
                   have HS20_ := pw_cell_below hb hHeld.2.2.2.2.2.2.2.2.2.2.2.2.2.2.2.2.2.2.2.2.1
                   have HS21_ := pw_cell_below hb hHeld.2.2.2.2.2.2.2.2.2.2.2.2.2.2.2.2.2.2.2.2.2.1
                   have HS22_ := pw_cell_below hb hHeld.2.2.2.2.2.2.2.2.2.2.2.2.2.2.2.2.2.2.2.2.2.2.1
                   have HS23_ := pw_cell_below hb hHeld.2.2.2.2.2.2.2.2.2.2.2.2.2.2.2.2.2.2.2.2.2.2.2.1
                   have HS30_ := pw_cell_below hb hHeld.2.2.2.2.2.2.2.2.2.2.2.2.2.2.2.2.2.2.2.2.2.2.2.2.2.2.2.2.2.2.1
                   have HS31_ := pw_cell_below hb hHeld.2.2.2.2.2.2.2.2.2.2.2.2.2.2.2.2.2.2.2.2.2.2.2.2.2.2.2.2.2.2.2.1
                   have HS32_ := pw_cell_below hb hHeld.2.2.2.2.2.2.2.2.2.2.2.2.2.2.2.2.2.2.2.2.2.2.2.2.2.2.2.2.2.2.2.2.1
                   have HS33_ := pw_cell_below hb hHeld.2.2.2.2.2.2.2.2.2.2.2.2.2.2.2.2.2.2.2.2.2.2.2.2.2.2.2.2.2.2.2.2.2.1
                   have HS34_ := pw_cell_below hb hHeld.2.2.2.2.2.2.2.2.2.2.2.2.2.2.2.2.2.2.2.2.2.2.2.2.2.2.2.2.2.2.2.2.2.2.1
                   have HS35_ := pw_cell_below hb hHeld.2.2.2.2.2.2.2.2.2.2.2.2.2.2.2.2.2.2.2.2.2.2.2.2.2.2.2.2.2.2.2.2.2.2.2
                   refine ⟨_, rfl, ?_⟩
                   have n0_ := Aside0.mk (Kd.R_below (by (with_reducible repeat (first | apply Kd.R_alloc | apply Kd.R_drewN | apply Kd.R_drew)); exact HO_3.out) hb)
                   have n1_ := Aside0.mk (below_step (by repeat (first | (with_reducible first | exact HB.out | apply below_alloc | apply pw_below_drewN | apply below_drew1) | exact HB.out)) hb)
                   clear HO_3
                   clear HB
                   have HO_3 := n0_
                   have HB := n1_
                   clear n0_ n1_
                   (try clear hb)
                   (try clear hb2)
                   (try clear hk)
                   (try clear hi)
                   refine hK.out _ _ ⟨(pw_cell_below HB.out hw197_0), (pw_cell_below HB.out hw197_1), (pw_cell_below HB.out hw197_2), (pw_cell_below HB.out hw197_3), (pw_cell_below HB.out hw197_4), (pw_cell_below HB.out hw197_5), HS6_, HS7_, HS8_, HS9_, HS10_, HS11_, (pw_cell_below HB.out hw201_0), (pw_cell_below HB.out hw201_1), (pw_cell_below HB.out hw201_2), (pw_cell_below HB.out hw201_3), (pw_cell_below HB.out hw201_4), (pw_cell_below HB.out hw201_5), HS18_, HS19_, HS20_, HS21_, HS22_, HS23_, (pw_cell_below HB.out hw205_0), (pw_cell_below HB.out hw205_1), (pw_cell_below HB.out hw205_2), (pw_cell_below HB.out hw205_3), (pw_cell_below HB.out hw205_4), (pw_cell_below HB.out hw205_5), HS30_, HS31_, HS32_, HS33_, HS34_, HS35_⟩ (fun hHeld => ?_)
                   clear hK K
                   refine norm_ (a' := ?_) ?_ ?_
                   rotate_left
                   ·show Act.put _ (some 45) _ = _
                    simp only [Act.put, dq11_n, i64_w, i32_w]
                    rfl
                   refine pure_ (i := 31) (N := some 46) (v := ?_) (a' := ?_) dq11_32 rfl rfl (any_of HT_.out (by kernel_rfl)) (fun _ _ _ h => h) (Or.inl ⟨by rfl, ?_⟩) ?_ ?_
                   rotate_left
                   ·intro w'
                    go_simp
                    with_reducible rfl
                   rotate_left
                   ·simp only [Act.put, dq11_n, i64_w, i32_w]
                    rfl
                   refine pure_ (i := 32) (N := some 47) (v := ?_) (a' := ?_) dq11_33 rfl rfl (any_of HT_.out (by kernel_rfl)) (fun _ _ _ h => h) (Or.inl ⟨by rfl, ?_⟩) ?_ ?_
                   rotate_left
                   ·intro w'
                    go_simp
                    with_reducible rfl
                   rotate_left
                   ·simp only [Act.put, dq11_n, i64_w, i32_w]
                    rfl
                   refine pure_ (i := 33) (N := some 48) (v := ?_) (a' := ?_) dq11_34 rfl rfl (any_of HT_.out (by kernel_rfl)) (fun _ _ _ h => h) (Or.inl ⟨by rfl, ?_⟩) ?_ ?_
                   rotate_left
                   ·intro w'
                    go_simp
                    with_reducible rfl
                   rotate_left
                   ·simp only [Act.put, dq11_n, i64_w, i32_w]
                    rfl
                   refine pure_ (i := 34) (N := some 49) (v := ?_) (a' := ?_) dq11_35 rfl rfl (any_of HT_.out (by kernel_rfl)) (fun _ _ _ h => h) (Or.inl ⟨by rfl, ?_⟩) ?_ ?_
                   rotate_left
                   ·intro w'
                    go_simp
                    with_reducible rfl
                   rotate_left
                   ·simp only [Act.put, dq11_n, i64_w, i32_w]
                    rfl
                   refine pure_ (i := 35) (N := some 50) (v := ?_) (a' := ?_) dq11_36 rfl rfl (any_of HT_.out (by kernel_rfl)) (fun _ _ _ h => h) (Or.inl ⟨by rfl, ?_⟩) ?_ ?_
                   rotate_left
                   ·intro w'
                    go_simp
                    with_reducible rfl
                   rotate_left
                   ·simp only [Act.put, dq11_n, i64_w, i32_w]
                    rfl
                   refine pure_ (i := 36) (N := some 51) (v := ?_) (a' := ?_) dq11_37 rfl rfl (any_of HT_.out (by kernel_rfl)) (fun _ _ _ h => h) (Or.inl ⟨by rfl, ?_⟩) ?_ ?_
                   rotate_left
                   ·intro w'
                    go_simp
                    with_reducible rfl
                   rotate_left
                   ·simp only [Act.put, dq11_n, i64_w, i32_w]
                    rfl
                   refine pure_ (i := 38) (N := some 53) (v := ?_) (a' := ?_) dq11_56 rfl rfl (any_of HT_.out (by kernel_rfl)) (fun _ _ _ h => h) (Or.inl ⟨by rfl, ?_⟩) ?_ ?_
                   rotate_left
                   ·intro w'
                    go_simp
                    with_reducible rfl
                   rotate_left
                   ·simp only [Act.put, dq11_n, i64_w, i32_w]
                    rfl
                   refine pure_ (i := 39) (N := some 54) (v := ?_) (a' := ?_) dq11_57 rfl rfl (any_of HT_.out (by kernel_rfl)) (fun _ _ _ h => h) (Or.inl ⟨by rfl, ?_⟩) ?_ ?_
                   rotate_left
                   ·intro w'
                    go_simp
                    with_reducible rfl
                   rotate_left
                   ·simp only [Act.put, dq11_n, i64_w, i32_w]
                    rfl
                   refine pure_ (i := 40) (N := some 55) (v := ?_) (a' := ?_) dq11_58 rfl rfl (any_of HT_.out (by kernel_rfl)) (fun _ _ _ h => h) (Or.inl ⟨by rfl, ?_⟩) ?_ ?_
                   rotate_left
                   ·intro w'
                    go_simp
                    with_reducible rfl
                   rotate_left
                   ·simp only [Act.put, dq11_n, i64_w, i32_w]
                    rfl
                   refine pure_ (i := 41) (N := some 56) (v := ?_) (a' := ?_) dq11_59 rfl rfl (any_of HT_.out (by kernel_rfl)) (fun _ _ _ h => h) (Or.inl ⟨by rfl, ?_⟩) ?_ ?_
                   rotate_left
                   ·intro w'
                    go_simp
                    with_reducible rfl
                   rotate_left
                   ·simp only [Act.put, dq11_n, i64_w, i32_w]
                    rfl
                   refine pure_ (i := 42) (N := some 57) (v := ?_) (a' := ?_) dq11_60 rfl rfl (any_of HT_.out (by kernel_rfl)) (fun _ _ _ h => h) (Or.inl ⟨by rfl, ?_⟩) ?_ ?_
                   rotate_left
                   ·intro w'
                    go_simp
                    with_reducible rfl
                   rotate_left
                   ·simp only [Act.put, dq11_n, i64_w, i32_w]
                    rfl
                   refine take_ (i := 37) (N := some 52) (v := ?_) (a' := ?_) dq11_43 rfl rfl (take_ofW HT_.out HW_.out (by kernel_rfl)) (fun _ _ _ h => h) (Or.inl ⟨by rfl, ?_⟩) hHeld ?_ ?_
                   rotate_left
                   ·rintro w' ⟨s0, s1, s2, s3, s4, s5, s6, s7, s8, s9, s10, s11, s12, s13, s14, s15, s16, s17, s18, s19, s20, s21, s22, s23, s24, s25, s26, s27, s28, s29, s30, s31, s32, s33, s34, s35⟩
                    go_simp
                    with_reducible rfl
                   rotate_left
                   ·simp only [Act.put, dq11_n, i64_w, i32_w]
                    rfl
                   refine take_ (i := 43) (N := some 58) (v := ?_) (a' := ?_) dq11_44 rfl rfl (take_ofW HT_.out HW_.out (by kernel_rfl)) (fun _ _ _ h => h) (Or.inl ⟨by rfl, ?_⟩) hHeld ?_ ?_
                   rotate_left
                   ·rintro w' ⟨s0, s1, s2, s3, s4, s5, s6, s7, s8, s9, s10, s11, s12, s13, s14, s15, s16, s17, s18, s19, s20, s21, s22, s23, s24, s25, s26, s27, s28, s29, s30, s31, s32, s33, s34, s35⟩
                    go_simp
                    with_reducible rfl
                   rotate_left
                   ·simp only [Act.put, dq11_n, i64_w, i32_w]
                    rfl
                   refine one_ (i := 44) (N := some 59) dq11_45 rfl rfl (one_of HT_.out (by kernel_rfl)) (by decide) (fun K hK => ?_)
                   refine goes_ Try.func41 (by kernel_rfl) rfl #[.agg #[.int .i64 ((rd_T51 l0 x4_1).f0.f0), .int .i64 ((rd_T51 l0 x4_1).f0.f1)], .agg #[.int .i64 ((rd_T51 x3_1 (ji8)).f0.f0), .int .i64 ((rd_T51 x3_1 (ji8)).f0.f1)]] (by rfl) rfl rfl (by (try simp only [List.map_toArray, List.map_cons, List.map_nil]); first | done | (simp only [hji8]; rfl) | rfl | (simp only [List.length_drop, List.length_take]; rfl)) ?_
                   with_reducible refine (mapmakerref14_Less.calls ((rd_T51 l0 x4_1).f0.f0) ((rd_T51 l0 x4_1).f0.f1) ((rd_T51 x3_1 (ji8)).f0.f0) ((rd_T51 x3_1 (ji8)).f0.f1) false _ A19.out).mono ?_
                   rintro e w39 ⟨rfl, hb⟩
                   have HS6_ := pw_cell_below hb hHeld.2.2.2.2.2.2.1
                   have HS7_ := pw_cell_below hb hHeld.2.2.2.2.2.2.2.1
                   have HS8_ := pw_cell_below hb hHeld.2.2.2.2.2.2.2.2.1
                   have HS9_ := pw_cell_below hb hHeld.2.2.2.2.2.2.2.2.2.1
                   have HS10_ := pw_cell_below hb hHeld.2.2.2.2.2.2.2.2.2.2.1
                   have HS11_ := pw_cell_below hb hHeld.2.2.2.2.2.2.2.2.2.2.2.1
                   have HS18_ := pw_cell_below hb hHeld.2.2.2.2.2.2.2.2.2.2.2.2.2.2.2.2.2.2.1
                   have HS19_ := pw_cell_below hb hHeld.2.2.2.2.2.2.2.2.2.2.2.2.2.2.2.2.2.2.2.1
                   have HS20_ := pw_cell_below hb hHeld.2.2.2.2.2.2.2.2.2.2.2.2.2.2.2.2.2.2.2.2.1
                   have HS21_ := pw_cell_below hb hHeld.2.2.2.2.2.2.2.2.2.2.2.2.2.2.2.2.2.2.2.2.2.1
                   have HS22_ := pw_cell_below hb hHeld.2.2.2.2.2.2.2.2.2.2.2.2.2.2.2.2.2.2.2.2.2.2.1
                   have HS23_ := pw_cell_below hb hHeld.2.2.2.2.2.2.2.2.2.2.2.2.2.2.2.2.2.2.2.2.2.2.2.1
                   have HS30_ := pw_cell_below hb hHeld.2.2.2.2.2.2.2.2.2.2.2.2.2.2.2.2.2.2.2.2.2.2.2.2.2.2.2.2.2.2.1
                   have HS31_ := pw_cell_below hb hHeld.2.2.2.2.2.2.2.2.2.2.2.2.2.2.2.2.2.2.2.2.2.2.2.2.2.2.2.2.2.2.2.1
                   have HS32_ := pw_cell_below hb hHeld.2.2.2.2.2.2.2.2.2.2.2.2.2.2.2.2.2.2.2.2.2.2.2.2.2.2.2.2.2.2.2.2.1
                   have HS33_ := pw_cell_below hb hHeld.2.2.2.2.2.2.2.2.2.2.2.2.2.2.2.2.2.2.2.2.2.2.2.2.2.2.2.2.2.2.2.2.2.1
                   have HS34_ := pw_cell_below hb hHeld.2.2.2.2.2.2.2.2.2.2.2.2.2.2.2.2.2.2.2.2.2.2.2.2.2.2.2.2.2.2.2.2.2.2.1
                   have HS35_ := pw_cell_below hb hHeld.2.2.2.2.2.2.2.2.2.2.2.2.2.2.2.2.2.2.2.2.2.2.2.2.2.2.2.2.2.2.2.2.2.2.2
                   refine ⟨_, rfl, ?_⟩
                   have n0_ := Aside0.mk (Kd.R_below (by (with_reducible repeat (first | apply Kd.R_alloc | apply Kd.R_drewN | apply Kd.R_drew)); exact HO_3.out) hb)
                   have n1_ := Aside0.mk (below_step (by repeat (first | (with_reducible first | exact HB.out | apply below_alloc | apply pw_below_drewN | apply below_drew1) | exact HB.out)) hb)
                   clear HO_3
                   clear HB
                   have HO_3 := n0_
                   have HB := n1_
                   clear n0_ n1_
                   (try clear hb)
                   (try clear hb2)
                   (try clear hk)
                   (try clear hi)
                   refine hK.out _ _ ⟨(pw_cell_below HB.out hw197_0), (pw_cell_below HB.out hw197_1), (pw_cell_below HB.out hw197_2), (pw_cell_below HB.out hw197_3), (pw_cell_below HB.out hw197_4), (pw_cell_below HB.out hw197_5), HS6_, HS7_, HS8_, HS9_, HS10_, HS11_, (pw_cell_below HB.out hw201_0), (pw_cell_below HB.out hw201_1), (pw_cell_below HB.out hw201_2), (pw_cell_below HB.out hw201_3), (pw_cell_below HB.out hw201_4), (pw_cell_below HB.out hw201_5), HS18_, HS19_, HS20_, HS21_, HS22_, HS23_, (pw_cell_below HB.out hw205_0), (pw_cell_below HB.out hw205_1), (pw_cell_below HB.out hw205_2), (pw_cell_below HB.out hw205_3), (pw_cell_below HB.out hw205_4), (pw_cell_below HB.out hw205_5), HS30_, HS31_, HS32_, HS33_, HS34_, HS35_⟩ (fun hHeld => ?_)
                   clear hK K
                   refine norm_ (a' := ?_) ?_ ?_
                   rotate_left
                   ·show Act.put _ (some 59) _ = _
                    simp only [Act.put, dq11_n, i64_w, i32_w]
                    rfl
                   refine pure_ (i := 45) (N := some 60) (v := ?_) (a' := ?_) dq11_46 rfl rfl (any_of HT_.out (by kernel_rfl)) (fun _ _ _ h => h) (Or.inl ⟨by rfl, ?_⟩) ?_ ?_
                   rotate_left
                   ·intro w'
                    go_simp
                    with_reducible rfl
                   rotate_left
                   ·simp only [Act.put, dq11_n, i64_w, i32_w]
                    rfl
                   refine pure_ (i := 46) (N := some 61) (v := ?_) (a' := ?_) dq11_47 rfl rfl (any_of HT_.out (by kernel_rfl)) (fun _ _ _ h => h) (Or.inl ⟨by rfl, ?_⟩) ?_ ?_
                   rotate_left
                   ·intro w'
                    go_simp
                    with_reducible rfl
                   rotate_left
                   ·simp only [Act.put, dq11_n, i64_w, i32_w]
                    rfl
                   refine pure_ (i := 47) (N := some 62) (v := ?_) (a' := ?_) dq11_48 rfl rfl (any_of HT_.out (by kernel_rfl)) (fun _ _ _ h => h) (Or.inl ⟨by rfl, ?_⟩) ?_ ?_
                   rotate_left
                   ·intro w'
                    go_simp
                    with_reducible rfl
                   rotate_left
                   ·simp only [Act.put, dq11_n, i64_w, i32_w]
                    rfl
                   refine done_ (done_of HT_.out (by kernel_rfl)) ?_
                   have q40 : (x5_2 : Int) ≤ ((x3_1.length : Int) : Int) := of_decide_eq_true (by first | (with_reducible assumption) | assumption)
                   obtain ⟨i040, hi040, _, hsz40, _⟩ := info_parts info51
                   have hroom40 : x3_1.length ≤ co3 := (Kd.R_reads' HO_3.out).2.1
                   have hC40 : Kd.C k51 _ (some ad199) x3_1.length x3_1 := (Kd.R_reads' HO_3.out).2.2
                   have hcut40 := cut_to (P := Try.prog) 22 51 .i64 Try.underlying22 hi040 (some ad199) x3_1.length co3 x5_2 (of_decide_eq_true (by first | (with_reducible assumption) | assumption)) q40 hroom40
                   have hr40 := Kd.C_take (m := (x5_2 : Int).toNat) hC40 (by omega)
                   have hy40 : y208.length = (x5_2 : Int).toNat := (by rw [Ny208.out, List.length_take]; omega)
                   rw [← Ny208.out] at hr40
                   rw [← hy40] at hcut40
                   have HR211 := Aside0.mk hr40
                   have HC211 := Aside0.mk (show y208.length ≤ co3 from by omega)
                   clear hr40 hC40 hroom40 hi040 hsz40
                   have KY40 := Aside0.mk hy40
                   clear hy40
                   have KL40 := Aside0.mk (show (x5_2 : Int).toNat ≤ x3_1.length from by omega)
                   replace q40 := eq_true q40
                   try go_wp2_with (first | ((with_reducible refine gate_builtin (b := .append) (xs := #[.tmp 65, .tmp 68]) rfl ?_); at_builtin; refine Kd.R_append_rows k51 (w0 := w) w.heap.size rfl (.tmp 65) (.tmp 68) 22 51 (.agg #[(.int .i64 0), (.int .i64 0), (.int .i64 0), (.int .i64 0), (.int .i64 0), (.int .i64 0)]) 48 rfl Try.underlying22 info51 rfl (by decide) (by omega) (.slice none 0 0) ([] : List (S51)) y208 _ _ _ (fun k_ => some k_ ≠ (.slice (some ad199) x3_1.length co3 : Value).ownBlock) (fun _ => False) rfl rfl ?aO ?aR (fun _ _ h => h) (fun _ h => h.elim) ?aF ?aB ?aS ?aL ?_; (case aR => repeat (first | exact (by repeat (first | (with_reducible exact HR211.out) | (with_reducible refine Kd.C_alloc ?_ _) | (with_reducible refine Kd.C_drewN ?_ _) | (with_reducible refine Kd.C_drew ?_) | exact HR211.out)) | (with_reducible refine Kd.C_alloc ?_ _) | (with_reducible refine Kd.C_drewN ?_ _) | (with_reducible refine Kd.C_drew ?_))); (case aB => exact (by repeat (first | (with_reducible first | exact HB.out | apply below_alloc | apply pw_below_drewN | apply below_drew1) | exact HB.out))); (case aF => exact (fun k_ hk => Kd.fresh' (Kd.R_lt (by (with_reducible repeat (first | apply Kd.R_alloc | apply Kd.R_drewN | apply Kd.R_drew)); exact HO_3.out)) k_ hk)); (case aO => exact ((Kd.R_nil _ _ _ _ (fun k_ => some k_ ≠ (.slice (some ad199) x3_1.length co3 : Value).ownBlock)))); (case aS => exact (below_size (by repeat (first | (with_reducible first | exact HB.out | apply below_alloc | apply pw_below_drewN | apply below_drew1) | exact HB.out)))); (case aL => have := LMc29.out; omega); intro v213 w41 ho hb hg hat; rw [← Ny212.out] at ho; have n0_ := Aside0.mk (Kd.R_after (Kd.R_apart_nil (by (with_reducible repeat (first | apply Kd.R_alloc | apply Kd.R_drewN | apply Kd.R_drew)); exact HO_3.out)) hg hat); have n1_ := Aside0.mk (hb); have n2_ := Aside0.mk ((show Kd.C k51 w41 (some ad199) y208.length y208 from by rw [Ny208.out]; exact Kd.C_take (m := (x5_2 : Int).toNat) ((Kd.R_reads' (Kd.R_after (Kd.R_apart_nil (by (with_reducible repeat (first | apply Kd.R_alloc | apply Kd.R_drewN | apply Kd.R_drew)); exact HO_3.out)) hg hat)).2.2) KL40.out)); have n3_ := Aside0.mk (ho); clear HO_3; clear HB; clear HR211; have HO_3 := n0_; have HB := n1_; have HR211 := n2_; have HO214 := n3_; clear n0_ n1_ n2_ n3_; clear ho hb hg hat; have p215 : 0 ≤ (x4_1 : Int) := of_decide_eq_true (by first | (with_reducible assumption) | assumption); have q215 : x4_1 < (l0.length : Int) := of_decide_eq_true (by first | (with_reducible assumption) | assumption); obtain ⟨ad215, e215, hx215_0, hx215_1, hx215_2, hx215_3, hx215_4, hx215_5⟩ := at_T51 HR0.out x4_1 p215 q215; obtain rfl : ad197 = ad215 := (by injection e215); replace hx215_0 := (HB.out.cell (World.block_lt_of_cell? w _ hx215_0)).trans hx215_0; replace hx215_1 := (HB.out.cell (World.block_lt_of_cell? w _ hx215_1)).trans hx215_1; replace hx215_2 := (HB.out.cell (World.block_lt_of_cell? w _ hx215_2)).trans hx215_2; replace hx215_3 := (HB.out.cell (World.block_lt_of_cell? w _ hx215_3)).trans hx215_3; replace hx215_4 := (HB.out.cell (World.block_lt_of_cell? w _ hx215_4)).trans hx215_4; replace hx215_5 := (HB.out.cell (World.block_lt_of_cell? w _ hx215_5)).trans hx215_5; replace p215 := eq_true p215; replace q215 := eq_true q215) | ((with_reducible refine gate_builtin (b := .append) (xs := #[.tmp 70, .tmp 75]) rfl ?_); at_builtin; refine Kd.R_append k51 (w0 := w) w.heap.size rfl (.tmp 70) (.tmp 75) 22 51 (.agg #[(.int .i64 0), (.int .i64 0), (.int .i64 0), (.int .i64 0), (.int .i64 0), (.int .i64 0)]) 48 rfl Try.underlying22 info51 rfl (by decide) (by omega) v213 y212 (⟨(⟨(rd_T51 l0 x4_1).f0.f0, (rd_T51 l0 x4_1).f0.f1⟩ : S49), (⟨(rd_T51 l0 x4_1).f1.f0, (rd_T51 l0 x4_1).f1.f1, (rd_T51 l0 x4_1).f1.f2, (rd_T51 l0 x4_1).f1.f3⟩ : S24)⟩ : S51) [.int .i64 ((rd_T51 l0 x4_1).f0.f0), .int .i64 ((rd_T51 l0 x4_1).f0.f1), .int .i64 ((rd_T51 l0 x4_1).f1.f0), .int .i64 ((rd_T51 l0 x4_1).f1.f1), .int .i64 ((rd_T51 l0 x4_1).f1.f2), .int .i64 ((rd_T51 l0 x4_1).f1.f3)] (fun k_ => some k_ ≠ (.slice (some ad199) x3_1.length co3 : Value).ownBlock) (fun _ => False) rfl rfl ?aP (fun _ hk => hk.elim) ?aF ?aO ?aB ?aS ?aL ?_; (case aP => exact k51_mkM _ _ _ (⟨(⟨(rd_T51 l0 x4_1).f0.f0, (rd_T51 l0 x4_1).f0.f1⟩ : S49), (⟨(rd_T51 l0 x4_1).f1.f0, (rd_T51 l0 x4_1).f1.f1, (rd_T51 l0 x4_1).f1.f2, (rd_T51 l0 x4_1).f1.f3⟩ : S24)⟩ : S51)); (case aB => exact (by repeat (first | (with_reducible first | exact HB.out | apply below_alloc | apply pw_below_drewN | apply below_drew1) | exact HB.out))); (case aF => exact (fun k_ hk => Kd.fresh' (Kd.R_lt (by (with_reducible repeat (first | apply Kd.R_alloc | apply Kd.R_drewN | apply Kd.R_drew)); exact HO_3.out)) k_ hk)); (case aO => exact (by (with_reducible repeat (first | apply Kd.R_alloc | apply Kd.R_drewN | apply Kd.R_drew)); exact HO214.out)); (case aS => exact (below_size (by repeat (first | (with_reducible first | exact HB.out | apply below_alloc | apply pw_below_drewN | apply below_drew1) | exact HB.out)))); (case aL => have := LMc30.out; omega); intro v217 w42 ho hb hg hat; rw [← Ny216.out] at ho; have n0_ := Aside0.mk (Kd.R_after (ok := (fun _ => True)) (by (with_reducible repeat (first | apply Kd.R_alloc | apply Kd.R_drewN | apply Kd.R_drew)); exact HO_3.out) hg hat); have n1_ := Aside0.mk (hb); have n2_ := Aside0.mk ((show Kd.C k51 w42 (some ad199) y208.length y208 from by rw [Ny208.out]; exact Kd.C_take (m := (x5_2 : Int).toNat) ((Kd.R_reads' (Kd.R_after (ok := (fun _ => True)) (by (with_reducible repeat (first | apply Kd.R_alloc | apply Kd.R_drewN | apply Kd.R_drew)); exact HO_3.out) hg hat)).2.2) KL40.out)); have n3_ := Aside0.mk (ho); clear HO_3; clear HB; clear HR211; clear HO214; have HO_3 := n0_; have HB := n1_; have HR211 := n2_; have HO218 := n3_; clear n0_ n1_ n2_ n3_; clear ho hb hg hat; have q43 : (x5_2 : Int) ≤ ((x3_1.length : Int) : Int) := of_decide_eq_true (by first | (with_reducible assumption) | assumption); obtain ⟨i043, hi043, _, hsz43, _⟩ := info_parts info51; have hroom43 : x3_1.length ≤ co3 := (Kd.R_reads' HO_3.out).2.1; have hC43 : Kd.C k51 _ (some ad199) x3_1.length x3_1 := (Kd.R_reads' HO_3.out).2.2; have q043 : (0 : Int) ≤ (x5_2 : Int) := of_decide_eq_true (by first | (with_reducible assumption) | assumption); have hcut43 := cut_from (P := Try.prog) 22 51 .i64 Try.underlying22 hi043 6 hsz43 (some ad199) x3_1.length co3 x5_2 q043 q43; have hr43 := Kd.C_drop (m := (x5_2 : Int).toNat) (c := co3) hC43 (by omega) hroom43; obtain ⟨A43, hA43⟩ : ∃ A1, A1 = (if co3 = (x5_2 : Int).toNat then (some ad199) else ((some ad199) : Option Addr).map (·.add ((x5_2 : Int).toNat * 6))) := ⟨_, rfl⟩; obtain ⟨c43, hc43⟩ : ∃ c1, c1 = co3 - (x5_2 : Int).toNat := ⟨_, rfl⟩; have hy43 : y219.length = x3_1.length - (x5_2 : Int).toNat := (by rw [Ny219.out, List.length_drop] <;> omega); rw [show (x3_1).drop (x5_2 : Int).toNat = y219 from Ny219.out.symm] at hr43; replace hr43 : Kd.C k51 _ A43 y219.length y219 := (by rw [hA43]; exact hr43); rw [← hy43, ← hA43, ← hc43] at hcut43; have HR222 := Aside0.mk hr43; have HC222 := Aside0.mk (show y219.length ≤ c43 from by rw [hy43, hc43]; exact Nat.sub_le_sub_right hroom43 _); clear hr43 hC43 hroom43 hi043 hsz43 hc43; have KY43 := Aside0.mk hy43; have KA43 := Aside0.mk hA43; clear hy43 hA43; have KL43 := Aside0.mk (show (x5_2 : Int).toNat ≤ x3_1.length from by omega); replace q43 := eq_true q43) | ((with_reducible refine gate_builtin (b := .append) (xs := #[.tmp 77, .tmp 80]) rfl ?_); at_builtin; refine Kd.R_append_rows k51 (w0 := w) w.heap.size rfl (.tmp 77) (.tmp 80) 22 51 (.agg #[(.int .i64 0), (.int .i64 0), (.int .i64 0), (.int .i64 0), (.int .i64 0), (.int .i64 0)]) 48 rfl Try.underlying22 info51 rfl (by decide) (by omega) v217 y216 y219 _ _ _ (fun k_ => some k_ ≠ (.slice (some ad199) x3_1.length co3 : Value).ownBlock) (fun _ => False) rfl rfl ?aO ?aR (fun _ _ h => h) (fun _ h => h.elim) ?aF ?aB ?aS ?aL ?_; (case aR => repeat (first | exact (by repeat (first | (with_reducible exact HR222.out) | (with_reducible refine Kd.C_alloc ?_ _) | (with_reducible refine Kd.C_drewN ?_ _) | (with_reducible refine Kd.C_drew ?_) | exact HR222.out)) | (with_reducible refine Kd.C_alloc ?_ _) | (with_reducible refine Kd.C_drewN ?_ _) | (with_reducible refine Kd.C_drew ?_))); (case aB => exact (by repeat (first | (with_reducible first | exact HB.out | apply below_alloc | apply pw_below_drewN | apply below_drew1) | exact HB.out))); (case aF => exact (fun k_ hk => Kd.fresh' (Kd.R_lt (by (with_reducible repeat (first | apply Kd.R_alloc | apply Kd.R_drewN | apply Kd.R_drew)); exact HO_3.out)) k_ hk)); (case aO => exact (by (with_reducible repeat (first | apply Kd.R_alloc | apply Kd.R_drewN | apply Kd.R_drew)); exact HO218.out)); (case aS => exact (below_size (by repeat (first | (with_reducible first | exact HB.out | apply below_alloc | apply pw_below_drewN | apply below_drew1) | exact HB.out)))); (case aL => have := LMc33.out; omega); intro v224 w44 ho hb hg hat; rw [← Ny223.out] at ho; have n0_ := Aside0.mk (Kd.R_after (ok := (fun _ => True)) (by (with_reducible repeat (first | apply Kd.R_alloc | apply Kd.R_drewN | apply Kd.R_drew)); exact HO_3.out) hg hat); have n1_ := Aside0.mk (hb); have n2_ := Aside0.mk ((show Kd.C k51 w44 (some ad199) y208.length y208 from by rw [Ny208.out]; exact Kd.C_take (m := (x5_2 : Int).toNat) ((Kd.R_reads' (Kd.R_after (ok := (fun _ => True)) (by (with_reducible repeat (first | apply Kd.R_alloc | apply Kd.R_drewN | apply Kd.R_drew)); exact HO_3.out) hg hat)).2.2) KL40.out)); have n3_ := Aside0.mk ((show Kd.C k51 w44 A43 y219.length y219 from by rw [Ny219.out, KA43.out]; exact Kd.C_drop (m := (x5_2 : Int).toNat) (c := co3) ((Kd.R_reads' (Kd.R_after (ok := (fun _ => True)) (by (with_reducible repeat (first | apply Kd.R_alloc | apply Kd.R_drewN | apply Kd.R_drew)); exact HO_3.out) hg hat)).2.2) KL43.out ((Kd.R_reads' (Kd.R_after (ok := (fun _ => True)) (by (with_reducible repeat (first | apply Kd.R_alloc | apply Kd.R_drewN | apply Kd.R_drew)); exact HO_3.out) hg hat)).2.1))); have n4_ := Aside0.mk (ho); clear HO_3; clear HB; clear HR211; clear HR222; clear HO218; have HO_3 := n0_; have HB := n1_; have HR211 := n2_; have HR222 := n3_; have HO225 := n4_; clear n0_ n1_ n2_ n3_ n4_; clear ho hb hg hat))
                   go_roundg k2
                   case measure => have := HK1.out; have := HK2.out; omega
                   case rel => exact ⟨(y223), (wrap64 (x4_1 + 1)), (by first | rfl | (simp; done) | (simp [*]; done)), H', ⟨by have := HK1.out; have := HK2.out; omega⟩, ⟨by (with_reducible repeat (first | apply Kd.R_alloc | apply Kd.R_drewN | apply Kd.R_drew)); exact Kd.R_mono HO225.out (fun _ hk => trivial)⟩, ⟨by repeat (first | (with_reducible first | exact HB.out | apply below_alloc | apply pw_below_drewN | apply below_drew1) | exact HB.out)⟩⟩
                  ·rw [if_neg c33] at H
                   exact absurd H (by simp)
                 ·rw [if_neg c30] at H
                  exact absurd H (by simp)
                ·rw [if_neg c29] at H
                 exact absurd H (by simp)
               ·rw [if_neg c28] at H
                exact absurd H (by simp)
              ·rw [if_neg c27] at H
               exact absurd H (by simp)
            ·rw [if_neg c18] at H
             have c18b0 : (t202 == t204) = false := beq_eq_false_iff_ne.mpr c18
             have c18b1 : (t202 != t204) = true := bne_iff_ne.mpr c18
             by_cases c45 : 0 ≤ x5_2
             ·rw [if_pos c45] at H
              have c45b0 := eq_true c45
              have c45b1 : decide (0 ≤ x5_2) = true := decide_eq_true c45
              clear c45
              by_cases c46 : x5_2 ≤ (x3_1.length : Int)
              ·rw [if_pos c46] at H
               have c46b0 := eq_true c46
               have c46b1 : decide (x5_2 ≤ (x3_1.length : Int)) = true := decide_eq_true c46
               clear c46
               obtain ⟨y226, hy226⟩ : ∃ y_ : List (S51), y_ = (x3_1.take (x5_2 : Int).toNat) := ⟨_, rfl⟩
               replace H : (if ([] : List (S51)).length + y226.length < 2932031007402 then ((some (([] : List (S51)) ++ y226 : List (S51))).bind fun y230 => (if y230.length < 2932031007402 then ((some (y230 ++ [(⟨(⟨(rd_T51 l0 x4_1).f0.f0, (rd_T51 l0 x4_1).f0.f1⟩ : S49), (⟨(rd_T51 l0 x4_1).f1.f0, (rd_T51 l0 x4_1).f1.f1, (rd_T51 l0 x4_1).f1.f2, (rd_T51 l0 x4_1).f1.f3⟩ : S24)⟩ : S51)] : List (S51))).bind fun y234 => ((some (x3_1.drop (x5_2 : Int).toNat : List (S51))).bind fun y237 => (if y234.length + y237.length < 2932031007402 then (mapmakerref34_Items.l0 k2 l0 (y234 ++ y237) (wrap64 (x4_1 + 1))) else (none)))) else (none))) else (none)) = some r := by first | (rw [hy226]; with_reducible exact H) | (have H2_ := (Option.bind_some _ _).symm.trans H; rw [hy226]; with_reducible exact H2_) | (have H2_ := (Option.bind_some _ _).symm.trans H; with_reducible exact H2_) | with_reducible exact H | (rw [hy226]; exact H) | exact H
               have Ny226 := Aside0.mk hy226
               clear hy226
               by_cases c47 : ([] : List (S51)).length + y226.length < 2932031007402
               ·rw [if_pos c47] at H
                have LMc47 := Aside0.mk c47
                clear c47
                obtain ⟨y230, hy230⟩ : ∃ y_ : List (S51), y_ = (([] : List (S51)) ++ y226) := ⟨_, rfl⟩
                replace H : (if y230.length < 2932031007402 then ((some (y230 ++ [(⟨(⟨(rd_T51 l0 x4_1).f0.f0, (rd_T51 l0 x4_1).f0.f1⟩ : S49), (⟨(rd_T51 l0 x4_1).f1.f0, (rd_T51 l0 x4_1).f1.f1, (rd_T51 l0 x4_1).f1.f2, (rd_T51 l0 x4_1).f1.f3⟩ : S24)⟩ : S51)] : List (S51))).bind fun y234 => ((some (x3_1.drop (x5_2 : Int).toNat : List (S51))).bind fun y237 => (if y234.length + y237.length < 2932031007402 then (mapmakerref34_Items.l0 k2 l0 (y234 ++ y237) (wrap64 (x4_1 + 1))) else (none)))) else (none)) = some r := by first | (rw [hy230]; with_reducible exact H) | (have H2_ := (Option.bind_some _ _).symm.trans H; rw [hy230]; with_reducible exact H2_) | (have H2_ := (Option.bind_some _ _).symm.trans H; with_reducible exact H2_) | with_reducible exact H | (rw [hy230]; exact H) | exact H
                have Ny230 := Aside0.mk hy230
                clear hy230
                by_cases c48 : y230.length < 2932031007402
                ·rw [if_pos c48] at H
                 have LMc48 := Aside0.mk c48
                 clear c48
                 obtain ⟨y234, hy234⟩ : ∃ y_ : List (S51), y_ = (y230 ++ [(⟨(⟨(rd_T51 l0 x4_1).f0.f0, (rd_T51 l0 x4_1).f0.f1⟩ : S49), (⟨(rd_T51 l0 x4_1).f1.f0, (rd_T51 l0 x4_1).f1.f1, (rd_T51 l0 x4_1).f1.f2, (rd_T51 l0 x4_1).f1.f3⟩ : S24)⟩ : S51)]) := ⟨_, rfl⟩
                 replace H : ((some (x3_1.drop (x5_2 : Int).toNat : List (S51))).bind fun y237 => (if y234.length + y237.length < 2932031007402 then (mapmakerref34_Items.l0 k2 l0 (y234 ++ y237) (wrap64 (x4_1 + 1))) else (none))) = some r := by first | (rw [hy234]; with_reducible exact H) | (have H2_ := (Option.bind_some _ _).symm.trans H; rw [hy234]; with_reducible exact H2_) | (have H2_ := (Option.bind_some _ _).symm.trans H; with_reducible exact H2_) | with_reducible exact H | (rw [hy234]; exact H) | exact H
                 have Ny234 := Aside0.mk hy234
                 clear hy234
                 have c49b0 := eq_true (of_decide_eq_true (by first | (with_reducible assumption) | assumption) : 0 ≤ x5_2)
                 have c50b0 := eq_true (of_decide_eq_true (by first | (with_reducible assumption) | assumption) : x5_2 ≤ (x3_1.length : Int))
                 obtain ⟨y237, hy237⟩ : ∃ y_ : List (S51), y_ = (x3_1.drop (x5_2 : Int).toNat) := ⟨_, rfl⟩
                 replace H : (if y234.length + y237.length < 2932031007402 then (mapmakerref34_Items.l0 k2 l0 (y234 ++ y237) (wrap64 (x4_1 + 1))) else (none)) = some r := by first | (rw [hy237]; with_reducible exact H) | (have H2_ := (Option.bind_some _ _).symm.trans H; rw [hy237]; with_reducible exact H2_) | (have H2_ := (Option.bind_some _ _).symm.trans H; with_reducible exact H2_) | with_reducible exact H | (rw [hy237]; exact H) | exact H
                 have Ny237 := Aside0.mk hy237
                 clear hy237
                 by_cases c51 : y234.length + y237.length < 2932031007402
                 ·rw [if_pos c51] at H
                  have LMc51 := Aside0.mk c51
                  clear c51
                  obtain ⟨y241, hy241⟩ : ∃ y_ : List (S51), y_ = (y234 ++ y237) := ⟨_, rfl⟩
                  replace H : (mapmakerref34_Items.l0 k2 l0 y241 (wrap64 (x4_1 + 1))) = some r := by first | (rw [hy241]; with_reducible exact H) | (have H2_ := (Option.bind_some _ _).symm.trans H; rw [hy241]; with_reducible exact H2_) | (have H2_ := (Option.bind_some _ _).symm.trans H; with_reducible exact H2_) | with_reducible exact H | (rw [hy241]; exact H) | exact H
                  have Ny241 := Aside0.mk hy241
                  clear hy241
                  have H' := Aside0.mk H
                  clear H
                  try go_wp2
                  have n0_ := Aside0.mk (Kd.R_drew HO_3.out)
                  have n1_ := Aside0.mk (below_drew1 HB.out)
                  clear HO_3
                  clear HB
                  have HO_3 := n0_
                  have HB := n1_
                  clear n0_ n1_
                  have p197 : 0 ≤ (x4_1 : Int) := of_decide_eq_true (by first | (with_reducible assumption) | assumption)
                  have q197 : x4_1 < (l0.length : Int) := of_decide_eq_true (by first | (with_reducible assumption) | assumption)
                  obtain ⟨ad197, e197, hx197_0, hx197_1, hx197_2, hx197_3, hx197_4, hx197_5⟩ := at_T51 HR0.out x4_1 p197 q197
                  have hw197_5 := hx197_5
                  have hw197_4 := hx197_4
                  have hw197_3 := hx197_3
                  have hw197_2 := hx197_2
                  have hw197_1 := hx197_1
                  have hw197_0 := hx197_0
                  cases e197
                  replace hx197_0 := (HB.out.cell (World.block_lt_of_cell? w _ hx197_0)).trans hx197_0
                  replace hx197_1 := (HB.out.cell (World.block_lt_of_cell? w _ hx197_1)).trans hx197_1
                  replace hx197_2 := (HB.out.cell (World.block_lt_of_cell? w _ hx197_2)).trans hx197_2
                  replace hx197_3 := (HB.out.cell (World.block_lt_of_cell? w _ hx197_3)).trans hx197_3
                  replace hx197_4 := (HB.out.cell (World.block_lt_of_cell? w _ hx197_4)).trans hx197_4
                  replace hx197_5 := (HB.out.cell (World.block_lt_of_cell? w _ hx197_5)).trans hx197_5
                  replace p197 := eq_true p197
                  replace q197 := eq_true q197
                  have p199 : 0 ≤ ((ji8) : Int) := of_decide_eq_true (by first | (with_reducible assumption) | assumption)
                  have q199 : (ji8) < (x3_1.length : Int) := of_decide_eq_true (by first | (with_reducible assumption) | assumption)
                  obtain ⟨ad199, e199, hx199_0, hx199_1, hx199_2, hx199_3, hx199_4, hx199_5⟩ := at_T51 (Kd.R_reads' HO_3.out).2.2 (ji8) p199 q199
                  cases e199
                  replace p199 := eq_true p199
                  replace q199 := eq_true q199
                  have p201 : 0 ≤ (x4_1 : Int) := of_decide_eq_true (by first | (with_reducible assumption) | assumption)
                  have q201 : x4_1 < (l0.length : Int) := of_decide_eq_true (by first | (with_reducible assumption) | assumption)
                  obtain ⟨ad201, e201, hx201_0, hx201_1, hx201_2, hx201_3, hx201_4, hx201_5⟩ := at_T51 HR0.out x4_1 p201 q201
                  have hw201_5 := hx201_5
                  have hw201_4 := hx201_4
                  have hw201_3 := hx201_3
                  have hw201_2 := hx201_2
                  have hw201_1 := hx201_1
                  have hw201_0 := hx201_0
                  obtain rfl : ad197 = ad201 := (by injection e201)
                  replace hx201_0 := (HB.out.cell (World.block_lt_of_cell? w _ hx201_0)).trans hx201_0
                  replace hx201_1 := (HB.out.cell (World.block_lt_of_cell? w _ hx201_1)).trans hx201_1
                  replace hx201_2 := (HB.out.cell (World.block_lt_of_cell? w _ hx201_2)).trans hx201_2
                  replace hx201_3 := (HB.out.cell (World.block_lt_of_cell? w _ hx201_3)).trans hx201_3
                  replace hx201_4 := (HB.out.cell (World.block_lt_of_cell? w _ hx201_4)).trans hx201_4
                  replace hx201_5 := (HB.out.cell (World.block_lt_of_cell? w _ hx201_5)).trans hx201_5
                  replace p201 := eq_true p201
                  replace q201 := eq_true q201
                  have p203 : 0 ≤ ((ji8) : Int) := of_decide_eq_true (by first | (with_reducible assumption) | assumption)
                  have q203 : (ji8) < (x3_1.length : Int) := of_decide_eq_true (by first | (with_reducible assumption) | assumption)
                  obtain ⟨ad203, e203, hx203_0, hx203_1, hx203_2, hx203_3, hx203_4, hx203_5⟩ := at_T51 (Kd.R_reads' HO_3.out).2.2 (ji8) p203 q203
                  obtain rfl : ad199 = ad203 := (by injection e203)
                  replace p203 := eq_true p203
                  replace q203 := eq_true q203
                  refine start_ (n := 48) (S := fun w' => w'.cell? (ad197.add ((x4_1).toNat * 6)) = some (.int .i64 ((rd_T51 l0 x4_1).f0.f0)) ∧ w'.cell? ⟨(ad197.add ((x4_1).toNat * 6)).block, (ad197.add ((x4_1).toNat * 6)).off + 1, none⟩ = some (.int .i64 ((rd_T51 l0 x4_1).f0.f1)) ∧ w'.cell? ⟨(ad197.add ((x4_1).toNat * 6)).block, (ad197.add ((x4_1).toNat * 6)).off + 2, none⟩ = some (.int .i64 ((rd_T51 l0 x4_1).f1.f0)) ∧ w'.cell? ⟨(ad197.add ((x4_1).toNat * 6)).block, (ad197.add ((x4_1).toNat * 6)).off + 3, none⟩ = some (.int .i64 ((rd_T51 l0 x4_1).f1.f1)) ∧ w'.cell? ⟨(ad197.add ((x4_1).toNat * 6)).block, (ad197.add ((x4_1).toNat * 6)).off + 4, none⟩ = some (.int .i64 ((rd_T51 l0 x4_1).f1.f2)) ∧ w'.cell? ⟨(ad197.add ((x4_1).toNat * 6)).block, (ad197.add ((x4_1).toNat * 6)).off + 5, none⟩ = some (.int .i64 ((rd_T51 l0 x4_1).f1.f3)) ∧ w'.cell? (ad199.add (((ji8)).toNat * 6)) = some (.int .i64 ((rd_T51 x3_1 (ji8)).f0.f0)) ∧ w'.cell? ⟨(ad199.add (((ji8)).toNat * 6)).block, (ad199.add (((ji8)).toNat * 6)).off + 1, none⟩ = some (.int .i64 ((rd_T51 x3_1 (ji8)).f0.f1)) ∧ w'.cell? ⟨(ad199.add (((ji8)).toNat * 6)).block, (ad199.add (((ji8)).toNat * 6)).off + 2, none⟩ = some (.int .i64 ((rd_T51 x3_1 (ji8)).f1.f0)) ∧ w'.cell? ⟨(ad199.add (((ji8)).toNat * 6)).block, (ad199.add (((ji8)).toNat * 6)).off + 3, none⟩ = some (.int .i64 ((rd_T51 x3_1 (ji8)).f1.f1)) ∧ w'.cell? ⟨(ad199.add (((ji8)).toNat * 6)).block, (ad199.add (((ji8)).toNat * 6)).off + 4, none⟩ = some (.int .i64 ((rd_T51 x3_1 (ji8)).f1.f2)) ∧ w'.cell? ⟨(ad199.add (((ji8)).toNat * 6)).block, (ad199.add (((ji8)).toNat * 6)).off + 5, none⟩ = some (.int .i64 ((rd_T51 x3_1 (ji8)).f1.f3)) ∧ w'.cell? (ad197.add ((x4_1).toNat * 6)) = some (.int .i64 ((rd_T51 l0 x4_1).f0.f0)) ∧ w'.cell? ⟨(ad197.add ((x4_1).toNat * 6)).block, (ad197.add ((x4_1).toNat * 6)).off + 1, none⟩ = some (.int .i64 ((rd_T51 l0 x4_1).f0.f1)) ∧ w'.cell? ⟨(ad197.add ((x4_1).toNat * 6)).block, (ad197.add ((x4_1).toNat * 6)).off + 2, none⟩ = some (.int .i64 ((rd_T51 l0 x4_1).f1.f0)) ∧ w'.cell? ⟨(ad197.add ((x4_1).toNat * 6)).block, (ad197.add ((x4_1).toNat * 6)).off + 3, none⟩ = some (.int .i64 ((rd_T51 l0 x4_1).f1.f1)) ∧ w'.cell? ⟨(ad197.add ((x4_1).toNat * 6)).block, (ad197.add ((x4_1).toNat * 6)).off + 4, none⟩ = some (.int .i64 ((rd_T51 l0 x4_1).f1.f2)) ∧ w'.cell? ⟨(ad197.add ((x4_1).toNat * 6)).block, (ad197.add ((x4_1).toNat * 6)).off + 5, none⟩ = some (.int .i64 ((rd_T51 l0 x4_1).f1.f3)) ∧ w'.cell? (ad199.add (((ji8)).toNat * 6)) = some (.int .i64 ((rd_T51 x3_1 (ji8)).f0.f0)) ∧ w'.cell? ⟨(ad199.add (((ji8)).toNat * 6)).block, (ad199.add (((ji8)).toNat * 6)).off + 1, none⟩ = some (.int .i64 ((rd_T51 x3_1 (ji8)).f0.f1)) ∧ w'.cell? ⟨(ad199.add (((ji8)).toNat * 6)).block, (ad199.add (((ji8)).toNat * 6)).off + 2, none⟩ = some (.int .i64 ((rd_T51 x3_1 (ji8)).f1.f0)) ∧ w'.cell? ⟨(ad199.add (((ji8)).toNat * 6)).block, (ad199.add (((ji8)).toNat * 6)).off + 3, none⟩ = some (.int .i64 ((rd_T51 x3_1 (ji8)).f1.f1)) ∧ w'.cell? ⟨(ad199.add (((ji8)).toNat * 6)).block, (ad199.add (((ji8)).toNat * 6)).off + 4, none⟩ = some (.int .i64 ((rd_T51 x3_1 (ji8)).f1.f2)) ∧ w'.cell? ⟨(ad199.add (((ji8)).toNat * 6)).block, (ad199.add (((ji8)).toNat * 6)).off + 5, none⟩ = some (.int .i64 ((rd_T51 x3_1 (ji8)).f1.f3))) (ds := []) dq11_0 (by kernel_rfl) rfl rfl ⟨(pw_cell_below HB.out hw197_0), (pw_cell_below HB.out hw197_1), (pw_cell_below HB.out hw197_2), (pw_cell_below HB.out hw197_3), (pw_cell_below HB.out hw197_4), (pw_cell_below HB.out hw197_5), hx199_0, hx199_1, hx199_2, hx199_3, hx199_4, hx199_5, (pw_cell_below HB.out hw201_0), (pw_cell_below HB.out hw201_1), (pw_cell_below HB.out hw201_2), (pw_cell_below HB.out hw201_3), (pw_cell_below HB.out hw201_4), (pw_cell_below HB.out hw201_5), hx203_0, hx203_1, hx203_2, hx203_3, hx203_4, hx203_5⟩ (fun hHeld => ?_); refine with_tabW mapmakerref34_Items.tab6 mapmakerref34_Items.bits6 (fun HT_ HW_ => ?_)
                  generalize wr.drew = w52 at HO_3 HB hx197_0 hx197_1 hx197_2 hx197_3 hx197_4 hx197_5 hx199_0 hx199_1 hx199_2 hx199_3 hx199_4 hx199_5 hx201_0 hx201_1 hx201_2 hx201_3 hx201_4 hx201_5 hx203_0 hx203_1 hx203_2 hx203_3 hx203_4 hx203_5 hHeld ⊢
                  refine pure_ (i := 0) (N := some 15) (v := ?_) (a' := ?_) dq11_1 rfl rfl (any_of HT_.out (by kernel_rfl)) (fun _ _ _ h => h) (Or.inl ⟨by rfl, ?_⟩) ?_ ?_
                  rotate_left
                  ·intro w'
                   go_simp
                   with_reducible rfl
                  rotate_left
                  ·simp only [Act.put, dq11_n, i64_w, i32_w]
                   rfl
                  refine pure_ (i := 1) (N := some 16) (v := ?_) (a' := ?_) dq11_2 rfl rfl (any_of HT_.out (by kernel_rfl)) (fun _ _ _ h => h) (Or.inl ⟨by rfl, ?_⟩) ?_ ?_
                  rotate_left
                  ·intro w'
                   go_simp
                   with_reducible rfl
                  rotate_left
                  ·simp only [Act.put, dq11_n, i64_w, i32_w]
                   rfl
                  refine pure_ (i := 2) (N := some 17) (v := ?_) (a' := ?_) dq11_3 rfl rfl (any_of HT_.out (by kernel_rfl)) (fun _ _ _ h => h) (Or.inl ⟨by rfl, ?_⟩) ?_ ?_
                  rotate_left
                  ·intro w'
                   go_simp
                   with_reducible rfl
                  rotate_left
                  ·simp only [Act.put, dq11_n, i64_w, i32_w]
                   rfl
                  refine pure_ (i := 3) (N := some 18) (v := ?_) (a' := ?_) dq11_4 rfl rfl (any_of HT_.out (by kernel_rfl)) (fun _ _ _ h => h) (Or.inl ⟨by rfl, ?_⟩) ?_ ?_
                  rotate_left
                  ·intro w'
                   go_simp
                   with_reducible rfl
                  rotate_left
                  ·simp only [Act.put, dq11_n, i64_w, i32_w]
                   rfl
                  refine pure_ (i := 4) (N := some 19) (v := ?_) (a' := ?_) dq11_5 rfl rfl (any_of HT_.out (by kernel_rfl)) (fun _ _ _ h => h) (Or.inl ⟨by rfl, ?_⟩) ?_ ?_
                  rotate_left
                  ·intro w'
                   go_simp
                   with_reducible rfl
                  rotate_left
                  ·simp only [Act.put, dq11_n, i64_w, i32_w]
                   rfl
                  refine pure_ (i := 5) (N := some 20) (v := ?_) (a' := ?_) dq11_6 rfl rfl (any_of HT_.out (by kernel_rfl)) (fun _ _ _ h => h) (Or.inl ⟨by rfl, ?_⟩) ?_ ?_
                  rotate_left
                  ·intro w'
                   go_simp
                   with_reducible rfl
                  rotate_left
                  ·simp only [Act.put, dq11_n, i64_w, i32_w]
                   rfl
                  refine pure_ (i := 6) (N := some 21) (v := ?_) (a' := ?_) dq11_7 rfl rfl (any_of HT_.out (by kernel_rfl)) (fun _ _ _ h => h) (Or.inl ⟨by rfl, ?_⟩) ?_ ?_
                  rotate_left
                  ·intro w'
                   go_simp
                   with_reducible rfl
                  rotate_left
                  ·simp only [Act.put, dq11_n, i64_w, i32_w]
                   rfl
                  refine pure_ (i := 9) (N := some 24) (v := ?_) (a' := ?_) dq11_8 rfl rfl (any_of HT_.out (by kernel_rfl)) (fun _ _ _ h => h) (Or.inl ⟨by rfl, ?_⟩) ?_ ?_
                  rotate_left
                  ·intro w'
                   go_simp
                   with_reducible rfl
                  rotate_left
                  ·simp only [Act.put, dq11_n, i64_w, i32_w]
                   rfl
                  refine pure_ (i := 10) (N := some 25) (v := ?_) (a' := ?_) dq11_9 rfl rfl (any_of HT_.out (by kernel_rfl)) (fun _ _ _ h => h) (Or.inl ⟨by rfl, ?_⟩) ?_ ?_
                  rotate_left
                  ·intro w'
                   go_simp
                   with_reducible rfl
                  rotate_left
                  ·simp only [Act.put, dq11_n, i64_w, i32_w]
                   rfl
                  refine pure_ (i := 11) (N := some 26) (v := ?_) (a' := ?_) dq11_10 rfl rfl (any_of HT_.out (by kernel_rfl)) (fun _ _ _ h => h) (Or.inl ⟨by rfl, ?_⟩) ?_ ?_
                  rotate_left
                  ·intro w'
                   go_simp
                   with_reducible rfl
                  rotate_left
                  ·simp only [Act.put, dq11_n, i64_w, i32_w]
                   rfl
                  refine pure_ (i := 12) (N := some 27) (v := ?_) (a' := ?_) dq11_11 rfl rfl (any_of HT_.out (by kernel_rfl)) (fun _ _ _ h => h) (Or.inl ⟨by rfl, ?_⟩) ?_ ?_
                  rotate_left
                  ·intro w'
                   go_simp
                   with_reducible rfl
                  rotate_left
                  ·simp only [Act.put, dq11_n, i64_w, i32_w]
                   rfl
                  refine pure_ (i := 13) (N := some 28) (v := ?_) (a' := ?_) dq11_12 rfl rfl (any_of HT_.out (by kernel_rfl)) (fun _ _ _ h => h) (Or.inl ⟨by rfl, ?_⟩) ?_ ?_
                  rotate_left
                  ·intro w'
                   go_simp
                   with_reducible rfl
                  rotate_left
                  ·simp only [Act.put, dq11_n, i64_w, i32_w]
                   rfl
                  refine take_ (i := 7) (N := some 22) (v := ?_) (a' := ?_) dq11_13 rfl rfl (take_ofW HT_.out HW_.out (by kernel_rfl)) (fun _ _ _ h => h) (Or.inl ⟨by rfl, ?_⟩) hHeld ?_ ?_
                  rotate_left
                  ·rintro w' ⟨s0, s1, s2, s3, s4, s5, s6, s7, s8, s9, s10, s11, s12, s13, s14, s15, s16, s17, s18, s19, s20, s21, s22, s23⟩
                   go_simp
                   with_reducible rfl
                  rotate_left
                  ·simp only [Act.put, dq11_n, i64_w, i32_w]
                   rfl
                  refine take_ (i := 14) (N := some 29) (v := ?_) (a' := ?_) dq11_14 rfl rfl (take_ofW HT_.out HW_.out (by kernel_rfl)) (fun _ _ _ h => h) (Or.inl ⟨by rfl, ?_⟩) hHeld ?_ ?_
                  rotate_left
                  ·rintro w' ⟨s0, s1, s2, s3, s4, s5, s6, s7, s8, s9, s10, s11, s12, s13, s14, s15, s16, s17, s18, s19, s20, s21, s22, s23⟩
                   go_simp
                   with_reducible rfl
                  rotate_left
                  ·simp only [Act.put, dq11_n, i64_w, i32_w]
                   rfl
                  refine one_ (i := 8) (N := some 23) dq11_15 rfl rfl (one_of HT_.out (by kernel_rfl)) (by decide) (fun K hK => ?_)
                  refine goes_ Try.func40 (by kernel_rfl) rfl #[.agg #[.int .i64 ((rd_T51 l0 x4_1).f1.f0), .int .i64 ((rd_T51 l0 x4_1).f1.f1), .int .i64 ((rd_T51 l0 x4_1).f1.f2), .int .i64 ((rd_T51 l0 x4_1).f1.f3)]] (by rfl) rfl rfl (by (try simp only [List.map_toArray, List.map_cons, List.map_nil]); first | done | rfl | (simp only [List.length_drop, List.length_take]; rfl)) ?_
                  with_reducible refine (mapmakerref34_Key.calls k2 ((rd_T51 l0 x4_1).f1.f0) ((rd_T51 l0 x4_1).f1.f1) ((rd_T51 l0 x4_1).f1.f2) ((rd_T51 l0 x4_1).f1.f3) t198 _ A7.out).mono ?_
                  rintro e w53 ⟨rfl, hb⟩
                  have HS6_ := pw_cell_below hb hHeld.2.2.2.2.2.2.1
                  have HS7_ := pw_cell_below hb hHeld.2.2.2.2.2.2.2.1
                  have HS8_ := pw_cell_below hb hHeld.2.2.2.2.2.2.2.2.1
                  have HS9_ := pw_cell_below hb hHeld.2.2.2.2.2.2.2.2.2.1
                  have HS10_ := pw_cell_below hb hHeld.2.2.2.2.2.2.2.2.2.2.1
                  have HS11_ := pw_cell_below hb hHeld.2.2.2.2.2.2.2.2.2.2.2.1
                  have HS18_ := pw_cell_below hb hHeld.2.2.2.2.2.2.2.2.2.2.2.2.2.2.2.2.2.2.1
                  have HS19_ := pw_cell_below hb hHeld.2.2.2.2.2.2.2.2.2.2.2.2.2.2.2.2.2.2.2.1
                  have HS20_ := pw_cell_below hb hHeld.2.2.2.2.2.2.2.2.2.2.2.2.2.2.2.2.2.2.2.2.1
                  have HS21_ := pw_cell_below hb hHeld.2.2.2.2.2.2.2.2.2.2.2.2.2.2.2.2.2.2.2.2.2.1
                  have HS22_ := pw_cell_below hb hHeld.2.2.2.2.2.2.2.2.2.2.2.2.2.2.2.2.2.2.2.2.2.2.1
                  have HS23_ := pw_cell_below hb hHeld.2.2.2.2.2.2.2.2.2.2.2.2.2.2.2.2.2.2.2.2.2.2.2
                  refine ⟨_, rfl, ?_⟩
                  have n0_ := Aside0.mk (Kd.R_below (by (with_reducible repeat (first | apply Kd.R_alloc | apply Kd.R_drewN | apply Kd.R_drew)); exact HO_3.out) hb)
                  have n1_ := Aside0.mk (below_step (by repeat (first | (with_reducible first | exact HB.out | apply below_alloc | apply pw_below_drewN | apply below_drew1) | exact HB.out)) hb)
                  clear HO_3
                  clear HB
                  have HO_3 := n0_
                  have HB := n1_
                  clear n0_ n1_
                  (try clear hb)
                  (try clear hb2)
                  (try clear hk)
                  (try clear hi)
                  refine hK.out _ _ ⟨(pw_cell_below HB.out hw197_0), (pw_cell_below HB.out hw197_1), (pw_cell_below HB.out hw197_2), (pw_cell_below HB.out hw197_3), (pw_cell_below HB.out hw197_4), (pw_cell_below HB.out hw197_5), HS6_, HS7_, HS8_, HS9_, HS10_, HS11_, (pw_cell_below HB.out hw201_0), (pw_cell_below HB.out hw201_1), (pw_cell_below HB.out hw201_2), (pw_cell_below HB.out hw201_3), (pw_cell_below HB.out hw201_4), (pw_cell_below HB.out hw201_5), HS18_, HS19_, HS20_, HS21_, HS22_, HS23_⟩ (fun hHeld => ?_)
                  clear hK K
                  refine norm_ (a' := ?_) ?_ ?_
                  rotate_left
                  ·show Act.put _ (some 23) _ = _
                   simp only [Act.put, dq11_n, i64_w, i32_w]
                   rfl
                  refine one_ (i := 15) (N := some 30) dq11_16 rfl rfl (one_of HT_.out (by kernel_rfl)) (by decide) (fun K hK => ?_)
                  refine goes_ Try.func40 (by kernel_rfl) rfl #[.agg #[.int .i64 ((rd_T51 x3_1 (ji8)).f1.f0), .int .i64 ((rd_T51 x3_1 (ji8)).f1.f1), .int .i64 ((rd_T51 x3_1 (ji8)).f1.f2), .int .i64 ((rd_T51 x3_1 (ji8)).f1.f3)]] (by rfl) rfl rfl (by (try simp only [List.map_toArray, List.map_cons, List.map_nil]); first | done | (simp only [hji8]; rfl) | rfl | (simp only [List.length_drop, List.length_take]; rfl)) ?_
                  with_reducible refine (mapmakerref34_Key.calls k2 ((rd_T51 x3_1 (ji8)).f1.f0) ((rd_T51 x3_1 (ji8)).f1.f1) ((rd_T51 x3_1 (ji8)).f1.f2) ((rd_T51 x3_1 (ji8)).f1.f3) t200 _ A11.out).mono ?_
                  rintro e w54 ⟨rfl, hb⟩
                  have HS6_ := pw_cell_below hb hHeld.2.2.2.2.2.2.1
                  have HS7_ := pw_cell_below hb hHeld.2.2.2.2.2.2.2.1
                  have HS8_ := pw_cell_below hb hHeld.2.2.2.2.2.2.2.2.1
                  have HS9_ := pw_cell_below hb hHeld.2.2.2.2.2.2.2.2.2.1
                  have HS10_ := pw_cell_below hb hHeld.2.2.2.2.2.2.2.2.2.2.1
                  have HS11_ := pw_cell_below hb hHeld.2.2.2.2.2.2.2.2.2.2.2.1
                  have HS18_ := pw_cell_below hb hHeld.2.2.2.2.2.2.2.2.2.2.2.2.2.2.2.2.2.2.1
                  have HS19_ := pw_cell_below hb hHeld.2.2.2.2.2.2.2.2.2.2.2.2.2.2.2.2.2.2.2.1
                  have HS20_ := pw_cell_below hb hHeld.2.2.2.2.2.2.2.2.2.2.2.2.2.2.2.2.2.2.2.2.1
                  have HS21_ := pw_cell_below hb hHeld.2.2.2.2.2.2.2.2.2.2.2.2.2.2.2.2.2.2.2.2.2.1
                  have HS22_ := pw_cell_below hb hHeld.2.2.2.2.2.2.2.2.2.2.2.2.2.2.2.2.2.2.2.2.2.2.1
                  have HS23_ := pw_cell_below hb hHeld.2.2.2.2.2.2.2.2.2.2.2.2.2.2.2.2.2.2.2.2.2.2.2
                  refine ⟨_, rfl, ?_⟩
                  have n0_ := Aside0.mk (Kd.R_below (by (with_reducible repeat (first | apply Kd.R_alloc | apply Kd.R_drewN | apply Kd.R_drew)); exact HO_3.out) hb)
                  have n1_ := Aside0.mk (below_step (by repeat (first | (with_reducible first | exact HB.out | apply below_alloc | apply pw_below_drewN | apply below_drew1) | exact HB.out)) hb)
                  clear HO_3
                  clear HB
                  have HO_3 := n0_
                  have HB := n1_
                  clear n0_ n1_
                  (try clear hb)
                  (try clear hb2)
                  (try clear hk)
                  (try clear hi)
                  refine hK.out _ _ ⟨(pw_cell_below HB.out hw197_0), (pw_cell_below HB.out hw197_1), (pw_cell_below HB.out hw197_2), (pw_cell_below HB.out hw197_3), (pw_cell_below HB.out hw197_4), (pw_cell_below HB.out hw197_5), HS6_, HS7_, HS8_, HS9_, HS10_, HS11_, (pw_cell_below HB.out hw201_0), (pw_cell_below HB.out hw201_1), (pw_cell_below HB.out hw201_2), (pw_cell_below HB.out hw201_3), (pw_cell_below HB.out hw201_4), (pw_cell_below HB.out hw201_5), HS18_, HS19_, HS20_, HS21_, HS22_, HS23_⟩ (fun hHeld => ?_)
                  clear hK K
                  refine norm_ (a' := ?_) ?_ ?_
                  rotate_left
                  ·show Act.put _ (some 30) _ = _
                   simp only [Act.put, dq11_n, i64_w, i32_w]
                   rfl
                  refine pure_ (i := 16) (N := some 31) (v := ?_) (a' := ?_) dq11_17 rfl rfl (any_of HT_.out (by kernel_rfl)) (fun _ _ _ h => h) (Or.inl ⟨by rfl, ?_⟩) ?_ ?_
                  rotate_left
                  ·intro w'
                   go_simp
                   with_reducible rfl
                  rotate_left
                  ·simp only [Act.put, dq11_n, i64_w, i32_w]
                   rfl
                  refine pure_ (i := 17) (N := some 32) (v := ?_) (a' := ?_) dq11_18 rfl rfl (any_of HT_.out (by kernel_rfl)) (fun _ _ _ h => h) (Or.inl ⟨by rfl, ?_⟩) ?_ ?_
                  rotate_left
                  ·intro w'
                   go_simp
                   with_reducible rfl
                  rotate_left
                  ·simp only [Act.put, dq11_n, i64_w, i32_w]
                   rfl
                  refine pure_ (i := 18) (N := some 33) (v := ?_) (a' := ?_) dq11_19 rfl rfl (any_of HT_.out (by kernel_rfl)) (fun _ _ _ h => h) (Or.inl ⟨by rfl, ?_⟩) ?_ ?_
                  rotate_left
                  ·intro w'
                   go_simp
                   with_reducible rfl
                  rotate_left
                  ·simp only [Act.put, dq11_n, i64_w, i32_w]
                   rfl
                  refine pure_ (i := 19) (N := some 34) (v := ?_) (a' := ?_) dq11_20 rfl rfl (any_of HT_.out (by kernel_rfl)) (fun _ _ _ h => h) (Or.inl ⟨by rfl, ?_⟩) ?_ ?_
                  rotate_left
                  ·intro w'
                   go_simp
                   with_reducible rfl
                  rotate_left
                  ·simp only [Act.put, dq11_n, i64_w, i32_w]
                   rfl
                  refine pure_ (i := 20) (N := some 35) (v := ?_) (a' := ?_) dq11_21 rfl rfl (any_of HT_.out (by kernel_rfl)) (fun _ _ _ h => h) (Or.inl ⟨by rfl, ?_⟩) ?_ ?_
                  rotate_left
                  ·intro w'
                   go_simp
                   with_reducible rfl
                  rotate_left
                  ·simp only [Act.put, dq11_n, i64_w, i32_w]
                   rfl
                  refine pure_ (i := 21) (N := some 36) (v := ?_) (a' := ?_) dq11_22 rfl rfl (any_of HT_.out (by kernel_rfl)) (fun _ _ _ h => h) (Or.inl ⟨by rfl, ?_⟩) ?_ ?_
                  rotate_left
                  ·intro w'
                   go_simp
                   with_reducible rfl
                  rotate_left
                  ·simp only [Act.put, dq11_n, i64_w, i32_w]
                   rfl
                  refine pure_ (i := 24) (N := some 39) (v := ?_) (a' := ?_) dq11_49 rfl rfl (any_of HT_.out (by kernel_rfl)) (fun _ _ _ h => h) (Or.inl ⟨by rfl, ?_⟩) ?_ ?_
                  rotate_left
                  ·intro w'
                   go_simp
                   with_reducible rfl
                  rotate_left
                  ·simp only [Act.put, dq11_n, i64_w, i32_w]
                   rfl
                  refine pure_ (i := 25) (N := some 40) (v := ?_) (a' := ?_) dq11_50 rfl rfl (any_of HT_.out (by kernel_rfl)) (fun _ _ _ h => h) (Or.inl ⟨by rfl, ?_⟩) ?_ ?_
                  rotate_left
                  ·intro w'
                   go_simp
                   with_reducible rfl
                  rotate_left
                  ·simp only [Act.put, dq11_n, i64_w, i32_w]
                   rfl
                  refine pure_ (i := 26) (N := some 41) (v := ?_) (a' := ?_) dq11_51 rfl rfl (any_of HT_.out (by kernel_rfl)) (fun _ _ _ h => h) (Or.inl ⟨by rfl, ?_⟩) ?_ ?_
                  rotate_left
                  ·intro w'
                   go_simp
                   with_reducible rfl
                  rotate_left
                  ·simp only [Act.put, dq11_n, i64_w, i32_w]
                   rfl
                  refine pure_ (i := 27) (N := some 42) (v := ?_) (a' := ?_) dq11_52 rfl rfl (any_of HT_.out (by kernel_rfl)) (fun _ _ _ h => h) (Or.inl ⟨by rfl, ?_⟩) ?_ ?_
                  rotate_left
                  ·intro w'
                   go_simp
                   with_reducible rfl
                  rotate_left
                  ·simp only [Act.put, dq11_n, i64_w, i32_w]
                   rfl
                  refine pure_ (i := 28) (N := some 43) (v := ?_) (a' := ?_) dq11_53 rfl rfl (any_of HT_.out (by kernel_rfl)) (fun _ _ _ h => h) (Or.inl ⟨by rfl, ?_⟩) ?_ ?_
                  rotate_left
                  ·intro w'
                   go_simp
                   with_reducible rfl
                  rotate_left
                  ·simp only [Act.put, dq11_n, i64_w, i32_w]
                   rfl
                  refine take_ (i := 22) (N := some 37) (v := ?_) (a' := ?_) dq11_54 rfl rfl (take_ofW HT_.out HW_.out (by kernel_rfl)) (fun _ _ _ h => h) (Or.inl ⟨by rfl, ?_⟩) hHeld ?_ ?_
                  rotate_left
                  ·rintro w' ⟨s0, s1, s2, s3, s4, s5, s6, s7, s8, s9, s10, s11, s12, s13, s14, s15, s16, s17, s18, s19, s20, s21, s22, s23⟩
                   go_simp
                   with_reducible rfl
                  rotate_left
                  ·simp only [Act.put, dq11_n, i64_w, i32_w]
                   rfl
                  refine take_ (i := 29) (N := some 44) (v := ?_) (a' := ?_) dq11_55 rfl rfl (take_ofW HT_.out HW_.out (by kernel_rfl)) (fun _ _ _ h => h) (Or.inl ⟨by rfl, ?_⟩) hHeld ?_ ?_
                  rotate_left
                  ·rintro w' ⟨s0, s1, s2, s3, s4, s5, s6, s7, s8, s9, s10, s11, s12, s13, s14, s15, s16, s17, s18, s19, s20, s21, s22, s23⟩
                   go_simp
                   with_reducible rfl
                  rotate_left
                  ·simp only [Act.put, dq11_n, i64_w, i32_w]
                   rfl
                  refine one_ (i := 23) (N := some 38) dq11_30 rfl rfl (one_of HT_.out (by kernel_rfl)) (by decide) (fun K hK => ?_)
                  refine goes_ Try.func40 (by kernel_rfl) rfl #[.agg #[.int .i64 ((rd_T51 l0 x4_1).f1.f0), .int .i64 ((rd_T51 l0 x4_1).f1.f1), .int .i64 ((rd_T51 l0 x4_1).f1.f2), .int .i64 ((rd_T51 l0 x4_1).f1.f3)]] (by rfl) rfl rfl (by (try simp only [List.map_toArray, List.map_cons, List.map_nil]); first | done | rfl | (simp only [List.length_drop, List.length_take]; rfl)) ?_
                  with_reducible refine (mapmakerref34_Key.calls k2 ((rd_T51 l0 x4_1).f1.f0) ((rd_T51 l0 x4_1).f1.f1) ((rd_T51 l0 x4_1).f1.f2) ((rd_T51 l0 x4_1).f1.f3) t202 _ A16.out).mono ?_
                  rintro e w55 ⟨rfl, hb⟩
                  have HS6_ := pw_cell_below hb hHeld.2.2.2.2.2.2.1
                  have HS7_ := pw_cell_below hb hHeld.2.2.2.2.2.2.2.1
                  have HS8_ := pw_cell_below hb hHeld.2.2.2.2.2.2.2.2.1
                  have HS9_ := pw_cell_below hb hHeld.2.2.2.2.2.2.2.2.2.1
                  have HS10_ := pw_cell_below hb hHeld.2.2.2.2.2.2.2.2.2.2.1
                  have HS11_ := pw_cell_below hb hHeld.2.2.2.2.2.2.2.2.2.2.2.1
                  have HS18_ := pw_cell_below hb hHeld.2.2.2.2.2.2.2.2.2.2.2.2.2.2.2.2.2.2.1
                  have HS19_ := pw_cell_below hb hHeld.2.2.2.2.2.2.2.2.2.2.2.2.2.2.2.2.2.2.2.1
                  have HS20_ := pw_cell_below hb hHeld.2.2.2.2.2.2.2.2.2.2.2.2.2.2.2.2.2.2.2.2.1
                  have HS21_ := pw_cell_below hb hHeld.2.2.2.2.2.2.2.2.2.2.2.2.2.2.2.2.2.2.2.2.2.1
                  have HS22_ := pw_cell_below hb hHeld.2.2.2.2.2.2.2.2.2.2.2.2.2.2.2.2.2.2.2.2.2.2.1
                  have HS23_ := pw_cell_below hb hHeld.2.2.2.2.2.2.2.2.2.2.2.2.2.2.2.2.2.2.2.2.2.2.2
                  refine ⟨_, rfl, ?_⟩
                  have n0_ := Aside0.mk (Kd.R_below (by (with_reducible repeat (first | apply Kd.R_alloc | apply Kd.R_drewN | apply Kd.R_drew)); exact HO_3.out) hb)
                  have n1_ := Aside0.mk (below_step (by repeat (first | (with_reducible first | exact HB.out | apply below_alloc | apply pw_below_drewN | apply below_drew1) | exact HB.out)) hb)
                  clear HO_3
                  clear HB
                  have HO_3 := n0_
                  have HB := n1_
                  clear n0_ n1_
                  (try clear hb)
                  (try clear hb2)
                  (try clear hk)
                  (try clear hi)
                  refine hK.out _ _ ⟨(pw_cell_below HB.out hw197_0), (pw_cell_below HB.out hw197_1), (pw_cell_below HB.out hw197_2), (pw_cell_below HB.out hw197_3), (pw_cell_below HB.out hw197_4), (pw_cell_below HB.out hw197_5), HS6_, HS7_, HS8_, HS9_, HS10_, HS11_, (pw_cell_below HB.out hw201_0), (pw_cell_below HB.out hw201_1), (pw_cell_below HB.out hw201_2), (pw_cell_below HB.out hw201_3), (pw_cell_below HB.out hw201_4), (pw_cell_below HB.out hw201_5), HS18_, HS19_, HS20_, HS21_, HS22_, HS23_⟩ (fun hHeld => ?_)
                  clear hK K
                  refine norm_ (a' := ?_) ?_ ?_
                  rotate_left
                  ·show Act.put _ (some 38) _ = _
                   simp only [Act.put, dq11_n, i64_w, i32_w]
                   rfl
                  refine one_ (i := 30) (N := some 45) dq11_31 rfl rfl (one_of HT_.out (by kernel_rfl)) (by decide) (fun K hK => ?_)
                  refine goes_ Try.func40 (by kernel_rfl) rfl #[.agg #[.int .i64 ((rd_T51 x3_1 (ji8)).f1.f0), .int .i64 ((rd_T51 x3_1 (ji8)).f1.f1), .int .i64 ((rd_T51 x3_1 (ji8)).f1.f2), .int .i64 ((rd_T51 x3_1 (ji8)).f1.f3)]] (by rfl) rfl rfl (by (try simp only [List.map_toArray, List.map_cons, List.map_nil]); first | done | (simp only [hji8]; rfl) | rfl | (simp only [List.length_drop, List.length_take]; rfl)) ?_
                  with_reducible refine (mapmakerref34_Key.calls k2 ((rd_T51 x3_1 (ji8)).f1.f0) ((rd_T51 x3_1 (ji8)).f1.f1) ((rd_T51 x3_1 (ji8)).f1.f2) ((rd_T51 x3_1 (ji8)).f1.f3) t204 _ A17.out).mono ?_
                  rintro e w56 ⟨rfl, hb⟩
                  have HS6_ := pw_cell_below hb hHeld.2.2.2.2.2.2.1
                  have HS7_ := pw_cell_below hb hHeld.2.2.2.2.2.2.2.1
                  have HS8_ := pw_cell_below hb hHeld.2.2.2.2.2.2.2.2.1
                  have HS9_ := pw_cell_below hb hHeld.2.2.2.2.2.2.2.2.2.1
                  have HS10_ := pw_cell_below hb hHeld.2.2.2.2.2.2.2.2.2.2.1
                  have HS11_ := pw_cell_below hb hHeld.2.2.2.2.2.2.2.2.2.2.2.1
                  have HS18_ := pw_cell_below hb hHeld.2.2.2.2.2.2.2.2.2.2.2.2.2.2.2.2.2.2.1
                  have HS19_ := pw_cell_below hb hHeld.2.2.2.2.2.2.2.2.2.2.2.2.2.2.2.2.2.2.2.1
                  have HS20_ := pw_cell_below hb hHeld.2.2.2.2.2.2.2.2.2.2.2.2.2.2.2.2.2.2.2.2.1
                  have HS21_ := pw_cell_below hb hHeld.2.2.2.2.2.2.2.2.2.2.2.2.2.2.2.2.2.2.2.2.2.1
                  have HS22_ := pw_cell_below hb hHeld.2.2.2.2.2.2.2.2.2.2.2.2.2.2.2.2.2.2.2.2.2.2.1
                  have HS23_ := pw_cell_below hb hHeld.2.2.2.2.2.2.2.2.2.2.2.2.2.2.2.2.2.2.2.2.2.2.2
                  refine ⟨_, rfl, ?_⟩
                  have n0_ := Aside0.mk (Kd.R_below (by (with_reducible repeat (first | apply Kd.R_alloc | apply Kd.R_drewN | apply Kd.R_drew)); exact HO_3.out) hb)
                  have n1_ := Aside0.mk (below_step (by repeat (first | (with_reducible first | exact HB.out | apply below_alloc | apply pw_below_drewN | apply below_drew1) | exact HB.out)) hb)
                  clear HO_3
                  clear HB
                  have HO_3 := n0_
                  have HB := n1_
                  clear n0_ n1_
                  (try clear hb)
                  (try clear hb2)
                  (try clear hk)
                  (try clear hi)
                  refine hK.out _ _ ⟨(pw_cell_below HB.out hw197_0), (pw_cell_below HB.out hw197_1), (pw_cell_below HB.out hw197_2), (pw_cell_below HB.out hw197_3), (pw_cell_below HB.out hw197_4), (pw_cell_below HB.out hw197_5), HS6_, HS7_, HS8_, HS9_, HS10_, HS11_, (pw_cell_below HB.out hw201_0), (pw_cell_below HB.out hw201_1), (pw_cell_below HB.out hw201_2), (pw_cell_below HB.out hw201_3), (pw_cell_below HB.out hw201_4), (pw_cell_below HB.out hw201_5), HS18_, HS19_, HS20_, HS21_, HS22_, HS23_⟩ (fun hHeld => ?_)
                  clear hK K
                  refine norm_ (a' := ?_) ?_ ?_
                  rotate_left
                  ·show Act.put _ (some 45) _ = _
                   simp only [Act.put, dq11_n, i64_w, i32_w]
                   rfl
                  refine pure_ (i := 31) (N := some 46) (v := ?_) (a' := ?_) dq11_32 rfl rfl (any_of HT_.out (by kernel_rfl)) (fun _ _ _ h => h) (Or.inl ⟨by rfl, ?_⟩) ?_ ?_
                  rotate_left
                  ·intro w'
                   go_simp
                   with_reducible rfl
                  rotate_left
                  ·simp only [Act.put, dq11_n, i64_w, i32_w]
                   rfl
                  refine pure_ (i := 32) (N := some 47) (v := ?_) (a' := ?_) dq11_33 rfl rfl (any_of HT_.out (by kernel_rfl)) (fun _ _ _ h => h) (Or.inl ⟨by rfl, ?_⟩) ?_ ?_
                  rotate_left
                  ·intro w'
                   go_simp
                   with_reducible rfl
                  rotate_left
                  ·simp only [Act.put, dq11_n, i64_w, i32_w]
                   rfl
                  refine pure_ (i := 33) (N := some 48) (v := undef) (a' := ?_) dq11_34 rfl rfl (any_of HT_.out (by kernel_rfl)) (fun _ _ _ h => h) (Or.inr ⟨by rfl, rfl⟩) ?_ ?_
                  rotate_left
                  ·simp only [Act.put, dq11_n, i64_w, i32_w]
                   rfl
                  refine pure_ (i := 34) (N := some 49) (v := undef) (a' := ?_) dq11_35 rfl rfl (any_of HT_.out (by kernel_rfl)) (fun _ _ _ h => h) (Or.inr ⟨by rfl, rfl⟩) ?_ ?_
                  rotate_left
                  ·simp only [Act.put, dq11_n, i64_w, i32_w]
                   rfl
                  refine pure_ (i := 35) (N := some 50) (v := undef) (a' := ?_) dq11_36 rfl rfl (any_of HT_.out (by kernel_rfl)) (fun _ _ _ h => h) (Or.inr ⟨by rfl, rfl⟩) ?_ ?_
                  rotate_left
                  ·simp only [Act.put, dq11_n, i64_w, i32_w]
                   rfl
                  refine pure_ (i := 36) (N := some 51) (v := undef) (a' := ?_) dq11_37 rfl rfl (any_of HT_.out (by kernel_rfl)) (fun _ _ _ h => h) (Or.inr ⟨by rfl, rfl⟩) ?_ ?_
                  rotate_left
                  ·simp only [Act.put, dq11_n, i64_w, i32_w]
                   rfl
                  refine pure_ (i := 37) (N := some 52) (v := undef) (a' := ?_) dq11_38 rfl rfl (any_of HT_.out (by kernel_rfl)) (fun _ _ _ h => h) (Or.inr ⟨by rfl, rfl⟩) ?_ ?_
                  rotate_left
                  ·simp only [Act.put, dq11_n, i64_w, i32_w]
                   rfl
                  refine pure_ (i := 38) (N := some 53) (v := undef) (a' := ?_) dq11_39 rfl rfl (any_of HT_.out (by kernel_rfl)) (fun _ _ _ h => h) (Or.inr ⟨by rfl, rfl⟩) ?_ ?_
                  rotate_left
                  ·simp only [Act.put, dq11_n, i64_w, i32_w]
                   rfl
                  refine pure_ (i := 39) (N := some 54) (v := undef) (a' := ?_) dq11_40 rfl rfl (any_of HT_.out (by kernel_rfl)) (fun _ _ _ h => h) (Or.inr ⟨by rfl, rfl⟩) ?_ ?_
                  rotate_left
                  ·simp only [Act.put, dq11_n, i64_w, i32_w]
                   rfl
                  refine pure_ (i := 40) (N := some 55) (v := undef) (a' := ?_) dq11_41 rfl rfl (any_of HT_.out (by kernel_rfl)) (fun _ _ _ h => h) (Or.inr ⟨by rfl, rfl⟩) ?_ ?_
                  rotate_left
                  ·simp only [Act.put, dq11_n, i64_w, i32_w]
                   rfl
                  refine pure_ (i := 41) (N := some 56) (v := undef) (a' := ?_) dq11_42 rfl rfl (any_of HT_.out (by kernel_rfl)) (fun _ _ _ h => h) (Or.inr ⟨by rfl, rfl⟩) ?_ ?_
                  rotate_left
                  ·simp only [Act.put, dq11_n, i64_w, i32_w]
                   rfl
                  refine pure_ (i := 42) (N := some 57) (v := undef) (a' := ?_) dq11_43 rfl rfl (any_of HT_.out (by kernel_rfl)) (fun _ _ _ h => h) (Or.inr ⟨by rfl, rfl⟩) ?_ ?_
                  rotate_left
                  ·simp only [Act.put, dq11_n, i64_w, i32_w]
                   rfl
                  refine pure_ (i := 43) (N := some 58) (v := undef) (a' := ?_) dq11_44 rfl rfl (any_of HT_.out (by kernel_rfl)) (fun _ _ _ h => h) (Or.inr ⟨by rfl, rfl⟩) ?_ ?_
                  rotate_left
                  ·simp only [Act.put, dq11_n, i64_w, i32_w]
                   rfl
                  refine pure_ (i := 44) (N := some 59) (v := undef) (a' := ?_) dq11_45 rfl rfl (any_of HT_.out (by kernel_rfl)) (fun _ _ _ h => h) (Or.inr ⟨by rfl, rfl⟩) ?_ ?_
                  rotate_left
                  ·simp only [Act.put, dq11_n, i64_w, i32_w]
                   rfl
                  refine pure_ (i := 45) (N := some 60) (v := ?_) (a' := ?_) dq11_46 rfl rfl (any_of HT_.out (by kernel_rfl)) (fun _ _ _ h => h) (Or.inl ⟨by rfl, ?_⟩) ?_ ?_
                  rotate_left
                  ·intro w'
                   go_simp
                   with_reducible rfl
                  rotate_left
                  ·simp only [Act.put, dq11_n, i64_w, i32_w]
                   rfl
                  refine pure_ (i := 46) (N := some 61) (v := ?_) (a' := ?_) dq11_47 rfl rfl (any_of HT_.out (by kernel_rfl)) (fun _ _ _ h => h) (Or.inl ⟨by rfl, ?_⟩) ?_ ?_
                  rotate_left
                  ·intro w'
                   go_simp
                   with_reducible rfl
                  rotate_left
                  ·simp only [Act.put, dq11_n, i64_w, i32_w]
                   rfl
                  refine pure_ (i := 47) (N := some 62) (v := ?_) (a' := ?_) dq11_48 rfl rfl (any_of HT_.out (by kernel_rfl)) (fun _ _ _ h => h) (Or.inl ⟨by rfl, ?_⟩) ?_ ?_
                  rotate_left
                  ·intro w'
                   go_simp
                   with_reducible rfl
                  rotate_left
                  ·simp only [Act.put, dq11_n, i64_w, i32_w]
                   rfl
                  refine done_ (done_of HT_.out (by kernel_rfl)) ?_
                  have q57 : (x5_2 : Int) ≤ ((x3_1.length : Int) : Int) := of_decide_eq_true (by first | (with_reducible assumption) | assumption)
                  obtain ⟨i057, hi057, _, hsz57, _⟩ := info_parts info51
                  have hroom57 : x3_1.length ≤ co3 := (Kd.R_reads' HO_3.out).2.1
                  have hC57 : Kd.C k51 _ (some ad199) x3_1.length x3_1 := (Kd.R_reads' HO_3.out).2.2
                  have hcut57 := cut_to (P := Try.prog) 22 51 .i64 Try.underlying22 hi057 (some ad199) x3_1.length co3 x5_2 (of_decide_eq_true (by first | (with_reducible assumption) | assumption)) q57 hroom57
                  have hr57 := Kd.C_take (m := (x5_2 : Int).toNat) hC57 (by omega)
                  have hy57 : y226.length = (x5_2 : Int).toNat := (by rw [Ny226.out, List.length_take]; omega)
                  rw [← Ny226.out] at hr57
                  rw [← hy57] at hcut57
                  have HR229 := Aside0.mk hr57
                  have HC229 := Aside0.mk (show y226.length ≤ co3 from by omega)
                  clear hr57 hC57 hroom57 hi057 hsz57
                  have KY57 := Aside0.mk hy57
                  clear hy57
                  have KL57 := Aside0.mk (show (x5_2 : Int).toNat ≤ x3_1.length from by omega)
                  replace q57 := eq_true q57
                  try go_wp2_with (first | ((with_reducible refine gate_builtin (b := .append) (xs := #[.tmp 65, .tmp 68]) rfl ?_); at_builtin; refine Kd.R_append_rows k51 (w0 := w) w.heap.size rfl (.tmp 65) (.tmp 68) 22 51 (.agg #[(.int .i64 0), (.int .i64 0), (.int .i64 0), (.int .i64 0), (.int .i64 0), (.int .i64 0)]) 48 rfl Try.underlying22 info51 rfl (by decide) (by omega) (.slice none 0 0) ([] : List (S51)) y226 _ _ _ (fun k_ => some k_ ≠ (.slice (some ad199) x3_1.length co3 : Value).ownBlock) (fun _ => False) rfl rfl ?aO ?aR (fun _ _ h => h) (fun _ h => h.elim) ?aF ?aB ?aS ?aL ?_; (case aR => repeat (first | exact (by repeat (first | (with_reducible exact HR229.out) | (with_reducible refine Kd.C_alloc ?_ _) | (with_reducible refine Kd.C_drewN ?_ _) | (with_reducible refine Kd.C_drew ?_) | exact HR229.out)) | (with_reducible refine Kd.C_alloc ?_ _) | (with_reducible refine Kd.C_drewN ?_ _) | (with_reducible refine Kd.C_drew ?_))); (case aB => exact (by repeat (first | (with_reducible first | exact HB.out | apply below_alloc | apply pw_below_drewN | apply below_drew1) | exact HB.out))); (case aF => exact (fun k_ hk => Kd.fresh' (Kd.R_lt (by (with_reducible repeat (first | apply Kd.R_alloc | apply Kd.R_drewN | apply Kd.R_drew)); exact HO_3.out)) k_ hk)); (case aO => exact ((Kd.R_nil _ _ _ _ (fun k_ => some k_ ≠ (.slice (some ad199) x3_1.length co3 : Value).ownBlock)))); (case aS => exact (below_size (by repeat (first | (with_reducible first | exact HB.out | apply below_alloc | apply pw_below_drewN | apply below_drew1) | exact HB.out)))); (case aL => have := LMc47.out; omega); intro v231 w58 ho hb hg hat; rw [← Ny230.out] at ho; have n0_ := Aside0.mk (Kd.R_after (Kd.R_apart_nil (by (with_reducible repeat (first | apply Kd.R_alloc | apply Kd.R_drewN | apply Kd.R_drew)); exact HO_3.out)) hg hat); have n1_ := Aside0.mk (hb); have n2_ := Aside0.mk ((show Kd.C k51 w58 (some ad199) y226.length y226 from by rw [Ny226.out]; exact Kd.C_take (m := (x5_2 : Int).toNat) ((Kd.R_reads' (Kd.R_after (Kd.R_apart_nil (by (with_reducible repeat (first | apply Kd.R_alloc | apply Kd.R_drewN | apply Kd.R_drew)); exact HO_3.out)) hg hat)).2.2) KL57.out)); have n3_ := Aside0.mk (ho); clear HO_3; clear HB; clear HR229; have HO_3 := n0_; have HB := n1_; have HR229 := n2_; have HO232 := n3_; clear n0_ n1_ n2_ n3_; clear ho hb hg hat; have p233 : 0 ≤ (x4_1 : Int) := of_decide_eq_true (by first | (with_reducible assumption) | assumption); have q233 : x4_1 < (l0.length : Int) := of_decide_eq_true (by first | (with_reducible assumption) | assumption); obtain ⟨ad233, e233, hx233_0, hx233_1, hx233_2, hx233_3, hx233_4, hx233_5⟩ := at_T51 HR0.out x4_1 p233 q233; obtain rfl : ad197 = ad233 := (by injection e233); replace hx233_0 := (HB.out.cell (World.block_lt_of_cell? w _ hx233_0)).trans hx233_0; replace hx233_1 := (HB.out.cell (World.block_lt_of_cell? w _ hx233_1)).trans hx233_1; replace hx233_2 := (HB.out.cell (World.block_lt_of_cell? w _ hx233_2)).trans hx233_2; replace hx233_3 := (HB.out.cell (World.block_lt_of_cell? w _ hx233_3)).trans hx233_3; replace hx233_4 := (HB.out.cell (World.block_lt_of_cell? w _ hx233_4)).trans hx233_4; replace hx233_5 := (HB.out.cell (World.block_lt_of_cell? w _ hx233_5)).trans hx233_5; replace p233 := eq_true p233; replace q233 := eq_true q233) | ((with_reducible refine gate_builtin (b := .append) (xs := #[.tmp 70, .tmp 75]) rfl ?_); at_builtin; refine Kd.R_append k51 (w0 := w) w.heap.size rfl (.tmp 70) (.tmp 75) 22 51 (.agg #[(.int .i64 0), (.int .i64 0), (.int .i64 0), (.int .i64 0), (.int .i64 0), (.int .i64 0)]) 48 rfl Try.underlying22 info51 rfl (by decide) (by omega) v231 y230 (⟨(⟨(rd_T51 l0 x4_1).f0.f0, (rd_T51 l0 x4_1).f0.f1⟩ : S49), (⟨(rd_T51 l0 x4_1).f1.f0, (rd_T51 l0 x4_1).f1.f1, (rd_T51 l0 x4_1).f1.f2, (rd_T51 l0 x4_1).f1.f3⟩ : S24)⟩ : S51) [.int .i64 ((rd_T51 l0 x4_1).f0.f0), .int .i64 ((rd_T51 l0 x4_1).f0.f1), .int .i64 ((rd_T51 l0 x4_1).f1.f0), .int .i64 ((rd_T51 l0 x4_1).f1.f1), .int .i64 ((rd_T51 l0 x4_1).f1.f2), .int .i64 ((rd_T51 l0 x4_1).f1.f3)] (fun k_ => some k_ ≠ (.slice (some ad199) x3_1.length co3 : Value).ownBlock) (fun _ => False) rfl rfl ?aP (fun _ hk => hk.elim) ?aF ?aO ?aB ?aS ?aL ?_; (case aP => exact k51_mkM _ _ _ (⟨(⟨(rd_T51 l0 x4_1).f0.f0, (rd_T51 l0 x4_1).f0.f1⟩ : S49), (⟨(rd_T51 l0 x4_1).f1.f0, (rd_T51 l0 x4_1).f1.f1, (rd_T51 l0 x4_1).f1.f2, (rd_T51 l0 x4_1).f1.f3⟩ : S24)⟩ : S51)); (case aB => exact (by repeat (first | (with_reducible first | exact HB.out | apply below_alloc | apply pw_below_drewN | apply below_drew1) | exact HB.out))); (case aF => exact (fun k_ hk => Kd.fresh' (Kd.R_lt (by (with_reducible repeat (first | apply Kd.R_alloc | apply Kd.R_drewN | apply Kd.R_drew)); exact HO_3.out)) k_ hk)); (case aO => exact (by (with_reducible repeat (first | apply Kd.R_alloc | apply Kd.R_drewN | apply Kd.R_drew)); exact HO232.out)); (case aS => exact (below_size (by repeat (first | (with_reducible first | exact HB.out | apply below_alloc | apply pw_below_drewN | apply below_drew1) | exact HB.out)))); (case aL => have := LMc48.out; omega); intro v235 w59 ho hb hg hat; rw [← Ny234.out] at ho; have n0_ := Aside0.mk (Kd.R_after (ok := (fun _ => True)) (by (with_reducible repeat (first | apply Kd.R_alloc | apply Kd.R_drewN | apply Kd.R_drew)); exact HO_3.out) hg hat); have n1_ := Aside0.mk (hb); have n2_ := Aside0.mk ((show Kd.C k51 w59 (some ad199) y226.length y226 from by rw [Ny226.out]; exact Kd.C_take (m := (x5_2 : Int).toNat) ((Kd.R_reads' (Kd.R_after (ok := (fun _ => True)) (by (with_reducible repeat (first | apply Kd.R_alloc | apply Kd.R_drewN | apply Kd.R_drew)); exact HO_3.out) hg hat)).2.2) KL57.out)); have n3_ := Aside0.mk (ho); clear HO_3; clear HB; clear HR229; clear HO232; have HO_3 := n0_; have HB := n1_; have HR229 := n2_; have HO236 := n3_; clear n0_ n1_ n2_ n3_; clear ho hb hg hat; have q60 : (x5_2 : Int) ≤ ((x3_1.length : Int) : Int) := of_decide_eq_true (by first | (with_reducible assumption) | assumption); obtain ⟨i060, hi060, _, hsz60, _⟩ := info_parts info51; have hroom60 : x3_1.length ≤ co3 := (Kd.R_reads' HO_3.out).2.1; have hC60 : Kd.C k51 _ (some ad199) x3_1.length x3_1 := (Kd.R_reads' HO_3.out).2.2; have q060 : (0 : Int) ≤ (x5_2 : Int) := of_decide_eq_true (by first | (with_reducible assumption) | assumption); have hcut60 := cut_from (P := Try.prog) 22 51 .i64 Try.underlying22 hi060 6 hsz60 (some ad199) x3_1.length co3 x5_2 q060 q60; have hr60 := Kd.C_drop (m := (x5_2 : Int).toNat) (c := co3) hC60 (by omega) hroom60; obtain ⟨A60, hA60⟩ : ∃ A1, A1 = (if co3 = (x5_2 : Int).toNat then (some ad199) else ((some ad199) : Option Addr).map (·.add ((x5_2 : Int).toNat * 6))) := ⟨_, rfl⟩; obtain ⟨c60, hc60⟩ : ∃ c1, c1 = co3 - (x5_2 : Int).toNat := ⟨_, rfl⟩; have hy60 : y237.length = x3_1.length - (x5_2 : Int).toNat := (by rw [Ny237.out, List.length_drop] <;> omega); rw [show (x3_1).drop (x5_2 : Int).toNat = y237 from Ny237.out.symm] at hr60; replace hr60 : Kd.C k51 _ A60 y237.length y237 := (by rw [hA60]; exact hr60); rw [← hy60, ← hA60, ← hc60] at hcut60; have HR240 := Aside0.mk hr60; have HC240 := Aside0.mk (show y237.length ≤ c60 from by rw [hy60, hc60]; exact Nat.sub_le_sub_right hroom60 _); clear hr60 hC60 hroom60 hi060 hsz60 hc60; have KY60 := Aside0.mk hy60; have KA60 := Aside0.mk hA60; clear hy60 hA60; have KL60 := Aside0.mk (show (x5_2 : Int).toNat ≤ x3_1.length from by omega); replace q60 := eq_true q60) | ((with_reducible refine gate_builtin (b := .append) (xs := #[.tmp 77, .tmp 80]) rfl ?_); at_builtin; refine Kd.R_append_rows k51 (w0 := w) w.heap.size rfl (.tmp 77) (.tmp 80) 22 51 (.agg #[(.int .i64 0), (.int .i64 0), (.int .i64 0), (.int .i64 0), (.int .i64 0), (.int .i64 0)]) 48 rfl Try.underlying22 info51 rfl (by decide) (by omega) v235 y234 y237 _ _ _ (fun k_ => some k_ ≠ (.slice (some ad199) x3_1.length co3 : Value).ownBlock) (fun _ => False) rfl rfl ?aO ?aR (fun _ _ h => h) (fun _ h => h.elim) ?aF ?aB ?aS ?aL ?_; (case aR => repeat (first | exact (by repeat (first | (with_reducible exact HR240.out) | (with_reducible refine Kd.C_alloc ?_ _) | (with_reducible refine Kd.C_drewN ?_ _) | (with_reducible refine Kd.C_drew ?_) | exact HR240.out)) | (with_reducible refine Kd.C_alloc ?_ _) | (with_reducible refine Kd.C_drewN ?_ _) | (with_reducible refine Kd.C_drew ?_))); (case aB => exact (by repeat (first | (with_reducible first | exact HB.out | apply below_alloc | apply pw_below_drewN | apply below_drew1) | exact HB.out))); (case aF => exact (fun k_ hk => Kd.fresh' (Kd.R_lt (by (with_reducible repeat (first | apply Kd.R_alloc | apply Kd.R_drewN | apply Kd.R_drew)); exact HO_3.out)) k_ hk)); (case aO => exact (by (with_reducible repeat (first | apply Kd.R_alloc | apply Kd.R_drewN | apply Kd.R_drew)); exact HO236.out)); (case aS => exact (below_size (by repeat (first | (with_reducible first | exact HB.out | apply below_alloc | apply pw_below_drewN | apply below_drew1) | exact HB.out)))); (case aL => have := LMc51.out; omega); intro v242 w61 ho hb hg hat; rw [← Ny241.out] at ho; have n0_ := Aside0.mk (Kd.R_after (ok := (fun _ => True)) (by (with_reducible repeat (first | apply Kd.R_alloc | apply Kd.R_drewN | apply Kd.R_drew)); exact HO_3.out) hg hat); have n1_ := Aside0.mk (hb); have n2_ := Aside0.mk ((show Kd.C k51 w61 (some ad199) y226.length y226 from by rw [Ny226.out]; exact Kd.C_take (m := (x5_2 : Int).toNat) ((Kd.R_reads' (Kd.R_after (ok := (fun _ => True)) (by (with_reducible repeat (first | apply Kd.R_alloc | apply Kd.R_drewN | apply Kd.R_drew)); exact HO_3.out) hg hat)).2.2) KL57.out)); have n3_ := Aside0.mk ((show Kd.C k51 w61 A60 y237.length y237 from by rw [Ny237.out, KA60.out]; exact Kd.C_drop (m := (x5_2 : Int).toNat) (c := co3) ((Kd.R_reads' (Kd.R_after (ok := (fun _ => True)) (by (with_reducible repeat (first | apply Kd.R_alloc | apply Kd.R_drewN | apply Kd.R_drew)); exact HO_3.out) hg hat)).2.2) KL60.out ((Kd.R_reads' (Kd.R_after (ok := (fun _ => True)) (by (with_reducible repeat (first | apply Kd.R_alloc | apply Kd.R_drewN | apply Kd.R_drew)); exact HO_3.out) hg hat)).2.1))); have n4_ := Aside0.mk (ho); clear HO_3; clear HB; clear HR229; clear HR240; clear HO236; have HO_3 := n0_; have HB := n1_; have HR229 := n2_; have HR240 := n3_; have HO243 := n4_; clear n0_ n1_ n2_ n3_ n4_; clear ho hb hg hat))
                  go_roundg k2
                  case measure => have := HK1.out; have := HK2.out; omega
                  case rel => exact ⟨(y241), (wrap64 (x4_1 + 1)), (by first | rfl | (simp; done) | (simp [*]; done)), H', ⟨by have := HK1.out; have := HK2.out; omega⟩, ⟨by (with_reducible repeat (first | apply Kd.R_alloc | apply Kd.R_drewN | apply Kd.R_drew)); exact Kd.R_mono HO243.out (fun _ hk => trivial)⟩, ⟨by repeat (first | (with_reducible first | exact HB.out | apply below_alloc | apply pw_below_drewN | apply below_drew1) | exact HB.out)⟩⟩
                 ·rw [if_neg c51] at H
                  exact absurd H (by simp)
                ·rw [if_neg c48] at H
                 exact absurd H (by simp)
               ·rw [if_neg c47] at H
                exact absurd H (by simp)
              ·rw [if_neg c46] at H
               exact absurd H (by simp)
             ·rw [if_neg c45] at H
              exact absurd H (by simp)
          ·rw [if_neg c10] at H
           exact absurd H (by simp)
         ·rw [if_neg c9] at H
          exact absurd H (by simp)
        ·rw [if_neg c6] at H
         exact absurd H (by simp)
       ·rw [if_neg c5] at H
        exact absurd H (by simp)
      ·rw [if_neg c4] at H
       have c4b0 : decide (0 < x5_2) = false := decide_eq_false c4
       clear c4
       by_cases c62 : 0 ≤ x5_2
       ·rw [if_pos c62] at H
        have c62b0 := eq_true c62
        have c62b1 : decide (0 ≤ x5_2) = true := decide_eq_true c62
        clear c62
        by_cases c63 : x5_2 ≤ (x3_1.length : Int)
        ·rw [if_pos c63] at H
         have c63b0 := eq_true c63
         have c63b1 : decide (x5_2 ≤ (x3_1.length : Int)) = true := decide_eq_true c63
         clear c63
         obtain ⟨y244, hy244⟩ : ∃ y_ : List (S51), y_ = (x3_1.take (x5_2 : Int).toNat) := ⟨_, rfl⟩
         replace H : (if ([] : List (S51)).length + y244.length < 2932031007402 then ((some (([] : List (S51)) ++ y244 : List (S51))).bind fun y248 => (if 0 ≤ x4_1 then (if x4_1 < (l0.length : Int) then (if y248.length < 2932031007402 then ((some (y248 ++ [(⟨(⟨(rd_T51 l0 x4_1).f0.f0, (rd_T51 l0 x4_1).f0.f1⟩ : S49), (⟨(rd_T51 l0 x4_1).f1.f0, (rd_T51 l0 x4_1).f1.f1, (rd_T51 l0 x4_1).f1.f2, (rd_T51 l0 x4_1).f1.f3⟩ : S24)⟩ : S51)] : List (S51))).bind fun y252 => ((some (x3_1.drop (x5_2 : Int).toNat : List (S51))).bind fun y255 => (if y252.length + y255.length < 2932031007402 then (mapmakerref34_Items.l0 k2 l0 (y252 ++ y255) (wrap64 (x4_1 + 1))) else (none)))) else (none)) else (none)) else (none))) else (none)) = some r := by first | (rw [hy244]; with_reducible exact H) | (have H2_ := (Option.bind_some _ _).symm.trans H; rw [hy244]; with_reducible exact H2_) | (have H2_ := (Option.bind_some _ _).symm.trans H; with_reducible exact H2_) | with_reducible exact H | (rw [hy244]; exact H) | exact H
         have Ny244 := Aside0.mk hy244
         clear hy244
         by_cases c64 : ([] : List (S51)).length + y244.length < 2932031007402
         ·rw [if_pos c64] at H
          have LMc64 := Aside0.mk c64
          clear c64
          obtain ⟨y248, hy248⟩ : ∃ y_ : List (S51), y_ = (([] : List (S51)) ++ y244) := ⟨_, rfl⟩
          replace H : (if 0 ≤ x4_1 then (if x4_1 < (l0.length : Int) then (if y248.length < 2932031007402 then ((some (y248 ++ [(⟨(⟨(rd_T51 l0 x4_1).f0.f0, (rd_T51 l0 x4_1).f0.f1⟩ : S49), (⟨(rd_T51 l0 x4_1).f1.f0, (rd_T51 l0 x4_1).f1.f1, (rd_T51 l0 x4_1).f1.f2, (rd_T51 l0 x4_1).f1.f3⟩ : S24)⟩ : S51)] : List (S51))).bind fun y252 => ((some (x3_1.drop (x5_2 : Int).toNat : List (S51))).bind fun y255 => (if y252.length + y255.length < 2932031007402 then (mapmakerref34_Items.l0 k2 l0 (y252 ++ y255) (wrap64 (x4_1 + 1))) else (none)))) else (none)) else (none)) else (none)) = some r := by first | (rw [hy248]; with_reducible exact H) | (have H2_ := (Option.bind_some _ _).symm.trans H; rw [hy248]; with_reducible exact H2_) | (have H2_ := (Option.bind_some _ _).symm.trans H; with_reducible exact H2_) | with_reducible exact H | (rw [hy248]; exact H) | exact H
          have Ny248 := Aside0.mk hy248
          clear hy248
          by_cases c65 : 0 ≤ x4_1
          ·rw [if_pos c65] at H
           have c65b0 : decide (0 ≤ x4_1) = true := decide_eq_true c65
           clear c65
           by_cases c66 : x4_1 < (l0.length : Int)
           ·rw [if_pos c66] at H
            have c66b0 : decide (x4_1 < (l0.length : Int)) = true := decide_eq_true c66
            clear c66
            by_cases c67 : y248.length < 2932031007402
            ·rw [if_pos c67] at H
             have LMc67 := Aside0.mk c67
             clear c67
             obtain ⟨y252, hy252⟩ : ∃ y_ : List (S51), y_ = (y248 ++ [(⟨(⟨(rd_T51 l0 x4_1).f0.f0, (rd_T51 l0 x4_1).f0.f1⟩ : S49), (⟨(rd_T51 l0 x4_1).f1.f0, (rd_T51 l0 x4_1).f1.f1, (rd_T51 l0 x4_1).f1.f2, (rd_T51 l0 x4_1).f1.f3⟩ : S24)⟩ : S51)]) := ⟨_, rfl⟩
             replace H : ((some (x3_1.drop (x5_2 : Int).toNat : List (S51))).bind fun y255 => (if y252.length + y255.length < 2932031007402 then (mapmakerref34_Items.l0 k2 l0 (y252 ++ y255) (wrap64 (x4_1 + 1))) else (none))) = some r := by first | (rw [hy252]; with_reducible exact H) | (have H2_ := (Option.bind_some _ _).symm.trans H; rw [hy252]; with_reducible exact H2_) | (have H2_ := (Option.bind_some _ _).symm.trans H; with_reducible exact H2_) | with_reducible exact H | (rw [hy252]; exact H) | exact H
             have Ny252 := Aside0.mk hy252
             clear hy252
             have c68b0 := eq_true (of_decide_eq_true (by first | (with_reducible assumption) | assumption) : 0 ≤ x5_2)
             have c69b0 := eq_true (of_decide_eq_true (by first | (with_reducible assumption) | assumption) : x5_2 ≤ (x3_1.length : Int))
             obtain ⟨y255, hy255⟩ : ∃ y_ : List (S51), y_ = (x3_1.drop (x5_2 : Int).toNat) := ⟨_, rfl⟩
             replace H : (if y252.length + y255.length < 2932031007402 then (mapmakerref34_Items.l0 k2 l0 (y252 ++ y255) (wrap64 (x4_1 + 1))) else (none)) = some r := by first | (rw [hy255]; with_reducible exact H) | (have H2_ := (Option.bind_some _ _).symm.trans H; rw [hy255]; with_reducible exact H2_) | (have H2_ := (Option.bind_some _ _).symm.trans H; with_reducible exact H2_) | with_reducible exact H | (rw [hy255]; exact H) | exact H
             have Ny255 := Aside0.mk hy255
             clear hy255
             by_cases c70 : y252.length + y255.length < 2932031007402
             ·rw [if_pos c70] at H
              have LMc70 := Aside0.mk c70
              clear c70
              obtain ⟨y259, hy259⟩ : ∃ y_ : List (S51), y_ = (y252 ++ y255) := ⟨_, rfl⟩
              replace H : (mapmakerref34_Items.l0 k2 l0 y259 (wrap64 (x4_1 + 1))) = some r := by first | (rw [hy259]; with_reducible exact H) | (have H2_ := (Option.bind_some _ _).symm.trans H; rw [hy259]; with_reducible exact H2_) | (have H2_ := (Option.bind_some _ _).symm.trans H; with_reducible exact H2_) | with_reducible exact H | (rw [hy259]; exact H) | exact H
              have Ny259 := Aside0.mk hy259
              clear hy259
              have H' := Aside0.mk H
              clear H
              try go_wp2
              have n0_ := Aside0.mk (Kd.R_drew HO_3.out)
              have n1_ := Aside0.mk (below_drew1 HB.out)
              clear HO_3
              clear HB
              have HO_3 := n0_
              have HB := n1_
              clear n0_ n1_
              refine start_ (n := 48) (S := fun w' => True) (ds := []) dq11_0 (by kernel_rfl) rfl rfl trivial (fun hHeld => ?_); refine with_tabW mapmakerref34_Items.tab6 mapmakerref34_Items.bits6 (fun HT_ HW_ => ?_)
              generalize wr.drew = w71 at HO_3 HB hHeld ⊢
              refine pure_ (i := 0) (N := some 15) (v := ?_) (a' := ?_) dq11_1 rfl rfl (any_of HT_.out (by kernel_rfl)) (fun _ _ _ h => h) (Or.inl ⟨by rfl, ?_⟩) ?_ ?_
              rotate_left
              ·intro w'
               go_simp
               with_reducible rfl
              rotate_left
              ·simp only [Act.put, dq11_n, i64_w, i32_w]
               rfl
              refine pure_ (i := 1) (N := some 16) (v := ?_) (a' := ?_) dq11_2 rfl rfl (any_of HT_.out (by kernel_rfl)) (fun _ _ _ h => h) (Or.inl ⟨by rfl, ?_⟩) ?_ ?_
              rotate_left
              ·intro w'
               go_simp
               with_reducible rfl
              rotate_left
              ·simp only [Act.put, dq11_n, i64_w, i32_w]
               rfl
              refine pure_ (i := 2) (N := some 17) (v := ?_) (a' := ?_) dq11_3 rfl rfl (any_of HT_.out (by kernel_rfl)) (fun _ _ _ h => h) (Or.inl ⟨by rfl, ?_⟩) ?_ ?_
              rotate_left
              ·intro w'
               go_simp
               with_reducible rfl
              rotate_left
              ·simp only [Act.put, dq11_n, i64_w, i32_w]
               rfl
              refine pure_ (i := 3) (N := some 18) (v := undef) (a' := ?_) dq11_4 rfl rfl (any_of HT_.out (by kernel_rfl)) (fun _ _ _ h => h) (Or.inr ⟨by rfl, rfl⟩) ?_ ?_
              rotate_left
              ·simp only [Act.put, dq11_n, i64_w, i32_w]
               rfl
              refine pure_ (i := 4) (N := some 19) (v := undef) (a' := ?_) dq11_5 rfl rfl (any_of HT_.out (by kernel_rfl)) (fun _ _ _ h => h) (Or.inr ⟨by rfl, rfl⟩) ?_ ?_
              rotate_left
              ·simp only [Act.put, dq11_n, i64_w, i32_w]
               rfl
              refine pure_ (i := 5) (N := some 20) (v := undef) (a' := ?_) dq11_6 rfl rfl (any_of HT_.out (by kernel_rfl)) (fun _ _ _ h => h) (Or.inr ⟨by rfl, rfl⟩) ?_ ?_
              rotate_left
              ·simp only [Act.put, dq11_n, i64_w, i32_w]
               rfl
              refine pure_ (i := 6) (N := some 21) (v := undef) (a' := ?_) dq11_7 rfl rfl (any_of HT_.out (by kernel_rfl)) (fun _ _ _ h => h) (Or.inr ⟨by rfl, rfl⟩) ?_ ?_
              rotate_left
              ·simp only [Act.put, dq11_n, i64_w, i32_w]
               rfl
              refine pure_ (i := 7) (N := some 22) (v := undef) (a' := ?_) dq11_61 rfl rfl (any_of HT_.out (by kernel_rfl)) (fun _ _ _ h => h) (Or.inr ⟨by rfl, rfl⟩) ?_ ?_
              rotate_left
              ·simp only [Act.put, dq11_n, i64_w, i32_w]
               rfl
              refine pure_ (i := 8) (N := some 23) (v := undef) (a' := ?_) dq11_62 rfl rfl (any_of HT_.out (by kernel_rfl)) (fun _ _ _ h => h) (Or.inr ⟨by rfl, rfl⟩) ?_ ?_
              rotate_left
              ·simp only [Act.put, dq11_n, i64_w, i32_w]
               rfl
              refine pure_ (i := 9) (N := some 24) (v := undef) (a' := ?_) dq11_63 rfl rfl (any_of HT_.out (by kernel_rfl)) (fun _ _ _ h => h) (Or.inr ⟨by rfl, rfl⟩) ?_ ?_
              rotate_left
              ·simp only [Act.put, dq11_n, i64_w, i32_w]
               rfl
              refine pure_ (i := 10) (N := some 25) (v := undef) (a' := ?_) dq11_64 rfl rfl (any_of HT_.out (by kernel_rfl)) (fun _ _ _ h => h) (Or.inr ⟨by rfl, rfl⟩) ?_ ?_
              rotate_left
              ·simp only [Act.put, dq11_n, i64_w, i32_w]
               rfl
              refine pure_ (i := 11) (N := some 26) (v := undef) (a' := ?_) dq11_65 rfl rfl (any_of HT_.out (by kernel_rfl)) (fun _ _ _ h => h) (Or.inr ⟨by rfl, rfl⟩) ?_ ?_
              rotate_left
              ·simp only [Act.put, dq11_n, i64_w, i32_w]
               rfl
              refine pure_ (i := 12) (N := some 27) (v := undef) (a' := ?_) dq11_66 rfl rfl (any_of HT_.out (by kernel_rfl)) (fun _ _ _ h => h) (Or.inr ⟨by rfl, rfl⟩) ?_ ?_
              rotate_left
              ·simp only [Act.put, dq11_n, i64_w, i32_w]
               rfl
              refine pure_ (i := 13) (N := some 28) (v := undef) (a' := ?_) dq11_67 rfl rfl (any_of HT_.out (by kernel_rfl)) (fun _ _ _ h => h) (Or.inr ⟨by rfl, rfl⟩) ?_ ?_
              rotate_left
              ·simp only [Act.put, dq11_n, i64_w, i32_w]
               rfl
              refine pure_ (i := 14) (N := some 29) (v := undef) (a' := ?_) dq11_15 rfl rfl (any_of HT_.out (by kernel_rfl)) (fun _ _ _ h => h) (Or.inr ⟨by rfl, rfl⟩) ?_ ?_
              rotate_left
              ·simp only [Act.put, dq11_n, i64_w, i32_w]
               rfl
              refine pure_ (i := 15) (N := some 30) (v := undef) (a' := ?_) dq11_16 rfl rfl (any_of HT_.out (by kernel_rfl)) (fun _ _ _ h => h) (Or.inr ⟨by rfl, rfl⟩) ?_ ?_
              rotate_left
              ·simp only [Act.put, dq11_n, i64_w, i32_w]
               rfl
              refine pure_ (i := 16) (N := some 31) (v := undef) (a' := ?_) dq11_17 rfl rfl (any_of HT_.out (by kernel_rfl)) (fun _ _ _ h => h) (Or.inr ⟨by rfl, rfl⟩) ?_ ?_
              rotate_left
              ·simp only [Act.put, dq11_n, i64_w, i32_w]
               rfl
              refine pure_ (i := 17) (N := some 32) (v := undef) (a' := ?_) dq11_18 rfl rfl (any_of HT_.out (by kernel_rfl)) (fun _ _ _ h => h) (Or.inr ⟨by rfl, rfl⟩) ?_ ?_
              rotate_left
              ·simp only [Act.put, dq11_n, i64_w, i32_w]
               rfl
              refine pure_ (i := 18) (N := some 33) (v := undef) (a' := ?_) dq11_19 rfl rfl (any_of HT_.out (by kernel_rfl)) (fun _ _ _ h => h) (Or.inr ⟨by rfl, rfl⟩) ?_ ?_
              rotate_left
              ·simp only [Act.put, dq11_n, i64_w, i32_w]
               rfl
              refine pure_ (i := 19) (N := some 34) (v := undef) (a' := ?_) dq11_20 rfl rfl (any_of HT_.out (by kernel_rfl)) (fun _ _ _ h => h) (Or.inr ⟨by rfl, rfl⟩) ?_ ?_
              rotate_left
              ·simp only [Act.put, dq11_n, i64_w, i32_w]
               rfl
              refine pure_ (i := 20) (N := some 35) (v := undef) (a' := ?_) dq11_21 rfl rfl (any_of HT_.out (by kernel_rfl)) (fun _ _ _ h => h) (Or.inr ⟨by rfl, rfl⟩) ?_ ?_
              rotate_left
              ·simp only [Act.put, dq11_n, i64_w, i32_w]
               rfl
              refine pure_ (i := 21) (N := some 36) (v := undef) (a' := ?_) dq11_22 rfl rfl (any_of HT_.out (by kernel_rfl)) (fun _ _ _ h => h) (Or.inr ⟨by rfl, rfl⟩) ?_ ?_
              rotate_left
              ·simp only [Act.put, dq11_n, i64_w, i32_w]
               rfl
              refine pure_ (i := 22) (N := some 37) (v := undef) (a' := ?_) dq11_23 rfl rfl (any_of HT_.out (by kernel_rfl)) (fun _ _ _ h => h) (Or.inr ⟨by rfl, rfl⟩) ?_ ?_
              rotate_left
              ·simp only [Act.put, dq11_n, i64_w, i32_w]
               rfl
              refine pure_ (i := 23) (N := some 38) (v := undef) (a' := ?_) dq11_24 rfl rfl (any_of HT_.out (by kernel_rfl)) (fun _ _ _ h => h) (Or.inr ⟨by rfl, rfl⟩) ?_ ?_
              rotate_left
              ·simp only [Act.put, dq11_n, i64_w, i32_w]
               rfl
              refine pure_ (i := 24) (N := some 39) (v := undef) (a' := ?_) dq11_25 rfl rfl (any_of HT_.out (by kernel_rfl)) (fun _ _ _ h => h) (Or.inr ⟨by rfl, rfl⟩) ?_ ?_
              rotate_left
              ·simp only [Act.put, dq11_n, i64_w, i32_w]
               rfl
              refine pure_ (i := 25) (N := some 40) (v := undef) (a' := ?_) dq11_26 rfl rfl (any_of HT_.out (by kernel_rfl)) (fun _ _ _ h => h) (Or.inr ⟨by rfl, rfl⟩) ?_ ?_
              rotate_left
              ·simp only [Act.put, dq11_n, i64_w, i32_w]
               rfl
              refine pure_ (i := 26) (N := some 41) (v := undef) (a' := ?_) dq11_27 rfl rfl (any_of HT_.out (by kernel_rfl)) (fun _ _ _ h => h) (Or.inr ⟨by rfl, rfl⟩) ?_ ?_
              rotate_left
              ·simp only [Act.put, dq11_n, i64_w, i32_w]
               rfl
              refine pure_ (i := 27) (N := some 42) (v := undef) (a' := ?_) dq11_28 rfl rfl (any_of HT_.out (by kernel_rfl)) (fun _ _ _ h => h) (Or.inr ⟨by rfl, rfl⟩) ?_ ?_
              rotate_left
              ·simp only [Act.put, dq11_n, i64_w, i32_w]
               rfl
              refine pure_ (i := 28) (N := some 43) (v := undef) (a' := ?_) dq11_29 rfl rfl (any_of HT_.out (by kernel_rfl)) (fun _ _ _ h => h) (Or.inr ⟨by rfl, rfl⟩) ?_ ?_
              rotate_left
              ·simp only [Act.put, dq11_n, i64_w, i32_w]
               rfl
              refine pure_ (i := 29) (N := some 44) (v := undef) (a' := ?_) dq11_30 rfl rfl (any_of HT_.out (by kernel_rfl)) (fun _ _ _ h => h) (Or.inr ⟨by rfl, rfl⟩) ?_ ?_
              rotate_left
              ·simp only [Act.put, dq11_n, i64_w, i32_w]
               rfl
              refine pure_ (i := 30) (N := some 45) (v := undef) (a' := ?_) dq11_31 rfl rfl (any_of HT_.out (by kernel_rfl)) (fun _ _ _ h => h) (Or.inr ⟨by rfl, rfl⟩) ?_ ?_
              rotate_left
              ·simp only [Act.put, dq11_n, i64_w, i32_w]
               rfl
              refine pure_ (i := 31) (N := some 46) (v := undef) (a' := ?_) dq11_32 rfl rfl (any_of HT_.out (by kernel_rfl)) (fun _ _ _ h => h) (Or.inr ⟨by rfl, rfl⟩) ?_ ?_
              rotate_left
              ·simp only [Act.put, dq11_n, i64_w, i32_w]
               rfl
              refine pure_ (i := 32) (N := some 47) (v := undef) (a' := ?_) dq11_33 rfl rfl (any_of HT_.out (by kernel_rfl)) (fun _ _ _ h => h) (Or.inr ⟨by rfl, rfl⟩) ?_ ?_
              rotate_left
              ·simp only [Act.put, dq11_n, i64_w, i32_w]
               rfl
              refine pure_ (i := 33) (N := some 48) (v := undef) (a' := ?_) dq11_34 rfl rfl (any_of HT_.out (by kernel_rfl)) (fun _ _ _ h => h) (Or.inr ⟨by rfl, rfl⟩) ?_ ?_
              rotate_left
              ·simp only [Act.put, dq11_n, i64_w, i32_w]
               rfl
              refine pure_ (i := 34) (N := some 49) (v := undef) (a' := ?_) dq11_35 rfl rfl (any_of HT_.out (by kernel_rfl)) (fun _ _ _ h => h) (Or.inr ⟨by rfl, rfl⟩) ?_ ?_
              rotate_left
              ·simp only [Act.put, dq11_n, i64_w, i32_w]
               rfl
              refine pure_ (i := 35) (N := some 50) (v := undef) (a' := ?_) dq11_36 rfl rfl (any_of HT_.out (by kernel_rfl)) (fun _ _ _ h => h) (Or.inr ⟨by rfl, rfl⟩) ?_ ?_
              rotate_left
              ·simp only [Act.put, dq11_n, i64_w, i32_w]
               rfl
              refine pure_ (i := 36) (N := some 51) (v := undef) (a' := ?_) dq11_37 rfl rfl (any_of HT_.out (by kernel_rfl)) (fun _ _ _ h => h) (Or.inr ⟨by rfl, rfl⟩) ?_ ?_
              rotate_left
              ·simp only [Act.put, dq11_n, i64_w, i32_w]
               rfl
              refine pure_ (i := 37) (N := some 52) (v := undef) (a' := ?_) dq11_38 rfl rfl (any_of HT_.out (by kernel_rfl)) (fun _ _ _ h => h) (Or.inr ⟨by rfl, rfl⟩) ?_ ?_
              rotate_left
              ·simp only [Act.put, dq11_n, i64_w, i32_w]
               rfl
              refine pure_ (i := 38) (N := some 53) (v := undef) (a' := ?_) dq11_39 rfl rfl (any_of HT_.out (by kernel_rfl)) (fun _ _ _ h => h) (Or.inr ⟨by rfl, rfl⟩) ?_ ?_
              rotate_left
              ·simp only [Act.put, dq11_n, i64_w, i32_w]
               rfl
              refine pure_ (i := 39) (N := some 54) (v := undef) (a' := ?_) dq11_40 rfl rfl (any_of HT_.out (by kernel_rfl)) (fun _ _ _ h => h) (Or.inr ⟨by rfl, rfl⟩) ?_ ?_
              rotate_left
              ·simp only [Act.put, dq11_n, i64_w, i32_w]
               rfl
              refine pure_ (i := 40) (N := some 55) (v := undef) (a' := ?_) dq11_41 rfl rfl (any_of HT_.out (by kernel_rfl)) (fun _ _ _ h => h) (Or.inr ⟨by rfl, rfl⟩) ?_ ?_
              rotate_left
              ·simp only [Act.put, dq11_n, i64_w, i32_w]
               rfl
              refine pure_ (i := 41) (N := some 56) (v := undef) (a' := ?_) dq11_42 rfl rfl (any_of HT_.out (by kernel_rfl)) (fun _ _ _ h => h) (Or.inr ⟨by rfl, rfl⟩) ?_ ?_
              rotate_left
              ·simp only [Act.put, dq11_n, i64_w, i32_w]
               rfl
              refine pure_ (i := 42) (N := some 57) (v := undef) (a' := ?_) dq11_43 rfl rfl (any_of HT_.out (by kernel_rfl)) (fun _ _ _ h => h) (Or.inr ⟨by rfl, rfl⟩) ?_ ?_
              rotate_left
              ·simp only [Act.put, dq11_n, i64_w, i32_w]
               rfl
              refine pure_ (i := 43) (N := some 58) (v := undef) (a' := ?_) dq11_44 rfl rfl (any_of HT_.out (by kernel_rfl)) (fun _ _ _ h => h) (Or.inr ⟨by rfl, rfl⟩) ?_ ?_
              rotate_left
              ·simp only [Act.put, dq11_n, i64_w, i32_w]
               rfl
              refine pure_ (i := 44) (N := some 59) (v := undef) (a' := ?_) dq11_45 rfl rfl (any_of HT_.out (by kernel_rfl)) (fun _ _ _ h => h) (Or.inr ⟨by rfl, rfl⟩) ?_ ?_
              rotate_left
              ·simp only [Act.put, dq11_n, i64_w, i32_w]
               rfl
              refine pure_ (i := 45) (N := some 60) (v := undef) (a' := ?_) dq11_46 rfl rfl (any_of HT_.out (by kernel_rfl)) (fun _ _ _ h => h) (Or.inr ⟨by rfl, rfl⟩) ?_ ?_
              rotate_left
              ·simp only [Act.put, dq11_n, i64_w, i32_w]
               rfl
              refine pure_ (i := 46) (N := some 61) (v := undef) (a' := ?_) dq11_47 rfl rfl (any_of HT_.out (by kernel_rfl)) (fun _ _ _ h => h) (Or.inr ⟨by rfl, rfl⟩) ?_ ?_
              rotate_left
              ·simp only [Act.put, dq11_n, i64_w, i32_w]
               rfl
              refine pure_ (i := 47) (N := some 62) (v := ?_) (a' := ?_) dq11_48 rfl rfl (any_of HT_.out (by kernel_rfl)) (fun _ _ _ h => h) (Or.inl ⟨by rfl, ?_⟩) ?_ ?_
              rotate_left
              ·intro w'
               go_simp
               with_reducible rfl
              rotate_left
              ·simp only [Act.put, dq11_n, i64_w, i32_w]
               rfl
              refine done_ (done_of HT_.out (by kernel_rfl)) ?_
              have q72 : (x5_2 : Int) ≤ ((x3_1.length : Int) : Int) := of_decide_eq_true (by first | (with_reducible assumption) | assumption)
              obtain ⟨i072, hi072, _, hsz72, _⟩ := info_parts info51
              have hroom72 : x3_1.length ≤ co3 := (Kd.R_reads' HO_3.out).2.1
              have hC72 : Kd.C k51 _ Ao3 x3_1.length x3_1 := (Kd.R_reads' HO_3.out).2.2
              have hcut72 := cut_to (P := Try.prog) 22 51 .i64 Try.underlying22 hi072 Ao3 x3_1.length co3 x5_2 (of_decide_eq_true (by first | (with_reducible assumption) | assumption)) q72 hroom72
              have hr72 := Kd.C_take (m := (x5_2 : Int).toNat) hC72 (by omega)
              have hy72 : y244.length = (x5_2 : Int).toNat := (by rw [Ny244.out, List.length_take]; omega)
              rw [← Ny244.out] at hr72
              rw [← hy72] at hcut72
              have HR247 := Aside0.mk hr72
              have HC247 := Aside0.mk (show y244.length ≤ co3 from by omega)
              clear hr72 hC72 hroom72 hi072 hsz72
              have KY72 := Aside0.mk hy72
              clear hy72
              have KL72 := Aside0.mk (show (x5_2 : Int).toNat ≤ x3_1.length from by omega)
              replace q72 := eq_true q72
              try go_wp2_with (first | ((with_reducible refine gate_builtin (b := .append) (xs := #[.tmp 65, .tmp 68]) rfl ?_); at_builtin; refine Kd.R_append_rows k51 (w0 := w) w.heap.size rfl (.tmp 65) (.tmp 68) 22 51 (.agg #[(.int .i64 0), (.int .i64 0), (.int .i64 0), (.int .i64 0), (.int .i64 0), (.int .i64 0)]) 48 rfl Try.underlying22 info51 rfl (by decide) (by omega) (.slice none 0 0) ([] : List (S51)) y244 _ _ _ (fun k_ => some k_ ≠ (.slice Ao3 x3_1.length co3 : Value).ownBlock) (fun _ => False) rfl rfl ?aO ?aR (fun _ _ h => h) (fun _ h => h.elim) ?aF ?aB ?aS ?aL ?_; (case aR => repeat (first | exact (by repeat (first | (with_reducible exact HR247.out) | (with_reducible refine Kd.C_alloc ?_ _) | (with_reducible refine Kd.C_drewN ?_ _) | (with_reducible refine Kd.C_drew ?_) | exact HR247.out)) | (with_reducible refine Kd.C_alloc ?_ _) | (with_reducible refine Kd.C_drewN ?_ _) | (with_reducible refine Kd.C_drew ?_))); (case aB => exact (by repeat (first | (with_reducible first | exact HB.out | apply below_alloc | apply pw_below_drewN | apply below_drew1) | exact HB.out))); (case aF => exact (fun k_ hk => Kd.fresh' (Kd.R_lt (by (with_reducible repeat (first | apply Kd.R_alloc | apply Kd.R_drewN | apply Kd.R_drew)); exact HO_3.out)) k_ hk)); (case aO => exact ((Kd.R_nil _ _ _ _ (fun k_ => some k_ ≠ (.slice Ao3 x3_1.length co3 : Value).ownBlock)))); (case aS => exact (below_size (by repeat (first | (with_reducible first | exact HB.out | apply below_alloc | apply pw_below_drewN | apply below_drew1) | exact HB.out)))); (case aL => have := LMc64.out; omega); intro v249 w73 ho hb hg hat; rw [← Ny248.out] at ho; have n0_ := Aside0.mk (Kd.R_after (Kd.R_apart_nil (by (with_reducible repeat (first | apply Kd.R_alloc | apply Kd.R_drewN | apply Kd.R_drew)); exact HO_3.out)) hg hat); have n1_ := Aside0.mk (hb); have n2_ := Aside0.mk ((show Kd.C k51 w73 Ao3 y244.length y244 from by rw [Ny244.out]; exact Kd.C_take (m := (x5_2 : Int).toNat) ((Kd.R_reads' (Kd.R_after (Kd.R_apart_nil (by (with_reducible repeat (first | apply Kd.R_alloc | apply Kd.R_drewN | apply Kd.R_drew)); exact HO_3.out)) hg hat)).2.2) KL72.out)); have n3_ := Aside0.mk (ho); clear HO_3; clear HB; clear HR247; have HO_3 := n0_; have HB := n1_; have HR247 := n2_; have HO250 := n3_; clear n0_ n1_ n2_ n3_; clear ho hb hg hat; have p251 : 0 ≤ (x4_1 : Int) := of_decide_eq_true (by first | (with_reducible assumption) | assumption); have q251 : x4_1 < (l0.length : Int) := of_decide_eq_true (by first | (with_reducible assumption) | assumption); obtain ⟨ad251, e251, hx251_0, hx251_1, hx251_2, hx251_3, hx251_4, hx251_5⟩ := at_T51 HR0.out x4_1 p251 q251; cases e251; replace hx251_0 := (HB.out.cell (World.block_lt_of_cell? w _ hx251_0)).trans hx251_0; replace hx251_1 := (HB.out.cell (World.block_lt_of_cell? w _ hx251_1)).trans hx251_1; replace hx251_2 := (HB.out.cell (World.block_lt_of_cell? w _ hx251_2)).trans hx251_2; replace hx251_3 := (HB.out.cell (World.block_lt_of_cell? w _ hx251_3)).trans hx251_3; replace hx251_4 := (HB.out.cell (World.block_lt_of_cell? w _ hx251_4)).trans hx251_4; replace hx251_5 := (HB.out.cell (World.block_lt_of_cell? w _ hx251_5)).trans hx251_5; replace p251 := eq_true p251; replace q251 := eq_true q251) | ((with_reducible refine gate_builtin (b := .append) (xs := #[.tmp 70, .tmp 75]) rfl ?_); at_builtin; refine Kd.R_append k51 (w0 := w) w.heap.size rfl (.tmp 70) (.tmp 75) 22 51 (.agg #[(.int .i64 0), (.int .i64 0), (.int .i64 0), (.int .i64 0), (.int .i64 0), (.int .i64 0)]) 48 rfl Try.underlying22 info51 rfl (by decide) (by omega) v249 y248 (⟨(⟨(rd_T51 l0 x4_1).f0.f0, (rd_T51 l0 x4_1).f0.f1⟩ : S49), (⟨(rd_T51 l0 x4_1).f1.f0, (rd_T51 l0 x4_1).f1.f1, (rd_T51 l0 x4_1).f1.f2, (rd_T51 l0 x4_1).f1.f3⟩ : S24)⟩ : S51) [.int .i64 ((rd_T51 l0 x4_1).f0.f0), .int .i64 ((rd_T51 l0 x4_1).f0.f1), .int .i64 ((rd_T51 l0 x4_1).f1.f0), .int .i64 ((rd_T51 l0 x4_1).f1.f1), .int .i64 ((rd_T51 l0 x4_1).f1.f2), .int .i64 ((rd_T51 l0 x4_1).f1.f3)] (fun k_ => some k_ ≠ (.slice Ao3 x3_1.length co3 : Value).ownBlock) (fun _ => False) rfl rfl ?aP (fun _ hk => hk.elim) ?aF ?aO ?aB ?aS ?aL ?_; (case aP => exact k51_mkM _ _ _ (⟨(⟨(rd_T51 l0 x4_1).f0.f0, (rd_T51 l0 x4_1).f0.f1⟩ : S49), (⟨(rd_T51 l0 x4_1).f1.f0, (rd_T51 l0 x4_1).f1.f1, (rd_T51 l0 x4_1).f1.f2, (rd_T51 l0 x4_1).f1.f3⟩ : S24)⟩ : S51)); (case aB => exact (by repeat (first | (with_reducible first | exact HB.out | apply below_alloc | apply pw_below_drewN | apply below_drew1) | exact HB.out))); (case aF => exact (fun k_ hk => Kd.fresh' (Kd.R_lt (by (with_reducible repeat (first | apply Kd.R_alloc | apply Kd.R_drewN | apply Kd.R_drew)); exact HO_3.out)) k_ hk)); (case aO => exact (by (with_reducible repeat (first | apply Kd.R_alloc | apply Kd.R_drewN | apply Kd.R_drew)); exact HO250.out)); (case aS => exact (below_size (by repeat (first | (with_reducible first | exact HB.out | apply below_alloc | apply pw_below_drewN | apply below_drew1) | exact HB.out)))); (case aL => have := LMc67.out; omega); intro v253 w74 ho hb hg hat; rw [← Ny252.out] at ho; have n0_ := Aside0.mk (Kd.R_after (ok := (fun _ => True)) (by (with_reducible repeat (first | apply Kd.R_alloc | apply Kd.R_drewN | apply Kd.R_drew)); exact HO_3.out) hg hat); have n1_ := Aside0.mk (hb); have n2_ := Aside0.mk ((show Kd.C k51 w74 Ao3 y244.length y244 from by rw [Ny244.out]; exact Kd.C_take (m := (x5_2 : Int).toNat) ((Kd.R_reads' (Kd.R_after (ok := (fun _ => True)) (by (with_reducible repeat (first | apply Kd.R_alloc | apply Kd.R_drewN | apply Kd.R_drew)); exact HO_3.out) hg hat)).2.2) KL72.out)); have n3_ := Aside0.mk (ho); clear HO_3; clear HB; clear HR247; clear HO250; have HO_3 := n0_; have HB := n1_; have HR247 := n2_; have HO254 := n3_; clear n0_ n1_ n2_ n3_; clear ho hb hg hat; have q75 : (x5_2 : Int) ≤ ((x3_1.length : Int) : Int) := of_decide_eq_true (by first | (with_reducible assumption) | assumption); obtain ⟨i075, hi075, _, hsz75, _⟩ := info_parts info51; have hroom75 : x3_1.length ≤ co3 := (Kd.R_reads' HO_3.out).2.1; have hC75 : Kd.C k51 _ Ao3 x3_1.length x3_1 := (Kd.R_reads' HO_3.out).2.2; have q075 : (0 : Int) ≤ (x5_2 : Int) := of_decide_eq_true (by first | (with_reducible assumption) | assumption); have hcut75 := cut_from (P := Try.prog) 22 51 .i64 Try.underlying22 hi075 6 hsz75 Ao3 x3_1.length co3 x5_2 q075 q75; have hr75 := Kd.C_drop (m := (x5_2 : Int).toNat) (c := co3) hC75 (by omega) hroom75; obtain ⟨A75, hA75⟩ : ∃ A1, A1 = (if co3 = (x5_2 : Int).toNat then Ao3 else (Ao3 : Option Addr).map (·.add ((x5_2 : Int).toNat * 6))) := ⟨_, rfl⟩; obtain ⟨c75, hc75⟩ : ∃ c1, c1 = co3 - (x5_2 : Int).toNat := ⟨_, rfl⟩; have hy75 : y255.length = x3_1.length - (x5_2 : Int).toNat := (by rw [Ny255.out, List.length_drop] <;> omega); rw [show (x3_1).drop (x5_2 : Int).toNat = y255 from Ny255.out.symm] at hr75; replace hr75 : Kd.C k51 _ A75 y255.length y255 := (by rw [hA75]; exact hr75); rw [← hy75, ← hA75, ← hc75] at hcut75; have HR258 := Aside0.mk hr75; have HC258 := Aside0.mk (show y255.length ≤ c75 from by rw [hy75, hc75]; exact Nat.sub_le_sub_right hroom75 _); clear hr75 hC75 hroom75 hi075 hsz75 hc75; have KY75 := Aside0.mk hy75; have KA75 := Aside0.mk hA75; clear hy75 hA75; have KL75 := Aside0.mk (show (x5_2 : Int).toNat ≤ x3_1.length from by omega); replace q75 := eq_true q75) | ((with_reducible refine gate_builtin (b := .append) (xs := #[.tmp 77, .tmp 80]) rfl ?_); at_builtin; refine Kd.R_append_rows k51 (w0 := w) w.heap.size rfl (.tmp 77) (.tmp 80) 22 51 (.agg #[(.int .i64 0), (.int .i64 0), (.int .i64 0), (.int .i64 0), (.int .i64 0), (.int .i64 0)]) 48 rfl Try.underlying22 info51 rfl (by decide) (by omega) v253 y252 y255 _ _ _ (fun k_ => some k_ ≠ (.slice Ao3 x3_1.length co3 : Value).ownBlock) (fun _ => False) rfl rfl ?aO ?aR (fun _ _ h => h) (fun _ h => h.elim) ?aF ?aB ?aS ?aL ?_; (case aR => repeat (first | exact (by repeat (first | (with_reducible exact HR258.out) | (with_reducible refine Kd.C_alloc ?_ _) | (with_reducible refine Kd.C_drewN ?_ _) | (with_reducible refine Kd.C_drew ?_) | exact HR258.out)) | (with_reducible refine Kd.C_alloc ?_ _) | (with_reducible refine Kd.C_drewN ?_ _) | (with_reducible refine Kd.C_drew ?_))); (case aB => exact (by repeat (first | (with_reducible first | exact HB.out | apply below_alloc | apply pw_below_drewN | apply below_drew1) | exact HB.out))); (case aF => exact (fun k_ hk => Kd.fresh' (Kd.R_lt (by (with_reducible repeat (first | apply Kd.R_alloc | apply Kd.R_drewN | apply Kd.R_drew)); exact HO_3.out)) k_ hk)); (case aO => exact (by (with_reducible repeat (first | apply Kd.R_alloc | apply Kd.R_drewN | apply Kd.R_drew)); exact HO254.out)); (case aS => exact (below_size (by repeat (first | (with_reducible first | exact HB.out | apply below_alloc | apply pw_below_drewN | apply below_drew1) | exact HB.out)))); (case aL => have := LMc70.out; omega); intro v260 w76 ho hb hg hat; rw [← Ny259.out] at ho; have n0_ := Aside0.mk (Kd.R_after (ok := (fun _ => True)) (by (with_reducible repeat (first | apply Kd.R_alloc | apply Kd.R_drewN | apply Kd.R_drew)); exact HO_3.out) hg hat); have n1_ := Aside0.mk (hb); have n2_ := Aside0.mk ((show Kd.C k51 w76 Ao3 y244.length y244 from by rw [Ny244.out]; exact Kd.C_take (m := (x5_2 : Int).toNat) ((Kd.R_reads' (Kd.R_after (ok := (fun _ => True)) (by (with_reducible repeat (first | apply Kd.R_alloc | apply Kd.R_drewN | apply Kd.R_drew)); exact HO_3.out) hg hat)).2.2) KL72.out)); have n3_ := Aside0.mk ((show Kd.C k51 w76 A75 y255.length y255 from by rw [Ny255.out, KA75.out]; exact Kd.C_drop (m := (x5_2 : Int).toNat) (c := co3) ((Kd.R_reads' (Kd.R_after (ok := (fun _ => True)) (by (with_reducible repeat (first | apply Kd.R_alloc | apply Kd.R_drewN | apply Kd.R_drew)); exact HO_3.out) hg hat)).2.2) KL75.out ((Kd.R_reads' (Kd.R_after (ok := (fun _ => True)) (by (with_reducible repeat (first | apply Kd.R_alloc | apply Kd.R_drewN | apply Kd.R_drew)); exact HO_3.out) hg hat)).2.1))); have n4_ := Aside0.mk (ho); clear HO_3; clear HB; clear HR247; clear HR258; clear HO254; have HO_3 := n0_; have HB := n1_; have HR247 := n2_; have HR258 := n3_; have HO261 := n4_; clear n0_ n1_ n2_ n3_ n4_; clear ho hb hg hat))
              go_roundg k2
              case measure => have := HK1.out; have := HK2.out; omega
              case rel => exact ⟨(y259), (wrap64 (x4_1 + 1)), (by first | rfl | (simp; done) | (simp [*]; done)), H', ⟨by have := HK1.out; have := HK2.out; omega⟩, ⟨by (with_reducible repeat (first | apply Kd.R_alloc | apply Kd.R_drewN | apply Kd.R_drew)); exact Kd.R_mono HO261.out (fun _ hk => trivial)⟩, ⟨by repeat (first | (with_reducible first | exact HB.out | apply below_alloc | apply pw_below_drewN | apply below_drew1) | exact HB.out)⟩⟩
             ·rw [if_neg c70] at H
              exact absurd H (by simp)
            ·rw [if_neg c67] at H
             exact absurd H (by simp)
           ·rw [if_neg c66] at H
            exact absurd H (by simp)
          ·rw [if_neg c65] at H
           exact absurd H (by simp)
         ·rw [if_neg c64] at H
          exact absurd H (by simp)
        ·rw [if_neg c63] at H
         exact absurd H (by simp)
       ·rw [if_neg c62] at H
        exact absurd H (by simp)
   ·rw [if_neg c2] at H
    have c2b0 : decide (x4_1 < (l0.length : Int)) = false := decide_eq_false c2
    clear c2
    obtain rfl := Option.some.inj H
    go_wp2
    go_ret
    exact ⟨_, by first | rfl | (simp [errW_none, errW_some] <;> rfl) | (simp [*, errW_none, errW_some] <;> rfl), by (with_reducible repeat (first | apply Kd.R_alloc | apply Kd.R_drewN | apply Kd.R_drew)); exact HO_3.out, by repeat (first | (with_reducible first | exact HB.out | apply below_alloc | apply pw_below_drewN | apply below_drew1) | exact HB.out)⟩
end Go.Proofs.Ytegkikdefckccaa.PALL
end
