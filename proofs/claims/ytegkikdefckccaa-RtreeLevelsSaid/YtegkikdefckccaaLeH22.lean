-- Out of the translation and of texts of our own, merged (wip/gen/pack.py): what the row names and no more.
import Derived.Test.YtegkikdefckccaaLeH21
section
namespace Go.Proofs.Ytegkikdefckccaa.Hand
open Go.Proofs.YtegkikdefckccaaW Go.RowKit Go.Proofs.YtegkikdefckccaaW.PrintWords Go.Proofs.YtegkikdefckccaaW.PrintLast Go.Proofs.YtegkikdefckccaaW.PrintMore Go.Proofs.YtegkikdefckccaaW.SepW Go.Proofs.Ytegkikdefckccaa.PALL Go.Proofs.Ytegkikdefckccaa.Plain
set_option linter.unusedVariables false
set_option linter.unusedSimpArgs false
abbrev dT14_0 : Array Bool := #[false, false, false, false, false, false, false, false, false, false, false, false, false]
abbrev dT14_1 : Array Bool := #[true, false, false, false, false, false, false, false, false, false, false, false, false]
abbrev dT14_2 : Array Bool := #[true, true, false, false, false, false, false, false, false, false, false, false, false]
abbrev dT14_3 : Array Bool := #[true, true, false, true, false, false, false, false, false, false, false, false, false]
abbrev dT14_4 : Array Bool := #[true, true, false, true, true, false, false, false, false, false, false, false, false]
abbrev dT14_5 : Array Bool := #[true, true, true, true, true, false, false, false, false, false, false, false, false]
abbrev dT14_6 : Array Bool := #[true, true, true, true, true, true, false, false, false, false, false, false, false]
abbrev dT14_7 : Array Bool := #[true, true, true, true, true, true, true, false, false, false, false, false, false]
abbrev dT14_8 : Array Bool := #[true, true, true, true, true, true, true, true, false, false, false, false, false]
abbrev dT14_9 : Array Bool := #[true, true, true, true, true, true, true, true, true, false, false, false, false]
abbrev dT14_10 : Array Bool := #[true, true, true, true, true, true, true, true, true, true, false, false, false]
abbrev dT14_11 : Array Bool := #[true, true, true, true, true, true, true, true, true, true, true, false, false]
abbrev dT14_12 : Array Bool := #[true, true, true, true, true, true, true, true, true, true, true, true, false]
abbrev dT14_13 : Array Bool := #[true, true, true, true, true, true, true, true, true, true, true, true, true]
abbrev dT14_14 : Array Bool := #[false, false, false, false, false, false, false, false, false, false, false, false, false, false, false, false, false, false, false, false, false, false, false, false, false, false, false, false, false, false, false, false, false, false, false, false, false, false, false, false, false, false, false, false, false]
abbrev dT14_15 : Array Bool := #[true, false, false, false, false, false, false, false, false, false, false, false, false, false, false, false, false, false, false, false, false, false, false, false, false, false, false, false, false, false, false, false, false, false, false, false, false, false, false, false, false, false, false, false, false]
abbrev dT14_16 : Array Bool := #[true, true, false, false, false, false, false, false, false, false, false, false, false, false, false, false, false, false, false, false, false, false, false, false, false, false, false, false, false, false, false, false, false, false, false, false, false, false, false, false, false, false, false, false, false]
abbrev dT14_17 : Array Bool := #[true, true, true, false, false, false, false, false, false, false, false, false, false, false, false, false, false, false, false, false, false, false, false, false, false, false, false, false, false, false, false, false, false, false, false, false, false, false, false, false, false, false, false, false, false]
abbrev dT14_18 : Array Bool := #[true, true, true, true, false, false, false, false, false, false, false, false, false, false, false, false, false, false, false, false, false, false, false, false, false, false, false, false, false, false, false, false, false, false, false, false, false, false, false, false, false, false, false, false, false]
abbrev dT14_19 : Array Bool := #[true, true, true, true, true, false, false, false, false, false, false, false, false, false, false, false, false, false, false, false, false, false, false, false, false, false, false, false, false, false, false, false, false, false, false, false, false, false, false, false, false, false, false, false, false]
abbrev dT14_20 : Array Bool := #[true, true, true, true, true, true, false, false, false, false, false, false, false, false, false, false, false, false, false, false, false, false, false, false, false, false, false, false, false, false, false, false, false, false, false, false, false, false, false, false, false, false, false, false, false]
abbrev dT14_21 : Array Bool := #[true, true, true, true, true, true, true, false, false, false, false, false, false, false, false, false, false, false, false, false, false, false, false, false, false, false, false, false, false, false, false, false, false, false, false, false, false, false, false, false, false, false, false, false, false]
abbrev dT14_22 : Array Bool := #[true, true, true, true, true, true, true, true, false, false, false, false, false, false, false, false, false, false, false, false, false, false, false, false, false, false, false, false, false, false, false, false, false, false, false, false, false, false, false, false, false, false, false, false, false]
abbrev dT14_23 : Array Bool := #[true, true, true, true, true, true, true, true, true, false, false, false, false, false, false, false, false, false, false, false, false, false, false, false, false, false, false, false, false, false, false, false, false, false, false, false, false, false, false, false, false, false, false, false, false]
abbrev dT14_24 : Array Bool := #[true, true, true, true, true, true, true, true, true, true, false, false, false, false, false, false, false, false, false, false, false, false, false, false, false, false, false, false, false, false, false, false, false, false, false, false, false, false, false, false, false, false, false, false, false]
abbrev dT14_25 : Array Bool := #[true, true, true, true, true, true, true, true, true, true, true, false, false, false, false, false, false, false, false, false, false, false, false, false, false, false, false, false, false, false, false, false, false, false, false, false, false, false, false, false, false, false, false, false, false]
abbrev dT14_26 : Array Bool := #[true, true, true, true, true, true, true, true, true, true, true, true, false, false, false, false, false, false, false, false, false, false, false, false, false, false, false, false, false, false, false, false, false, false, false, false, false, false, false, false, false, false, false, false, false]
abbrev dT14_27 : Array Bool := #[true, true, true, true, true, true, true, true, true, true, true, true, true, false, false, false, false, false, false, false, false, false, false, false, false, false, false, false, false, false, false, false, false, false, false, false, false, false, false, false, false, false, false, false, false]
abbrev dT14_28 : Array Bool := #[true, true, true, true, true, true, true, true, true, true, true, true, true, true, false, false, false, false, false, false, false, false, false, false, false, false, false, false, false, false, false, false, false, false, false, false, false, false, false, false, false, false, false, false, false]
abbrev dT14_29 : Array Bool := #[true, true, true, true, true, true, true, true, true, true, true, true, true, true, false, true, false, false, false, false, false, false, false, false, false, false, false, false, false, false, false, false, false, false, false, false, false, false, false, false, false, false, false, false, false]
abbrev dT14_30 : Array Bool := #[true, true, true, true, true, true, true, true, true, true, true, true, true, true, false, true, true, false, false, false, false, false, false, false, false, false, false, false, false, false, false, false, false, false, false, false, false, false, false, false, false, false, false, false, false]
abbrev dT14_31 : Array Bool := #[true, true, true, true, true, true, true, true, true, true, true, true, true, true, false, true, true, true, false, false, false, false, false, false, false, false, false, false, false, false, false, false, false, false, false, false, false, false, false, false, false, false, false, false, false]
abbrev dT14_32 : Array Bool := #[true, true, true, true, true, true, true, true, true, true, true, true, true, true, true, true, true, true, false, false, false, false, false, false, false, false, false, false, false, false, false, false, false, false, false, false, false, false, false, false, false, false, false, false, false]
abbrev dT14_33 : Array Bool := #[true, true, true, true, true, true, true, true, true, true, true, true, true, true, true, true, true, true, true, false, false, false, false, false, false, false, false, false, false, false, false, false, false, false, false, false, false, false, false, false, false, false, false, false, false]
abbrev dT14_34 : Array Bool := #[true, true, true, true, true, true, true, true, true, true, true, true, true, true, true, true, true, true, true, true, false, false, false, false, false, false, false, false, false, false, false, false, false, false, false, false, false, false, false, false, false, false, false, false, false]
abbrev dT14_35 : Array Bool := #[true, true, true, true, true, true, true, true, true, true, true, true, true, true, true, true, true, true, true, true, true, false, false, false, false, false, false, false, false, false, false, false, false, false, false, false, false, false, false, false, false, false, false, false, false]
abbrev dT14_36 : Array Bool := #[true, true, true, true, true, true, true, true, true, true, true, true, true, true, true, true, true, true, true, true, true, true, false, false, false, false, false, false, false, false, false, false, false, false, false, false, false, false, false, false, false, false, false, false, false]
abbrev dT14_37 : Array Bool := #[true, true, true, true, true, true, true, true, true, true, true, true, true, true, true, true, true, true, true, true, true, true, true, false, false, false, false, false, false, false, false, false, false, false, false, false, false, false, false, false, false, false, false, false, false]
abbrev dT14_38 : Array Bool := #[true, true, true, true, true, true, true, true, true, true, true, true, true, true, true, true, true, true, true, true, true, true, true, true, false, false, false, false, false, false, false, false, false, false, false, false, false, false, false, false, false, false, false, false, false]
abbrev dT14_39 : Array Bool := #[true, true, true, true, true, true, true, true, true, true, true, true, true, true, true, true, true, true, true, true, true, true, true, true, true, false, false, false, false, false, false, false, false, false, false, false, false, false, false, false, false, false, false, false, false]
abbrev dT14_40 : Array Bool := #[true, true, true, true, true, true, true, true, true, true, true, true, true, true, true, true, true, true, true, true, true, true, true, true, true, true, false, false, false, false, false, false, false, false, false, false, false, false, false, false, false, false, false, false, false]
abbrev dT14_41 : Array Bool := #[true, true, true, true, true, true, true, true, true, true, true, true, true, true, true, true, true, true, true, true, true, true, true, true, true, true, true, false, false, false, false, false, false, false, false, false, false, false, false, false, false, false, false, false, false]
abbrev dT14_42 : Array Bool := #[true, true, true, true, true, true, true, true, true, true, true, true, true, true, true, true, true, true, true, true, true, true, true, true, true, true, true, true, false, false, false, false, false, false, false, false, false, false, false, false, false, false, false, false, false]
abbrev dT14_43 : Array Bool := #[true, true, true, true, true, true, true, true, true, true, true, true, true, true, true, true, true, true, true, true, true, true, true, true, true, true, true, true, true, false, false, false, false, false, false, false, false, false, false, false, false, false, false, false, false]
abbrev dT14_44 : Array Bool := #[true, true, true, true, true, true, true, true, true, true, true, true, true, true, true, true, true, true, true, true, true, true, true, true, true, true, true, true, true, true, false, false, false, false, false, false, false, false, false, false, false, false, false, false, false]
abbrev dT14_45 : Array Bool := #[true, true, true, true, true, true, true, true, true, true, true, true, true, true, true, true, true, true, true, true, true, true, true, true, true, true, true, true, true, true, true, false, false, false, false, false, false, false, false, false, false, false, false, false, false]
abbrev dT14_46 : Array Bool := #[true, true, true, true, true, true, true, true, true, true, true, true, true, true, true, true, true, true, true, true, true, true, true, true, true, true, true, true, true, true, true, true, false, false, false, false, false, false, false, false, false, false, false, false, false]
abbrev dT14_47 : Array Bool := #[true, true, true, true, true, true, true, true, true, true, true, true, true, true, true, true, true, true, true, true, true, true, true, true, true, true, true, true, true, true, true, true, true, false, false, false, false, false, false, false, false, false, false, false, false]
abbrev dT14_48 : Array Bool := #[true, true, true, true, true, true, true, true, true, true, true, true, true, true, true, true, true, true, true, true, true, true, true, true, true, true, true, true, true, true, true, true, true, true, false, false, false, false, false, false, false, false, false, false, false]
abbrev dT14_49 : Array Bool := #[true, true, true, true, true, true, true, true, true, true, true, true, true, true, true, true, true, true, true, true, true, true, true, true, true, true, true, true, true, true, true, true, true, true, true, false, false, false, false, false, false, false, false, false, false]
abbrev dT14_50 : Array Bool := #[true, true, true, true, true, true, true, true, true, true, true, true, true, true, true, true, true, true, true, true, true, true, true, true, true, true, true, true, true, true, true, true, true, true, true, true, false, false, false, false, false, false, false, false, false]
abbrev dT14_51 : Array Bool := #[true, true, true, true, true, true, true, true, true, true, true, true, true, true, true, true, true, true, true, true, true, true, true, true, true, true, true, true, true, true, true, true, true, true, true, true, true, false, false, false, false, false, false, false, false]
abbrev dT14_52 : Array Bool := #[true, true, true, true, true, true, true, true, true, true, true, true, true, true, true, true, true, true, true, true, true, true, true, true, true, true, true, true, true, true, true, true, true, true, true, true, true, true, false, false, false, false, false, false, false]
abbrev dT14_53 : Array Bool := #[true, true, true, true, true, true, true, true, true, true, true, true, true, true, true, true, true, true, true, true, true, true, true, true, true, true, true, true, true, true, true, true, true, true, true, true, true, true, true, false, false, false, false, false, false]
abbrev dT14_54 : Array Bool := #[true, true, true, true, true, true, true, true, true, true, true, true, true, true, true, true, true, true, true, true, true, true, true, true, true, true, true, true, true, true, true, true, true, true, true, true, true, true, true, true, false, false, false, false, false]
abbrev dT14_55 : Array Bool := #[true, true, true, true, true, true, true, true, true, true, true, true, true, true, true, true, true, true, true, true, true, true, true, true, true, true, true, true, true, true, true, true, true, true, true, true, true, true, true, true, true, false, false, false, false]
abbrev dT14_56 : Array Bool := #[true, true, true, true, true, true, true, true, true, true, true, true, true, true, true, true, true, true, true, true, true, true, true, true, true, true, true, true, true, true, true, true, true, true, true, true, true, true, true, true, true, true, false, false, false]
abbrev dT14_57 : Array Bool := #[true, true, true, true, true, true, true, true, true, true, true, true, true, true, true, true, true, true, true, true, true, true, true, true, true, true, true, true, true, true, true, true, true, true, true, true, true, true, true, true, true, true, true, false, false]
abbrev dT14_58 : Array Bool := #[true, true, true, true, true, true, true, true, true, true, true, true, true, true, true, true, true, true, true, true, true, true, true, true, true, true, true, true, true, true, true, true, true, true, true, true, true, true, true, true, true, true, true, true, false]
abbrev dT14_59 : Array Bool := #[true, true, true, true, true, true, true, true, true, true, true, true, true, true, true, true, true, true, true, true, true, true, true, true, true, true, true, true, true, true, true, true, true, true, true, true, true, true, true, true, true, true, true, true, true]
theorem dT14_n {α : Type} : (∀ (l : List α) (i : Nat) (a : α), l.toArray.setIfInBounds i a = (l.set i a).toArray) ∧ (∀ (a b : α) (l : List α), (a :: l).set 0 b = b :: l) ∧ (∀ (a b : α) (l : List α) (n : Nat), (a :: l).set (n + 1) b = a :: l.set n b) :=
  ⟨fun _ _ _ => List.setIfInBounds_toArray .., fun _ _ _ => rfl, fun _ _ _ _ => rfl⟩
/-- The cells of an item. -/
def enc51 (x : S51) : List Value := [.int .i64 x.f0.f0, .int .i64 x.f0.f1, .int .i64 x.f1.f0, .int .i64 x.f1.f1, .int .i64 x.f1.f2, .int .i64 x.f1.f3]
theorem flat6 : ∀ (l : List S51) (i : Nat) (x : S51) (j : Nat) (v : Value), l[i]? = some x → (enc51 x)[j]? = some v → (l.flatMap enc51)[i * 6 + j]? = some v
 | [], i, x, j, v, h, _ => by simp at h
 | y :: t, 0, x, j, v, h, hv => by
  obtain rfl : y = x := by simpa using h
  have hj : j < (enc51 y).length := (List.getElem?_eq_some_iff.1 hv).1
  rw [List.flatMap_cons, Nat.zero_mul, Nat.zero_add, List.getElem?_append_left hj]
  exact hv
 | y :: t, i + 1, x, j, v, h, hv => by
  rw [List.flatMap_cons, List.getElem?_append_right (by show 6 ≤ _; omega)]
  rw [show (i + 1) * 6 + j - (enc51 y).length = i * 6 + j by show (i + 1) * 6 + j - 6 = _; omega]
  exact flat6 t i x j v (by simpa using h) hv
theorem box51 {w : World} {g t : Nat} {l : List S51} (h : w.heap[g]? = some (.cells (l.flatMap enc51).toArray t (0, 0))) (hl : l.length ≤ 1000000) : k51.C w (some ⟨g, 0, none⟩) l.length l :=
 ⟨rfl, by omega, fun _ => ⟨_, rfl, fun j p hp => ⟨enc51 p, rfl, k51_mk w p, fun i u hu => by
  show w.cell? ((⟨g, 0, none⟩ : Addr).add (j * 6 + i)) = some u
  rw [add_plain, blk_cell h (j * 6 + i)]
  have := flat6 l j p i u hp hu
  simpa using this⟩⟩⟩
/-- The items of the example. -/
def exI (n x y : Int) : S51 := ⟨⟨1, n⟩, ⟨x, y, x, y⟩⟩
def exL : List S51 := [exI 1 5 5, exI 2 100 0, exI 3 0 100, exI 4 6 6, exI 5 200 200]
def exW2 : List S51 := [exI 1 5 5, exI 1 5 5]
theorem exL_valid : ∀ x ∈ exL, validB x.f1 = true := by
 intro x hx
 simp only [exL, List.mem_cons, List.not_mem_nil, or_false] at hx
 rcases hx with rfl | rfl | rfl | rfl | rfl <;> decide
theorem exL_nodup : (exL.map S51.f0).Nodup := by simp [exL, exI]
theorem new5 {w w' : World} {e : Ending} (h : NewR exL 2 w e w') : ∃ g items, e = .returned (.tuple #[.pointer (some ⟨g, 0, none⟩), .int .i64 0]) ∧ items.Perm exL ∧ TreeAt w' g 2 items (levelsOf 2 (items.map S51.f1)) ∧ Below w.heap.size w w' := by
 obtain ⟨hb, h⟩ := h
 rcases h with ⟨c, he, h⟩ | ⟨_, _, _, _, _, g, items, he, hp, _, hT⟩
 ·exfalso
  rcases h with ⟨_, h⟩ | ⟨_, _, _, h⟩ | ⟨_, _, _, h⟩
  ·omega
  ·exact absurd h (by decide)
  ·rcases h with ⟨_, x, hx, hx2⟩ | ⟨_, _, h⟩
   ·rw [exL_valid x hx] at hx2
    cases hx2
   ·exact h exL_nodup
 ·exact ⟨g, items, he, hp, hT, hb⟩
theorem new1 {l : List S51} {w w' : World} {e : Ending} (h : NewR l 1 w e w') : e = .returned (.tuple #[.pointer none, .int .i64 1]) ∧ Below w.heap.size w w' := by
 obtain ⟨hb, h⟩ := h
 rcases h with ⟨c, he, h⟩ | ⟨h, _⟩
 ·rcases h with ⟨rfl, _⟩ | ⟨_, h, _⟩ | ⟨h, _⟩
  ·exact ⟨he, hb⟩
  ·omega
  ·omega
 ·omega
theorem new7 {w w' : World} {e : Ending} (h : NewR exW2 2 w e w') : e = .returned (.tuple #[.pointer none, .int .i64 7]) ∧ Below w.heap.size w w' := by
 have hn : ¬ (exW2.map S51.f0).Nodup := by simp [exW2]
 obtain ⟨hb, h⟩ := h
 rcases h with ⟨c, he, h⟩ | ⟨_, _, _, _, h, _⟩
 ·rcases h with ⟨_, h⟩ | ⟨_, _, _, h⟩ | ⟨_, _, _, h⟩
  ·omega
  ·exact absurd h (by decide)
  ·rcases h with ⟨_, x, hx, hx2⟩ | ⟨rfl, _⟩
   ·obtain rfl : x = exI 1 5 5 := by simpa [exW2] using hx
    exact absurd hx2 (by decide)
   ·exact ⟨he, hb⟩
 ·exact absurd h hn
theorem lv5 (l : List S24) (h : l.length = 5) : (levelsOf 2 l).length = 3 ∧ ((levelsOf 2 l).getD 0 []).length = 3 ∧ ((levelsOf 2 l).getD 1 []).length = 2 ∧ ((levelsOf 2 l).getD 2 []).length = 1 := by
 have h1 : (joinL l 2).length = 3 := by rw [joinL_len, h]; rfl
 have h2 : (joinL (joinL l 2) 2).length = 2 := by rw [joinL_len, h1]; rfl
 have h3 : (joinL (joinL (joinL l 2) 2) 2).length = 1 := by rw [joinL_len, h2]; rfl
 have e : levelsOf 2 l = [joinL l 2, joinL (joinL l 2) 2, joinL (joinL (joinL l 2) 2) 2] := by
  unfold levelsOf
  rw [h, lvF, if_neg (by omega), if_neg (by omega), lvF, if_neg (by omega), if_neg (by omega), lvF, if_neg (by omega), if_pos h3]
 rw [e]
 exact ⟨rfl, h1, h2, h3⟩
theorem exW : exL.filter (fun x => meetsB x.f1 ⟨0, 0, 6, 5⟩) = [exI 1 5 5] := by rfl
theorem window5 {items : List S51} {ys : List S49} (hp : items.Perm exL) (h : ys.Perm ((visT (levelsOf 2 (items.map S51.f1)) items 2 ⟨0, 0, 6, 5⟩).1.map S51.f0)) : ys = [⟨1, 1⟩] := by
 rw [visT_items (Nat.le_refl 2) (fun x hx => exL_valid x (hp.mem_iff.1 hx))] at h
 have h2 := (hp.filter (fun x => meetsB x.f1 ⟨0, 0, 6, 5⟩)).map S51.f0
 rw [exW] at h2
 exact List.perm_singleton.1 (h.trans h2)
theorem fine_mem {fan : Nat} {items : List S51} {lv : List (List S24)} (h : Fine fan items lv) : ∀ l ∈ lv, l.length ≤ 1000000 := by
 intro l hl
 obtain ⟨i, hi, rfl⟩ := List.mem_iff_getElem.1 hl
 have := h.level i
 rw [List.getD_eq_getElem?_getD, List.getElem?_eq_getElem hi] at this
 exact this
theorem visT_len {fan : Nat} {items : List S51} (hf : 2 ≤ fan) (hv : ∀ x ∈ items, validB x.f1 = true) (b : S24) : (visT (levelsOf fan (items.map S51.f1)) items fan b).1.length ≤ items.length := by
 rw [visT_items hf hv]
 exact List.length_filter_le _ _
theorem level_num {w : World} {A : Option Addr} {n : Nat} {xss : List (List S24)} (h : Kd.C (Kd.slice 24 k24) w A n xss) (i k : Nat) (hi : i < n) (hk : (xss.getD i []).length = k) : ∃ ad A0 c0, A = some ad ∧ w.cell? (ad.add i) = some (.slice A0 k c0) := by
 have hl : i < xss.length := by have := h.1; omega
 obtain ⟨ad, A0, c0, e, h1, _⟩ := level_at h i hi hl
 rw [List.getD_eq_getElem?_getD, List.getElem?_eq_getElem hl] at hk
 exact ⟨ad, A0, c0, e, by rw [h1]; exact congrArg some (by rw [show (xss[i]).length = k from hk])⟩
theorem one49 {w0 w : World} {L : List (Thing w0.heap.size)} {ad : Addr} {c : Nat} {x : S49} (S : SepW.Sep w0 w (YtegkikdefckccaaW.SepW.Own _ k49 49 (.slice (some ad) 1 c) [x] :: L)) : w.cell? ad = some (.int .i64 x.f0) ∧ w.cell? ⟨ad.block, ad.off + 1, none⟩ = some (.int .i64 x.f1) := by
 obtain ⟨h0, h1⟩ := ref_cells (S.own_C 0 rfl) 0 (Nat.lt_succ_self 0) (Nat.lt_succ_self 0)
 exact ⟨h0, h1⟩
def lv4_T : Bool × List (List Nat × List Nat) := (true, [([], []), ([0], [0]), ([1], [1]), ([], []), ([3], [3]), ([4], [4]), ([2, 5], [2, 5]), ([6], [6]), ([7], [7]), ([8], [8]), ([8], [8]), ([9, 7, 0, 1, 2, 3, 4, 5, 6, 7, 8, 9], [9]), ([10, 11, 0, 1, 2, 3, 4, 5, 6, 7, 8, 9, 10, 11], [10])])
def lv4_B : List Nat := [0, 1, 3, 0, 8, 24, 63, 127, 255, 511, 511, 1023, 4095]
theorem lv4_tab : rtab .any (opsOf Try.f8 4) = lv4_T := by kernel_rfl
theorem lv4_bits : waitsOk lv4_T.2 lv4_B = true := by kernel_rfl
def lv12_T : Bool × List (List Nat × List Nat) := (true, [([], []), ([0], [0]), ([1], [1]), ([2], [2]), ([3, 2], [2, 3]), ([2, 4], [2, 4]), ([5, 2], [5]), ([6], [6]), ([7, 6], [6, 7]), ([8, 6], [6, 8]), ([6, 9], [6, 9]), ([10, 6], [10]), ([11], [11]), ([12, 11], [11, 12]), ([13, 11], [11, 13]), ([11], [11]), ([15, 11], [11, 15]), ([16, 11], [11, 16]), ([17, 11], [11, 17]), ([14, 18, 11], [11, 14, 18]), ([11, 19], [11, 19]), ([20, 11], [20]), ([21], [21]), ([22, 21, 21], [21, 22]), ([23, 21], [21, 23]), ([21, 24], [21, 24]), ([25, 23], [25]), ([26], [26]), ([27, 26, 26], [26, 27]), ([28, 26], [26, 28]), ([26, 29], [26, 29]), ([30, 28], [30]), ([31], [31]), ([31], [31]), ([32, 33, 31, 31], [31, 32, 33]), ([34, 31], [31, 34]), ([35, 31], [31, 35]), ([31, 36], [31, 36]), ([37, 34], [37]), ([38], [38]), ([38], [38]), ([39, 40, 38, 38], [38, 39, 40]), ([41, 38], [38, 41]), ([38, 42], [38, 42]), ([43, 41, 0, 1, 2, 3, 4, 5, 6, 7, 8, 9, 10, 11, 12, 13, 14, 15, 16, 17, 18, 19, 20, 21, 22, 23, 24, 25, 26, 27, 28, 29, 30, 31, 32, 33, 34, 35, 36, 37, 38, 39, 40, 41, 42, 43], [43])])
def lv12_B : List Nat := [0, 1, 3, 7, 15, 31, 63, 127, 255, 511, 1023, 2047, 4095, 8191, 16383, 4095, 36863, 102399, 233471, 524287, 1048575, 2097151, 4194303, 8388607, 16777215, 33554431, 67108863, 134217727, 268435455, 536870911, 1073741823, 2147483647, 4294967295, 4294967295, 17179869183, 34359738367, 68719476735, 137438953471, 274877906943, 549755813887, 549755813887, 2199023255551, 4398046511103, 8796093022207, 17592186044415]
theorem lv12_tab : rtab .any (opsOf Try.f8 12) = lv12_T := by kernel_rfl
theorem lv12_bits : waitsOk lv12_T.2 lv12_B = true := by kernel_rfl
set_option maxHeartbeats 40000000 in
set_option maxRecDepth 100000 in
theorem lives_ct (w : World) : Calls Try.prog 8 #[] w fun e w' => e = .returned (.bool true) ∧ Below w.heap.size w w' := by
 have S := Aside0.mk (SepW.Sep.start w)
 have hu24 := Try.underlying24
 have hu49 := Try.underlying49
 have hu51 := Try.underlying51
 go_enter Try.func8, Try.ntmps8
 go_upto_region 2 with (first | (go_at_call 24; (with_reducible refine (mapmakerlaw34_item.calls _ _ _ _ _ _ _ _ _ _ rfl).mono ?_); rintro e_ w_ ⟨rfl, hb⟩; replace S := Aside0.mk (S.out.step hb); clear hb) | fail)
 have S1 := Aside0.mk (S.out.alloc #[.int .i64 1, .int .i64 1, .int .i64 5, .int .i64 5, .int .i64 5, .int .i64 5, .int .i64 1, .int .i64 2, .int .i64 100, .int .i64 0, .int .i64 100, .int .i64 0, .int .i64 1, .int .i64 3, .int .i64 0, .int .i64 100, .int .i64 0, .int .i64 100, .int .i64 1, .int .i64 4, .int .i64 6, .int .i64 6, .int .i64 6, .int .i64 6, .int .i64 1, .int .i64 5, .int .i64 200, .int .i64 200, .int .i64 200, .int .i64 200] 51)
 refine wp_genS S1 (fun W1 S => ?_)
 clear S1
 generalize w_.heap.size = g at S ⊢
 go_upto_region 3 with (first | (go_at_call 9; have X_ := new_ct (some ⟨g, 0, none⟩) 5 exL 2 _ (box51 (S.out.at_box 0 rfl) (by decide)) (Nat.le_refl 5); rw [show exL.length = 5 from rfl] at X_; (with_reducible refine X_.mono ?_); clear X_; rintro e_ w19 hN_; obtain ⟨gt, items, rfl, hPe, hTr, hb⟩ := new5 hN_; clear hN_; replace S := Aside0.mk (S.out.step hb); clear hb; have HPE := Aside0.mk hPe; have HT := Aside0.mk hTr; clear hPe hTr; have SB := Aside0.mk (SepW.Sep.start w19)) | fail)
 go_upto_region 4 with (first | (go_at_call 9; have X_ := new_ct (some ⟨g, 0, none⟩) 5 exL 1 _ (box51 (S.out.at_box 0 rfl) (by decide)) (Nat.le_refl 5); rw [show exL.length = 5 from rfl] at X_; (with_reducible refine X_.mono ?_); clear X_; rintro e_ w24 hN_; obtain ⟨rfl, hb⟩ := new1 hN_; clear hN_; replace S := Aside0.mk (S.out.step hb); replace SB := Aside0.mk (SB.out.step hb); clear hb) | fail)
 refine start_ (n := 13) (S := fun w' => w'.cell? ⟨g, 0, none⟩ = some (.int .i64 1) ∧ w'.cell? ⟨g, 1, none⟩ = some (.int .i64 1) ∧ w'.cell? ⟨g, 2, none⟩ = some (.int .i64 5) ∧ w'.cell? ⟨g, 3, none⟩ = some (.int .i64 5) ∧ w'.cell? ⟨g, 4, none⟩ = some (.int .i64 5) ∧ w'.cell? ⟨g, 5, none⟩ = some (.int .i64 5)) (ds := []) dT14_0 (by kernel_rfl) rfl rfl ⟨blk_cell (S.out.at_box 0 rfl) 0, blk_cell (S.out.at_box 0 rfl) 1, blk_cell (S.out.at_box 0 rfl) 2, blk_cell (S.out.at_box 0 rfl) 3, blk_cell (S.out.at_box 0 rfl) 4, blk_cell (S.out.at_box 0 rfl) 5⟩ (fun hHeld => ?_); refine with_tabW lv4_tab lv4_bits (fun HT_ HW_ => ?_)
 have HBW := Aside0.mk (below_drew (Below.refl w24.heap.size w24))
 generalize w24.drew = W9 at HBW hHeld ⊢
 replace S := Aside0.mk (S.out.step HBW.out)
 replace SB := Aside0.mk (SB.out.step HBW.out)
 clear HBW
 refine pure_ (i := 0) (N := some 28) (v := ?_) (a' := ?_) dT14_1 rfl rfl (any_of HT_.out (by kernel_rfl)) (fun _ _ _ h => h) (Or.inl ⟨by rfl, ?_⟩) ?_ ?_
 rotate_left
 ·intro w'
  go_simp
  with_reducible rfl
 rotate_left
 ·simp only [Act.put, dT14_n, i64_w, i32_w]
  rfl
 refine pure_ (i := 1) (N := some 29) (v := ?_) (a' := ?_) dT14_2 rfl rfl (any_of HT_.out (by kernel_rfl)) (fun _ _ _ h => h) (Or.inl ⟨by rfl, ?_⟩) ?_ ?_
 rotate_left
 ·intro w'
  go_simp
  with_reducible rfl
 rotate_left
 ·simp only [Act.put, dT14_n, i64_w, i32_w]
  rfl
 refine pure_ (i := 3) (N := some 31) (v := ?_) (a' := ?_) dT14_3 rfl rfl (any_of HT_.out (by kernel_rfl)) (fun _ _ _ h => h) (Or.inl ⟨by rfl, ?_⟩) ?_ ?_
 rotate_left
 ·intro w'
  go_simp
  with_reducible rfl
 rotate_left
 ·simp only [Act.put, dT14_n, i64_w, i32_w]
  rfl
 refine pure_ (i := 4) (N := some 32) (v := ?_) (a' := ?_) dT14_4 rfl rfl (any_of HT_.out (by kernel_rfl)) (fun _ _ _ h => h) (Or.inl ⟨by rfl, ?_⟩) ?_ ?_
 rotate_left
 ·intro w'
  go_simp
  with_reducible rfl
 rotate_left
 ·simp only [Act.put, dT14_n, i64_w, i32_w]
  rfl
 refine take_ (i := 2) (N := some 30) (v := ?_) (a' := ?_) dT14_5 rfl rfl (take_ofW HT_.out HW_.out (by kernel_rfl)) (fun _ _ _ h => h) (Or.inl ⟨by rfl, ?_⟩) hHeld ?_ ?_
 rotate_left
 ·rintro w' ⟨s0, s1, s2, s3, s4, s5⟩
  go_simp
  with_reducible rfl
 rotate_left
 ·simp only [Act.put, dT14_n, i64_w, i32_w]
  rfl
 refine take_ (i := 5) (N := some 33) (v := ?_) (a' := ?_) dT14_6 rfl rfl (take_ofW HT_.out HW_.out (by kernel_rfl)) (fun _ _ _ h => h) (Or.inl ⟨by rfl, ?_⟩) hHeld ?_ ?_
 rotate_left
 ·rintro w' ⟨s0, s1, s2, s3, s4, s5⟩
  go_simp
  with_reducible rfl
 rotate_left
 ·simp only [Act.put, dT14_n, i64_w, i32_w]
  rfl
 refine one_ (i := 6) (N := some 34) dT14_7 rfl rfl (one_of HT_.out (by kernel_rfl)) (by decide) (fun K hK => ?_)
 go_simp
 replace S := Aside0.mk (S.out.alloc #[.int .i64 1, .int .i64 1, .int .i64 5, .int .i64 5, .int .i64 5, .int .i64 5, .int .i64 1, .int .i64 1, .int .i64 5, .int .i64 5, .int .i64 5, .int .i64 5] 51)
 replace SB := Aside0.mk (SB.out.alloc #[.int .i64 1, .int .i64 1, .int .i64 5, .int .i64 5, .int .i64 5, .int .i64 5, .int .i64 1, .int .i64 1, .int .i64 5, .int .i64 5, .int .i64 5, .int .i64 5] 51)
 clear hHeld
 refine hK.out _ _ ⟨blk_cell (S.out.at_box 1 rfl) 0, blk_cell (S.out.at_box 1 rfl) 1, blk_cell (S.out.at_box 1 rfl) 2, blk_cell (S.out.at_box 1 rfl) 3, blk_cell (S.out.at_box 1 rfl) 4, blk_cell (S.out.at_box 1 rfl) 5⟩ (fun hHeld => ?_)
 clear hK K
 refine one_ (i := 7) (N := some 35) dT14_8 rfl rfl (one_of HT_.out (by kernel_rfl)) (by decide) (fun K hK => ?_)
 refine goes_ Try.func9 (by kernel_rfl) rfl #[.slice (some ⟨W9.heap.size, 0, none⟩) 2 2, .int .i64 2] (by rfl) rfl rfl (by (try simp only [List.map_toArray, List.map_cons, List.map_nil]); first | done | rfl) ?_
 have X_ := new_ct (some ⟨W9.heap.size, 0, none⟩) 2 exW2 2 _ (box51 (S.out.at_box 0 rfl) (by decide)) (Nat.le_refl 2)
 rw [show exW2.length = 2 from rfl] at X_
 with_reducible refine X_.mono ?_
 clear X_
 rintro e w35 hN_
 obtain ⟨rfl, hb⟩ := new7 hN_
 clear hN_
 refine ⟨_, rfl, ?_⟩
 replace S := Aside0.mk ((S.out.step hb).drop 0)
 replace SB := Aside0.mk ((SB.out.step hb).drop 0)
 clear hb
 clear hHeld
 refine hK.out _ _ ⟨blk_cell (S.out.at_box 0 rfl) 0, blk_cell (S.out.at_box 0 rfl) 1, blk_cell (S.out.at_box 0 rfl) 2, blk_cell (S.out.at_box 0 rfl) 3, blk_cell (S.out.at_box 0 rfl) 4, blk_cell (S.out.at_box 0 rfl) 5⟩ (fun hHeld => ?_)
 clear hK K
 refine norm_ (a' := ?_) ?_ ?_
 rotate_left
 ·show Act.put _ (some 35) _ = _
  simp only [Act.put, dT14_n, i64_w, i32_w]
  rfl
 refine pure_ (i := 8) (N := some 27) (v := ?_) (a' := ?_) dT14_9 rfl rfl (any_of HT_.out (by kernel_rfl)) (fun _ _ _ h => h) (Or.inl ⟨by rfl, ?_⟩) ?_ ?_
 rotate_left
 ·intro w'
  go_simp
  with_reducible rfl
 rotate_left
 ·simp only [Act.put, dT14_n, i64_w, i32_w]
  rfl
 refine pure_ (i := 9) (N := some 36) (v := ?_) (a' := ?_) dT14_10 rfl rfl (any_of HT_.out (by kernel_rfl)) (fun _ _ _ h => h) (Or.inl ⟨by rfl, ?_⟩) ?_ ?_
 rotate_left
 ·intro w'
  go_simp
  with_reducible rfl
 rotate_left
 ·simp only [Act.put, dT14_n, i64_w, i32_w]
  rfl
 refine pure_ (i := 10) (N := some 37) (v := ?_) (a' := ?_) dT14_11 rfl rfl (any_of HT_.out (by kernel_rfl)) (fun _ _ _ h => h) (Or.inl ⟨by rfl, ?_⟩) ?_ ?_
 rotate_left
 ·intro w'
  go_simp
  with_reducible rfl
 rotate_left
 ·simp only [Act.put, dT14_n, i64_w, i32_w]
  rfl
 refine pure_ (i := 11) (N := some 6) (v := ?_) (a' := ?_) dT14_12 rfl rfl (any_of HT_.out (by kernel_rfl)) (fun _ _ _ h => h) (Or.inl ⟨by rfl, ?_⟩) ?_ ?_
 rotate_left
 ·intro w'
  go_simp
  with_reducible rfl
 rotate_left
 ·simp only [Act.put, dT14_n, i64_w, i32_w]
  rfl
 refine pure_ (i := 12) (N := some 7) (v := ?_) (a' := ?_) dT14_13 rfl rfl (any_of HT_.out (by kernel_rfl)) (fun _ _ _ h => h) (Or.inl ⟨by rfl, ?_⟩) ?_ ?_
 rotate_left
 ·intro w'
  go_simp
  with_reducible rfl
 rotate_left
 ·simp only [Act.put, dT14_n, i64_w, i32_w]
  rfl
 refine done_ (done_of HT_.out (by kernel_rfl)) ?_
 have hil : items.length = 5 := HPE.out.length_eq
 obtain ⟨lv, hlv⟩ : ∃ lv, lv = levelsOf 2 (items.map S51.f1) := ⟨_, rfl⟩
 have HF := Aside0.mk (fine_of (Nat.le_refl 2) (by decide) (show items.length ≤ 10000 by omega))
 have HB9 := Aside0.mk (vis_small (Nat.le_refl 2) (by decide) (show items.length ≤ 60 by omega) ⟨0, 0, 6, 5⟩)
 have HW9 : Aside0 ((visT (levelsOf 2 (items.map S51.f1)) items 2 ⟨0, 0, 6, 5⟩).1.length ≤ 1000000) := ⟨Nat.le_trans (visT_len (Nat.le_refl 2) (fun x hx => exL_valid x (HPE.out.mem_iff.1 hx)) _) (by omega)⟩
 have H5 := Aside0.mk (lv5 (items.map S51.f1) (by rw [List.length_map]; exact hil))
 rw [← hlv] at HT HF HB9 HW9 H5
 have HLE := Aside0.mk hlv
 have HIL := Aside0.mk hil
 have HLL : Aside0 (lv.length ≤ 1000000) := ⟨by rw [H5.out.1]; decide⟩
 have HLM := Aside0.mk (fine_mem HF.out)
 clear hil hlv
 go_upto_region 9 with (first | (go_at_call 21; (with_reducible refine (levels_ct HT.out _ SB.out.below HLL.out HLM.out).mono ?_); rintro e_ w45 ⟨v45, rfl, ho, hb⟩; replace SB := Aside0.mk (SB.out.step hb); obtain ⟨A45, c45, e45⟩ := Kd.R_slice ho; subst e45; replace S := Aside0.mk (S.out.own ho hb); clear ho hb) | fail)
 rw [H5.out.1] at S ⊢
 obtain ⟨ad, A50, c50, ead, k50⟩ := level_num (S.out.own_C 0 rfl) 0 3 (by rw [H5.out.1]; decide) H5.out.2.1
 subst ead
 obtain ⟨ad', A51, c51, ead, k51⟩ := level_num (S.out.own_C 0 rfl) 1 2 (by rw [H5.out.1]; decide) H5.out.2.2.1
 injection ead with ead
 subst ead
 obtain ⟨ad', A52, c52, ead, k52⟩ := level_num (S.out.own_C 0 rfl) 2 1 (by rw [H5.out.1]; decide) H5.out.2.2.2
 injection ead with ead
 subst ead
 have k50' : w45.cell? ad = some (.slice A50 3 c50) := k50
 have k51' : w45.cell? ⟨ad.block, ad.off + 1, none⟩ = some (.slice A51 2 c51) := k51
 have k52' : w45.cell? ⟨ad.block, ad.off + 2, none⟩ = some (.slice A52 1 c52) := k52
 clear k50 k51 k52
 go_upto_region 11 with (first | fail)
 clear k50' k51' k52'
 go_upto_region 12 with (first | (go_at_call 11; have X_ := window_ct HT.out HF.out ⟨0, 0, 6, 5⟩ HB9.out HW9.out _ SB.out.below; dsimp only at X_; (with_reducible refine X_.mono ?_); clear X_; rintro e_ w72 ⟨v72, ys, rfl, ho, hp, _, hb⟩; obtain rfl := window5 (ys := ys) HPE.out (by rw [← HLE.out]; exact hp); replace SB := Aside0.mk (SB.out.step hb); obtain ⟨A72, c72, e72⟩ := Kd.R_slice ho; subst e72; replace S := Aside0.mk (S.out.own ho hb); clear ho hb hp) | fail)
 obtain ⟨ad7, ead7⟩ := list_some (S.out.own_C 0 rfl) (Nat.lt_succ_self 0)
 subst ead7
 have b5 : ((items.length : Int) == 5) = true := by rw [HIL.out]; rfl
 have b5' : (items.length == 5) = true := by rw [HIL.out]; rfl
 replace S := Aside0.mk (show SepW.Sep w w72 (YtegkikdefckccaaW.SepW.Own _ k49 49 (.slice (some ad7) 1 c72) [⟨1, 1⟩] :: _) from S.out)
 refine start_ (n := 45) (S := fun w' => w'.cell? ad7 = some (.int .i64 1) ∧ w'.cell? ⟨ad7.block, ad7.off + 1, none⟩ = some (.int .i64 1) ∧ w'.cell? ⟨g, 0, none⟩ = some (.int .i64 1) ∧ w'.cell? ⟨g, 1, none⟩ = some (.int .i64 1)) (ds := []) dT14_14 (by kernel_rfl) rfl rfl ⟨(one49 S.out).1, (one49 S.out).2, blk_cell (S.out.at_box 2 rfl) 0, blk_cell (S.out.at_box 2 rfl) 1⟩ (fun hHeld => ?_); refine with_tabW lv12_tab lv12_bits (fun HT_ HW_ => ?_)
 have HBW := Aside0.mk (below_drew (Below.refl w72.heap.size w72))
 generalize w72.drew = W13 at HBW hHeld ⊢
 replace S := Aside0.mk (S.out.step HBW.out)
 replace SB := Aside0.mk (SB.out.step HBW.out)
 clear HBW
 refine pure_ (i := 0) (N := some 73) (v := ?_) (a' := ?_) dT14_15 rfl rfl (any_of HT_.out (by kernel_rfl)) (fun _ _ _ h => h) (Or.inl ⟨by rfl, ?_⟩) ?_ ?_
 rotate_left
 ·intro w'
  go_simp
  with_reducible rfl
 rotate_left
 ·simp only [Act.put, dT14_n, i64_w, i32_w]
  rfl
 refine pure_ (i := 1) (N := some 74) (v := ?_) (a' := ?_) dT14_16 rfl rfl (any_of HT_.out (by kernel_rfl)) (fun _ _ _ h => h) (Or.inl ⟨by rfl, ?_⟩) ?_ ?_
 rotate_left
 ·intro w'
  go_simp
  with_reducible rfl
 rotate_left
 ·simp only [Act.put, dT14_n, i64_w, i32_w]
  rfl
 refine pure_ (i := 2) (N := some 75) (v := ?_) (a' := ?_) dT14_17 rfl rfl (any_of HT_.out (by kernel_rfl)) (fun _ _ _ h => h) (Or.inl ⟨by rfl, ?_⟩) ?_ ?_
 rotate_left
 ·intro w'
  go_simp
  with_reducible rfl
 rotate_left
 ·simp only [Act.put, dT14_n, i64_w, i32_w]
  rfl
 refine pure_ (i := 3) (N := some 76) (v := ?_) (a' := ?_) dT14_18 rfl rfl (any_of HT_.out (by kernel_rfl)) (fun _ _ _ h => h) (Or.inl ⟨by rfl, ?_⟩) ?_ ?_
 rotate_left
 ·intro w'
  go_simp
  with_reducible rfl
 rotate_left
 ·simp only [Act.put, dT14_n, i64_w, i32_w]
  rfl
 refine pure_ (i := 4) (N := some 77) (v := ?_) (a' := ?_) dT14_19 rfl rfl (any_of HT_.out (by kernel_rfl)) (fun _ _ _ h => h) (Or.inl ⟨by rfl, ?_⟩) ?_ ?_
 rotate_left
 ·intro w'
  go_simp
  with_reducible rfl
 rotate_left
 ·simp only [Act.put, dT14_n, i64_w, i32_w]
  rfl
 refine pure_ (i := 5) (N := some 78) (v := ?_) (a' := ?_) dT14_20 rfl rfl (any_of HT_.out (by kernel_rfl)) (fun _ _ _ h => h) (Or.inl ⟨by rfl, ?_⟩) ?_ ?_
 rotate_left
 ·intro w'
  go_simp
  with_reducible rfl
 rotate_left
 ·simp only [Act.put, dT14_n, i64_w, i32_w]
  rfl
 refine pure_ (i := 6) (N := some 79) (v := ?_) (a' := ?_) dT14_21 rfl rfl (any_of HT_.out (by kernel_rfl)) (fun _ _ _ h => h) (Or.inl ⟨by rfl, ?_⟩) ?_ ?_
 rotate_left
 ·intro w'
  go_simp
  with_reducible rfl
 rotate_left
 ·simp only [Act.put, dT14_n, i64_w, i32_w]
  rfl
 refine pure_ (i := 7) (N := some 80) (v := ?_) (a' := ?_) dT14_22 rfl rfl (any_of HT_.out (by kernel_rfl)) (fun _ _ _ h => h) (Or.inl ⟨by rfl, ?_⟩) ?_ ?_
 rotate_left
 ·intro w'
  go_simp
  with_reducible rfl
 rotate_left
 ·simp only [Act.put, dT14_n, i64_w, i32_w]
  rfl
 refine pure_ (i := 8) (N := some 81) (v := ?_) (a' := ?_) dT14_23 rfl rfl (any_of HT_.out (by kernel_rfl)) (fun _ _ _ h => h) (Or.inl ⟨by rfl, ?_⟩) ?_ ?_
 rotate_left
 ·intro w'
  go_simp
  with_reducible rfl
 rotate_left
 ·simp only [Act.put, dT14_n, i64_w, i32_w]
  rfl
 refine pure_ (i := 9) (N := some 82) (v := ?_) (a' := ?_) dT14_24 rfl rfl (any_of HT_.out (by kernel_rfl)) (fun _ _ _ h => h) (Or.inl ⟨by rfl, ?_⟩) ?_ ?_
 rotate_left
 ·intro w'
  go_simp
  with_reducible rfl
 rotate_left
 ·simp only [Act.put, dT14_n, i64_w, i32_w]
  rfl
 refine pure_ (i := 10) (N := some 83) (v := ?_) (a' := ?_) dT14_25 rfl rfl (any_of HT_.out (by kernel_rfl)) (fun _ _ _ h => h) (Or.inl ⟨by rfl, ?_⟩) ?_ ?_
 rotate_left
 ·intro w'
  go_simp
  with_reducible rfl
 rotate_left
 ·simp only [Act.put, dT14_n, i64_w, i32_w]
  rfl
 refine pure_ (i := 11) (N := some 84) (v := ?_) (a' := ?_) dT14_26 rfl rfl (any_of HT_.out (by kernel_rfl)) (fun _ _ _ h => h) (Or.inl ⟨by rfl, ?_⟩) ?_ ?_
 rotate_left
 ·intro w'
  go_simp
  with_reducible rfl
 rotate_left
 ·simp only [Act.put, dT14_n, i64_w, i32_w]
  rfl
 refine pure_ (i := 12) (N := some 85) (v := ?_) (a' := ?_) dT14_27 rfl rfl (any_of HT_.out (by kernel_rfl)) (fun _ _ _ h => h) (Or.inl ⟨by rfl, ?_⟩) ?_ ?_
 rotate_left
 ·intro w'
  go_simp
  with_reducible rfl
 rotate_left
 ·simp only [Act.put, dT14_n, i64_w, i32_w]
  rfl
 refine pure_ (i := 13) (N := some 86) (v := ?_) (a' := ?_) dT14_28 rfl rfl (any_of HT_.out (by kernel_rfl)) (fun _ _ _ h => h) (Or.inl ⟨by rfl, ?_⟩) ?_ ?_
 rotate_left
 ·intro w'
  go_simp
  with_reducible rfl
 rotate_left
 ·simp only [Act.put, dT14_n, i64_w, i32_w]
  rfl
 refine pure_ (i := 15) (N := some 88) (v := ?_) (a' := ?_) dT14_29 rfl rfl (any_of HT_.out (by kernel_rfl)) (fun _ _ _ h => h) (Or.inl ⟨by rfl, ?_⟩) ?_ ?_
 rotate_left
 ·intro w'
  go_simp
  with_reducible rfl
 rotate_left
 ·simp only [Act.put, dT14_n, i64_w, i32_w]
  rfl
 refine pure_ (i := 16) (N := some 89) (v := ?_) (a' := ?_) dT14_30 rfl rfl (any_of HT_.out (by kernel_rfl)) (fun _ _ _ h => h) (Or.inl ⟨by rfl, ?_⟩) ?_ ?_
 rotate_left
 ·intro w'
  go_simp
  with_reducible rfl
 rotate_left
 ·simp only [Act.put, dT14_n, i64_w, i32_w]
  rfl
 refine pure_ (i := 17) (N := some 90) (v := ?_) (a' := ?_) dT14_31 rfl rfl (any_of HT_.out (by kernel_rfl)) (fun _ _ _ h => h) (Or.inl ⟨by rfl, ?_⟩) ?_ ?_
 rotate_left
 ·intro w'
  go_simp
  with_reducible rfl
 rotate_left
 ·simp only [Act.put, dT14_n, i64_w, i32_w]
  rfl
 refine take_ (i := 14) (N := some 87) (v := ?_) (a' := ?_) dT14_32 rfl rfl (take_ofW HT_.out HW_.out (by kernel_rfl)) (fun _ _ _ h => h) (Or.inl ⟨by rfl, ?_⟩) hHeld ?_ ?_
 rotate_left
 ·rintro w' ⟨s0, s1, s2, s3⟩
  go_simp
  with_reducible rfl
 rotate_left
 ·simp only [Act.put, dT14_n, i64_w, i32_w]
  rfl
 refine take_ (i := 18) (N := some 91) (v := ?_) (a' := ?_) dT14_33 rfl rfl (take_ofW HT_.out HW_.out (by kernel_rfl)) (fun _ _ _ h => h) (Or.inl ⟨by rfl, ?_⟩) hHeld ?_ ?_
 rotate_left
 ·rintro w' ⟨s0, s1, s2, s3⟩
  go_simp
  with_reducible rfl
 rotate_left
 ·simp only [Act.put, dT14_n, i64_w, i32_w]
  rfl
 refine pure_ (i := 19) (N := some 92) (v := ?_) (a' := ?_) dT14_34 rfl rfl (any_of HT_.out (by kernel_rfl)) (fun _ _ _ h => h) (Or.inl ⟨by rfl, ?_⟩) ?_ ?_
 rotate_left
 ·intro w'
  go_simp
  with_reducible rfl
 rotate_left
 ·simp only [Act.put, dT14_n, i64_w, i32_w]
  rfl
 refine pure_ (i := 20) (N := some 93) (v := ?_) (a' := ?_) dT14_35 rfl rfl (any_of HT_.out (by kernel_rfl)) (fun _ _ _ h => h) (Or.inl ⟨by rfl, ?_⟩) ?_ ?_
 rotate_left
 ·intro w'
  go_simp
  with_reducible rfl
 rotate_left
 ·simp only [Act.put, dT14_n, i64_w, i32_w]
  rfl
 refine pure_ (i := 21) (N := some 94) (v := ?_) (a' := ?_) dT14_36 rfl rfl (any_of HT_.out (by kernel_rfl)) (fun _ _ _ h => h) (Or.inl ⟨by rfl, ?_⟩) ?_ ?_
 rotate_left
 ·intro w'
  go_simp
  with_reducible rfl
 rotate_left
 ·simp only [Act.put, dT14_n, i64_w, i32_w]
  rfl
 refine pure_ (i := 22) (N := some 95) (v := ?_) (a' := ?_) dT14_37 rfl rfl (any_of HT_.out (by kernel_rfl)) (fun _ _ _ h => h) (Or.inl ⟨by rfl, ?_⟩) ?_ ?_
 rotate_left
 ·intro w'
  go_simp
  with_reducible rfl
 rotate_left
 ·simp only [Act.put, dT14_n, i64_w, i32_w]
  rfl
 refine one_ (i := 23) (N := some 96) dT14_38 rfl rfl (one_of HT_.out (by kernel_rfl)) (by decide) (fun K hK => ?_)
 refine goes_ Try.func19 (by kernel_rfl) rfl #[.pointer (some ⟨gt, 0, none⟩)] (by rfl) rfl rfl (by (try simp only [List.map_toArray, List.map_cons, List.map_nil]); first | done | rfl) ?_
 with_reducible refine (len_ct HT.out _ SB.out.below).mono ?_
 rintro e w96 ⟨rfl, hw_⟩
 refine ⟨_, rfl, ?_⟩
 subst hw_
 clear hHeld
 refine hK.out _ _ ⟨(one49 S.out).1, (one49 S.out).2, blk_cell (S.out.at_box 2 rfl) 0, blk_cell (S.out.at_box 2 rfl) 1⟩ (fun hHeld => ?_)
 clear hK K
 refine norm_ (a' := ?_) ?_ ?_
 rotate_left
 ·show Act.put _ (some 96) _ = _
  simp only [Act.put, dT14_n, i64_w, i32_w]
  rfl
 refine pure_ (i := 24) (N := some 97) (v := ?_) (a' := ?_) dT14_39 rfl rfl (any_of HT_.out (by kernel_rfl)) (fun _ _ _ h => h) (Or.inl ⟨by rfl, ?_⟩) ?_ ?_
 rotate_left
 ·intro w'
  go_simp
  with_reducible rfl
 rotate_left
 ·simp only [Act.put, dT14_n, i64_w, i32_w]
  rfl
 refine pure_ (i := 25) (N := some 98) (v := ?_) (a' := ?_) dT14_40 rfl rfl (any_of HT_.out (by kernel_rfl)) (fun _ _ _ h => h) (Or.inl ⟨by rfl, ?_⟩) ?_ ?_
 rotate_left
 ·intro w'
  go_simp
  with_reducible rfl
 rotate_left
 ·simp only [Act.put, dT14_n, i64_w, i32_w]
  rfl
 refine pure_ (i := 26) (N := some 99) (v := ?_) (a' := ?_) dT14_41 rfl rfl (any_of HT_.out (by kernel_rfl)) (fun _ _ _ h => h) (Or.inl ⟨by rfl, ?_⟩) ?_ ?_
 rotate_left
 ·intro w'
  go_simp
  with_reducible rfl
 rotate_left
 ·simp only [Act.put, dT14_n, i64_w, i32_w]
  rfl
 refine pure_ (i := 27) (N := some 100) (v := ?_) (a' := ?_) dT14_42 rfl rfl (any_of HT_.out (by kernel_rfl)) (fun _ _ _ h => h) (Or.inl ⟨by rfl, ?_⟩) ?_ ?_
 rotate_left
 ·intro w'
  go_simp
  with_reducible rfl
 rotate_left
 ·simp only [Act.put, dT14_n, i64_w, i32_w]
  rfl
 refine one_ (i := 28) (N := some 101) dT14_43 rfl rfl (one_of HT_.out (by kernel_rfl)) (by decide) (fun K hK => ?_)
 refine goes_ Try.func19 (by kernel_rfl) rfl #[.pointer none] (by rfl) rfl rfl (by (try simp only [List.map_toArray, List.map_cons, List.map_nil]); first | done | rfl) ?_
 with_reducible refine (len_nil _).mono ?_
 rintro e w101 ⟨rfl, hw_⟩
 refine ⟨_, rfl, ?_⟩
 subst hw_
 clear hHeld
 refine hK.out _ _ ⟨(one49 S.out).1, (one49 S.out).2, blk_cell (S.out.at_box 2 rfl) 0, blk_cell (S.out.at_box 2 rfl) 1⟩ (fun hHeld => ?_)
 clear hK K
 refine norm_ (a' := ?_) ?_ ?_
 rotate_left
 ·show Act.put _ (some 101) _ = _
  simp only [Act.put, dT14_n, i64_w, i32_w]
  rfl
 refine pure_ (i := 29) (N := some 102) (v := ?_) (a' := ?_) dT14_44 rfl rfl (any_of HT_.out (by kernel_rfl)) (fun _ _ _ h => h) (Or.inl ⟨by rfl, ?_⟩) ?_ ?_
 rotate_left
 ·intro w'
  go_simp
  with_reducible rfl
 rotate_left
 ·simp only [Act.put, dT14_n, i64_w, i32_w]
  rfl
 refine pure_ (i := 30) (N := some 103) (v := ?_) (a' := ?_) dT14_45 rfl rfl (any_of HT_.out (by kernel_rfl)) (fun _ _ _ h => h) (Or.inl ⟨by rfl, ?_⟩) ?_ ?_
 rotate_left
 ·intro w'
  go_simp
  with_reducible rfl
 rotate_left
 ·simp only [Act.put, dT14_n, i64_w, i32_w]
  rfl
 refine pure_ (i := 31) (N := some 104) (v := ?_) (a' := ?_) dT14_46 rfl rfl (any_of HT_.out (by kernel_rfl)) (fun _ _ _ h => h) (Or.inl ⟨by rfl, ?_⟩) ?_ ?_
 rotate_left
 ·intro w'
  go_simp
  with_reducible rfl
 rotate_left
 ·simp only [Act.put, dT14_n, i64_w, i32_w]
  rfl
 refine pure_ (i := 32) (N := some 105) (v := ?_) (a' := ?_) dT14_47 rfl rfl (any_of HT_.out (by kernel_rfl)) (fun _ _ _ h => h) (Or.inl ⟨by rfl, ?_⟩) ?_ ?_
 rotate_left
 ·intro w'
  go_simp
  with_reducible rfl
 rotate_left
 ·simp only [Act.put, dT14_n, i64_w, i32_w]
  rfl
 refine pure_ (i := 33) (N := some 106) (v := ?_) (a' := ?_) dT14_48 rfl rfl (any_of HT_.out (by kernel_rfl)) (fun _ _ _ h => h) (Or.inl ⟨by rfl, ?_⟩) ?_ ?_
 rotate_left
 ·intro w'
  go_simp
  with_reducible rfl
 rotate_left
 ·simp only [Act.put, dT14_n, i64_w, i32_w]
  rfl
 refine one_ (i := 34) (N := some 107) dT14_49 rfl rfl (one_of HT_.out (by kernel_rfl)) (by decide) (fun K hK => ?_)
 refine goes_ Try.func11 (by kernel_rfl) rfl #[.pointer none, .agg #[.int .i64 0, .int .i64 0, .int .i64 0, .int .i64 0]] (by rfl) rfl rfl (by (try simp only [List.map_toArray, List.map_cons, List.map_nil]); first | done | rfl) ?_
 with_reducible refine (window_nil ⟨0, 0, 0, 0⟩ _).mono ?_
 rintro e w107 ⟨rfl, hb⟩
 refine ⟨_, rfl, ?_⟩
 replace S := Aside0.mk (S.out.step hb)
 replace SB := Aside0.mk (SB.out.step hb)
 clear hb
 clear hHeld
 refine hK.out _ _ ⟨(one49 S.out).1, (one49 S.out).2, blk_cell (S.out.at_box 2 rfl) 0, blk_cell (S.out.at_box 2 rfl) 1⟩ (fun hHeld => ?_)
 clear hK K
 refine norm_ (a' := ?_) ?_ ?_
 rotate_left
 ·show Act.put _ (some 107) _ = _
  simp only [Act.put, dT14_n, i64_w, i32_w]
  rfl
 refine pure_ (i := 35) (N := some 108) (v := ?_) (a' := ?_) dT14_50 rfl rfl (any_of HT_.out (by kernel_rfl)) (fun _ _ _ h => h) (Or.inl ⟨by rfl, ?_⟩) ?_ ?_
 rotate_left
 ·intro w'
  go_simp
  with_reducible rfl
 rotate_left
 ·simp only [Act.put, dT14_n, i64_w, i32_w]
  rfl
 refine pure_ (i := 36) (N := some 109) (v := ?_) (a' := ?_) dT14_51 rfl rfl (any_of HT_.out (by kernel_rfl)) (fun _ _ _ h => h) (Or.inl ⟨by rfl, ?_⟩) ?_ ?_
 rotate_left
 ·intro w'
  go_simp
  with_reducible rfl
 rotate_left
 ·simp only [Act.put, dT14_n, i64_w, i32_w]
  rfl
 refine pure_ (i := 37) (N := some 110) (v := ?_) (a' := ?_) dT14_52 rfl rfl (any_of HT_.out (by kernel_rfl)) (fun _ _ _ h => h) (Or.inl ⟨by rfl, ?_⟩) ?_ ?_
 rotate_left
 ·intro w'
  go_simp
  with_reducible rfl
 rotate_left
 ·simp only [Act.put, dT14_n, i64_w, i32_w]
  rfl
 refine pure_ (i := 38) (N := some 111) (v := ?_) (a' := ?_) dT14_53 rfl rfl (any_of HT_.out (by kernel_rfl)) (fun _ _ _ h => h) (Or.inl ⟨by rfl, ?_⟩) ?_ ?_
 rotate_left
 ·intro w'
  go_simp
  with_reducible rfl
 rotate_left
 ·simp only [Act.put, dT14_n, i64_w, i32_w]
  rfl
 refine pure_ (i := 39) (N := some 112) (v := ?_) (a' := ?_) dT14_54 rfl rfl (any_of HT_.out (by kernel_rfl)) (fun _ _ _ h => h) (Or.inl ⟨by rfl, ?_⟩) ?_ ?_
 rotate_left
 ·intro w'
  go_simp
  with_reducible rfl
 rotate_left
 ·simp only [Act.put, dT14_n, i64_w, i32_w]
  rfl
 refine pure_ (i := 40) (N := some 113) (v := ?_) (a' := ?_) dT14_55 rfl rfl (any_of HT_.out (by kernel_rfl)) (fun _ _ _ h => h) (Or.inl ⟨by rfl, ?_⟩) ?_ ?_
 rotate_left
 ·intro w'
  go_simp
  with_reducible rfl
 rotate_left
 ·simp only [Act.put, dT14_n, i64_w, i32_w]
  rfl
 refine one_ (i := 41) (N := some 114) dT14_56 rfl rfl (one_of HT_.out (by kernel_rfl)) (by decide) (fun K hK => ?_)
 refine goes_ Try.func13 (by kernel_rfl) rfl #[.pointer none, .agg #[.int .i64 0, .int .i64 0, .int .i64 0, .int .i64 0]] (by rfl) rfl rfl (by (try simp only [List.map_toArray, List.map_cons, List.map_nil]); first | done | rfl) ?_
 with_reducible refine (visits_nil ⟨0, 0, 0, 0⟩ _).mono ?_
 rintro e w114 ⟨rfl, hb⟩
 refine ⟨_, rfl, ?_⟩
 replace S := Aside0.mk (S.out.step hb)
 replace SB := Aside0.mk (SB.out.step hb)
 clear hb
 clear hHeld
 refine hK.out _ _ ⟨(one49 S.out).1, (one49 S.out).2, blk_cell (S.out.at_box 2 rfl) 0, blk_cell (S.out.at_box 2 rfl) 1⟩ (fun hHeld => ?_)
 clear hK K
 refine norm_ (a' := ?_) ?_ ?_
 rotate_left
 ·show Act.put _ (some 114) _ = _
  simp only [Act.put, dT14_n, i64_w, i32_w]
  rfl
 refine pure_ (i := 42) (N := some 115) (v := ?_) (a' := ?_) dT14_57 rfl rfl (any_of HT_.out (by kernel_rfl)) (fun _ _ _ h => h) (Or.inl ⟨by rfl, ?_⟩) ?_ ?_
 rotate_left
 ·intro w'
  go_simp
  with_reducible rfl
 rotate_left
 ·simp only [Act.put, dT14_n, i64_w, i32_w]
  rfl
 refine pure_ (i := 43) (N := some 116) (v := ?_) (a' := ?_) dT14_58 rfl rfl (any_of HT_.out (by kernel_rfl)) (fun _ _ _ h => h) (Or.inl ⟨by rfl, ?_⟩) ?_ ?_
 rotate_left
 ·intro w'
  go_simp
  with_reducible rfl
 rotate_left
 ·simp only [Act.put, dT14_n, i64_w, i32_w]
  rfl
 refine pure_ (i := 44) (N := some 0) (v := ?_) (a' := ?_) dT14_59 rfl rfl (any_of HT_.out (by kernel_rfl)) (fun _ _ _ h => h) (Or.inl ⟨by rfl, ?_⟩) ?_ ?_
 rotate_left
 ·intro w'
  go_simp
  with_reducible rfl
 rotate_left
 ·simp only [Act.put, dT14_n, i64_w, i32_w]
  rfl
 refine done_ (done_of HT_.out (by kernel_rfl)) ?_
 go_wp2
 go_ret
 exact ⟨rfl, S.out.below⟩
end Go.Proofs.Ytegkikdefckccaa.Hand
end
section
namespace Go.Proofs.Ytegkikdefckccaa.Hand
open Go.Proofs.YtegkikdefckccaaW Go.RowKit Go.Proofs.YtegkikdefckccaaW.PrintWords Go.Proofs.YtegkikdefckccaaW.PrintLast Go.Proofs.YtegkikdefckccaaW.PrintMore Go.Proofs.YtegkikdefckccaaW.SepW Go.Proofs.Ytegkikdefckccaa.PALL Go.Proofs.Ytegkikdefckccaa.Plain
set_option linter.unusedVariables false
set_option linter.unusedSimpArgs false
/-- What New answers, in the reference's words. -/
def NewC (l : List S51) (fan : Int) (w' : World) (p : Option Addr) (c : Int) : Prop :=
 (p = none ∧ c ≠ 0 ∧ Ev (fun k => mapmakerref34_Check.f k l fan) c) ∨
 (c = 0 ∧ ∃ m : Nat, fan = (m : Int) ∧ 2 ≤ m ∧ m ≤ 16 ∧ (∀ x ∈ l, validB x.f1 = true) ∧ (l.map S51.f0).Nodup ∧ Ev (fun k => mapmakerref34_Check.f k l fan) 0 ∧
  ∃ g, p = some ⟨g, 0, none⟩ ∧ TreeAt w' g m (isortT l) (levelsOf m ((isortT l).map S51.f1)))
theorem new_form {l : List S51} {fan : Int} {w w' : World} {e : Ending} (h : NewR l fan w e w') : ∃ p c, e = .returned (.tuple #[.pointer p, .int .i64 c]) ∧ NewC l fan w' p c ∧ Below w.heap.size w w' := by
 obtain ⟨hb, h⟩ := h
 rcases h with ⟨c, he, h⟩ | ⟨h2, h16, hl, hv, hn, g, items, he, hp, hs, hT⟩
 ·refine ⟨none, c, he, .inl ⟨rfl, ?_⟩, hb⟩
  rcases h with ⟨rfl, h⟩ | ⟨rfl, h2, h16, h⟩ | ⟨h2, h16, hl, h⟩
  ·exact ⟨by decide, check_arg l fan h⟩
  ·exact ⟨by decide, check_long l fan h2 h16 h⟩
  ·rcases h with ⟨rfl, h⟩ | ⟨rfl, hv, h⟩
   ·exact ⟨by decide, check_bad l fan h2 h16 hl h⟩
   ·exact ⟨by decide, check_twice l fan h2 h16 hl hv h⟩
 ·obtain ⟨m, rfl⟩ : ∃ m : Nat, fan = (m : Int) := ⟨fan.toNat, by omega⟩
  rw [Int.toNat_natCast] at hT
  have hni : (items.map S51.f0).Nodup := ((hp.map S51.f0).nodup_iff).2 hn
  obtain rfl : items = isortT l := sorted_one hs (isort_sorted l) (hp.trans (isort_perm l).symm) hni
  exact ⟨_, 0, he, .inr ⟨rfl, m, rfl, by omega, by omega, hv, hn, check_ok l m h2 h16 hl hv hn, g, rfl, hT⟩, hb⟩
theorem few_yes {l : List S51} (h : l.length ≤ 60) : mapmakerlaw34_few.f l = some true := by
 show some (decide ((l.length : Int) ≤ 60)) = some true
 rw [decide_eq_true (by omega)]
theorem few_no {l : List S51} (h : ¬ l.length ≤ 60) : mapmakerlaw34_few.f l = some false := by
 show some (decide ((l.length : Int) ≤ 60)) = some false
 rw [decide_eq_false (by omega)]
theorem drawn_below {w w' : World} (h : Drawn0 w w') : Below w.heap.size w w' := h.below
theorem isort_len (l : List S51) : (isortT l).length = l.length := (isort_perm l).length_eq
theorem isort_valid {l : List S51} (hv : ∀ x ∈ l, validB x.f1 = true) : ∀ x ∈ isortT l, validB x.f1 = true := fun x hx => hv x ((isort_perm l).mem_iff.1 hx)
end Go.Proofs.Ytegkikdefckccaa.Hand
end
section
namespace Go.Proofs.Ytegkikdefckccaa.Hand
open Go.Proofs.YtegkikdefckccaaW Go.RowKit Go.Proofs.YtegkikdefckccaaW.PrintWords Go.Proofs.YtegkikdefckccaaW.PrintLast Go.Proofs.YtegkikdefckccaaW.PrintMore Go.Proofs.YtegkikdefckccaaW.SepW Go.Proofs.Ytegkikdefckccaa.PALL Go.Proofs.Ytegkikdefckccaa.Plain
set_option linter.unusedVariables false
set_option linter.unusedSimpArgs false
abbrev dT17_0 : Array Bool := #[false, false, false, false, false, false, false, false, false, false, false, false]
abbrev dT17_1 : Array Bool := #[true, false, false, false, false, false, false, false, false, false, false, false]
abbrev dT17_2 : Array Bool := #[true, true, false, false, false, false, false, false, false, false, false, false]
abbrev dT17_3 : Array Bool := #[true, true, true, false, false, false, false, false, false, false, false, false]
abbrev dT17_4 : Array Bool := #[true, true, true, false, false, true, false, false, false, false, false, false]
abbrev dT17_5 : Array Bool := #[true, true, true, false, false, true, true, false, false, false, false, false]
abbrev dT17_6 : Array Bool := #[true, true, true, false, false, true, true, true, false, false, false, false]
abbrev dT17_7 : Array Bool := #[true, true, true, false, false, true, true, true, true, false, false, false]
abbrev dT17_8 : Array Bool := #[true, true, true, false, false, true, true, true, true, true, false, false]
abbrev dT17_9 : Array Bool := #[true, true, true, false, false, true, true, true, true, true, true, false]
abbrev dT17_10 : Array Bool := #[true, true, true, true, false, true, true, true, true, true, true, false]
abbrev dT17_11 : Array Bool := #[true, true, true, true, true, true, true, true, true, true, true, false]
abbrev dT17_12 : Array Bool := #[true, true, true, true, true, true, true, true, true, true, true, true]
abbrev dT17_13 : Array Bool := #[false, false, false, false, false, false, false, false]
abbrev dT17_14 : Array Bool := #[false, true, false, false, false, false, false, false]
abbrev dT17_15 : Array Bool := #[false, true, true, false, false, false, false, false]
abbrev dT17_16 : Array Bool := #[false, true, true, true, false, false, false, false]
abbrev dT17_17 : Array Bool := #[false, true, true, true, true, false, false, false]
abbrev dT17_18 : Array Bool := #[true, true, true, true, true, false, false, false]
abbrev dT17_19 : Array Bool := #[true, true, true, true, true, true, false, false]
abbrev dT17_20 : Array Bool := #[true, true, true, true, true, true, true, false]
abbrev dT17_21 : Array Bool := #[true, true, true, true, true, true, true, true]
abbrev dT17_22 : Array Bool := #[false, false, false, false, false, false, false, false, false, false, false, false, false, false, false, false, false, false, false, false, false, false, false]
abbrev dT17_23 : Array Bool := #[true, false, false, false, false, false, false, false, false, false, false, false, false, false, false, false, false, false, false, false, false, false, false]
abbrev dT17_24 : Array Bool := #[true, true, false, false, false, false, false, false, false, false, false, false, false, false, false, false, false, false, false, false, false, false, false]
abbrev dT17_25 : Array Bool := #[true, true, true, false, false, false, false, false, false, false, false, false, false, false, false, false, false, false, false, false, false, false, false]
abbrev dT17_26 : Array Bool := #[true, true, true, true, false, false, false, false, false, false, false, false, false, false, false, false, false, false, false, false, false, false, false]
abbrev dT17_27 : Array Bool := #[true, true, true, true, false, true, false, false, false, false, false, false, false, false, false, false, false, false, false, false, false, false, false]
abbrev dT17_28 : Array Bool := #[true, true, true, true, false, true, true, false, false, false, false, false, false, false, false, false, false, false, false, false, false, false, false]
abbrev dT17_29 : Array Bool := #[true, true, true, true, false, true, true, false, true, false, false, false, false, false, false, false, false, false, false, false, false, false, false]
abbrev dT17_30 : Array Bool := #[true, true, true, true, false, true, true, false, true, true, false, false, false, false, false, false, false, false, false, false, false, false, false]
abbrev dT17_31 : Array Bool := #[true, true, true, true, false, true, true, false, true, true, true, false, false, false, false, false, false, false, false, false, false, false, false]
abbrev dT17_32 : Array Bool := #[true, true, true, true, false, true, true, false, true, true, true, false, false, false, true, false, false, false, false, false, false, false, false]
abbrev dT17_33 : Array Bool := #[true, true, true, true, false, true, true, false, true, true, true, false, false, false, true, true, false, false, false, false, false, false, false]
abbrev dT17_34 : Array Bool := #[true, true, true, true, false, true, true, false, true, true, true, false, false, false, true, true, false, true, false, false, false, false, false]
abbrev dT17_35 : Array Bool := #[true, true, true, true, false, true, true, false, true, true, true, false, false, false, true, true, false, true, true, false, false, false, false]
abbrev dT17_36 : Array Bool := #[true, true, true, true, false, true, true, false, true, true, true, false, false, false, true, true, false, true, true, true, false, false, false]
abbrev dT17_37 : Array Bool := #[true, true, true, true, true, true, true, false, true, true, true, false, false, false, true, true, false, true, true, true, false, false, false]
abbrev dT17_38 : Array Bool := #[true, true, true, true, true, true, true, true, true, true, true, false, false, false, true, true, false, true, true, true, false, false, false]
abbrev dT17_39 : Array Bool := #[true, true, true, true, true, true, true, true, true, true, true, true, false, false, true, true, false, true, true, true, false, false, false]
abbrev dT17_40 : Array Bool := #[true, true, true, true, true, true, true, true, true, true, true, true, true, false, true, true, false, true, true, true, false, false, false]
abbrev dT17_41 : Array Bool := #[true, true, true, true, true, true, true, true, true, true, true, true, true, false, true, true, true, true, true, true, false, false, false]
abbrev dT17_42 : Array Bool := #[true, true, true, true, true, true, true, true, true, true, true, true, true, false, true, true, true, true, true, true, true, false, false]
abbrev dT17_43 : Array Bool := #[true, true, true, true, true, true, true, true, true, true, true, true, true, false, true, true, true, true, true, true, true, true, false]
abbrev dT17_44 : Array Bool := #[true, true, true, true, true, true, true, true, true, true, true, true, true, true, true, true, true, true, true, true, true, true, false]
abbrev dT17_45 : Array Bool := #[true, true, true, true, true, true, true, true, true, true, true, true, true, true, true, true, true, true, true, true, true, true, true]
abbrev dT17_46 : Array Bool := #[false, false, false, false, false, false, false, false, false, false, false, false, false, false, false, false, false, false, false, false, false, false, false, false, false, false, false, false, false]
abbrev dT17_47 : Array Bool := #[true, false, false, false, false, false, false, false, false, false, false, false, false, false, false, false, false, false, false, false, false, false, false, false, false, false, false, false, false]
abbrev dT17_48 : Array Bool := #[true, true, false, false, false, false, false, false, false, false, false, false, false, false, false, false, false, false, false, false, false, false, false, false, false, false, false, false, false]
abbrev dT17_49 : Array Bool := #[true, true, true, false, false, false, false, false, false, false, false, false, false, false, false, false, false, false, false, false, false, false, false, false, false, false, false, false, false]
abbrev dT17_50 : Array Bool := #[true, true, true, false, true, false, false, false, false, false, false, false, false, false, false, false, false, false, false, false, false, false, false, false, false, false, false, false, false]
abbrev dT17_51 : Array Bool := #[true, true, true, false, true, false, false, true, false, false, false, false, false, false, false, false, false, false, false, false, false, false, false, false, false, false, false, false, false]
abbrev dT17_52 : Array Bool := #[true, true, true, false, true, false, false, true, true, false, false, false, false, false, false, false, false, false, false, false, false, false, false, false, false, false, false, false, false]
abbrev dT17_53 : Array Bool := #[true, true, true, false, true, false, false, true, true, true, false, false, false, false, false, false, false, false, false, false, false, false, false, false, false, false, false, false, false]
abbrev dT17_54 : Array Bool := #[true, true, true, false, true, false, false, true, true, true, true, false, false, false, false, false, false, false, false, false, false, false, false, false, false, false, false, false, false]
abbrev dT17_55 : Array Bool := #[true, true, true, false, true, false, false, true, true, true, true, false, true, false, false, false, false, false, false, false, false, false, false, false, false, false, false, false, false]
abbrev dT17_56 : Array Bool := #[true, true, true, false, true, false, false, true, true, true, true, false, true, true, false, false, false, false, false, false, false, false, false, false, false, false, false, false, false]
abbrev dT17_57 : Array Bool := #[true, true, true, false, true, false, false, true, true, true, true, false, true, true, true, false, false, false, false, false, false, false, false, false, false, false, false, false, false]
abbrev dT17_58 : Array Bool := #[true, true, true, false, true, false, false, true, true, true, true, false, true, true, true, false, false, false, true, false, false, false, false, false, false, false, false, false, false]
abbrev dT17_59 : Array Bool := #[true, true, true, false, true, false, false, true, true, true, true, false, true, true, true, false, false, false, true, true, false, false, false, false, false, false, false, false, false]
abbrev dT17_60 : Array Bool := #[true, true, true, false, true, false, false, true, true, true, true, false, true, true, true, false, false, false, true, true, true, false, false, false, false, false, false, false, false]
abbrev dT17_61 : Array Bool := #[true, true, true, false, true, false, false, true, true, true, true, false, true, true, true, false, false, false, true, true, true, true, false, false, false, false, false, false, false]
abbrev dT17_62 : Array Bool := #[true, true, true, false, true, false, false, true, true, true, true, false, true, true, true, false, false, false, true, true, true, true, false, true, false, false, false, false, false]
abbrev dT17_63 : Array Bool := #[true, true, true, false, true, false, false, true, true, true, true, false, true, true, true, false, false, false, true, true, true, true, false, true, true, false, false, false, false]
abbrev dT17_64 : Array Bool := #[true, true, true, false, true, false, false, true, true, true, true, false, true, true, true, false, false, false, true, true, true, true, false, true, true, true, false, false, false]
abbrev dT17_65 : Array Bool := #[true, true, true, true, true, false, false, true, true, true, true, false, true, true, true, false, false, false, true, true, true, true, false, true, true, true, false, false, false]
abbrev dT17_66 : Array Bool := #[true, true, true, true, true, true, false, true, true, true, true, false, true, true, true, false, false, false, true, true, true, true, false, true, true, true, false, false, false]
abbrev dT17_67 : Array Bool := #[true, true, true, true, true, true, true, true, true, true, true, false, true, true, true, false, false, false, true, true, true, true, false, true, true, true, false, false, false]
abbrev dT17_68 : Array Bool := #[true, true, true, true, true, true, true, true, true, true, true, true, true, true, true, false, false, false, true, true, true, true, false, true, true, true, false, false, false]
abbrev dT17_69 : Array Bool := #[true, true, true, true, true, true, true, true, true, true, true, true, true, true, true, true, false, false, true, true, true, true, false, true, true, true, false, false, false]
abbrev dT17_70 : Array Bool := #[true, true, true, true, true, true, true, true, true, true, true, true, true, true, true, true, true, false, true, true, true, true, false, true, true, true, false, false, false]
abbrev dT17_71 : Array Bool := #[true, true, true, true, true, true, true, true, true, true, true, true, true, true, true, true, true, false, true, true, true, true, true, true, true, true, false, false, false]
abbrev dT17_72 : Array Bool := #[true, true, true, true, true, true, true, true, true, true, true, true, true, true, true, true, true, false, true, true, true, true, true, true, true, true, true, false, false]
abbrev dT17_73 : Array Bool := #[true, true, true, true, true, true, true, true, true, true, true, true, true, true, true, true, true, false, true, true, true, true, true, true, true, true, true, true, false]
abbrev dT17_74 : Array Bool := #[true, true, true, true, true, true, true, true, true, true, true, true, true, true, true, true, true, true, true, true, true, true, true, true, true, true, true, true, false]
abbrev dT17_75 : Array Bool := #[true, true, true, true, true, true, true, true, true, true, true, true, true, true, true, true, true, true, true, true, true, true, true, true, true, true, true, true, true]
abbrev dT17_76 : Array Bool := #[false, false, false, false, false, false, false, false, false, false, false, false, false, false, false, false, false, false, false, false, false, false]
abbrev dT17_77 : Array Bool := #[true, false, false, false, false, false, false, false, false, false, false, false, false, false, false, false, false, false, false, false, false, false]
abbrev dT17_78 : Array Bool := #[true, true, false, false, false, false, false, false, false, false, false, false, false, false, false, false, false, false, false, false, false, false]
abbrev dT17_79 : Array Bool := #[true, true, true, false, false, false, false, false, false, false, false, false, false, false, false, false, false, false, false, false, false, false]
abbrev dT17_80 : Array Bool := #[true, true, true, true, false, false, false, false, false, false, false, false, false, false, false, false, false, false, false, false, false, false]
abbrev dT17_81 : Array Bool := #[true, true, true, true, true, false, false, false, false, false, false, false, false, false, false, false, false, false, false, false, false, false]
abbrev dT17_82 : Array Bool := #[true, true, true, true, true, true, false, false, false, false, false, false, false, false, false, false, false, false, false, false, false, false]
abbrev dT17_83 : Array Bool := #[true, true, true, true, true, true, true, false, false, false, false, false, false, false, false, false, false, false, false, false, false, false]
abbrev dT17_84 : Array Bool := #[true, true, true, true, true, true, true, true, false, false, false, false, false, false, false, false, false, false, false, false, false, false]
abbrev dT17_85 : Array Bool := #[true, true, true, true, true, true, true, true, true, false, false, false, false, false, false, false, false, false, false, false, false, false]
abbrev dT17_86 : Array Bool := #[true, true, true, true, true, true, true, true, true, true, false, false, false, false, false, false, false, false, false, false, false, false]
abbrev dT17_87 : Array Bool := #[true, true, true, true, true, true, true, true, true, true, true, false, false, false, false, false, false, false, false, false, false, false]
abbrev dT17_88 : Array Bool := #[true, true, true, true, true, true, true, true, true, true, true, true, false, false, false, false, false, false, false, false, false, false]
abbrev dT17_89 : Array Bool := #[true, true, true, true, true, true, true, true, true, true, true, true, false, false, true, false, false, false, false, false, false, false]
abbrev dT17_90 : Array Bool := #[true, true, true, true, true, true, true, true, true, true, true, true, false, false, true, true, false, false, false, false, false, false]
abbrev dT17_91 : Array Bool := #[true, true, true, true, true, true, true, true, true, true, true, true, true, false, true, true, false, false, false, false, false, false]
abbrev dT17_92 : Array Bool := #[true, true, true, true, true, true, true, true, true, true, true, true, true, true, true, true, false, false, false, false, false, false]
abbrev dT17_93 : Array Bool := #[true, true, true, true, true, true, true, true, true, true, true, true, true, true, true, true, true, false, false, false, false, false]
abbrev dT17_94 : Array Bool := #[true, true, true, true, true, true, true, true, true, true, true, true, true, true, true, true, true, true, false, false, false, false]
abbrev dT17_95 : Array Bool := #[true, true, true, true, true, true, true, true, true, true, true, true, true, true, true, true, true, true, true, false, false, false]
abbrev dT17_96 : Array Bool := #[true, true, true, true, true, true, true, true, true, true, true, true, true, true, true, true, true, true, true, true, false, false]
abbrev dT17_97 : Array Bool := #[true, true, true, true, true, true, true, true, true, true, true, true, true, true, true, true, true, true, true, true, true, false]
abbrev dT17_98 : Array Bool := #[true, true, true, true, true, true, true, true, true, true, true, true, true, true, true, true, true, true, true, true, true, true]
theorem dT17_n {α : Type} : (∀ (l : List α) (i : Nat) (a : α), l.toArray.setIfInBounds i a = (l.set i a).toArray) ∧ (∀ (a b : α) (l : List α), (a :: l).set 0 b = b :: l) ∧ (∀ (a b : α) (l : List α) (n : Nat), (a :: l).set (n + 1) b = a :: l.set n b) :=
  ⟨fun _ _ _ => List.setIfInBounds_toArray .., fun _ _ _ => rfl, fun _ _ _ _ => rfl⟩
theorem join8_ct (a b : S24) (w : World) : Calls Try.prog 23 #[.agg #[.int .i64 a.f0, .int .i64 a.f1, .int .i64 a.f2, .int .i64 a.f3], .agg #[.int .i64 b.f0, .int .i64 b.f1, .int .i64 b.f2, .int .i64 b.f3]] w fun e w' => e = .returned (.agg #[.int .i64 (joinB a b).f0, .int .i64 (joinB a b).f1, .int .i64 (joinB a b).f2, .int .i64 (joinB a b).f3]) ∧ Below w.heap.size w w' :=
 mapmakerref08_Join.calls _ _ _ _ _ _ _ _ _ _ _ _ w (join8_f a b)
theorem join8_abs {a b : S24} (h : joinB a b = b) (w : World) : Calls Try.prog 23 #[.agg #[.int .i64 a.f0, .int .i64 a.f1, .int .i64 a.f2, .int .i64 a.f3], .agg #[.int .i64 b.f0, .int .i64 b.f1, .int .i64 b.f2, .int .i64 b.f3]] w fun e w' => e = .returned (.agg #[.int .i64 b.f0, .int .i64 b.f1, .int .i64 b.f2, .int .i64 b.f3]) ∧ Below w.heap.size w w' := by
 have := join8_ct a b w
 rwa [h] at this
def bxAt (w : World) (ad : Addr) (x : S24) : Prop := w.cell? ad = some (.int .i64 x.f0) ∧ w.cell? ⟨ad.block, ad.off + 1, none⟩ = some (.int .i64 x.f1) ∧ w.cell? ⟨ad.block, ad.off + 2, none⟩ = some (.int .i64 x.f2) ∧ w.cell? ⟨ad.block, ad.off + 3, none⟩ = some (.int .i64 x.f3)
theorem lev_at {w : World} {A : Option Addr} {lv : List (List S24)} (h : Kd.C (Kd.slice 24 k24) w A lv.length lv) (i j : Nat) (hi : i < lv.length) (hj : j < (lv.getD i []).length) : ∃ ad ad0 c0, A = some ad ∧ w.cell? (ad.add i) = some (.slice (some ad0) (lv.getD i []).length c0) ∧ bxAt w (ad0.add (j * 4)) (bxL lv i j) := by
 obtain ⟨ad, A0, c0, e, h1, h2, h3⟩ := level_at h i hi hi
 have eg : lv.getD i [] = lv[i] := by rw [List.getD_eq_getElem?_getD, List.getElem?_eq_getElem hi]; rfl
 rw [eg] at hj
 obtain ⟨ad0, e0, k0, k1, k2, k3⟩ := at_T24 h3 (j : Int) (by omega) (by omega)
 subst e0
 have er : rd_T24 lv[i] (j : Int) = bxL lv i j := by rw [← eg]; unfold rd_T24 bxL; rw [Int.toNat_natCast]
 rw [er, Int.toNat_natCast] at k0 k1 k2 k3
 exact ⟨ad, ad0, c0, e, by rw [eg]; exact h1, k0, k1, k2, k3⟩
theorem lev_head {w : World} {A : Option Addr} {lv : List (List S24)} (h : Kd.C (Kd.slice 24 k24) w A lv.length lv) (i : Nat) (hi : i < lv.length) : ∃ ad A0 c0, A = some ad ∧ w.cell? (ad.add i) = some (.slice A0 (lv.getD i []).length c0) := by
 obtain ⟨ad, A0, c0, e, h1, h2, h3⟩ := level_at h i hi hi
 have eg : lv.getD i [] = lv[i] := by rw [List.getD_eq_getElem?_getD, List.getElem?_eq_getElem hi]; rfl
 exact ⟨ad, A0, c0, e, by rw [eg]; exact h1⟩
/-- What 'whole' holds behind i items. -/
def whole (items : List S51) (a : S24) (i : Nat) : S24 := ((items.take i).map S51.f1).foldl joinB a
theorem whole_next (items : List S51) (a : S24) (i : Nat) (hi : i < items.length) : whole items a (i + 1) = joinB (whole items a i) items[i].f1 := by
 unfold whole
 rw [take_more items i hi, List.map_append, List.foldl_append]
 rfl
theorem wnat (n : Nat) (h : n ≤ 1000000000) : wrap64 (n : Int) = (n : Int) := IntWalk.wrap64_in _ (by omega)
theorem wadd (a b X : Nat) (hX : X = a + b) (h : X ≤ 1000000000) : wrap64 ((a : Int) + (b : Int)) = (X : Int) := by rw [← Int.natCast_add, ← hX]; exact wnat X h
theorem wsub (a Y : Nat) (hY : a = Y + 1) (h : a ≤ 1000000000) : wrap64 ((a : Int) - 1) = (Y : Int) := by rw [hY]; exact wm Y (by omega)
theorem wnext (a : Nat) (h : a ≤ 100000000) : wrap64 ((a : Int) + 1) = ((a + 1 : Nat) : Int) := wadd a 1 (a + 1) rfl (by omega)
theorem wp_genT {P : Program} {c : Code} {Q : Exit → Act → World → Prop} {a : Act} {w0 w1 w : World} {L : List (Thing w0.heap.size)} {L1 : List (Thing w1.heap.size)} (S : Aside0 (SepW.Sep w0 w L)) (SB : Aside0 (SepW.Sep w1 w L1)) (h : ∀ W, Aside0 (SepW.Sep w0 W L) → Aside0 (SepW.Sep w1 W L1) → c.wp P Q a W) : c.wp P Q a w := h w S SB
theorem tdiv_nat (a b : Nat) : Int.tdiv (a : Int) (b : Int) = ((a / b : Nat) : Int) := by rw [Int.tdiv_eq_ediv_of_nonneg (by omega)]; rfl
def lw15_T : Bool × List (List Nat × List Nat) := (true, [([], []), ([], []), ([0, 1], [0, 1]), ([2], [2]), ([3], [3]), ([], []), ([], []), ([5, 6], [5, 6]), ([7], [7]), ([], []), ([8, 9], [8, 9]), ([4, 10], [4, 10])])
def lw15_B : List Nat := [0, 0, 3, 7, 15, 0, 0, 96, 224, 0, 992, 2047]
theorem lw15_tab : rtab .any (opsOf Try.f6 15) = lw15_T := by kernel_rfl
theorem lw15_bits : waitsOk lw15_T.2 lw15_B = true := by kernel_rfl
def lw22_T : Bool × List (List Nat × List Nat) := (true, [([], []), ([], []), ([], []), ([1, 2], [1, 2]), ([3], [3]), ([4], [4]), ([0, 5], [0, 5]), ([6, 6, 0, 1, 2, 3, 4, 5, 6], [6])])
def lw22_B : List Nat := [0, 0, 0, 6, 14, 30, 63, 127]
theorem lw22_tab : rtab .any (opsOf Try.f6 22) = lw22_T := by kernel_rfl
theorem lw22_bits : waitsOk lw22_T.2 lw22_B = true := by kernel_rfl
def lw23_T : Bool × List (List Nat × List Nat) := (true, [([], []), ([], []), ([0, 1], [0, 1]), ([2], [2]), ([3], [3]), ([], []), ([5], [5]), ([6], [6]), ([], []), ([], []), ([8, 9], [8, 9]), ([7, 10], [7, 10]), ([11], [11]), ([4, 12], [4, 12]), ([], []), ([14], [14]), ([15], [15]), ([], []), ([], []), ([17, 18], [17, 18]), ([16, 19], [16, 19]), ([20], [20]), ([13, 21], [13, 21])])
def lw23_B : List Nat := [0, 0, 3, 7, 15, 0, 32, 96, 0, 0, 768, 2016, 4064, 8191, 0, 16384, 49152, 0, 0, 393216, 1032192, 2080768, 4194303]
theorem lw23_tab : rtab .any (opsOf Try.f6 23) = lw23_T := by kernel_rfl
theorem lw23_bits : waitsOk lw23_T.2 lw23_B = true := by kernel_rfl
def lw31_T : Bool × List (List Nat × List Nat) := (true, [([], []), ([], []), ([0, 1], [0, 1]), ([2], [2]), ([], []), ([3, 4], [3, 4]), ([5], [5]), ([], []), ([], []), ([8], [8]), ([7, 9], [7, 9]), ([10], [10]), ([], []), ([], []), ([12, 13], [12, 13]), ([11, 14], [11, 14]), ([15], [15]), ([6, 16], [6, 16]), ([], []), ([], []), ([19], [19]), ([18, 20], [18, 20]), ([21], [21]), ([], []), ([], []), ([23, 24], [23, 24]), ([22, 25], [22, 25]), ([26], [26]), ([17, 27], [17, 27])])
def lw31_B : List Nat := [0, 0, 3, 7, 0, 31, 63, 0, 0, 256, 896, 1920, 0, 0, 12288, 32640, 65408, 131071, 0, 0, 524288, 1835008, 3932160, 0, 0, 25165824, 66846720, 133955584, 268435455]
theorem lw31_tab : rtab .any (opsOf Try.f6 31) = lw31_T := by kernel_rfl
theorem lw31_bits : waitsOk lw31_T.2 lw31_B = true := by kernel_rfl
def lw33_T : Bool × List (List Nat × List Nat) := (true, [([], []), ([], []), ([1], [1]), ([2], [2]), ([0, 3], [0, 3]), ([4], [4]), ([5], [5]), ([6], [6]), ([], []), ([7, 8], [7, 8]), ([9], [9]), ([10], [10]), ([10], [10]), ([11, 12, 10, 10], [10, 11, 12]), ([10], [10]), ([14, 10], [10, 14]), ([13, 15, 10], [10, 13, 15]), ([10, 16], [10, 16]), ([17, 13], [17]), ([18, 18], [18]), ([18, 19], [18, 19]), ([20, 19, 0, 1, 2, 3, 4, 5, 6, 7, 8, 9, 10, 11, 12, 13, 14, 15, 16, 17, 18, 19, 20], [20])])
def lw33_B : List Nat := [0, 0, 2, 6, 15, 31, 63, 127, 0, 511, 1023, 2047, 2047, 8191, 2047, 18431, 65535, 131071, 262143, 524287, 1048575, 2097151]
theorem lw33_tab : rtab .any (opsOf Try.f6 33) = lw33_T := by kernel_rfl
theorem lw33_bits : waitsOk lw33_T.2 lw33_B = true := by kernel_rfl
set_option maxHeartbeats 40000000 in
set_option maxRecDepth 100000 in
theorem levels_law (l : List S51) (fan : Int) (A : Option Addr) (c : Nat) (w : World) (hC : k51.C w A l.length l) (hc : l.length ≤ c) :
  Calls Try.prog 6 #[.slice A l.length c, .int .i64 fan] w fun e w' => e = .returned (.bool true) ∧ Below w.heap.size w w' := by
 have S := Aside0.mk (SepW.Sep.start w)
 have HC := Aside0.mk hC
 have HCC := Aside0.mk hc
 have hu24 := Try.underlying24
 clear hC hc
 by_cases hl : l.length ≤ 60
 ·have HL := Aside0.mk hl
  have HFW := Aside0.mk (few_yes hl)
  clear hl
  go_enter Try.func6, Try.ntmps6
  go_upto_region 4 with (first | (go_at_call 7; (with_reducible refine (mapmakerlaw34_few.calls A c l true _ (Kd.C_below HC.out S.out.below) HCC.out HFW.out).mono ?_); rintro e_ w7 ⟨rfl, hdn⟩; have hb := drawn_below hdn; replace S := Aside0.mk (S.out.step hb); clear hb hdn) | (go_at_call 9; (with_reducible refine (new_ct A c l fan _ (Kd.C_below HC.out S.out.below) HCC.out).mono ?_); rintro e_ w9 hN_; obtain ⟨p, r, rfl, hN, hb⟩ := new_form hN_; have HN := Aside0.mk hN; clear hN_ hN; replace S := Aside0.mk (S.out.step hb); clear hb) | fail)
  rcases HN.out with ⟨hp, h0, hk⟩ | ⟨h0, m, hm, h2, h16, hv, hn, hk, g, hp, hT⟩
  ·subst hp
   have b0 : (r == 0) = false := by rw [beq_eq_false_iff_ne]; exact h0
   clear HN hk h0
   go_wp2_with (first | (go_at_call 8; (with_reducible refine (lives_ct _).mono ?_); rintro e_ w8 ⟨rfl, hb⟩; replace S := Aside0.mk (S.out.step hb); clear hb) | fail)
   go_ret
   exact ⟨rfl, S.out.below⟩
  subst hp
  subst h0
  subst hm
  have SB := Aside0.mk (SepW.Sep.start w9)
  have hil := isort_len l
  have HIL : Aside0 ((isortT l).length ≤ 60) := ⟨by have := HL.out; omega⟩
  have HF := Aside0.mk (fine_of h2 h16 (show (isortT l).length ≤ 10000 by have := HIL.out; omega))
  have HIV := Aside0.mk (isort_valid hv)
  have HT := Aside0.mk hT
  have HK := Aside0.mk hk
  have HV := Aside0.mk hv
  have HN2 := Aside0.mk hn
  have H2 := Aside0.mk h2
  have H16 := Aside0.mk h16
  have HHL := Aside0.mk hil
  clear HN hil hT hk hv hn h2 h16
  by_cases hz : l.length = 0
  ·have b0 : ((l.length : Int) == 0) = true := by rw [hz]; rfl
   have b1 : (l.length == 0) = true := by rw [hz]; rfl
   clear hz
   go_wp2_with (first | (go_at_call 8; (with_reducible refine (lives_ct _).mono ?_); rintro e_ w8 ⟨rfl, hb⟩; replace S := Aside0.mk (S.out.step hb); clear hb) | fail)
   go_ret
   exact ⟨rfl, S.out.below⟩
  have HI6 : Aside0 ((isortT l).length ≤ 1000000) := ⟨by have := HIL.out; omega⟩
  have HLM := Aside0.mk (fine_mem HF.out)
  have HB9 := Aside0.mk (fun b => vis_small H2.out H16.out HIL.out b)
  have HLV := Aside0.mk (levels_lv H2.out ((isortT l).map S51.f1))
  have b0 : ((l.length : Int) == 0) = false := by rw [beq_eq_false_iff_ne]; omega
  have b1 : (l.length == 0) = false := by rw [beq_eq_false_iff_ne]; exact hz
  have HZ := Aside0.mk hz
  clear hz
  go_upto_region 9 with (first | (go_at_call 21; (with_reducible refine (levels_ct HT.out _ SB.out.below HF.out.lvl HLM.out).mono ?_); rintro e_ w36 ⟨v36, rfl, ho, hb⟩; obtain ⟨A36, c36, e36, hc36, _⟩ := Kd.R_reads ho; subst e36; have HC36 := Aside0.mk hc36; replace S := Aside0.mk (S.out.own ho hb); replace SB := Aside0.mk (SB.out.step hb); clear ho hb hc36) | (go_at_call 17; (with_reducible refine (items_ct HT.out _ SB.out.below HI6.out).mono ?_); rintro e_ w38 ⟨v38, rfl, ho, hb⟩; obtain ⟨A38, c38, e38, hc38, _⟩ := Kd.R_reads ho; subst e38; have HC38 := Aside0.mk hc38; replace S := Aside0.mk (S.out.own ho hb); replace SB := Aside0.mk (SB.out.step hb); clear ho hb hc38) | fail)
  clear b0 b1
  obtain ⟨items, hit⟩ : ∃ items, items = isortT l := ⟨_, rfl⟩
  rw [← hit] at HT HF HIL HIV HHL HI6 HLM HB9 HLV S HC36 HC38 ⊢
  clear hit HN2
  obtain ⟨lv, hlv⟩ : ∃ lv, lv = levelsOf m (items.map S51.f1) := ⟨_, rfl⟩
  have hv' : ∀ b, (visT lv items m b).2 ≤ 1000000000 := by rw [hlv]; exact HB9.out
  replace HB9 := Aside0.mk hv'
  rw [← hlv] at HT HF HLM HLV S HC36 ⊢
  clear hlv hv'
  have HLZ : Aside0 (0 < lv.length) := ⟨HLV.out.zero (fun e => by have := congrArg List.length e; rw [List.length_map, HHL.out] at this; exact HZ.out this)⟩
  obtain ⟨ad7, A8, c8, e36, k8⟩ := lev_head (S.out.own_C 1 rfl) (lv.length - 1) (by have := HLZ.out; omega)
  subst e36
  obtain ⟨ad8, e38⟩ := list_some (S.out.own_C 0 rfl) (by rw [HHL.out]; have := HZ.out; omega)
  subst e38
  rw [HLV.out.top HLZ.out] at k8
  obtain ⟨k, hk⟩ : ∃ k, lv.length = k + 1 := ⟨lv.length - 1, by have := HLZ.out; omega⟩
  rw [show lv.length - 1 = k by omega] at k8
  have HK1 := Aside0.mk hk
  clear HK
  have b0 : ((lv.length : Int) == 0) = false := by rw [beq_eq_false_iff_ne]; omega
  have b1 : (lv.length == 0) = false := by rw [beq_eq_false_iff_ne]; omega
  have b2 : ((items.length : Int) == (l.length : Int)) = true := by rw [HHL.out]; exact beq_self_eq_true _
  have b3 : (items.length == l.length) = true := by rw [HHL.out]; exact beq_self_eq_true _
  have b4 : ((items.length : Int) != (l.length : Int)) = false := by rw [HHL.out]; exact bne_self_eq_false _
  have b5 : (items.length != l.length) = false := by rw [HHL.out]; exact bne_self_eq_false _
  have i1 : wrap64 ((lv.length : Int) - 1) = (k : Int) := by rw [hk]; exact wm k (by have := HF.out.lvl; omega)
  have p0 : (0 : Int) ≤ (k : Int) := by omega
  have p1 : (k : Int) < (lv.length : Int) := by omega
  clear hk
  go_upto_region 11 with (first | fail)
  clear b0 b1 b2 b3 b4 b5 i1 p0 p1 k8
  go_wp2
  go_loopg [9, 10] (lv.length + 1) (fun kq v9 v10 w' => ∃ (i bl : Nat), v9 = .int .i64 (bl : Int) ∧ v10 = .int .i64 (i : Int) ∧ Aside0 (kq + i = lv.length + 1) ∧ Aside0 (i ≤ lv.length) ∧ Aside0 (bl ≤ 1000000 ∧ ∀ hi : i < lv.length, (lv.getD i []).length = cn bl m) ∧ Aside0 (SepW.Sep w w' [YtegkikdefckccaaW.SepW.Own _ k51 51 (.slice (some ad8) items.length c38) items, YtegkikdefckccaaW.SepW.Own _ (Kd.slice 24 k24) 53 (.slice (some ad7) lv.length c36) lv]) ∧ Aside0 (SepW.Sep w9 w' []))
  case atStart => exact ⟨0, items.length, rfl, rfl, ⟨Nat.add_zero _⟩, ⟨Nat.zero_le _⟩, ⟨HI6.out, fun hi => by rw [HLV.out.first hi, joinL_len, List.length_map]⟩, S, ⟨SB.out.below, trivial⟩⟩
  case round =>
   clear S SB
   obtain ⟨i, bl, rfl, rfl, KQ, IL, BL, S, SB⟩ := hrel
   cases gk with
   | zero => exact absurd KQ.out (by have := IL.out; omega)
   | succ q1 =>
   by_cases hi : i < lv.length
   ·have p0 : (0 : Int) ≤ (i : Int) := by omega
    have p1 : (i : Int) < (lv.length : Int) := by omega
    have e1 : decide (i < lv.length) = true := decide_eq_true hi
    have e2 : decide ((i : Int) < (lv.length : Int)) = true := decide_eq_true p1
    obtain ⟨U, hU⟩ : ∃ U, U = (lv.getD i []).length := ⟨_, rfl⟩
    obtain ⟨ad', Ai, ci, ea, kh⟩ := lev_head (S.out.own_C 1 rfl) i hi
    injection ea with ea
    subst ea
    rw [← hU] at kh
    have hcn : U = (bl + m - 1) / m := by rw [hU, BL.out.2 hi]; rfl
    have hbm := H2.out
    have hbn := H16.out
    have hbl := BL.out.1
    have hul : U ≤ 1000000 := by rw [hU]; exact HF.out.level i
    obtain ⟨X, hX⟩ : ∃ X : Nat, X = bl + m := ⟨_, rfl⟩
    obtain ⟨Y, hY⟩ : ∃ Y : Nat, Y = bl + m - 1 := ⟨_, rfl⟩
    have f1 : wrap64 ((bl : Int) + (m : Int)) = (X : Int) := wadd bl m X hX (by omega)
    have f2 : wrap64 ((X : Int) - 1) = (Y : Int) := wsub X Y (by clear f1; omega) (by clear f1; omega)
    have f3 : Int.tdiv (Y : Int) (m : Int) = (U : Int) := by rw [tdiv_nat, hcn, hY]
    have f4 : wrap64 (U : Int) = (U : Int) := wnat U (by clear f1 f2 f3; omega)
    have f5 : ¬ m = 0 := by clear f1 f2 f3 f4; omega
    have HU := Aside0.mk hU
    have HUL := Aside0.mk hul
    have HI := Aside0.mk hi
    have i1 : Aside0 (wrap64 ((i : Int) + 1) = ((i + 1 : Nat) : Int)) := ⟨wnext i (by clear f1 f2 f3 f4; have := HF.out.lvl; omega)⟩
    clear hX hY hcn hbm hbn hbl hul hU hi
    go_upto_region 15 with (first | fail)
    refine start_ (n := 12) (S := fun w' => w'.cell? (ad7.add i) = some (.slice Ai U ci)) (ds := []) dT17_0 (by kernel_rfl) rfl rfl kh (fun hHeld => ?_); refine with_tabW lw15_tab lw15_bits (fun HT_ HW_ => ?_)
    have HBW := Aside0.mk (below_drew (Below.refl wr.heap.size wr))
    generalize wr.drew = W9 at HBW hHeld ⊢
    replace S := Aside0.mk (S.out.step HBW.out)
    replace SB := Aside0.mk (SB.out.step HBW.out)
    refine pure_ (i := 0) (N := some 67) (v := ?_) (a' := ?_) dT17_1 rfl rfl (any_of HT_.out (by kernel_rfl)) (fun _ _ _ h => h) (Or.inl ⟨by rfl, ?_⟩) ?_ ?_
    rotate_left
    ·intro w'
     go_simp
     with_reducible rfl
    rotate_left
    ·simp only [Act.put, dT17_n, i64_w, i32_w]
     rfl
    refine pure_ (i := 1) (N := some 68) (v := ?_) (a' := ?_) dT17_2 rfl rfl (any_of HT_.out (by kernel_rfl)) (fun _ _ _ h => h) (Or.inl ⟨by rfl, ?_⟩) ?_ ?_
    rotate_left
    ·intro w'
     go_simp
     with_reducible rfl
    rotate_left
    ·simp only [Act.put, dT17_n, i64_w, i32_w]
     rfl
    refine pure_ (i := 2) (N := some 69) (v := ?_) (a' := ?_) dT17_3 rfl rfl (any_of HT_.out (by kernel_rfl)) (fun _ _ _ h => h) (Or.inl ⟨by rfl, ?_⟩) ?_ ?_
    rotate_left
    ·intro w'
     go_simp
     with_reducible rfl
    rotate_left
    ·simp only [Act.put, dT17_n, i64_w, i32_w]
     rfl
    refine pure_ (i := 5) (N := some 72) (v := ?_) (a' := ?_) dT17_4 rfl rfl (any_of HT_.out (by kernel_rfl)) (fun _ _ _ h => h) (Or.inl ⟨by rfl, ?_⟩) ?_ ?_
    rotate_left
    ·intro w'
     go_simp
     with_reducible rfl
    rotate_left
    ·simp only [Act.put, dT17_n, i64_w, i32_w]
     rfl
    refine pure_ (i := 6) (N := some 73) (v := ?_) (a' := ?_) dT17_5 rfl rfl (any_of HT_.out (by kernel_rfl)) (fun _ _ _ h => h) (Or.inl ⟨by rfl, ?_⟩) ?_ ?_
    rotate_left
    ·intro w'
     go_simp
     with_reducible rfl
    rotate_left
    ·simp only [Act.put, dT17_n, i64_w, i32_w]
     rfl
    refine pure_ (i := 7) (N := some 74) (v := ?_) (a' := ?_) dT17_6 rfl rfl (any_of HT_.out (by kernel_rfl)) (fun _ _ _ h => h) (Or.inl ⟨by rfl, ?_⟩) ?_ ?_
    rotate_left
    ·intro w'
     go_simp
     with_reducible rfl
    rotate_left
    ·simp only [Act.put, dT17_n, i64_w, i32_w]
     rfl
    refine pure_ (i := 8) (N := some 75) (v := ?_) (a' := ?_) dT17_7 rfl rfl (any_of HT_.out (by kernel_rfl)) (fun _ _ _ h => h) (Or.inl ⟨by rfl, ?_⟩) ?_ ?_
    rotate_left
    ·intro w'
     go_simp
     with_reducible rfl
    rotate_left
    ·simp only [Act.put, dT17_n, i64_w, i32_w]
     rfl
    refine pure_ (i := 9) (N := some 76) (v := ?_) (a' := ?_) dT17_8 rfl rfl (any_of HT_.out (by kernel_rfl)) (fun _ _ _ h => h) (Or.inl ⟨by rfl, ?_⟩) ?_ ?_
    rotate_left
    ·intro w'
     go_simp
     with_reducible rfl
    rotate_left
    ·simp only [Act.put, dT17_n, i64_w, i32_w]
     rfl
    refine pure_ (i := 10) (N := some 77) (v := ?_) (a' := ?_) dT17_9 rfl rfl (any_of HT_.out (by kernel_rfl)) (fun _ _ _ h => h) (Or.inl ⟨by rfl, ?_⟩) ?_ ?_
    rotate_left
    ·intro w'
     go_simp
     with_reducible rfl
    rotate_left
    ·simp only [Act.put, dT17_n, i64_w, i32_w]
     rfl
    refine take_ (i := 3) (N := some 70) (v := ?_) (a' := ?_) dT17_10 rfl rfl (take_ofW HT_.out HW_.out (by kernel_rfl)) (fun _ _ _ h => h) (Or.inl ⟨by rfl, ?_⟩) hHeld ?_ ?_
    rotate_left
    ·intro w' s0
     go_simp
     with_reducible rfl
    rotate_left
    ·simp only [Act.put, dT17_n, i64_w, i32_w]
     rfl
    refine pure_ (i := 4) (N := some 71) (v := ?_) (a' := ?_) dT17_11 rfl rfl (any_of HT_.out (by kernel_rfl)) (fun _ _ _ h => h) (Or.inl ⟨by rfl, ?_⟩) ?_ ?_
    rotate_left
    ·intro w'
     go_simp
     with_reducible rfl
    rotate_left
    ·simp only [Act.put, dT17_n, i64_w, i32_w]
     rfl
    refine pure_ (i := 11) (N := some 78) (v := ?_) (a' := ?_) dT17_12 rfl rfl (any_of HT_.out (by kernel_rfl)) (fun _ _ _ h => h) (Or.inl ⟨by rfl, ?_⟩) ?_ ?_
    rotate_left
    ·intro w'
     go_simp
     with_reducible rfl
    rotate_left
    ·simp only [Act.put, dT17_n, i64_w, i32_w]
     rfl
    refine done_ (done_of HT_.out (by kernel_rfl)) ?_
    have kh2 := hHeld
    go_wp2
    go_roundg q1
    case measure => omega
    case rel => exact ⟨i + 1, U, rfl, by rw [i1.out], ⟨by have := KQ.out; omega⟩, ⟨HI.out⟩, ⟨HUL.out, fun hi => by rw [HLV.out.next i hi, joinL_len, HU.out]⟩, S, SB⟩
   ·obtain rfl : i = lv.length := by have := IL.out; omega
    clear hi KQ IL BL
    have e1 : decide (lv.length < lv.length) = false := decide_eq_false (by omega)
    have hp0 : 0 < items.length := by have := HHL.out; have := HZ.out; omega
    have p1 : (0 : Int) < (items.length : Int) := by omega
    obtain ⟨a0, ha⟩ : ∃ a0, a0 = (items[0]).f1 := ⟨_, rfl⟩
    have hr := item_cells (S.out.own_C 0 rfl) 0 hp0 hp0
    rw [← ha] at hr
    replace hr := hr.2.2
    obtain ⟨r2', r3', r4', r5'⟩ := hr
    have r2 : wr.cell? ⟨ad8.block, ad8.off + 2, none⟩ = some (.int .i64 a0.f0) := r2'
    have r3 : wr.cell? ⟨ad8.block, ad8.off + 3, none⟩ = some (.int .i64 a0.f1) := r3'
    have r4 : wr.cell? ⟨ad8.block, ad8.off + 4, none⟩ = some (.int .i64 a0.f2) := r4'
    have r5 : wr.cell? ⟨ad8.block, ad8.off + 5, none⟩ = some (.int .i64 a0.f3) := r5'
    have HP0 := Aside0.mk hp0
    have HA := Aside0.mk ha
    clear r2' r3' r4' r5' ha
    go_upto_region 19 with (first | fail)
    clear r2 r3 r4 r5
    have S1 := Aside0.mk (S.out.alloc #[.int .i64 a0.f0, .int .i64 a0.f1, .int .i64 a0.f2, .int .i64 a0.f3] 24)
    have SB1 := Aside0.mk (SB.out.alloc #[.int .i64 a0.f0, .int .i64 a0.f1, .int .i64 a0.f2, .int .i64 a0.f3] 24)
    refine wp_genT S1 SB1 (fun W S SB => ?_)
    clear S1 SB1
    generalize wr.heap.size = gw at S SB ⊢
    go_wp2
    go_loopg [12] (items.length + 1) (fun kq v12 w' => ∃ (i : Nat) (wh : S24), v12 = .int .i64 (i : Int) ∧ Aside0 (kq + i = items.length + 1) ∧ Aside0 (i ≤ items.length) ∧ Aside0 (wh = whole items a0 i) ∧ Aside0 (SepW.Sep w w' [Box _ gw 24 #[.int .i64 wh.f0, .int .i64 wh.f1, .int .i64 wh.f2, .int .i64 wh.f3], YtegkikdefckccaaW.SepW.Own _ k51 51 (.slice (some ad8) items.length c38) items, YtegkikdefckccaaW.SepW.Own _ (Kd.slice 24 k24) 53 (.slice (some ad7) lv.length c36) lv]) ∧ Aside0 (SepW.Sep w9 w' [Box _ gw 24 #[.int .i64 wh.f0, .int .i64 wh.f1, .int .i64 wh.f2, .int .i64 wh.f3]]))
    case atStart => exact ⟨0, a0, rfl, ⟨Nat.add_zero _⟩, ⟨Nat.zero_le _⟩, ⟨rfl⟩, S, SB⟩
    case round =>
     clear S SB e1
     obtain ⟨i, wh, rfl, KQ, IL, WH, S, SB⟩ := hrel
     cases gk with
     | zero => exact absurd KQ.out (by have := IL.out; omega)
     | succ q1 =>
     by_cases hi : i < items.length
     ·have p0 : (0 : Int) ≤ (i : Int) := by omega
      have p1 : (i : Int) < (items.length : Int) := by omega
      have e1 : decide (i < items.length) = true := decide_eq_true hi
      have e2 : decide ((i : Int) < (items.length : Int)) = true := decide_eq_true p1
      obtain ⟨X, hX⟩ : ∃ X, X = items[i] := ⟨_, rfl⟩
      have hr := item_cells (S.out.own_C 1 rfl) i hi hi
      rw [← hX] at hr
      replace hr := hr.2.2
      obtain ⟨r2, r3, r4, r5⟩ := hr
      have kg_0 := blk_cell (S.out.at_box 0 rfl) 0
      have kg_1 := blk_cell (S.out.at_box 0 rfl) 1
      have kg_2 := blk_cell (S.out.at_box 0 rfl) 2
      have kg_3 := blk_cell (S.out.at_box 0 rfl) 3
      simp only [List.getElem?_toArray, List.getElem?_cons_zero, List.getElem?_cons_succ] at kg_0 kg_1 kg_2 kg_3
      have HX := Aside0.mk hX
      have HI := Aside0.mk hi
      have i1 : Aside0 (wrap64 ((i : Int) + 1) = ((i + 1 : Nat) : Int)) := ⟨wnext i (by have := HI6.out; omega)⟩
      clear hX
      go_upto_region 22 with (first | fail)
      refine start_ (n := 8) (S := fun w' => w'.cell? ⟨gw, 0, none⟩ = some (.int .i64 wh.f0) ∧ w'.cell? ⟨gw, 1, none⟩ = some (.int .i64 wh.f1) ∧ w'.cell? ⟨gw, 2, none⟩ = some (.int .i64 wh.f2) ∧ w'.cell? ⟨gw, 3, none⟩ = some (.int .i64 wh.f3) ∧ w'.cell? ⟨(ad8.add (i * 6)).block, (ad8.add (i * 6)).off + 2, none⟩ = some (.int .i64 X.f1.f0) ∧ w'.cell? ⟨(ad8.add (i * 6)).block, (ad8.add (i * 6)).off + 3, none⟩ = some (.int .i64 X.f1.f1) ∧ w'.cell? ⟨(ad8.add (i * 6)).block, (ad8.add (i * 6)).off + 4, none⟩ = some (.int .i64 X.f1.f2) ∧ w'.cell? ⟨(ad8.add (i * 6)).block, (ad8.add (i * 6)).off + 5, none⟩ = some (.int .i64 X.f1.f3)) (ds := [7]) dT17_13 (by kernel_rfl) rfl rfl ⟨kg_0, kg_1, kg_2, kg_3, r2, r3, r4, r5⟩ (fun hHeld => ?_); refine with_tabW lw22_tab lw22_bits (fun HT_ HW_ => ?_)
      have HBW := Aside0.mk (below_drew (Below.refl wr.heap.size wr))
      generalize wr.drew = W9 at HBW hHeld ⊢
      replace S := Aside0.mk (S.out.step HBW.out)
      replace SB := Aside0.mk (SB.out.step HBW.out)
      refine pure_ (i := 1) (N := some 95) (v := ?_) (a' := ?_) dT17_14 rfl rfl (any_of HT_.out (by kernel_rfl)) (fun _ _ _ h => h) (Or.inl ⟨by rfl, ?_⟩) ?_ ?_
      rotate_left
      ·intro w'
       go_simp
       with_reducible rfl
      rotate_left
      ·simp only [Act.put, dT17_n, i64_w, i32_w]
       rfl
      refine pure_ (i := 2) (N := some 96) (v := ?_) (a' := ?_) dT17_15 rfl rfl (any_of HT_.out (by kernel_rfl)) (fun _ _ _ h => h) (Or.inl ⟨by rfl, ?_⟩) ?_ ?_
      rotate_left
      ·intro w'
       go_simp
       with_reducible rfl
      rotate_left
      ·simp only [Act.put, dT17_n, i64_w, i32_w]
       rfl
      refine pure_ (i := 3) (N := some 97) (v := ?_) (a' := ?_) dT17_16 rfl rfl (any_of HT_.out (by kernel_rfl)) (fun _ _ _ h => h) (Or.inl ⟨by rfl, ?_⟩) ?_ ?_
      rotate_left
      ·intro w'
       go_simp
       with_reducible rfl
      rotate_left
      ·simp only [Act.put, dT17_n, i64_w, i32_w]
       rfl
      refine pure_ (i := 4) (N := some 98) (v := ?_) (a' := ?_) dT17_17 rfl rfl (any_of HT_.out (by kernel_rfl)) (fun _ _ _ h => h) (Or.inl ⟨by rfl, ?_⟩) ?_ ?_
      rotate_left
      ·intro w'
       go_simp
       with_reducible rfl
      rotate_left
      ·simp only [Act.put, dT17_n, i64_w, i32_w]
       rfl
      refine take_ (i := 0) (N := some 94) (v := ?_) (a' := ?_) dT17_18 rfl rfl (take_ofW HT_.out HW_.out (by kernel_rfl)) (fun _ _ _ h => h) (Or.inl ⟨by rfl, ?_⟩) hHeld ?_ ?_
      rotate_left
      ·rintro w' ⟨s0, s1, s2, s3, s4, s5, s6, s7⟩
       go_simp
       with_reducible rfl
      rotate_left
      ·simp only [Act.put, dT17_n, i64_w, i32_w]
       rfl
      refine take_ (i := 5) (N := some 99) (v := ?_) (a' := ?_) dT17_19 rfl rfl (take_ofW HT_.out HW_.out (by kernel_rfl)) (fun _ _ _ h => h) (Or.inl ⟨by rfl, ?_⟩) hHeld ?_ ?_
      rotate_left
      ·rintro w' ⟨s0, s1, s2, s3, s4, s5, s6, s7⟩
       go_simp
       with_reducible rfl
      rotate_left
      ·simp only [Act.put, dT17_n, i64_w, i32_w]
       rfl
      refine one_ (i := 6) (N := some 100) dT17_20 rfl rfl (one_of HT_.out (by kernel_rfl)) (by decide) (fun K hK => ?_)
      refine goes_ Try.func23 (by kernel_rfl) rfl #[.agg #[.int .i64 wh.f0, .int .i64 wh.f1, .int .i64 wh.f2, .int .i64 wh.f3], .agg #[.int .i64 X.f1.f0, .int .i64 X.f1.f1, .int .i64 X.f1.f2, .int .i64 X.f1.f3]] (by rfl) rfl rfl (by (try simp only [List.map_toArray, List.map_cons, List.map_nil]); first | done | rfl) ?_
      with_reducible refine (join8_ct wh X.f1 _).mono ?_
      rintro e w100 ⟨rfl, hb⟩
      refine ⟨_, rfl, ?_⟩
      replace S := Aside0.mk (S.out.step hb)
      replace SB := Aside0.mk (SB.out.step hb)
      refine hK.out _ _ ⟨pw_cell_below hb hHeld.1, pw_cell_below hb hHeld.2.1, pw_cell_below hb hHeld.2.2.1, pw_cell_below hb hHeld.2.2.2.1, pw_cell_below hb hHeld.2.2.2.2.1, pw_cell_below hb hHeld.2.2.2.2.2.1, pw_cell_below hb hHeld.2.2.2.2.2.2.1, pw_cell_below hb hHeld.2.2.2.2.2.2.2⟩ (fun hHeld => ?_)
      clear hK K
      refine norm_ (a' := ?_) ?_ ?_
      rotate_left
      ·show Act.put _ (some 100) _ = _
       simp only [Act.put, dT17_n, i64_w, i32_w]
       rfl
      refine last_ (i := 7) (N := none) dT17_21 rfl rfl (one_of HT_.out (by kernel_rfl)) (by decide) (fun K hK => ?_)
      obtain ⟨t0, t1, t2, t3, _⟩ := hHeld
      have y0 := blk_frozen (S.out.at_box 0 rfl) 0
      have y1 := blk_frozen (S.out.at_box 0 rfl) 1
      have y2 := blk_frozen (S.out.at_box 0 rfl) 2
      have y3 := blk_frozen (S.out.at_box 0 rfl) 3
      go_simp
      refine hK.out _ _ ?_
      clear hK K
      refine done_ (done_of HT_.out (by kernel_rfl)) ?_
      go_upto_region 23 with (first | fail)
      have S1 := Aside0.mk (show SepW.Sep w _ [Box _ gw 24 #[.int .i64 (joinB wh X.f1).f0, .int .i64 (joinB wh X.f1).f1, .int .i64 (joinB wh X.f1).f2, .int .i64 (joinB wh X.f1).f3], YtegkikdefckccaaW.SepW.Own _ k51 51 (.slice (some ad8) items.length c38) items, YtegkikdefckccaaW.SepW.Own _ (Kd.slice 24 k24) 53 (.slice (some ad7) lv.length c36) lv] from ((((S.out).set 0 rfl 0 (.int .i64 (joinB wh X.f1).f0)).set 0 rfl 1 (.int .i64 (joinB wh X.f1).f1)).set 0 rfl 2 (.int .i64 (joinB wh X.f1).f2)).set 0 rfl 3 (.int .i64 (joinB wh X.f1).f3))
      have SB1 := Aside0.mk (show SepW.Sep w9 _ [Box _ gw 24 #[.int .i64 (joinB wh X.f1).f0, .int .i64 (joinB wh X.f1).f1, .int .i64 (joinB wh X.f1).f2, .int .i64 (joinB wh X.f1).f3]] from ((((SB.out).set 0 rfl 0 (.int .i64 (joinB wh X.f1).f0)).set 0 rfl 1 (.int .i64 (joinB wh X.f1).f1)).set 0 rfl 2 (.int .i64 (joinB wh X.f1).f2)).set 0 rfl 3 (.int .i64 (joinB wh X.f1).f3))
      refine wp_genT S1 SB1 (fun W S SB => ?_)
      clear S1 SB1
      clear kg_0 kg_1 kg_2 kg_3 r2 r3 r4 r5
      have hr := item_cells (S.out.own_C 1 rfl) i HI.out HI.out
      rw [← HX.out] at hr
      replace hr := hr.2.2
      obtain ⟨r2, r3, r4, r5⟩ := hr
      obtain ⟨q, hq⟩ : ∃ q, q = i / m := ⟨_, rfl⟩
      have hlow := low_absorb HLV.out (show 1 ≤ m by have := H2.out; omega) HIV.out HI.out HLZ.out
      rw [← HX.out, ← hq] at hlow
      obtain ⟨ad', ad0, c0, ea, kh, kb⟩ := lev_at (S.out.own_C 2 rfl) 0 q HLZ.out hlow.1
      injection ea with ea
      subst ea
      obtain ⟨B, hB⟩ : ∃ B, B = bxL lv 0 q := ⟨_, rfl⟩
      rw [← hB] at hlow kb
      obtain ⟨U, hU⟩ : ∃ U, U = (lv.getD 0 []).length := ⟨_, rfl⟩
      rw [← hU] at hlow kh
      replace kh : W.cell? ad7 = some (.slice (some ad0) U c0) := kh
      unfold bxAt at kb
      have HAB := Aside0.mk hlow.2
      have z0 : (0 : Int) < (lv.length : Int) := by have := HLZ.out; omega
      have z1 : 0 < lv.length := HLZ.out
      have q0 : (0 : Int) ≤ (q : Int) := by omega
      have q1' : (q : Int) < (U : Int) := by have := hlow.1; omega
      have q2 : Int.tdiv (i : Int) (m : Int) = (q : Int) := by rw [tdiv_nat, hq]
      have q3 : wrap64 (q : Int) = (q : Int) := wnat q (by clear q2; have := hlow.1; have := HF.out.level 0; rw [← hU] at this; omega)
      have f5 : ¬ m = 0 := by clear q2 q3; have := H2.out; omega
      clear hq hB hU hlow
      refine start_ (n := 23) (S := fun w' => w'.cell? ⟨(ad8.add (i * 6)).block, (ad8.add (i * 6)).off + 2, none⟩ = some (.int .i64 X.f1.f0) ∧ w'.cell? ⟨(ad8.add (i * 6)).block, (ad8.add (i * 6)).off + 3, none⟩ = some (.int .i64 X.f1.f1) ∧ w'.cell? ⟨(ad8.add (i * 6)).block, (ad8.add (i * 6)).off + 4, none⟩ = some (.int .i64 X.f1.f2) ∧ w'.cell? ⟨(ad8.add (i * 6)).block, (ad8.add (i * 6)).off + 5, none⟩ = some (.int .i64 X.f1.f3) ∧ w'.cell? ad7 = some (.slice (some ad0) U c0) ∧ w'.cell? (ad0.add (q * 4)) = some (.int .i64 B.f0) ∧ w'.cell? ⟨(ad0.add (q * 4)).block, (ad0.add (q * 4)).off + 1, none⟩ = some (.int .i64 B.f1) ∧ w'.cell? ⟨(ad0.add (q * 4)).block, (ad0.add (q * 4)).off + 2, none⟩ = some (.int .i64 B.f2) ∧ w'.cell? ⟨(ad0.add (q * 4)).block, (ad0.add (q * 4)).off + 3, none⟩ = some (.int .i64 B.f3)) (ds := []) dT17_22 (by kernel_rfl) rfl rfl ⟨r2, r3, r4, r5, kh, kb.1, kb.2.1, kb.2.2.1, kb.2.2.2⟩ (fun hHeld => ?_); refine with_tabW lw23_tab lw23_bits (fun HT_ HW_ => ?_)
      have HBW := Aside0.mk (below_drew (Below.refl W.heap.size W))
      generalize W.drew = W9 at HBW hHeld ⊢
      replace S := Aside0.mk (S.out.step HBW.out)
      replace SB := Aside0.mk (SB.out.step HBW.out)
      refine pure_ (i := 0) (N := some 101) (v := ?_) (a' := ?_) dT17_23 rfl rfl (any_of HT_.out (by kernel_rfl)) (fun _ _ _ h => h) (Or.inl ⟨by rfl, ?_⟩) ?_ ?_
      rotate_left
      ·intro w'
       go_simp
       with_reducible rfl
      rotate_left
      ·simp only [Act.put, dT17_n, i64_w, i32_w]
       rfl
      refine pure_ (i := 1) (N := some 102) (v := ?_) (a' := ?_) dT17_24 rfl rfl (any_of HT_.out (by kernel_rfl)) (fun _ _ _ h => h) (Or.inl ⟨by rfl, ?_⟩) ?_ ?_
      rotate_left
      ·intro w'
       go_simp
       with_reducible rfl
      rotate_left
      ·simp only [Act.put, dT17_n, i64_w, i32_w]
       rfl
      refine pure_ (i := 2) (N := some 103) (v := ?_) (a' := ?_) dT17_25 rfl rfl (any_of HT_.out (by kernel_rfl)) (fun _ _ _ h => h) (Or.inl ⟨by rfl, ?_⟩) ?_ ?_
      rotate_left
      ·intro w'
       go_simp
       with_reducible rfl
      rotate_left
      ·simp only [Act.put, dT17_n, i64_w, i32_w]
       rfl
      refine pure_ (i := 3) (N := some 104) (v := ?_) (a' := ?_) dT17_26 rfl rfl (any_of HT_.out (by kernel_rfl)) (fun _ _ _ h => h) (Or.inl ⟨by rfl, ?_⟩) ?_ ?_
      rotate_left
      ·intro w'
       go_simp
       with_reducible rfl
      rotate_left
      ·simp only [Act.put, dT17_n, i64_w, i32_w]
       rfl
      refine pure_ (i := 5) (N := some 106) (v := ?_) (a' := ?_) dT17_27 rfl rfl (any_of HT_.out (by kernel_rfl)) (fun _ _ _ h => h) (Or.inl ⟨by rfl, ?_⟩) ?_ ?_
      rotate_left
      ·intro w'
       go_simp
       with_reducible rfl
      rotate_left
      ·simp only [Act.put, dT17_n, i64_w, i32_w]
       rfl
      refine pure_ (i := 6) (N := some 107) (v := ?_) (a' := ?_) dT17_28 rfl rfl (any_of HT_.out (by kernel_rfl)) (fun _ _ _ h => h) (Or.inl ⟨by rfl, ?_⟩) ?_ ?_
      rotate_left
      ·intro w'
       go_simp
       with_reducible rfl
      rotate_left
      ·simp only [Act.put, dT17_n, i64_w, i32_w]
       rfl
      refine pure_ (i := 8) (N := some 109) (v := ?_) (a' := ?_) dT17_29 rfl rfl (any_of HT_.out (by kernel_rfl)) (fun _ _ _ h => h) (Or.inl ⟨by rfl, ?_⟩) ?_ ?_
      rotate_left
      ·intro w'
       go_simp
       with_reducible rfl
      rotate_left
      ·simp only [Act.put, dT17_n, i64_w, i32_w]
       rfl
      refine pure_ (i := 9) (N := some 110) (v := ?_) (a' := ?_) dT17_30 rfl rfl (any_of HT_.out (by kernel_rfl)) (fun _ _ _ h => h) (Or.inl ⟨by rfl, ?_⟩) ?_ ?_
      rotate_left
      ·intro w'
       go_simp
       with_reducible rfl
      rotate_left
      ·simp only [Act.put, dT17_n, i64_w, i32_w]
       rfl
      refine pure_ (i := 10) (N := some 111) (v := ?_) (a' := ?_) dT17_31 rfl rfl (any_of HT_.out (by kernel_rfl)) (fun _ _ _ h => h) (Or.inl ⟨by rfl, ?_⟩) ?_ ?_
      rotate_left
      ·intro w'
       go_simp
       with_reducible rfl
      rotate_left
      ·simp only [Act.put, dT17_n, i64_w, i32_w]
       rfl
      refine pure_ (i := 14) (N := some 115) (v := ?_) (a' := ?_) dT17_32 rfl rfl (any_of HT_.out (by kernel_rfl)) (fun _ _ _ h => h) (Or.inl ⟨by rfl, ?_⟩) ?_ ?_
      rotate_left
      ·intro w'
       go_simp
       with_reducible rfl
      rotate_left
      ·simp only [Act.put, dT17_n, i64_w, i32_w]
       rfl
      refine pure_ (i := 15) (N := some 116) (v := ?_) (a' := ?_) dT17_33 rfl rfl (any_of HT_.out (by kernel_rfl)) (fun _ _ _ h => h) (Or.inl ⟨by rfl, ?_⟩) ?_ ?_
      rotate_left
      ·intro w'
       go_simp
       with_reducible rfl
      rotate_left
      ·simp only [Act.put, dT17_n, i64_w, i32_w]
       rfl
      refine pure_ (i := 17) (N := some 118) (v := ?_) (a' := ?_) dT17_34 rfl rfl (any_of HT_.out (by kernel_rfl)) (fun _ _ _ h => h) (Or.inl ⟨by rfl, ?_⟩) ?_ ?_
      rotate_left
      ·intro w'
       go_simp
       with_reducible rfl
      rotate_left
      ·simp only [Act.put, dT17_n, i64_w, i32_w]
       rfl
      refine pure_ (i := 18) (N := some 119) (v := ?_) (a' := ?_) dT17_35 rfl rfl (any_of HT_.out (by kernel_rfl)) (fun _ _ _ h => h) (Or.inl ⟨by rfl, ?_⟩) ?_ ?_
      rotate_left
      ·intro w'
       go_simp
       with_reducible rfl
      rotate_left
      ·simp only [Act.put, dT17_n, i64_w, i32_w]
       rfl
      refine pure_ (i := 19) (N := some 120) (v := ?_) (a' := ?_) dT17_36 rfl rfl (any_of HT_.out (by kernel_rfl)) (fun _ _ _ h => h) (Or.inl ⟨by rfl, ?_⟩) ?_ ?_
      rotate_left
      ·intro w'
       go_simp
       with_reducible rfl
      rotate_left
      ·simp only [Act.put, dT17_n, i64_w, i32_w]
       rfl
      refine take_ (i := 4) (N := some 105) (v := ?_) (a' := ?_) dT17_37 rfl rfl (take_ofW HT_.out HW_.out (by kernel_rfl)) (fun _ _ _ h => h) (Or.inl ⟨by rfl, ?_⟩) hHeld ?_ ?_
      rotate_left
      ·rintro w' ⟨s0, s1, s2, s3, s4, s5, s6, s7, s8⟩
       go_simp
       with_reducible rfl
      rotate_left
      ·simp only [Act.put, dT17_n, i64_w, i32_w]
       rfl
      refine take_ (i := 7) (N := some 108) (v := ?_) (a' := ?_) dT17_38 rfl rfl (take_ofW HT_.out HW_.out (by kernel_rfl)) (fun _ _ _ h => h) (Or.inl ⟨by rfl, ?_⟩) hHeld ?_ ?_
      rotate_left
      ·rintro w' ⟨s0, s1, s2, s3, s4, s5, s6, s7, s8⟩
       go_simp
       with_reducible rfl
      rotate_left
      ·simp only [Act.put, dT17_n, i64_w, i32_w]
       rfl
      refine pure_ (i := 11) (N := some 112) (v := ?_) (a' := ?_) dT17_39 rfl rfl (any_of HT_.out (by kernel_rfl)) (fun _ _ _ h => h) (Or.inl ⟨by rfl, ?_⟩) ?_ ?_
      rotate_left
      ·intro w'
       go_simp
       with_reducible rfl
      rotate_left
      ·simp only [Act.put, dT17_n, i64_w, i32_w]
       rfl
      refine take_ (i := 12) (N := some 113) (v := ?_) (a' := ?_) dT17_40 rfl rfl (take_ofW HT_.out HW_.out (by kernel_rfl)) (fun _ _ _ h => h) (Or.inl ⟨by rfl, ?_⟩) hHeld ?_ ?_
      rotate_left
      ·rintro w' ⟨s0, s1, s2, s3, s4, s5, s6, s7, s8⟩
       go_simp
       with_reducible rfl
      rotate_left
      ·simp only [Act.put, dT17_n, i64_w, i32_w]
       rfl
      refine take_ (i := 16) (N := some 117) (v := ?_) (a' := ?_) dT17_41 rfl rfl (take_ofW HT_.out HW_.out (by kernel_rfl)) (fun _ _ _ h => h) (Or.inl ⟨by rfl, ?_⟩) hHeld ?_ ?_
      rotate_left
      ·rintro w' ⟨s0, s1, s2, s3, s4, s5, s6, s7, s8⟩
       go_simp
       with_reducible rfl
      rotate_left
      ·simp only [Act.put, dT17_n, i64_w, i32_w]
       rfl
      refine pure_ (i := 20) (N := some 121) (v := ?_) (a' := ?_) dT17_42 rfl rfl (any_of HT_.out (by kernel_rfl)) (fun _ _ _ h => h) (Or.inl ⟨by rfl, ?_⟩) ?_ ?_
      rotate_left
      ·intro w'
       go_simp
       with_reducible rfl
      rotate_left
      ·simp only [Act.put, dT17_n, i64_w, i32_w]
       rfl
      refine take_ (i := 21) (N := some 122) (v := ?_) (a' := ?_) dT17_43 rfl rfl (take_ofW HT_.out HW_.out (by kernel_rfl)) (fun _ _ _ h => h) (Or.inl ⟨by rfl, ?_⟩) hHeld ?_ ?_
      rotate_left
      ·rintro w' ⟨s0, s1, s2, s3, s4, s5, s6, s7, s8⟩
       go_simp
       with_reducible rfl
      rotate_left
      ·simp only [Act.put, dT17_n, i64_w, i32_w]
       rfl
      refine one_ (i := 13) (N := some 114) dT17_44 rfl rfl (one_of HT_.out (by kernel_rfl)) (by decide) (fun K hK => ?_)
      refine goes_ Try.func23 (by kernel_rfl) rfl #[.agg #[.int .i64 X.f1.f0, .int .i64 X.f1.f1, .int .i64 X.f1.f2, .int .i64 X.f1.f3], .agg #[.int .i64 B.f0, .int .i64 B.f1, .int .i64 B.f2, .int .i64 B.f3]] (by rfl) rfl rfl (by (try simp only [List.map_toArray, List.map_cons, List.map_nil]); first | done | rfl) ?_
      with_reducible refine (join8_abs HAB.out _).mono ?_
      rintro e w114 ⟨rfl, hb⟩
      refine ⟨_, rfl, ?_⟩
      replace S := Aside0.mk (S.out.step hb)
      replace SB := Aside0.mk (SB.out.step hb)
      refine hK.out _ _ ⟨pw_cell_below hb hHeld.1, pw_cell_below hb hHeld.2.1, pw_cell_below hb hHeld.2.2.1, pw_cell_below hb hHeld.2.2.2.1, pw_cell_below hb hHeld.2.2.2.2.1, pw_cell_below hb hHeld.2.2.2.2.2.1, pw_cell_below hb hHeld.2.2.2.2.2.2.1, pw_cell_below hb hHeld.2.2.2.2.2.2.2.1, pw_cell_below hb hHeld.2.2.2.2.2.2.2.2⟩ (fun hHeld => ?_)
      clear hK K
      refine norm_ (a' := ?_) ?_ ?_
      rotate_left
      ·show Act.put _ (some 114) _ = _
       simp only [Act.put, dT17_n, i64_w, i32_w]
       rfl
      refine pure_ (i := 22) (N := some 123) (v := ?_) (a' := ?_) dT17_45 rfl rfl (any_of HT_.out (by kernel_rfl)) (fun _ _ _ h => h) (Or.inl ⟨by rfl, ?_⟩) ?_ ?_
      rotate_left
      ·intro w'
       go_simp
       with_reducible rfl
      rotate_left
      ·simp only [Act.put, dT17_n, i64_w, i32_w]
       rfl
      refine done_ (done_of HT_.out (by kernel_rfl)) ?_
      go_wp2
      go_roundg q1
      case measure => omega
      case rel => exact ⟨i + 1, joinB wh X.f1, by rw [i1.out], ⟨by have := KQ.out; omega⟩, ⟨HI.out⟩, ⟨by rw [whole_next items a0 i HI.out, ← HX.out, ← WH.out]⟩, S, SB⟩
     ·obtain rfl : i = items.length := by have := IL.out; omega
      clear hi KQ IL
      have hm1 : 1 ≤ m := by have := H2.out; omega
      have hwo := whole_of hp0 HIV.out
      have hwh : wh = (items.map S51.f1).foldl joinB (items[0]).f1 := by rw [WH.out, HA.out]; unfold whole; rw [List.take_length]
      rw [← hwh] at hwo
      have htw := top_whole HLV.out hm1 HIV.out HLZ.out hwo.1 hwo.2
      have hvg := vis_ge HLV.out hm1 HIV.out hwo.1 (lv.length - 1) 0 (by have := HLZ.out; omega) (by rw [HLV.out.top HLZ.out]; decide)
      have hvt : (visT lv items m wh).2 = (vis lv items m wh (lv.length - 1) 0).2 := by unfold visT; rw [if_neg (by have := HLZ.out; omega)]
      rw [← hvt] at hvg
      have HTW := Aside0.mk htw
      have HVG : Aside0 (lv.length ≤ (visT lv items m wh).2) := ⟨by have := HLZ.out; omega⟩
      clear hvg hvt htw hwh hwo
      have HM1 := Aside0.mk hm1
      clear hm1 WH HA HP0 p1 hp0
      have e1 : decide (items.length < items.length) = false := decide_eq_false (by omega)
      go_wp2
      go_loopg [13] (lv.length + 1) (fun kq v13 w' => ∃ (i : Nat), v13 = .int .i64 (i : Int) ∧ Aside0 (kq + i = lv.length + 1) ∧ Aside0 (i + 1 ≤ lv.length) ∧ Aside0 (SepW.Sep w w' [Box _ gw 24 #[.int .i64 wh.f0, .int .i64 wh.f1, .int .i64 wh.f2, .int .i64 wh.f3], YtegkikdefckccaaW.SepW.Own _ k51 51 (.slice (some ad8) items.length c38) items, YtegkikdefckccaaW.SepW.Own _ (Kd.slice 24 k24) 53 (.slice (some ad7) lv.length c36) lv]) ∧ Aside0 (SepW.Sep w9 w' [Box _ gw 24 #[.int .i64 wh.f0, .int .i64 wh.f1, .int .i64 wh.f2, .int .i64 wh.f3]]))
      case atStart => exact ⟨0, rfl, ⟨Nat.add_zero _⟩, ⟨HLZ.out⟩, S, SB⟩
      case round =>
       clear S SB e1
       obtain ⟨i, rfl, KQ, IL, S, SB⟩ := hrel
       cases gk with
       | zero => exact absurd KQ.out (by have := IL.out; omega)
       | succ q1 =>
       obtain ⟨j, hj⟩ : ∃ j, j = i + 1 := ⟨_, rfl⟩
       have n1 : wrap64 ((i : Int) + 1) = (j : Int) := by rw [hj]; exact wnext i (by have := HF.out.lvl; have := IL.out; omega)
       have HJ := Aside0.mk hj
       by_cases hi : i + 1 < lv.length
       ·have p0 : (0 : Int) ≤ (i : Int) := by omega
        have p1 : (i : Int) < (lv.length : Int) := by omega
        have p2 : (0 : Int) ≤ (j : Int) := by omega
        have p3 : (j : Int) < (lv.length : Int) := by omega
        have e1 : decide (j < lv.length) = true := decide_eq_true (by omega)
        have e2 : decide ((j : Int) < (lv.length : Int)) = true := decide_eq_true p3
        have HI := Aside0.mk hi
        clear hi hj
        obtain ⟨U, hU⟩ : ∃ U, U = (lv.getD i []).length := ⟨_, rfl⟩
        have HU := Aside0.mk hU
        have HU6 : Aside0 (U ≤ 1000000) := ⟨by rw [hU]; exact HF.out.level i⟩
        clear hU
        go_wp2
        go_loopg [14] (U + 1) (fun kq v14 w' => ∃ (t : Nat), v14 = .int .i64 (t : Int) ∧ Aside0 (kq + t = U + 1) ∧ Aside0 (t ≤ U) ∧ Aside0 (SepW.Sep w w' [Box _ gw 24 #[.int .i64 wh.f0, .int .i64 wh.f1, .int .i64 wh.f2, .int .i64 wh.f3], YtegkikdefckccaaW.SepW.Own _ k51 51 (.slice (some ad8) items.length c38) items, YtegkikdefckccaaW.SepW.Own _ (Kd.slice 24 k24) 53 (.slice (some ad7) lv.length c36) lv]) ∧ Aside0 (SepW.Sep w9 w' [Box _ gw 24 #[.int .i64 wh.f0, .int .i64 wh.f1, .int .i64 wh.f2, .int .i64 wh.f3]]))
        case atStart => exact ⟨0, rfl, ⟨Nat.add_zero _⟩, ⟨Nat.zero_le _⟩, S, SB⟩
        case round =>
         clear S SB
         obtain ⟨t, rfl, KT, TL, S, SB⟩ := hrel
         cases gk with
         | zero => exact absurd KT.out (by have := TL.out; omega)
         | succ q2 =>
         by_cases ht : t < U
         ·have t0 : (0 : Int) ≤ (t : Int) := by omega
          have t1 : (t : Int) < (U : Int) := by omega
          have e3 : decide (t < U) = true := decide_eq_true ht
          have e4 : decide ((t : Int) < (U : Int)) = true := decide_eq_true t1
          obtain ⟨q, hq⟩ : ∃ q, q = t / m := ⟨_, rfl⟩
          have hhi := high_absorb HLV.out HM1.out HIV.out HI.out (show t < (lv.getD i []).length by rw [← HU.out]; exact ht)
          rw [← HJ.out, ← hq] at hhi
          obtain ⟨ad', ad0, c0, ea, kh, kb⟩ := lev_at (S.out.own_C 2 rfl) i t (by have := HI.out; omega) (by rw [← HU.out]; exact ht)
          injection ea with ea
          subst ea
          obtain ⟨ad', ad1, c1, ea, kj, kc⟩ := lev_at (S.out.own_C 2 rfl) j q (by have := HI.out; have := HJ.out; omega) hhi.1
          injection ea with ea
          subst ea
          obtain ⟨b0, hb0⟩ : ∃ b0, b0 = bxL lv i t := ⟨_, rfl⟩
          obtain ⟨B, hB⟩ : ∃ B, B = bxL lv j q := ⟨_, rfl⟩
          obtain ⟨V, hV⟩ : ∃ V, V = (lv.getD j []).length := ⟨_, rfl⟩
          rw [← hb0, ← hB, ← hV] at hhi
          rw [← hb0] at kb
          rw [← hB] at kc
          rw [← HU.out] at kh
          rw [← hV] at kj
          unfold bxAt at kb kc
          have HAB := Aside0.mk hhi.2
          have s0 : (0 : Int) ≤ (q : Int) := by omega
          have s1 : (q : Int) < (V : Int) := by have := hhi.1; omega
          have s2 : Int.tdiv (t : Int) (m : Int) = (q : Int) := by rw [tdiv_nat, hq]
          have s3 : wrap64 (q : Int) = (q : Int) := wnat q (by clear s2 n1; have := hhi.1; have := HF.out.level j; rw [← hV] at this; omega)
          have f5 : ¬ m = 0 := by clear s2 s3 n1; have := HM1.out; omega
          have i1 : Aside0 (wrap64 ((t : Int) + 1) = ((t + 1 : Nat) : Int)) := ⟨wnext t (by clear s2 s3 n1; have := HU6.out; omega)⟩
          have HTU := Aside0.mk ht
          clear hq hB hV hhi hb0 ht
          go_upto_region 31 with (first | fail)
          refine start_ (n := 29) (S := fun w' => w'.cell? (ad7.add i) = some (.slice (some ad0) U c0) ∧ w'.cell? (ad0.add (t * 4)) = some (.int .i64 b0.f0) ∧ w'.cell? ⟨(ad0.add (t * 4)).block, (ad0.add (t * 4)).off + 1, none⟩ = some (.int .i64 b0.f1) ∧ w'.cell? ⟨(ad0.add (t * 4)).block, (ad0.add (t * 4)).off + 2, none⟩ = some (.int .i64 b0.f2) ∧ w'.cell? ⟨(ad0.add (t * 4)).block, (ad0.add (t * 4)).off + 3, none⟩ = some (.int .i64 b0.f3) ∧ w'.cell? (ad7.add j) = some (.slice (some ad1) V c1) ∧ w'.cell? (ad1.add (q * 4)) = some (.int .i64 B.f0) ∧ w'.cell? ⟨(ad1.add (q * 4)).block, (ad1.add (q * 4)).off + 1, none⟩ = some (.int .i64 B.f1) ∧ w'.cell? ⟨(ad1.add (q * 4)).block, (ad1.add (q * 4)).off + 2, none⟩ = some (.int .i64 B.f2) ∧ w'.cell? ⟨(ad1.add (q * 4)).block, (ad1.add (q * 4)).off + 3, none⟩ = some (.int .i64 B.f3)) (ds := []) dT17_46 (by kernel_rfl) rfl rfl ⟨kh, kb.1, kb.2.1, kb.2.2.1, kb.2.2.2, kj, kc.1, kc.2.1, kc.2.2.1, kc.2.2.2⟩ (fun hHeld => ?_); refine with_tabW lw31_tab lw31_bits (fun HT_ HW_ => ?_)
          have HBW := Aside0.mk (below_drew (Below.refl wr.heap.size wr))
          generalize wr.drew = W9 at HBW hHeld ⊢
          replace S := Aside0.mk (S.out.step HBW.out)
          replace SB := Aside0.mk (SB.out.step HBW.out)
          refine pure_ (i := 0) (N := some 140) (v := ?_) (a' := ?_) dT17_47 rfl rfl (any_of HT_.out (by kernel_rfl)) (fun _ _ _ h => h) (Or.inl ⟨by rfl, ?_⟩) ?_ ?_
          rotate_left
          ·intro w'
           go_simp
           with_reducible rfl
          rotate_left
          ·simp only [Act.put, dT17_n, i64_w, i32_w]
           rfl
          refine pure_ (i := 1) (N := some 141) (v := ?_) (a' := ?_) dT17_48 rfl rfl (any_of HT_.out (by kernel_rfl)) (fun _ _ _ h => h) (Or.inl ⟨by rfl, ?_⟩) ?_ ?_
          rotate_left
          ·intro w'
           go_simp
           with_reducible rfl
          rotate_left
          ·simp only [Act.put, dT17_n, i64_w, i32_w]
           rfl
          refine pure_ (i := 2) (N := some 142) (v := ?_) (a' := ?_) dT17_49 rfl rfl (any_of HT_.out (by kernel_rfl)) (fun _ _ _ h => h) (Or.inl ⟨by rfl, ?_⟩) ?_ ?_
          rotate_left
          ·intro w'
           go_simp
           with_reducible rfl
          rotate_left
          ·simp only [Act.put, dT17_n, i64_w, i32_w]
           rfl
          refine pure_ (i := 4) (N := some 144) (v := ?_) (a' := ?_) dT17_50 rfl rfl (any_of HT_.out (by kernel_rfl)) (fun _ _ _ h => h) (Or.inl ⟨by rfl, ?_⟩) ?_ ?_
          rotate_left
          ·intro w'
           go_simp
           with_reducible rfl
          rotate_left
          ·simp only [Act.put, dT17_n, i64_w, i32_w]
           rfl
          refine pure_ (i := 7) (N := some 147) (v := ?_) (a' := ?_) dT17_51 rfl rfl (any_of HT_.out (by kernel_rfl)) (fun _ _ _ h => h) (Or.inl ⟨by rfl, ?_⟩) ?_ ?_
          rotate_left
          ·intro w'
           go_simp
           with_reducible rfl
          rotate_left
          ·simp only [Act.put, dT17_n, i64_w, i32_w]
           rfl
          refine pure_ (i := 8) (N := some 148) (v := ?_) (a' := ?_) dT17_52 rfl rfl (any_of HT_.out (by kernel_rfl)) (fun _ _ _ h => h) (Or.inl ⟨by rfl, ?_⟩) ?_ ?_
          rotate_left
          ·intro w'
           go_simp
           with_reducible rfl
          rotate_left
          ·simp only [Act.put, dT17_n, i64_w, i32_w]
           rfl
          refine pure_ (i := 9) (N := some 149) (v := ?_) (a' := ?_) dT17_53 rfl rfl (any_of HT_.out (by kernel_rfl)) (fun _ _ _ h => h) (Or.inl ⟨by rfl, ?_⟩) ?_ ?_
          rotate_left
          ·intro w'
           go_simp
           with_reducible rfl
          rotate_left
          ·simp only [Act.put, dT17_n, i64_w, i32_w]
           rfl
          refine pure_ (i := 10) (N := some 150) (v := ?_) (a' := ?_) dT17_54 rfl rfl (any_of HT_.out (by kernel_rfl)) (fun _ _ _ h => h) (Or.inl ⟨by rfl, ?_⟩) ?_ ?_
          rotate_left
          ·intro w'
           go_simp
           with_reducible rfl
          rotate_left
          ·simp only [Act.put, dT17_n, i64_w, i32_w]
           rfl
          refine pure_ (i := 12) (N := some 152) (v := ?_) (a' := ?_) dT17_55 rfl rfl (any_of HT_.out (by kernel_rfl)) (fun _ _ _ h => h) (Or.inl ⟨by rfl, ?_⟩) ?_ ?_
          rotate_left
          ·intro w'
           go_simp
           with_reducible rfl
          rotate_left
          ·simp only [Act.put, dT17_n, i64_w, i32_w]
           rfl
          refine pure_ (i := 13) (N := some 153) (v := ?_) (a' := ?_) dT17_56 rfl rfl (any_of HT_.out (by kernel_rfl)) (fun _ _ _ h => h) (Or.inl ⟨by rfl, ?_⟩) ?_ ?_
          rotate_left
          ·intro w'
           go_simp
           with_reducible rfl
          rotate_left
          ·simp only [Act.put, dT17_n, i64_w, i32_w]
           rfl
          refine pure_ (i := 14) (N := some 154) (v := ?_) (a' := ?_) dT17_57 rfl rfl (any_of HT_.out (by kernel_rfl)) (fun _ _ _ h => h) (Or.inl ⟨by rfl, ?_⟩) ?_ ?_
          rotate_left
          ·intro w'
           go_simp
           with_reducible rfl
          rotate_left
          ·simp only [Act.put, dT17_n, i64_w, i32_w]
           rfl
          refine pure_ (i := 18) (N := some 158) (v := ?_) (a' := ?_) dT17_58 rfl rfl (any_of HT_.out (by kernel_rfl)) (fun _ _ _ h => h) (Or.inl ⟨by rfl, ?_⟩) ?_ ?_
          rotate_left
          ·intro w'
           go_simp
           with_reducible rfl
          rotate_left
          ·simp only [Act.put, dT17_n, i64_w, i32_w]
           rfl
          refine pure_ (i := 19) (N := some 159) (v := ?_) (a' := ?_) dT17_59 rfl rfl (any_of HT_.out (by kernel_rfl)) (fun _ _ _ h => h) (Or.inl ⟨by rfl, ?_⟩) ?_ ?_
          rotate_left
          ·intro w'
           go_simp
           with_reducible rfl
          rotate_left
          ·simp only [Act.put, dT17_n, i64_w, i32_w]
           rfl
          refine pure_ (i := 20) (N := some 160) (v := ?_) (a' := ?_) dT17_60 rfl rfl (any_of HT_.out (by kernel_rfl)) (fun _ _ _ h => h) (Or.inl ⟨by rfl, ?_⟩) ?_ ?_
          rotate_left
          ·intro w'
           go_simp
           with_reducible rfl
          rotate_left
          ·simp only [Act.put, dT17_n, i64_w, i32_w]
           rfl
          refine pure_ (i := 21) (N := some 161) (v := ?_) (a' := ?_) dT17_61 rfl rfl (any_of HT_.out (by kernel_rfl)) (fun _ _ _ h => h) (Or.inl ⟨by rfl, ?_⟩) ?_ ?_
          rotate_left
          ·intro w'
           go_simp
           with_reducible rfl
          rotate_left
          ·simp only [Act.put, dT17_n, i64_w, i32_w]
           rfl
          refine pure_ (i := 23) (N := some 163) (v := ?_) (a' := ?_) dT17_62 rfl rfl (any_of HT_.out (by kernel_rfl)) (fun _ _ _ h => h) (Or.inl ⟨by rfl, ?_⟩) ?_ ?_
          rotate_left
          ·intro w'
           go_simp
           with_reducible rfl
          rotate_left
          ·simp only [Act.put, dT17_n, i64_w, i32_w]
           rfl
          refine pure_ (i := 24) (N := some 164) (v := ?_) (a' := ?_) dT17_63 rfl rfl (any_of HT_.out (by kernel_rfl)) (fun _ _ _ h => h) (Or.inl ⟨by rfl, ?_⟩) ?_ ?_
          rotate_left
          ·intro w'
           go_simp
           with_reducible rfl
          rotate_left
          ·simp only [Act.put, dT17_n, i64_w, i32_w]
           rfl
          refine pure_ (i := 25) (N := some 165) (v := ?_) (a' := ?_) dT17_64 rfl rfl (any_of HT_.out (by kernel_rfl)) (fun _ _ _ h => h) (Or.inl ⟨by rfl, ?_⟩) ?_ ?_
          rotate_left
          ·intro w'
           go_simp
           with_reducible rfl
          rotate_left
          ·simp only [Act.put, dT17_n, i64_w, i32_w]
           rfl
          refine take_ (i := 3) (N := some 143) (v := ?_) (a' := ?_) dT17_65 rfl rfl (take_ofW HT_.out HW_.out (by kernel_rfl)) (fun _ _ _ h => h) (Or.inl ⟨by rfl, ?_⟩) hHeld ?_ ?_
          rotate_left
          ·rintro w' ⟨s0, s1, s2, s3, s4, s5, s6, s7, s8, s9⟩
           go_simp
           with_reducible rfl
          rotate_left
          ·simp only [Act.put, dT17_n, i64_w, i32_w]
           rfl
          refine pure_ (i := 5) (N := some 145) (v := ?_) (a' := ?_) dT17_66 rfl rfl (any_of HT_.out (by kernel_rfl)) (fun _ _ _ h => h) (Or.inl ⟨by rfl, ?_⟩) ?_ ?_
          rotate_left
          ·intro w'
           go_simp
           with_reducible rfl
          rotate_left
          ·simp only [Act.put, dT17_n, i64_w, i32_w]
           rfl
          refine take_ (i := 6) (N := some 146) (v := ?_) (a' := ?_) dT17_67 rfl rfl (take_ofW HT_.out HW_.out (by kernel_rfl)) (fun _ _ _ h => h) (Or.inl ⟨by rfl, ?_⟩) hHeld ?_ ?_
          rotate_left
          ·rintro w' ⟨s0, s1, s2, s3, s4, s5, s6, s7, s8, s9⟩
           go_simp
           with_reducible rfl
          rotate_left
          ·simp only [Act.put, dT17_n, i64_w, i32_w]
           rfl
          refine take_ (i := 11) (N := some 151) (v := ?_) (a' := ?_) dT17_68 rfl rfl (take_ofW HT_.out HW_.out (by kernel_rfl)) (fun _ _ _ h => h) (Or.inl ⟨by rfl, ?_⟩) hHeld ?_ ?_
          rotate_left
          ·rintro w' ⟨s0, s1, s2, s3, s4, s5, s6, s7, s8, s9⟩
           go_simp
           with_reducible rfl
          rotate_left
          ·simp only [Act.put, dT17_n, i64_w, i32_w]
           rfl
          refine pure_ (i := 15) (N := some 155) (v := ?_) (a' := ?_) dT17_69 rfl rfl (any_of HT_.out (by kernel_rfl)) (fun _ _ _ h => h) (Or.inl ⟨by rfl, ?_⟩) ?_ ?_
          rotate_left
          ·intro w'
           go_simp
           with_reducible rfl
          rotate_left
          ·simp only [Act.put, dT17_n, i64_w, i32_w]
           rfl
          refine take_ (i := 16) (N := some 156) (v := ?_) (a' := ?_) dT17_70 rfl rfl (take_ofW HT_.out HW_.out (by kernel_rfl)) (fun _ _ _ h => h) (Or.inl ⟨by rfl, ?_⟩) hHeld ?_ ?_
          rotate_left
          ·rintro w' ⟨s0, s1, s2, s3, s4, s5, s6, s7, s8, s9⟩
           go_simp
           with_reducible rfl
          rotate_left
          ·simp only [Act.put, dT17_n, i64_w, i32_w]
           rfl
          refine take_ (i := 22) (N := some 162) (v := ?_) (a' := ?_) dT17_71 rfl rfl (take_ofW HT_.out HW_.out (by kernel_rfl)) (fun _ _ _ h => h) (Or.inl ⟨by rfl, ?_⟩) hHeld ?_ ?_
          rotate_left
          ·rintro w' ⟨s0, s1, s2, s3, s4, s5, s6, s7, s8, s9⟩
           go_simp
           with_reducible rfl
          rotate_left
          ·simp only [Act.put, dT17_n, i64_w, i32_w]
           rfl
          refine pure_ (i := 26) (N := some 166) (v := ?_) (a' := ?_) dT17_72 rfl rfl (any_of HT_.out (by kernel_rfl)) (fun _ _ _ h => h) (Or.inl ⟨by rfl, ?_⟩) ?_ ?_
          rotate_left
          ·intro w'
           go_simp
           with_reducible rfl
          rotate_left
          ·simp only [Act.put, dT17_n, i64_w, i32_w]
           rfl
          refine take_ (i := 27) (N := some 167) (v := ?_) (a' := ?_) dT17_73 rfl rfl (take_ofW HT_.out HW_.out (by kernel_rfl)) (fun _ _ _ h => h) (Or.inl ⟨by rfl, ?_⟩) hHeld ?_ ?_
          rotate_left
          ·rintro w' ⟨s0, s1, s2, s3, s4, s5, s6, s7, s8, s9⟩
           go_simp
           with_reducible rfl
          rotate_left
          ·simp only [Act.put, dT17_n, i64_w, i32_w]
           rfl
          refine one_ (i := 17) (N := some 157) dT17_74 rfl rfl (one_of HT_.out (by kernel_rfl)) (by decide) (fun K hK => ?_)
          refine goes_ Try.func23 (by kernel_rfl) rfl #[.agg #[.int .i64 b0.f0, .int .i64 b0.f1, .int .i64 b0.f2, .int .i64 b0.f3], .agg #[.int .i64 B.f0, .int .i64 B.f1, .int .i64 B.f2, .int .i64 B.f3]] (by rfl) rfl rfl (by (try simp only [List.map_toArray, List.map_cons, List.map_nil]); first | done | rfl) ?_
          with_reducible refine (join8_abs HAB.out _).mono ?_
          rintro e w157 ⟨rfl, hb⟩
          refine ⟨_, rfl, ?_⟩
          replace S := Aside0.mk (S.out.step hb)
          replace SB := Aside0.mk (SB.out.step hb)
          refine hK.out _ _ ⟨pw_cell_below hb hHeld.1, pw_cell_below hb hHeld.2.1, pw_cell_below hb hHeld.2.2.1, pw_cell_below hb hHeld.2.2.2.1, pw_cell_below hb hHeld.2.2.2.2.1, pw_cell_below hb hHeld.2.2.2.2.2.1, pw_cell_below hb hHeld.2.2.2.2.2.2.1, pw_cell_below hb hHeld.2.2.2.2.2.2.2.1, pw_cell_below hb hHeld.2.2.2.2.2.2.2.2.1, pw_cell_below hb hHeld.2.2.2.2.2.2.2.2.2⟩ (fun hHeld => ?_)
          clear hK K
          refine norm_ (a' := ?_) ?_ ?_
          rotate_left
          ·show Act.put _ (some 157) _ = _
           simp only [Act.put, dT17_n, i64_w, i32_w]
           rfl
          refine pure_ (i := 28) (N := some 168) (v := ?_) (a' := ?_) dT17_75 rfl rfl (any_of HT_.out (by kernel_rfl)) (fun _ _ _ h => h) (Or.inl ⟨by rfl, ?_⟩) ?_ ?_
          rotate_left
          ·intro w'
           go_simp
           with_reducible rfl
          rotate_left
          ·simp only [Act.put, dT17_n, i64_w, i32_w]
           rfl
          refine done_ (done_of HT_.out (by kernel_rfl)) ?_
          go_wp2
          go_roundg q2
          case measure => omega
          case rel => exact ⟨t + 1, by rw [i1.out], ⟨by have := KT.out; omega⟩, ⟨HTU.out⟩, S, SB⟩
         ·obtain rfl : t = U := by have := TL.out; omega
          have e3 : decide (t < t) = false := decide_eq_false (by omega)
          obtain ⟨ad', A0, c0, ea, kh⟩ := lev_head (S.out.own_C 2 rfl) i (by have := HI.out; omega)
          injection ea with ea
          subst ea
          rw [← HU.out] at kh
          clear ht TL KT
          go_wp2
          go_roundg q1
          case measure => omega
          case rel => exact ⟨j, by rw [n1], ⟨by have := KQ.out; have := HJ.out; omega⟩, ⟨by have := HI.out; have := HJ.out; omega⟩, S, SB⟩
       ·obtain rfl : j = lv.length := by have := IL.out; omega
        have e1 : decide (lv.length < lv.length) = false := decide_eq_false (by omega)
        obtain rfl : i = k := by have := HK1.out; omega
        clear hi
        obtain ⟨ad', ad0, c0, ea, kh, kb'⟩ := lev_at (S.out.own_C 2 rfl) i 0 (by omega) (by have := HLV.out.top HLZ.out; rw [show lv.length - 1 = i by omega] at this; omega)
        injection ea with ea
        subst ea
        rw [show (lv.getD i []).length = 1 by have := HLV.out.top HLZ.out; rw [show lv.length - 1 = i by omega] at this; exact this] at kh
        have htw := HTW.out
        rw [show lv.length - 1 = i by omega] at htw
        rw [htw] at kb'
        have kb : bxAt wr ad0 wh := kb'
        unfold bxAt at kb
        have kg_0 := blk_cell (S.out.at_box 0 rfl) 0
        have kg_1 := blk_cell (S.out.at_box 0 rfl) 1
        have kg_2 := blk_cell (S.out.at_box 0 rfl) 2
        have kg_3 := blk_cell (S.out.at_box 0 rfl) 3
        simp only [List.getElem?_toArray, List.getElem?_cons_zero, List.getElem?_cons_succ] at kg_0 kg_1 kg_2 kg_3
        have n2 : wrap64 ((lv.length : Int) - 1) = (i : Int) := wsub lv.length i (by clear n1; omega) (by clear n1; have := HF.out.lvl; omega)
        have p0 : (0 : Int) ≤ (i : Int) := by omega
        have p1 : (i : Int) < (lv.length : Int) := by clear n1 n2; omega
        have g1 : decide (lv.length ≤ (visT lv items m wh).2) = true := decide_eq_true HVG.out
        have g2 : decide ((lv.length : Int) ≤ ((visT lv items m wh).2 : Int)) = true := decide_eq_true (by clear n1 n2; have := HVG.out; omega)
        have g3 : decide (((visT lv items m wh).2 : Int) ≥ (lv.length : Int)) = true := g2
        clear kb' hj htw
        go_upto_region 33 with (first | fail)
        refine start_ (n := 22) (S := fun w' => w'.cell? (ad7.add i) = some (.slice (some ad0) 1 c0) ∧ w'.cell? ad0 = some (.int .i64 wh.f0) ∧ w'.cell? ⟨ad0.block, ad0.off + 1, none⟩ = some (.int .i64 wh.f1) ∧ w'.cell? ⟨ad0.block, ad0.off + 2, none⟩ = some (.int .i64 wh.f2) ∧ w'.cell? ⟨ad0.block, ad0.off + 3, none⟩ = some (.int .i64 wh.f3) ∧ w'.cell? ⟨gw, 0, none⟩ = some (.int .i64 wh.f0) ∧ w'.cell? ⟨gw, 1, none⟩ = some (.int .i64 wh.f1) ∧ w'.cell? ⟨gw, 2, none⟩ = some (.int .i64 wh.f2) ∧ w'.cell? ⟨gw, 3, none⟩ = some (.int .i64 wh.f3)) (ds := []) dT17_76 (by kernel_rfl) rfl rfl ⟨kh, kb.1, kb.2.1, kb.2.2.1, kb.2.2.2, kg_0, kg_1, kg_2, kg_3⟩ (fun hHeld => ?_); refine with_tabW lw33_tab lw33_bits (fun HT_ HW_ => ?_)
        have HBW := Aside0.mk (below_drew (Below.refl wr.heap.size wr))
        generalize wr.drew = W9 at HBW hHeld ⊢
        replace S := Aside0.mk (S.out.step HBW.out)
        replace SB := Aside0.mk (SB.out.step HBW.out)
        refine pure_ (i := 0) (N := some 169) (v := ?_) (a' := ?_) dT17_77 rfl rfl (any_of HT_.out (by kernel_rfl)) (fun _ _ _ h => h) (Or.inl ⟨by rfl, ?_⟩) ?_ ?_
        rotate_left
        ·intro w'
         go_simp
         with_reducible rfl
        rotate_left
        ·simp only [Act.put, dT17_n, i64_w, i32_w]
         rfl
        refine pure_ (i := 1) (N := some 170) (v := ?_) (a' := ?_) dT17_78 rfl rfl (any_of HT_.out (by kernel_rfl)) (fun _ _ _ h => h) (Or.inl ⟨by rfl, ?_⟩) ?_ ?_
        rotate_left
        ·intro w'
         go_simp
         with_reducible rfl
        rotate_left
        ·simp only [Act.put, dT17_n, i64_w, i32_w]
         rfl
        refine pure_ (i := 2) (N := some 171) (v := ?_) (a' := ?_) dT17_79 rfl rfl (any_of HT_.out (by kernel_rfl)) (fun _ _ _ h => h) (Or.inl ⟨by rfl, ?_⟩) ?_ ?_
        rotate_left
        ·intro w'
         go_simp
         with_reducible rfl
        rotate_left
        ·simp only [Act.put, dT17_n, i64_w, i32_w]
         rfl
        refine pure_ (i := 3) (N := some 172) (v := ?_) (a' := ?_) dT17_80 rfl rfl (any_of HT_.out (by kernel_rfl)) (fun _ _ _ h => h) (Or.inl ⟨by rfl, ?_⟩) ?_ ?_
        rotate_left
        ·intro w'
         go_simp
         with_reducible rfl
        rotate_left
        ·simp only [Act.put, dT17_n, i64_w, i32_w]
         rfl
        refine pure_ (i := 4) (N := some 173) (v := ?_) (a' := ?_) dT17_81 rfl rfl (any_of HT_.out (by kernel_rfl)) (fun _ _ _ h => h) (Or.inl ⟨by rfl, ?_⟩) ?_ ?_
        rotate_left
        ·intro w'
         go_simp
         with_reducible rfl
        rotate_left
        ·simp only [Act.put, dT17_n, i64_w, i32_w]
         rfl
        refine take_ (i := 5) (N := some 174) (v := ?_) (a' := ?_) dT17_82 rfl rfl (take_ofW HT_.out HW_.out (by kernel_rfl)) (fun _ _ _ h => h) (Or.inl ⟨by rfl, ?_⟩) hHeld ?_ ?_
        rotate_left
        ·rintro w' ⟨s0, s1, s2, s3, s4, s5, s6, s7, s8⟩
         go_simp
         with_reducible rfl
        rotate_left
        ·simp only [Act.put, dT17_n, i64_w, i32_w]
         rfl
        refine pure_ (i := 6) (N := some 175) (v := ?_) (a' := ?_) dT17_83 rfl rfl (any_of HT_.out (by kernel_rfl)) (fun _ _ _ h => h) (Or.inl ⟨by rfl, ?_⟩) ?_ ?_
        rotate_left
        ·intro w'
         go_simp
         with_reducible rfl
        rotate_left
        ·simp only [Act.put, dT17_n, i64_w, i32_w]
         rfl
        refine take_ (i := 7) (N := some 176) (v := ?_) (a' := ?_) dT17_84 rfl rfl (take_ofW HT_.out HW_.out (by kernel_rfl)) (fun _ _ _ h => h) (Or.inl ⟨by rfl, ?_⟩) hHeld ?_ ?_
        rotate_left
        ·rintro w' ⟨s0, s1, s2, s3, s4, s5, s6, s7, s8⟩
         go_simp
         with_reducible rfl
        rotate_left
        ·simp only [Act.put, dT17_n, i64_w, i32_w]
         rfl
        refine take_ (i := 8) (N := some 177) (v := ?_) (a' := ?_) dT17_85 rfl rfl (take_ofW HT_.out HW_.out (by kernel_rfl)) (fun _ _ _ h => h) (Or.inl ⟨by rfl, ?_⟩) hHeld ?_ ?_
        rotate_left
        ·rintro w' ⟨s0, s1, s2, s3, s4, s5, s6, s7, s8⟩
         go_simp
         with_reducible rfl
        rotate_left
        ·simp only [Act.put, dT17_n, i64_w, i32_w]
         rfl
        refine pure_ (i := 9) (N := some 178) (v := ?_) (a' := ?_) dT17_86 rfl rfl (any_of HT_.out (by kernel_rfl)) (fun _ _ _ h => h) (Or.inl ⟨by rfl, ?_⟩) ?_ ?_
        rotate_left
        ·intro w'
         go_simp
         with_reducible rfl
        rotate_left
        ·simp only [Act.put, dT17_n, i64_w, i32_w]
         rfl
        refine pure_ (i := 10) (N := some 179) (v := ?_) (a' := ?_) dT17_87 rfl rfl (any_of HT_.out (by kernel_rfl)) (fun _ _ _ h => h) (Or.inl ⟨by rfl, ?_⟩) ?_ ?_
        rotate_left
        ·intro w'
         go_simp
         with_reducible rfl
        rotate_left
        ·simp only [Act.put, dT17_n, i64_w, i32_w]
         rfl
        refine pure_ (i := 11) (N := some 180) (v := ?_) (a' := ?_) dT17_88 rfl rfl (any_of HT_.out (by kernel_rfl)) (fun _ _ _ h => h) (Or.inl ⟨by rfl, ?_⟩) ?_ ?_
        rotate_left
        ·intro w'
         go_simp
         with_reducible rfl
        rotate_left
        ·simp only [Act.put, dT17_n, i64_w, i32_w]
         rfl
        refine pure_ (i := 14) (N := some 183) (v := ?_) (a' := ?_) dT17_89 rfl rfl (any_of HT_.out (by kernel_rfl)) (fun _ _ _ h => h) (Or.inl ⟨by rfl, ?_⟩) ?_ ?_
        rotate_left
        ·intro w'
         go_simp
         with_reducible rfl
        rotate_left
        ·simp only [Act.put, dT17_n, i64_w, i32_w]
         rfl
        refine pure_ (i := 15) (N := some 184) (v := ?_) (a' := ?_) dT17_90 rfl rfl (any_of HT_.out (by kernel_rfl)) (fun _ _ _ h => h) (Or.inl ⟨by rfl, ?_⟩) ?_ ?_
        rotate_left
        ·intro w'
         go_simp
         with_reducible rfl
        rotate_left
        ·simp only [Act.put, dT17_n, i64_w, i32_w]
         rfl
        refine take_ (i := 12) (N := some 181) (v := ?_) (a' := ?_) dT17_91 rfl rfl (take_ofW HT_.out HW_.out (by kernel_rfl)) (fun _ _ _ h => h) (Or.inl ⟨by rfl, ?_⟩) hHeld ?_ ?_
        rotate_left
        ·rintro w' ⟨s0, s1, s2, s3, s4, s5, s6, s7, s8⟩
         go_simp
         with_reducible rfl
        rotate_left
        ·simp only [Act.put, dT17_n, i64_w, i32_w]
         rfl
        refine one_ (i := 13) (N := some 182) dT17_92 rfl rfl (one_of HT_.out (by kernel_rfl)) (by decide) (fun K hK => ?_)
        refine goes_ Try.func13 (by kernel_rfl) rfl #[.pointer (some ⟨g, 0, none⟩), .agg #[.int .i64 wh.f0, .int .i64 wh.f1, .int .i64 wh.f2, .int .i64 wh.f3]] (by rfl) rfl rfl (by (try simp only [List.map_toArray, List.map_cons, List.map_nil]); first | done | rfl) ?_
        with_reducible refine (visits_ct HT.out HF.out wh (HB9.out wh) _ SB.out.below).mono ?_
        rintro e w182 ⟨rfl, hb⟩
        refine ⟨_, rfl, ?_⟩
        replace S := Aside0.mk (S.out.step hb)
        replace SB := Aside0.mk (SB.out.step hb)
        refine hK.out _ _ ⟨pw_cell_below hb hHeld.1, pw_cell_below hb hHeld.2.1, pw_cell_below hb hHeld.2.2.1, pw_cell_below hb hHeld.2.2.2.1, pw_cell_below hb hHeld.2.2.2.2.1, pw_cell_below hb hHeld.2.2.2.2.2.1, pw_cell_below hb hHeld.2.2.2.2.2.2.1, pw_cell_below hb hHeld.2.2.2.2.2.2.2.1, pw_cell_below hb hHeld.2.2.2.2.2.2.2.2⟩ (fun hHeld => ?_)
        clear hK K
        refine norm_ (a' := ?_) ?_ ?_
        rotate_left
        ·show Act.put _ (some 182) _ = _
         simp only [Act.put, dT17_n, i64_w, i32_w]
         rfl
        refine pure_ (i := 16) (N := some 185) (v := ?_) (a' := ?_) dT17_93 rfl rfl (any_of HT_.out (by kernel_rfl)) (fun _ _ _ h => h) (Or.inl ⟨by rfl, ?_⟩) ?_ ?_
        rotate_left
        ·intro w'
         go_simp
         with_reducible rfl
        rotate_left
        ·simp only [Act.put, dT17_n, i64_w, i32_w]
         rfl
        refine pure_ (i := 17) (N := some 186) (v := ?_) (a' := ?_) dT17_94 rfl rfl (any_of HT_.out (by kernel_rfl)) (fun _ _ _ h => h) (Or.inl ⟨by rfl, ?_⟩) ?_ ?_
        rotate_left
        ·intro w'
         go_simp
         with_reducible rfl
        rotate_left
        ·simp only [Act.put, dT17_n, i64_w, i32_w]
         rfl
        refine pure_ (i := 18) (N := some 187) (v := ?_) (a' := ?_) dT17_95 rfl rfl (any_of HT_.out (by kernel_rfl)) (fun _ _ _ h => h) (Or.inl ⟨by rfl, ?_⟩) ?_ ?_
        rotate_left
        ·intro w'
         go_simp
         with_reducible rfl
        rotate_left
        ·simp only [Act.put, dT17_n, i64_w, i32_w]
         rfl
        refine one_ (i := 19) (N := some 188) dT17_96 rfl rfl (one_of HT_.out (by kernel_rfl)) (by decide) (fun K hK => ?_)
        refine goes_ Try.func8 (by kernel_rfl) rfl #[] (by rfl) rfl rfl (by (try simp only [List.map_toArray, List.map_cons, List.map_nil]); first | done | rfl) ?_
        with_reducible refine (lives_ct _).mono ?_
        rintro e w188 ⟨rfl, hb⟩
        refine ⟨_, rfl, ?_⟩
        replace S := Aside0.mk (S.out.step hb)
        replace SB := Aside0.mk (SB.out.step hb)
        refine hK.out _ _ ⟨pw_cell_below hb hHeld.1, pw_cell_below hb hHeld.2.1, pw_cell_below hb hHeld.2.2.1, pw_cell_below hb hHeld.2.2.2.1, pw_cell_below hb hHeld.2.2.2.2.1, pw_cell_below hb hHeld.2.2.2.2.2.1, pw_cell_below hb hHeld.2.2.2.2.2.2.1, pw_cell_below hb hHeld.2.2.2.2.2.2.2.1, pw_cell_below hb hHeld.2.2.2.2.2.2.2.2⟩ (fun hHeld => ?_)
        clear hK K
        refine norm_ (a' := ?_) ?_ ?_
        rotate_left
        ·show Act.put _ (some 188) _ = _
         simp only [Act.put, dT17_n, i64_w, i32_w]
         rfl
        refine pure_ (i := 20) (N := some 189) (v := ?_) (a' := ?_) dT17_97 rfl rfl (any_of HT_.out (by kernel_rfl)) (fun _ _ _ h => h) (Or.inl ⟨by rfl, ?_⟩) ?_ ?_
        rotate_left
        ·intro w'
         go_simp
         with_reducible rfl
        rotate_left
        ·simp only [Act.put, dT17_n, i64_w, i32_w]
         rfl
        refine pure_ (i := 21) (N := some 4) (v := ?_) (a' := ?_) dT17_98 rfl rfl (any_of HT_.out (by kernel_rfl)) (fun _ _ _ h => h) (Or.inl ⟨by rfl, ?_⟩) ?_ ?_
        rotate_left
        ·intro w'
         go_simp
         with_reducible rfl
        rotate_left
        ·simp only [Act.put, dT17_n, i64_w, i32_w]
         rfl
        refine done_ (done_of HT_.out (by kernel_rfl)) ?_
        go_wp2
        go_ret
        exact ⟨rfl, S.out.below⟩
 ·have HFW := Aside0.mk (few_no hl)
  clear hl
  go_enter Try.func6, Try.ntmps6
  go_wp2_with (first | (go_at_call 7; (with_reducible refine (mapmakerlaw34_few.calls A c l false _ (Kd.C_below HC.out S.out.below) HCC.out HFW.out).mono ?_); rintro e_ w7 ⟨rfl, hdn⟩; have hb := drawn_below hdn; replace S := Aside0.mk (S.out.step hb); clear hb hdn) | (go_at_call 8; (with_reducible refine (lives_ct _).mono ?_); rintro e_ w8 ⟨rfl, hb⟩; replace S := Aside0.mk (S.out.step hb); clear hb) | fail)
  go_ret
  exact ⟨rfl, S.out.below⟩
end Go.Proofs.Ytegkikdefckccaa.Hand
end
