-- Out of the translation and of texts of our own, merged (wip/gen/pack.py): what the row names and no more.
import Derived.Test.YtegkikdefckccaaSeH21
section
namespace Go.Proofs.Ytegkikdefckccaa.Hand
open Go.Proofs.YtegkikdefckccaaW Go.RowKit Go.Proofs.YtegkikdefckccaaW.PrintWords Go.Proofs.YtegkikdefckccaaW.PrintLast Go.Proofs.YtegkikdefckccaaW.PrintMore Go.Proofs.YtegkikdefckccaaW.SepW Go.Proofs.Ytegkikdefckccaa.PALL Go.Proofs.Ytegkikdefckccaa.Plain
set_option linter.unusedVariables false
set_option linter.unusedSimpArgs false
abbrev dT14_0 : Array Bool := #[false, false, false, false, false, false, false, false, false, false, false, false, false]
abbrev dT14_1 : Array Bool := #[true, false, false, false, false, false, false, false, false, false, false, false, false]
abbrev dT14_2 : Array Bool := #[true, true, false, false, false, false, false, false, false, false, false, false, false]
abbrev dT14_3 : Array Bool := #[true, true, false, true, false, false, false, false, false, false, false, false, false]
abbrev dT14_4 : Array Bool := #[true, true, false, true, true, false, false, false, false, false, false, false, false]
abbrev dT14_5 : Array Bool := #[true, true, true, true, true, false, false, false, false, false, false, false, false]
abbrev dT14_6 : Array Bool := #[true, true, true, true, true, true, false, false, false, false, false, false, false]
abbrev dT14_7 : Array Bool := #[true, true, true, true, true, true, true, false, false, false, false, false, false]
abbrev dT14_8 : Array Bool := #[true, true, true, true, true, true, true, true, false, false, false, false, false]
abbrev dT14_9 : Array Bool := #[true, true, true, true, true, true, true, true, true, false, false, false, false]
abbrev dT14_10 : Array Bool := #[true, true, true, true, true, true, true, true, true, true, false, false, false]
abbrev dT14_11 : Array Bool := #[true, true, true, true, true, true, true, true, true, true, true, false, false]
abbrev dT14_12 : Array Bool := #[true, true, true, true, true, true, true, true, true, true, true, true, false]
abbrev dT14_13 : Array Bool := #[true, true, true, true, true, true, true, true, true, true, true, true, true]
abbrev dT14_14 : Array Bool := #[false, false, false, false, false, false, false, false, false, false, false, false, false, false, false, false, false, false, false, false, false, false, false, false, false, false, false, false, false, false, false, false, false, false, false, false, false, false, false, false, false, false, false, false, false]
abbrev dT14_15 : Array Bool := #[true, false, false, false, false, false, false, false, false, false, false, false, false, false, false, false, false, false, false, false, false, false, false, false, false, false, false, false, false, false, false, false, false, false, false, false, false, false, false, false, false, false, false, false, false]
abbrev dT14_16 : Array Bool := #[true, true, false, false, false, false, false, false, false, false, false, false, false, false, false, false, false, false, false, false, false, false, false, false, false, false, false, false, false, false, false, false, false, false, false, false, false, false, false, false, false, false, false, false, false]
abbrev dT14_17 : Array Bool := #[true, true, true, false, false, false, false, false, false, false, false, false, false, false, false, false, false, false, false, false, false, false, false, false, false, false, false, false, false, false, false, false, false, false, false, false, false, false, false, false, false, false, false, false, false]
abbrev dT14_18 : Array Bool := #[true, true, true, true, false, false, false, false, false, false, false, false, false, false, false, false, false, false, false, false, false, false, false, false, false, false, false, false, false, false, false, false, false, false, false, false, false, false, false, false, false, false, false, false, false]
abbrev dT14_19 : Array Bool := #[true, true, true, true, true, false, false, false, false, false, false, false, false, false, false, false, false, false, false, false, false, false, false, false, false, false, false, false, false, false, false, false, false, false, false, false, false, false, false, false, false, false, false, false, false]
abbrev dT14_20 : Array Bool := #[true, true, true, true, true, true, false, false, false, false, false, false, false, false, false, false, false, false, false, false, false, false, false, false, false, false, false, false, false, false, false, false, false, false, false, false, false, false, false, false, false, false, false, false, false]
abbrev dT14_21 : Array Bool := #[true, true, true, true, true, true, true, false, false, false, false, false, false, false, false, false, false, false, false, false, false, false, false, false, false, false, false, false, false, false, false, false, false, false, false, false, false, false, false, false, false, false, false, false, false]
abbrev dT14_22 : Array Bool := #[true, true, true, true, true, true, true, true, false, false, false, false, false, false, false, false, false, false, false, false, false, false, false, false, false, false, false, false, false, false, false, false, false, false, false, false, false, false, false, false, false, false, false, false, false]
abbrev dT14_23 : Array Bool := #[true, true, true, true, true, true, true, true, true, false, false, false, false, false, false, false, false, false, false, false, false, false, false, false, false, false, false, false, false, false, false, false, false, false, false, false, false, false, false, false, false, false, false, false, false]
abbrev dT14_24 : Array Bool := #[true, true, true, true, true, true, true, true, true, true, false, false, false, false, false, false, false, false, false, false, false, false, false, false, false, false, false, false, false, false, false, false, false, false, false, false, false, false, false, false, false, false, false, false, false]
abbrev dT14_25 : Array Bool := #[true, true, true, true, true, true, true, true, true, true, true, false, false, false, false, false, false, false, false, false, false, false, false, false, false, false, false, false, false, false, false, false, false, false, false, false, false, false, false, false, false, false, false, false, false]
abbrev dT14_26 : Array Bool := #[true, true, true, true, true, true, true, true, true, true, true, true, false, false, false, false, false, false, false, false, false, false, false, false, false, false, false, false, false, false, false, false, false, false, false, false, false, false, false, false, false, false, false, false, false]
abbrev dT14_27 : Array Bool := #[true, true, true, true, true, true, true, true, true, true, true, true, true, false, false, false, false, false, false, false, false, false, false, false, false, false, false, false, false, false, false, false, false, false, false, false, false, false, false, false, false, false, false, false, false]
abbrev dT14_28 : Array Bool := #[true, true, true, true, true, true, true, true, true, true, true, true, true, true, false, false, false, false, false, false, false, false, false, false, false, false, false, false, false, false, false, false, false, false, false, false, false, false, false, false, false, false, false, false, false]
abbrev dT14_29 : Array Bool := #[true, true, true, true, true, true, true, true, true, true, true, true, true, true, false, true, false, false, false, false, false, false, false, false, false, false, false, false, false, false, false, false, false, false, false, false, false, false, false, false, false, false, false, false, false]
abbrev dT14_30 : Array Bool := #[true, true, true, true, true, true, true, true, true, true, true, true, true, true, false, true, true, false, false, false, false, false, false, false, false, false, false, false, false, false, false, false, false, false, false, false, false, false, false, false, false, false, false, false, false]
abbrev dT14_31 : Array Bool := #[true, true, true, true, true, true, true, true, true, true, true, true, true, true, false, true, true, true, false, false, false, false, false, false, false, false, false, false, false, false, false, false, false, false, false, false, false, false, false, false, false, false, false, false, false]
abbrev dT14_32 : Array Bool := #[true, true, true, true, true, true, true, true, true, true, true, true, true, true, true, true, true, true, false, false, false, false, false, false, false, false, false, false, false, false, false, false, false, false, false, false, false, false, false, false, false, false, false, false, false]
abbrev dT14_33 : Array Bool := #[true, true, true, true, true, true, true, true, true, true, true, true, true, true, true, true, true, true, true, false, false, false, false, false, false, false, false, false, false, false, false, false, false, false, false, false, false, false, false, false, false, false, false, false, false]
abbrev dT14_34 : Array Bool := #[true, true, true, true, true, true, true, true, true, true, true, true, true, true, true, true, true, true, true, true, false, false, false, false, false, false, false, false, false, false, false, false, false, false, false, false, false, false, false, false, false, false, false, false, false]
abbrev dT14_35 : Array Bool := #[true, true, true, true, true, true, true, true, true, true, true, true, true, true, true, true, true, true, true, true, true, false, false, false, false, false, false, false, false, false, false, false, false, false, false, false, false, false, false, false, false, false, false, false, false]
abbrev dT14_36 : Array Bool := #[true, true, true, true, true, true, true, true, true, true, true, true, true, true, true, true, true, true, true, true, true, true, false, false, false, false, false, false, false, false, false, false, false, false, false, false, false, false, false, false, false, false, false, false, false]
abbrev dT14_37 : Array Bool := #[true, true, true, true, true, true, true, true, true, true, true, true, true, true, true, true, true, true, true, true, true, true, true, false, false, false, false, false, false, false, false, false, false, false, false, false, false, false, false, false, false, false, false, false, false]
abbrev dT14_38 : Array Bool := #[true, true, true, true, true, true, true, true, true, true, true, true, true, true, true, true, true, true, true, true, true, true, true, true, false, false, false, false, false, false, false, false, false, false, false, false, false, false, false, false, false, false, false, false, false]
abbrev dT14_39 : Array Bool := #[true, true, true, true, true, true, true, true, true, true, true, true, true, true, true, true, true, true, true, true, true, true, true, true, true, false, false, false, false, false, false, false, false, false, false, false, false, false, false, false, false, false, false, false, false]
abbrev dT14_40 : Array Bool := #[true, true, true, true, true, true, true, true, true, true, true, true, true, true, true, true, true, true, true, true, true, true, true, true, true, true, false, false, false, false, false, false, false, false, false, false, false, false, false, false, false, false, false, false, false]
abbrev dT14_41 : Array Bool := #[true, true, true, true, true, true, true, true, true, true, true, true, true, true, true, true, true, true, true, true, true, true, true, true, true, true, true, false, false, false, false, false, false, false, false, false, false, false, false, false, false, false, false, false, false]
abbrev dT14_42 : Array Bool := #[true, true, true, true, true, true, true, true, true, true, true, true, true, true, true, true, true, true, true, true, true, true, true, true, true, true, true, true, false, false, false, false, false, false, false, false, false, false, false, false, false, false, false, false, false]
abbrev dT14_43 : Array Bool := #[true, true, true, true, true, true, true, true, true, true, true, true, true, true, true, true, true, true, true, true, true, true, true, true, true, true, true, true, true, false, false, false, false, false, false, false, false, false, false, false, false, false, false, false, false]
abbrev dT14_44 : Array Bool := #[true, true, true, true, true, true, true, true, true, true, true, true, true, true, true, true, true, true, true, true, true, true, true, true, true, true, true, true, true, true, false, false, false, false, false, false, false, false, false, false, false, false, false, false, false]
abbrev dT14_45 : Array Bool := #[true, true, true, true, true, true, true, true, true, true, true, true, true, true, true, true, true, true, true, true, true, true, true, true, true, true, true, true, true, true, true, false, false, false, false, false, false, false, false, false, false, false, false, false, false]
abbrev dT14_46 : Array Bool := #[true, true, true, true, true, true, true, true, true, true, true, true, true, true, true, true, true, true, true, true, true, true, true, true, true, true, true, true, true, true, true, true, false, false, false, false, false, false, false, false, false, false, false, false, false]
abbrev dT14_47 : Array Bool := #[true, true, true, true, true, true, true, true, true, true, true, true, true, true, true, true, true, true, true, true, true, true, true, true, true, true, true, true, true, true, true, true, true, false, false, false, false, false, false, false, false, false, false, false, false]
abbrev dT14_48 : Array Bool := #[true, true, true, true, true, true, true, true, true, true, true, true, true, true, true, true, true, true, true, true, true, true, true, true, true, true, true, true, true, true, true, true, true, true, false, false, false, false, false, false, false, false, false, false, false]
abbrev dT14_49 : Array Bool := #[true, true, true, true, true, true, true, true, true, true, true, true, true, true, true, true, true, true, true, true, true, true, true, true, true, true, true, true, true, true, true, true, true, true, true, false, false, false, false, false, false, false, false, false, false]
abbrev dT14_50 : Array Bool := #[true, true, true, true, true, true, true, true, true, true, true, true, true, true, true, true, true, true, true, true, true, true, true, true, true, true, true, true, true, true, true, true, true, true, true, true, false, false, false, false, false, false, false, false, false]
abbrev dT14_51 : Array Bool := #[true, true, true, true, true, true, true, true, true, true, true, true, true, true, true, true, true, true, true, true, true, true, true, true, true, true, true, true, true, true, true, true, true, true, true, true, true, false, false, false, false, false, false, false, false]
abbrev dT14_52 : Array Bool := #[true, true, true, true, true, true, true, true, true, true, true, true, true, true, true, true, true, true, true, true, true, true, true, true, true, true, true, true, true, true, true, true, true, true, true, true, true, true, false, false, false, false, false, false, false]
abbrev dT14_53 : Array Bool := #[true, true, true, true, true, true, true, true, true, true, true, true, true, true, true, true, true, true, true, true, true, true, true, true, true, true, true, true, true, true, true, true, true, true, true, true, true, true, true, false, false, false, false, false, false]
abbrev dT14_54 : Array Bool := #[true, true, true, true, true, true, true, true, true, true, true, true, true, true, true, true, true, true, true, true, true, true, true, true, true, true, true, true, true, true, true, true, true, true, true, true, true, true, true, true, false, false, false, false, false]
abbrev dT14_55 : Array Bool := #[true, true, true, true, true, true, true, true, true, true, true, true, true, true, true, true, true, true, true, true, true, true, true, true, true, true, true, true, true, true, true, true, true, true, true, true, true, true, true, true, true, false, false, false, false]
abbrev dT14_56 : Array Bool := #[true, true, true, true, true, true, true, true, true, true, true, true, true, true, true, true, true, true, true, true, true, true, true, true, true, true, true, true, true, true, true, true, true, true, true, true, true, true, true, true, true, true, false, false, false]
abbrev dT14_57 : Array Bool := #[true, true, true, true, true, true, true, true, true, true, true, true, true, true, true, true, true, true, true, true, true, true, true, true, true, true, true, true, true, true, true, true, true, true, true, true, true, true, true, true, true, true, true, false, false]
abbrev dT14_58 : Array Bool := #[true, true, true, true, true, true, true, true, true, true, true, true, true, true, true, true, true, true, true, true, true, true, true, true, true, true, true, true, true, true, true, true, true, true, true, true, true, true, true, true, true, true, true, true, false]
abbrev dT14_59 : Array Bool := #[true, true, true, true, true, true, true, true, true, true, true, true, true, true, true, true, true, true, true, true, true, true, true, true, true, true, true, true, true, true, true, true, true, true, true, true, true, true, true, true, true, true, true, true, true]
theorem dT14_n {α : Type} : (∀ (l : List α) (i : Nat) (a : α), l.toArray.setIfInBounds i a = (l.set i a).toArray) ∧ (∀ (a b : α) (l : List α), (a :: l).set 0 b = b :: l) ∧ (∀ (a b : α) (l : List α) (n : Nat), (a :: l).set (n + 1) b = a :: l.set n b) :=
  ⟨fun _ _ _ => List.setIfInBounds_toArray .., fun _ _ _ => rfl, fun _ _ _ _ => rfl⟩
/-- The cells of an item. -/
def enc51 (x : S51) : List Value := [.int .i64 x.f0.f0, .int .i64 x.f0.f1, .int .i64 x.f1.f0, .int .i64 x.f1.f1, .int .i64 x.f1.f2, .int .i64 x.f1.f3]
theorem flat6 : ∀ (l : List S51) (i : Nat) (x : S51) (j : Nat) (v : Value), l[i]? = some x → (enc51 x)[j]? = some v → (l.flatMap enc51)[i * 6 + j]? = some v
 | [], i, x, j, v, h, _ => by simp at h
 | y :: t, 0, x, j, v, h, hv => by
  obtain rfl : y = x := by simpa using h
  have hj : j < (enc51 y).length := (List.getElem?_eq_some_iff.1 hv).1
  rw [List.flatMap_cons, Nat.zero_mul, Nat.zero_add, List.getElem?_append_left hj]
  exact hv
 | y :: t, i + 1, x, j, v, h, hv => by
  rw [List.flatMap_cons, List.getElem?_append_right (by show 6 ≤ _; omega)]
  rw [show (i + 1) * 6 + j - (enc51 y).length = i * 6 + j by show (i + 1) * 6 + j - 6 = _; omega]
  exact flat6 t i x j v (by simpa using h) hv
theorem box51 {w : World} {g t : Nat} {l : List S51} (h : w.heap[g]? = some (.cells (l.flatMap enc51).toArray t (0, 0))) (hl : l.length ≤ 1000000) : k51.C w (some ⟨g, 0, none⟩) l.length l :=
 ⟨rfl, by omega, fun _ => ⟨_, rfl, fun j p hp => ⟨enc51 p, rfl, k51_mk w p, fun i u hu => by
  show w.cell? ((⟨g, 0, none⟩ : Addr).add (j * 6 + i)) = some u
  rw [add_plain, blk_cell h (j * 6 + i)]
  have := flat6 l j p i u hp hu
  simpa using this⟩⟩⟩
/-- The items of the example. -/
def exI (n x y : Int) : S51 := ⟨⟨1, n⟩, ⟨x, y, x, y⟩⟩
def exL : List S51 := [exI 1 5 5, exI 2 100 0, exI 3 0 100, exI 4 6 6, exI 5 200 200]
def exW2 : List S51 := [exI 1 5 5, exI 1 5 5]
theorem exL_valid : ∀ x ∈ exL, validB x.f1 = true := by
 intro x hx
 simp only [exL, List.mem_cons, List.not_mem_nil, or_false] at hx
 rcases hx with rfl | rfl | rfl | rfl | rfl <;> decide
theorem exL_nodup : (exL.map S51.f0).Nodup := by simp [exL, exI]
theorem new5 {w w' : World} {e : Ending} (h : NewR exL 2 w e w') : ∃ g items, e = .returned (.tuple #[.pointer (some ⟨g, 0, none⟩), .int .i64 0]) ∧ items.Perm exL ∧ TreeAt w' g 2 items (levelsOf 2 (items.map S51.f1)) ∧ Below w.heap.size w w' := by
 obtain ⟨hb, h⟩ := h
 rcases h with ⟨c, he, h⟩ | ⟨_, _, _, _, _, g, items, he, hp, _, hT⟩
 ·exfalso
  rcases h with ⟨_, h⟩ | ⟨_, _, _, h⟩ | ⟨_, _, _, h⟩
  ·omega
  ·exact absurd h (by decide)
  ·rcases h with ⟨_, x, hx, hx2⟩ | ⟨_, _, h⟩
   ·rw [exL_valid x hx] at hx2
    cases hx2
   ·exact h exL_nodup
 ·exact ⟨g, items, he, hp, hT, hb⟩
theorem new1 {l : List S51} {w w' : World} {e : Ending} (h : NewR l 1 w e w') : e = .returned (.tuple #[.pointer none, .int .i64 1]) ∧ Below w.heap.size w w' := by
 obtain ⟨hb, h⟩ := h
 rcases h with ⟨c, he, h⟩ | ⟨h, _⟩
 ·rcases h with ⟨rfl, _⟩ | ⟨_, h, _⟩ | ⟨h, _⟩
  ·exact ⟨he, hb⟩
  ·omega
  ·omega
 ·omega
theorem new7 {w w' : World} {e : Ending} (h : NewR exW2 2 w e w') : e = .returned (.tuple #[.pointer none, .int .i64 7]) ∧ Below w.heap.size w w' := by
 have hn : ¬ (exW2.map S51.f0).Nodup := by simp [exW2]
 obtain ⟨hb, h⟩ := h
 rcases h with ⟨c, he, h⟩ | ⟨_, _, _, _, h, _⟩
 ·rcases h with ⟨_, h⟩ | ⟨_, _, _, h⟩ | ⟨_, _, _, h⟩
  ·omega
  ·exact absurd h (by decide)
  ·rcases h with ⟨_, x, hx, hx2⟩ | ⟨rfl, _⟩
   ·obtain rfl : x = exI 1 5 5 := by simpa [exW2] using hx
    exact absurd hx2 (by decide)
   ·exact ⟨he, hb⟩
 ·exact absurd h hn
theorem lv5 (l : List S24) (h : l.length = 5) : (levelsOf 2 l).length = 3 ∧ ((levelsOf 2 l).getD 0 []).length = 3 ∧ ((levelsOf 2 l).getD 1 []).length = 2 ∧ ((levelsOf 2 l).getD 2 []).length = 1 := by
 have h1 : (joinL l 2).length = 3 := by rw [joinL_len, h]; rfl
 have h2 : (joinL (joinL l 2) 2).length = 2 := by rw [joinL_len, h1]; rfl
 have h3 : (joinL (joinL (joinL l 2) 2) 2).length = 1 := by rw [joinL_len, h2]; rfl
 have e : levelsOf 2 l = [joinL l 2, joinL (joinL l 2) 2, joinL (joinL (joinL l 2) 2) 2] := by
  unfold levelsOf
  rw [h, lvF, if_neg (by omega), if_neg (by omega), lvF, if_neg (by omega), if_neg (by omega), lvF, if_neg (by omega), if_pos h3]
 rw [e]
 exact ⟨rfl, h1, h2, h3⟩
theorem exW : exL.filter (fun x => meetsB x.f1 ⟨0, 0, 6, 5⟩) = [exI 1 5 5] := by rfl
theorem window5 {items : List S51} {ys : List S49} (hp : items.Perm exL) (h : ys.Perm ((visT (levelsOf 2 (items.map S51.f1)) items 2 ⟨0, 0, 6, 5⟩).1.map S51.f0)) : ys = [⟨1, 1⟩] := by
 rw [visT_items (Nat.le_refl 2) (fun x hx => exL_valid x (hp.mem_iff.1 hx))] at h
 have h2 := (hp.filter (fun x => meetsB x.f1 ⟨0, 0, 6, 5⟩)).map S51.f0
 rw [exW] at h2
 exact List.perm_singleton.1 (h.trans h2)
theorem fine_mem {fan : Nat} {items : List S51} {lv : List (List S24)} (h : Fine fan items lv) : ∀ l ∈ lv, l.length ≤ 1000000 := by
 intro l hl
 obtain ⟨i, hi, rfl⟩ := List.mem_iff_getElem.1 hl
 have := h.level i
 rw [List.getD_eq_getElem?_getD, List.getElem?_eq_getElem hi] at this
 exact this
theorem visT_len {fan : Nat} {items : List S51} (hf : 2 ≤ fan) (hv : ∀ x ∈ items, validB x.f1 = true) (b : S24) : (visT (levelsOf fan (items.map S51.f1)) items fan b).1.length ≤ items.length := by
 rw [visT_items hf hv]
 exact List.length_filter_le _ _
theorem level_num {w : World} {A : Option Addr} {n : Nat} {xss : List (List S24)} (h : Kd.C (Kd.slice 24 k24) w A n xss) (i k : Nat) (hi : i < n) (hk : (xss.getD i []).length = k) : ∃ ad A0 c0, A = some ad ∧ w.cell? (ad.add i) = some (.slice A0 k c0) := by
 have hl : i < xss.length := by have := h.1; omega
 obtain ⟨ad, A0, c0, e, h1, _⟩ := level_at h i hi hl
 rw [List.getD_eq_getElem?_getD, List.getElem?_eq_getElem hl] at hk
 exact ⟨ad, A0, c0, e, by rw [h1]; exact congrArg some (by rw [show (xss[i]).length = k from hk])⟩
theorem one49 {w0 w : World} {L : List (Thing w0.heap.size)} {ad : Addr} {c : Nat} {x : S49} (S : SepW.Sep w0 w (YtegkikdefckccaaW.SepW.Own _ k49 49 (.slice (some ad) 1 c) [x] :: L)) : w.cell? ad = some (.int .i64 x.f0) ∧ w.cell? ⟨ad.block, ad.off + 1, none⟩ = some (.int .i64 x.f1) := by
 obtain ⟨h0, h1⟩ := ref_cells (S.own_C 0 rfl) 0 (Nat.lt_succ_self 0) (Nat.lt_succ_self 0)
 exact ⟨h0, h1⟩
def lv4_T : Bool × List (List Nat × List Nat) := (true, [([], []), ([0], [0]), ([1], [1]), ([], []), ([3], [3]), ([4], [4]), ([2, 5], [2, 5]), ([6], [6]), ([7], [7]), ([8], [8]), ([8], [8]), ([9, 7, 0, 1, 2, 3, 4, 5, 6, 7, 8, 9], [9]), ([10, 11, 0, 1, 2, 3, 4, 5, 6, 7, 8, 9, 10, 11], [10])])
def lv4_B : List Nat := [0, 1, 3, 0, 8, 24, 63, 127, 255, 511, 511, 1023, 4095]
theorem lv4_tab : rtab .any (opsOf Try.f8 4) = lv4_T := by kernel_rfl
theorem lv4_bits : waitsOk lv4_T.2 lv4_B = true := by kernel_rfl
def lv12_T : Bool × List (List Nat × List Nat) := (true, [([], []), ([0], [0]), ([1], [1]), ([2], [2]), ([3, 2], [2, 3]), ([2, 4], [2, 4]), ([5, 2], [5]), ([6], [6]), ([7, 6], [6, 7]), ([8, 6], [6, 8]), ([6, 9], [6, 9]), ([10, 6], [10]), ([11], [11]), ([12, 11], [11, 12]), ([13, 11], [11, 13]), ([11], [11]), ([15, 11], [11, 15]), ([16, 11], [11, 16]), ([17, 11], [11, 17]), ([14, 18, 11], [11, 14, 18]), ([11, 19], [11, 19]), ([20, 11], [20]), ([21], [21]), ([22, 21, 21], [21, 22]), ([23, 21], [21, 23]), ([21, 24], [21, 24]), ([25, 23], [25]), ([26], [26]), ([27, 26, 26], [26, 27]), ([28, 26], [26, 28]), ([26, 29], [26, 29]), ([30, 28], [30]), ([31], [31]), ([31], [31]), ([32, 33, 31, 31], [31, 32, 33]), ([34, 31], [31, 34]), ([35, 31], [31, 35]), ([31, 36], [31, 36]), ([37, 34], [37]), ([38], [38]), ([38], [38]), ([39, 40, 38, 38], [38, 39, 40]), ([41, 38], [38, 41]), ([38, 42], [38, 42]), ([43, 41, 0, 1, 2, 3, 4, 5, 6, 7, 8, 9, 10, 11, 12, 13, 14, 15, 16, 17, 18, 19, 20, 21, 22, 23, 24, 25, 26, 27, 28, 29, 30, 31, 32, 33, 34, 35, 36, 37, 38, 39, 40, 41, 42, 43], [43])])
def lv12_B : List Nat := [0, 1, 3, 7, 15, 31, 63, 127, 255, 511, 1023, 2047, 4095, 8191, 16383, 4095, 36863, 102399, 233471, 524287, 1048575, 2097151, 4194303, 8388607, 16777215, 33554431, 67108863, 134217727, 268435455, 536870911, 1073741823, 2147483647, 4294967295, 4294967295, 17179869183, 34359738367, 68719476735, 137438953471, 274877906943, 549755813887, 549755813887, 2199023255551, 4398046511103, 8796093022207, 17592186044415]
theorem lv12_tab : rtab .any (opsOf Try.f8 12) = lv12_T := by kernel_rfl
theorem lv12_bits : waitsOk lv12_T.2 lv12_B = true := by kernel_rfl
set_option maxHeartbeats 40000000 in
set_option maxRecDepth 100000 in
theorem lives_ct (w : World) : Calls Try.prog 8 #[] w fun e w' => e = .returned (.bool true) ∧ Below w.heap.size w w' := by
 have S := Aside0.mk (SepW.Sep.start w)
 have hu24 := Try.underlying24
 have hu49 := Try.underlying49
 have hu51 := Try.underlying51
 go_enter Try.func8, Try.ntmps8
 go_upto_region 2 with (first | (go_at_call 24; (with_reducible refine (mapmakerlaw34_item.calls _ _ _ _ _ _ _ _ _ _ rfl).mono ?_); rintro e_ w_ ⟨rfl, hb⟩; replace S := Aside0.mk (S.out.step hb); clear hb) | fail)
 have S1 := Aside0.mk (S.out.alloc #[.int .i64 1, .int .i64 1, .int .i64 5, .int .i64 5, .int .i64 5, .int .i64 5, .int .i64 1, .int .i64 2, .int .i64 100, .int .i64 0, .int .i64 100, .int .i64 0, .int .i64 1, .int .i64 3, .int .i64 0, .int .i64 100, .int .i64 0, .int .i64 100, .int .i64 1, .int .i64 4, .int .i64 6, .int .i64 6, .int .i64 6, .int .i64 6, .int .i64 1, .int .i64 5, .int .i64 200, .int .i64 200, .int .i64 200, .int .i64 200] 51)
 refine wp_genS S1 (fun W1 S => ?_)
 clear S1
 generalize w_.heap.size = g at S ⊢
 go_upto_region 3 with (first | (go_at_call 9; have X_ := new_ct (some ⟨g, 0, none⟩) 5 exL 2 _ (box51 (S.out.at_box 0 rfl) (by decide)) (Nat.le_refl 5); rw [show exL.length = 5 from rfl] at X_; (with_reducible refine X_.mono ?_); clear X_; rintro e_ w19 hN_; obtain ⟨gt, items, rfl, hPe, hTr, hb⟩ := new5 hN_; clear hN_; replace S := Aside0.mk (S.out.step hb); clear hb; have HPE := Aside0.mk hPe; have HT := Aside0.mk hTr; clear hPe hTr; have SB := Aside0.mk (SepW.Sep.start w19)) | fail)
 go_upto_region 4 with (first | (go_at_call 9; have X_ := new_ct (some ⟨g, 0, none⟩) 5 exL 1 _ (box51 (S.out.at_box 0 rfl) (by decide)) (Nat.le_refl 5); rw [show exL.length = 5 from rfl] at X_; (with_reducible refine X_.mono ?_); clear X_; rintro e_ w24 hN_; obtain ⟨rfl, hb⟩ := new1 hN_; clear hN_; replace S := Aside0.mk (S.out.step hb); replace SB := Aside0.mk (SB.out.step hb); clear hb) | fail)
 refine start_ (n := 13) (S := fun w' => w'.cell? ⟨g, 0, none⟩ = some (.int .i64 1) ∧ w'.cell? ⟨g, 1, none⟩ = some (.int .i64 1) ∧ w'.cell? ⟨g, 2, none⟩ = some (.int .i64 5) ∧ w'.cell? ⟨g, 3, none⟩ = some (.int .i64 5) ∧ w'.cell? ⟨g, 4, none⟩ = some (.int .i64 5) ∧ w'.cell? ⟨g, 5, none⟩ = some (.int .i64 5)) (ds := []) dT14_0 (by kernel_rfl) rfl rfl ⟨blk_cell (S.out.at_box 0 rfl) 0, blk_cell (S.out.at_box 0 rfl) 1, blk_cell (S.out.at_box 0 rfl) 2, blk_cell (S.out.at_box 0 rfl) 3, blk_cell (S.out.at_box 0 rfl) 4, blk_cell (S.out.at_box 0 rfl) 5⟩ (fun hHeld => ?_); refine with_tabW lv4_tab lv4_bits (fun HT_ HW_ => ?_)
 have HBW := Aside0.mk (below_drew (Below.refl w24.heap.size w24))
 generalize w24.drew = W9 at HBW hHeld ⊢
 replace S := Aside0.mk (S.out.step HBW.out)
 replace SB := Aside0.mk (SB.out.step HBW.out)
 clear HBW
 refine pure_ (i := 0) (N := some 28) (v := ?_) (a' := ?_) dT14_1 rfl rfl (any_of HT_.out (by kernel_rfl)) (fun _ _ _ h => h) (Or.inl ⟨by rfl, ?_⟩) ?_ ?_
 rotate_left
 ·intro w'
  go_simp
  with_reducible rfl
 rotate_left
 ·simp only [Act.put, dT14_n, i64_w, i32_w]
  rfl
 refine pure_ (i := 1) (N := some 29) (v := ?_) (a' := ?_) dT14_2 rfl rfl (any_of HT_.out (by kernel_rfl)) (fun _ _ _ h => h) (Or.inl ⟨by rfl, ?_⟩) ?_ ?_
 rotate_left
 ·intro w'
  go_simp
  with_reducible rfl
 rotate_left
 ·simp only [Act.put, dT14_n, i64_w, i32_w]
  rfl
 refine pure_ (i := 3) (N := some 31) (v := ?_) (a' := ?_) dT14_3 rfl rfl (any_of HT_.out (by kernel_rfl)) (fun _ _ _ h => h) (Or.inl ⟨by rfl, ?_⟩) ?_ ?_
 rotate_left
 ·intro w'
  go_simp
  with_reducible rfl
 rotate_left
 ·simp only [Act.put, dT14_n, i64_w, i32_w]
  rfl
 refine pure_ (i := 4) (N := some 32) (v := ?_) (a' := ?_) dT14_4 rfl rfl (any_of HT_.out (by kernel_rfl)) (fun _ _ _ h => h) (Or.inl ⟨by rfl, ?_⟩) ?_ ?_
 rotate_left
 ·intro w'
  go_simp
  with_reducible rfl
 rotate_left
 ·simp only [Act.put, dT14_n, i64_w, i32_w]
  rfl
 refine take_ (i := 2) (N := some 30) (v := ?_) (a' := ?_) dT14_5 rfl rfl (take_ofW HT_.out HW_.out (by kernel_rfl)) (fun _ _ _ h => h) (Or.inl ⟨by rfl, ?_⟩) hHeld ?_ ?_
 rotate_left
 ·rintro w' ⟨s0, s1, s2, s3, s4, s5⟩
  go_simp
  with_reducible rfl
 rotate_left
 ·simp only [Act.put, dT14_n, i64_w, i32_w]
  rfl
 refine take_ (i := 5) (N := some 33) (v := ?_) (a' := ?_) dT14_6 rfl rfl (take_ofW HT_.out HW_.out (by kernel_rfl)) (fun _ _ _ h => h) (Or.inl ⟨by rfl, ?_⟩) hHeld ?_ ?_
 rotate_left
 ·rintro w' ⟨s0, s1, s2, s3, s4, s5⟩
  go_simp
  with_reducible rfl
 rotate_left
 ·simp only [Act.put, dT14_n, i64_w, i32_w]
  rfl
 refine one_ (i := 6) (N := some 34) dT14_7 rfl rfl (one_of HT_.out (by kernel_rfl)) (by decide) (fun K hK => ?_)
 go_simp
 replace S := Aside0.mk (S.out.alloc #[.int .i64 1, .int .i64 1, .int .i64 5, .int .i64 5, .int .i64 5, .int .i64 5, .int .i64 1, .int .i64 1, .int .i64 5, .int .i64 5, .int .i64 5, .int .i64 5] 51)
 replace SB := Aside0.mk (SB.out.alloc #[.int .i64 1, .int .i64 1, .int .i64 5, .int .i64 5, .int .i64 5, .int .i64 5, .int .i64 1, .int .i64 1, .int .i64 5, .int .i64 5, .int .i64 5, .int .i64 5] 51)
 clear hHeld
 refine hK.out _ _ ⟨blk_cell (S.out.at_box 1 rfl) 0, blk_cell (S.out.at_box 1 rfl) 1, blk_cell (S.out.at_box 1 rfl) 2, blk_cell (S.out.at_box 1 rfl) 3, blk_cell (S.out.at_box 1 rfl) 4, blk_cell (S.out.at_box 1 rfl) 5⟩ (fun hHeld => ?_)
 clear hK K
 refine one_ (i := 7) (N := some 35) dT14_8 rfl rfl (one_of HT_.out (by kernel_rfl)) (by decide) (fun K hK => ?_)
 refine goes_ Try.func9 (by kernel_rfl) rfl #[.slice (some ⟨W9.heap.size, 0, none⟩) 2 2, .int .i64 2] (by rfl) rfl rfl (by (try simp only [List.map_toArray, List.map_cons, List.map_nil]); first | done | rfl) ?_
 have X_ := new_ct (some ⟨W9.heap.size, 0, none⟩) 2 exW2 2 _ (box51 (S.out.at_box 0 rfl) (by decide)) (Nat.le_refl 2)
 rw [show exW2.length = 2 from rfl] at X_
 with_reducible refine X_.mono ?_
 clear X_
 rintro e w35 hN_
 obtain ⟨rfl, hb⟩ := new7 hN_
 clear hN_
 refine ⟨_, rfl, ?_⟩
 replace S := Aside0.mk ((S.out.step hb).drop 0)
 replace SB := Aside0.mk ((SB.out.step hb).drop 0)
 clear hb
 clear hHeld
 refine hK.out _ _ ⟨blk_cell (S.out.at_box 0 rfl) 0, blk_cell (S.out.at_box 0 rfl) 1, blk_cell (S.out.at_box 0 rfl) 2, blk_cell (S.out.at_box 0 rfl) 3, blk_cell (S.out.at_box 0 rfl) 4, blk_cell (S.out.at_box 0 rfl) 5⟩ (fun hHeld => ?_)
 clear hK K
 refine norm_ (a' := ?_) ?_ ?_
 rotate_left
 ·show Act.put _ (some 35) _ = _
  simp only [Act.put, dT14_n, i64_w, i32_w]
  rfl
 refine pure_ (i := 8) (N := some 27) (v := ?_) (a' := ?_) dT14_9 rfl rfl (any_of HT_.out (by kernel_rfl)) (fun _ _ _ h => h) (Or.inl ⟨by rfl, ?_⟩) ?_ ?_
 rotate_left
 ·intro w'
  go_simp
  with_reducible rfl
 rotate_left
 ·simp only [Act.put, dT14_n, i64_w, i32_w]
  rfl
 refine pure_ (i := 9) (N := some 36) (v := ?_) (a' := ?_) dT14_10 rfl rfl (any_of HT_.out (by kernel_rfl)) (fun _ _ _ h => h) (Or.inl ⟨by rfl, ?_⟩) ?_ ?_
 rotate_left
 ·intro w'
  go_simp
  with_reducible rfl
 rotate_left
 ·simp only [Act.put, dT14_n, i64_w, i32_w]
  rfl
 refine pure_ (i := 10) (N := some 37) (v := ?_) (a' := ?_) dT14_11 rfl rfl (any_of HT_.out (by kernel_rfl)) (fun _ _ _ h => h) (Or.inl ⟨by rfl, ?_⟩) ?_ ?_
 rotate_left
 ·intro w'
  go_simp
  with_reducible rfl
 rotate_left
 ·simp only [Act.put, dT14_n, i64_w, i32_w]
  rfl
 refine pure_ (i := 11) (N := some 6) (v := ?_) (a' := ?_) dT14_12 rfl rfl (any_of HT_.out (by kernel_rfl)) (fun _ _ _ h => h) (Or.inl ⟨by rfl, ?_⟩) ?_ ?_
 rotate_left
 ·intro w'
  go_simp
  with_reducible rfl
 rotate_left
 ·simp only [Act.put, dT14_n, i64_w, i32_w]
  rfl
 refine pure_ (i := 12) (N := some 7) (v := ?_) (a' := ?_) dT14_13 rfl rfl (any_of HT_.out (by kernel_rfl)) (fun _ _ _ h => h) (Or.inl ⟨by rfl, ?_⟩) ?_ ?_
 rotate_left
 ·intro w'
  go_simp
  with_reducible rfl
 rotate_left
 ·simp only [Act.put, dT14_n, i64_w, i32_w]
  rfl
 refine done_ (done_of HT_.out (by kernel_rfl)) ?_
 have hil : items.length = 5 := HPE.out.length_eq
 obtain ⟨lv, hlv⟩ : ∃ lv, lv = levelsOf 2 (items.map S51.f1) := ⟨_, rfl⟩
 have HF := Aside0.mk (fine_of (Nat.le_refl 2) (by decide) (show items.length ≤ 10000 by omega))
 have HB9 := Aside0.mk (vis_small (Nat.le_refl 2) (by decide) (show items.length ≤ 60 by omega) ⟨0, 0, 6, 5⟩)
 have HW9 : Aside0 ((visT (levelsOf 2 (items.map S51.f1)) items 2 ⟨0, 0, 6, 5⟩).1.length ≤ 1000000) := ⟨Nat.le_trans (visT_len (Nat.le_refl 2) (fun x hx => exL_valid x (HPE.out.mem_iff.1 hx)) _) (by omega)⟩
 have H5 := Aside0.mk (lv5 (items.map S51.f1) (by rw [List.length_map]; exact hil))
 rw [← hlv] at HT HF HB9 HW9 H5
 have HLE := Aside0.mk hlv
 have HIL := Aside0.mk hil
 have HLL : Aside0 (lv.length ≤ 1000000) := ⟨by rw [H5.out.1]; decide⟩
 have HLM := Aside0.mk (fine_mem HF.out)
 clear hil hlv
 go_upto_region 9 with (first | (go_at_call 21; (with_reducible refine (levels_ct HT.out _ SB.out.below HLL.out HLM.out).mono ?_); rintro e_ w45 ⟨v45, rfl, ho, hb⟩; replace SB := Aside0.mk (SB.out.step hb); obtain ⟨A45, c45, e45⟩ := Kd.R_slice ho; subst e45; replace S := Aside0.mk (S.out.own ho hb); clear ho hb) | fail)
 rw [H5.out.1] at S ⊢
 obtain ⟨ad, A50, c50, ead, k50⟩ := level_num (S.out.own_C 0 rfl) 0 3 (by rw [H5.out.1]; decide) H5.out.2.1
 subst ead
 obtain ⟨ad', A51, c51, ead, k51⟩ := level_num (S.out.own_C 0 rfl) 1 2 (by rw [H5.out.1]; decide) H5.out.2.2.1
 injection ead with ead
 subst ead
 obtain ⟨ad', A52, c52, ead, k52⟩ := level_num (S.out.own_C 0 rfl) 2 1 (by rw [H5.out.1]; decide) H5.out.2.2.2
 injection ead with ead
 subst ead
 have k50' : w45.cell? ad = some (.slice A50 3 c50) := k50
 have k51' : w45.cell? ⟨ad.block, ad.off + 1, none⟩ = some (.slice A51 2 c51) := k51
 have k52' : w45.cell? ⟨ad.block, ad.off + 2, none⟩ = some (.slice A52 1 c52) := k52
 clear k50 k51 k52
 go_upto_region 11 with (first | fail)
 clear k50' k51' k52'
 go_upto_region 12 with (first | (go_at_call 11; have X_ := window_ct HT.out HF.out ⟨0, 0, 6, 5⟩ HB9.out HW9.out _ SB.out.below; dsimp only at X_; (with_reducible refine X_.mono ?_); clear X_; rintro e_ w72 ⟨v72, ys, rfl, ho, hp, _, hb⟩; obtain rfl := window5 (ys := ys) HPE.out (by rw [← HLE.out]; exact hp); replace SB := Aside0.mk (SB.out.step hb); obtain ⟨A72, c72, e72⟩ := Kd.R_slice ho; subst e72; replace S := Aside0.mk (S.out.own ho hb); clear ho hb hp) | fail)
 obtain ⟨ad7, ead7⟩ := list_some (S.out.own_C 0 rfl) (Nat.lt_succ_self 0)
 subst ead7
 have b5 : ((items.length : Int) == 5) = true := by rw [HIL.out]; rfl
 have b5' : (items.length == 5) = true := by rw [HIL.out]; rfl
 replace S := Aside0.mk (show SepW.Sep w w72 (YtegkikdefckccaaW.SepW.Own _ k49 49 (.slice (some ad7) 1 c72) [⟨1, 1⟩] :: _) from S.out)
 refine start_ (n := 45) (S := fun w' => w'.cell? ad7 = some (.int .i64 1) ∧ w'.cell? ⟨ad7.block, ad7.off + 1, none⟩ = some (.int .i64 1) ∧ w'.cell? ⟨g, 0, none⟩ = some (.int .i64 1) ∧ w'.cell? ⟨g, 1, none⟩ = some (.int .i64 1)) (ds := []) dT14_14 (by kernel_rfl) rfl rfl ⟨(one49 S.out).1, (one49 S.out).2, blk_cell (S.out.at_box 2 rfl) 0, blk_cell (S.out.at_box 2 rfl) 1⟩ (fun hHeld => ?_); refine with_tabW lv12_tab lv12_bits (fun HT_ HW_ => ?_)
 have HBW := Aside0.mk (below_drew (Below.refl w72.heap.size w72))
 generalize w72.drew = W13 at HBW hHeld ⊢
 replace S := Aside0.mk (S.out.step HBW.out)
 replace SB := Aside0.mk (SB.out.step HBW.out)
 clear HBW
 refine pure_ (i := 0) (N := some 73) (v := ?_) (a' := ?_) dT14_15 rfl rfl (any_of HT_.out (by kernel_rfl)) (fun _ _ _ h => h) (Or.inl ⟨by rfl, ?_⟩) ?_ ?_
 rotate_left
 ·intro w'
  go_simp
  with_reducible rfl
 rotate_left
 ·simp only [Act.put, dT14_n, i64_w, i32_w]
  rfl
 refine pure_ (i := 1) (N := some 74) (v := ?_) (a' := ?_) dT14_16 rfl rfl (any_of HT_.out (by kernel_rfl)) (fun _ _ _ h => h) (Or.inl ⟨by rfl, ?_⟩) ?_ ?_
 rotate_left
 ·intro w'
  go_simp
  with_reducible rfl
 rotate_left
 ·simp only [Act.put, dT14_n, i64_w, i32_w]
  rfl
 refine pure_ (i := 2) (N := some 75) (v := ?_) (a' := ?_) dT14_17 rfl rfl (any_of HT_.out (by kernel_rfl)) (fun _ _ _ h => h) (Or.inl ⟨by rfl, ?_⟩) ?_ ?_
 rotate_left
 ·intro w'
  go_simp
  with_reducible rfl
 rotate_left
 ·simp only [Act.put, dT14_n, i64_w, i32_w]
  rfl
 refine pure_ (i := 3) (N := some 76) (v := ?_) (a' := ?_) dT14_18 rfl rfl (any_of HT_.out (by kernel_rfl)) (fun _ _ _ h => h) (Or.inl ⟨by rfl, ?_⟩) ?_ ?_
 rotate_left
 ·intro w'
  go_simp
  with_reducible rfl
 rotate_left
 ·simp only [Act.put, dT14_n, i64_w, i32_w]
  rfl
 refine pure_ (i := 4) (N := some 77) (v := ?_) (a' := ?_) dT14_19 rfl rfl (any_of HT_.out (by kernel_rfl)) (fun _ _ _ h => h) (Or.inl ⟨by rfl, ?_⟩) ?_ ?_
 rotate_left
 ·intro w'
  go_simp
  with_reducible rfl
 rotate_left
 ·simp only [Act.put, dT14_n, i64_w, i32_w]
  rfl
 refine pure_ (i := 5) (N := some 78) (v := ?_) (a' := ?_) dT14_20 rfl rfl (any_of HT_.out (by kernel_rfl)) (fun _ _ _ h => h) (Or.inl ⟨by rfl, ?_⟩) ?_ ?_
 rotate_left
 ·intro w'
  go_simp
  with_reducible rfl
 rotate_left
 ·simp only [Act.put, dT14_n, i64_w, i32_w]
  rfl
 refine pure_ (i := 6) (N := some 79) (v := ?_) (a' := ?_) dT14_21 rfl rfl (any_of HT_.out (by kernel_rfl)) (fun _ _ _ h => h) (Or.inl ⟨by rfl, ?_⟩) ?_ ?_
 rotate_left
 ·intro w'
  go_simp
  with_reducible rfl
 rotate_left
 ·simp only [Act.put, dT14_n, i64_w, i32_w]
  rfl
 refine pure_ (i := 7) (N := some 80) (v := ?_) (a' := ?_) dT14_22 rfl rfl (any_of HT_.out (by kernel_rfl)) (fun _ _ _ h => h) (Or.inl ⟨by rfl, ?_⟩) ?_ ?_
 rotate_left
 ·intro w'
  go_simp
  with_reducible rfl
 rotate_left
 ·simp only [Act.put, dT14_n, i64_w, i32_w]
  rfl
 refine pure_ (i := 8) (N := some 81) (v := ?_) (a' := ?_) dT14_23 rfl rfl (any_of HT_.out (by kernel_rfl)) (fun _ _ _ h => h) (Or.inl ⟨by rfl, ?_⟩) ?_ ?_
 rotate_left
 ·intro w'
  go_simp
  with_reducible rfl
 rotate_left
 ·simp only [Act.put, dT14_n, i64_w, i32_w]
  rfl
 refine pure_ (i := 9) (N := some 82) (v := ?_) (a' := ?_) dT14_24 rfl rfl (any_of HT_.out (by kernel_rfl)) (fun _ _ _ h => h) (Or.inl ⟨by rfl, ?_⟩) ?_ ?_
 rotate_left
 ·intro w'
  go_simp
  with_reducible rfl
 rotate_left
 ·simp only [Act.put, dT14_n, i64_w, i32_w]
  rfl
 refine pure_ (i := 10) (N := some 83) (v := ?_) (a' := ?_) dT14_25 rfl rfl (any_of HT_.out (by kernel_rfl)) (fun _ _ _ h => h) (Or.inl ⟨by rfl, ?_⟩) ?_ ?_
 rotate_left
 ·intro w'
  go_simp
  with_reducible rfl
 rotate_left
 ·simp only [Act.put, dT14_n, i64_w, i32_w]
  rfl
 refine pure_ (i := 11) (N := some 84) (v := ?_) (a' := ?_) dT14_26 rfl rfl (any_of HT_.out (by kernel_rfl)) (fun _ _ _ h => h) (Or.inl ⟨by rfl, ?_⟩) ?_ ?_
 rotate_left
 ·intro w'
  go_simp
  with_reducible rfl
 rotate_left
 ·simp only [Act.put, dT14_n, i64_w, i32_w]
  rfl
 refine pure_ (i := 12) (N := some 85) (v := ?_) (a' := ?_) dT14_27 rfl rfl (any_of HT_.out (by kernel_rfl)) (fun _ _ _ h => h) (Or.inl ⟨by rfl, ?_⟩) ?_ ?_
 rotate_left
 ·intro w'
  go_simp
  with_reducible rfl
 rotate_left
 ·simp only [Act.put, dT14_n, i64_w, i32_w]
  rfl
 refine pure_ (i := 13) (N := some 86) (v := ?_) (a' := ?_) dT14_28 rfl rfl (any_of HT_.out (by kernel_rfl)) (fun _ _ _ h => h) (Or.inl ⟨by rfl, ?_⟩) ?_ ?_
 rotate_left
 ·intro w'
  go_simp
  with_reducible rfl
 rotate_left
 ·simp only [Act.put, dT14_n, i64_w, i32_w]
  rfl
 refine pure_ (i := 15) (N := some 88) (v := ?_) (a' := ?_) dT14_29 rfl rfl (any_of HT_.out (by kernel_rfl)) (fun _ _ _ h => h) (Or.inl ⟨by rfl, ?_⟩) ?_ ?_
 rotate_left
 ·intro w'
  go_simp
  with_reducible rfl
 rotate_left
 ·simp only [Act.put, dT14_n, i64_w, i32_w]
  rfl
 refine pure_ (i := 16) (N := some 89) (v := ?_) (a' := ?_) dT14_30 rfl rfl (any_of HT_.out (by kernel_rfl)) (fun _ _ _ h => h) (Or.inl ⟨by rfl, ?_⟩) ?_ ?_
 rotate_left
 ·intro w'
  go_simp
  with_reducible rfl
 rotate_left
 ·simp only [Act.put, dT14_n, i64_w, i32_w]
  rfl
 refine pure_ (i := 17) (N := some 90) (v := ?_) (a' := ?_) dT14_31 rfl rfl (any_of HT_.out (by kernel_rfl)) (fun _ _ _ h => h) (Or.inl ⟨by rfl, ?_⟩) ?_ ?_
 rotate_left
 ·intro w'
  go_simp
  with_reducible rfl
 rotate_left
 ·simp only [Act.put, dT14_n, i64_w, i32_w]
  rfl
 refine take_ (i := 14) (N := some 87) (v := ?_) (a' := ?_) dT14_32 rfl rfl (take_ofW HT_.out HW_.out (by kernel_rfl)) (fun _ _ _ h => h) (Or.inl ⟨by rfl, ?_⟩) hHeld ?_ ?_
 rotate_left
 ·rintro w' ⟨s0, s1, s2, s3⟩
  go_simp
  with_reducible rfl
 rotate_left
 ·simp only [Act.put, dT14_n, i64_w, i32_w]
  rfl
 refine take_ (i := 18) (N := some 91) (v := ?_) (a' := ?_) dT14_33 rfl rfl (take_ofW HT_.out HW_.out (by kernel_rfl)) (fun _ _ _ h => h) (Or.inl ⟨by rfl, ?_⟩) hHeld ?_ ?_
 rotate_left
 ·rintro w' ⟨s0, s1, s2, s3⟩
  go_simp
  with_reducible rfl
 rotate_left
 ·simp only [Act.put, dT14_n, i64_w, i32_w]
  rfl
 refine pure_ (i := 19) (N := some 92) (v := ?_) (a' := ?_) dT14_34 rfl rfl (any_of HT_.out (by kernel_rfl)) (fun _ _ _ h => h) (Or.inl ⟨by rfl, ?_⟩) ?_ ?_
 rotate_left
 ·intro w'
  go_simp
  with_reducible rfl
 rotate_left
 ·simp only [Act.put, dT14_n, i64_w, i32_w]
  rfl
 refine pure_ (i := 20) (N := some 93) (v := ?_) (a' := ?_) dT14_35 rfl rfl (any_of HT_.out (by kernel_rfl)) (fun _ _ _ h => h) (Or.inl ⟨by rfl, ?_⟩) ?_ ?_
 rotate_left
 ·intro w'
  go_simp
  with_reducible rfl
 rotate_left
 ·simp only [Act.put, dT14_n, i64_w, i32_w]
  rfl
 refine pure_ (i := 21) (N := some 94) (v := ?_) (a' := ?_) dT14_36 rfl rfl (any_of HT_.out (by kernel_rfl)) (fun _ _ _ h => h) (Or.inl ⟨by rfl, ?_⟩) ?_ ?_
 rotate_left
 ·intro w'
  go_simp
  with_reducible rfl
 rotate_left
 ·simp only [Act.put, dT14_n, i64_w, i32_w]
  rfl
 refine pure_ (i := 22) (N := some 95) (v := ?_) (a' := ?_) dT14_37 rfl rfl (any_of HT_.out (by kernel_rfl)) (fun _ _ _ h => h) (Or.inl ⟨by rfl, ?_⟩) ?_ ?_
 rotate_left
 ·intro w'
  go_simp
  with_reducible rfl
 rotate_left
 ·simp only [Act.put, dT14_n, i64_w, i32_w]
  rfl
 refine one_ (i := 23) (N := some 96) dT14_38 rfl rfl (one_of HT_.out (by kernel_rfl)) (by decide) (fun K hK => ?_)
 refine goes_ Try.func19 (by kernel_rfl) rfl #[.pointer (some ⟨gt, 0, none⟩)] (by rfl) rfl rfl (by (try simp only [List.map_toArray, List.map_cons, List.map_nil]); first | done | rfl) ?_
 with_reducible refine (len_ct HT.out _ SB.out.below).mono ?_
 rintro e w96 ⟨rfl, hw_⟩
 refine ⟨_, rfl, ?_⟩
 subst hw_
 clear hHeld
 refine hK.out _ _ ⟨(one49 S.out).1, (one49 S.out).2, blk_cell (S.out.at_box 2 rfl) 0, blk_cell (S.out.at_box 2 rfl) 1⟩ (fun hHeld => ?_)
 clear hK K
 refine norm_ (a' := ?_) ?_ ?_
 rotate_left
 ·show Act.put _ (some 96) _ = _
  simp only [Act.put, dT14_n, i64_w, i32_w]
  rfl
 refine pure_ (i := 24) (N := some 97) (v := ?_) (a' := ?_) dT14_39 rfl rfl (any_of HT_.out (by kernel_rfl)) (fun _ _ _ h => h) (Or.inl ⟨by rfl, ?_⟩) ?_ ?_
 rotate_left
 ·intro w'
  go_simp
  with_reducible rfl
 rotate_left
 ·simp only [Act.put, dT14_n, i64_w, i32_w]
  rfl
 refine pure_ (i := 25) (N := some 98) (v := ?_) (a' := ?_) dT14_40 rfl rfl (any_of HT_.out (by kernel_rfl)) (fun _ _ _ h => h) (Or.inl ⟨by rfl, ?_⟩) ?_ ?_
 rotate_left
 ·intro w'
  go_simp
  with_reducible rfl
 rotate_left
 ·simp only [Act.put, dT14_n, i64_w, i32_w]
  rfl
 refine pure_ (i := 26) (N := some 99) (v := ?_) (a' := ?_) dT14_41 rfl rfl (any_of HT_.out (by kernel_rfl)) (fun _ _ _ h => h) (Or.inl ⟨by rfl, ?_⟩) ?_ ?_
 rotate_left
 ·intro w'
  go_simp
  with_reducible rfl
 rotate_left
 ·simp only [Act.put, dT14_n, i64_w, i32_w]
  rfl
 refine pure_ (i := 27) (N := some 100) (v := ?_) (a' := ?_) dT14_42 rfl rfl (any_of HT_.out (by kernel_rfl)) (fun _ _ _ h => h) (Or.inl ⟨by rfl, ?_⟩) ?_ ?_
 rotate_left
 ·intro w'
  go_simp
  with_reducible rfl
 rotate_left
 ·simp only [Act.put, dT14_n, i64_w, i32_w]
  rfl
 refine one_ (i := 28) (N := some 101) dT14_43 rfl rfl (one_of HT_.out (by kernel_rfl)) (by decide) (fun K hK => ?_)
 refine goes_ Try.func19 (by kernel_rfl) rfl #[.pointer none] (by rfl) rfl rfl (by (try simp only [List.map_toArray, List.map_cons, List.map_nil]); first | done | rfl) ?_
 with_reducible refine (len_nil _).mono ?_
 rintro e w101 ⟨rfl, hw_⟩
 refine ⟨_, rfl, ?_⟩
 subst hw_
 clear hHeld
 refine hK.out _ _ ⟨(one49 S.out).1, (one49 S.out).2, blk_cell (S.out.at_box 2 rfl) 0, blk_cell (S.out.at_box 2 rfl) 1⟩ (fun hHeld => ?_)
 clear hK K
 refine norm_ (a' := ?_) ?_ ?_
 rotate_left
 ·show Act.put _ (some 101) _ = _
  simp only [Act.put, dT14_n, i64_w, i32_w]
  rfl
 refine pure_ (i := 29) (N := some 102) (v := ?_) (a' := ?_) dT14_44 rfl rfl (any_of HT_.out (by kernel_rfl)) (fun _ _ _ h => h) (Or.inl ⟨by rfl, ?_⟩) ?_ ?_
 rotate_left
 ·intro w'
  go_simp
  with_reducible rfl
 rotate_left
 ·simp only [Act.put, dT14_n, i64_w, i32_w]
  rfl
 refine pure_ (i := 30) (N := some 103) (v := ?_) (a' := ?_) dT14_45 rfl rfl (any_of HT_.out (by kernel_rfl)) (fun _ _ _ h => h) (Or.inl ⟨by rfl, ?_⟩) ?_ ?_
 rotate_left
 ·intro w'
  go_simp
  with_reducible rfl
 rotate_left
 ·simp only [Act.put, dT14_n, i64_w, i32_w]
  rfl
 refine pure_ (i := 31) (N := some 104) (v := ?_) (a' := ?_) dT14_46 rfl rfl (any_of HT_.out (by kernel_rfl)) (fun _ _ _ h => h) (Or.inl ⟨by rfl, ?_⟩) ?_ ?_
 rotate_left
 ·intro w'
  go_simp
  with_reducible rfl
 rotate_left
 ·simp only [Act.put, dT14_n, i64_w, i32_w]
  rfl
 refine pure_ (i := 32) (N := some 105) (v := ?_) (a' := ?_) dT14_47 rfl rfl (any_of HT_.out (by kernel_rfl)) (fun _ _ _ h => h) (Or.inl ⟨by rfl, ?_⟩) ?_ ?_
 rotate_left
 ·intro w'
  go_simp
  with_reducible rfl
 rotate_left
 ·simp only [Act.put, dT14_n, i64_w, i32_w]
  rfl
 refine pure_ (i := 33) (N := some 106) (v := ?_) (a' := ?_) dT14_48 rfl rfl (any_of HT_.out (by kernel_rfl)) (fun _ _ _ h => h) (Or.inl ⟨by rfl, ?_⟩) ?_ ?_
 rotate_left
 ·intro w'
  go_simp
  with_reducible rfl
 rotate_left
 ·simp only [Act.put, dT14_n, i64_w, i32_w]
  rfl
 refine one_ (i := 34) (N := some 107) dT14_49 rfl rfl (one_of HT_.out (by kernel_rfl)) (by decide) (fun K hK => ?_)
 refine goes_ Try.func11 (by kernel_rfl) rfl #[.pointer none, .agg #[.int .i64 0, .int .i64 0, .int .i64 0, .int .i64 0]] (by rfl) rfl rfl (by (try simp only [List.map_toArray, List.map_cons, List.map_nil]); first | done | rfl) ?_
 with_reducible refine (window_nil ⟨0, 0, 0, 0⟩ _).mono ?_
 rintro e w107 ⟨rfl, hb⟩
 refine ⟨_, rfl, ?_⟩
 replace S := Aside0.mk (S.out.step hb)
 replace SB := Aside0.mk (SB.out.step hb)
 clear hb
 clear hHeld
 refine hK.out _ _ ⟨(one49 S.out).1, (one49 S.out).2, blk_cell (S.out.at_box 2 rfl) 0, blk_cell (S.out.at_box 2 rfl) 1⟩ (fun hHeld => ?_)
 clear hK K
 refine norm_ (a' := ?_) ?_ ?_
 rotate_left
 ·show Act.put _ (some 107) _ = _
  simp only [Act.put, dT14_n, i64_w, i32_w]
  rfl
 refine pure_ (i := 35) (N := some 108) (v := ?_) (a' := ?_) dT14_50 rfl rfl (any_of HT_.out (by kernel_rfl)) (fun _ _ _ h => h) (Or.inl ⟨by rfl, ?_⟩) ?_ ?_
 rotate_left
 ·intro w'
  go_simp
  with_reducible rfl
 rotate_left
 ·simp only [Act.put, dT14_n, i64_w, i32_w]
  rfl
 refine pure_ (i := 36) (N := some 109) (v := ?_) (a' := ?_) dT14_51 rfl rfl (any_of HT_.out (by kernel_rfl)) (fun _ _ _ h => h) (Or.inl ⟨by rfl, ?_⟩) ?_ ?_
 rotate_left
 ·intro w'
  go_simp
  with_reducible rfl
 rotate_left
 ·simp only [Act.put, dT14_n, i64_w, i32_w]
  rfl
 refine pure_ (i := 37) (N := some 110) (v := ?_) (a' := ?_) dT14_52 rfl rfl (any_of HT_.out (by kernel_rfl)) (fun _ _ _ h => h) (Or.inl ⟨by rfl, ?_⟩) ?_ ?_
 rotate_left
 ·intro w'
  go_simp
  with_reducible rfl
 rotate_left
 ·simp only [Act.put, dT14_n, i64_w, i32_w]
  rfl
 refine pure_ (i := 38) (N := some 111) (v := ?_) (a' := ?_) dT14_53 rfl rfl (any_of HT_.out (by kernel_rfl)) (fun _ _ _ h => h) (Or.inl ⟨by rfl, ?_⟩) ?_ ?_
 rotate_left
 ·intro w'
  go_simp
  with_reducible rfl
 rotate_left
 ·simp only [Act.put, dT14_n, i64_w, i32_w]
  rfl
 refine pure_ (i := 39) (N := some 112) (v := ?_) (a' := ?_) dT14_54 rfl rfl (any_of HT_.out (by kernel_rfl)) (fun _ _ _ h => h) (Or.inl ⟨by rfl, ?_⟩) ?_ ?_
 rotate_left
 ·intro w'
  go_simp
  with_reducible rfl
 rotate_left
 ·simp only [Act.put, dT14_n, i64_w, i32_w]
  rfl
 refine pure_ (i := 40) (N := some 113) (v := ?_) (a' := ?_) dT14_55 rfl rfl (any_of HT_.out (by kernel_rfl)) (fun _ _ _ h => h) (Or.inl ⟨by rfl, ?_⟩) ?_ ?_
 rotate_left
 ·intro w'
  go_simp
  with_reducible rfl
 rotate_left
 ·simp only [Act.put, dT14_n, i64_w, i32_w]
  rfl
 refine one_ (i := 41) (N := some 114) dT14_56 rfl rfl (one_of HT_.out (by kernel_rfl)) (by decide) (fun K hK => ?_)
 refine goes_ Try.func13 (by kernel_rfl) rfl #[.pointer none, .agg #[.int .i64 0, .int .i64 0, .int .i64 0, .int .i64 0]] (by rfl) rfl rfl (by (try simp only [List.map_toArray, List.map_cons, List.map_nil]); first | done | rfl) ?_
 with_reducible refine (visits_nil ⟨0, 0, 0, 0⟩ _).mono ?_
 rintro e w114 ⟨rfl, hb⟩
 refine ⟨_, rfl, ?_⟩
 replace S := Aside0.mk (S.out.step hb)
 replace SB := Aside0.mk (SB.out.step hb)
 clear hb
 clear hHeld
 refine hK.out _ _ ⟨(one49 S.out).1, (one49 S.out).2, blk_cell (S.out.at_box 2 rfl) 0, blk_cell (S.out.at_box 2 rfl) 1⟩ (fun hHeld => ?_)
 clear hK K
 refine norm_ (a' := ?_) ?_ ?_
 rotate_left
 ·show Act.put _ (some 114) _ = _
  simp only [Act.put, dT14_n, i64_w, i32_w]
  rfl
 refine pure_ (i := 42) (N := some 115) (v := ?_) (a' := ?_) dT14_57 rfl rfl (any_of HT_.out (by kernel_rfl)) (fun _ _ _ h => h) (Or.inl ⟨by rfl, ?_⟩) ?_ ?_
 rotate_left
 ·intro w'
  go_simp
  with_reducible rfl
 rotate_left
 ·simp only [Act.put, dT14_n, i64_w, i32_w]
  rfl
 refine pure_ (i := 43) (N := some 116) (v := ?_) (a' := ?_) dT14_58 rfl rfl (any_of HT_.out (by kernel_rfl)) (fun _ _ _ h => h) (Or.inl ⟨by rfl, ?_⟩) ?_ ?_
 rotate_left
 ·intro w'
  go_simp
  with_reducible rfl
 rotate_left
 ·simp only [Act.put, dT14_n, i64_w, i32_w]
  rfl
 refine pure_ (i := 44) (N := some 0) (v := ?_) (a' := ?_) dT14_59 rfl rfl (any_of HT_.out (by kernel_rfl)) (fun _ _ _ h => h) (Or.inl ⟨by rfl, ?_⟩) ?_ ?_
 rotate_left
 ·intro w'
  go_simp
  with_reducible rfl
 rotate_left
 ·simp only [Act.put, dT14_n, i64_w, i32_w]
  rfl
 refine done_ (done_of HT_.out (by kernel_rfl)) ?_
 go_wp2
 go_ret
 exact ⟨rfl, S.out.below⟩
end Go.Proofs.Ytegkikdefckccaa.Hand
end
section
namespace Go.Proofs.Ytegkikdefckccaa.Hand
open Go.Proofs.YtegkikdefckccaaW Go.RowKit Go.Proofs.YtegkikdefckccaaW.PrintWords Go.Proofs.YtegkikdefckccaaW.PrintLast Go.Proofs.YtegkikdefckccaaW.PrintMore Go.Proofs.YtegkikdefckccaaW.SepW Go.Proofs.Ytegkikdefckccaa.PALL Go.Proofs.Ytegkikdefckccaa.Plain
set_option linter.unusedVariables false
set_option linter.unusedSimpArgs false
abbrev dT15_0 : Array Bool := #[false, false, false, false, false, false, false, false, false, false, false, false, false, false, false, false, false, false, false, false, false]
abbrev dT15_1 : Array Bool := #[true, false, false, false, false, false, false, false, false, false, false, false, false, false, false, false, false, false, false, false, false]
abbrev dT15_2 : Array Bool := #[true, false, false, true, false, false, false, false, false, false, false, false, false, false, false, false, false, false, false, false, false]
abbrev dT15_3 : Array Bool := #[true, true, false, true, false, false, false, false, false, false, false, false, false, false, false, false, false, false, false, false, false]
abbrev dT15_4 : Array Bool := #[true, true, false, true, true, false, false, false, false, false, false, false, false, false, false, false, false, false, false, false, false]
abbrev dT15_5 : Array Bool := #[true, true, true, true, true, false, false, false, false, false, false, false, false, false, false, false, false, false, false, false, false]
abbrev dT15_6 : Array Bool := #[true, true, true, true, true, true, false, false, false, false, false, false, false, false, false, false, false, false, false, false, false]
abbrev dT15_7 : Array Bool := #[true, true, true, true, true, true, true, false, false, false, false, false, false, false, false, false, false, false, false, false, false]
abbrev dT15_8 : Array Bool := #[true, true, true, true, true, true, true, true, false, false, false, false, false, false, false, false, false, false, false, false, false]
abbrev dT15_9 : Array Bool := #[true, true, true, true, true, true, true, true, true, false, false, false, false, false, false, false, false, false, false, false, false]
abbrev dT15_10 : Array Bool := #[true, true, true, true, true, true, true, true, true, false, false, true, false, false, false, false, false, false, false, false, false]
abbrev dT15_11 : Array Bool := #[true, true, true, true, true, true, true, true, true, false, false, true, true, false, false, false, false, false, false, false, false]
abbrev dT15_12 : Array Bool := #[true, true, true, true, true, true, true, true, true, true, false, true, true, false, false, false, false, false, false, false, false]
abbrev dT15_13 : Array Bool := #[true, true, true, true, true, true, true, true, true, true, false, true, true, true, false, false, false, false, false, false, false]
abbrev dT15_14 : Array Bool := #[true, true, true, true, true, true, true, true, true, true, true, true, true, true, false, false, false, false, false, false, false]
abbrev dT15_15 : Array Bool := #[true, true, true, true, true, true, true, true, true, true, true, true, true, true, true, false, false, false, false, false, false]
abbrev dT15_16 : Array Bool := #[true, true, true, true, true, true, true, true, true, true, true, true, true, true, true, true, false, false, false, false, false]
abbrev dT15_17 : Array Bool := #[true, true, true, true, true, true, true, true, true, true, true, true, true, true, true, true, true, false, false, false, false]
abbrev dT15_18 : Array Bool := #[true, true, true, true, true, true, true, true, true, true, true, true, true, true, true, true, true, true, false, false, false]
abbrev dT15_19 : Array Bool := #[true, true, true, true, true, true, true, true, true, true, true, true, true, true, true, true, true, true, true, false, false]
abbrev dT15_20 : Array Bool := #[true, true, true, true, true, true, true, true, true, true, true, true, true, true, true, true, true, true, true, true, false]
abbrev dT15_21 : Array Bool := #[true, true, true, true, true, true, true, true, true, true, true, true, true, true, true, true, true, true, true, true, true]
theorem dT15_n {α : Type} : (∀ (l : List α) (i : Nat) (a : α), l.toArray.setIfInBounds i a = (l.set i a).toArray) ∧ (∀ (a b : α) (l : List α), (a :: l).set 0 b = b :: l) ∧ (∀ (a b : α) (l : List α) (n : Nat), (a :: l).set (n + 1) b = a :: l.set n b) :=
  ⟨fun _ _ _ => List.setIfInBounds_toArray .., fun _ _ _ => rfl, fun _ _ _ _ => rfl⟩
/-- What New answers, in the reference's words. -/
def NewC (l : List S51) (fan : Int) (w' : World) (p : Option Addr) (c : Int) : Prop :=
 (p = none ∧ c ≠ 0 ∧ Ev (fun k => mapmakerref34_Check.f k l fan) c) ∨
 (c = 0 ∧ ∃ m : Nat, fan = (m : Int) ∧ 2 ≤ m ∧ m ≤ 16 ∧ (∀ x ∈ l, validB x.f1 = true) ∧ (l.map S51.f0).Nodup ∧ Ev (fun k => mapmakerref34_Check.f k l fan) 0 ∧
  ∃ g, p = some ⟨g, 0, none⟩ ∧ TreeAt w' g m (isortT l) (levelsOf m ((isortT l).map S51.f1)))
theorem new_form {l : List S51} {fan : Int} {w w' : World} {e : Ending} (h : NewR l fan w e w') : ∃ p c, e = .returned (.tuple #[.pointer p, .int .i64 c]) ∧ NewC l fan w' p c ∧ Below w.heap.size w w' := by
 obtain ⟨hb, h⟩ := h
 rcases h with ⟨c, he, h⟩ | ⟨h2, h16, hl, hv, hn, g, items, he, hp, hs, hT⟩
 ·refine ⟨none, c, he, .inl ⟨rfl, ?_⟩, hb⟩
  rcases h with ⟨rfl, h⟩ | ⟨rfl, h2, h16, h⟩ | ⟨h2, h16, hl, h⟩
  ·exact ⟨by decide, check_arg l fan h⟩
  ·exact ⟨by decide, check_long l fan h2 h16 h⟩
  ·rcases h with ⟨rfl, h⟩ | ⟨rfl, hv, h⟩
   ·exact ⟨by decide, check_bad l fan h2 h16 hl h⟩
   ·exact ⟨by decide, check_twice l fan h2 h16 hl hv h⟩
 ·obtain ⟨m, rfl⟩ : ∃ m : Nat, fan = (m : Int) := ⟨fan.toNat, by omega⟩
  rw [Int.toNat_natCast] at hT
  have hni : (items.map S51.f0).Nodup := ((hp.map S51.f0).nodup_iff).2 hn
  obtain rfl : items = isortT l := sorted_one hs (isort_sorted l) (hp.trans (isort_perm l).symm) hni
  exact ⟨_, 0, he, .inr ⟨rfl, m, rfl, by omega, by omega, hv, hn, check_ok l m h2 h16 hl hv hn, g, rfl, hT⟩, hb⟩
theorem few_yes {l : List S51} (h : l.length ≤ 60) : mapmakerlaw34_few.f l = some true := by
 show some (decide ((l.length : Int) ≤ 60)) = some true
 rw [decide_eq_true (by omega)]
theorem few_no {l : List S51} (h : ¬ l.length ≤ 60) : mapmakerlaw34_few.f l = some false := by
 show some (decide ((l.length : Int) ≤ 60)) = some false
 rw [decide_eq_false (by omega)]
theorem drawn_below {w w' : World} (h : Drawn0 w w') : Below w.heap.size w w' := h.below
theorem sameRefs_ct (A : Option Addr) (c : Nat) (B : Option Addr) (d : Nat) (l : List S49) (hl : l.length ≤ 1000000) (w : World) (hC : k49.C w A l.length l) (hc : l.length ≤ c) (hD : k49.C w B l.length l) (hd : l.length ≤ d) :
  Calls Try.prog 10 #[.slice A l.length c, .slice B l.length d] w fun e w' => e = .returned (.bool true) ∧ Below w.heap.size w w' := by
 obtain ⟨k, hk⟩ := (sameRefs_ev l hl).rounds
 exact (mapmakerref14_SameRefs.calls k A c l B d l true w hC hc hD hd hk).mono (fun _ _ h => ⟨h.1, h.2.below⟩)
theorem rWindow_ct (A : Option Addr) (c : Nat) (l : List S51) (b : S24) (hl : l.length ≤ 60) (hn : (l.map S51.f0).Nodup) (w : World) (hC : k51.C w A l.length l) (hc : l.length ≤ c) :
  Calls Try.prog 12 #[.slice A l.length c, .agg #[.int .i64 b.f0, .int .i64 b.f1, .int .i64 b.f2, .int .i64 b.f3]] w fun e w' => ∃ v, e = .returned v ∧ k49.R 49 w' w.heap.size (fun _ => True) v (winR b l) ∧ Below w.heap.size w w' := by
 obtain ⟨k, hk⟩ := (window_ev b l (by omega) hn).rounds
 exact mapmakerref34_Window.calls k A c l _ _ _ _ _ w hC hc hk
/-- What Window answers is what the reference answers. -/
theorem win_one {l : List S51} {m : Nat} {b : S24} {ys : List S49} (h2 : 2 ≤ m) (hv : ∀ x ∈ l, validB x.f1 = true) (hn : (l.map S51.f0).Nodup) (hp : ys.Perm ((visT (levelsOf m ((isortT l).map S51.f1)) (isortT l) m b).1.map S51.f0)) (hs : ys.Pairwise (fun a b => ltR b a = false)) : ys = winR b l := by
 have hw := winR_spec b l.length l (Nat.le_refl _) hn
 rw [List.take_length] at hw
 rw [visT_items h2 (fun x hx => hv x ((isort_perm l).mem_iff.1 hx))] at hp
 have h1 := (((isort_perm l).filter (fun x => meetsB x.f1 b)).map S51.f0)
 have h3 := hp.trans (h1.trans hw.1.symm)
 exact sortedR_one hs hw.2 h3 (h3.nodup_iff.2 (hw.1.nodup_iff.2 ((List.Sublist.map S51.f0 (List.filter_sublist)).nodup hn)))
theorem win_len {l : List S51} {b : S24} (hl : l.length ≤ 60) (hn : (l.map S51.f0).Nodup) : (winR b l).length ≤ 1000000 := by
 have h := winR_len b l.length l (Nat.le_refl _) hn
 rw [List.take_length] at h
 omega
theorem isort_len (l : List S51) : (isortT l).length = l.length := (isort_perm l).length_eq
theorem isort_valid {l : List S51} (hv : ∀ x ∈ l, validB x.f1 = true) : ∀ x ∈ isortT l, validB x.f1 = true := fun x hx => hv x ((isort_perm l).mem_iff.1 hx)
def se8_T : Bool × List (List Nat × List Nat) := (true, [([], []), ([], []), ([0, 1], [0, 1]), ([], []), ([], []), ([3, 4, 2], [3, 4]), ([2, 5, 5], [2, 5]), ([6, 6], [6]), ([7], [7]), ([7], [7]), ([8, 9, 7, 7], [7, 8, 9]), ([7], [7]), ([7], [7]), ([7], [7]), ([11, 12, 13, 10, 7], [7, 11, 12, 13]), ([10, 14, 7], [7, 10, 14]), ([7, 15], [7, 15]), ([16, 14], [16]), ([17, 17], [17]), ([17, 18], [17, 18]), ([19, 18, 0, 1, 2, 3, 4, 5, 6, 7, 8, 9, 10, 11, 12, 13, 14, 15, 16, 17, 18, 19], [19])])
def se8_B : List Nat := [0, 0, 3, 0, 0, 31, 63, 127, 255, 255, 1023, 255, 255, 255, 16383, 32767, 65535, 131071, 262143, 524287, 1048575]
theorem se8_tab : rtab .any (opsOf Try.f3 8) = se8_T := by kernel_rfl
theorem se8_bits : waitsOk se8_T.2 se8_B = true := by kernel_rfl
set_option maxHeartbeats 40000000 in
set_option maxRecDepth 100000 in
theorem searches_law (l : List S51) (fan : Int) (b : S24) (A : Option Addr) (c : Nat) (w : World) (hC : k51.C w A l.length l) (hc : l.length ≤ c) :
  Calls Try.prog 3 #[.slice A l.length c, .int .i64 fan, .agg #[.int .i64 b.f0, .int .i64 b.f1, .int .i64 b.f2, .int .i64 b.f3]] w fun e w' => e = .returned (.bool true) ∧ Below w.heap.size w w' := by
 have S := Aside0.mk (SepW.Sep.start w)
 have HC := Aside0.mk hC
 have HCC := Aside0.mk hc
 have hu24 := Try.underlying24
 clear hC hc
 by_cases hl : l.length ≤ 60
 ·have HL := Aside0.mk hl
  have HFW := Aside0.mk (few_yes hl)
  clear hl
  go_enter Try.func3, Try.ntmps3
  go_upto_region 1 with fail
  have S1 := Aside0.mk (S.out.alloc #[.int .i64 b.f0, .int .i64 b.f1, .int .i64 b.f2, .int .i64 b.f3] 24)
  refine wp_genS S1 (fun W1 S => ?_)
  clear S1
  go_upto_region 4 with (first | (go_at_call 7; (with_reducible refine (mapmakerlaw34_few.calls A c l true _ (Kd.C_below HC.out S.out.below) HCC.out HFW.out).mono ?_); rintro e_ w7 ⟨rfl, hdn⟩; have hb := drawn_below hdn; replace S := Aside0.mk (S.out.step hb); clear hb hdn) | (go_at_call 9; (with_reducible refine (new_ct A c l fan _ (Kd.C_below HC.out S.out.below) HCC.out).mono ?_); rintro e_ w9 hN_; obtain ⟨p, r, rfl, hN, hb⟩ := new_form hN_; have HN := Aside0.mk hN; clear hN_ hN; replace S := Aside0.mk (S.out.step hb); clear hb) | fail)
  rcases HN.out with ⟨hp, h0, hk⟩ | ⟨h0, m, hm, h2, h16, hv, hn, hk, g, hp, hT⟩
  ·subst hp
   have b0 : (r == 0) = false := by rw [beq_eq_false_iff_ne]; exact h0
   clear HN hk h0
   go_wp2_with (first | (go_at_call 8; (with_reducible refine (lives_ct _).mono ?_); rintro e_ w8 ⟨rfl, hb⟩; replace S := Aside0.mk (S.out.step hb); clear hb) | fail)
   go_ret
   exact ⟨rfl, S.out.below⟩
  subst hp
  subst h0
  subst hm
  have SB := Aside0.mk (SepW.Sep.start w9)
  have hil := isort_len l
  have HIL : Aside0 ((isortT l).length ≤ 60) := ⟨by have := HL.out; omega⟩
  have HF := Aside0.mk (fine_of h2 h16 (show (isortT l).length ≤ 10000 by have := HIL.out; omega))
  have HIV := Aside0.mk (isort_valid hv)
  have HT := Aside0.mk hT
  have HK := Aside0.mk hk
  have HV := Aside0.mk hv
  have HN2 := Aside0.mk hn
  have H2 := Aside0.mk h2
  have H16 := Aside0.mk h16
  have HHL := Aside0.mk hil
  clear HN hil hT hk hv hn h2 h16
  have HB9 := Aside0.mk (vis_small H2.out H16.out HIL.out b)
  have HW9 : Aside0 ((visT (levelsOf m ((isortT l).map S51.f1)) (isortT l) m b).1.length ≤ 1000000) := ⟨Nat.le_trans (visT_len H2.out HIV.out b) (by have := HIL.out; omega)⟩
  have HWL := Aside0.mk (win_len (b := b) HL.out HN2.out)
  go_upto_region 8 with (first | fail)
  refine start_ (n := 21) (S := fun w' => w'.cell? ⟨w.heap.size, 0, none⟩ = some (.int .i64 b.f0) ∧ w'.cell? ⟨w.heap.size, 1, none⟩ = some (.int .i64 b.f1) ∧ w'.cell? ⟨w.heap.size, 2, none⟩ = some (.int .i64 b.f2) ∧ w'.cell? ⟨w.heap.size, 3, none⟩ = some (.int .i64 b.f3)) (ds := []) dT15_0 (by kernel_rfl) rfl rfl ⟨blk_cell (S.out.at_box 0 rfl) 0, blk_cell (S.out.at_box 0 rfl) 1, blk_cell (S.out.at_box 0 rfl) 2, blk_cell (S.out.at_box 0 rfl) 3⟩ (fun hHeld => ?_); refine with_tabW se8_tab se8_bits (fun HT_ HW_ => ?_)
  have HBW := Aside0.mk (below_drew (Below.refl w9.heap.size w9))
  generalize w9.drew = W9 at HBW hHeld ⊢
  replace S := Aside0.mk (S.out.step HBW.out)
  replace SB := Aside0.mk (SB.out.step HBW.out)
  clear HBW
  refine pure_ (i := 0) (N := some 28) (v := ?_) (a' := ?_) dT15_1 rfl rfl (any_of HT_.out (by kernel_rfl)) (fun _ _ _ h => h) (Or.inl ⟨by rfl, ?_⟩) ?_ ?_
  rotate_left
  ·intro w'
   go_simp
   with_reducible rfl
  rotate_left
  ·simp only [Act.put, dT15_n, i64_w, i32_w]
   rfl
  refine pure_ (i := 3) (N := some 31) (v := ?_) (a' := ?_) dT15_2 rfl rfl (any_of HT_.out (by kernel_rfl)) (fun _ _ _ h => h) (Or.inl ⟨by rfl, ?_⟩) ?_ ?_
  rotate_left
  ·intro w'
   go_simp
   with_reducible rfl
  rotate_left
  ·simp only [Act.put, dT15_n, i64_w, i32_w]
   rfl
  refine take_ (i := 1) (N := some 29) (v := ?_) (a' := ?_) dT15_3 rfl rfl (take_ofW HT_.out HW_.out (by kernel_rfl)) (fun _ _ _ h => h) (Or.inl ⟨by rfl, ?_⟩) hHeld ?_ ?_
  rotate_left
  ·rintro w' ⟨s0, s1, s2, s3⟩
   go_simp
   with_reducible rfl
  rotate_left
  ·simp only [Act.put, dT15_n, i64_w, i32_w]
   rfl
  refine take_ (i := 4) (N := some 32) (v := ?_) (a' := ?_) dT15_4 rfl rfl (take_ofW HT_.out HW_.out (by kernel_rfl)) (fun _ _ _ h => h) (Or.inl ⟨by rfl, ?_⟩) hHeld ?_ ?_
  rotate_left
  ·rintro w' ⟨s0, s1, s2, s3⟩
   go_simp
   with_reducible rfl
  rotate_left
  ·simp only [Act.put, dT15_n, i64_w, i32_w]
   rfl
  refine one_ (i := 2) (N := some 30) dT15_5 rfl rfl (one_of HT_.out (by kernel_rfl)) (by decide) (fun K hK => ?_)
  refine goes_ Try.func11 (by kernel_rfl) rfl #[.pointer (some ⟨g, 0, none⟩), .agg #[.int .i64 b.f0, .int .i64 b.f1, .int .i64 b.f2, .int .i64 b.f3]] (by rfl) rfl rfl (by (try simp only [List.map_toArray, List.map_cons, List.map_nil]); first | done | rfl) ?_
  with_reducible refine (window_ct HT.out HF.out b HB9.out HW9.out _ SB.out.below).mono ?_
  rintro e w30 ⟨v30, ys, rfl, ho, hp, hso, hb⟩
  refine ⟨_, rfl, ?_⟩
  obtain rfl := win_one (ys := ys) (b := b) H2.out HV.out HN2.out hp hso
  clear hp hso
  obtain ⟨A30, c30, e30, hc30, _⟩ := Kd.R_reads ho
  subst e30
  have HC30 := Aside0.mk hc30
  replace S := Aside0.mk (S.out.own ho hb)
  replace SB := Aside0.mk (SB.out.step hb)
  clear ho hb hc30
  clear hHeld
  refine hK.out _ _ ⟨blk_cell (S.out.at_box 1 rfl) 0, blk_cell (S.out.at_box 1 rfl) 1, blk_cell (S.out.at_box 1 rfl) 2, blk_cell (S.out.at_box 1 rfl) 3⟩ (fun hHeld => ?_)
  clear hK K
  refine norm_ (a' := ?_) ?_ ?_
  rotate_left
  ·show Act.put _ (some 30) _ = _
   simp only [Act.put, dT15_n, i64_w, i32_w]
   rfl
  refine one_ (i := 5) (N := some 33) dT15_6 rfl rfl (one_of HT_.out (by kernel_rfl)) (by decide) (fun K hK => ?_)
  refine goes_ Try.func12 (by kernel_rfl) rfl #[.slice A l.length c, .agg #[.int .i64 b.f0, .int .i64 b.f1, .int .i64 b.f2, .int .i64 b.f3]] (by rfl) rfl rfl (by (try simp only [List.map_toArray, List.map_cons, List.map_nil]); first | done | rfl) ?_
  with_reducible refine (rWindow_ct A c l b HL.out HN2.out _ (Kd.C_below HC.out S.out.below) HCC.out).mono ?_
  rintro e w33 ⟨v33, rfl, ho, hb⟩
  refine ⟨_, rfl, ?_⟩
  obtain ⟨A33, c33, e33, hc33, _⟩ := Kd.R_reads ho
  subst e33
  have HC33 := Aside0.mk hc33
  replace S := Aside0.mk (S.out.own ho hb)
  replace SB := Aside0.mk (SB.out.step hb)
  clear ho hb hc33
  clear hHeld
  refine hK.out _ _ ⟨blk_cell (S.out.at_box 2 rfl) 0, blk_cell (S.out.at_box 2 rfl) 1, blk_cell (S.out.at_box 2 rfl) 2, blk_cell (S.out.at_box 2 rfl) 3⟩ (fun hHeld => ?_)
  clear hK K
  refine norm_ (a' := ?_) ?_ ?_
  rotate_left
  ·show Act.put _ (some 33) _ = _
   simp only [Act.put, dT15_n, i64_w, i32_w]
   rfl
  refine one_ (i := 6) (N := some 34) dT15_7 rfl rfl (one_of HT_.out (by kernel_rfl)) (by decide) (fun K hK => ?_)
  refine goes_ Try.func10 (by kernel_rfl) rfl #[.slice A30 (winR b l).length c30, .slice A33 (winR b l).length c33] (by rfl) rfl rfl (by (try simp only [List.map_toArray, List.map_cons, List.map_nil]); first | done | rfl) ?_
  with_reducible refine (sameRefs_ct A30 c30 A33 c33 (winR b l) HWL.out _ (S.out.own_C 1 rfl) HC30.out (S.out.own_C 0 rfl) HC33.out).mono ?_
  rintro e w34 ⟨rfl, hb⟩
  refine ⟨_, rfl, ?_⟩
  replace S := Aside0.mk (S.out.step hb)
  replace SB := Aside0.mk (SB.out.step hb)
  clear hb
  clear hHeld
  refine hK.out _ _ ⟨blk_cell (S.out.at_box 2 rfl) 0, blk_cell (S.out.at_box 2 rfl) 1, blk_cell (S.out.at_box 2 rfl) 2, blk_cell (S.out.at_box 2 rfl) 3⟩ (fun hHeld => ?_)
  clear hK K
  refine norm_ (a' := ?_) ?_ ?_
  rotate_left
  ·show Act.put _ (some 34) _ = _
   simp only [Act.put, dT15_n, i64_w, i32_w]
   rfl
  refine pure_ (i := 7) (N := some 35) (v := ?_) (a' := ?_) dT15_8 rfl rfl (any_of HT_.out (by kernel_rfl)) (fun _ _ _ h => h) (Or.inl ⟨by rfl, ?_⟩) ?_ ?_
  rotate_left
  ·intro w'
   go_simp
   with_reducible rfl
  rotate_left
  ·simp only [Act.put, dT15_n, i64_w, i32_w]
   rfl
  refine pure_ (i := 8) (N := some 36) (v := ?_) (a' := ?_) dT15_9 rfl rfl (any_of HT_.out (by kernel_rfl)) (fun _ _ _ h => h) (Or.inl ⟨by rfl, ?_⟩) ?_ ?_
  rotate_left
  ·intro w'
   go_simp
   with_reducible rfl
  rotate_left
  ·simp only [Act.put, dT15_n, i64_w, i32_w]
   rfl
  refine pure_ (i := 11) (N := some 39) (v := ?_) (a' := ?_) dT15_10 rfl rfl (any_of HT_.out (by kernel_rfl)) (fun _ _ _ h => h) (Or.inl ⟨by rfl, ?_⟩) ?_ ?_
  rotate_left
  ·intro w'
   go_simp
   with_reducible rfl
  rotate_left
  ·simp only [Act.put, dT15_n, i64_w, i32_w]
   rfl
  refine pure_ (i := 12) (N := some 40) (v := ?_) (a' := ?_) dT15_11 rfl rfl (any_of HT_.out (by kernel_rfl)) (fun _ _ _ h => h) (Or.inl ⟨by rfl, ?_⟩) ?_ ?_
  rotate_left
  ·intro w'
   go_simp
   with_reducible rfl
  rotate_left
  ·simp only [Act.put, dT15_n, i64_w, i32_w]
   rfl
  refine take_ (i := 9) (N := some 37) (v := ?_) (a' := ?_) dT15_12 rfl rfl (take_ofW HT_.out HW_.out (by kernel_rfl)) (fun _ _ _ h => h) (Or.inl ⟨by rfl, ?_⟩) hHeld ?_ ?_
  rotate_left
  ·rintro w' ⟨s0, s1, s2, s3⟩
   go_simp
   with_reducible rfl
  rotate_left
  ·simp only [Act.put, dT15_n, i64_w, i32_w]
   rfl
  refine take_ (i := 13) (N := some 41) (v := ?_) (a' := ?_) dT15_13 rfl rfl (take_ofW HT_.out HW_.out (by kernel_rfl)) (fun _ _ _ h => h) (Or.inl ⟨by rfl, ?_⟩) hHeld ?_ ?_
  rotate_left
  ·rintro w' ⟨s0, s1, s2, s3⟩
   go_simp
   with_reducible rfl
  rotate_left
  ·simp only [Act.put, dT15_n, i64_w, i32_w]
   rfl
  refine one_ (i := 10) (N := some 38) dT15_14 rfl rfl (one_of HT_.out (by kernel_rfl)) (by decide) (fun K hK => ?_)
  refine goes_ Try.func13 (by kernel_rfl) rfl #[.pointer (some ⟨g, 0, none⟩), .agg #[.int .i64 b.f0, .int .i64 b.f1, .int .i64 b.f2, .int .i64 b.f3]] (by rfl) rfl rfl (by (try simp only [List.map_toArray, List.map_cons, List.map_nil]); first | done | rfl) ?_
  with_reducible refine (visits_ct HT.out HF.out b HB9.out _ SB.out.below).mono ?_
  rintro e w38 ⟨rfl, hb⟩
  refine ⟨_, rfl, ?_⟩
  replace S := Aside0.mk (S.out.step hb)
  replace SB := Aside0.mk (SB.out.step hb)
  clear hb
  clear hHeld
  refine hK.out _ _ ⟨blk_cell (S.out.at_box 2 rfl) 0, blk_cell (S.out.at_box 2 rfl) 1, blk_cell (S.out.at_box 2 rfl) 2, blk_cell (S.out.at_box 2 rfl) 3⟩ (fun hHeld => ?_)
  clear hK K
  refine norm_ (a' := ?_) ?_ ?_
  rotate_left
  ·show Act.put _ (some 38) _ = _
   simp only [Act.put, dT15_n, i64_w, i32_w]
   rfl
  refine one_ (i := 14) (N := some 42) dT15_15 rfl rfl (one_of HT_.out (by kernel_rfl)) (by decide) (fun K hK => ?_)
  refine goes_ Try.func14 (by kernel_rfl) rfl #[.slice A l.length c, .int .i64 (m : Int), .agg #[.int .i64 b.f0, .int .i64 b.f1, .int .i64 b.f2, .int .i64 b.f3]] (by rfl) rfl rfl (by (try simp only [List.map_toArray, List.map_cons, List.map_nil]); first | done | rfl) ?_
  with_reducible refine (rVisits_ct A c l m b H2.out H16.out HL.out HV.out _ (Kd.C_below HC.out S.out.below) HCC.out).mono ?_
  rintro e w42 ⟨rfl, hb⟩
  refine ⟨_, rfl, ?_⟩
  replace S := Aside0.mk (S.out.step hb)
  replace SB := Aside0.mk (SB.out.step hb)
  clear hb
  clear hHeld
  refine hK.out _ _ ⟨blk_cell (S.out.at_box 2 rfl) 0, blk_cell (S.out.at_box 2 rfl) 1, blk_cell (S.out.at_box 2 rfl) 2, blk_cell (S.out.at_box 2 rfl) 3⟩ (fun hHeld => ?_)
  clear hK K
  refine norm_ (a' := ?_) ?_ ?_
  rotate_left
  ·show Act.put _ (some 42) _ = _
   simp only [Act.put, dT15_n, i64_w, i32_w]
   rfl
  refine pure_ (i := 15) (N := some 43) (v := ?_) (a' := ?_) dT15_16 rfl rfl (any_of HT_.out (by kernel_rfl)) (fun _ _ _ h => h) (Or.inl ⟨by rfl, ?_⟩) ?_ ?_
  rotate_left
  ·intro w'
   go_simp
   with_reducible rfl
  rotate_left
  ·simp only [Act.put, dT15_n, i64_w, i32_w]
   rfl
  refine pure_ (i := 16) (N := some 44) (v := ?_) (a' := ?_) dT15_17 rfl rfl (any_of HT_.out (by kernel_rfl)) (fun _ _ _ h => h) (Or.inl ⟨by rfl, ?_⟩) ?_ ?_
  rotate_left
  ·intro w'
   go_simp
   with_reducible rfl
  rotate_left
  ·simp only [Act.put, dT15_n, i64_w, i32_w]
   rfl
  refine pure_ (i := 17) (N := some 45) (v := ?_) (a' := ?_) dT15_18 rfl rfl (any_of HT_.out (by kernel_rfl)) (fun _ _ _ h => h) (Or.inl ⟨by rfl, ?_⟩) ?_ ?_
  rotate_left
  ·intro w'
   go_simp
   with_reducible rfl
  rotate_left
  ·simp only [Act.put, dT15_n, i64_w, i32_w]
   rfl
  refine one_ (i := 18) (N := some 46) dT15_19 rfl rfl (one_of HT_.out (by kernel_rfl)) (by decide) (fun K hK => ?_)
  refine goes_ Try.func8 (by kernel_rfl) rfl #[] (by rfl) rfl rfl (by (try simp only [List.map_toArray, List.map_cons, List.map_nil]); first | done | rfl) ?_
  with_reducible refine (lives_ct _).mono ?_
  rintro e w46 ⟨rfl, hb⟩
  refine ⟨_, rfl, ?_⟩
  replace S := Aside0.mk (S.out.step hb)
  replace SB := Aside0.mk (SB.out.step hb)
  clear hb
  clear hHeld
  refine hK.out _ _ ⟨blk_cell (S.out.at_box 2 rfl) 0, blk_cell (S.out.at_box 2 rfl) 1, blk_cell (S.out.at_box 2 rfl) 2, blk_cell (S.out.at_box 2 rfl) 3⟩ (fun hHeld => ?_)
  clear hK K
  refine norm_ (a' := ?_) ?_ ?_
  rotate_left
  ·show Act.put _ (some 46) _ = _
   simp only [Act.put, dT15_n, i64_w, i32_w]
   rfl
  refine pure_ (i := 19) (N := some 47) (v := ?_) (a' := ?_) dT15_20 rfl rfl (any_of HT_.out (by kernel_rfl)) (fun _ _ _ h => h) (Or.inl ⟨by rfl, ?_⟩) ?_ ?_
  rotate_left
  ·intro w'
   go_simp
   with_reducible rfl
  rotate_left
  ·simp only [Act.put, dT15_n, i64_w, i32_w]
   rfl
  refine pure_ (i := 20) (N := some 6) (v := ?_) (a' := ?_) dT15_21 rfl rfl (any_of HT_.out (by kernel_rfl)) (fun _ _ _ h => h) (Or.inl ⟨by rfl, ?_⟩) ?_ ?_
  rotate_left
  ·intro w'
   go_simp
   with_reducible rfl
  rotate_left
  ·simp only [Act.put, dT15_n, i64_w, i32_w]
   rfl
  refine done_ (done_of HT_.out (by kernel_rfl)) ?_
  go_wp2
  go_ret
  exact ⟨rfl, S.out.below⟩
 ·have HFW := Aside0.mk (few_no hl)
  clear hl
  go_enter Try.func3, Try.ntmps3
  go_upto_region 1 with fail
  have S1 := Aside0.mk (S.out.alloc #[.int .i64 b.f0, .int .i64 b.f1, .int .i64 b.f2, .int .i64 b.f3] 24)
  refine wp_genS S1 (fun W1 S => ?_)
  clear S1
  go_wp2_with (first | (go_at_call 7; (with_reducible refine (mapmakerlaw34_few.calls A c l false _ (Kd.C_below HC.out S.out.below) HCC.out HFW.out).mono ?_); rintro e_ w7 ⟨rfl, hdn⟩; have hb := drawn_below hdn; replace S := Aside0.mk (S.out.step hb); clear hb hdn) | (go_at_call 8; (with_reducible refine (lives_ct _).mono ?_); rintro e_ w8 ⟨rfl, hb⟩; replace S := Aside0.mk (S.out.step hb); clear hb) | fail)
  go_ret
  exact ⟨rfl, S.out.below⟩
end Go.Proofs.Ytegkikdefckccaa.Hand
end
