import Derived.Test.YtopapknfpoandaaDoorPALLx5
import Derived.Test.YtopapknfpoandaaDoorL1
namespace Go.Proofs.YtopapknfpoandaaDoor.Hand
open Go.Proofs.YtopapknfpoandaaDoorW Go.RowKit Go.Proofs.YtopapknfpoandaaDoorW.PrintWords Go.Proofs.YtopapknfpoandaaDoorW.PrintLast Go.Proofs.YtopapknfpoandaaDoorW.PrintMore Go.Proofs.YtopapknfpoandaaDoorW.SepW Go.Proofs.YtopapknfpoandaaDoor.PALL
set_option linter.unusedVariables false
set_option linter.unusedSimpArgs false
/-! # The reference's Check and Encode -/
def bad2 (m : List S44) (r : Int) : Int := if ∃ p ∈ m, badP p then 2 else r
theorem bad2_pos {m : List S44} {r : Int} (h : ∃ p ∈ m, badP p) : bad2 m r = 2 := if_pos h
theorem bad2_neg {m : List S44} {r : Int} (h : ¬ ∃ p ∈ m, badP p) : bad2 m r = r := if_neg h
theorem rck_l1 {a : Int} {l : List (List S44)} (i : Nat) (h1 : i < l.length) (hi : i ≤ 140737488351232) (hrb : l[i].length ≤ 140737488351232) (k0 : Nat) (r0 : Int)
    (H : mapmakerref30_Check.l0 k0 ((i + 1 : Nat) : Int) a l = some r0) : ∀ n j, n + j = l[i].length → mapmakerref30_Check.l1 (n + 1 + k0) (i : Int) (l[i].length : Int) (j : Int) a l = some (bad2 (l[i].drop j) r0)
  | 0, j, hn => by
    have hj : j = l[i].length := by omega
    rw [show 0 + 1 + k0 = k0 + 1 by omega, mapmakerref30_Check.l1, if_neg (by omega), wnext i (by omega), H, hj, List.drop_length, bad2_neg (fun ⟨p, hp, _⟩ => by cases hp)]
  | n + 1, j, hn => by
    have g1 : j < l[i].length := by omega
    have ih := rck_l1 i h1 hi hrb k0 r0 H n (j + 1) (by omega)
    rw [show n + 1 + 1 + k0 = (n + 1 + k0) + 1 by omega, mapmakerref30_Check.l1, if_pos (by omega), if_pos (by omega), if_pos (by omega), if_pos (by omega), rdL_at l i h1, if_pos (by omega), rdT_at _ j g1, wnext j (by omega), ih]
    have hd : l[i].drop j = l[i][j] :: l[i].drop (j + 1) := List.drop_eq_getElem_cons g1
    have key : (∃ p ∈ l[i].drop j, badP p) ↔ badP l[i][j] ∨ ∃ p ∈ l[i].drop (j + 1), badP p := by
      rw [hd]
      constructor
      · rintro ⟨p, hp, hb⟩
        rcases List.mem_cons.1 hp with rfl | hp
        · exact .inl hb
        · exact .inr ⟨p, hp, hb⟩
      · rintro (hb | ⟨p, hp, hb⟩)
        · exact ⟨_, List.mem_cons_self .., hb⟩
        · exact ⟨p, List.mem_cons_of_mem _ hp, hb⟩
    by_cases hb : badP l[i][j]
    · rw [bad2_pos (key.2 (.inl hb))]
      unfold badP at hb
      split
      · rfl
      · split
        · rfl
        · split
          · rfl
          · split
            · rfl
            · omega
    · have hb' := hb
      unfold badP at hb'
      rw [if_neg (by omega), if_neg (by omega), if_neg (by omega), if_neg (by omega)]
      by_cases he : ∃ p ∈ l[i].drop (j + 1), badP p
      · rw [bad2_pos he, bad2_pos (key.2 (.inr he))]
      · rw [bad2_neg he, bad2_neg (fun h => (key.1 h).elim hb he)]
theorem rck_l0 {a : Int} (ha : a = 1 ∨ a = 2 ∨ a = 3) {l : List (List S44)} (hf : Fit l) : ∀ n i, n + i = l.length → ∃ k, mapmakerref30_Check.l0 k (i : Int) a l = some (partsS a (l.drop i))
  | 0, i, hn => by
    have hi : i = l.length := by omega
    refine ⟨1, ?_⟩
    rw [mapmakerref30_Check.l0, if_neg (by omega), hi, List.drop_length]
    rfl
  | n + 1, i, hn => by
    have h1 : i < l.length := by omega
    obtain ⟨k0, hk0⟩ := rck_l0 ha hf n (i + 1) (by omega)
    have hf1 := hf.1
    have hrb := hf.2 l[i] (List.getElem_mem h1)
    have hl1 := rck_l1 i h1 (by omega) hrb k0 _ hk0 l[i].length 0 (by omega)
    rw [show ((0 : Nat) : Int) = 0 from rfl, List.drop_zero] at hl1
    refine ⟨l[i].length + 1 + k0 + 1 + 1, ?_⟩
    have hd : l.drop i = l[i] :: l.drop (i + 1) := List.drop_eq_getElem_cons h1
    rw [mapmakerref30_Check.l0, if_pos (by omega), if_pos (by omega), rdL_at l i h1, hd, partsS]
    have fin : ∀ b : Bool, (b = true ↔ ((l[i].length : Int) < a ∨ (a = 1 ∧ 1 < l[i].length))) → mapmakerref30_Check.j2 (l[i].length + 1 + k0 + 1) (i : Int) (l[i].length : Int) b a l = some (if partS a l[i] = 0 then partsS a (l.drop (i + 1)) else partS a l[i]) := by
      intro b hb
      rw [mapmakerref30_Check.j2]
      unfold partS
      by_cases hc : (l[i].length : Int) < a ∨ (a = 1 ∧ 1 < l[i].length)
      · rw [if_pos (hb.2 hc), if_pos hc]
        rfl
      · rw [if_neg (fun h => hc (hb.1 h)), if_neg hc]
        by_cases h8 : 8000 < l[i].length
        · rw [if_pos (by omega), if_pos h8]
          rfl
        · rw [if_neg (by omega), if_neg h8, hl1]
          by_cases he : ∃ p ∈ l[i], badP p
          · rw [bad2_pos he, if_pos he]
            rfl
          · rw [bad2_neg he, if_neg he]
            rfl
    have ht : ∀ {p : Prop}, p → ((true = true) ↔ p) := fun h => ⟨fun _ => h, fun _ => rfl⟩
    have hfa : ∀ {p : Prop}, ¬ p → ((false = true) ↔ p) := fun h => ⟨fun e => Bool.noConfusion e, fun e => absurd e h⟩
    rcases ha with rfl | rfl | rfl
    · rw [if_pos rfl]
      by_cases h2 : (l[i].length : Int) = 1
      · rw [if_pos h2, if_neg (by omega), if_neg (by omega)]
        exact fin false (hfa (by omega))
      · rw [if_neg h2]
        exact fin true (ht (by omega))
    · rw [if_neg (by omega), if_pos rfl]
      by_cases h2 : (l[i].length : Int) < 2
      · rw [if_pos h2]
        exact fin true (ht (by omega))
      · rw [if_neg h2, if_neg (by omega)]
        exact fin false (hfa (by omega))
    · rw [if_neg (by omega), if_neg (by omega), if_pos rfl]
      by_cases h2 : (l[i].length : Int) < 3
      · exact fin _ ⟨fun _ => by omega, fun _ => decide_eq_true h2⟩
      · exact fin _ ⟨fun h => absurd (of_decide_eq_true h) h2, fun h => absurd h (by omega)⟩
theorem rck_f (a : Int) (l : List (List S44)) (hf : Fit l) : ∃ k, mapmakerref30_Check.f k a l = some (checkS a l) := by
  unfold mapmakerref30_Check.f checkS
  by_cases h : a < 1 ∨ 3 < a
  · refine ⟨1, ?_⟩
    rw [if_pos h]
    by_cases h1 : a < 1
    · rw [if_pos h1, mapmakerref30_Check.j0, if_pos rfl]
    · rw [if_neg h1, mapmakerref30_Check.j0, if_pos (decide_eq_true (by omega))]
  · rw [if_neg h]
    obtain ⟨k, hk⟩ := rck_l0 (a := a) (by omega) hf l.length 0 (by omega)
    refine ⟨k + 1, ?_⟩
    rw [if_neg (by omega), mapmakerref30_Check.j0, if_neg (fun h' => absurd (of_decide_eq_true h') (by omega))]
    by_cases he : l = []
    · rw [if_pos he, he]
      rfl
    · have : l.length ≠ 0 := fun h => he (List.length_eq_zero_iff.1 h)
      rw [if_neg (by omega), if_neg he]
      exact hk
theorem rcheck_s (kind : Int) (ps : List (List S44)) (v : Value) (w : World) (h : Seen kL w v ps) (hf : Fit ps) :
    Calls Tryd.prog 12 #[.agg #[.int .i64 kind, v]] w fun e w' => e = .returned (.int .i64 (checkS kind ps)) ∧ Below w.heap.size w w' := by
  obtain ⟨A, c, rfl, h2, h3⟩ := h
  obtain ⟨k, hk⟩ := rck_f kind ps hf
  exact mapmakerref30_Check.calls k kind A c ps _ w h3 h2 hk
end Go.Proofs.YtopapknfpoandaaDoor.Hand
