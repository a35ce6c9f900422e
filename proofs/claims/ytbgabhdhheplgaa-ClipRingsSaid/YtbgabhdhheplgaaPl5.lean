/-
  The reference's ring is the program's.
-/
import Derived.Test.YtbgabhdhheplgaaPl4
import Derived.Test.YtbgabhdhheplgaaPl2
import Derived.Test.YtbgabhdhheplgaaPALLx18
namespace Go.Proofs.Ytbgabhdhheplgaa.Pl
open Go.RowKit Go.Proofs.Ytbgabhdhheplgaa.PALL Go.Proofs.YtbgabhdhheplgaaW.PrintWords Go.Proofs.YtbgabhdhheplgaaW.PrintLast Go.Proofs.YtbgabhdhheplgaaW.PrintMore

theorem ref_side_go (b0 b1 b2 b3 : Int) (s : Nat) (hs4 : s < 4) (l : List S37) (hl : l.length ≤ 1099511627776) (r : List S37) :
    ∀ (n i : Nat) (acc : List S37), i + n = l.length → acc.length + 2 * n ≤ 8796093022200 →
      Ev (fun k => mapmakerref12_Ring.l0 k (acc ++ sideN (hs b0 b1 b2 b3 s) l n i) ((s + 1 : Nat) : Int) b0 b1 b2 b3) r →
      Ev (fun k => mapmakerref12_Ring.l1 k l (s : Int) acc (i : Int) b0 b1 b2 b3) r := by
  intro n
  induction n with
  | zero =>
    intro i acc hi ha hr
    rw [sideN, List.append_nil] at hr
    refine Ev.step (fun k => ?_) hr
    rw [mapmakerref12_Ring.l1, if_neg (by omega), w_suc hs4 (by omega)]
  | succ n ih =>
    intro i acc hi ha hr
    have hil : i < l.length := by omega
    have hm : (i + 1) % l.length < l.length := Nat.mod_lt _ (by omega)
    have hst := step_length (hs b0 b1 b2 b3 s) (rd_T37 l (i : Int)) (nxt l i)
    have := ih (i + 1) (acc ++ step (hs b0 b1 b2 b3 s) (rd_T37 l (i : Int)) (nxt l i)) (by omega) (by simp; omega) (by rw [List.append_assoc]; exact hr)
    obtain ⟨K, hK⟩ := this
    refine ⟨K + 6, fun k hk => ?_⟩
    obtain ⟨m, rfl⟩ : ∃ m, k = m + 3 + 1 + 1 := ⟨k - 5, by omega⟩
    have h2 := hK (m + 3) (by omega)
    show mapmakerref12_Ring.l1 (m + 3 + 1 + 1) l (s : Int) acc (i : Int) b0 b1 b2 b3 = _
    rw [mapmakerref12_Ring.l1, area_idx l i hil hl, if_pos (by omega), if_pos (by omega), if_neg (by omega), if_pos (by omega), if_pos (by omega), ref_in_f _ _ _ _ s hs4, Option.bind_some, if_pos (by omega : acc.length < 8796093022208)]
    rw [mapmakerref12_Ring.j3, mapmakerref12_Ring.j3]
    have e2 : rd_T37 l (((i + 1) % l.length : Nat) : Int) = nxt l i := rfl
    rw [e2, ref_in_f _ _ _ _ s hs4, ref_in_f _ _ _ _ s hs4, Option.bind_some, Option.bind_some, Option.bind_some, Option.bind_some, ref_bord_f _ _ _ _ _ s hs4, Option.bind_some, Option.bind_some, w_suc hil (by omega)]
    rw [step] at h2
    rw [← h2]
    have a1 : (acc ++ [(⟨(rd_T37 l (i : Int)).f0, (rd_T37 l (i : Int)).f1⟩ : S37)]).length < 8796093022208 := by simp; omega
    have a2 : acc.length < 8796093022208 := by omega
    rw [if_pos a1, if_pos a2]
    cases has (hs b0 b1 b2 b3 s) (rd_T37 l (i : Int)) <;> cases has (hs b0 b1 b2 b3 s) (nxt l i) <;> simp only [if_true, if_false, List.nil_append, List.append_nil, List.append_assoc, Bool.false_eq_true, reduceCtorEq, bne_self_eq_false, Bool.bne_true, Bool.bne_false, Bool.not_false] <;> rfl
theorem ref_rest_ev (b0 b1 b2 b3 : Int) : ∀ (n : Nat) (l : List S37), n ≤ 4 → l.length * 2 ^ n ≤ 1099511627776 → Ev (fun k => mapmakerref12_Ring.l0 k l ((4 - n : Nat) : Int) b0 b1 b2 b3) (rest b0 b1 b2 b3 n l)
  | 0, l, _, hl => by
    have hl : l.length ≤ 1099511627776 := by omega
    have h1 := tidy_length l
    have h2 := tidyRing_length (tidy l)
    refine Ev.step (f := fun k => (mapmakerref12_TidyRing.f k l).bind fun t295 => ((mapmakerref12_Area2.f k t295).bind fun t298 => (if t298 = 0 then (some ([] : List (S37))) else (some t295)))) (fun k => ?_) ?_
    · rw [mapmakerref12_Ring.l0, if_neg (by omega)]
    · refine Ev.bind (ref_tidyRing_ev l hl) (Ev.bind (ref_area_ev _ (by omega)) ?_)
      rw [rest, fin]
      by_cases h : area (tidyRing (tidy l)) = 0
      · simp only [if_pos h]; exact Ev.now _
      · simp only [if_neg h]; exact Ev.now _
  | n + 1, l, hn, hl => by
    have hp : 1 ≤ 2 ^ n := Nat.one_le_two_pow
    have hs' := side_length (hs b0 b1 b2 b3 (3 - n)) l
    have hl1 : l.length * 2 ^ n * 2 ≤ 1099511627776 := by rw [Nat.pow_succ, ← Nat.mul_assoc] at hl; exact hl
    have hl2 : l.length * 1 ≤ l.length * 2 ^ n := Nat.mul_le_mul_left _ hp
    have hl3 : (side (hs b0 b1 b2 b3 (3 - n)) l).length * 2 ^ n ≤ 2 * l.length * 2 ^ n := Nat.mul_le_mul_right _ hs'
    rw [Nat.mul_assoc] at hl3
    have ih := ref_rest_ev b0 b1 b2 b3 n (side (hs b0 b1 b2 b3 (3 - n)) l) (by omega) (by omega)
    rw [show 4 - n = (3 - n) + 1 by omega] at ih
    refine Ev.step (f := fun k => mapmakerref12_Ring.l1 k l ((3 - n : Nat) : Int) [] ((0 : Nat) : Int) b0 b1 b2 b3) (fun k => ?_) (ref_side_go b0 b1 b2 b3 (3 - n) (by omega) l (by omega) _ l.length 0 [] (by omega) (by simp; omega) ih)
    rw [show 4 - (n + 1) = 3 - n by omega, mapmakerref12_Ring.l0, if_pos (by omega)]
    rfl
/-- The reference's Ring gives the same ring. -/
theorem ref_ring_ev (l : List S37) (b0 b1 b2 b3 : Int) (hl : l.length ≤ 68719476736) : Ev (fun k => mapmakerref12_Ring.f k l b0 b1 b2 b3) (ring l b0 b1 b2 b3) := by
  rw [ring, perm]
  have hn : Ev (fun k => mapmakerref12_Ring.j0 k l true b0 b1 b2 b3) [] := Ev.step (f := fun _ => some []) (fun k => by rw [mapmakerref12_Ring.j0, if_pos rfl]) (Ev.now _)
  by_cases hg : goodB b0 b1 b2 b3 = true
  · refine Ev.congr (f := fun k => (mapmakerref08_All.f k l).bind fun t279 => (mapmakerref12_Ring.j0 k l (!t279) b0 b1 b2 b3)) (fun k => by rw [mapmakerref12_Ring.f, ref_check_f, Option.bind_some, if_pos hg, if_pos rfl]) (Ev.bind (ref_all_ev l (by omega)) ?_)
    by_cases ha : l.all validP = true
    · rw [if_pos (by rw [ha, hg]; rfl), ha]
      refine Ev.step (fun k => ?_) (ref_rest_ev b0 b1 b2 b3 4 l (by omega) (by omega))
      rw [mapmakerref12_Ring.j0, if_neg (by simp)]
      rfl
    · have ha' : l.all validP = false := by simpa using ha
      rw [if_neg (by rw [ha']; simp), ha']
      exact hn
  · rw [if_neg (by simp [hg])]
    exact Ev.congr (fun k => by rw [mapmakerref12_Ring.f, ref_check_f, Option.bind_some, if_neg hg, if_neg (by decide)]) hn
end Go.Proofs.Ytbgabhdhheplgaa.Pl
