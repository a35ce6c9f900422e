/-
  Plain facts on the reference's Tidy and TidyRing, and on the chapter's examples.
-/
import Derived.Test.YtbgabhdhheplgaaPl1
import Derived.Test.YtbgabhdhheplgaaPALLx13
namespace Go.Proofs.Ytbgabhdhheplgaa.Pl
open Go.RowKit Go.Proofs.Ytbgabhdhheplgaa.PALL Go.Proofs.YtbgabhdhheplgaaW.PrintWords Go.Proofs.YtbgabhdhheplgaaW.PrintLast Go.Proofs.YtbgabhdhheplgaaW.PrintMore

theorem ref_tidy_l0 (l : List S37) (hl : l.length ≤ 1099511627776) : ∀ (k i : Nat) (acc : List S37), mapmakerref12_Tidy.l0 k l acc (i : Int) = clip_Tidy.l0 k l acc l (l.length : Int) (i : Int) := by
  intro k
  induction k with
  | zero => intro i acc; rfl
  | succ k ih =>
    intro i acc
    rw [mapmakerref12_Tidy.l0, clip_Tidy.l0]
    by_cases h : i < l.length
    · have hw := w_suc h (by omega)
      have c1 : (0 : Int) ≤ (i : Int) := by omega
      have c2 : (i : Int) < (l.length : Int) := by omega
      simp only [c1, c2, if_true, hw, ih]
    · rw [if_neg (by omega), if_neg (by omega)]
theorem ref_tidy_ev (l : List S37) (hl : l.length ≤ 1099511627776) : Ev (fun k => mapmakerref12_Tidy.f k l) (tidy l) :=
  Ev.congr (fun k => (ref_tidy_l0 l hl k 0 []).trans rfl) (tidy_ev l hl)
theorem ref_ring_l0 : ∀ (k : Nat) (t : List S37), mapmakerref12_TidyRing.l0 k t = clip_TidyRing.l0 k t := by
  intro k
  induction k with
  | zero => intro t; rfl
  | succ k ih => intro t; rw [mapmakerref12_TidyRing.l0, clip_TidyRing.l0, ih]
theorem ref_tidyRing_ev (l : List S37) (hl : l.length ≤ 1099511627776) : Ev (fun k => mapmakerref12_TidyRing.f k l) (tidyRing (tidy l)) :=
  Ev.bind (ref_tidy_ev l hl) (Ev.congr (fun k => ref_ring_l0 k _) (ring_l0 _ _ (Nat.le_refl _) (by have := tidy_length l; omega)))
theorem lives_ev : Ev (fun k => mapmakerlaw12_lives.f k) true := Ev.of (fun k => mapmakerlaw12_lives.mono k) (k := 40) (by decide +kernel)
end Go.Proofs.Ytbgabhdhheplgaa.Pl
