/-
  The law QuantPoints in plain words: for every tile and every point there is a number of rounds after which the printed law gives true.
-/
import Derived.IntWalk
import Derived.Test.YtdkegdnfbpobnaaPPTSx2
import Derived.Test.YtdkegdnfbpobnaaPPTSx3
import Derived.Test.YtdkegdnfbpobnaaPPTSx4
import Derived.Test.YtdkegdnfbpobnaaPPTSx5
import Derived.Test.YtdkegdnfbpobnaaPPTSx6
import Derived.Test.YtdkegdnfbpobnaaPPTSx13
import Derived.Test.YtdkegdnfbpobnaaPPTSx14
import Derived.Test.YtdkegdnfbpobnaaPPTSxo
section
namespace Go.Proofs.Ytdkegdnfbpobnaa.Pl
open Go.RowKit Go.Proofs.Ytdkegdnfbpobnaa.PPTS Go.Proofs.YtdkegdnfbpobnaaW.PrintWords Go.Proofs.YtdkegdnfbpobnaaW.PrintLast Go.Proofs.YtdkegdnfbpobnaaW.PrintMore

theorem ev_rounds {α : Type} {g : Nat → Option α} {r : α} (h : Ev g r) : ∃ k, g k = some r := h.elim (fun K hK => ⟨K, hK K (Nat.le_refl _)⟩)
theorem wrap_id {x : Int} (h1 : -4611686018427387904 ≤ x) (h2 : x ≤ 4611686018427387904) : wrap64 x = x := by unfold wrap64; omega
/-- The tiles in a row, at a zoom. -/
def pw (z : Int) : Int := if z = 0 then 1 else if z = 1 then 2 else if z = 2 then 4 else if z = 3 then 8 else if z = 4 then 16 else if z = 5 then 32 else if z = 6 then 64 else 128
theorem zooms {z : Int} (h0 : 0 ≤ z) (h7 : z ≤ 7) : z = 0 ∨ z = 1 ∨ z = 2 ∨ z = 3 ∨ z = 4 ∨ z = 5 ∨ z = 6 ∨ z = 7 := by omega
theorem side_f (z : Int) (h0 : 0 ≤ z) (h7 : z ≤ 7) : tilegrid_side.f z = some (pw z) := by
  rcases zooms h0 h7 with rfl | rfl | rfl | rfl | rfl | rfl | rfl | rfl <;> decide +kernel
theorem power_ev (z : Int) (h0 : 0 ≤ z) (h7 : z ≤ 7) : Ev (fun k => mapmakerref28_power.f k z) (pw z) := by
  refine Ev.of (fun k => mapmakerref28_power.mono z k) (k := 10) ?_
  rcases zooms h0 h7 with rfl | rfl | rfl | rfl | rfl | rfl | rfl | rfl <;> decide +kernel
def goodT (z x y : Int) : Prop := (0 ≤ z ∧ z ≤ 7) ∧ (0 ≤ x ∧ x < pw z) ∧ (0 ≤ y ∧ y < pw z)
instance (z x y : Int) : Decidable (goodT z x y) := inferInstanceAs (Decidable ((0 ≤ z ∧ z ≤ 7) ∧ (0 ≤ x ∧ x < pw z) ∧ (0 ≤ y ∧ y < pw z)))
theorem check_f (z x y : Int) : tilegrid_Check.f z x y = some (if goodT z x y then 0 else 16) := by
  rw [tilegrid_Check.f]
  by_cases h1 : z < 0
  · rw [if_pos h1, if_neg (fun h => by have := h.1.1; omega)]
  rw [if_neg h1]
  by_cases h2 : z > 7
  · rw [if_pos h2, if_neg (fun h => by have := h.1.2; omega)]
  rw [if_neg h2]
  by_cases h3 : x < 0
  · rw [if_pos h3, if_neg (fun h => by have := h.2.1.1; omega)]
  rw [if_neg h3, side_f z (by omega) (by omega), Option.bind_some, Option.bind_some]
  by_cases h4 : x ≥ pw z
  · rw [if_pos h4, if_neg (fun h => by have := h.2.1.2; omega)]
  rw [if_neg h4]
  by_cases h5 : y < 0
  · rw [if_pos h5, if_neg (fun h => by have := h.2.2.1; omega)]
  rw [if_neg h5]
  by_cases h6 : y ≥ pw z
  · rw [if_pos h6, if_neg (fun h => by have := h.2.2.2; omega)]
  rw [if_neg h6, if_pos ⟨⟨by omega, by omega⟩, ⟨by omega, by omega⟩, ⟨by omega, by omega⟩⟩]
theorem ref_check_ev (z x y : Int) : Ev (fun k => mapmakerref28_Check.f k z x y) (if goodT z x y then 0 else 16) := by
  by_cases h1 : z < 0
  · rw [if_neg (show ¬ goodT z x y from fun h => by have := h.1.1; omega)]
    exact Ev.congr (fun k => by rw [mapmakerref28_Check.f, if_pos h1]) (Ev.now _)
  by_cases h2 : z > 7
  · rw [if_neg (show ¬ goodT z x y from fun h => by have := h.1.2; omega)]
    exact Ev.congr (fun k => by rw [mapmakerref28_Check.f, if_neg h1, if_pos h2]) (Ev.now _)
  by_cases h3 : x < 0
  · rw [if_neg (show ¬ goodT z x y from fun h => by have := h.2.1.1; omega)]
    exact Ev.congr (fun k => by rw [mapmakerref28_Check.f, if_neg h1, if_neg h2, if_pos h3]) (Ev.now _)
  by_cases h5 : y < 0
  · rw [if_neg (show ¬ goodT z x y from fun h => by have := h.2.2.1; omega)]
    exact Ev.congr (fun k => by rw [mapmakerref28_Check.f, if_neg h1, if_neg h2, if_neg h3, if_pos h5]) (Ev.now _)
  have hp := power_ev z (by omega) (by omega)
  refine Ev.congr (fun k => by rw [mapmakerref28_Check.f, if_neg h1, if_neg h2, if_neg h3, if_neg h5]) (Ev.bind hp ?_)
  by_cases h4 : x ≥ pw z
  · rw [if_neg (show ¬ goodT z x y from fun h => by have := h.2.1.2; omega)]
    exact Ev.congr (fun k => if_pos h4) (Ev.now _)
  refine Ev.congr (fun k => if_neg h4) (Ev.bind hp ?_)
  by_cases h6 : y ≥ pw z
  · rw [if_neg (show ¬ goodT z x y from fun h => by have := h.2.2.2; omega)]
    exact Ev.congr (fun k => if_pos h6) (Ev.now _)
  rw [if_pos (show goodT z x y from ⟨⟨by omega, by omega⟩, ⟨by omega, by omega⟩, ⟨by omega, by omega⟩⟩)]
  exact Ev.congr (fun k => if_neg h6) (Ev.now _)
/-- The side of a tile. -/
def sz (z : Int) : Int := if 0 ≤ z ∧ z ≤ 7 then 32768 / pw z else 0
theorem pw_pos (z : Int) : 0 < pw z := by
  unfold pw
  repeat' split
  all_goals omega
theorem sz_wrap (z : Int) (h0 : 0 ≤ z) (h7 : z ≤ 7) : wrap64 ((32768 : Int) / pw z) = sz z := by
  rcases zooms h0 h7 with rfl | rfl | rfl | rfl | rfl | rfl | rfl | rfl <;> decide +kernel
theorem size_f (z : Int) : tilegrid_Size.f z = some (sz z) := by
  rw [tilegrid_Size.f]
  by_cases h1 : z < 0
  · rw [if_pos h1, sz, if_neg (by omega)]
  rw [if_neg h1]
  by_cases h2 : z > 7
  · rw [if_pos h2, sz, if_neg (by omega)]
  have hp := pw_pos z
  rw [if_neg h2, side_f z (by omega) (by omega), Option.bind_some, if_neg (by omega), sz_wrap z (by omega) (by omega)]
theorem ref_size_ev (z : Int) : Ev (fun k => mapmakerref28_Size.f k z) (sz z) := by
  by_cases h1 : z < 0
  · rw [sz, if_neg (by omega)]
    exact Ev.congr (fun k => by rw [mapmakerref28_Size.f, if_pos h1]) (Ev.now _)
  by_cases h2 : z > 7
  · rw [sz, if_neg (by omega)]
    exact Ev.congr (fun k => by rw [mapmakerref28_Size.f, if_neg h1, if_pos h2]) (Ev.now _)
  have hp := pw_pos z
  refine Ev.congr (fun k => by rw [mapmakerref28_Size.f, if_neg h1, if_neg h2]) (Ev.bind (power_ev z (by omega) (by omega)) ?_)
  rw [← sz_wrap z (by omega) (by omega)]
  exact Ev.congr (fun k => if_neg (by omega)) (Ev.now _)
theorem sz_cases {z : Int} (h0 : 0 ≤ z) (h7 : z ≤ 7) : sz z = 32768 ∨ sz z = 16384 ∨ sz z = 8192 ∨ sz z = 4096 ∨ sz z = 2048 ∨ sz z = 1024 ∨ sz z = 512 ∨ sz z = 256 := by
  rcases zooms h0 h7 with rfl | rfl | rfl | rfl | rfl | rfl | rfl | rfl <;> decide +kernel
abbrev B5 := Int × Int × Int × Int × Int
def box (z x y : Int) : B5 := if goodT z x y then (wrap64 (x * sz z), wrap64 (y * sz z), wrap64 (wrap64 (x + 1) * sz z), wrap64 (wrap64 (y + 1) * sz z), 0) else (0, 0, 0, 0, 16)
theorem box_f (z x y : Int) : tilegrid_Box.f z x y = some (box z x y) := by
  rw [tilegrid_Box.f, check_f, Option.bind_some, box]
  by_cases h : goodT z x y
  · rw [if_pos h, if_pos h, if_pos rfl, size_f, Option.bind_some]
  · rw [if_neg h, if_neg h, if_neg (by decide)]
theorem ref_box_ev (z x y : Int) : Ev (fun k => mapmakerref28_Box.f k z x y) (box z x y) := by
  refine Ev.bind (ref_check_ev z x y) ?_
  rw [box]
  by_cases h : goodT z x y
  · rw [if_pos h, if_pos h]
    exact Ev.congr (fun k => if_pos rfl) (Ev.bind (ref_size_ev z) (Ev.now _))
  · rw [if_neg h, if_neg h]
    exact Ev.congr (fun k => if_neg (by decide)) (Ev.now _)
theorem box_ok {z x y : Int} (h : (box z x y).2.2.2.2 = 0) : goodT z x y := by
  rw [box] at h
  by_cases hg : goodT z x y
  · exact hg
  · rw [if_neg hg] at h
    exact absurd h (by decide)
def ptB (b : B5) (s p0 p1 : Int) : Int × Int × Bool :=
  if b.2.2.2.2 = 0 then (if p0 < b.1 then (0, 0, false) else (if p0 > b.2.2.1 then (0, 0, false) else (if p1 < b.2.1 then (0, 0, false) else (if p1 > b.2.2.2.1 then (0, 0, false) else
    (wrap64 (Int.tdiv (wrap64 ((wrap64 (p0 - b.1)) * 256)) s), wrap64 (Int.tdiv (wrap64 ((wrap64 (p1 - b.2.1)) * 256)) s), true))))) else (0, 0, false)
theorem point_f (z x y p0 p1 : Int) : quant_Point.f z x y p0 p1 = some (ptB (box z x y) (sz z) p0 p1) := by
  rw [quant_Point.f, box_f, Option.bind_some, ptB]
  by_cases h : (box z x y).2.2.2.2 = 0
  · have hg := box_ok h
    have hs := sz_cases hg.1.1 hg.1.2
    have hz : ¬ sz z = 0 := by omega
    rw [if_pos h, if_pos h, size_f, Option.bind_some, if_neg hz]
    repeat' split
    all_goals rfl
  · rw [if_neg h, if_neg h]
theorem ref_point_ev (z x y p0 p1 : Int) : Ev (fun k => mapmakerref29_Point.f k z x y p0 p1) (ptB (box z x y) (sz z) p0 p1) := by
  refine Ev.bind (ref_box_ev z x y) ?_
  rw [ptB]
  by_cases h : (box z x y).2.2.2.2 = 0
  · have hg := box_ok h
    have hs := sz_cases hg.1.1 hg.1.2
    rw [if_pos h]
    refine Ev.congr (fun k => if_pos h) ?_
    by_cases h1 : p0 < (box z x y).1
    · rw [if_pos h1]; exact Ev.congr (fun k => if_pos h1) (Ev.now _)
    rw [if_neg h1]
    refine Ev.congr (fun k => if_neg h1) ?_
    by_cases h2 : p0 > (box z x y).2.2.1
    · rw [if_pos h2]; exact Ev.congr (fun k => if_pos h2) (Ev.now _)
    rw [if_neg h2]
    refine Ev.congr (fun k => if_neg h2) ?_
    by_cases h3 : p1 < (box z x y).2.1
    · rw [if_pos h3]; exact Ev.congr (fun k => if_pos h3) (Ev.now _)
    rw [if_neg h3]
    refine Ev.congr (fun k => if_neg h3) ?_
    by_cases h4 : p1 > (box z x y).2.2.2.1
    · rw [if_pos h4]; exact Ev.congr (fun k => if_pos h4) (Ev.now _)
    rw [if_neg h4]
    exact Ev.congr (fun k => if_neg h4) (Ev.bind (ref_size_ev z) (Ev.congr (fun k => if_neg (by omega)) (Ev.now _)))
  · rw [if_neg h]
    exact Ev.congr (fun k => if_neg h) (Ev.now _)
def bkB (b : B5) (s q0 q1 : Int) : Int × Int × Bool :=
  if b.2.2.2.2 = 0 then (if q0 < 0 then (0, 0, false) else (if q0 > 256 then (0, 0, false) else (if q1 < 0 then (0, 0, false) else (if q1 > 256 then (0, 0, false) else
    (wrap64 (b.1 + (wrap64 (Int.tdiv (wrap64 (q0 * s)) 256))), wrap64 (b.2.1 + (wrap64 (Int.tdiv (wrap64 (q1 * s)) 256))), true))))) else (0, 0, false)
theorem back_f (z x y q0 q1 : Int) : quant_Back.f z x y q0 q1 = some (bkB (box z x y) (sz z) q0 q1) := by
  rw [quant_Back.f, box_f, Option.bind_some, bkB, size_f, Option.bind_some]
  repeat' split
  all_goals rfl
theorem ref_back_ev (z x y q0 q1 : Int) : Ev (fun k => mapmakerref29_Back.f k z x y q0 q1) (bkB (box z x y) (sz z) q0 q1) := by
  refine Ev.bind (ref_box_ev z x y) ?_
  rw [bkB]
  by_cases h : (box z x y).2.2.2.2 = 0
  · rw [if_pos h]
    refine Ev.congr (fun k => if_pos h) ?_
    by_cases h1 : q0 < 0
    · rw [if_pos h1]; exact Ev.congr (fun k => if_pos h1) (Ev.now _)
    rw [if_neg h1]
    refine Ev.congr (fun k => if_neg h1) ?_
    by_cases h2 : q0 > 256
    · rw [if_pos h2]; exact Ev.congr (fun k => if_pos h2) (Ev.now _)
    rw [if_neg h2]
    refine Ev.congr (fun k => if_neg h2) ?_
    by_cases h3 : q1 < 0
    · rw [if_pos h3]; exact Ev.congr (fun k => if_pos h3) (Ev.now _)
    rw [if_neg h3]
    refine Ev.congr (fun k => if_neg h3) ?_
    by_cases h4 : q1 > 256
    · rw [if_pos h4]; exact Ev.congr (fun k => if_pos h4) (Ev.now _)
    rw [if_neg h4]
    exact Ev.congr (fun k => if_neg h4) (Ev.bind (ref_size_ev z) (Ev.now _))
  · rw [if_neg h]
    exact Ev.congr (fun k => if_neg h) (Ev.now _)
theorem lives_ev : Ev (fun k => mapmakerlaw29_lives.f k) true := Ev.of (fun k => mapmakerlaw29_lives.mono k) (k := 40) (by decide +kernel)
end Go.Proofs.Ytdkegdnfbpobnaa.Pl
end
section
namespace Go.Proofs.Ytdkegdnfbpobnaa.Pure
open Go.RowKit Go.Proofs.Ytdkegdnfbpobnaa.PPTS Go.Proofs.YtdkegdnfbpobnaaW.PrintWords Go.Proofs.YtdkegdnfbpobnaaW.PrintLast Go.Proofs.YtdkegdnfbpobnaaW.PrintMore Go.Proofs.YtdkegdnfbpobnaaW.Open

theorem QuantPoints : mapmakerlaw29_QuantPoints.Pure := by
  intro t p _ _
  refine Pl.ev_rounds ?_
  unfold mapmakerlaw29_QuantPoints.f
  simp only [Pl.point_f, Pl.back_f, Option.bind_some]
  refine Ev.bind (Pl.ref_point_ev t.f0 t.f1 t.f2 p.f0 p.f1) (Ev.bind (Pl.ref_back_ev t.f0 t.f1 t.f2 p.f0 p.f1) ?_)
  simp only [beq_self_eq_true, Bool.and_self, if_true]
  exact Ev.bind Pl.lives_ev (Ev.now _)

end Go.Proofs.Ytdkegdnfbpobnaa.Pure
end
