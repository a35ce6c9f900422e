/-
  The law QuantInverts in plain words: for every tile and every point there is a number of rounds after which the printed law gives true.
-/
import Derived.IntWalk
import Derived.Test.YtdkegdnfbpobnaaPINVx2
import Derived.Test.YtdkegdnfbpobnaaPINVx3
import Derived.Test.YtdkegdnfbpobnaaPINVx4
import Derived.Test.YtdkegdnfbpobnaaPINVx5
import Derived.Test.YtdkegdnfbpobnaaPINVx11
import Derived.Test.YtdkegdnfbpobnaaPINVx12
import Derived.Test.YtdkegdnfbpobnaaPINVxo
section
namespace Go.Proofs.Ytdkegdnfbpobnaa.Pl
open Go.RowKit Go.Proofs.Ytdkegdnfbpobnaa.PINV Go.Proofs.YtdkegdnfbpobnaaW.PrintWords Go.Proofs.YtdkegdnfbpobnaaW.PrintLast Go.Proofs.YtdkegdnfbpobnaaW.PrintMore

theorem ev_rounds {α : Type} {g : Nat → Option α} {r : α} (h : Ev g r) : ∃ k, g k = some r := h.elim (fun K hK => ⟨K, hK K (Nat.le_refl _)⟩)
theorem wrap_id {x : Int} (h1 : -4611686018427387904 ≤ x) (h2 : x ≤ 4611686018427387904) : wrap64 x = x := by unfold wrap64; omega
/-- The tiles in a row, at a zoom. -/
def pw (z : Int) : Int := if z = 0 then 1 else if z = 1 then 2 else if z = 2 then 4 else if z = 3 then 8 else if z = 4 then 16 else if z = 5 then 32 else if z = 6 then 64 else 128
theorem zooms {z : Int} (h0 : 0 ≤ z) (h7 : z ≤ 7) : z = 0 ∨ z = 1 ∨ z = 2 ∨ z = 3 ∨ z = 4 ∨ z = 5 ∨ z = 6 ∨ z = 7 := by omega
theorem side_f (z : Int) (h0 : 0 ≤ z) (h7 : z ≤ 7) : tilegrid_side.f z = some (pw z) := by
  rcases zooms h0 h7 with rfl | rfl | rfl | rfl | rfl | rfl | rfl | rfl <;> decide +kernel
def goodT (z x y : Int) : Prop := (0 ≤ z ∧ z ≤ 7) ∧ (0 ≤ x ∧ x < pw z) ∧ (0 ≤ y ∧ y < pw z)
instance (z x y : Int) : Decidable (goodT z x y) := inferInstanceAs (Decidable ((0 ≤ z ∧ z ≤ 7) ∧ (0 ≤ x ∧ x < pw z) ∧ (0 ≤ y ∧ y < pw z)))
theorem check_f (z x y : Int) : tilegrid_Check.f z x y = some (if goodT z x y then 0 else 16) := by
  rw [tilegrid_Check.f]
  by_cases h1 : z < 0
  · rw [if_pos h1, if_neg (fun h => by have := h.1.1; omega)]
  rw [if_neg h1]
  by_cases h2 : z > 7
  · rw [if_pos h2, if_neg (fun h => by have := h.1.2; omega)]
  rw [if_neg h2]
  by_cases h3 : x < 0
  · rw [if_pos h3, if_neg (fun h => by have := h.2.1.1; omega)]
  rw [if_neg h3, side_f z (by omega) (by omega), Option.bind_some, Option.bind_some]
  by_cases h4 : x ≥ pw z
  · rw [if_pos h4, if_neg (fun h => by have := h.2.1.2; omega)]
  rw [if_neg h4]
  by_cases h5 : y < 0
  · rw [if_pos h5, if_neg (fun h => by have := h.2.2.1; omega)]
  rw [if_neg h5]
  by_cases h6 : y ≥ pw z
  · rw [if_pos h6, if_neg (fun h => by have := h.2.2.2; omega)]
  rw [if_neg h6, if_pos ⟨⟨by omega, by omega⟩, ⟨by omega, by omega⟩, ⟨by omega, by omega⟩⟩]
/-- The side of a tile. -/
def sz (z : Int) : Int := if 0 ≤ z ∧ z ≤ 7 then 32768 / pw z else 0
theorem pw_pos (z : Int) : 0 < pw z := by
  unfold pw
  repeat' split
  all_goals omega
theorem sz_wrap (z : Int) (h0 : 0 ≤ z) (h7 : z ≤ 7) : wrap64 ((32768 : Int) / pw z) = sz z := by
  rcases zooms h0 h7 with rfl | rfl | rfl | rfl | rfl | rfl | rfl | rfl <;> decide +kernel
theorem size_f (z : Int) : tilegrid_Size.f z = some (sz z) := by
  rw [tilegrid_Size.f]
  by_cases h1 : z < 0
  · rw [if_pos h1, sz, if_neg (by omega)]
  rw [if_neg h1]
  by_cases h2 : z > 7
  · rw [if_pos h2, sz, if_neg (by omega)]
  have hp := pw_pos z
  rw [if_neg h2, side_f z (by omega) (by omega), Option.bind_some, if_neg (by omega), sz_wrap z (by omega) (by omega)]
theorem sz_cases {z : Int} (h0 : 0 ≤ z) (h7 : z ≤ 7) : sz z = 32768 ∨ sz z = 16384 ∨ sz z = 8192 ∨ sz z = 4096 ∨ sz z = 2048 ∨ sz z = 1024 ∨ sz z = 512 ∨ sz z = 256 := by
  rcases zooms h0 h7 with rfl | rfl | rfl | rfl | rfl | rfl | rfl | rfl <;> decide +kernel
abbrev B5 := Int × Int × Int × Int × Int
def box (z x y : Int) : B5 := if goodT z x y then (wrap64 (x * sz z), wrap64 (y * sz z), wrap64 (wrap64 (x + 1) * sz z), wrap64 (wrap64 (y + 1) * sz z), 0) else (0, 0, 0, 0, 16)
theorem box_f (z x y : Int) : tilegrid_Box.f z x y = some (box z x y) := by
  rw [tilegrid_Box.f, check_f, Option.bind_some, box]
  by_cases h : goodT z x y
  · rw [if_pos h, if_pos h, if_pos rfl, size_f, Option.bind_some]
  · rw [if_neg h, if_neg h, if_neg (by decide)]
theorem box_ok {z x y : Int} (h : (box z x y).2.2.2.2 = 0) : goodT z x y := by
  rw [box] at h
  by_cases hg : goodT z x y
  · exact hg
  · rw [if_neg hg] at h
    exact absurd h (by decide)
def ptB (b : B5) (s p0 p1 : Int) : Int × Int × Bool :=
  if b.2.2.2.2 = 0 then (if p0 < b.1 then (0, 0, false) else (if p0 > b.2.2.1 then (0, 0, false) else (if p1 < b.2.1 then (0, 0, false) else (if p1 > b.2.2.2.1 then (0, 0, false) else
    (wrap64 (Int.tdiv (wrap64 ((wrap64 (p0 - b.1)) * 256)) s), wrap64 (Int.tdiv (wrap64 ((wrap64 (p1 - b.2.1)) * 256)) s), true))))) else (0, 0, false)
theorem point_f (z x y p0 p1 : Int) : quant_Point.f z x y p0 p1 = some (ptB (box z x y) (sz z) p0 p1) := by
  rw [quant_Point.f, box_f, Option.bind_some, ptB]
  by_cases h : (box z x y).2.2.2.2 = 0
  · have hg := box_ok h
    have hs := sz_cases hg.1.1 hg.1.2
    have hz : ¬ sz z = 0 := by omega
    rw [if_pos h, if_pos h, size_f, Option.bind_some, if_neg hz]
    repeat' split
    all_goals rfl
  · rw [if_neg h, if_neg h]
def bkB (b : B5) (s q0 q1 : Int) : Int × Int × Bool :=
  if b.2.2.2.2 = 0 then (if q0 < 0 then (0, 0, false) else (if q0 > 256 then (0, 0, false) else (if q1 < 0 then (0, 0, false) else (if q1 > 256 then (0, 0, false) else
    (wrap64 (b.1 + (wrap64 (Int.tdiv (wrap64 (q0 * s)) 256))), wrap64 (b.2.1 + (wrap64 (Int.tdiv (wrap64 (q1 * s)) 256))), true))))) else (0, 0, false)
theorem back_f (z x y q0 q1 : Int) : quant_Back.f z x y q0 q1 = some (bkB (box z x y) (sz z) q0 q1) := by
  rw [quant_Back.f, box_f, Option.bind_some, bkB, size_f, Option.bind_some]
  repeat' split
  all_goals rfl
theorem lives_ev : Ev (fun k => mapmakerlaw29_lives.f k) true := Ev.of (fun k => mapmakerlaw29_lives.mono k) (k := 40) (by decide +kernel)
theorem inv_core (s x q : Int) (hs : s = 32768 ∨ s = 16384 ∨ s = 8192 ∨ s = 4096 ∨ s = 2048 ∨ s = 1024 ∨ s = 512 ∨ s = 256) (hx : 0 ≤ x) (hxs : (x + 1) * s ≤ 32768) (h0 : 0 ≤ q) (h1 : q ≤ 256) :
    let P := wrap64 (wrap64 (x * s) + wrap64 (Int.tdiv (wrap64 (q * s)) 256))
    ¬ P < wrap64 (x * s) ∧ ¬ P > wrap64 (wrap64 (x + 1) * s) ∧ wrap64 (Int.tdiv (wrap64 (wrap64 (P - wrap64 (x * s)) * 256)) s) = q ∧ (s = 256 → P = wrap64 (wrap64 (256 * x) + q)) := by
  have b : 0 ≤ x * s ∧ x * s ≤ 32768 ∧ x ≤ 32768 ∧ 0 ≤ q * s ∧ q * s ≤ 8388608 ∧ (q * s / 256 * 256) / s = q ∧ (x + 1) * s = x * s + s ∧ q * s / 256 ≤ s ∧ 0 ≤ q * s / 256 ∧ 0 < s ∧ s ≤ 32768 ∧ (s = 256 → x * s = 256 * x ∧ q * s / 256 = q) := by
    rcases hs with rfl | rfl | rfl | rfl | rfl | rfl | rfl | rfl <;> omega
  obtain ⟨b1, b2, b3, b4, b5, b6, b7, b8, b9, b10, b11, b12⟩ := b
  rw [wrap_id (x := x * s) (by omega) (by omega), wrap_id (x := q * s) (by omega) (by omega), Int.tdiv_eq_ediv_of_nonneg b4]
  generalize q * s / 256 = t at b6 b8 b9 b12 ⊢
  rw [wrap_id (x := t) (by omega) (by omega), wrap_id (x := x * s + t) (by omega) (by omega), wrap_id (x := x + 1) (by omega) (by omega), wrap_id (x := (x + 1) * s) (by omega) (by omega)]
  intro P
  have hP : P = x * s + t := rfl
  have hd : P - x * s = t := by omega
  refine ⟨by omega, by omega, ?_, fun e => ?_⟩
  · rw [hd, wrap_id (x := t) (by omega) (by omega), wrap_id (x := t * 256) (by omega) (by omega), Int.tdiv_eq_ediv_of_nonneg (by omega), b6, wrap_id (by omega) (by omega)]
  · obtain ⟨e1, e2⟩ := b12 e
    rw [wrap_id (x := 256 * x) (by omega) (by omega), wrap_id (x := 256 * x + q) (by omega) (by omega)]
    omega
theorem good_fits {z x : Int} (h0 : 0 ≤ z) (h7 : z ≤ 7) (hx : 0 ≤ x) (hp : x < pw z) : (x + 1) * sz z ≤ 32768 := by
  rcases zooms h0 h7 with rfl | rfl | rfl | rfl | rfl | rfl | rfl | rfl <;> simp [pw, sz] at hp ⊢ <;> omega
theorem sz_7 : sz 7 = 256 := by decide +kernel
theorem inverts {z x y q0 q1 : Int} (h : (bkB (box z x y) (sz z) q0 q1).2.2 = true) :
    ptB (box z x y) (sz z) (bkB (box z x y) (sz z) q0 q1).1 (bkB (box z x y) (sz z) q0 q1).2.1 = (q0, q1, true) ∧
      (z = 7 → (bkB (box z x y) (sz z) q0 q1).1 = wrap64 (wrap64 (256 * x) + q0) ∧ (bkB (box z x y) (sz z) q0 q1).2.1 = wrap64 (wrap64 (256 * y) + q1)) := by
  rw [bkB] at h ⊢
  by_cases he : (box z x y).2.2.2.2 = 0
  · rw [if_pos he] at h ⊢
    have hg := box_ok he
    by_cases c1 : q0 < 0
    · rw [if_pos c1] at h; exact absurd h (by decide)
    rw [if_neg c1] at h ⊢
    by_cases c2 : q0 > 256
    · rw [if_pos c2] at h; exact absurd h (by decide)
    rw [if_neg c2] at h ⊢
    by_cases c3 : q1 < 0
    · rw [if_pos c3] at h; exact absurd h (by decide)
    rw [if_neg c3] at h ⊢
    by_cases c4 : q1 > 256
    · rw [if_pos c4] at h; exact absurd h (by decide)
    rw [if_neg c4] at h ⊢
    have hs := sz_cases hg.1.1 hg.1.2
    obtain ⟨i1, i2, i3, i4⟩ := inv_core (sz z) x q0 hs hg.2.1.1 (good_fits hg.1.1 hg.1.2 hg.2.1.1 hg.2.1.2) (by omega) (by omega)
    obtain ⟨j1, j2, j3, j4⟩ := inv_core (sz z) y q1 hs hg.2.2.1 (good_fits hg.1.1 hg.1.2 hg.2.2.1 hg.2.2.2) (by omega) (by omega)
    have hb : box z x y = (wrap64 (x * sz z), wrap64 (y * sz z), wrap64 (wrap64 (x + 1) * sz z), wrap64 (wrap64 (y + 1) * sz z), 0) := by rw [box, if_pos hg]
    rw [hb]
    refine ⟨?_, fun hz => ⟨i4 (by rw [hz]; exact sz_7), j4 (by rw [hz]; exact sz_7)⟩⟩
    rw [ptB, if_pos rfl, if_neg i1, if_neg i2, if_neg j1, if_neg j2, i3, j3]
  · rw [if_neg he] at h
    exact absurd h (by decide)
end Go.Proofs.Ytdkegdnfbpobnaa.Pl
end
section
namespace Go.Proofs.Ytdkegdnfbpobnaa.Pure
open Go.RowKit Go.Proofs.Ytdkegdnfbpobnaa.PINV Go.Proofs.YtdkegdnfbpobnaaW.PrintWords Go.Proofs.YtdkegdnfbpobnaaW.PrintLast Go.Proofs.YtdkegdnfbpobnaaW.PrintMore Go.Proofs.YtdkegdnfbpobnaaW.Open

theorem inverts_j0 (z x y q0 q1 p0 p1 : Int) (h : z = 7 → p0 = wrap64 (wrap64 (256 * x) + q0) ∧ p1 = wrap64 (wrap64 (256 * y) + q1)) : Ev (fun k => mapmakerlaw29_QuantInverts.j0 k false z x y q0 q1 p0 p1) true := by
  refine Ev.step (f := fun k => (mapmakerlaw29_lives.f k).bind fun t => some t) (fun k => ?_) (Ev.bind Pl.lives_ev (Ev.now _))
  rw [mapmakerlaw29_QuantInverts.j0, if_neg (by simp)]
  by_cases hz : z = 7
  · obtain ⟨h1, h2⟩ := h hz
    rw [if_pos hz, if_pos h1, if_pos h2]
  · rw [if_neg hz]
theorem QuantInverts : mapmakerlaw29_QuantInverts.Pure := by
  intro t q _ _
  refine Pl.ev_rounds ?_
  unfold mapmakerlaw29_QuantInverts.f
  simp only [Pl.point_f, Pl.back_f, Option.bind_some]
  by_cases h : (Pl.bkB (Pl.box t.f0 t.f1 t.f2) (Pl.sz t.f0) q.f0 q.f1).2.2 = true
  · obtain ⟨e1, e2⟩ := Pl.inverts h
    refine Ev.congr (fun k => if_pos h) ?_
    rw [e1]
    simp only [if_true, beq_self_eq_true, Bool.not_true, Bool.or_self]
    exact inverts_j0 _ _ _ _ _ _ _ e2
  · exact Ev.congr (fun k => if_neg h) (Ev.bind Pl.lives_ev (Ev.now _))

end Go.Proofs.Ytdkegdnfbpobnaa.Pure
end
