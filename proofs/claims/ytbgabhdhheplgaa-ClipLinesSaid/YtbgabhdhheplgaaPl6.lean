/-
  Plain facts on the piece of a segment: the program's and the reference's.
-/
import Derived.Test.YtbgabhdhheplgaaPl4
import Derived.Test.YtbgabhdhheplgaaPALLx8
import Derived.Test.YtbgabhdhheplgaaPALLx20
namespace Go.Proofs.Ytbgabhdhheplgaa.Pl
open Go.RowKit Go.Proofs.Ytbgabhdhheplgaa.PALL Go.Proofs.YtbgabhdhheplgaaW.PrintWords Go.Proofs.YtbgabhdhheplgaaW.PrintLast Go.Proofs.YtbgabhdhheplgaaW.PrintMore

/-- The piece of a segment within the sides that are left (n of four). -/
def piece (b0 b1 b2 b3 : Int) : Nat → S37 → S37 → Option (S37 × S37)
  | 0, p, q => if eqp p q = true then none else some (p, q)
  | n + 1, p, q =>
    if has (hs b0 b1 b2 b3 (3 - n)) p = true then
      if has (hs b0 b1 b2 b3 (3 - n)) q = true then piece b0 b1 b2 b3 n p q else piece b0 b1 b2 b3 n p (bord (hs b0 b1 b2 b3 (3 - n)) p q)
    else if has (hs b0 b1 b2 b3 (3 - n)) q = true then piece b0 b1 b2 b3 n (bord (hs b0 b1 b2 b3 (3 - n)) p q) q else none
/-- What a printed piece says of a result: whether there is one, and which. -/
def Says (o : Option (S37 × S37)) (r : Int × Int × Int × Int × Bool) : Prop := r.2.2.2.2 = o.isSome ∧ ∀ a c, o = some (a, c) → r = (a.f0, a.f1, c.f0, c.f1, true)
abbrev cl (b0 b1 b2 b3 : Int) (k : Nat) (s : Nat) (p q : S37) := clip_piece.l0 k (s : Int) false false b0 false true b2 true false b1 true true b3 p.f0 p.f1 q.f0 q.f1
abbrev hv (b0 b1 b2 b3 : Int) : S40 := ⟨⟨false, false, b0⟩, ⟨false, true, b2⟩, ⟨true, false, b1⟩, ⟨true, true, b3⟩⟩
theorem ix_f (b0 b1 b2 b3 : Int) (s : Nat) (h4 : s < 4) : ((ix_40 (hv b0 b1 b2 b3) (s : Int)).f0, (ix_40 (hv b0 b1 b2 b3) (s : Int)).f1, (ix_40 (hv b0 b1 b2 b3) (s : Int)).f2) = hs b0 b1 b2 b3 s := by
  have h : s = 0 ∨ s = 1 ∨ s = 2 ∨ s = 3 := by omega
  rcases h with rfl | rfl | rfl | rfl <;> rfl
theorem piece_j1 (b0 b1 b2 b3 : Int) (k s : Nat) (hs4 : s < 4) (p q : S37) (a c : Bool) :
    clip_piece.j1 (k + 2) a c (s : Int) (if a = true then false else !c) false false b0 false true b2 true false b1 true true b3 p.f0 p.f1 q.f0 q.f1 (hs b0 b1 b2 b3 s).1 (hs b0 b1 b2 b3 s).2.1 (hs b0 b1 b2 b3 s).2.2
      = if a = true then if c = true then cl b0 b1 b2 b3 (k + 1) (s + 1) p q else cl b0 b1 b2 b3 (k + 1) (s + 1) p (bord (hs b0 b1 b2 b3 s) p q)
        else if c = true then cl b0 b1 b2 b3 (k + 1) (s + 1) (bord (hs b0 b1 b2 b3 s) p q) q else some (0, 0, 0, 0, false) := by
  rw [clip_piece.j1, bord_f, w_suc hs4 (by omega)]
  cases a <;> cases c <;> simp [cl]
theorem piece_step (b0 b1 b2 b3 : Int) (k s : Nat) (hs4 : s < 4) (p q : S37) :
    cl b0 b1 b2 b3 (k + 3) s p q = if has (hs b0 b1 b2 b3 s) p = true then if has (hs b0 b1 b2 b3 s) q = true then cl b0 b1 b2 b3 (k + 1) (s + 1) p q else cl b0 b1 b2 b3 (k + 1) (s + 1) p (bord (hs b0 b1 b2 b3 s) p q)
        else if has (hs b0 b1 b2 b3 s) q = true then cl b0 b1 b2 b3 (k + 1) (s + 1) (bord (hs b0 b1 b2 b3 s) p q) q else some (0, 0, 0, 0, false) := by
  have hx := ix_f b0 b1 b2 b3 s hs4
  have e0 : (ix_40 (hv b0 b1 b2 b3) (s : Int)).f0 = (hs b0 b1 b2 b3 s).1 := by rw [← hx]
  have e1 : (ix_40 (hv b0 b1 b2 b3) (s : Int)).f1 = (hs b0 b1 b2 b3 s).2.1 := by rw [← hx]
  have e2 : (ix_40 (hv b0 b1 b2 b3) (s : Int)).f2 = (hs b0 b1 b2 b3 s).2.2 := by rw [← hx]
  rw [← piece_j1 b0 b1 b2 b3 k s hs4 p q]
  show clip_piece.l0 (k + 2 + 1) (s : Int) false false b0 false true b2 true false b1 true true b3 p.f0 p.f1 q.f0 q.f1 = _
  rw [clip_piece.l0, if_pos (by omega), if_pos (by omega)]
  rw [show (⟨⟨false, false, b0⟩, ⟨false, true, b2⟩, ⟨true, false, b1⟩, ⟨true, true, b3⟩⟩ : S40) = hv b0 b1 b2 b3 from rfl, e0, e1, e2, has_f, has_f, Option.bind_some, Option.bind_some]
  split <;> simp [*]
theorem piece_ev (b0 b1 b2 b3 : Int) : ∀ (n : Nat) (p q : S37), n ≤ 4 → ∃ r, Says (piece b0 b1 b2 b3 n p q) r ∧ Ev (fun k => cl b0 b1 b2 b3 k (4 - n) p q) r
  | 0, p, q, _ => by
    refine ⟨(p.f0, p.f1, q.f0, q.f1, !eqp p q), ?_, Ev.step (f := fun _ => some (p.f0, p.f1, q.f0, q.f1, !eqp p q)) (fun k => ?_) (Ev.now _)⟩
    · rw [piece]
      cases h : eqp p q <;> simp [Says]
    · show clip_piece.l0 (k + 1) _ _ _ _ _ _ _ _ _ _ _ _ _ _ _ _ _ = _
      rw [clip_piece.l0, if_neg (by omega)]
      simp [eqp, Bool.not_and]
  | n + 1, p, q, hn => by
    have st := fun k => piece_step b0 b1 b2 b3 k (3 - n) (by omega) p q
    rw [show 4 - (n + 1) = 3 - n by omega, piece]
    have fin : ∀ (p' q' : S37), (∀ k, cl b0 b1 b2 b3 (k + 3) (3 - n) p q = cl b0 b1 b2 b3 (k + 1) (3 - n + 1) p' q') → ∃ r, Says (piece b0 b1 b2 b3 n p' q') r ∧ Ev (fun k => cl b0 b1 b2 b3 k (3 - n) p q) r := fun p' q' h => by
      obtain ⟨r, h1, K, h2⟩ := piece_ev b0 b1 b2 b3 n p' q' (by omega)
      refine ⟨r, h1, K + 3, fun k hk => ?_⟩
      obtain ⟨m, rfl⟩ : ∃ m, k = m + 3 := ⟨k - 3, by omega⟩
      have := h2 (m + 1) (by omega)
      show cl b0 b1 b2 b3 (m + 3) (3 - n) p q = _
      rw [h m, show 3 - n + 1 = 4 - n by omega]
      exact this
    by_cases hp : has (hs b0 b1 b2 b3 (3 - n)) p = true
    · rw [if_pos hp]
      by_cases hq : has (hs b0 b1 b2 b3 (3 - n)) q = true
      · rw [if_pos hq]; exact fin p q (fun k => by rw [st, if_pos hp, if_pos hq])
      · rw [if_neg hq]; exact fin _ _ (fun k => by rw [st, if_pos hp, if_neg hq])
    · rw [if_neg hp]
      by_cases hq : has (hs b0 b1 b2 b3 (3 - n)) q = true
      · rw [if_pos hq]; exact fin _ _ (fun k => by rw [st, if_neg hp, if_pos hq])
      · rw [if_neg hq]
        refine ⟨(0, 0, 0, 0, false), ⟨rfl, fun a c h => by cases h⟩, 3, fun k hk => ?_⟩
        obtain ⟨m, rfl⟩ : ∃ m, k = m + 3 := ⟨k - 3, by omega⟩
        show cl b0 b1 b2 b3 (m + 3) (3 - n) p q = _
        rw [st, if_neg hp, if_neg hq]
theorem ref_piece_step (b0 b1 b2 b3 : Int) (k s : Nat) (hs4 : s < 4) (p q : S37) :
    mapmakerref12_piece.l0 (k + 3) (s : Int) p.f0 p.f1 q.f0 q.f1 b0 b1 b2 b3 = if has (hs b0 b1 b2 b3 s) p = true then if has (hs b0 b1 b2 b3 s) q = true then mapmakerref12_piece.l0 (k + 1) ((s + 1 : Nat) : Int) p.f0 p.f1 q.f0 q.f1 b0 b1 b2 b3 else mapmakerref12_piece.l0 (k + 1) ((s + 1 : Nat) : Int) p.f0 p.f1 (bord (hs b0 b1 b2 b3 s) p q).f0 (bord (hs b0 b1 b2 b3 s) p q).f1 b0 b1 b2 b3
        else if has (hs b0 b1 b2 b3 s) q = true then mapmakerref12_piece.l0 (k + 1) ((s + 1 : Nat) : Int) (bord (hs b0 b1 b2 b3 s) p q).f0 (bord (hs b0 b1 b2 b3 s) p q).f1 q.f0 q.f1 b0 b1 b2 b3 else some (p.f0, p.f1, q.f0, q.f1, false) := by
  rw [mapmakerref12_piece.l0, if_pos (by omega), ref_in_f _ _ _ _ s hs4, ref_in_f _ _ _ _ s hs4, Option.bind_some, Option.bind_some]
  cases h1 : has (hs b0 b1 b2 b3 s) p <;> cases h2 : has (hs b0 b1 b2 b3 s) q <;> simp [mapmakerref12_piece.j1, ref_bord_f _ _ _ _ _ s hs4, w_suc hs4 (by omega : 4 ≤ 4611686018427387904)]
theorem ref_piece_ev (b0 b1 b2 b3 : Int) : ∀ (n : Nat) (p q : S37), n ≤ 4 → ∃ r, Says (piece b0 b1 b2 b3 n p q) r ∧ Ev (fun k => mapmakerref12_piece.l0 k ((4 - n : Nat) : Int) p.f0 p.f1 q.f0 q.f1 b0 b1 b2 b3) r
  | 0, p, q, _ => by
    refine ⟨(p.f0, p.f1, q.f0, q.f1, !eqp p q), ?_, Ev.step (f := fun _ => some (p.f0, p.f1, q.f0, q.f1, !eqp p q)) (fun k => ?_) (Ev.now _)⟩
    · rw [piece]
      cases h : eqp p q <;> simp [Says]
    · rw [mapmakerref12_piece.l0, if_neg (by omega)]
      simp [eqp, Bool.not_and]
  | n + 1, p, q, hn => by
    have st := fun k => ref_piece_step b0 b1 b2 b3 k (3 - n) (by omega) p q
    rw [show 4 - (n + 1) = 3 - n by omega, piece]
    have fin : ∀ (p' q' : S37), (∀ k, mapmakerref12_piece.l0 (k + 3) ((3 - n : Nat) : Int) p.f0 p.f1 q.f0 q.f1 b0 b1 b2 b3 = mapmakerref12_piece.l0 (k + 1) ((3 - n + 1 : Nat) : Int) p'.f0 p'.f1 q'.f0 q'.f1 b0 b1 b2 b3) → ∃ r, Says (piece b0 b1 b2 b3 n p' q') r ∧ Ev (fun k => mapmakerref12_piece.l0 k ((3 - n : Nat) : Int) p.f0 p.f1 q.f0 q.f1 b0 b1 b2 b3) r := fun p' q' h => by
      obtain ⟨r, h1, K, h2⟩ := ref_piece_ev b0 b1 b2 b3 n p' q' (by omega)
      refine ⟨r, h1, K + 3, fun k hk => ?_⟩
      obtain ⟨m, rfl⟩ : ∃ m, k = m + 3 := ⟨k - 3, by omega⟩
      have := h2 (m + 1) (by omega)
      show mapmakerref12_piece.l0 (m + 3) _ _ _ _ _ _ _ _ _ = _
      rw [h m, show 3 - n + 1 = 4 - n by omega]
      exact this
    by_cases hp : has (hs b0 b1 b2 b3 (3 - n)) p = true
    · rw [if_pos hp]
      by_cases hq : has (hs b0 b1 b2 b3 (3 - n)) q = true
      · rw [if_pos hq]; exact fin p q (fun k => by rw [st, if_pos hp, if_pos hq])
      · rw [if_neg hq]; exact fin _ _ (fun k => by rw [st, if_pos hp, if_neg hq])
    · rw [if_neg hp]
      by_cases hq : has (hs b0 b1 b2 b3 (3 - n)) q = true
      · rw [if_pos hq]; exact fin _ _ (fun k => by rw [st, if_neg hp, if_pos hq])
      · rw [if_neg hq]
        refine ⟨(p.f0, p.f1, q.f0, q.f1, false), ⟨rfl, fun a c h => by cases h⟩, 3, fun k hk => ?_⟩
        obtain ⟨m, rfl⟩ : ∃ m, k = m + 3 := ⟨k - 3, by omega⟩
        show mapmakerref12_piece.l0 (m + 3) _ _ _ _ _ _ _ _ _ = _
        rw [st, if_neg hp, if_neg hq]
end Go.Proofs.Ytbgabhdhheplgaa.Pl
