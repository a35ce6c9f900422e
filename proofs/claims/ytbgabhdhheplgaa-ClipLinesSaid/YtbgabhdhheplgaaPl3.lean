/-
  Plain facts on half planes, borders and the ring that is clipped: what the program's printed functions give, from some number of rounds on.
-/
import Derived.Test.YtbgabhdhheplgaaPl1
import Derived.Test.YtbgabhdhheplgaaPALLx6
namespace Go.Proofs.Ytbgabhdhheplgaa.Pl
open Go.RowKit Go.Proofs.Ytbgabhdhheplgaa.PALL Go.Proofs.YtbgabhdhheplgaaW.PrintWords Go.Proofs.YtbgabhdhheplgaaW.PrintLast Go.Proofs.YtbgabhdhheplgaaW.PrintMore

def flr (a d : Int) : Int := if Int.tmod a d < 0 then wrap64 (wrap64 (Int.tdiv a d) - 1) else wrap64 (Int.tdiv a d)
def rem (a d : Int) : Int := if Int.tmod a d < 0 then wrap64 (Int.tmod a d + d) else Int.tmod a d
def rdiv (a d : Int) : Int := if d ≤ 0 then 0 else if rem a d ≥ wrap64 (d - rem a d) then wrap64 (flr a d + 1) else flr a d
theorem flr_f (a d : Int) (hd : ¬ d ≤ 0) : num_FloorDiv.f a d = some (flr a d) := by
  rw [num_FloorDiv.f, if_neg hd, if_neg (by omega), flr]
  split <;> rfl
theorem rdiv_j0 (k : Nat) (a d x : Int) (hd : ¬ d ≤ 0) : num_RoundDiv.j0 (k + 1) a d x = some (if x ≥ wrap64 (d - x) then wrap64 (flr a d + 1) else flr a d) := by
  rw [num_RoundDiv.j0, flr_f a d hd]
  split <;> rfl
theorem rdiv_f (k : Nat) (a d : Int) : num_RoundDiv.f (k + 1) a d = some (rdiv a d) := by
  rw [num_RoundDiv.f, rdiv]
  by_cases hd : d ≤ 0
  · rw [if_pos hd, if_pos hd]
  · rw [if_neg hd, if_neg hd, if_neg (by omega), rdiv_j0 k _ _ _ hd, rdiv_j0 k _ _ _ hd, rem]
    split <;> rfl
def ratio (n m d : Int) : Int := if d < 0 then rdiv (wrap64 (wrap64 (-n) * m)) (wrap64 (-d)) else rdiv (wrap64 (n * m)) d
theorem ratio_f (k : Nat) (n m d : Int) : clip_ratio.f (k + 1) n m d = some (ratio n m d) := by
  rw [clip_ratio.f, ratio, rdiv_f, rdiv_f]
  split <;> rfl
abbrev Half := Bool × Bool × Int
def less (p q : S37) : Bool := if p.f0 = q.f0 then decide (p.f1 < q.f1) else decide (p.f0 < q.f0)
def bord1 (h : Half) (a c : S37) : S37 :=
  if h.1 = true then ⟨wrap64 (a.f0 + ratio (wrap64 (h.2.2 - a.f1)) (wrap64 (c.f0 - a.f0)) (wrap64 (c.f1 - a.f1))), h.2.2⟩
  else ⟨h.2.2, wrap64 (a.f1 + ratio (wrap64 (h.2.2 - a.f0)) (wrap64 (c.f1 - a.f1)) (wrap64 (c.f0 - a.f0)))⟩
def bord (h : Half) (p q : S37) : S37 := if less q p = true then bord1 h q p else bord1 h p q
theorem less_f (p q : S37) : grid_Less.f p.f0 p.f1 q.f0 q.f1 = some (less p q) := by
  rw [grid_Less.f, less]
  split <;> rfl
theorem bord_one (k : Nat) (h : Half) (a c : S37) : clip_half_border.one (k + 1) h.1 h.2.2 a.f0 a.f1 c.f0 c.f1 = some ((bord1 h a c).f0, (bord1 h a c).f1) := by
  rw [clip_half_border.one, bord1, ratio_f, ratio_f]
  split <;> rfl
theorem bord_f (k : Nat) (h : Half) (p q : S37) : clip_half_border.f (k + 1) h.1 h.2.1 h.2.2 p.f0 p.f1 q.f0 q.f1 = some ((bord h p q).f0, (bord h p q).f1) := by
  rw [clip_half_border.f, less_f, Option.bind_some, bord]
  cases less q p
  · exact bord_one k h p q
  · exact bord_one k h q p
def has (h : Half) (p : S37) : Bool := if h.1 = true then (if h.2.1 = true then decide (p.f1 ≤ h.2.2) else decide (p.f1 ≥ h.2.2)) else (if h.2.1 = true then decide (p.f0 ≤ h.2.2) else decide (p.f0 ≥ h.2.2))
theorem has_f (h : Half) (p : S37) : clip_half_has.f h.1 h.2.1 h.2.2 p.f0 p.f1 = some (has h p) := by
  rw [clip_half_has.f, has]
  split <;> split <;> rfl

def step (h : Half) (p q : S37) : List S37 := (if has h p = true then [p] else []) ++ (if has h p = has h q then [] else [bord h p q])
theorem step_length (h : Half) (p q : S37) : (step h p q).length ≤ 2 := by
  rw [step]
  split <;> split <;> simp
def nxt (l : List S37) (i : Nat) : S37 := rd_T37 l (((i + 1) % l.length : Nat) : Int)
def sideN (h : Half) (l : List S37) : Nat → Nat → List S37
  | 0, _ => []
  | n + 1, i => step h (rd_T37 l (i : Int)) (nxt l i) ++ sideN h l n (i + 1)
theorem sideN_length (h : Half) (l : List S37) (n i : Nat) : (sideN h l n i).length ≤ 2 * n := by
  induction n generalizing i with
  | zero => simp [sideN]
  | succ n ih => have := ih (i + 1); have := step_length h (rd_T37 l (i : Int)) (nxt l i); simp [sideN]; omega
def side (h : Half) (l : List S37) : List S37 := sideN h l l.length 0
theorem side_length (h : Half) (l : List S37) : (side h l).length ≤ 2 * l.length := sideN_length _ _ _ _
theorem nxt_int (l : List S37) (i : Nat) : rd_T37 l (((i : Int) + 1) % (l.length : Int)) = nxt l i := by
  rw [nxt]; congr 1
theorem side_go (h : Half) (l : List S37) : ∀ (n i : Nat) (acc : List S37), i + n = l.length → acc.length + 2 * n ≤ 8796093022200 →
    Ev (fun k => clip_Ring.side k h l i acc) (acc ++ sideN h l n i) := by
  intro n
  induction n with
  | zero =>
    intro i acc hi ha
    refine Ev.step (f := fun _ => some acc) (fun k => ?_) (by rw [sideN, List.append_nil]; exact Ev.now _)
    rw [clip_Ring.side, if_neg (by omega)]
  | succ n ih =>
    intro i acc hi ha
    have hs := step_length h (rd_T37 l (i : Int)) (nxt l i)
    have := ih (i + 1) (acc ++ step h (rd_T37 l (i : Int)) (nxt l i)) (by omega) (by simp; omega)
    rw [List.append_assoc] at this
    obtain ⟨K, hK⟩ := this
    refine ⟨K + 3, fun k hk => ?_⟩
    obtain ⟨m, rfl⟩ : ∃ m, k = m + 2 + 1 := ⟨k - 3, by omega⟩
    have h2 := hK (m + 2) (by omega)
    show clip_Ring.side (m + 2 + 1) h l i acc = _
    rw [clip_Ring.side, if_pos (by omega), if_pos (by omega), nxt_int, has_f, has_f, Option.bind_some, Option.bind_some, bord_f, Option.bind_some]
    rw [step] at h2
    rw [sideN, step, ← h2]
    cases has h (rd_T37 l (i : Int)) <;> cases has h (nxt l i) <;> simp only [if_true, if_false, List.nil_append, List.append_nil, List.append_assoc, Bool.false_eq_true, reduceCtorEq] <;> rfl
theorem side_ev (h : Half) (l : List S37) (hl : l.length ≤ 1099511627776) : Ev (fun k => clip_Ring.side k h l 0 []) (side h l) :=
  side_go h l l.length 0 [] (by omega) (by simp; omega)

def areaN (l : List S37) : Nat → Nat → Int → Int
  | 0, _, s => s
  | n + 1, i, s => areaN l n (i + 1) (wrap64 (s + wrap64 (wrap64 ((rd_T37 l (i : Int)).f0 * (nxt l i).f1) - wrap64 ((rd_T37 l (i : Int)).f1 * (nxt l i).f0))))
def area (l : List S37) : Int := areaN l l.length 0 0
theorem area_idx (l : List S37) (i : Nat) (h : i < l.length) (hl : l.length ≤ 1099511627776) : Int.tmod (wrap64 ((i : Int) + 1)) (l.length : Int) = (((i + 1) % l.length : Nat) : Int) := by
  rw [w_suc h (by omega), Int.tmod_eq_emod_of_nonneg (by omega)]; simp
theorem area_l0 (l : List S37) (hl : l.length ≤ 1099511627776) : ∀ (n i : Nat) (s : Int), i + n = l.length → Ev (fun k => clip_area2.l0 k l s l (l.length : Int) (i : Int)) (areaN l n i s) := by
  intro n
  induction n with
  | zero =>
    intro i s h
    refine Ev.step (f := fun _ => some s) (fun k => ?_) (Ev.now _)
    rw [clip_area2.l0, if_neg (by omega)]
  | succ n ih =>
    intro i s h
    have hi : i < l.length := by omega
    have hm : (i + 1) % l.length < l.length := Nat.mod_lt _ (by omega)
    refine Ev.step (fun k => ?_) (ih (i + 1) (wrap64 (s + wrap64 (wrap64 ((rd_T37 l (i : Int)).f0 * (nxt l i).f1) - wrap64 ((rd_T37 l (i : Int)).f1 * (nxt l i).f0)))) (by omega))
    rw [clip_area2.l0, area_idx l i hi hl, if_pos (by omega), if_pos (by omega), if_pos (by omega), if_neg (by omega), if_pos (by omega), if_pos (by omega), w_suc hi (by omega)]
    rfl
theorem area_ev (l : List S37) (hl : l.length ≤ 1099511627776) : Ev (fun k => clip_area2.f k l) (area l) := area_l0 l hl l.length 0 0 (by omega)

def fin (l : List S37) : List S37 := if area (tidyRing (tidy l)) = 0 then [] else tidyRing (tidy l)
def rest (b0 b1 b2 b3 : Int) : Nat → List S37 → List S37
  | 0, l => fin l
  | n + 1, l => rest b0 b1 b2 b3 n (side (clip_hs b0 b1 b2 b3 (3 - n)) l)
theorem rest_ev (b0 b1 b2 b3 : Int) : ∀ (n : Nat) (l : List S37), l.length * 2 ^ n ≤ 1099511627776 → Ev (fun k => clip_Ring.rest k b0 b1 b2 b3 n l) (rest b0 b1 b2 b3 n l)
  | 0, l, hl => by
    have hl : l.length ≤ 1099511627776 := by omega
    have h1 := tidy_length l
    have h2 := tidyRing_length (tidy l)
    refine Ev.bind (tidyRing_ev l hl) (Ev.bind (area_ev _ (by omega)) ?_)
    rw [rest, fin]
    by_cases h : area (tidyRing (tidy l)) = 0
    · simp only [if_pos h]; exact Ev.now _
    · simp only [if_neg h]; exact Ev.now _
  | n + 1, l, hl => by
    have hp : 1 ≤ 2 ^ n := Nat.one_le_two_pow
    have hs := side_length (clip_hs b0 b1 b2 b3 (3 - n)) l
    have hl1 : l.length * 2 ^ n * 2 ≤ 1099511627776 := by rw [Nat.pow_succ, ← Nat.mul_assoc] at hl; exact hl
    have hl2 : l.length * 1 ≤ l.length * 2 ^ n := Nat.mul_le_mul_left _ hp
    have hl3 : (side (clip_hs b0 b1 b2 b3 (3 - n)) l).length * 2 ^ n ≤ 2 * l.length * 2 ^ n := Nat.mul_le_mul_right _ hs
    rw [Nat.mul_assoc] at hl3
    exact Ev.bind (side_ev _ l (by omega)) (rest_ev b0 b1 b2 b3 n _ (by omega))

def validP (p : S37) : Bool := decide (p.f0 ≥ 0) && decide (p.f0 < 32768) && decide (p.f1 ≥ 0) && decide (p.f1 < 32768)
def goodB (b0 b1 b2 b3 : Int) : Bool := decide (b0 ≥ 0) && decide (b0 ≤ b2) && decide (b2 ≤ 32768) && decide (b1 ≥ 0) && decide (b1 ≤ b3) && decide (b3 ≤ 32768)
theorem validP_f (p : S37) : grid_Valid.f p.f0 p.f1 = some (validP p) := by
  rw [grid_Valid.f, validP]
  split
  · split
    · split <;> simp [*]
    · simp [*]
  · simp [*]
theorem goodB_f (b0 b1 b2 b3 : Int) : grid_Check.f b0 b1 b2 b3 = some (if goodB b0 b1 b2 b3 = true then 0 else 2) := by
  have h : grid_valid.f b0 b1 b2 b3 = some (goodB b0 b1 b2 b3) := by
    rw [grid_valid.f, goodB]
    repeat' split
    all_goals simp [*]
  rw [grid_Check.f, h, Option.bind_some]
  split <;> rfl
theorem perm_l0 (b0 b1 b2 b3 : Int) (l : List S37) (hl : l.length ≤ 1099511627776) : ∀ (n i : Nat), i + n = l.length →
    Ev (fun k => clip_permitted.l0 k l (l.length : Int) (i : Int) b0 b1 b2 b3) ((l.drop i).all validP && goodB b0 b1 b2 b3) := by
  intro n
  induction n with
  | zero =>
    intro i h
    refine Ev.step (f := fun _ => some (goodB b0 b1 b2 b3)) (fun k => ?_) ?_
    · rw [clip_permitted.l0, if_neg (by omega), goodB_f, Option.bind_some]
      cases goodB b0 b1 b2 b3 <;> rfl
    · rw [List.drop_eq_nil_of_le (by omega)]; exact Ev.now _
  | succ n ih =>
    intro i h
    have hi : i < l.length := by omega
    rw [List.drop_eq_getElem_cons hi, List.all_cons]
    by_cases hv : validP l[i] = true
    · rw [hv, Bool.true_and]
      refine Ev.step (fun k => ?_) (ih (i + 1) (by omega))
      rw [clip_permitted.l0, if_pos (by omega), if_pos (by omega), if_pos (by omega), validP_f, Option.bind_some, rd_get l i hi, if_pos hv, w_suc hi (by omega)]
    · have hv' : validP l[i] = false := by simpa using hv
      refine Ev.step (f := fun _ => some false) (fun k => ?_) (by rw [hv']; exact Ev.now _)
      rw [clip_permitted.l0, if_pos (by omega), if_pos (by omega), if_pos (by omega), validP_f, Option.bind_some, rd_get l i hi, if_neg hv]
def perm (l : List S37) (b0 b1 b2 b3 : Int) : Bool := l.all validP && goodB b0 b1 b2 b3
theorem perm_ev (l : List S37) (b0 b1 b2 b3 : Int) (hl : l.length ≤ 1099511627776) : Ev (fun k => clip_permitted.f k l b0 b1 b2 b3) (perm l b0 b1 b2 b3) :=
  perm_l0 b0 b1 b2 b3 l hl l.length 0 (by omega)
def ring (l : List S37) (b0 b1 b2 b3 : Int) : List S37 := if perm l b0 b1 b2 b3 = true then rest b0 b1 b2 b3 4 l else []
theorem rest_length (b0 b1 b2 b3 : Int) : ∀ (n : Nat) (l : List S37), (rest b0 b1 b2 b3 n l).length ≤ l.length * 2 ^ n
  | 0, l => by
    have h1 := tidy_length l
    have h2 := tidyRing_length (tidy l)
    rw [rest, fin]
    split
    · simp
    · omega
  | n + 1, l => by
    have h := rest_length b0 b1 b2 b3 n (side (clip_hs b0 b1 b2 b3 (3 - n)) l)
    have hs := Nat.mul_le_mul_right (2 ^ n) (side_length (clip_hs b0 b1 b2 b3 (3 - n)) l)
    rw [rest, Nat.pow_succ, ← Nat.mul_assoc]
    rw [Nat.mul_assoc] at hs
    omega
theorem ring_length (l : List S37) (b0 b1 b2 b3 : Int) : (ring l b0 b1 b2 b3).length ≤ l.length * 16 := by
  rw [ring]
  split
  · exact rest_length b0 b1 b2 b3 4 l
  · simp
/-- Ring gives the clipped ring. -/
theorem ring_ev (l : List S37) (b0 b1 b2 b3 : Int) (hl : l.length ≤ 68719476736) : Ev (fun k => clip_Ring.f k l b0 b1 b2 b3) (ring l b0 b1 b2 b3) := by
  refine Ev.bind (perm_ev l b0 b1 b2 b3 (by omega)) ?_
  rw [ring]
  by_cases h : perm l b0 b1 b2 b3 = true
  · rw [if_pos h]; exact Ev.congr (fun k => if_pos h) (rest_ev b0 b1 b2 b3 4 l (by omega))
  · rw [if_neg h]; exact Ev.congr (fun k => if_neg h) (Ev.now _)
end Go.Proofs.Ytbgabhdhheplgaa.Pl
