/-
  Plain facts: what the printed functions give, the program's and the reference's alike.
-/
import Derived.IntWalk
import Derived.Test.YtdkegdnfbpobnaaPARSx2
import Derived.Test.YtdkegdnfbpobnaaPARSx3
import Derived.Test.YtdkegdnfbpobnaaPARSx4
import Derived.Test.YtdkegdnfbpobnaaPARSx5
import Derived.Test.YtdkegdnfbpobnaaPARSx6
import Derived.Test.YtdkegdnfbpobnaaPARSx7
import Derived.Test.YtdkegdnfbpobnaaPARSx8
import Derived.Test.YtdkegdnfbpobnaaPARSx10
import Derived.Test.YtdkegdnfbpobnaaPARSx11
namespace Go.Proofs.Ytdkegdnfbpobnaa.Pl
open Go.RowKit Go.Proofs.Ytdkegdnfbpobnaa.PARS Go.Proofs.YtdkegdnfbpobnaaW.PrintWords Go.Proofs.YtdkegdnfbpobnaaW.PrintLast Go.Proofs.YtdkegdnfbpobnaaW.PrintMore

def eqp (p q : S25) : Bool := p.f0 == q.f0 && p.f1 == q.f1
theorem eqp_iff {p q : S25} : eqp p q = true ↔ p = q := by
  obtain ⟨a, b⟩ := p
  obtain ⟨c, d⟩ := q
  simp [eqp]
def tidyFrom (q : S25) : List S25 → List S25
  | [] => []
  | p :: t => if eqp p q = true then tidyFrom q t else p :: tidyFrom p t
def tidy : List S25 → List S25
  | [] => []
  | p :: t => p :: tidyFrom p t
theorem tidyFrom_length (q : S25) (l : List S25) : (tidyFrom q l).length ≤ l.length := by
  induction l generalizing q with
  | nil => simp [tidyFrom]
  | cons p t ih =>
    rw [tidyFrom]
    split
    · have := ih q; simp; omega
    · have := ih p; simp; omega
theorem tidy_length (l : List S25) : (tidy l).length ≤ l.length := by
  cases l with
  | nil => simp [tidy]
  | cons p t => have := tidyFrom_length p t; simp [tidy]; omega
theorem w_suc {i n : Nat} (h : i < n) (hn : n ≤ 4611686018427387904) : wrap64 ((i : Int) + 1) = ((i + 1 : Nat) : Int) := by
  unfold wrap64; omega
theorem w_pre {i n : Nat} (h : i < n) (h0 : 0 < i) (hn : n ≤ 4611686018427387904) : wrap64 ((i : Int) - 1) = ((i - 1 : Nat) : Int) := by
  unfold wrap64; omega
theorem rd_nat (l : List S25) (i : Nat) : rd_T25 l (i : Int) = l.getD i z25 := by simp [rd_T25]
theorem rd_get (l : List S25) (i : Nat) (h : i < l.length) : rd_T25 l (i : Int) = l[i] := by
  rw [rd_nat, List.getD_eq_getElem?_getD, List.getElem?_eq_getElem h]; rfl
theorem eta (p : S25) : (⟨p.f0, p.f1⟩ : S25) = p := rfl
theorem ne_bool (p q : S25) : ((!(p.f0 == q.f0) || !(p.f1 == q.f1)) = true) ↔ ¬ eqp p q = true := by
  simp only [eqp]; cases (p.f0 == q.f0) <;> cases (p.f1 == q.f1) <;> simp
theorem tidy_l0 (l : List S25) (hl : l.length ≤ 1099511627776) : ∀ (n i : Nat) (acc : List S25), i + n = l.length → 0 < i → acc.length ≤ i →
    Ev (fun k => clip_Tidy.l0 k l acc l (l.length : Int) (i : Int)) (acc ++ tidyFrom (rd_T25 l ((i - 1 : Nat) : Int)) (l.drop i)) := by
  intro n
  induction n with
  | zero =>
    intro i acc h h0 ha
    rw [List.drop_eq_nil_of_le (by omega), tidyFrom, List.append_nil]
    refine Ev.step (f := fun _ => some acc) (fun k => ?_) (Ev.now _)
    rw [clip_Tidy.l0, if_neg (by omega)]
  | succ n ih =>
    intro i acc h h0 ha
    have hi : i < l.length := by omega
    rw [List.drop_eq_getElem_cons hi, tidyFrom]
    have hw := w_suc hi (by omega)
    have hp := w_pre hi h0 (by omega)
    by_cases he : eqp l[i] (rd_T25 l ((i - 1 : Nat) : Int)) = true
    · rw [if_pos he]
      have := ih (i + 1) acc (by omega) (by omega) (by omega)
      rw [show i + 1 - 1 = i by omega, rd_get l i hi, eqp_iff.1 he] at this
      refine Ev.step (f := fun k => clip_Tidy.l0 k l acc l (l.length : Int) ((i + 1 : Nat) : Int)) (fun k => ?_) this
      rw [clip_Tidy.l0, if_pos (by omega), if_pos (by omega), if_pos (by omega), if_neg (by omega), hp, if_pos (by omega), if_pos (by omega), if_neg (by rw [ne_bool, rd_get l i hi]; simpa using he), hw]
    · rw [if_neg he]
      have := ih (i + 1) (acc ++ [l[i]]) (by omega) (by omega) (by simp; omega)
      rw [show i + 1 - 1 = i by omega, rd_get l i hi, List.append_assoc] at this
      refine Ev.step (f := fun k => clip_Tidy.l0 k l (acc ++ [l[i]]) l (l.length : Int) ((i + 1 : Nat) : Int)) (fun k => ?_) this
      rw [clip_Tidy.l0, if_pos (by omega), if_pos (by omega), if_pos (by omega), if_neg (by omega), hp, if_pos (by omega), if_pos (by omega), if_pos (by rw [ne_bool, rd_get l i hi]; exact he), if_pos (by omega), hw, eta, rd_get l i hi]
/-- Tidy gives the tidy line. -/
theorem tidy_ev (l : List S25) (hl : l.length ≤ 1099511627776) : Ev (fun k => clip_Tidy.f k l) (tidy l) := by
  cases l with
  | nil =>
    refine Ev.step (f := fun _ => some []) (fun k => ?_) (Ev.now _)
    simp [clip_Tidy.f, clip_Tidy.l0]
  | cons p t =>
    have hc : ((p :: t).length : Int) = (t.length : Int) + 1 := by simp
    have := tidy_l0 (p :: t) hl t.length 1 [p] (by simp; omega) (by omega) (by simp)
    refine Ev.step (f := fun k => clip_Tidy.l0 k (p :: t) [p] (p :: t) ((p :: t).length : Int) ((1 : Nat) : Int)) (fun k => ?_) this
    rw [clip_Tidy.f, clip_Tidy.l0, if_pos (by omega), if_pos (by omega), if_pos (by omega), if_pos rfl, if_pos (by simp), show wrap64 (0 + 1) = ((1 : Nat) : Int) by (unfold wrap64; omega), show rd_T25 (p :: t) 0 = p from rfl]
    rfl
/-- The row without the points at its end that are its first. -/
def trim : Nat → List S25 → List S25
  | 0, t => t
  | n + 1, t => if 1 < t.length ∧ eqp (rd_T25 t ((t.length - 1 : Nat) : Int)) (rd_T25 t ((0 : Nat) : Int)) = true then trim n (t.take (t.length - 1)) else t
def tidyRing (t : List S25) : List S25 := if (trim t.length t).length < 3 then [] else trim t.length t
theorem trim_length (n : Nat) (t : List S25) : (trim n t).length ≤ t.length := by
  induction n generalizing t with
  | zero => exact Nat.le_refl _
  | succ n ih =>
    rw [trim]
    split
    · have := ih (t.take (t.length - 1)); simp at this; omega
    · exact Nat.le_refl _
theorem ring_l0 : ∀ (n : Nat) (t : List S25), t.length ≤ n → n ≤ 1099511627776 → Ev (fun k => clip_TidyRing.l0 k t) (if (trim n t).length < 3 then [] else trim n t) := by
  intro n
  induction n with
  | zero =>
    intro t ht hn
    refine Ev.step (f := fun _ => some []) (fun k => ?_) ?_
    · rw [clip_TidyRing.l0, if_neg (by omega), if_pos (by omega)]
    · rw [trim, if_pos (by omega)]; exact Ev.now _
  | succ n ih =>
    intro t ht hn
    by_cases h1 : 1 < t.length
    · have hw : wrap64 ((t.length : Int) - 1) = ((t.length - 1 : Nat) : Int) := by unfold wrap64; omega
      by_cases h2 : eqp (rd_T25 t ((t.length - 1 : Nat) : Int)) (rd_T25 t ((0 : Nat) : Int)) = true
      · rw [show trim (n + 1) t = trim n (t.take (t.length - 1)) by rw [trim, if_pos ⟨h1, h2⟩]]
        refine Ev.step (fun k => ?_) (ih (t.take (t.length - 1)) (by simp; omega) (by omega))
        rw [clip_TidyRing.l0, if_pos (by omega), hw, if_pos (by omega), if_pos (by omega), if_pos (by omega), if_pos (by simpa [eqp] using h2), if_pos (by omega)]
        simp
      · rw [show trim (n + 1) t = t by rw [trim, if_neg (fun h => h2 h.2)]]
        refine Ev.step (f := fun _ => some (if t.length < 3 then [] else t)) (fun k => ?_) (Ev.now _)
        rw [clip_TidyRing.l0, if_pos (by omega), hw, if_pos (by omega), if_pos (by omega), if_pos (by omega), if_neg (by simpa [eqp] using h2)]
        by_cases h3 : t.length < 3
        · rw [if_pos h3, if_pos (by omega)]
        · rw [if_neg h3, if_neg (by omega)]
    · rw [show trim (n + 1) t = t by rw [trim, if_neg (fun h => h1 h.1)]]
      refine Ev.step (f := fun _ => some (if t.length < 3 then [] else t)) (fun k => ?_) (Ev.now _)
      rw [clip_TidyRing.l0, if_neg (by omega), if_pos (by omega), if_pos (by omega)]
/-- TidyRing gives the tidy ring. -/
theorem tidyRing_ev (l : List S25) (hl : l.length ≤ 1099511627776) : Ev (fun k => clip_TidyRing.f k l) (tidyRing (tidy l)) :=
  Ev.bind (tidy_ev l hl) (ring_l0 _ _ (Nat.le_refl _) (by have := tidy_length l; omega))
theorem tidyRing_length (t : List S25) : (tidyRing t).length ≤ t.length := by
  rw [tidyRing]
  split
  · simp
  · exact trim_length _ _
def flr (a d : Int) : Int := if Int.tmod a d < 0 then wrap64 (wrap64 (Int.tdiv a d) - 1) else wrap64 (Int.tdiv a d)
def rem (a d : Int) : Int := if Int.tmod a d < 0 then wrap64 (Int.tmod a d + d) else Int.tmod a d
def rdiv (a d : Int) : Int := if d ≤ 0 then 0 else if rem a d ≥ wrap64 (d - rem a d) then wrap64 (flr a d + 1) else flr a d
theorem flr_f (a d : Int) (hd : ¬ d ≤ 0) : num_FloorDiv.f a d = some (flr a d) := by
  rw [num_FloorDiv.f, if_neg hd, if_neg (by omega), flr]
  split <;> rfl
theorem rdiv_j0 (k : Nat) (a d x : Int) (hd : ¬ d ≤ 0) : num_RoundDiv.j0 (k + 1) a d x = some (if x ≥ wrap64 (d - x) then wrap64 (flr a d + 1) else flr a d) := by
  rw [num_RoundDiv.j0, flr_f a d hd]
  split <;> rfl
theorem rdiv_f (k : Nat) (a d : Int) : num_RoundDiv.f (k + 1) a d = some (rdiv a d) := by
  rw [num_RoundDiv.f, rdiv]
  by_cases hd : d ≤ 0
  · rw [if_pos hd, if_pos hd]
  · rw [if_neg hd, if_neg hd, if_neg (by omega), rdiv_j0 k _ _ _ hd, rdiv_j0 k _ _ _ hd, rem]
    split <;> rfl
def ratio (n m d : Int) : Int := if d < 0 then rdiv (wrap64 (wrap64 (-n) * m)) (wrap64 (-d)) else rdiv (wrap64 (n * m)) d
theorem ratio_f (k : Nat) (n m d : Int) : clip_ratio.f (k + 1) n m d = some (ratio n m d) := by
  rw [clip_ratio.f, ratio, rdiv_f, rdiv_f]
  split <;> rfl
abbrev Half := Bool × Bool × Int
def less (p q : S25) : Bool := if p.f0 = q.f0 then decide (p.f1 < q.f1) else decide (p.f0 < q.f0)
def bord1 (h : Half) (a c : S25) : S25 :=
  if h.1 = true then ⟨wrap64 (a.f0 + ratio (wrap64 (h.2.2 - a.f1)) (wrap64 (c.f0 - a.f0)) (wrap64 (c.f1 - a.f1))), h.2.2⟩
  else ⟨h.2.2, wrap64 (a.f1 + ratio (wrap64 (h.2.2 - a.f0)) (wrap64 (c.f1 - a.f1)) (wrap64 (c.f0 - a.f0)))⟩
def bord (h : Half) (p q : S25) : S25 := if less q p = true then bord1 h q p else bord1 h p q
theorem less_f (p q : S25) : grid_Less.f p.f0 p.f1 q.f0 q.f1 = some (less p q) := by
  rw [grid_Less.f, less]
  split <;> rfl
theorem bord_one (k : Nat) (h : Half) (a c : S25) : clip_half_border.one (k + 1) h.1 h.2.2 a.f0 a.f1 c.f0 c.f1 = some ((bord1 h a c).f0, (bord1 h a c).f1) := by
  rw [clip_half_border.one, bord1, ratio_f, ratio_f]
  split <;> rfl
theorem bord_f (k : Nat) (h : Half) (p q : S25) : clip_half_border.f (k + 1) h.1 h.2.1 h.2.2 p.f0 p.f1 q.f0 q.f1 = some ((bord h p q).f0, (bord h p q).f1) := by
  rw [clip_half_border.f, less_f, Option.bind_some, bord]
  cases less q p
  · exact bord_one k h p q
  · exact bord_one k h q p
def has (h : Half) (p : S25) : Bool := if h.1 = true then (if h.2.1 = true then decide (p.f1 ≤ h.2.2) else decide (p.f1 ≥ h.2.2)) else (if h.2.1 = true then decide (p.f0 ≤ h.2.2) else decide (p.f0 ≥ h.2.2))
theorem has_f (h : Half) (p : S25) : clip_half_has.f h.1 h.2.1 h.2.2 p.f0 p.f1 = some (has h p) := by
  rw [clip_half_has.f, has]
  split <;> split <;> rfl
def step (h : Half) (p q : S25) : List S25 := (if has h p = true then [p] else []) ++ (if has h p = has h q then [] else [bord h p q])
theorem step_length (h : Half) (p q : S25) : (step h p q).length ≤ 2 := by
  rw [step]
  split <;> split <;> simp
def nxt (l : List S25) (i : Nat) : S25 := rd_T25 l (((i + 1) % l.length : Nat) : Int)
def sideN (h : Half) (l : List S25) : Nat → Nat → List S25
  | 0, _ => []
  | n + 1, i => step h (rd_T25 l (i : Int)) (nxt l i) ++ sideN h l n (i + 1)
theorem sideN_length (h : Half) (l : List S25) (n i : Nat) : (sideN h l n i).length ≤ 2 * n := by
  induction n generalizing i with
  | zero => simp [sideN]
  | succ n ih => have := ih (i + 1); have := step_length h (rd_T25 l (i : Int)) (nxt l i); simp [sideN]; omega
def side (h : Half) (l : List S25) : List S25 := sideN h l l.length 0
theorem side_length (h : Half) (l : List S25) : (side h l).length ≤ 2 * l.length := sideN_length _ _ _ _
theorem nxt_int (l : List S25) (i : Nat) : rd_T25 l (((i : Int) + 1) % (l.length : Int)) = nxt l i := by
  rw [nxt]; congr 1
theorem side_go (h : Half) (l : List S25) : ∀ (n i : Nat) (acc : List S25), i + n = l.length → acc.length + 2 * n ≤ 8796093022200 →
    Ev (fun k => clip_Ring.side k h l i acc) (acc ++ sideN h l n i) := by
  intro n
  induction n with
  | zero =>
    intro i acc hi ha
    refine Ev.step (f := fun _ => some acc) (fun k => ?_) (by rw [sideN, List.append_nil]; exact Ev.now _)
    rw [clip_Ring.side, if_neg (by omega)]
  | succ n ih =>
    intro i acc hi ha
    have hs := step_length h (rd_T25 l (i : Int)) (nxt l i)
    have := ih (i + 1) (acc ++ step h (rd_T25 l (i : Int)) (nxt l i)) (by omega) (by simp; omega)
    rw [List.append_assoc] at this
    obtain ⟨K, hK⟩ := this
    refine ⟨K + 3, fun k hk => ?_⟩
    obtain ⟨m, rfl⟩ : ∃ m, k = m + 2 + 1 := ⟨k - 3, by omega⟩
    have h2 := hK (m + 2) (by omega)
    show clip_Ring.side (m + 2 + 1) h l i acc = _
    rw [clip_Ring.side, if_pos (by omega), if_pos (by omega), nxt_int, has_f, has_f, Option.bind_some, Option.bind_some, bord_f, Option.bind_some]
    rw [step] at h2
    rw [sideN, step, ← h2]
    cases has h (rd_T25 l (i : Int)) <;> cases has h (nxt l i) <;> simp only [if_true, if_false, List.nil_append, List.append_nil, List.append_assoc, Bool.false_eq_true, reduceCtorEq] <;> rfl
theorem side_ev (h : Half) (l : List S25) (hl : l.length ≤ 1099511627776) : Ev (fun k => clip_Ring.side k h l 0 []) (side h l) :=
  side_go h l l.length 0 [] (by omega) (by simp; omega)
def areaN (l : List S25) : Nat → Nat → Int → Int
  | 0, _, s => s
  | n + 1, i, s => areaN l n (i + 1) (wrap64 (s + wrap64 (wrap64 ((rd_T25 l (i : Int)).f0 * (nxt l i).f1) - wrap64 ((rd_T25 l (i : Int)).f1 * (nxt l i).f0))))
def area (l : List S25) : Int := areaN l l.length 0 0
theorem area_idx (l : List S25) (i : Nat) (h : i < l.length) (hl : l.length ≤ 1099511627776) : Int.tmod (wrap64 ((i : Int) + 1)) (l.length : Int) = (((i + 1) % l.length : Nat) : Int) := by
  rw [w_suc h (by omega), Int.tmod_eq_emod_of_nonneg (by omega)]; simp
theorem area_l0 (l : List S25) (hl : l.length ≤ 1099511627776) : ∀ (n i : Nat) (s : Int), i + n = l.length → Ev (fun k => clip_area2.l0 k l s l (l.length : Int) (i : Int)) (areaN l n i s) := by
  intro n
  induction n with
  | zero =>
    intro i s h
    refine Ev.step (f := fun _ => some s) (fun k => ?_) (Ev.now _)
    rw [clip_area2.l0, if_neg (by omega)]
  | succ n ih =>
    intro i s h
    have hi : i < l.length := by omega
    have hm : (i + 1) % l.length < l.length := Nat.mod_lt _ (by omega)
    refine Ev.step (fun k => ?_) (ih (i + 1) (wrap64 (s + wrap64 (wrap64 ((rd_T25 l (i : Int)).f0 * (nxt l i).f1) - wrap64 ((rd_T25 l (i : Int)).f1 * (nxt l i).f0)))) (by omega))
    rw [clip_area2.l0, area_idx l i hi hl, if_pos (by omega), if_pos (by omega), if_pos (by omega), if_neg (by omega), if_pos (by omega), if_pos (by omega), w_suc hi (by omega)]
    rfl
theorem area_ev (l : List S25) (hl : l.length ≤ 1099511627776) : Ev (fun k => clip_area2.f k l) (area l) := area_l0 l hl l.length 0 0 (by omega)
def fin (l : List S25) : List S25 := if area (tidyRing (tidy l)) = 0 then [] else tidyRing (tidy l)
def rest (b0 b1 b2 b3 : Int) : Nat → List S25 → List S25
  | 0, l => fin l
  | n + 1, l => rest b0 b1 b2 b3 n (side (clip_hs b0 b1 b2 b3 (3 - n)) l)
theorem rest_ev (b0 b1 b2 b3 : Int) : ∀ (n : Nat) (l : List S25), l.length * 2 ^ n ≤ 1099511627776 → Ev (fun k => clip_Ring.rest k b0 b1 b2 b3 n l) (rest b0 b1 b2 b3 n l)
  | 0, l, hl => by
    have hl : l.length ≤ 1099511627776 := by omega
    have h1 := tidy_length l
    have h2 := tidyRing_length (tidy l)
    refine Ev.bind (tidyRing_ev l hl) (Ev.bind (area_ev _ (by omega)) ?_)
    rw [rest, fin]
    by_cases h : area (tidyRing (tidy l)) = 0
    · simp only [if_pos h]; exact Ev.now _
    · simp only [if_neg h]; exact Ev.now _
  | n + 1, l, hl => by
    have hp : 1 ≤ 2 ^ n := Nat.one_le_two_pow
    have hs := side_length (clip_hs b0 b1 b2 b3 (3 - n)) l
    have hl1 : l.length * 2 ^ n * 2 ≤ 1099511627776 := by rw [Nat.pow_succ, ← Nat.mul_assoc] at hl; exact hl
    have hl2 : l.length * 1 ≤ l.length * 2 ^ n := Nat.mul_le_mul_left _ hp
    have hl3 : (side (clip_hs b0 b1 b2 b3 (3 - n)) l).length * 2 ^ n ≤ 2 * l.length * 2 ^ n := Nat.mul_le_mul_right _ hs
    rw [Nat.mul_assoc] at hl3
    exact Ev.bind (side_ev _ l (by omega)) (rest_ev b0 b1 b2 b3 n _ (by omega))
def validP (p : S25) : Bool := decide (p.f0 ≥ 0) && decide (p.f0 < 32768) && decide (p.f1 ≥ 0) && decide (p.f1 < 32768)
def goodB (b0 b1 b2 b3 : Int) : Bool := decide (b0 ≥ 0) && decide (b0 ≤ b2) && decide (b2 ≤ 32768) && decide (b1 ≥ 0) && decide (b1 ≤ b3) && decide (b3 ≤ 32768)
theorem validP_f (p : S25) : grid_Valid.f p.f0 p.f1 = some (validP p) := by
  rw [grid_Valid.f, validP]
  split
  · split
    · split <;> simp [*]
    · simp [*]
  · simp [*]
theorem goodB_f (b0 b1 b2 b3 : Int) : grid_Check.f b0 b1 b2 b3 = some (if goodB b0 b1 b2 b3 = true then 0 else 2) := by
  have h : grid_valid.f b0 b1 b2 b3 = some (goodB b0 b1 b2 b3) := by
    rw [grid_valid.f, goodB]
    repeat' split
    all_goals simp [*]
  rw [grid_Check.f, h, Option.bind_some]
  split <;> rfl
theorem perm_l0 (b0 b1 b2 b3 : Int) (l : List S25) (hl : l.length ≤ 1099511627776) : ∀ (n i : Nat), i + n = l.length →
    Ev (fun k => clip_permitted.l0 k l (l.length : Int) (i : Int) b0 b1 b2 b3) ((l.drop i).all validP && goodB b0 b1 b2 b3) := by
  intro n
  induction n with
  | zero =>
    intro i h
    refine Ev.step (f := fun _ => some (goodB b0 b1 b2 b3)) (fun k => ?_) ?_
    · rw [clip_permitted.l0, if_neg (by omega), goodB_f, Option.bind_some]
      cases goodB b0 b1 b2 b3 <;> rfl
    · rw [List.drop_eq_nil_of_le (by omega)]; exact Ev.now _
  | succ n ih =>
    intro i h
    have hi : i < l.length := by omega
    rw [List.drop_eq_getElem_cons hi, List.all_cons]
    by_cases hv : validP l[i] = true
    · rw [hv, Bool.true_and]
      refine Ev.step (fun k => ?_) (ih (i + 1) (by omega))
      rw [clip_permitted.l0, if_pos (by omega), if_pos (by omega), if_pos (by omega), validP_f, Option.bind_some, rd_get l i hi, if_pos hv, w_suc hi (by omega)]
    · have hv' : validP l[i] = false := by simpa using hv
      refine Ev.step (f := fun _ => some false) (fun k => ?_) (by rw [hv']; exact Ev.now _)
      rw [clip_permitted.l0, if_pos (by omega), if_pos (by omega), if_pos (by omega), validP_f, Option.bind_some, rd_get l i hi, if_neg hv]
def perm (l : List S25) (b0 b1 b2 b3 : Int) : Bool := l.all validP && goodB b0 b1 b2 b3
theorem perm_ev (l : List S25) (b0 b1 b2 b3 : Int) (hl : l.length ≤ 1099511627776) : Ev (fun k => clip_permitted.f k l b0 b1 b2 b3) (perm l b0 b1 b2 b3) :=
  perm_l0 b0 b1 b2 b3 l hl l.length 0 (by omega)
def ring (l : List S25) (b0 b1 b2 b3 : Int) : List S25 := if perm l b0 b1 b2 b3 = true then rest b0 b1 b2 b3 4 l else []
theorem rest_length (b0 b1 b2 b3 : Int) : ∀ (n : Nat) (l : List S25), (rest b0 b1 b2 b3 n l).length ≤ l.length * 2 ^ n
  | 0, l => by
    have h1 := tidy_length l
    have h2 := tidyRing_length (tidy l)
    rw [rest, fin]
    split
    · simp
    · omega
  | n + 1, l => by
    have h := rest_length b0 b1 b2 b3 n (side (clip_hs b0 b1 b2 b3 (3 - n)) l)
    have hs := Nat.mul_le_mul_right (2 ^ n) (side_length (clip_hs b0 b1 b2 b3 (3 - n)) l)
    rw [rest, Nat.pow_succ, ← Nat.mul_assoc]
    rw [Nat.mul_assoc] at hs
    omega
theorem ring_length (l : List S25) (b0 b1 b2 b3 : Int) : (ring l b0 b1 b2 b3).length ≤ l.length * 16 := by
  rw [ring]
  split
  · exact rest_length b0 b1 b2 b3 4 l
  · simp
/-- Ring gives the clipped ring. -/
theorem ring_ev (l : List S25) (b0 b1 b2 b3 : Int) (hl : l.length ≤ 68719476736) : Ev (fun k => clip_Ring.f k l b0 b1 b2 b3) (ring l b0 b1 b2 b3) := by
  refine Ev.bind (perm_ev l b0 b1 b2 b3 (by omega)) ?_
  rw [ring]
  by_cases h : perm l b0 b1 b2 b3 = true
  · rw [if_pos h]; exact Ev.congr (fun k => if_pos h) (rest_ev b0 b1 b2 b3 4 l (by omega))
  · rw [if_neg h]; exact Ev.congr (fun k => if_neg h) (Ev.now _)
abbrev hs (b0 b1 b2 b3 : Int) (s : Nat) : Half := clip_hs b0 b1 b2 b3 s
/-- The piece of a segment within the sides that are left (n of four). -/
def piece (b0 b1 b2 b3 : Int) : Nat → S25 → S25 → Option (S25 × S25)
  | 0, p, q => if eqp p q = true then none else some (p, q)
  | n + 1, p, q =>
    if has (hs b0 b1 b2 b3 (3 - n)) p = true then
      if has (hs b0 b1 b2 b3 (3 - n)) q = true then piece b0 b1 b2 b3 n p q else piece b0 b1 b2 b3 n p (bord (hs b0 b1 b2 b3 (3 - n)) p q)
    else if has (hs b0 b1 b2 b3 (3 - n)) q = true then piece b0 b1 b2 b3 n (bord (hs b0 b1 b2 b3 (3 - n)) p q) q else none
/-- What a printed piece says of a result: whether there is one, and which. -/
def Says (o : Option (S25 × S25)) (r : Int × Int × Int × Int × Bool) : Prop := r.2.2.2.2 = o.isSome ∧ ∀ a c, o = some (a, c) → r = (a.f0, a.f1, c.f0, c.f1, true)
abbrev cl (b0 b1 b2 b3 : Int) (k : Nat) (s : Nat) (p q : S25) := clip_piece.l0 k (s : Int) false false b0 false true b2 true false b1 true true b3 p.f0 p.f1 q.f0 q.f1
abbrev hv (b0 b1 b2 b3 : Int) : S63 := ⟨⟨false, false, b0⟩, ⟨false, true, b2⟩, ⟨true, false, b1⟩, ⟨true, true, b3⟩⟩
theorem ix_f (b0 b1 b2 b3 : Int) (s : Nat) (h4 : s < 4) : ((ix_63 (hv b0 b1 b2 b3) (s : Int)).f0, (ix_63 (hv b0 b1 b2 b3) (s : Int)).f1, (ix_63 (hv b0 b1 b2 b3) (s : Int)).f2) = hs b0 b1 b2 b3 s := by
  have h : s = 0 ∨ s = 1 ∨ s = 2 ∨ s = 3 := by omega
  rcases h with rfl | rfl | rfl | rfl <;> rfl
theorem piece_j1 (b0 b1 b2 b3 : Int) (k s : Nat) (hs4 : s < 4) (p q : S25) (a c : Bool) :
    clip_piece.j1 (k + 2) a c (s : Int) (if a = true then false else !c) false false b0 false true b2 true false b1 true true b3 p.f0 p.f1 q.f0 q.f1 (hs b0 b1 b2 b3 s).1 (hs b0 b1 b2 b3 s).2.1 (hs b0 b1 b2 b3 s).2.2
      = if a = true then if c = true then cl b0 b1 b2 b3 (k + 1) (s + 1) p q else cl b0 b1 b2 b3 (k + 1) (s + 1) p (bord (hs b0 b1 b2 b3 s) p q)
        else if c = true then cl b0 b1 b2 b3 (k + 1) (s + 1) (bord (hs b0 b1 b2 b3 s) p q) q else some (0, 0, 0, 0, false) := by
  rw [clip_piece.j1, bord_f, w_suc hs4 (by omega)]
  cases a <;> cases c <;> simp [cl]
theorem piece_step (b0 b1 b2 b3 : Int) (k s : Nat) (hs4 : s < 4) (p q : S25) :
    cl b0 b1 b2 b3 (k + 3) s p q = if has (hs b0 b1 b2 b3 s) p = true then if has (hs b0 b1 b2 b3 s) q = true then cl b0 b1 b2 b3 (k + 1) (s + 1) p q else cl b0 b1 b2 b3 (k + 1) (s + 1) p (bord (hs b0 b1 b2 b3 s) p q)
        else if has (hs b0 b1 b2 b3 s) q = true then cl b0 b1 b2 b3 (k + 1) (s + 1) (bord (hs b0 b1 b2 b3 s) p q) q else some (0, 0, 0, 0, false) := by
  have hx := ix_f b0 b1 b2 b3 s hs4
  have e0 : (ix_63 (hv b0 b1 b2 b3) (s : Int)).f0 = (hs b0 b1 b2 b3 s).1 := by rw [← hx]
  have e1 : (ix_63 (hv b0 b1 b2 b3) (s : Int)).f1 = (hs b0 b1 b2 b3 s).2.1 := by rw [← hx]
  have e2 : (ix_63 (hv b0 b1 b2 b3) (s : Int)).f2 = (hs b0 b1 b2 b3 s).2.2 := by rw [← hx]
  rw [← piece_j1 b0 b1 b2 b3 k s hs4 p q]
  show clip_piece.l0 (k + 2 + 1) (s : Int) false false b0 false true b2 true false b1 true true b3 p.f0 p.f1 q.f0 q.f1 = _
  rw [clip_piece.l0, if_pos (by omega), if_pos (by omega)]
  rw [show (⟨⟨false, false, b0⟩, ⟨false, true, b2⟩, ⟨true, false, b1⟩, ⟨true, true, b3⟩⟩ : S63) = hv b0 b1 b2 b3 from rfl, e0, e1, e2, has_f, has_f, Option.bind_some, Option.bind_some]
  split <;> simp [*]
theorem piece_ev (b0 b1 b2 b3 : Int) : ∀ (n : Nat) (p q : S25), n ≤ 4 → ∃ r, Says (piece b0 b1 b2 b3 n p q) r ∧ Ev (fun k => cl b0 b1 b2 b3 k (4 - n) p q) r
  | 0, p, q, _ => by
    refine ⟨(p.f0, p.f1, q.f0, q.f1, !eqp p q), ?_, Ev.step (f := fun _ => some (p.f0, p.f1, q.f0, q.f1, !eqp p q)) (fun k => ?_) (Ev.now _)⟩
    · rw [piece]
      cases h : eqp p q <;> simp [Says]
    · show clip_piece.l0 (k + 1) _ _ _ _ _ _ _ _ _ _ _ _ _ _ _ _ _ = _
      rw [clip_piece.l0, if_neg (by omega)]
      simp [eqp, Bool.not_and]
  | n + 1, p, q, hn => by
    have st := fun k => piece_step b0 b1 b2 b3 k (3 - n) (by omega) p q
    rw [show 4 - (n + 1) = 3 - n by omega, piece]
    have fin : ∀ (p' q' : S25), (∀ k, cl b0 b1 b2 b3 (k + 3) (3 - n) p q = cl b0 b1 b2 b3 (k + 1) (3 - n + 1) p' q') → ∃ r, Says (piece b0 b1 b2 b3 n p' q') r ∧ Ev (fun k => cl b0 b1 b2 b3 k (3 - n) p q) r := fun p' q' h => by
      obtain ⟨r, h1, K, h2⟩ := piece_ev b0 b1 b2 b3 n p' q' (by omega)
      refine ⟨r, h1, K + 3, fun k hk => ?_⟩
      obtain ⟨m, rfl⟩ : ∃ m, k = m + 3 := ⟨k - 3, by omega⟩
      have := h2 (m + 1) (by omega)
      show cl b0 b1 b2 b3 (m + 3) (3 - n) p q = _
      rw [h m, show 3 - n + 1 = 4 - n by omega]
      exact this
    by_cases hp : has (hs b0 b1 b2 b3 (3 - n)) p = true
    · rw [if_pos hp]
      by_cases hq : has (hs b0 b1 b2 b3 (3 - n)) q = true
      · rw [if_pos hq]; exact fin p q (fun k => by rw [st, if_pos hp, if_pos hq])
      · rw [if_neg hq]; exact fin _ _ (fun k => by rw [st, if_pos hp, if_neg hq])
    · rw [if_neg hp]
      by_cases hq : has (hs b0 b1 b2 b3 (3 - n)) q = true
      · rw [if_pos hq]; exact fin _ _ (fun k => by rw [st, if_neg hp, if_pos hq])
      · rw [if_neg hq]
        refine ⟨(0, 0, 0, 0, false), ⟨rfl, fun a c h => by cases h⟩, 3, fun k hk => ?_⟩
        obtain ⟨m, rfl⟩ : ∃ m, k = m + 3 := ⟨k - 3, by omega⟩
        show cl b0 b1 b2 b3 (m + 3) (3 - n) p q = _
        rw [st, if_neg hp, if_neg hq]
theorem piece_f_ev (b0 b1 b2 b3 : Int) (p q : S25) : ∃ r, Says (piece b0 b1 b2 b3 4 p q) r ∧ Ev (fun k => clip_piece.f k p.f0 p.f1 q.f0 q.f1 b0 b1 b2 b3) r := by
  obtain ⟨r, h1, h2⟩ := piece_ev b0 b1 b2 b3 4 p q (by omega)
  exact ⟨r, h1, Ev.congr (fun k => rfl) h2⟩
def shut (done : List (List S25)) (cur : List S25) : List (List S25) := if cur.length = 0 then done else done ++ [cur]
theorem shut_length (done : List (List S25)) (cur : List S25) : (shut done cur).length + 2 ≤ done.length + cur.length + 2 ∧ (shut done cur).length ≤ done.length + 1 := by
  rw [shut]; split <;> simp <;> omega
/-- The parts, from segment i on (from point i to point i + 1), n left. -/
def lineN (b0 b1 b2 b3 : Int) (t : List S25) : Nat → Nat → Bool → List (List S25) → List S25 → List (List S25)
  | 0, _, _, done, cur => shut done cur
  | n + 1, i, opn, done, cur =>
    match piece b0 b1 b2 b3 4 (rd_T25 t (i : Int)) (rd_T25 t ((i + 1 : Nat) : Int)) with
    | none => lineN b0 b1 b2 b3 t n (i + 1) false done cur
    | some (p, q) =>
      if (opn && eqp p (rd_T25 t (i : Int))) = true then lineN b0 b1 b2 b3 t n (i + 1) (eqp q (rd_T25 t ((i + 1 : Nat) : Int))) done (cur ++ [q])
      else lineN b0 b1 b2 b3 t n (i + 1) (eqp q (rd_T25 t ((i + 1 : Nat) : Int))) (shut done cur) [p, q]
theorem meets_iff {opn : Bool} {p a : S25} : (opn && eqp p a) = true ↔ opn = true ∧ p = a := by rw [Bool.and_eq_true, eqp_iff]
theorem go_ev (b0 b1 b2 b3 : Int) (t : List S25) : ∀ (n i : Nat) (opn : Bool) (last : Int) (done : List (List S25)) (cur : List S25), i + n = t.length - 1 → last ≤ (i : Int) → (last = (i : Int) → cur ≠ []) →
    (opn = true ↔ last = (i : Int) ∧ rd_T25 cur ((cur.length : Int) - 1) = rd_T25 t (i : Int)) →
    done.length + cur.length + 2 * n < 1099511627776 → Ev (fun k => clip_Line.go b0 b1 b2 b3 k t (i + 1) last done cur) (lineN b0 b1 b2 b3 t n i opn done cur)
  | 0, i, opn, last, done, cur, hi, hla, hn, ho, hl => by
    refine Ev.step (f := fun _ => some (shut done cur)) (fun k => ?_) (Ev.now _)
    rw [clip_Line.go, if_neg (by omega)]; rfl
  | n + 1, i, opn, last, done, cur, hi, hla, hn, ho, hl => by
    obtain ⟨r, h1, h2⟩ := piece_f_ev b0 b1 b2 b3 (rd_T25 t (i : Int)) (rd_T25 t ((i + 1 : Nat) : Int))
    have hs := shut_length done cur
    have hi1 : ((i + 1 : Nat) : Int) - 1 = (i : Int) := by omega
    refine Ev.step (fun k => ?_) (Ev.bind h2 (f := fun k r => if r.2.2.2.2 = true then
            (clip_Line.meets t cur ((i + 1 : Nat) : Int) last r.1 r.2.1).bind fun c =>
              if c = true then clip_Line.go b0 b1 b2 b3 k t (i + 1 + 1) ((i + 1 : Nat) : Int) done (cur ++ [⟨r.2.2.1, r.2.2.2.1⟩])
              else clip_Line.go b0 b1 b2 b3 k t (i + 1 + 1) ((i + 1 : Nat) : Int) (if cur.length = 0 then done else done ++ [cur]) [⟨r.1, r.2.1⟩, ⟨r.2.2.1, r.2.2.2.1⟩]
          else clip_Line.go b0 b1 b2 b3 k t (i + 1 + 1) last done cur) ?_)
    · rw [clip_Line.go, if_pos (by omega), if_pos ⟨by omega, by omega⟩, hi1]
    · rw [lineN]
      obtain ⟨e1, e2⟩ := h1
      cases hp : piece b0 b1 b2 b3 4 (rd_T25 t (i : Int)) (rd_T25 t ((i + 1 : Nat) : Int)) with
      | none =>
        rw [hp] at e1
        have := go_ev b0 b1 b2 b3 t n (i + 1) false last done cur (by omega) (by omega) (by omega) (by simp; omega) (by omega)
        exact Ev.congr (fun k => by rw [if_neg (by rw [e1]; simp)]) this
      | some pq =>
        obtain ⟨p, q⟩ := pq
        have e := e2 p q hp
        subst e
        dsimp only
        have hm : clip_Line.meets t cur ((i + 1 : Nat) : Int) last p.f0 p.f1 = some (opn && eqp p (rd_T25 t (i : Int))) := by
          have pe : ∀ a : S25, (p.f0 = a.f0 ∧ p.f1 = a.f1) ↔ p = a := fun a => ⟨fun ⟨h3, h4⟩ => eqp_iff.1 (by rw [eqp]; simp [h3, h4]), fun h => by rw [h]; exact ⟨rfl, rfl⟩⟩
          have pe2 : ∀ a : S25, (a.f0 = p.f0 ∧ a.f1 = p.f1) ↔ a = p := fun a => ⟨fun ⟨h3, h4⟩ => eqp_iff.1 (by rw [eqp]; simp [h3, h4]), fun h => by rw [h]; exact ⟨rfl, rfl⟩⟩
          rw [clip_Line.meets, hi1]
          by_cases h3 : last = (i : Int)
          · rw [if_pos h3]
            by_cases h4 : p = rd_T25 t (i : Int)
            · rw [if_pos ((pe _).2 h4), if_neg (by simpa using hn h3)]
              congr 1
              rw [Bool.eq_iff_iff, decide_eq_true_iff, meets_iff, ho]
              exact ⟨fun h => ⟨⟨h3, ((pe2 _).1 h).trans h4⟩, h4⟩, fun h => (pe2 _).2 (h.1.2.trans h4.symm)⟩
            · rw [if_neg (fun h => h4 ((pe _).1 h)), (Bool.eq_false_iff.2 (fun h => h4 (meets_iff.1 h).2) : (opn && eqp p (rd_T25 t (i : Int))) = false)]
          · rw [if_neg h3, (Bool.eq_false_iff.2 (fun h => h3 (ho.1 (meets_iff.1 h).1).1) : (opn && eqp p (rd_T25 t (i : Int))) = false)]
        have la : ∀ (l : List S25), rd_T25 (l ++ [q]) (((l ++ [q]).length : Int) - 1) = q := fun l => by
          rw [show (((l ++ [q]).length : Int) - 1) = ((l.length : Nat) : Int) by simp]
          rw [rd_get _ _ (by simp)]; simp
        by_cases hc : opn = true ∧ p = rd_T25 t (i : Int)
        · rw [if_pos (meets_iff.2 hc)]
          have := go_ev b0 b1 b2 b3 t n (i + 1) (eqp q (rd_T25 t ((i + 1 : Nat) : Int))) ((i + 1 : Nat) : Int) done (cur ++ [q]) (by omega) (by omega) (by simp) (by rw [la, eqp_iff]; simp) (by simp; omega)
          exact Ev.congr (fun k => by rw [if_pos rfl, hm, Option.bind_some, if_pos (meets_iff.2 hc)]) this
        · rw [if_neg (fun h => hc (meets_iff.1 h))]
          have := go_ev b0 b1 b2 b3 t n (i + 1) (eqp q (rd_T25 t ((i + 1 : Nat) : Int))) ((i + 1 : Nat) : Int) (shut done cur) [p, q] (by omega) (by omega) (by simp) (by rw [show [p, q] = [p] ++ [q] from rfl, la, eqp_iff]; simp) (by simp; omega)
          exact Ev.congr (fun k => by rw [if_pos rfl, hm, Option.bind_some, if_neg (fun h => hc (meets_iff.1 h))]; rfl) this
/-- The parts of a line. -/
def line (l : List S25) (b0 b1 b2 b3 : Int) : List (List S25) := if perm l b0 b1 b2 b3 = true then lineN b0 b1 b2 b3 (tidy l) ((tidy l).length - 1) 0 false [] [] else []
theorem line_ev (l : List S25) (b0 b1 b2 b3 : Int) (hl : l.length ≤ 68719476736) : Ev (fun k => clip_Line.f k l b0 b1 b2 b3) (line l b0 b1 b2 b3) := by
  have ht := tidy_length l
  refine Ev.bind (perm_ev l b0 b1 b2 b3 (by omega)) ?_
  rw [line]
  by_cases h : perm l b0 b1 b2 b3 = true
  · rw [if_pos h]
    refine Ev.congr (fun k => if_pos h) (Ev.bind (tidy_ev l (by omega)) ?_)
    exact go_ev b0 b1 b2 b3 (tidy l) ((tidy l).length - 1) 0 false (-1) [] [] (by omega) (by omega) (by omega) (by simp) (by simp; omega)
  · rw [if_neg h]; exact Ev.congr (fun k => if_neg h) (Ev.now _)
theorem lineN_length (b0 b1 b2 b3 : Int) (t : List S25) : ∀ (n i : Nat) (opn : Bool) (done : List (List S25)) (cur : List S25), (lineN b0 b1 b2 b3 t n i opn done cur).length ≤ done.length + n + 1
  | 0, i, opn, done, cur => by rw [lineN]; exact (shut_length done cur).2
  | n + 1, i, opn, done, cur => by
    have hs := (shut_length done cur).2
    have h1 := lineN_length b0 b1 b2 b3 t n (i + 1) false done cur
    rw [lineN]
    split
    · omega
    · rename_i p q _
      have h2 := lineN_length b0 b1 b2 b3 t n (i + 1) (eqp q (rd_T25 t ((i + 1 : Nat) : Int))) done (cur ++ [q])
      have h3 := lineN_length b0 b1 b2 b3 t n (i + 1) (eqp q (rd_T25 t ((i + 1 : Nat) : Int))) (shut done cur) [p, q]
      split
      · omega
      · omega
theorem shut_mem {done : List (List S25)} {cur x : List S25} (h : x ∈ shut done cur) : x ∈ done ∨ (x = cur ∧ cur ≠ []) := by
  rw [shut] at h
  split at h
  · exact .inl h
  · rename_i hc
    rcases List.mem_append.1 h with h | h
    · exact .inl h
    · exact .inr ⟨by simpa using h, by simpa using hc⟩
theorem lineN_part (b0 b1 b2 b3 : Int) (t : List S25) (M : Nat) : ∀ (n i : Nat) (opn : Bool) (done : List (List S25)) (cur : List S25), (∀ x ∈ done, x.length ≤ M) → cur.length + n ≤ M → n + 2 ≤ M → ∀ x ∈ lineN b0 b1 b2 b3 t n i opn done cur, x.length ≤ M
  | 0, i, opn, done, cur, hd, hc, hM => fun x hx => by
    rw [lineN] at hx
    rcases shut_mem hx with h | ⟨rfl, _⟩
    · exact hd x h
    · omega
  | n + 1, i, opn, done, cur, hd, hc, hM => by
    have hs : ∀ x ∈ shut done cur, x.length ≤ M := fun x hx => by
      rcases shut_mem hx with h | ⟨rfl, _⟩
      · exact hd x h
      · omega
    rw [lineN]
    split
    · exact lineN_part b0 b1 b2 b3 t M n _ _ _ _ hd (by omega) (by omega)
    · split
      · exact lineN_part b0 b1 b2 b3 t M n _ _ _ _ hd (by simp; omega) (by omega)
      · exact lineN_part b0 b1 b2 b3 t M n _ _ _ _ hs (by simp; omega) (by omega)
theorem line_length (l : List S25) (b0 b1 b2 b3 : Int) : (line l b0 b1 b2 b3).length ≤ l.length + 1 := by
  have ht := tidy_length l
  rw [line]
  split
  · have := lineN_length b0 b1 b2 b3 (tidy l) ((tidy l).length - 1) 0 false [] []
    simp at this
    omega
  · simp
theorem line_part (l : List S25) (b0 b1 b2 b3 : Int) : ∀ x ∈ line l b0 b1 b2 b3, x.length ≤ l.length + 2 := by
  have ht := tidy_length l
  rw [line]
  split
  · exact lineN_part b0 b1 b2 b3 (tidy l) (l.length + 2) ((tidy l).length - 1) 0 false [] [] (by simp) (by simp; omega) (by omega)
  · simp
def chain : List S25 → Prop
  | p :: q :: t => p ≠ q ∧ chain (q :: t)
  | _ => True
theorem chain_tidyFrom : ∀ (l : List S25) (p : S25), chain (p :: tidyFrom p l)
  | [], p => trivial
  | q :: t, p => by
    rw [tidyFrom]
    split
    · exact chain_tidyFrom t p
    · rename_i h
      exact ⟨fun e => h (eqp_iff.2 e.symm), chain_tidyFrom t q⟩
theorem chain_tidy (l : List S25) : chain (tidy l) := by
  cases l with
  | nil => trivial
  | cons p t => exact chain_tidyFrom t p
theorem wrap_id {x : Int} (h1 : -4611686018427387904 ≤ x) (h2 : x ≤ 4611686018427387904) : wrap64 x = x := by unfold wrap64; omega
/-- The tiles in a row, at a zoom. -/
def pw (z : Int) : Int := if z = 0 then 1 else if z = 1 then 2 else if z = 2 then 4 else if z = 3 then 8 else if z = 4 then 16 else if z = 5 then 32 else if z = 6 then 64 else 128
theorem zooms {z : Int} (h0 : 0 ≤ z) (h7 : z ≤ 7) : z = 0 ∨ z = 1 ∨ z = 2 ∨ z = 3 ∨ z = 4 ∨ z = 5 ∨ z = 6 ∨ z = 7 := by omega
theorem side_f (z : Int) (h0 : 0 ≤ z) (h7 : z ≤ 7) : tilegrid_side.f z = some (pw z) := by
  rcases zooms h0 h7 with rfl | rfl | rfl | rfl | rfl | rfl | rfl | rfl <;> decide +kernel
def goodT (z x y : Int) : Prop := (0 ≤ z ∧ z ≤ 7) ∧ (0 ≤ x ∧ x < pw z) ∧ (0 ≤ y ∧ y < pw z)
instance (z x y : Int) : Decidable (goodT z x y) := inferInstanceAs (Decidable ((0 ≤ z ∧ z ≤ 7) ∧ (0 ≤ x ∧ x < pw z) ∧ (0 ≤ y ∧ y < pw z)))
theorem check_f (z x y : Int) : tilegrid_Check.f z x y = some (if goodT z x y then 0 else 16) := by
  rw [tilegrid_Check.f]
  by_cases h1 : z < 0
  · rw [if_pos h1, if_neg (fun h => by have := h.1.1; omega)]
  rw [if_neg h1]
  by_cases h2 : z > 7
  · rw [if_pos h2, if_neg (fun h => by have := h.1.2; omega)]
  rw [if_neg h2]
  by_cases h3 : x < 0
  · rw [if_pos h3, if_neg (fun h => by have := h.2.1.1; omega)]
  rw [if_neg h3, side_f z (by omega) (by omega), Option.bind_some, Option.bind_some]
  by_cases h4 : x ≥ pw z
  · rw [if_pos h4, if_neg (fun h => by have := h.2.1.2; omega)]
  rw [if_neg h4]
  by_cases h5 : y < 0
  · rw [if_pos h5, if_neg (fun h => by have := h.2.2.1; omega)]
  rw [if_neg h5]
  by_cases h6 : y ≥ pw z
  · rw [if_pos h6, if_neg (fun h => by have := h.2.2.2; omega)]
  rw [if_neg h6, if_pos ⟨⟨by omega, by omega⟩, ⟨by omega, by omega⟩, ⟨by omega, by omega⟩⟩]
/-- The side of a tile. -/
def sz (z : Int) : Int := if 0 ≤ z ∧ z ≤ 7 then 32768 / pw z else 0
theorem pw_pos (z : Int) : 0 < pw z := by
  unfold pw
  repeat' split
  all_goals omega
theorem sz_wrap (z : Int) (h0 : 0 ≤ z) (h7 : z ≤ 7) : wrap64 ((32768 : Int) / pw z) = sz z := by
  rcases zooms h0 h7 with rfl | rfl | rfl | rfl | rfl | rfl | rfl | rfl <;> decide +kernel
theorem size_f (z : Int) : tilegrid_Size.f z = some (sz z) := by
  rw [tilegrid_Size.f]
  by_cases h1 : z < 0
  · rw [if_pos h1, sz, if_neg (by omega)]
  rw [if_neg h1]
  by_cases h2 : z > 7
  · rw [if_pos h2, sz, if_neg (by omega)]
  have hp := pw_pos z
  rw [if_neg h2, side_f z (by omega) (by omega), Option.bind_some, if_neg (by omega), sz_wrap z (by omega) (by omega)]
theorem sz_cases {z : Int} (h0 : 0 ≤ z) (h7 : z ≤ 7) : sz z = 32768 ∨ sz z = 16384 ∨ sz z = 8192 ∨ sz z = 4096 ∨ sz z = 2048 ∨ sz z = 1024 ∨ sz z = 512 ∨ sz z = 256 := by
  rcases zooms h0 h7 with rfl | rfl | rfl | rfl | rfl | rfl | rfl | rfl <;> decide +kernel
abbrev B5 := Int × Int × Int × Int × Int
def box (z x y : Int) : B5 := if goodT z x y then (wrap64 (x * sz z), wrap64 (y * sz z), wrap64 (wrap64 (x + 1) * sz z), wrap64 (wrap64 (y + 1) * sz z), 0) else (0, 0, 0, 0, 16)
theorem box_f (z x y : Int) : tilegrid_Box.f z x y = some (box z x y) := by
  rw [tilegrid_Box.f, check_f, Option.bind_some, box]
  by_cases h : goodT z x y
  · rw [if_pos h, if_pos h, if_pos rfl, size_f, Option.bind_some]
  · rw [if_neg h, if_neg h, if_neg (by decide)]
theorem box_ok {z x y : Int} (h : (box z x y).2.2.2.2 = 0) : goodT z x y := by
  rw [box] at h
  by_cases hg : goodT z x y
  · exact hg
  · rw [if_neg hg] at h
    exact absurd h (by decide)
def ptB (b : B5) (s p0 p1 : Int) : Int × Int × Bool :=
  if b.2.2.2.2 = 0 then (if p0 < b.1 then (0, 0, false) else (if p0 > b.2.2.1 then (0, 0, false) else (if p1 < b.2.1 then (0, 0, false) else (if p1 > b.2.2.2.1 then (0, 0, false) else
    (wrap64 (Int.tdiv (wrap64 ((wrap64 (p0 - b.1)) * 256)) s), wrap64 (Int.tdiv (wrap64 ((wrap64 (p1 - b.2.1)) * 256)) s), true))))) else (0, 0, false)
theorem point_f (z x y p0 p1 : Int) : quant_Point.f z x y p0 p1 = some (ptB (box z x y) (sz z) p0 p1) := by
  rw [quant_Point.f, box_f, Option.bind_some, ptB]
  by_cases h : (box z x y).2.2.2.2 = 0
  · have hg := box_ok h
    have hs := sz_cases hg.1.1 hg.1.2
    have hz : ¬ sz z = 0 := by omega
    rw [if_pos h, if_pos h, size_f, Option.bind_some, if_neg hz]
    repeat' split
    all_goals rfl
  · rw [if_neg h, if_neg h]
def pt (z x y : Int) (p : S25) : S25 := ⟨(ptB (box z x y) (sz z) p.f0 p.f1).1, (ptB (box z x y) (sz z) p.f0 p.f1).2.1⟩
theorem points_l0 (z x y : Int) (l : List S25) (hl : l.length ≤ 1099511627776) : ∀ (n i : Nat) (acc : List S25), i + n = l.length → acc.length ≤ i → Ev (fun k => quant_points.l0 k acc l (l.length : Int) (i : Int) z x y) (acc ++ (l.drop i).map (pt z x y)) := by
  intro n
  induction n with
  | zero =>
    intro i acc h ha
    refine Ev.step (f := fun _ => some acc) (fun k => ?_) ?_
    · rw [quant_points.l0, if_neg (by omega)]
    · rw [List.drop_eq_nil_of_le (by omega), List.map_nil, List.append_nil]; exact Ev.now _
  | succ n ih =>
    intro i acc h ha
    have hi : i < l.length := by omega
    refine Ev.step (f := fun k => quant_points.l0 k (acc ++ [pt z x y l[i]]) l (l.length : Int) ((i + 1 : Nat) : Int) z x y) (fun k => ?_) ?_
    · rw [quant_points.l0, if_pos (by omega), if_pos (by omega), if_pos (by omega), rd_get l i hi, point_f, Option.bind_some, if_pos (by omega), w_suc hi (by omega)]
      rfl
    · have := ih (i + 1) (acc ++ [pt z x y l[i]]) (by omega) (by simp; omega)
      rw [List.drop_eq_getElem_cons hi, List.map_cons, show acc ++ pt z x y l[i] :: (l.drop (i + 1)).map (pt z x y) = (acc ++ [pt z x y l[i]]) ++ (l.drop (i + 1)).map (pt z x y) by rw [List.append_assoc]; rfl]
      exact this
theorem points_ev (z x y : Int) (l : List S25) (hl : l.length ≤ 1099511627776) : Ev (fun k => quant_points.f k z x y l) (l.map (pt z x y)) := points_l0 z x y l hl l.length 0 [] (by omega) (by simp)
def partQ (z x y : Int) (p : List S25) : List S25 := tidy (p.map (pt z x y))
theorem partQ_length (z x y : Int) (p : List S25) : (partQ z x y p).length ≤ p.length := by
  have := tidy_length (p.map (pt z x y))
  rwa [List.length_map] at this
def partsQ (z x y : Int) (ps : List (List S25)) : Nat → Nat → List (List S25) → List (List S25)
  | 0, _, acc => acc
  | n + 1, i, acc => partsQ z x y ps n (i + 1) (if 2 ≤ (partQ z x y (ps.getD i [])).length then acc ++ [partQ z x y (ps.getD i [])] else acc)
theorem parts_ev (z x y : Int) (ps : List (List S25)) (hps : ps.length ≤ 1000000) (hp : ∀ p ∈ ps, p.length ≤ 1000000) : ∀ (n i : Nat) (acc : List (List S25)), i + n = ps.length → acc.length ≤ i → Ev (fun k => quant_Line.go z x y k ps i acc) (partsQ z x y ps n i acc) := by
  intro n
  induction n with
  | zero =>
    intro i acc h ha
    refine Ev.step (f := fun _ => some acc) (fun k => ?_) (Ev.now _)
    rw [quant_Line.go, if_neg (by omega)]
  | succ n ih =>
    intro i acc h ha
    have hi : i < ps.length := by omega
    have hg : ps.getD i [] = ps[i] := by simp [hi]
    have hx := hp _ (List.getElem_mem hi)
    refine Ev.step (f := fun k => (quant_points.f k z x y ps[i]).bind fun q0 => (clip_Tidy.f k q0).bind fun q => quant_Line.go z x y k ps (i + 1) (if 2 ≤ q.length then acc ++ [q] else acc)) (fun k => ?_) (Ev.bind (points_ev z x y ps[i] (by omega)) (Ev.bind (tidy_ev _ (by rw [List.length_map]; omega)) ?_))
    · rw [quant_Line.go, if_pos hi, if_pos (by omega), hg]
    · rw [partsQ, hg]
      exact ih (i + 1) _ (by omega) (by
        split
        · rw [List.length_append, List.length_singleton]; omega
        · omega)
theorem partsQ_length (z x y : Int) (ps : List (List S25)) : ∀ (n i : Nat) (acc : List (List S25)), (partsQ z x y ps n i acc).length ≤ acc.length + n
  | 0, i, acc => by rw [partsQ]; omega
  | n + 1, i, acc => by
    have := partsQ_length z x y ps n (i + 1) (if 2 ≤ (partQ z x y (ps.getD i [])).length then acc ++ [partQ z x y (ps.getD i [])] else acc)
    rw [partsQ]
    split at this
    · rename_i h
      rw [if_pos h]
      rw [List.length_append, List.length_singleton] at this
      omega
    · rename_i h
      rw [if_neg h]
      omega
theorem partsQ_part (z x y : Int) (ps : List (List S25)) (M : Nat) (hp : ∀ p ∈ ps, p.length ≤ M) : ∀ (n i : Nat) (acc : List (List S25)), (∀ p ∈ acc, p.length ≤ M) → ∀ p ∈ partsQ z x y ps n i acc, p.length ≤ M
  | 0, i, acc, h => by rw [partsQ]; exact h
  | n + 1, i, acc, h => by
    rw [partsQ]
    refine partsQ_part z x y ps M hp n (i + 1) _ (fun p hp' => ?_)
    split at hp'
    · rcases List.mem_append.1 hp' with e | e
      · exact h p e
      · rw [List.mem_singleton.1 e]
        have h1 := partQ_length z x y (ps.getD i [])
        by_cases hi : i < ps.length
        · have h2 := hp _ (List.getElem_mem hi)
          have hg : ps.getD i [] = ps[i] := by simp [hi]
          rw [hg] at h1 ⊢
          omega
        · have hg : ps.getD i [] = [] := by simp [hi]
          rw [hg] at h1 ⊢
          simp at h1
          rw [h1]
          simp
    · exact h p hp'
def lineQ (z x y : Int) (l : List S25) : List (List S25) :=
  if (box z x y).2.2.2.2 = 0 then partsQ z x y (line l (box z x y).1 (box z x y).2.1 (box z x y).2.2.1 (box z x y).2.2.2.1) (line l (box z x y).1 (box z x y).2.1 (box z x y).2.2.1 (box z x y).2.2.2.1).length 0 [] else []
theorem lineQ_ev (z x y : Int) (l : List S25) (hl : l.length ≤ 1000) : Ev (fun k => quant_Line.f k z x y l) (lineQ z x y l) := by
  have h1 := line_length l (box z x y).1 (box z x y).2.1 (box z x y).2.2.1 (box z x y).2.2.2.1
  have h2 := line_part l (box z x y).1 (box z x y).2.1 (box z x y).2.2.1 (box z x y).2.2.2.1
  rw [lineQ]
  by_cases h : (box z x y).2.2.2.2 = 0
  · rw [if_pos h]
    refine Ev.congr (fun k => by rw [quant_Line.f, box_f, Option.bind_some, if_pos h]) (Ev.bind (line_ev l _ _ _ _ (by omega)) ?_)
    exact parts_ev z x y _ (by omega) (fun p hp => by have := h2 p hp; omega) _ 0 [] (Nat.zero_add _) (Nat.le_refl _)
  · rw [if_neg h]
    exact Ev.congr (fun k => by rw [quant_Line.f, box_f, Option.bind_some, if_neg h]) (Ev.now _)
theorem lineQ_length (z x y : Int) (l : List S25) (hl : l.length ≤ 1000) : (lineQ z x y l).length ≤ 1000000 ∧ ∀ p ∈ lineQ z x y l, p.length ≤ 1000000 := by
  have h1 := line_length l (box z x y).1 (box z x y).2.1 (box z x y).2.2.1 (box z x y).2.2.2.1
  have h2 := line_part l (box z x y).1 (box z x y).2.1 (box z x y).2.2.1 (box z x y).2.2.2.1
  rw [lineQ]
  split
  · have h3 := partsQ_length z x y (line l (box z x y).1 (box z x y).2.1 (box z x y).2.2.1 (box z x y).2.2.2.1) (line l (box z x y).1 (box z x y).2.1 (box z x y).2.2.1 (box z x y).2.2.2.1).length 0 []
    rw [List.length_nil] at h3
    exact ⟨by omega, partsQ_part z x y _ 1000000 (fun p hp => by have := h2 p hp; omega) _ 0 [] (fun p hp => by simp at hp)⟩
  · exact ⟨by simp, fun p hp => by simp at hp⟩
theorem good_fits {z x : Int} (h0 : 0 ≤ z) (h7 : z ≤ 7) (hx : 0 ≤ x) (hp : x < pw z) : (x + 1) * sz z ≤ 32768 := by
  rcases zooms h0 h7 with rfl | rfl | rfl | rfl | rfl | rfl | rfl | rfl <;> simp [pw, sz] at hp ⊢ <;> omega
end Go.Proofs.Ytdkegdnfbpobnaa.Pl
