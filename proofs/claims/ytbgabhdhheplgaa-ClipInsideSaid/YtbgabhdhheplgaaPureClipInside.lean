/-
  The law ClipInside in plain words: for every row of points and every box there is a number of rounds after which the printed law gives true.
-/
import Derived.IntWalk
import Derived.Test.YtbgabhdhheplgaaPALLx3
import Derived.Test.YtbgabhdhheplgaaPALLx12
import Derived.Test.YtbgabhdhheplgaaPALLx6
import Derived.Test.YtbgabhdhheplgaaPALLx14
import Derived.Test.YtbgabhdhheplgaaPALLx15
import Derived.Test.YtbgabhdhheplgaaPALLx8
import Derived.Test.YtbgabhdhheplgaaPALLx9
import Derived.Test.YtbgabhdhheplgaaPALLx7
import Derived.Test.YtbgabhdhheplgaaPALLx23
import Derived.Test.YtbgabhdhheplgaaPALLxoClipInside
section
namespace Go.Proofs.Ytbgabhdhheplgaa.Pl
open Go.RowKit Go.Proofs.Ytbgabhdhheplgaa.PALL Go.Proofs.YtbgabhdhheplgaaW.PrintWords Go.Proofs.YtbgabhdhheplgaaW.PrintLast Go.Proofs.YtbgabhdhheplgaaW.PrintMore

def eqp (p q : S37) : Bool := p.f0 == q.f0 && p.f1 == q.f1
theorem eqp_iff {p q : S37} : eqp p q = true ↔ p = q := by
  obtain ⟨a, b⟩ := p
  obtain ⟨c, d⟩ := q
  simp [eqp]
theorem eqp_self (p : S37) : eqp p p = true := eqp_iff.2 rfl
def tidyFrom (q : S37) : List S37 → List S37
  | [] => []
  | p :: t => if eqp p q = true then tidyFrom q t else p :: tidyFrom p t
def tidy : List S37 → List S37
  | [] => []
  | p :: t => p :: tidyFrom p t
theorem tidyFrom_length (q : S37) (l : List S37) : (tidyFrom q l).length ≤ l.length := by
  induction l generalizing q with
  | nil => simp [tidyFrom]
  | cons p t ih =>
    rw [tidyFrom]
    split
    · have := ih q; simp; omega
    · have := ih p; simp; omega
theorem tidy_length (l : List S37) : (tidy l).length ≤ l.length := by
  cases l with
  | nil => simp [tidy]
  | cons p t => have := tidyFrom_length p t; simp [tidy]; omega
theorem w_suc {i n : Nat} (h : i < n) (hn : n ≤ 4611686018427387904) : wrap64 ((i : Int) + 1) = ((i + 1 : Nat) : Int) := by
  unfold wrap64; omega
theorem w_pre {i n : Nat} (h : i < n) (h0 : 0 < i) (hn : n ≤ 4611686018427387904) : wrap64 ((i : Int) - 1) = ((i - 1 : Nat) : Int) := by
  unfold wrap64; omega
theorem rd_nat (l : List S37) (i : Nat) : rd_T37 l (i : Int) = l.getD i z37 := by simp [rd_T37]
theorem rd_get (l : List S37) (i : Nat) (h : i < l.length) : rd_T37 l (i : Int) = l[i] := by
  rw [rd_nat, List.getD_eq_getElem?_getD, List.getElem?_eq_getElem h]; rfl
theorem eta (p : S37) : (⟨p.f0, p.f1⟩ : S37) = p := rfl
theorem ne_bool (p q : S37) : ((!(p.f0 == q.f0) || !(p.f1 == q.f1)) = true) ↔ ¬ eqp p q = true := by
  simp only [eqp]; cases (p.f0 == q.f0) <;> cases (p.f1 == q.f1) <;> simp

theorem tidy_l0 (l : List S37) (hl : l.length ≤ 1099511627776) : ∀ (n i : Nat) (acc : List S37), i + n = l.length → 0 < i → acc.length ≤ i →
    Ev (fun k => clip_Tidy.l0 k l acc l (l.length : Int) (i : Int)) (acc ++ tidyFrom (rd_T37 l ((i - 1 : Nat) : Int)) (l.drop i)) := by
  intro n
  induction n with
  | zero =>
    intro i acc h h0 ha
    rw [List.drop_eq_nil_of_le (by omega), tidyFrom, List.append_nil]
    refine Ev.step (f := fun _ => some acc) (fun k => ?_) (Ev.now _)
    rw [clip_Tidy.l0, if_neg (by omega)]
  | succ n ih =>
    intro i acc h h0 ha
    have hi : i < l.length := by omega
    rw [List.drop_eq_getElem_cons hi, tidyFrom]
    have hw := w_suc hi (by omega)
    have hp := w_pre hi h0 (by omega)
    by_cases he : eqp l[i] (rd_T37 l ((i - 1 : Nat) : Int)) = true
    · rw [if_pos he]
      have := ih (i + 1) acc (by omega) (by omega) (by omega)
      rw [show i + 1 - 1 = i by omega, rd_get l i hi, eqp_iff.1 he] at this
      refine Ev.step (f := fun k => clip_Tidy.l0 k l acc l (l.length : Int) ((i + 1 : Nat) : Int)) (fun k => ?_) this
      rw [clip_Tidy.l0, if_pos (by omega), if_pos (by omega), if_pos (by omega), if_neg (by omega), hp, if_pos (by omega), if_pos (by omega), if_neg (by rw [ne_bool, rd_get l i hi]; simpa using he), hw]
    · rw [if_neg he]
      have := ih (i + 1) (acc ++ [l[i]]) (by omega) (by omega) (by simp; omega)
      rw [show i + 1 - 1 = i by omega, rd_get l i hi, List.append_assoc] at this
      refine Ev.step (f := fun k => clip_Tidy.l0 k l (acc ++ [l[i]]) l (l.length : Int) ((i + 1 : Nat) : Int)) (fun k => ?_) this
      rw [clip_Tidy.l0, if_pos (by omega), if_pos (by omega), if_pos (by omega), if_neg (by omega), hp, if_pos (by omega), if_pos (by omega), if_pos (by rw [ne_bool, rd_get l i hi]; exact he), if_pos (by omega), hw, eta, rd_get l i hi]
/-- Tidy gives the tidy line. -/
theorem tidy_ev (l : List S37) (hl : l.length ≤ 1099511627776) : Ev (fun k => clip_Tidy.f k l) (tidy l) := by
  cases l with
  | nil =>
    refine Ev.step (f := fun _ => some []) (fun k => ?_) (Ev.now _)
    simp [clip_Tidy.f, clip_Tidy.l0]
  | cons p t =>
    have hc : ((p :: t).length : Int) = (t.length : Int) + 1 := by simp
    have := tidy_l0 (p :: t) hl t.length 1 [p] (by simp; omega) (by omega) (by simp)
    refine Ev.step (f := fun k => clip_Tidy.l0 k (p :: t) [p] (p :: t) ((p :: t).length : Int) ((1 : Nat) : Int)) (fun k => ?_) this
    rw [clip_Tidy.f, clip_Tidy.l0, if_pos (by omega), if_pos (by omega), if_pos (by omega), if_pos rfl, if_pos (by simp), show wrap64 (0 + 1) = ((1 : Nat) : Int) by (unfold wrap64; omega), show rd_T37 (p :: t) 0 = p from rfl]
    rfl

theorem same_l0 (t : List S37) (hl : t.length ≤ 1099511627776) : ∀ (n i : Nat), i + n = t.length → Ev (fun k => mapmakerref08_Same.l0 k t t (i : Int)) true := by
  intro n
  induction n with
  | zero =>
    intro i h
    refine Ev.step (f := fun _ => some true) (fun k => ?_) (Ev.now _)
    rw [mapmakerref08_Same.l0, if_neg (by omega)]
  | succ n ih =>
    intro i h
    have hw := w_suc (show i < t.length by omega) (by omega)
    refine Ev.step (fun k => ?_) (ih (i + 1) (by omega))
    rw [mapmakerref08_Same.l0, if_pos (by omega), if_pos (by omega), if_pos (by omega), if_neg (by rw [ne_bool]; simp [eqp_self]), hw]
/-- Same says that a row is itself. -/
theorem same_ev (t : List S37) (hl : t.length ≤ 1099511627776) : Ev (fun k => mapmakerref08_Same.f k t t) true :=
  Ev.congr (fun k => by rw [mapmakerref08_Same.f, if_pos rfl]; rfl) (same_l0 t hl t.length 0 (by omega))

/-- The row without the points at its end that are its first. -/
def trim : Nat → List S37 → List S37
  | 0, t => t
  | n + 1, t => if 1 < t.length ∧ eqp (rd_T37 t ((t.length - 1 : Nat) : Int)) (rd_T37 t ((0 : Nat) : Int)) = true then trim n (t.take (t.length - 1)) else t
def tidyRing (t : List S37) : List S37 := if (trim t.length t).length < 3 then [] else trim t.length t
theorem trim_length (n : Nat) (t : List S37) : (trim n t).length ≤ t.length := by
  induction n generalizing t with
  | zero => exact Nat.le_refl _
  | succ n ih =>
    rw [trim]
    split
    · have := ih (t.take (t.length - 1)); simp at this; omega
    · exact Nat.le_refl _
theorem ring_l0 : ∀ (n : Nat) (t : List S37), t.length ≤ n → n ≤ 1099511627776 → Ev (fun k => clip_TidyRing.l0 k t) (if (trim n t).length < 3 then [] else trim n t) := by
  intro n
  induction n with
  | zero =>
    intro t ht hn
    refine Ev.step (f := fun _ => some []) (fun k => ?_) ?_
    · rw [clip_TidyRing.l0, if_neg (by omega), if_pos (by omega)]
    · rw [trim, if_pos (by omega)]; exact Ev.now _
  | succ n ih =>
    intro t ht hn
    by_cases h1 : 1 < t.length
    · have hw : wrap64 ((t.length : Int) - 1) = ((t.length - 1 : Nat) : Int) := by unfold wrap64; omega
      by_cases h2 : eqp (rd_T37 t ((t.length - 1 : Nat) : Int)) (rd_T37 t ((0 : Nat) : Int)) = true
      · rw [show trim (n + 1) t = trim n (t.take (t.length - 1)) by rw [trim, if_pos ⟨h1, h2⟩]]
        refine Ev.step (fun k => ?_) (ih (t.take (t.length - 1)) (by simp; omega) (by omega))
        rw [clip_TidyRing.l0, if_pos (by omega), hw, if_pos (by omega), if_pos (by omega), if_pos (by omega), if_pos (by simpa [eqp] using h2), if_pos (by omega)]
        simp
      · rw [show trim (n + 1) t = t by rw [trim, if_neg (fun h => h2 h.2)]]
        refine Ev.step (f := fun _ => some (if t.length < 3 then [] else t)) (fun k => ?_) (Ev.now _)
        rw [clip_TidyRing.l0, if_pos (by omega), hw, if_pos (by omega), if_pos (by omega), if_pos (by omega), if_neg (by simpa [eqp] using h2)]
        by_cases h3 : t.length < 3
        · rw [if_pos h3, if_pos (by omega)]
        · rw [if_neg h3, if_neg (by omega)]
    · rw [show trim (n + 1) t = t by rw [trim, if_neg (fun h => h1 h.1)]]
      refine Ev.step (f := fun _ => some (if t.length < 3 then [] else t)) (fun k => ?_) (Ev.now _)
      rw [clip_TidyRing.l0, if_neg (by omega), if_pos (by omega), if_pos (by omega)]
/-- TidyRing gives the tidy ring. -/
theorem tidyRing_ev (l : List S37) (hl : l.length ≤ 1099511627776) : Ev (fun k => clip_TidyRing.f k l) (tidyRing (tidy l)) :=
  Ev.bind (tidy_ev l hl) (ring_l0 _ _ (Nat.le_refl _) (by have := tidy_length l; omega))
theorem tidyRing_length (t : List S37) : (tidyRing t).length ≤ t.length := by
  rw [tidyRing]
  split
  · simp
  · exact trim_length _ _
end Go.Proofs.Ytbgabhdhheplgaa.Pl
end
section
namespace Go.Proofs.Ytbgabhdhheplgaa.Pl
open Go.RowKit Go.Proofs.Ytbgabhdhheplgaa.PALL Go.Proofs.YtbgabhdhheplgaaW.PrintWords Go.Proofs.YtbgabhdhheplgaaW.PrintLast Go.Proofs.YtbgabhdhheplgaaW.PrintMore

theorem lives_ev : Ev (fun k => mapmakerlaw12_lives.f k) true := Ev.of (fun k => mapmakerlaw12_lives.mono k) (k := 40) (by decide +kernel)
end Go.Proofs.Ytbgabhdhheplgaa.Pl
end
section
namespace Go.Proofs.Ytbgabhdhheplgaa.Pl
open Go.RowKit Go.Proofs.Ytbgabhdhheplgaa.PALL Go.Proofs.YtbgabhdhheplgaaW.PrintWords Go.Proofs.YtbgabhdhheplgaaW.PrintLast Go.Proofs.YtbgabhdhheplgaaW.PrintMore

def flr (a d : Int) : Int := if Int.tmod a d < 0 then wrap64 (wrap64 (Int.tdiv a d) - 1) else wrap64 (Int.tdiv a d)
def rem (a d : Int) : Int := if Int.tmod a d < 0 then wrap64 (Int.tmod a d + d) else Int.tmod a d
def rdiv (a d : Int) : Int := if d ≤ 0 then 0 else if rem a d ≥ wrap64 (d - rem a d) then wrap64 (flr a d + 1) else flr a d
theorem flr_f (a d : Int) (hd : ¬ d ≤ 0) : num_FloorDiv.f a d = some (flr a d) := by
  rw [num_FloorDiv.f, if_neg hd, if_neg (by omega), flr]
  split <;> rfl
theorem rdiv_j0 (k : Nat) (a d x : Int) (hd : ¬ d ≤ 0) : num_RoundDiv.j0 (k + 1) a d x = some (if x ≥ wrap64 (d - x) then wrap64 (flr a d + 1) else flr a d) := by
  rw [num_RoundDiv.j0, flr_f a d hd]
  split <;> rfl
theorem rdiv_f (k : Nat) (a d : Int) : num_RoundDiv.f (k + 1) a d = some (rdiv a d) := by
  rw [num_RoundDiv.f, rdiv]
  by_cases hd : d ≤ 0
  · rw [if_pos hd, if_pos hd]
  · rw [if_neg hd, if_neg hd, if_neg (by omega), rdiv_j0 k _ _ _ hd, rdiv_j0 k _ _ _ hd, rem]
    split <;> rfl
def ratio (n m d : Int) : Int := if d < 0 then rdiv (wrap64 (wrap64 (-n) * m)) (wrap64 (-d)) else rdiv (wrap64 (n * m)) d
theorem ratio_f (k : Nat) (n m d : Int) : clip_ratio.f (k + 1) n m d = some (ratio n m d) := by
  rw [clip_ratio.f, ratio, rdiv_f, rdiv_f]
  split <;> rfl
abbrev Half := Bool × Bool × Int
def less (p q : S37) : Bool := if p.f0 = q.f0 then decide (p.f1 < q.f1) else decide (p.f0 < q.f0)
def bord1 (h : Half) (a c : S37) : S37 :=
  if h.1 = true then ⟨wrap64 (a.f0 + ratio (wrap64 (h.2.2 - a.f1)) (wrap64 (c.f0 - a.f0)) (wrap64 (c.f1 - a.f1))), h.2.2⟩
  else ⟨h.2.2, wrap64 (a.f1 + ratio (wrap64 (h.2.2 - a.f0)) (wrap64 (c.f1 - a.f1)) (wrap64 (c.f0 - a.f0)))⟩
def bord (h : Half) (p q : S37) : S37 := if less q p = true then bord1 h q p else bord1 h p q
theorem less_f (p q : S37) : grid_Less.f p.f0 p.f1 q.f0 q.f1 = some (less p q) := by
  rw [grid_Less.f, less]
  split <;> rfl
theorem bord_one (k : Nat) (h : Half) (a c : S37) : clip_half_border.one (k + 1) h.1 h.2.2 a.f0 a.f1 c.f0 c.f1 = some ((bord1 h a c).f0, (bord1 h a c).f1) := by
  rw [clip_half_border.one, bord1, ratio_f, ratio_f]
  split <;> rfl
theorem bord_f (k : Nat) (h : Half) (p q : S37) : clip_half_border.f (k + 1) h.1 h.2.1 h.2.2 p.f0 p.f1 q.f0 q.f1 = some ((bord h p q).f0, (bord h p q).f1) := by
  rw [clip_half_border.f, less_f, Option.bind_some, bord]
  cases less q p
  · exact bord_one k h p q
  · exact bord_one k h q p
def has (h : Half) (p : S37) : Bool := if h.1 = true then (if h.2.1 = true then decide (p.f1 ≤ h.2.2) else decide (p.f1 ≥ h.2.2)) else (if h.2.1 = true then decide (p.f0 ≤ h.2.2) else decide (p.f0 ≥ h.2.2))
theorem has_f (h : Half) (p : S37) : clip_half_has.f h.1 h.2.1 h.2.2 p.f0 p.f1 = some (has h p) := by
  rw [clip_half_has.f, has]
  split <;> split <;> rfl

def step (h : Half) (p q : S37) : List S37 := (if has h p = true then [p] else []) ++ (if has h p = has h q then [] else [bord h p q])
theorem step_length (h : Half) (p q : S37) : (step h p q).length ≤ 2 := by
  rw [step]
  split <;> split <;> simp
def nxt (l : List S37) (i : Nat) : S37 := rd_T37 l (((i + 1) % l.length : Nat) : Int)
def sideN (h : Half) (l : List S37) : Nat → Nat → List S37
  | 0, _ => []
  | n + 1, i => step h (rd_T37 l (i : Int)) (nxt l i) ++ sideN h l n (i + 1)
theorem sideN_length (h : Half) (l : List S37) (n i : Nat) : (sideN h l n i).length ≤ 2 * n := by
  induction n generalizing i with
  | zero => simp [sideN]
  | succ n ih => have := ih (i + 1); have := step_length h (rd_T37 l (i : Int)) (nxt l i); simp [sideN]; omega
def side (h : Half) (l : List S37) : List S37 := sideN h l l.length 0
theorem side_length (h : Half) (l : List S37) : (side h l).length ≤ 2 * l.length := sideN_length _ _ _ _
theorem nxt_int (l : List S37) (i : Nat) : rd_T37 l (((i : Int) + 1) % (l.length : Int)) = nxt l i := by
  rw [nxt]; congr 1
theorem side_go (h : Half) (l : List S37) : ∀ (n i : Nat) (acc : List S37), i + n = l.length → acc.length + 2 * n ≤ 8796093022200 →
    Ev (fun k => clip_Ring.side k h l i acc) (acc ++ sideN h l n i) := by
  intro n
  induction n with
  | zero =>
    intro i acc hi ha
    refine Ev.step (f := fun _ => some acc) (fun k => ?_) (by rw [sideN, List.append_nil]; exact Ev.now _)
    rw [clip_Ring.side, if_neg (by omega)]
  | succ n ih =>
    intro i acc hi ha
    have hs := step_length h (rd_T37 l (i : Int)) (nxt l i)
    have := ih (i + 1) (acc ++ step h (rd_T37 l (i : Int)) (nxt l i)) (by omega) (by simp; omega)
    rw [List.append_assoc] at this
    obtain ⟨K, hK⟩ := this
    refine ⟨K + 3, fun k hk => ?_⟩
    obtain ⟨m, rfl⟩ : ∃ m, k = m + 2 + 1 := ⟨k - 3, by omega⟩
    have h2 := hK (m + 2) (by omega)
    show clip_Ring.side (m + 2 + 1) h l i acc = _
    rw [clip_Ring.side, if_pos (by omega), if_pos (by omega), nxt_int, has_f, has_f, Option.bind_some, Option.bind_some, bord_f, Option.bind_some]
    rw [step] at h2
    rw [sideN, step, ← h2]
    cases has h (rd_T37 l (i : Int)) <;> cases has h (nxt l i) <;> simp only [if_true, if_false, List.nil_append, List.append_nil, List.append_assoc, Bool.false_eq_true, reduceCtorEq] <;> rfl
theorem side_ev (h : Half) (l : List S37) (hl : l.length ≤ 1099511627776) : Ev (fun k => clip_Ring.side k h l 0 []) (side h l) :=
  side_go h l l.length 0 [] (by omega) (by simp; omega)

def areaN (l : List S37) : Nat → Nat → Int → Int
  | 0, _, s => s
  | n + 1, i, s => areaN l n (i + 1) (wrap64 (s + wrap64 (wrap64 ((rd_T37 l (i : Int)).f0 * (nxt l i).f1) - wrap64 ((rd_T37 l (i : Int)).f1 * (nxt l i).f0))))
def area (l : List S37) : Int := areaN l l.length 0 0
theorem area_idx (l : List S37) (i : Nat) (h : i < l.length) (hl : l.length ≤ 1099511627776) : Int.tmod (wrap64 ((i : Int) + 1)) (l.length : Int) = (((i + 1) % l.length : Nat) : Int) := by
  rw [w_suc h (by omega), Int.tmod_eq_emod_of_nonneg (by omega)]; simp
theorem area_l0 (l : List S37) (hl : l.length ≤ 1099511627776) : ∀ (n i : Nat) (s : Int), i + n = l.length → Ev (fun k => clip_area2.l0 k l s l (l.length : Int) (i : Int)) (areaN l n i s) := by
  intro n
  induction n with
  | zero =>
    intro i s h
    refine Ev.step (f := fun _ => some s) (fun k => ?_) (Ev.now _)
    rw [clip_area2.l0, if_neg (by omega)]
  | succ n ih =>
    intro i s h
    have hi : i < l.length := by omega
    have hm : (i + 1) % l.length < l.length := Nat.mod_lt _ (by omega)
    refine Ev.step (fun k => ?_) (ih (i + 1) (wrap64 (s + wrap64 (wrap64 ((rd_T37 l (i : Int)).f0 * (nxt l i).f1) - wrap64 ((rd_T37 l (i : Int)).f1 * (nxt l i).f0)))) (by omega))
    rw [clip_area2.l0, area_idx l i hi hl, if_pos (by omega), if_pos (by omega), if_pos (by omega), if_neg (by omega), if_pos (by omega), if_pos (by omega), w_suc hi (by omega)]
    rfl
theorem area_ev (l : List S37) (hl : l.length ≤ 1099511627776) : Ev (fun k => clip_area2.f k l) (area l) := area_l0 l hl l.length 0 0 (by omega)

def fin (l : List S37) : List S37 := if area (tidyRing (tidy l)) = 0 then [] else tidyRing (tidy l)
def rest (b0 b1 b2 b3 : Int) : Nat → List S37 → List S37
  | 0, l => fin l
  | n + 1, l => rest b0 b1 b2 b3 n (side (clip_hs b0 b1 b2 b3 (3 - n)) l)
theorem rest_ev (b0 b1 b2 b3 : Int) : ∀ (n : Nat) (l : List S37), l.length * 2 ^ n ≤ 1099511627776 → Ev (fun k => clip_Ring.rest k b0 b1 b2 b3 n l) (rest b0 b1 b2 b3 n l)
  | 0, l, hl => by
    have hl : l.length ≤ 1099511627776 := by omega
    have h1 := tidy_length l
    have h2 := tidyRing_length (tidy l)
    refine Ev.bind (tidyRing_ev l hl) (Ev.bind (area_ev _ (by omega)) ?_)
    rw [rest, fin]
    by_cases h : area (tidyRing (tidy l)) = 0
    · simp only [if_pos h]; exact Ev.now _
    · simp only [if_neg h]; exact Ev.now _
  | n + 1, l, hl => by
    have hp : 1 ≤ 2 ^ n := Nat.one_le_two_pow
    have hs := side_length (clip_hs b0 b1 b2 b3 (3 - n)) l
    have hl1 : l.length * 2 ^ n * 2 ≤ 1099511627776 := by rw [Nat.pow_succ, ← Nat.mul_assoc] at hl; exact hl
    have hl2 : l.length * 1 ≤ l.length * 2 ^ n := Nat.mul_le_mul_left _ hp
    have hl3 : (side (clip_hs b0 b1 b2 b3 (3 - n)) l).length * 2 ^ n ≤ 2 * l.length * 2 ^ n := Nat.mul_le_mul_right _ hs
    rw [Nat.mul_assoc] at hl3
    exact Ev.bind (side_ev _ l (by omega)) (rest_ev b0 b1 b2 b3 n _ (by omega))

def validP (p : S37) : Bool := decide (p.f0 ≥ 0) && decide (p.f0 < 32768) && decide (p.f1 ≥ 0) && decide (p.f1 < 32768)
def goodB (b0 b1 b2 b3 : Int) : Bool := decide (b0 ≥ 0) && decide (b0 ≤ b2) && decide (b2 ≤ 32768) && decide (b1 ≥ 0) && decide (b1 ≤ b3) && decide (b3 ≤ 32768)
theorem validP_f (p : S37) : grid_Valid.f p.f0 p.f1 = some (validP p) := by
  rw [grid_Valid.f, validP]
  split
  · split
    · split <;> simp [*]
    · simp [*]
  · simp [*]
theorem goodB_f (b0 b1 b2 b3 : Int) : grid_Check.f b0 b1 b2 b3 = some (if goodB b0 b1 b2 b3 = true then 0 else 2) := by
  have h : grid_valid.f b0 b1 b2 b3 = some (goodB b0 b1 b2 b3) := by
    rw [grid_valid.f, goodB]
    repeat' split
    all_goals simp [*]
  rw [grid_Check.f, h, Option.bind_some]
  split <;> rfl
theorem perm_l0 (b0 b1 b2 b3 : Int) (l : List S37) (hl : l.length ≤ 1099511627776) : ∀ (n i : Nat), i + n = l.length →
    Ev (fun k => clip_permitted.l0 k l (l.length : Int) (i : Int) b0 b1 b2 b3) ((l.drop i).all validP && goodB b0 b1 b2 b3) := by
  intro n
  induction n with
  | zero =>
    intro i h
    refine Ev.step (f := fun _ => some (goodB b0 b1 b2 b3)) (fun k => ?_) ?_
    · rw [clip_permitted.l0, if_neg (by omega), goodB_f, Option.bind_some]
      cases goodB b0 b1 b2 b3 <;> rfl
    · rw [List.drop_eq_nil_of_le (by omega)]; exact Ev.now _
  | succ n ih =>
    intro i h
    have hi : i < l.length := by omega
    rw [List.drop_eq_getElem_cons hi, List.all_cons]
    by_cases hv : validP l[i] = true
    · rw [hv, Bool.true_and]
      refine Ev.step (fun k => ?_) (ih (i + 1) (by omega))
      rw [clip_permitted.l0, if_pos (by omega), if_pos (by omega), if_pos (by omega), validP_f, Option.bind_some, rd_get l i hi, if_pos hv, w_suc hi (by omega)]
    · have hv' : validP l[i] = false := by simpa using hv
      refine Ev.step (f := fun _ => some false) (fun k => ?_) (by rw [hv']; exact Ev.now _)
      rw [clip_permitted.l0, if_pos (by omega), if_pos (by omega), if_pos (by omega), validP_f, Option.bind_some, rd_get l i hi, if_neg hv]
def perm (l : List S37) (b0 b1 b2 b3 : Int) : Bool := l.all validP && goodB b0 b1 b2 b3
theorem perm_ev (l : List S37) (b0 b1 b2 b3 : Int) (hl : l.length ≤ 1099511627776) : Ev (fun k => clip_permitted.f k l b0 b1 b2 b3) (perm l b0 b1 b2 b3) :=
  perm_l0 b0 b1 b2 b3 l hl l.length 0 (by omega)
def ring (l : List S37) (b0 b1 b2 b3 : Int) : List S37 := if perm l b0 b1 b2 b3 = true then rest b0 b1 b2 b3 4 l else []
theorem rest_length (b0 b1 b2 b3 : Int) : ∀ (n : Nat) (l : List S37), (rest b0 b1 b2 b3 n l).length ≤ l.length * 2 ^ n
  | 0, l => by
    have h1 := tidy_length l
    have h2 := tidyRing_length (tidy l)
    rw [rest, fin]
    split
    · simp
    · omega
  | n + 1, l => by
    have h := rest_length b0 b1 b2 b3 n (side (clip_hs b0 b1 b2 b3 (3 - n)) l)
    have hs := Nat.mul_le_mul_right (2 ^ n) (side_length (clip_hs b0 b1 b2 b3 (3 - n)) l)
    rw [rest, Nat.pow_succ, ← Nat.mul_assoc]
    rw [Nat.mul_assoc] at hs
    omega
theorem ring_length (l : List S37) (b0 b1 b2 b3 : Int) : (ring l b0 b1 b2 b3).length ≤ l.length * 16 := by
  rw [ring]
  split
  · exact rest_length b0 b1 b2 b3 4 l
  · simp
/-- Ring gives the clipped ring. -/
theorem ring_ev (l : List S37) (b0 b1 b2 b3 : Int) (hl : l.length ≤ 68719476736) : Ev (fun k => clip_Ring.f k l b0 b1 b2 b3) (ring l b0 b1 b2 b3) := by
  refine Ev.bind (perm_ev l b0 b1 b2 b3 (by omega)) ?_
  rw [ring]
  by_cases h : perm l b0 b1 b2 b3 = true
  · rw [if_pos h]; exact Ev.congr (fun k => if_pos h) (rest_ev b0 b1 b2 b3 4 l (by omega))
  · rw [if_neg h]; exact Ev.congr (fun k => if_neg h) (Ev.now _)
end Go.Proofs.Ytbgabhdhheplgaa.Pl
end
section
namespace Go.Proofs.Ytbgabhdhheplgaa.Pl
open Go.RowKit Go.Proofs.Ytbgabhdhheplgaa.PALL Go.Proofs.YtbgabhdhheplgaaW.PrintWords Go.Proofs.YtbgabhdhheplgaaW.PrintLast Go.Proofs.YtbgabhdhheplgaaW.PrintMore

abbrev hs (b0 b1 b2 b3 : Int) (s : Nat) : Half := clip_hs b0 b1 b2 b3 s
theorem ref_area_l0 (l : List S37) (hl : l.length ≤ 1099511627776) : ∀ (n i : Nat) (s : Int), i + n = l.length → Ev (fun k => mapmakerref12_Area2.l0 k l s (i : Int)) (areaN l n i s) := by
  intro n
  induction n with
  | zero =>
    intro i s h
    refine Ev.step (f := fun _ => some s) (fun k => ?_) (Ev.now _)
    rw [mapmakerref12_Area2.l0, if_neg (by omega)]
  | succ n ih =>
    intro i s h
    have hi : i < l.length := by omega
    have hm : (i + 1) % l.length < l.length := Nat.mod_lt _ (by omega)
    have e : ∀ x y : Int, wrap64 (wrap64 (s + x) - y) = wrap64 (s + wrap64 (x - y)) := fun x y => by unfold wrap64; omega
    refine Ev.step (fun k => ?_) (ih (i + 1) (wrap64 (s + wrap64 (wrap64 ((rd_T37 l (i : Int)).f0 * (nxt l i).f1) - wrap64 ((rd_T37 l (i : Int)).f1 * (nxt l i).f0)))) (by omega))
    rw [mapmakerref12_Area2.l0, area_idx l i hi hl, if_pos (by omega), if_pos (by omega), if_neg (by omega), if_pos (by omega), if_pos (by omega), w_suc hi (by omega), e]
    rfl
theorem ref_area_ev (l : List S37) (hl : l.length ≤ 1099511627776) : Ev (fun k => mapmakerref12_Area2.f k l) (area l) := ref_area_l0 l hl l.length 0 0 (by omega)
theorem ref_check_f (b0 b1 b2 b3 : Int) : mapmakerref08_Check.f b0 b1 b2 b3 = some (if goodB b0 b1 b2 b3 = true then 0 else 2) := by
  have h : mapmakerref08_Good.f b0 b1 b2 b3 = some (goodB b0 b1 b2 b3) := by
    rw [mapmakerref08_Good.f, goodB]
    repeat' split
    all_goals simp [*]
  rw [mapmakerref08_Check.f, h, Option.bind_some]
  split <;> rfl
theorem ref_valid_f (p : S37) : mapmakerref08_Valid.f p.f0 p.f1 = some (validP p) := by
  rw [mapmakerref08_Valid.f, validP]
  split
  · split
    · split <;> simp [*]
    · simp [*]
  · simp [*]
theorem ref_all_l0 (l : List S37) (hl : l.length ≤ 1099511627776) : ∀ (n i : Nat), i + n = l.length → Ev (fun k => mapmakerref08_All.l0 k l (i : Int)) ((l.drop i).all validP) := by
  intro n
  induction n with
  | zero =>
    intro i h
    refine Ev.step (f := fun _ => some true) (fun k => ?_) (by rw [List.drop_eq_nil_of_le (by omega)]; exact Ev.now _)
    rw [mapmakerref08_All.l0, if_neg (by omega)]
  | succ n ih =>
    intro i h
    have hi : i < l.length := by omega
    rw [List.drop_eq_getElem_cons hi, List.all_cons]
    by_cases hv : validP l[i] = true
    · rw [hv, Bool.true_and]
      refine Ev.step (fun k => ?_) (ih (i + 1) (by omega))
      rw [mapmakerref08_All.l0, if_pos (by omega), if_pos (by omega), ref_valid_f, Option.bind_some, rd_get l i hi, if_pos hv, w_suc hi (by omega)]
    · have hv' : validP l[i] = false := by simpa using hv
      refine Ev.step (f := fun _ => some false) (fun k => ?_) (by rw [hv']; exact Ev.now _)
      rw [mapmakerref08_All.l0, if_pos (by omega), if_pos (by omega), ref_valid_f, Option.bind_some, rd_get l i hi, if_neg hv]
theorem ref_all_ev (l : List S37) (hl : l.length ≤ 1099511627776) : Ev (fun k => mapmakerref08_All.f k l) (l.all validP) := ref_all_l0 l hl l.length 0 (by omega)
end Go.Proofs.Ytbgabhdhheplgaa.Pl
end
section
namespace Go.Proofs.Ytbgabhdhheplgaa.Pl
open Go.RowKit Go.Proofs.Ytbgabhdhheplgaa.PALL Go.Proofs.YtbgabhdhheplgaaW.PrintWords Go.Proofs.YtbgabhdhheplgaaW.PrintLast Go.Proofs.YtbgabhdhheplgaaW.PrintMore

/-- The piece of a segment within the sides that are left (n of four). -/
def piece (b0 b1 b2 b3 : Int) : Nat → S37 → S37 → Option (S37 × S37)
  | 0, p, q => if eqp p q = true then none else some (p, q)
  | n + 1, p, q =>
    if has (hs b0 b1 b2 b3 (3 - n)) p = true then
      if has (hs b0 b1 b2 b3 (3 - n)) q = true then piece b0 b1 b2 b3 n p q else piece b0 b1 b2 b3 n p (bord (hs b0 b1 b2 b3 (3 - n)) p q)
    else if has (hs b0 b1 b2 b3 (3 - n)) q = true then piece b0 b1 b2 b3 n (bord (hs b0 b1 b2 b3 (3 - n)) p q) q else none
/-- What a printed piece says of a result: whether there is one, and which. -/
def Says (o : Option (S37 × S37)) (r : Int × Int × Int × Int × Bool) : Prop := r.2.2.2.2 = o.isSome ∧ ∀ a c, o = some (a, c) → r = (a.f0, a.f1, c.f0, c.f1, true)
abbrev cl (b0 b1 b2 b3 : Int) (k : Nat) (s : Nat) (p q : S37) := clip_piece.l0 k (s : Int) false false b0 false true b2 true false b1 true true b3 p.f0 p.f1 q.f0 q.f1
abbrev hv (b0 b1 b2 b3 : Int) : S40 := ⟨⟨false, false, b0⟩, ⟨false, true, b2⟩, ⟨true, false, b1⟩, ⟨true, true, b3⟩⟩
theorem ix_f (b0 b1 b2 b3 : Int) (s : Nat) (h4 : s < 4) : ((ix_40 (hv b0 b1 b2 b3) (s : Int)).f0, (ix_40 (hv b0 b1 b2 b3) (s : Int)).f1, (ix_40 (hv b0 b1 b2 b3) (s : Int)).f2) = hs b0 b1 b2 b3 s := by
  have h : s = 0 ∨ s = 1 ∨ s = 2 ∨ s = 3 := by omega
  rcases h with rfl | rfl | rfl | rfl <;> rfl
theorem piece_j1 (b0 b1 b2 b3 : Int) (k s : Nat) (hs4 : s < 4) (p q : S37) (a c : Bool) :
    clip_piece.j1 (k + 2) a c (s : Int) (if a = true then false else !c) false false b0 false true b2 true false b1 true true b3 p.f0 p.f1 q.f0 q.f1 (hs b0 b1 b2 b3 s).1 (hs b0 b1 b2 b3 s).2.1 (hs b0 b1 b2 b3 s).2.2
      = if a = true then if c = true then cl b0 b1 b2 b3 (k + 1) (s + 1) p q else cl b0 b1 b2 b3 (k + 1) (s + 1) p (bord (hs b0 b1 b2 b3 s) p q)
        else if c = true then cl b0 b1 b2 b3 (k + 1) (s + 1) (bord (hs b0 b1 b2 b3 s) p q) q else some (0, 0, 0, 0, false) := by
  rw [clip_piece.j1, bord_f, w_suc hs4 (by omega)]
  cases a <;> cases c <;> simp [cl]
theorem piece_step (b0 b1 b2 b3 : Int) (k s : Nat) (hs4 : s < 4) (p q : S37) :
    cl b0 b1 b2 b3 (k + 3) s p q = if has (hs b0 b1 b2 b3 s) p = true then if has (hs b0 b1 b2 b3 s) q = true then cl b0 b1 b2 b3 (k + 1) (s + 1) p q else cl b0 b1 b2 b3 (k + 1) (s + 1) p (bord (hs b0 b1 b2 b3 s) p q)
        else if has (hs b0 b1 b2 b3 s) q = true then cl b0 b1 b2 b3 (k + 1) (s + 1) (bord (hs b0 b1 b2 b3 s) p q) q else some (0, 0, 0, 0, false) := by
  have hx := ix_f b0 b1 b2 b3 s hs4
  have e0 : (ix_40 (hv b0 b1 b2 b3) (s : Int)).f0 = (hs b0 b1 b2 b3 s).1 := by rw [← hx]
  have e1 : (ix_40 (hv b0 b1 b2 b3) (s : Int)).f1 = (hs b0 b1 b2 b3 s).2.1 := by rw [← hx]
  have e2 : (ix_40 (hv b0 b1 b2 b3) (s : Int)).f2 = (hs b0 b1 b2 b3 s).2.2 := by rw [← hx]
  rw [← piece_j1 b0 b1 b2 b3 k s hs4 p q]
  show clip_piece.l0 (k + 2 + 1) (s : Int) false false b0 false true b2 true false b1 true true b3 p.f0 p.f1 q.f0 q.f1 = _
  rw [clip_piece.l0, if_pos (by omega), if_pos (by omega)]
  rw [show (⟨⟨false, false, b0⟩, ⟨false, true, b2⟩, ⟨true, false, b1⟩, ⟨true, true, b3⟩⟩ : S40) = hv b0 b1 b2 b3 from rfl, e0, e1, e2, has_f, has_f, Option.bind_some, Option.bind_some]
  split <;> simp [*]
theorem piece_ev (b0 b1 b2 b3 : Int) : ∀ (n : Nat) (p q : S37), n ≤ 4 → ∃ r, Says (piece b0 b1 b2 b3 n p q) r ∧ Ev (fun k => cl b0 b1 b2 b3 k (4 - n) p q) r
  | 0, p, q, _ => by
    refine ⟨(p.f0, p.f1, q.f0, q.f1, !eqp p q), ?_, Ev.step (f := fun _ => some (p.f0, p.f1, q.f0, q.f1, !eqp p q)) (fun k => ?_) (Ev.now _)⟩
    · rw [piece]
      cases h : eqp p q <;> simp [Says]
    · show clip_piece.l0 (k + 1) _ _ _ _ _ _ _ _ _ _ _ _ _ _ _ _ _ = _
      rw [clip_piece.l0, if_neg (by omega)]
      simp [eqp, Bool.not_and]
  | n + 1, p, q, hn => by
    have st := fun k => piece_step b0 b1 b2 b3 k (3 - n) (by omega) p q
    rw [show 4 - (n + 1) = 3 - n by omega, piece]
    have fin : ∀ (p' q' : S37), (∀ k, cl b0 b1 b2 b3 (k + 3) (3 - n) p q = cl b0 b1 b2 b3 (k + 1) (3 - n + 1) p' q') → ∃ r, Says (piece b0 b1 b2 b3 n p' q') r ∧ Ev (fun k => cl b0 b1 b2 b3 k (3 - n) p q) r := fun p' q' h => by
      obtain ⟨r, h1, K, h2⟩ := piece_ev b0 b1 b2 b3 n p' q' (by omega)
      refine ⟨r, h1, K + 3, fun k hk => ?_⟩
      obtain ⟨m, rfl⟩ : ∃ m, k = m + 3 := ⟨k - 3, by omega⟩
      have := h2 (m + 1) (by omega)
      show cl b0 b1 b2 b3 (m + 3) (3 - n) p q = _
      rw [h m, show 3 - n + 1 = 4 - n by omega]
      exact this
    by_cases hp : has (hs b0 b1 b2 b3 (3 - n)) p = true
    · rw [if_pos hp]
      by_cases hq : has (hs b0 b1 b2 b3 (3 - n)) q = true
      · rw [if_pos hq]; exact fin p q (fun k => by rw [st, if_pos hp, if_pos hq])
      · rw [if_neg hq]; exact fin _ _ (fun k => by rw [st, if_pos hp, if_neg hq])
    · rw [if_neg hp]
      by_cases hq : has (hs b0 b1 b2 b3 (3 - n)) q = true
      · rw [if_pos hq]; exact fin _ _ (fun k => by rw [st, if_neg hp, if_pos hq])
      · rw [if_neg hq]
        refine ⟨(0, 0, 0, 0, false), ⟨rfl, fun a c h => by cases h⟩, 3, fun k hk => ?_⟩
        obtain ⟨m, rfl⟩ : ∃ m, k = m + 3 := ⟨k - 3, by omega⟩
        show cl b0 b1 b2 b3 (m + 3) (3 - n) p q = _
        rw [st, if_neg hp, if_neg hq]
end Go.Proofs.Ytbgabhdhheplgaa.Pl
end
section
namespace Go.Proofs.Ytbgabhdhheplgaa.Pl
open Go.RowKit Go.Proofs.Ytbgabhdhheplgaa.PALL Go.Proofs.YtbgabhdhheplgaaW.PrintWords Go.Proofs.YtbgabhdhheplgaaW.PrintLast Go.Proofs.YtbgabhdhheplgaaW.PrintMore

theorem piece_f_ev (b0 b1 b2 b3 : Int) (p q : S37) : ∃ r, Says (piece b0 b1 b2 b3 4 p q) r ∧ Ev (fun k => clip_piece.f k p.f0 p.f1 q.f0 q.f1 b0 b1 b2 b3) r := by
  obtain ⟨r, h1, h2⟩ := piece_ev b0 b1 b2 b3 4 p q (by omega)
  exact ⟨r, h1, Ev.congr (fun k => rfl) h2⟩
def shut (done : List (List S37)) (cur : List S37) : List (List S37) := if cur.length = 0 then done else done ++ [cur]
theorem shut_length (done : List (List S37)) (cur : List S37) : (shut done cur).length + 2 ≤ done.length + cur.length + 2 ∧ (shut done cur).length ≤ done.length + 1 := by
  rw [shut]; split <;> simp <;> omega
/-- The parts, from segment i on (from point i to point i + 1), n left. -/
def lineN (b0 b1 b2 b3 : Int) (t : List S37) : Nat → Nat → Bool → List (List S37) → List S37 → List (List S37)
  | 0, _, _, done, cur => shut done cur
  | n + 1, i, opn, done, cur =>
    match piece b0 b1 b2 b3 4 (rd_T37 t (i : Int)) (rd_T37 t ((i + 1 : Nat) : Int)) with
    | none => lineN b0 b1 b2 b3 t n (i + 1) false done cur
    | some (p, q) =>
      if (opn && eqp p (rd_T37 t (i : Int))) = true then lineN b0 b1 b2 b3 t n (i + 1) (eqp q (rd_T37 t ((i + 1 : Nat) : Int))) done (cur ++ [q])
      else lineN b0 b1 b2 b3 t n (i + 1) (eqp q (rd_T37 t ((i + 1 : Nat) : Int))) (shut done cur) [p, q]
theorem meets_iff {opn : Bool} {p a : S37} : (opn && eqp p a) = true ↔ opn = true ∧ p = a := by rw [Bool.and_eq_true, eqp_iff]
theorem go_ev (b0 b1 b2 b3 : Int) (t : List S37) : ∀ (n i : Nat) (opn : Bool) (last : Int) (done : List (List S37)) (cur : List S37), i + n = t.length - 1 → last ≤ (i : Int) → (last = (i : Int) → cur ≠ []) →
    (opn = true ↔ last = (i : Int) ∧ rd_T37 cur ((cur.length : Int) - 1) = rd_T37 t (i : Int)) →
    done.length + cur.length + 2 * n < 1099511627776 → Ev (fun k => clip_Line.go b0 b1 b2 b3 k t (i + 1) last done cur) (lineN b0 b1 b2 b3 t n i opn done cur)
  | 0, i, opn, last, done, cur, hi, hla, hn, ho, hl => by
    refine Ev.step (f := fun _ => some (shut done cur)) (fun k => ?_) (Ev.now _)
    rw [clip_Line.go, if_neg (by omega)]; rfl
  | n + 1, i, opn, last, done, cur, hi, hla, hn, ho, hl => by
    obtain ⟨r, h1, h2⟩ := piece_f_ev b0 b1 b2 b3 (rd_T37 t (i : Int)) (rd_T37 t ((i + 1 : Nat) : Int))
    have hs := shut_length done cur
    have hi1 : ((i + 1 : Nat) : Int) - 1 = (i : Int) := by omega
    refine Ev.step (fun k => ?_) (Ev.bind h2 (f := fun k r => if r.2.2.2.2 = true then
            (clip_Line.meets t cur ((i + 1 : Nat) : Int) last r.1 r.2.1).bind fun c =>
              if c = true then clip_Line.go b0 b1 b2 b3 k t (i + 1 + 1) ((i + 1 : Nat) : Int) done (cur ++ [⟨r.2.2.1, r.2.2.2.1⟩])
              else clip_Line.go b0 b1 b2 b3 k t (i + 1 + 1) ((i + 1 : Nat) : Int) (if cur.length = 0 then done else done ++ [cur]) [⟨r.1, r.2.1⟩, ⟨r.2.2.1, r.2.2.2.1⟩]
          else clip_Line.go b0 b1 b2 b3 k t (i + 1 + 1) last done cur) ?_)
    · rw [clip_Line.go, if_pos (by omega), if_pos ⟨by omega, by omega⟩, hi1]
    · rw [lineN]
      obtain ⟨e1, e2⟩ := h1
      cases hp : piece b0 b1 b2 b3 4 (rd_T37 t (i : Int)) (rd_T37 t ((i + 1 : Nat) : Int)) with
      | none =>
        rw [hp] at e1
        have := go_ev b0 b1 b2 b3 t n (i + 1) false last done cur (by omega) (by omega) (by omega) (by simp; omega) (by omega)
        exact Ev.congr (fun k => by rw [if_neg (by rw [e1]; simp)]) this
      | some pq =>
        obtain ⟨p, q⟩ := pq
        have e := e2 p q hp
        subst e
        dsimp only
        have hm : clip_Line.meets t cur ((i + 1 : Nat) : Int) last p.f0 p.f1 = some (opn && eqp p (rd_T37 t (i : Int))) := by
          have pe : ∀ a : S37, (p.f0 = a.f0 ∧ p.f1 = a.f1) ↔ p = a := fun a => ⟨fun ⟨h3, h4⟩ => eqp_iff.1 (by rw [eqp]; simp [h3, h4]), fun h => by rw [h]; exact ⟨rfl, rfl⟩⟩
          have pe2 : ∀ a : S37, (a.f0 = p.f0 ∧ a.f1 = p.f1) ↔ a = p := fun a => ⟨fun ⟨h3, h4⟩ => eqp_iff.1 (by rw [eqp]; simp [h3, h4]), fun h => by rw [h]; exact ⟨rfl, rfl⟩⟩
          rw [clip_Line.meets, hi1]
          by_cases h3 : last = (i : Int)
          · rw [if_pos h3]
            by_cases h4 : p = rd_T37 t (i : Int)
            · rw [if_pos ((pe _).2 h4), if_neg (by simpa using hn h3)]
              congr 1
              rw [Bool.eq_iff_iff, decide_eq_true_iff, meets_iff, ho]
              exact ⟨fun h => ⟨⟨h3, ((pe2 _).1 h).trans h4⟩, h4⟩, fun h => (pe2 _).2 (h.1.2.trans h4.symm)⟩
            · rw [if_neg (fun h => h4 ((pe _).1 h)), (Bool.eq_false_iff.2 (fun h => h4 (meets_iff.1 h).2) : (opn && eqp p (rd_T37 t (i : Int))) = false)]
          · rw [if_neg h3, (Bool.eq_false_iff.2 (fun h => h3 (ho.1 (meets_iff.1 h).1).1) : (opn && eqp p (rd_T37 t (i : Int))) = false)]
        have la : ∀ (l : List S37), rd_T37 (l ++ [q]) (((l ++ [q]).length : Int) - 1) = q := fun l => by
          rw [show (((l ++ [q]).length : Int) - 1) = ((l.length : Nat) : Int) by simp]
          rw [rd_get _ _ (by simp)]; simp
        by_cases hc : opn = true ∧ p = rd_T37 t (i : Int)
        · rw [if_pos (meets_iff.2 hc)]
          have := go_ev b0 b1 b2 b3 t n (i + 1) (eqp q (rd_T37 t ((i + 1 : Nat) : Int))) ((i + 1 : Nat) : Int) done (cur ++ [q]) (by omega) (by omega) (by simp) (by rw [la, eqp_iff]; simp) (by simp; omega)
          exact Ev.congr (fun k => by rw [if_pos rfl, hm, Option.bind_some, if_pos (meets_iff.2 hc)]) this
        · rw [if_neg (fun h => hc (meets_iff.1 h))]
          have := go_ev b0 b1 b2 b3 t n (i + 1) (eqp q (rd_T37 t ((i + 1 : Nat) : Int))) ((i + 1 : Nat) : Int) (shut done cur) [p, q] (by omega) (by omega) (by simp) (by rw [show [p, q] = [p] ++ [q] from rfl, la, eqp_iff]; simp) (by simp; omega)
          exact Ev.congr (fun k => by rw [if_pos rfl, hm, Option.bind_some, if_neg (fun h => hc (meets_iff.1 h))]; rfl) this
/-- The parts of a line. -/
def line (l : List S37) (b0 b1 b2 b3 : Int) : List (List S37) := if perm l b0 b1 b2 b3 = true then lineN b0 b1 b2 b3 (tidy l) ((tidy l).length - 1) 0 false [] [] else []
theorem line_ev (l : List S37) (b0 b1 b2 b3 : Int) (hl : l.length ≤ 68719476736) : Ev (fun k => clip_Line.f k l b0 b1 b2 b3) (line l b0 b1 b2 b3) := by
  have ht := tidy_length l
  refine Ev.bind (perm_ev l b0 b1 b2 b3 (by omega)) ?_
  rw [line]
  by_cases h : perm l b0 b1 b2 b3 = true
  · rw [if_pos h]
    refine Ev.congr (fun k => if_pos h) (Ev.bind (tidy_ev l (by omega)) ?_)
    exact go_ev b0 b1 b2 b3 (tidy l) ((tidy l).length - 1) 0 false (-1) [] [] (by omega) (by omega) (by omega) (by simp) (by simp; omega)
  · rw [if_neg h]; exact Ev.congr (fun k => if_neg h) (Ev.now _)
theorem lineN_length (b0 b1 b2 b3 : Int) (t : List S37) : ∀ (n i : Nat) (opn : Bool) (done : List (List S37)) (cur : List S37), (lineN b0 b1 b2 b3 t n i opn done cur).length ≤ done.length + n + 1
  | 0, i, opn, done, cur => by rw [lineN]; exact (shut_length done cur).2
  | n + 1, i, opn, done, cur => by
    have hs := (shut_length done cur).2
    have h1 := lineN_length b0 b1 b2 b3 t n (i + 1) false done cur
    rw [lineN]
    split
    · omega
    · rename_i p q _
      have h2 := lineN_length b0 b1 b2 b3 t n (i + 1) (eqp q (rd_T37 t ((i + 1 : Nat) : Int))) done (cur ++ [q])
      have h3 := lineN_length b0 b1 b2 b3 t n (i + 1) (eqp q (rd_T37 t ((i + 1 : Nat) : Int))) (shut done cur) [p, q]
      split
      · omega
      · omega
theorem shut_mem {done : List (List S37)} {cur x : List S37} (h : x ∈ shut done cur) : x ∈ done ∨ (x = cur ∧ cur ≠ []) := by
  rw [shut] at h
  split at h
  · exact .inl h
  · rename_i hc
    rcases List.mem_append.1 h with h | h
    · exact .inl h
    · exact .inr ⟨by simpa using h, by simpa using hc⟩
theorem lineN_part (b0 b1 b2 b3 : Int) (t : List S37) (M : Nat) : ∀ (n i : Nat) (opn : Bool) (done : List (List S37)) (cur : List S37), (∀ x ∈ done, x.length ≤ M) → cur.length + n ≤ M → n + 2 ≤ M → ∀ x ∈ lineN b0 b1 b2 b3 t n i opn done cur, x.length ≤ M
  | 0, i, opn, done, cur, hd, hc, hM => fun x hx => by
    rw [lineN] at hx
    rcases shut_mem hx with h | ⟨rfl, _⟩
    · exact hd x h
    · omega
  | n + 1, i, opn, done, cur, hd, hc, hM => by
    have hs : ∀ x ∈ shut done cur, x.length ≤ M := fun x hx => by
      rcases shut_mem hx with h | ⟨rfl, _⟩
      · exact hd x h
      · omega
    rw [lineN]
    split
    · exact lineN_part b0 b1 b2 b3 t M n _ _ _ _ hd (by omega) (by omega)
    · split
      · exact lineN_part b0 b1 b2 b3 t M n _ _ _ _ hd (by simp; omega) (by omega)
      · exact lineN_part b0 b1 b2 b3 t M n _ _ _ _ hs (by simp; omega) (by omega)
theorem line_length (l : List S37) (b0 b1 b2 b3 : Int) : (line l b0 b1 b2 b3).length ≤ l.length + 1 := by
  have ht := tidy_length l
  rw [line]
  split
  · have := lineN_length b0 b1 b2 b3 (tidy l) ((tidy l).length - 1) 0 false [] []
    simp at this
    omega
  · simp
theorem line_part (l : List S37) (b0 b1 b2 b3 : Int) : ∀ x ∈ line l b0 b1 b2 b3, x.length ≤ l.length + 2 := by
  have ht := tidy_length l
  rw [line]
  split
  · exact lineN_part b0 b1 b2 b3 (tidy l) (l.length + 2) ((tidy l).length - 1) 0 false [] [] (by simp) (by simp; omega) (by omega)
  · simp
end Go.Proofs.Ytbgabhdhheplgaa.Pl
end
section
namespace Go.Proofs.Ytbgabhdhheplgaa.Pl
open Go.RowKit Go.Proofs.Ytbgabhdhheplgaa.PALL Go.Proofs.YtbgabhdhheplgaaW.PrintWords Go.Proofs.YtbgabhdhheplgaaW.PrintLast Go.Proofs.YtbgabhdhheplgaaW.PrintMore

theorem same2_l0 (t : List (List S37)) (hl : t.length ≤ 1099511627776) (hp : ∀ x ∈ t, x.length ≤ 1099511627776) : ∀ (n i : Nat), i + n = t.length → Ev (fun k => mapmakerref12_Same.l0 k t t (i : Int)) true := by
  intro n
  induction n with
  | zero =>
    intro i h
    refine Ev.step (f := fun _ => some true) (fun k => ?_) (Ev.now _)
    rw [mapmakerref12_Same.l0, if_neg (by omega)]
  | succ n ih =>
    intro i h
    have hw := w_suc (show i < t.length by omega) (by omega)
    have hr : rd_L4 t (i : Int) = t[i] := by simp [rd_L4, show i < t.length by omega]
    refine Ev.step (f := fun k => (mapmakerref08_Same.f k t[i] t[i]).bind fun t145 => if t145 = true then mapmakerref12_Same.l0 k t t ((i + 1 : Nat) : Int) else some false) (fun k => ?_) (Ev.bind (same_ev t[i] (hp _ (List.getElem_mem _))) (Ev.congr (fun k => if_pos rfl) (ih (i + 1) (by omega))))
    rw [mapmakerref12_Same.l0, if_pos (by omega), if_pos (by omega), if_pos (by omega), hr, hw]
/-- The reference's Same says that a row of rows is itself. -/
theorem same2_ev (t : List (List S37)) (hl : t.length ≤ 1099511627776) (hp : ∀ x ∈ t, x.length ≤ 1099511627776) : Ev (fun k => mapmakerref12_Same.f k t t) true :=
  Ev.congr (fun k => by rw [mapmakerref12_Same.f, if_pos rfl]; rfl) (same2_l0 t hl hp t.length 0 (by omega))
end Go.Proofs.Ytbgabhdhheplgaa.Pl
end
section
namespace Go.Proofs.Ytbgabhdhheplgaa.Pl
open Go.RowKit Go.Proofs.Ytbgabhdhheplgaa.PALL Go.Proofs.YtbgabhdhheplgaaW.PrintWords Go.Proofs.YtbgabhdhheplgaaW.PrintLast Go.Proofs.YtbgabhdhheplgaaW.PrintMore

def inB (b0 b1 b2 b3 : Int) (p : S37) : Bool := decide (b0 ≤ p.f0) && decide (p.f0 ≤ b2) && decide (b1 ≤ p.f1) && decide (p.f1 ≤ b3)
theorem inB_iff {b0 b1 b2 b3 : Int} {p : S37} : inB b0 b1 b2 b3 p = true ↔ (b0 ≤ p.f0 ∧ p.f0 ≤ b2) ∧ (b1 ≤ p.f1 ∧ p.f1 ≤ b3) := by
  simp [inB, and_assoc]
theorem has_of_inB {b0 b1 b2 b3 : Int} {p : S37} (h : inB b0 b1 b2 b3 p = true) (s : Nat) (hs4 : s < 4) : has (hs b0 b1 b2 b3 s) p = true := by
  rw [inB_iff] at h
  have : s = 0 ∨ s = 1 ∨ s = 2 ∨ s = 3 := by omega
  rcases this with rfl | rfl | rfl | rfl <;> simp [hs, clip_hs, has] <;> omega
theorem inB_of_has {b0 b1 b2 b3 : Int} {p : S37} (h : ∀ s, s < 4 → has (hs b0 b1 b2 b3 s) p = true) : inB b0 b1 b2 b3 p = true := by
  have h0 := h 0 (by omega)
  have h1 := h 1 (by omega)
  have h2 := h 2 (by omega)
  have h3 := h 3 (by omega)
  simp [hs, clip_hs, has] at h0 h1 h2 h3
  rw [inB_iff]
  omega
theorem within_l0 (b0 b1 b2 b3 : Int) (l : List S37) (hl : l.length ≤ 1099511627776) : ∀ (n i : Nat), i + n = l.length → Ev (fun k => mapmakerlaw12_within.l0 k l (i : Int) b0 b1 b2 b3) ((l.drop i).all (inB b0 b1 b2 b3)) := by
  intro n
  induction n with
  | zero =>
    intro i h
    refine Ev.step (f := fun _ => some true) (fun k => ?_) ?_
    · rw [mapmakerlaw12_within.l0, if_neg (by omega)]
    · rw [List.drop_eq_nil_of_le (by omega)]; exact Ev.now _
  | succ n ih =>
    intro i h
    have hi : i < l.length := by omega
    rw [List.drop_eq_getElem_cons hi, List.all_cons]
    by_cases hp : inB b0 b1 b2 b3 l[i] = true
    · have hq := inB_iff.1 hp
      rw [hp, Bool.true_and]
      refine Ev.step (fun k => ?_) (ih (i + 1) (by omega))
      rw [mapmakerlaw12_within.l0, if_pos (by omega), if_pos (by omega), rd_get l i hi, if_neg (by omega), if_neg (by omega), if_neg (by omega), if_neg (by omega), w_suc hi (by omega)]
    · have hp' : inB b0 b1 b2 b3 l[i] = false := by simpa using hp
      rw [inB_iff] at hp
      rw [hp', Bool.false_and]
      refine Ev.step (f := fun _ => some false) (fun k => ?_) (Ev.now _)
      rw [mapmakerlaw12_within.l0, if_pos (by omega), if_pos (by omega), rd_get l i hi]
      by_cases h1 : l[i].f0 < b0
      · rw [if_pos h1]
      · rw [if_neg h1]
        by_cases h2 : l[i].f0 > b2
        · rw [if_pos h2]
        · rw [if_neg h2]
          by_cases h3 : l[i].f1 < b1
          · rw [if_pos h3]
          · rw [if_neg h3, if_pos (by omega)]
theorem within_ev (b0 b1 b2 b3 : Int) (l : List S37) (hl : l.length ≤ 1099511627776) : Ev (fun k => mapmakerlaw12_within.f k l b0 b1 b2 b3) (l.all (inB b0 b1 b2 b3)) := within_l0 b0 b1 b2 b3 l hl l.length 0 (by omega)
/-! ### rows whose neighbours differ -/
def chain : List S37 → Prop
  | p :: q :: t => p ≠ q ∧ chain (q :: t)
  | _ => True
theorem chain_tidyFrom : ∀ (l : List S37) (p : S37), chain (p :: tidyFrom p l)
  | [], p => trivial
  | q :: t, p => by
    rw [tidyFrom]
    split
    · exact chain_tidyFrom t p
    · rename_i h
      exact ⟨fun e => h (eqp_iff.2 e.symm), chain_tidyFrom t q⟩
theorem chain_tidy (l : List S37) : chain (tidy l) := by
  cases l with
  | nil => trivial
  | cons p t => exact chain_tidyFrom t p
theorem tidyFrom_id : ∀ (t : List S37) (p : S37), chain (p :: t) → tidyFrom p t = t
  | [], p, _ => rfl
  | q :: t, p, h => by rw [tidyFrom, if_neg (fun e => h.1 (eqp_iff.1 e).symm), tidyFrom_id t q h.2]
theorem tidy_id {t : List S37} (h : chain t) : tidy t = t := by
  cases t with
  | nil => rfl
  | cons p t => rw [tidy, tidyFrom_id t p h]
theorem mem_tidyFrom : ∀ (l : List S37) (p x : S37), x ∈ tidyFrom p l → x ∈ l
  | [], p, x, h => h
  | q :: t, p, x, h => by
    rw [tidyFrom] at h
    split at h
    · exact List.mem_cons_of_mem _ (mem_tidyFrom t p x h)
    · rcases List.mem_cons.1 h with e | e
      · rw [e]; exact List.mem_cons_self
      · exact List.mem_cons_of_mem _ (mem_tidyFrom t q x e)
theorem mem_tidy {l : List S37} {x : S37} (h : x ∈ tidy l) : x ∈ l := by
  cases l with
  | nil => exact h
  | cons p t =>
    rcases List.mem_cons.1 h with e | e
    · rw [e]; exact List.mem_cons_self
    · exact List.mem_cons_of_mem _ (mem_tidyFrom t p x e)
theorem chain_tail {p : S37} {t : List S37} (h : chain (p :: t)) : chain t := by
  cases t with
  | nil => trivial
  | cons q t => exact h.2
theorem chain_get : ∀ (t : List S37), chain t → ∀ (i : Nat) (h : i + 1 < t.length), t[i] ≠ t[i + 1]
  | [], _, i, h => by simp at h
  | [p], _, i, h => by simp at h
  | p :: q :: t, hc, 0, _ => hc.1
  | p :: q :: t, hc, i + 1, h => chain_get (q :: t) hc.2 i (by simpa using h)
theorem chain_take : ∀ (t : List S37) (n : Nat), chain t → chain (t.take n)
  | [], n, _ => by simp [chain]
  | p :: t, 0, _ => trivial
  | [p], n + 1, _ => by simp [chain]
  | p :: q :: t, 1, _ => trivial
  | p :: q :: t, n + 2, h => ⟨h.1, chain_take (q :: t) (n + 1) h.2⟩
theorem chain_snoc : ∀ (t : List S37) (q : S37), chain t → (∀ p, t.getLast? = some p → p ≠ q) → chain (t ++ [q])
  | [], q, _, _ => trivial
  | [p], q, _, h => ⟨h p rfl, trivial⟩
  | p :: p' :: t, q, hc, h => ⟨hc.1, chain_snoc (p' :: t) q hc.2 (fun x hx => h x (by rw [List.getLast?_cons_cons]; exact hx))⟩
/-! ### rings without an end that is the beginning -/
theorem mem_trim : ∀ (n : Nat) (t : List S37) (x : S37), x ∈ trim n t → x ∈ t
  | 0, t, x, h => h
  | n + 1, t, x, h => by
    rw [trim] at h
    split at h
    · exact List.mem_of_mem_take (mem_trim n _ x h)
    · exact h
theorem chain_trim : ∀ (n : Nat) (t : List S37), chain t → chain (trim n t)
  | 0, t, h => h
  | n + 1, t, h => by
    rw [trim]
    split
    · exact chain_trim n _ (chain_take _ _ h)
    · exact h
theorem trim_trim : ∀ (n : Nat) (t : List S37), t.length ≤ n → ∀ m, trim m (trim n t) = trim n t
  | 0, t, h, m => by
    have : t = [] := List.length_eq_zero_iff.1 (by omega)
    subst this
    cases m with
    | zero => rfl
    | succ m => rw [trim, trim, if_neg (by simp)]
  | n + 1, t, h, m => by
    rw [trim]
    split
    · exact trim_trim n _ (by simp; omega) m
    · rename_i hc
      cases m with
      | zero => rfl
      | succ m => rw [trim, if_neg hc]
theorem mem_tidyRing {t : List S37} {x : S37} (h : x ∈ tidyRing t) : x ∈ t := by
  rw [tidyRing] at h
  split at h
  · simp at h
  · exact mem_trim _ _ x h
theorem chain_tidyRing {t : List S37} (h : chain t) : chain (tidyRing t) := by
  rw [tidyRing]
  split
  · trivial
  · exact chain_trim _ _ h
theorem tidyRing_again (l : List S37) : tidyRing (tidy (tidyRing (tidy l))) = tidyRing (tidy l) := by
  rw [tidy_id (chain_tidyRing (chain_tidy l))]
  generalize tidy l = t
  rw [tidyRing.eq_1 t]
  split
  · rfl
  · rename_i h
    rw [tidyRing, trim_trim t.length t (Nat.le_refl _), if_neg h]
theorem tidyRing_three {t : List S37} (h : tidyRing t ≠ []) : 3 ≤ (tidyRing t).length := by
  rw [tidyRing] at h ⊢
  split
  · rename_i hc
    rw [if_pos hc] at h
    exact absurd rfl h
  · omega
theorem mem_fin {l : List S37} {x : S37} (h : x ∈ fin l) : x ∈ l := by
  rw [fin] at h
  split at h
  · simp at h
  · exact mem_tidy (mem_tidyRing h)
theorem fin_cases (l : List S37) : fin l = [] ∨ (fin l ≠ [] ∧ 3 ≤ (fin l).length ∧ area (fin l) ≠ 0 ∧ tidyRing (tidy (fin l)) = fin l) := by
  by_cases h : fin l = []
  · exact .inl h
  · refine .inr ⟨h, ?_⟩
    rw [fin] at h ⊢
    split
    · rename_i hc
      rw [if_pos hc] at h
      exact absurd rfl h
    · rename_i hc
      rw [if_neg hc] at h
      exact ⟨tidyRing_three h, hc, tidyRing_again l⟩
theorem fin_again (l : List S37) : fin (fin l) = fin l := by
  rcases fin_cases l with h | ⟨h1, h2, h3, h4⟩
  · rw [h, fin]
    split <;> simp [tidy, tidyRing, trim]
  · rw [fin.eq_1 (fin l), h4, if_neg h3]
/-! ### what lies in the box stays -/
theorem nxt_mem (l : List S37) (i : Nat) (h : i < l.length) : nxt l i ∈ l := by
  rw [nxt, rd_get l _ (Nat.mod_lt _ (by omega))]
  exact List.getElem_mem _
theorem sideN_keep (h : Half) (l : List S37) (hk : ∀ p ∈ l, has h p = true) : ∀ (n i : Nat), i + n = l.length → sideN h l n i = l.drop i := by
  intro n
  induction n with
  | zero => intro i hi; rw [sideN, List.drop_eq_nil_of_le (by omega)]
  | succ n ih =>
    intro i hi
    have hil : i < l.length := by omega
    have h1 := hk _ (List.getElem_mem hil)
    have h2 := hk _ (nxt_mem l i hil)
    rw [sideN, ih (i + 1) (by omega), List.drop_eq_getElem_cons hil, rd_get l i hil, step, if_pos h1, if_pos (by rw [h1, h2])]
    rfl
theorem rest_keep (b0 b1 b2 b3 : Int) : ∀ (n : Nat) (l : List S37), n ≤ 4 → (∀ p ∈ l, inB b0 b1 b2 b3 p = true) → rest b0 b1 b2 b3 n l = fin l
  | 0, l, _, _ => rfl
  | n + 1, l, hn, h => by
    rw [rest, side, sideN_keep _ l (fun p hp => has_of_inB (h p hp) (3 - n) (by omega)) l.length 0 (by omega), List.drop_zero]
    exact rest_keep b0 b1 b2 b3 n l (by omega) h
theorem piece_keep (b0 b1 b2 b3 : Int) : ∀ (n : Nat) (p q : S37), n ≤ 4 → inB b0 b1 b2 b3 p = true → inB b0 b1 b2 b3 q = true → p ≠ q → piece b0 b1 b2 b3 n p q = some (p, q)
  | 0, p, q, _, _, _, h => by rw [piece, if_neg (fun e => h (eqp_iff.1 e))]
  | n + 1, p, q, hn, hp, hq, h => by
    rw [piece, if_pos (has_of_inB hp _ (by omega)), if_pos (has_of_inB hq _ (by omega))]
    exact piece_keep b0 b1 b2 b3 n p q (by omega) hp hq h
theorem lineN_keep (b0 b1 b2 b3 : Int) (t : List S37) (ht : ∀ p ∈ t, inB b0 b1 b2 b3 p = true) (hc : chain t) : ∀ (n i : Nat), i + n + 1 = t.length → 0 < i → lineN b0 b1 b2 b3 t n i true [] (t.take (i + 1)) = [t] := by
  intro n
  induction n with
  | zero =>
    intro i hi h0
    rw [lineN, List.take_of_length_le (by omega), shut, if_neg (by omega)]
    rfl
  | succ n ih =>
    intro i hi h0
    have h1 : i < t.length := by omega
    have h2 : i + 1 < t.length := by omega
    rw [lineN, rd_get t i h1, rd_get t (i + 1) h2, piece_keep b0 b1 b2 b3 4 t[i] t[i + 1] (by omega) (ht _ (List.getElem_mem _)) (ht _ (List.getElem_mem _)) (chain_get t hc i h2)]
    dsimp only
    rw [if_pos (by rw [eqp_self]; rfl), eqp_self, show t.take (i + 1) ++ [t[i + 1]] = t.take (i + 1 + 1) by rw [List.take_succ_eq_append_getElem h2]]
    exact ih (i + 1) (by omega) (by omega)
theorem line_keep (b0 b1 b2 b3 : Int) (t : List S37) (ht : ∀ p ∈ t, inB b0 b1 b2 b3 p = true) (hc : chain t) : lineN b0 b1 b2 b3 t (t.length - 1) 0 false [] [] = if t.length < 2 then [] else [t] := by
  by_cases h : t.length < 2
  · rw [if_pos h, show t.length - 1 = 0 by omega, lineN]
    rfl
  · rw [if_neg h]
    obtain ⟨n, hn⟩ : ∃ n, t.length - 1 = n + 1 := ⟨t.length - 2, by omega⟩
    have h1 : 0 < t.length := by omega
    have h2 : 0 + 1 < t.length := by omega
    rw [hn, lineN, rd_get t 0 h1, rd_get t (0 + 1) h2, piece_keep b0 b1 b2 b3 4 t[0] t[0 + 1] (by omega) (ht _ (List.getElem_mem _)) (ht _ (List.getElem_mem _)) (chain_get t hc 0 h2)]
    dsimp only
    rw [if_neg (by simp), eqp_self, show shut [] ([] : List S37) = [] from rfl]
    have := lineN_keep b0 b1 b2 b3 t ht hc n 1 (by omega) (by omega)
    rw [← this]
    congr 1
    obtain ⟨a, c, t', rfl⟩ : ∃ a c t', t = a :: c :: t' := by
      match t, h with
      | a :: c :: t', _ => exact ⟨a, c, t', rfl⟩
      | [a], h => exact absurd (by simp) h
      | [], h => exact absurd (by simp) h
    rfl
end Go.Proofs.Ytbgabhdhheplgaa.Pl
end
section
namespace Go.Proofs.Ytbgabhdhheplgaa.Pl
open Go.RowKit Go.Proofs.Ytbgabhdhheplgaa.PALL Go.Proofs.YtbgabhdhheplgaaW.PrintWords Go.Proofs.YtbgabhdhheplgaaW.PrintLast Go.Proofs.YtbgabhdhheplgaaW.PrintMore

theorem wrap_id {x : Int} (h1 : -4611686018427387904 ≤ x) (h2 : x ≤ 4611686018427387904) : wrap64 x = x := by unfold wrap64; omega
theorem tdiv_small (a d : Int) (_ : 0 < d) (ha : -1099511627776 ≤ a) (ha' : a ≤ 1099511627776) : -1099511627776 ≤ Int.tdiv a d ∧ Int.tdiv a d ≤ 1099511627776 := by
  have h := Int.natAbs_tdiv_le_natAbs a d
  omega
/-- The rounded quotient's two parts. -/
theorem flr_rem (a d : Int) (hd : 0 < d) (hd' : d ≤ 1099511627776) (ha : -1099511627776 ≤ a) (ha' : a ≤ 1099511627776) : a = d * flr a d + rem a d ∧ 0 ≤ rem a d ∧ rem a d < d ∧ -1099511627777 ≤ flr a d ∧ flr a d ≤ 1099511627777 := by
  have h1 := Int.mul_tdiv_add_tmod a d
  obtain ⟨h2, h3⟩ := tdiv_small a d hd ha ha'
  have h4 : Int.tmod a d < d := Int.tmod_lt_of_pos a hd
  have h5 : -d < Int.tmod a d := by
    have := Int.tmod_lt_of_pos (-a) hd
    rw [Int.neg_tmod] at this
    omega
  rw [flr, rem]
  by_cases hn : Int.tmod a d < 0
  · rw [if_pos hn, if_pos hn, wrap_id (x := Int.tdiv a d) (by omega) (by omega), wrap_id (by omega) (by omega), wrap_id (by omega) (by omega), Int.mul_sub, Int.mul_one]
    omega
  · rw [if_neg hn, if_neg hn, wrap_id (x := Int.tdiv a d) (by omega) (by omega)]
    omega
theorem rdiv_eq (a d : Int) (hd : 0 < d) (hd' : d ≤ 1099511627776) (ha : -1099511627776 ≤ a) (ha' : a ≤ 1099511627776) : rdiv a d = if rem a d ≥ d - rem a d then flr a d + 1 else flr a d := by
  obtain ⟨h1, h2, h3, h4, h5⟩ := flr_rem a d hd hd' ha ha'
  rw [rdiv, if_neg (by omega), wrap_id (x := d - rem a d) (by omega) (by omega), wrap_id (x := flr a d + 1) (by omega) (by omega)]
/-- A whole number between two others. -/
def btw (x y z : Int) : Prop := (x ≤ z ∧ z ≤ y) ∨ (y ≤ z ∧ z ≤ x)
theorem rdiv_btw (n m d : Int) (hd : 0 < d) (hd' : d ≤ 32768) (h0 : 0 ≤ n) (h1 : n ≤ d) (hm : -32768 ≤ m) (hm' : m ≤ 32768) : btw 0 m (rdiv (n * m) d) ∧ -1099511627776 ≤ n * m ∧ n * m ≤ 1099511627776 := by
  have a1 : n * m ≤ n * 32768 := Int.mul_le_mul_of_nonneg_left hm' h0
  have a2 : n * (-32768) ≤ n * m := Int.mul_le_mul_of_nonneg_left hm h0
  have b1 : -1099511627776 ≤ n * m := by omega
  have b2 : n * m ≤ 1099511627776 := by omega
  refine ⟨?_, b1, b2⟩
  obtain ⟨e1, e2, e3, e4, e5⟩ := flr_rem (n * m) d hd (by omega) b1 b2
  rw [rdiv_eq _ d hd (by omega) b1 b2]
  generalize flr (n * m) d = q at e1 e4 e5 ⊢
  generalize rem (n * m) d = r at e1 e2 e3 ⊢
  by_cases hs : 0 ≤ m
  · have c1 : 0 ≤ n * m := Int.mul_nonneg h0 hs
    have c2 : n * m ≤ d * m := Int.mul_le_mul_of_nonneg_right h1 hs
    have q0 : -1 < q := by
      refine Int.lt_of_mul_lt_mul_left (a := d) ?_ (by omega)
      rw [Int.mul_neg, Int.mul_one]
      omega
    have q1 : q ≤ m := by
      refine Int.le_of_mul_le_mul_left (a := d) ?_ hd
      omega
    by_cases hq : q = m
    · subst hq
      have : r = 0 := by omega
      subst this
      rw [if_neg (by omega)]
      exact .inl ⟨by omega, by omega⟩
    · left
      split <;> omega
  · have c1 : n * m ≤ 0 := Int.mul_nonpos_of_nonneg_of_nonpos h0 (by omega)
    have c2 : d * m ≤ n * m := by
      have := Int.mul_le_mul_of_nonneg_right h1 (show 0 ≤ -m by omega)
      rw [Int.mul_neg, Int.mul_neg] at this
      omega
    have q0 : m < q + 1 := by
      refine Int.lt_of_mul_lt_mul_left (a := d) ?_ (by omega)
      rw [Int.mul_add, Int.mul_one]
      omega
    have q1 : q ≤ 0 := by
      refine Int.le_of_mul_le_mul_left (a := d) ?_ hd
      rw [Int.mul_zero]
      omega
    by_cases hq : q = 0
    · subst hq
      rw [Int.mul_zero] at e1
      have : r = 0 := by omega
      subst this
      rw [if_neg (by omega)]
      exact .inr ⟨by omega, by omega⟩
    · right
      split <;> omega
theorem ratio_btw (n m d : Int) (hm : -32768 ≤ m) (hm' : m ≤ 32768) (h : (0 < d ∧ d ≤ 32768 ∧ 0 ≤ n ∧ n ≤ d) ∨ (d < 0 ∧ -32768 ≤ d ∧ d ≤ n ∧ n ≤ 0)) : btw 0 m (ratio n m d) := by
  rw [ratio]
  rcases h with ⟨h1, h2, h3, h4⟩ | ⟨h1, h2, h3, h4⟩
  · obtain ⟨a, b, c⟩ := rdiv_btw n m d h1 h2 h3 h4 hm hm'
    rw [if_neg (by omega), wrap_id (x := n * m) (by omega) (by omega)]
    exact a
  · obtain ⟨a, b, c⟩ := rdiv_btw (-n) m (-d) (by omega) (by omega) (by omega) (by omega) hm hm'
    rw [if_pos h1, wrap_id (x := -n) (by omega) (by omega), wrap_id (x := -n * m) (by omega) (by omega), wrap_id (x := -d) (by omega) (by omega)]
    exact a
/-- A place that no number of these overflows at. -/
def R (p : S37) : Prop := (0 ≤ p.f0 ∧ p.f0 ≤ 32768) ∧ (0 ≤ p.f1 ∧ p.f1 ≤ 32768)
theorem bord1_btw (h : Half) (a c : S37) (ha : R a) (hc : R c) (h0 : 0 ≤ h.2.2) (h1 : h.2.2 ≤ 32768) (hy : h.1 = true → btw a.f1 c.f1 h.2.2 ∧ a.f1 ≠ c.f1) (hx : h.1 = false → btw a.f0 c.f0 h.2.2 ∧ a.f0 ≠ c.f0) :
    btw a.f0 c.f0 (bord1 h a c).f0 ∧ btw a.f1 c.f1 (bord1 h a c).f1 ∧ (h.1 = true → (bord1 h a c).f1 = h.2.2) ∧ (h.1 = false → (bord1 h a c).f0 = h.2.2) := by
  obtain ⟨⟨r1, r2⟩, r3, r4⟩ := ha
  obtain ⟨⟨s1, s2⟩, s3, s4⟩ := hc
  unfold btw at hx hy
  rw [bord1]
  cases hb : h.1 with
  | true =>
    obtain ⟨g1, g2⟩ := hy hb
    rw [if_pos rfl, wrap_id (x := h.2.2 - a.f1) (by omega) (by omega), wrap_id (x := c.f0 - a.f0) (by omega) (by omega), wrap_id (x := c.f1 - a.f1) (by omega) (by omega)]
    have k := ratio_btw (h.2.2 - a.f1) (c.f0 - a.f0) (c.f1 - a.f1) (by omega) (by omega) (by omega)
    unfold btw at k ⊢
    generalize ratio (h.2.2 - a.f1) (c.f0 - a.f0) (c.f1 - a.f1) = z at k ⊢
    rw [wrap_id (x := a.f0 + z) (by omega) (by omega)]
    exact ⟨by dsimp only; omega, g1, fun _ => rfl, fun h => by simp at h⟩
  | false =>
    obtain ⟨g1, g2⟩ := hx hb
    rw [if_neg (by simp), wrap_id (x := h.2.2 - a.f0) (by omega) (by omega), wrap_id (x := c.f1 - a.f1) (by omega) (by omega), wrap_id (x := c.f0 - a.f0) (by omega) (by omega)]
    have k := ratio_btw (h.2.2 - a.f0) (c.f1 - a.f1) (c.f0 - a.f0) (by omega) (by omega) (by omega)
    unfold btw at k ⊢
    generalize ratio (h.2.2 - a.f0) (c.f1 - a.f1) (c.f0 - a.f0) = z at k ⊢
    rw [wrap_id (x := a.f1 + z) (by omega) (by omega)]
    exact ⟨g1, by dsimp only; omega, fun h => by simp at h, fun _ => rfl⟩
theorem btw_comm {x y z : Int} (h : btw x y z) : btw y x z := h.symm
/-- A border point lies between the ends, and in the half plane. -/
theorem bord_btw (h : Half) (p q : S37) (hp : R p) (hq : R q) (h0 : 0 ≤ h.2.2) (h1 : h.2.2 ≤ 32768) (hne : has h p ≠ has h q) :
    btw p.f0 q.f0 (bord h p q).f0 ∧ btw p.f1 q.f1 (bord h p q).f1 ∧ has h (bord h p q) = true := by
  obtain ⟨by_, most, at_⟩ := h
  have ky : by_ = true → btw p.f1 q.f1 at_ ∧ p.f1 ≠ q.f1 := by
    rintro rfl
    unfold btw
    cases most <;> simp [has] at hne <;> omega
  have kx : by_ = false → btw p.f0 q.f0 at_ ∧ p.f0 ≠ q.f0 := by
    rintro rfl
    unfold btw
    cases most <;> simp [has] at hne <;> omega
  have fin_ : ∀ z : S37, (by_ = true → z.f1 = at_) → (by_ = false → z.f0 = at_) → has (by_, most, at_) z = true := fun z e1 e2 => by
    cases by_ with
    | true => cases most <;> simp [has, e1 rfl]
    | false => cases most <;> simp [has, e2 rfl]
  rw [bord]
  split
  · obtain ⟨b1, b2, b3, b4⟩ := bord1_btw (by_, most, at_) q p hq hp h0 h1 (fun e => ⟨btw_comm (ky e).1, fun e' => (ky e).2 e'.symm⟩) (fun e => ⟨btw_comm (kx e).1, fun e' => (kx e).2 e'.symm⟩)
    exact ⟨btw_comm b1, btw_comm b2, fin_ _ b3 b4⟩
  · obtain ⟨b1, b2, b3, b4⟩ := bord1_btw (by_, most, at_) p q hp hq h0 h1 ky kx
    exact ⟨b1, b2, fin_ _ b3 b4⟩
theorem has_btw (h : Half) (p q z : S37) (hp : has h p = true) (hq : has h q = true) (k0 : btw p.f0 q.f0 z.f0) (k1 : btw p.f1 q.f1 z.f1) : has h z = true := by
  obtain ⟨by_, most, at_⟩ := h
  unfold btw at k0 k1
  cases by_ <;> cases most <;> simp [has] at hp hq ⊢ <;> omega
theorem R_btw {p q z : S37} (hp : R p) (hq : R q) (k0 : btw p.f0 q.f0 z.f0) (k1 : btw p.f1 q.f1 z.f1) : R z := by
  unfold R btw at *
  omega
theorem hs_at {b0 b1 b2 b3 : Int} (hg : goodB b0 b1 b2 b3 = true) (s : Nat) (hs4 : s < 4) : 0 ≤ (hs b0 b1 b2 b3 s).2.2 ∧ (hs b0 b1 b2 b3 s).2.2 ≤ 32768 := by
  simp only [goodB, Bool.and_eq_true, decide_eq_true_eq] at hg
  have : s = 0 ∨ s = 1 ∨ s = 2 ∨ s = 3 := by omega
  rcases this with rfl | rfl | rfl | rfl <;> simp [hs, clip_hs] <;> omega
theorem R_valid {p : S37} (h : validP p = true) : R p := by
  simp only [validP, Bool.and_eq_true, decide_eq_true_eq] at h
  unfold R
  omega
/-- What the sides ahead of the last n say. -/
def left (b0 b1 b2 b3 : Int) (n : Nat) (p : S37) : Prop := R p ∧ ∀ s, s < 4 - n → has (hs b0 b1 b2 b3 s) p = true
theorem left_bord {b0 b1 b2 b3 : Int} (hg : goodB b0 b1 b2 b3 = true) {n : Nat} (hn : n < 4) {p q : S37} (hp : left b0 b1 b2 b3 (n + 1) p) (hq : left b0 b1 b2 b3 (n + 1) q) (hne : has (hs b0 b1 b2 b3 (3 - n)) p ≠ has (hs b0 b1 b2 b3 (3 - n)) q) :
    left b0 b1 b2 b3 n (bord (hs b0 b1 b2 b3 (3 - n)) p q) := by
  have ha := hs_at hg (3 - n) (by omega)
  obtain ⟨k0, k1, k2⟩ := bord_btw _ p q hp.1 hq.1 ha.1 ha.2 hne
  refine ⟨R_btw hp.1 hq.1 k0 k1, fun s hs' => ?_⟩
  by_cases he : s = 3 - n
  · rw [he]; exact k2
  · exact has_btw _ p q _ (hp.2 s (by omega)) (hq.2 s (by omega)) k0 k1
theorem left_has {b0 b1 b2 b3 : Int} {n : Nat} (hn : n < 4) {p : S37} (hp : left b0 b1 b2 b3 (n + 1) p) (h : has (hs b0 b1 b2 b3 (3 - n)) p = true) : left b0 b1 b2 b3 n p :=
  ⟨hp.1, fun s hs' => by
    by_cases he : s = 3 - n
    · rw [he]; exact h
    · exact hp.2 s (by omega)⟩
theorem left_inB {b0 b1 b2 b3 : Int} {p : S37} (h : left b0 b1 b2 b3 0 p) : inB b0 b1 b2 b3 p = true := inB_of_has (fun s hs' => h.2 s hs')
theorem piece_in {b0 b1 b2 b3 : Int} (hg : goodB b0 b1 b2 b3 = true) : ∀ (n : Nat) (p q a c : S37), n ≤ 4 → left b0 b1 b2 b3 n p → left b0 b1 b2 b3 n q → piece b0 b1 b2 b3 n p q = some (a, c) → inB b0 b1 b2 b3 a = true ∧ inB b0 b1 b2 b3 c = true ∧ a ≠ c
  | 0, p, q, a, c, _, hp, hq, h => by
    rw [piece] at h
    split at h
    · simp at h
    · rename_i hne
      injection h with h
      injection h with h1 h2
      subst h1 h2
      exact ⟨left_inB hp, left_inB hq, fun e => hne (eqp_iff.2 e)⟩
  | n + 1, p, q, a, c, hn, hp, hq, h => by
    rw [piece] at h
    by_cases h1 : has (hs b0 b1 b2 b3 (3 - n)) p = true
    · rw [if_pos h1] at h
      by_cases h2 : has (hs b0 b1 b2 b3 (3 - n)) q = true
      · rw [if_pos h2] at h
        exact piece_in hg n p q a c (by omega) (left_has (by omega) hp h1) (left_has (by omega) hq h2) h
      · rw [if_neg h2] at h
        exact piece_in hg n p _ a c (by omega) (left_has (by omega) hp h1) (left_bord hg (by omega) hp hq (by rw [h1]; exact fun e => h2 e.symm)) h
    · rw [if_neg h1] at h
      by_cases h2 : has (hs b0 b1 b2 b3 (3 - n)) q = true
      · rw [if_pos h2] at h
        exact piece_in hg n _ q a c (by omega) (left_bord hg (by omega) hp hq (by rw [h2]; exact h1)) (left_has (by omega) hq h2) h
      · rw [if_neg h2] at h
        simp at h
theorem step_left {b0 b1 b2 b3 : Int} (hg : goodB b0 b1 b2 b3 = true) {n : Nat} (hn : n < 4) {p q x : S37} (hp : left b0 b1 b2 b3 (n + 1) p) (hq : left b0 b1 b2 b3 (n + 1) q) (hx : x ∈ step (hs b0 b1 b2 b3 (3 - n)) p q) : left b0 b1 b2 b3 n x := by
  rw [step, List.mem_append] at hx
  rcases hx with hx | hx
  · split at hx
    · rename_i h1
      rw [List.mem_singleton.1 hx]
      exact left_has hn hp h1
    · simp at hx
  · split at hx
    · simp at hx
    · rename_i h1
      rw [List.mem_singleton.1 hx]
      exact left_bord hg hn hp hq h1
theorem sideN_left {b0 b1 b2 b3 : Int} (hg : goodB b0 b1 b2 b3 = true) {n : Nat} (hn : n < 4) (l : List S37) (hl : ∀ p ∈ l, left b0 b1 b2 b3 (n + 1) p) : ∀ (m i : Nat), i + m = l.length → ∀ x ∈ sideN (hs b0 b1 b2 b3 (3 - n)) l m i, left b0 b1 b2 b3 n x
  | 0, i, _, x, hx => by rw [sideN] at hx; simp at hx
  | m + 1, i, hi, x, hx => by
    have hil : i < l.length := by omega
    rw [sideN, List.mem_append] at hx
    rcases hx with hx | hx
    · rw [rd_get l i hil] at hx
      exact step_left hg hn (hl _ (List.getElem_mem hil)) (hl _ (nxt_mem l i hil)) hx
    · exact sideN_left hg hn l hl m (i + 1) (by omega) x hx
theorem rest_in {b0 b1 b2 b3 : Int} (hg : goodB b0 b1 b2 b3 = true) : ∀ (n : Nat) (l : List S37), n ≤ 4 → (∀ p ∈ l, left b0 b1 b2 b3 n p) → ∃ l', rest b0 b1 b2 b3 n l = fin l' ∧ ∀ p ∈ l', inB b0 b1 b2 b3 p = true
  | 0, l, _, hl => ⟨l, rfl, fun p hp => left_inB (hl p hp)⟩
  | n + 1, l, hn, hl => by
    rw [rest]
    exact rest_in hg n _ (by omega) (fun p hp => sideN_left hg (by omega) l hl l.length 0 (by omega) p hp)
/-- A ring that clipping gives: none, or one in the box with an area that TidyRing does not change. -/
theorem ring_in (l : List S37) (b0 b1 b2 b3 : Int) : (∀ p ∈ ring l b0 b1 b2 b3, inB b0 b1 b2 b3 p = true) ∧ (ring l b0 b1 b2 b3 = [] ∨ goodB b0 b1 b2 b3 = true) ∧ fin (ring l b0 b1 b2 b3) = ring l b0 b1 b2 b3 := by
  rw [ring]
  by_cases hp : perm l b0 b1 b2 b3 = true
  · rw [if_pos hp]
    rw [perm, Bool.and_eq_true] at hp
    obtain ⟨ha, hg⟩ := hp
    obtain ⟨l', e, h⟩ := rest_in hg 4 l (by omega) (fun p hp => ⟨R_valid (List.all_eq_true.1 ha p hp), fun s hs' => by omega⟩)
    rw [e]
    exact ⟨fun p hp => h p (mem_fin hp), .inr hg, fin_again l'⟩
  · rw [if_neg hp]
    refine ⟨fun p hp => by simp at hp, .inl rfl, ?_⟩
    rw [fin]
    split <;> simp [tidy, tidyRing, trim]
/-- A part of a line: two points or more, in the box, neighbours differ. -/
def good (b0 b1 b2 b3 : Int) (x : List S37) : Prop := 2 ≤ x.length ∧ (∀ p ∈ x, inB b0 b1 b2 b3 p = true) ∧ chain x
theorem shut_good {b0 b1 b2 b3 : Int} {done : List (List S37)} {cur : List S37} (hd : ∀ x ∈ done, good b0 b1 b2 b3 x) (hc : cur = [] ∨ good b0 b1 b2 b3 cur) : ∀ x ∈ shut done cur, good b0 b1 b2 b3 x := fun x hx => by
  rcases shut_mem hx with h | ⟨rfl, hne⟩
  · exact hd x h
  · exact hc.resolve_left hne
theorem lineN_in {b0 b1 b2 b3 : Int} (hg : goodB b0 b1 b2 b3 = true) (t : List S37) (ht : ∀ p ∈ t, R p) : ∀ (n i : Nat) (opn : Bool) (done : List (List S37)) (cur : List S37), (n = 0 ∨ i + n + 1 ≤ t.length) → (∀ x ∈ done, good b0 b1 b2 b3 x) → (cur = [] ∨ good b0 b1 b2 b3 cur) →
    (opn = true → cur.getLast? = some (rd_T37 t (i : Int))) → ∀ x ∈ lineN b0 b1 b2 b3 t n i opn done cur, good b0 b1 b2 b3 x
  | 0, i, opn, done, cur, _, hd, hc, _ => by rw [lineN]; exact shut_good hd hc
  | n + 1, i, opn, done, cur, hi, hd, hc, ho => by
    have h1 : i < t.length := by omega
    have h2 : i + 1 < t.length := by omega
    rw [lineN]
    split
    · exact lineN_in hg t ht n (i + 1) false done cur (by omega) hd hc (by simp)
    · rename_i p q hpq
      have lr : ∀ z, R z → left b0 b1 b2 b3 4 z := fun z hz => ⟨hz, fun s hs' => by omega⟩
      obtain ⟨k1, k2, k3⟩ := piece_in hg 4 _ _ p q (by omega) (lr _ (by rw [rd_get t i h1]; exact ht _ (List.getElem_mem _))) (lr _ (by rw [rd_get t (i + 1) h2]; exact ht _ (List.getElem_mem _))) hpq
      have lst : ∀ (c : List S37), eqp q (rd_T37 t ((i + 1 : Nat) : Int)) = true → (c ++ [q]).getLast? = some (rd_T37 t ((i + 1 : Nat) : Int)) := fun c e => by
        rw [List.getLast?_append, ← eqp_iff.1 e]; rfl
      split
      · rename_i hm
        obtain ⟨m1, m2⟩ := meets_iff.1 hm
        have hl := ho m1
        have hcur : good b0 b1 b2 b3 cur := hc.resolve_left (fun e => by rw [e] at hl; simp at hl)
        refine lineN_in hg t ht n (i + 1) _ done (cur ++ [q]) (by omega) hd (.inr ⟨by have := hcur.1; simp; omega, fun z hz => ?_, chain_snoc cur q hcur.2.2 (fun z hz => ?_)⟩) (lst cur)
        · rcases List.mem_append.1 hz with hz | hz
          · exact hcur.2.1 z hz
          · rw [List.mem_singleton.1 hz]; exact k2
        · rw [hl] at hz
          injection hz with hz
          rw [← hz, ← m2]
          exact k3
      · refine lineN_in hg t ht n (i + 1) _ (shut done cur) [p, q] (by omega) (shut_good hd hc) (.inr ⟨by simp, fun z hz => ?_, k3, trivial⟩) (lst [p])
        rcases List.mem_cons.1 hz with hz | hz
        · rw [hz]; exact k1
        · rw [List.mem_singleton.1 hz]; exact k2
/-- The parts that clipping gives. -/
theorem line_in (l : List S37) (b0 b1 b2 b3 : Int) : (line l b0 b1 b2 b3 = [] ∨ goodB b0 b1 b2 b3 = true) ∧ ∀ x ∈ line l b0 b1 b2 b3, good b0 b1 b2 b3 x := by
  rw [line]
  by_cases hp : perm l b0 b1 b2 b3 = true
  · rw [if_pos hp]
    rw [perm, Bool.and_eq_true] at hp
    obtain ⟨ha, hg⟩ := hp
    exact ⟨.inr hg, lineN_in hg (tidy l) (fun p hp => R_valid (List.all_eq_true.1 ha p (mem_tidy hp))) _ 0 false [] [] (by omega) (fun x hx => by simp at hx) (.inl rfl) (by simp)⟩
  · rw [if_neg hp]
    exact ⟨.inl rfl, fun x hx => by simp at hx⟩
end Go.Proofs.Ytbgabhdhheplgaa.Pl
end
section
namespace Go.Proofs.Ytbgabhdhheplgaa.Pure
open Go.RowKit Go.Proofs.Ytbgabhdhheplgaa.PALL Go.Proofs.YtbgabhdhheplgaaW.PrintWords Go.Proofs.YtbgabhdhheplgaaW.PrintLast Go.Proofs.YtbgabhdhheplgaaW.PrintMore Go.Proofs.YtbgabhdhheplgaaW.Open

theorem within_true (b0 b1 b2 b3 : Int) (l : List S37) (hl : l.length ≤ 1000) (h : ∀ p ∈ l, Pl.inB b0 b1 b2 b3 p = true) : Ev (fun k => mapmakerlaw12_within.f k l b0 b1 b2 b3) true := by
  have := Pl.within_ev b0 b1 b2 b3 l (by omega)
  rwa [List.all_eq_true.2 h] at this
theorem inside_j1 (r : List S37) (b0 b1 b2 b3 : Int) (hl : r.length ≤ 1000) (h : ∀ p ∈ r, Pl.inB b0 b1 b2 b3 p = true) : Ev (fun k => mapmakerlaw12_ClipInside.j1 k r false b0 b1 b2 b3) true :=
  Ev.step (f := fun k => (mapmakerlaw12_within.f k r b0 b1 b2 b3).bind fun t339 => if t339 = true then (mapmakerlaw12_lives.f k).bind fun t340 => some t340 else some false) (fun k => by rw [mapmakerlaw12_ClipInside.j1, if_neg (by simp)]) (Ev.bind (within_true b0 b1 b2 b3 r hl h) (Ev.congr (fun k => if_pos rfl) (Ev.bind Pl.lives_ev (Ev.now _))))
theorem inside_l0 (ps : List (List S37)) (r : List S37) (b0 b1 b2 b3 : Int) (hps : ps.length ≤ 1000) (hp1 : ∀ x ∈ ps, x.length ≤ 1000) (hp : ∀ x ∈ ps, Pl.good b0 b1 b2 b3 x) (hl : r.length ≤ 1000) (h : ∀ p ∈ r, Pl.inB b0 b1 b2 b3 p = true) (hf : Pl.fin r = r) :
    ∀ (n i : Nat), i + n = ps.length → Ev (fun k => mapmakerlaw12_ClipInside.l0 k ps r (i : Int) b0 b1 b2 b3) true := by
  intro n
  induction n with
  | zero =>
    intro i hi
    have hj := inside_j1 r b0 b1 b2 b3 hl h
    rcases Pl.fin_cases r with e | ⟨e1, e2, e3, e4⟩
    · rw [hf] at e
      refine Ev.step (fun k => ?_) hj
      rw [mapmakerlaw12_ClipInside.l0, if_neg (by omega), if_neg (by rw [e]; simp)]
    · rw [hf] at e1 e2 e3 e4
      refine Ev.step (f := fun k => (mapmakerref12_Area2.f k r).bind fun t334 => if t334 = 0 then mapmakerlaw12_ClipInside.j1 k r true b0 b1 b2 b3 else (clip_TidyRing.f k r).bind fun t335 => (mapmakerref08_Same.f k t335 r).bind fun t338 => mapmakerlaw12_ClipInside.j1 k r (!t338) b0 b1 b2 b3) (fun k => ?_) ?_
      · rw [mapmakerlaw12_ClipInside.l0, if_neg (by omega), if_pos (by omega), if_neg (by omega)]
      · have ht := Pl.tidyRing_ev r (by omega)
        rw [e4] at ht
        exact Ev.bind (Pl.ref_area_ev r (by omega)) (Ev.congr (fun k => if_neg e3) (Ev.bind ht (Ev.bind (Pl.same_ev r (by omega)) hj)))
  | succ n ih =>
    intro i hi
    have hil : i < ps.length := by omega
    have hr : rd_L4 ps (i : Int) = ps[i] := by simp [rd_L4, hil]
    have hx := hp _ (List.getElem_mem hil)
    have hx1 := hp1 _ (List.getElem_mem hil)
    have ht := Pl.tidy_ev ps[i] (by omega)
    rw [Pl.tidy_id hx.2.2] at ht
    refine Ev.step (f := fun k => (mapmakerlaw12_within.f k ps[i] b0 b1 b2 b3).bind fun t328 => if t328 = true then (clip_Tidy.f k ps[i]).bind fun t330 => if (t330.length : Int) = (ps[i].length : Int) then mapmakerlaw12_ClipInside.l0 k ps r ((i + 1 : Nat) : Int) b0 b1 b2 b3 else some false else some false) (fun k => ?_) ?_
    · have h2 := hx.1
      rw [mapmakerlaw12_ClipInside.l0, if_pos (by omega), if_pos (by omega), hr, if_neg (by omega), Pl.w_suc hil (by omega)]
    · exact Ev.bind (within_true b0 b1 b2 b3 ps[i] hx1 hx.2.1) (Ev.congr (fun k => if_pos rfl) (Ev.bind ht (Ev.congr (fun k => if_pos rfl) (ih (i + 1) (by omega)))))
theorem ClipInside : mapmakerlaw12_ClipInside.Pure := by
  intro y0 y1 h h1
  refine Ev.rounds ?_
  by_cases hc : (y0.length : Int) > 60
  · exact Ev.congr (fun k => by rw [mapmakerlaw12_ClipInside.f, if_pos hc]) (Ev.bind Pl.lives_ev (Ev.now _))
  · have l1 := Pl.line_length y0 y1.f0 y1.f1 y1.f2 y1.f3
    have l2 := Pl.line_part y0 y1.f0 y1.f1 y1.f2 y1.f3
    have l3 := Pl.ring_length y0 y1.f0 y1.f1 y1.f2 y1.f3
    obtain ⟨r1, _, r3⟩ := Pl.ring_in y0 y1.f0 y1.f1 y1.f2 y1.f3
    obtain ⟨_, q2⟩ := Pl.line_in y0 y1.f0 y1.f1 y1.f2 y1.f3
    refine Ev.congr (fun k => by rw [mapmakerlaw12_ClipInside.f, if_neg hc]) (Ev.bind (Pl.line_ev y0 y1.f0 y1.f1 y1.f2 y1.f3 (by omega)) (Ev.bind (Pl.ring_ev y0 y1.f0 y1.f1 y1.f2 y1.f3 (by omega)) ?_))
    exact inside_l0 (Pl.line y0 y1.f0 y1.f1 y1.f2 y1.f3) (Pl.ring y0 y1.f0 y1.f1 y1.f2 y1.f3) _ _ _ _ (by omega) (fun x hx => by have := l2 x hx; omega) q2 (by omega) r1 r3 _ 0 (Nat.zero_add _)

end Go.Proofs.Ytbgabhdhheplgaa.Pure
end
