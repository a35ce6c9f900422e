/-
  The law ClipKeeps in plain words: for every row of points and every box there is a number of rounds after which the printed law gives true.
-/
import Derived.IntWalk
import Derived.Test.YtbgabhdhheplgaaPALLx3
import Derived.Test.YtbgabhdhheplgaaPALLx12
import Derived.Test.YtbgabhdhheplgaaPALLx6
import Derived.Test.YtbgabhdhheplgaaPALLx14
import Derived.Test.YtbgabhdhheplgaaPALLx15
import Derived.Test.YtbgabhdhheplgaaPALLx8
import Derived.Test.YtbgabhdhheplgaaPALLx9
import Derived.Test.YtbgabhdhheplgaaPALLx7
import Derived.Test.YtbgabhdhheplgaaPALLx23
import Derived.Test.YtbgabhdhheplgaaPALLxoClipKeeps
section
namespace Go.Proofs.Ytbgabhdhheplgaa.Pl
open Go.RowKit Go.Proofs.Ytbgabhdhheplgaa.PALL Go.Proofs.YtbgabhdhheplgaaW.PrintWords Go.Proofs.YtbgabhdhheplgaaW.PrintLast Go.Proofs.YtbgabhdhheplgaaW.PrintMore

def eqp (p q : S37) : Bool := p.f0 == q.f0 && p.f1 == q.f1
theorem eqp_iff {p q : S37} : eqp p q = true ↔ p = q := by
  obtain ⟨a, b⟩ := p
  obtain ⟨c, d⟩ := q
  simp [eqp]
theorem eqp_self (p : S37) : eqp p p = true := eqp_iff.2 rfl
def tidyFrom (q : S37) : List S37 → List S37
  | [] => []
  | p :: t => if eqp p q = true then tidyFrom q t else p :: tidyFrom p t
def tidy : List S37 → List S37
  | [] => []
  | p :: t => p :: tidyFrom p t
theorem tidyFrom_length (q : S37) (l : List S37) : (tidyFrom q l).length ≤ l.length := by
  induction l generalizing q with
  | nil => simp [tidyFrom]
  | cons p t ih =>
    rw [tidyFrom]
    split
    · have := ih q; simp; omega
    · have := ih p; simp; omega
theorem tidy_length (l : List S37) : (tidy l).length ≤ l.length := by
  cases l with
  | nil => simp [tidy]
  | cons p t => have := tidyFrom_length p t; simp [tidy]; omega
theorem w_suc {i n : Nat} (h : i < n) (hn : n ≤ 4611686018427387904) : wrap64 ((i : Int) + 1) = ((i + 1 : Nat) : Int) := by
  unfold wrap64; omega
theorem w_pre {i n : Nat} (h : i < n) (h0 : 0 < i) (hn : n ≤ 4611686018427387904) : wrap64 ((i : Int) - 1) = ((i - 1 : Nat) : Int) := by
  unfold wrap64; omega
theorem rd_nat (l : List S37) (i : Nat) : rd_T37 l (i : Int) = l.getD i z37 := by simp [rd_T37]
theorem rd_get (l : List S37) (i : Nat) (h : i < l.length) : rd_T37 l (i : Int) = l[i] := by
  rw [rd_nat, List.getD_eq_getElem?_getD, List.getElem?_eq_getElem h]; rfl
theorem eta (p : S37) : (⟨p.f0, p.f1⟩ : S37) = p := rfl
theorem ne_bool (p q : S37) : ((!(p.f0 == q.f0) || !(p.f1 == q.f1)) = true) ↔ ¬ eqp p q = true := by
  simp only [eqp]; cases (p.f0 == q.f0) <;> cases (p.f1 == q.f1) <;> simp

theorem tidy_l0 (l : List S37) (hl : l.length ≤ 1099511627776) : ∀ (n i : Nat) (acc : List S37), i + n = l.length → 0 < i → acc.length ≤ i →
    Ev (fun k => clip_Tidy.l0 k l acc l (l.length : Int) (i : Int)) (acc ++ tidyFrom (rd_T37 l ((i - 1 : Nat) : Int)) (l.drop i)) := by
  intro n
  induction n with
  | zero =>
    intro i acc h h0 ha
    rw [List.drop_eq_nil_of_le (by omega), tidyFrom, List.append_nil]
    refine Ev.step (f := fun _ => some acc) (fun k => ?_) (Ev.now _)
    rw [clip_Tidy.l0, if_neg (by omega)]
  | succ n ih =>
    intro i acc h h0 ha
    have hi : i < l.length := by omega
    rw [List.drop_eq_getElem_cons hi, tidyFrom]
    have hw := w_suc hi (by omega)
    have hp := w_pre hi h0 (by omega)
    by_cases he : eqp l[i] (rd_T37 l ((i - 1 : Nat) : Int)) = true
    · rw [if_pos he]
      have := ih (i + 1) acc (by omega) (by omega) (by omega)
      rw [show i + 1 - 1 = i by omega, rd_get l i hi, eqp_iff.1 he] at this
      refine Ev.step (f := fun k => clip_Tidy.l0 k l acc l (l.length : Int) ((i + 1 : Nat) : Int)) (fun k => ?_) this
      rw [clip_Tidy.l0, if_pos (by omega), if_pos (by omega), if_pos (by omega), if_neg (by omega), hp, if_pos (by omega), if_pos (by omega), if_neg (by rw [ne_bool, rd_get l i hi]; simpa using he), hw]
    · rw [if_neg he]
      have := ih (i + 1) (acc ++ [l[i]]) (by omega) (by omega) (by simp; omega)
      rw [show i + 1 - 1 = i by omega, rd_get l i hi, List.append_assoc] at this
      refine Ev.step (f := fun k => clip_Tidy.l0 k l (acc ++ [l[i]]) l (l.length : Int) ((i + 1 : Nat) : Int)) (fun k => ?_) this
      rw [clip_Tidy.l0, if_pos (by omega), if_pos (by omega), if_pos (by omega), if_neg (by omega), hp, if_pos (by omega), if_pos (by omega), if_pos (by rw [ne_bool, rd_get l i hi]; exact he), if_pos (by omega), hw, eta, rd_get l i hi]
/-- Tidy gives the tidy line. -/
theorem tidy_ev (l : List S37) (hl : l.length ≤ 1099511627776) : Ev (fun k => clip_Tidy.f k l) (tidy l) := by
  cases l with
  | nil =>
    refine Ev.step (f := fun _ => some []) (fun k => ?_) (Ev.now _)
    simp [clip_Tidy.f, clip_Tidy.l0]
  | cons p t =>
    have hc : ((p :: t).length : Int) = (t.length : Int) + 1 := by simp
    have := tidy_l0 (p :: t) hl t.length 1 [p] (by simp; omega) (by omega) (by simp)
    refine Ev.step (f := fun k => clip_Tidy.l0 k (p :: t) [p] (p :: t) ((p :: t).length : Int) ((1 : Nat) : Int)) (fun k => ?_) this
    rw [clip_Tidy.f, clip_Tidy.l0, if_pos (by omega), if_pos (by omega), if_pos (by omega), if_pos rfl, if_pos (by simp), show wrap64 (0 + 1) = ((1 : Nat) : Int) by (unfold wrap64; omega), show rd_T37 (p :: t) 0 = p from rfl]
    rfl

theorem same_l0 (t : List S37) (hl : t.length ≤ 1099511627776) : ∀ (n i : Nat), i + n = t.length → Ev (fun k => mapmakerref08_Same.l0 k t t (i : Int)) true := by
  intro n
  induction n with
  | zero =>
    intro i h
    refine Ev.step (f := fun _ => some true) (fun k => ?_) (Ev.now _)
    rw [mapmakerref08_Same.l0, if_neg (by omega)]
  | succ n ih =>
    intro i h
    have hw := w_suc (show i < t.length by omega) (by omega)
    refine Ev.step (fun k => ?_) (ih (i + 1) (by omega))
    rw [mapmakerref08_Same.l0, if_pos (by omega), if_pos (by omega), if_pos (by omega), if_neg (by rw [ne_bool]; simp [eqp_self]), hw]
/-- Same says that a row is itself. -/
theorem same_ev (t : List S37) (hl : t.length ≤ 1099511627776) : Ev (fun k => mapmakerref08_Same.f k t t) true :=
  Ev.congr (fun k => by rw [mapmakerref08_Same.f, if_pos rfl]; rfl) (same_l0 t hl t.length 0 (by omega))

/-- The row without the points at its end that are its first. -/
def trim : Nat → List S37 → List S37
  | 0, t => t
  | n + 1, t => if 1 < t.length ∧ eqp (rd_T37 t ((t.length - 1 : Nat) : Int)) (rd_T37 t ((0 : Nat) : Int)) = true then trim n (t.take (t.length - 1)) else t
def tidyRing (t : List S37) : List S37 := if (trim t.length t).length < 3 then [] else trim t.length t
theorem trim_length (n : Nat) (t : List S37) : (trim n t).length ≤ t.length := by
  induction n generalizing t with
  | zero => exact Nat.le_refl _
  | succ n ih =>
    rw [trim]
    split
    · have := ih (t.take (t.length - 1)); simp at this; omega
    · exact Nat.le_refl _
theorem ring_l0 : ∀ (n : Nat) (t : List S37), t.length ≤ n → n ≤ 1099511627776 → Ev (fun k => clip_TidyRing.l0 k t) (if (trim n t).length < 3 then [] else trim n t) := by
  intro n
  induction n with
  | zero =>
    intro t ht hn
    refine Ev.step (f := fun _ => some []) (fun k => ?_) ?_
    · rw [clip_TidyRing.l0, if_neg (by omega), if_pos (by omega)]
    · rw [trim, if_pos (by omega)]; exact Ev.now _
  | succ n ih =>
    intro t ht hn
    by_cases h1 : 1 < t.length
    · have hw : wrap64 ((t.length : Int) - 1) = ((t.length - 1 : Nat) : Int) := by unfold wrap64; omega
      by_cases h2 : eqp (rd_T37 t ((t.length - 1 : Nat) : Int)) (rd_T37 t ((0 : Nat) : Int)) = true
      · rw [show trim (n + 1) t = trim n (t.take (t.length - 1)) by rw [trim, if_pos ⟨h1, h2⟩]]
        refine Ev.step (fun k => ?_) (ih (t.take (t.length - 1)) (by simp; omega) (by omega))
        rw [clip_TidyRing.l0, if_pos (by omega), hw, if_pos (by omega), if_pos (by omega), if_pos (by omega), if_pos (by simpa [eqp] using h2), if_pos (by omega)]
        simp
      · rw [show trim (n + 1) t = t by rw [trim, if_neg (fun h => h2 h.2)]]
        refine Ev.step (f := fun _ => some (if t.length < 3 then [] else t)) (fun k => ?_) (Ev.now _)
        rw [clip_TidyRing.l0, if_pos (by omega), hw, if_pos (by omega), if_pos (by omega), if_pos (by omega), if_neg (by simpa [eqp] using h2)]
        by_cases h3 : t.length < 3
        · rw [if_pos h3, if_pos (by omega)]
        · rw [if_neg h3, if_neg (by omega)]
    · rw [show trim (n + 1) t = t by rw [trim, if_neg (fun h => h1 h.1)]]
      refine Ev.step (f := fun _ => some (if t.length < 3 then [] else t)) (fun k => ?_) (Ev.now _)
      rw [clip_TidyRing.l0, if_neg (by omega), if_pos (by omega), if_pos (by omega)]
/-- TidyRing gives the tidy ring. -/
theorem tidyRing_ev (l : List S37) (hl : l.length ≤ 1099511627776) : Ev (fun k => clip_TidyRing.f k l) (tidyRing (tidy l)) :=
  Ev.bind (tidy_ev l hl) (ring_l0 _ _ (Nat.le_refl _) (by have := tidy_length l; omega))
theorem tidyRing_length (t : List S37) : (tidyRing t).length ≤ t.length := by
  rw [tidyRing]
  split
  · simp
  · exact trim_length _ _
end Go.Proofs.Ytbgabhdhheplgaa.Pl
end
section
namespace Go.Proofs.Ytbgabhdhheplgaa.Pl
open Go.RowKit Go.Proofs.Ytbgabhdhheplgaa.PALL Go.Proofs.YtbgabhdhheplgaaW.PrintWords Go.Proofs.YtbgabhdhheplgaaW.PrintLast Go.Proofs.YtbgabhdhheplgaaW.PrintMore

theorem lives_ev : Ev (fun k => mapmakerlaw12_lives.f k) true := Ev.of (fun k => mapmakerlaw12_lives.mono k) (k := 40) (by decide +kernel)
end Go.Proofs.Ytbgabhdhheplgaa.Pl
end
section
namespace Go.Proofs.Ytbgabhdhheplgaa.Pl
open Go.RowKit Go.Proofs.Ytbgabhdhheplgaa.PALL Go.Proofs.YtbgabhdhheplgaaW.PrintWords Go.Proofs.YtbgabhdhheplgaaW.PrintLast Go.Proofs.YtbgabhdhheplgaaW.PrintMore

def flr (a d : Int) : Int := if Int.tmod a d < 0 then wrap64 (wrap64 (Int.tdiv a d) - 1) else wrap64 (Int.tdiv a d)
def rem (a d : Int) : Int := if Int.tmod a d < 0 then wrap64 (Int.tmod a d + d) else Int.tmod a d
def rdiv (a d : Int) : Int := if d ≤ 0 then 0 else if rem a d ≥ wrap64 (d - rem a d) then wrap64 (flr a d + 1) else flr a d
theorem flr_f (a d : Int) (hd : ¬ d ≤ 0) : num_FloorDiv.f a d = some (flr a d) := by
  rw [num_FloorDiv.f, if_neg hd, if_neg (by omega), flr]
  split <;> rfl
theorem rdiv_j0 (k : Nat) (a d x : Int) (hd : ¬ d ≤ 0) : num_RoundDiv.j0 (k + 1) a d x = some (if x ≥ wrap64 (d - x) then wrap64 (flr a d + 1) else flr a d) := by
  rw [num_RoundDiv.j0, flr_f a d hd]
  split <;> rfl
theorem rdiv_f (k : Nat) (a d : Int) : num_RoundDiv.f (k + 1) a d = some (rdiv a d) := by
  rw [num_RoundDiv.f, rdiv]
  by_cases hd : d ≤ 0
  · rw [if_pos hd, if_pos hd]
  · rw [if_neg hd, if_neg hd, if_neg (by omega), rdiv_j0 k _ _ _ hd, rdiv_j0 k _ _ _ hd, rem]
    split <;> rfl
def ratio (n m d : Int) : Int := if d < 0 then rdiv (wrap64 (wrap64 (-n) * m)) (wrap64 (-d)) else rdiv (wrap64 (n * m)) d
theorem ratio_f (k : Nat) (n m d : Int) : clip_ratio.f (k + 1) n m d = some (ratio n m d) := by
  rw [clip_ratio.f, ratio, rdiv_f, rdiv_f]
  split <;> rfl
abbrev Half := Bool × Bool × Int
def less (p q : S37) : Bool := if p.f0 = q.f0 then decide (p.f1 < q.f1) else decide (p.f0 < q.f0)
def bord1 (h : Half) (a c : S37) : S37 :=
  if h.1 = true then ⟨wrap64 (a.f0 + ratio (wrap64 (h.2.2 - a.f1)) (wrap64 (c.f0 - a.f0)) (wrap64 (c.f1 - a.f1))), h.2.2⟩
  else ⟨h.2.2, wrap64 (a.f1 + ratio (wrap64 (h.2.2 - a.f0)) (wrap64 (c.f1 - a.f1)) (wrap64 (c.f0 - a.f0)))⟩
def bord (h : Half) (p q : S37) : S37 := if less q p = true then bord1 h q p else bord1 h p q
theorem less_f (p q : S37) : grid_Less.f p.f0 p.f1 q.f0 q.f1 = some (less p q) := by
  rw [grid_Less.f, less]
  split <;> rfl
theorem bord_one (k : Nat) (h : Half) (a c : S37) : clip_half_border.one (k + 1) h.1 h.2.2 a.f0 a.f1 c.f0 c.f1 = some ((bord1 h a c).f0, (bord1 h a c).f1) := by
  rw [clip_half_border.one, bord1, ratio_f, ratio_f]
  split <;> rfl
theorem bord_f (k : Nat) (h : Half) (p q : S37) : clip_half_border.f (k + 1) h.1 h.2.1 h.2.2 p.f0 p.f1 q.f0 q.f1 = some ((bord h p q).f0, (bord h p q).f1) := by
  rw [clip_half_border.f, less_f, Option.bind_some, bord]
  cases less q p
  · exact bord_one k h p q
  · exact bord_one k h q p
def has (h : Half) (p : S37) : Bool := if h.1 = true then (if h.2.1 = true then decide (p.f1 ≤ h.2.2) else decide (p.f1 ≥ h.2.2)) else (if h.2.1 = true then decide (p.f0 ≤ h.2.2) else decide (p.f0 ≥ h.2.2))
theorem has_f (h : Half) (p : S37) : clip_half_has.f h.1 h.2.1 h.2.2 p.f0 p.f1 = some (has h p) := by
  rw [clip_half_has.f, has]
  split <;> split <;> rfl

def step (h : Half) (p q : S37) : List S37 := (if has h p = true then [p] else []) ++ (if has h p = has h q then [] else [bord h p q])
theorem step_length (h : Half) (p q : S37) : (step h p q).length ≤ 2 := by
  rw [step]
  split <;> split <;> simp
def nxt (l : List S37) (i : Nat) : S37 := rd_T37 l (((i + 1) % l.length : Nat) : Int)
def sideN (h : Half) (l : List S37) : Nat → Nat → List S37
  | 0, _ => []
  | n + 1, i => step h (rd_T37 l (i : Int)) (nxt l i) ++ sideN h l n (i + 1)
theorem sideN_length (h : Half) (l : List S37) (n i : Nat) : (sideN h l n i).length ≤ 2 * n := by
  induction n generalizing i with
  | zero => simp [sideN]
  | succ n ih => have := ih (i + 1); have := step_length h (rd_T37 l (i : Int)) (nxt l i); simp [sideN]; omega
def side (h : Half) (l : List S37) : List S37 := sideN h l l.length 0
theorem side_length (h : Half) (l : List S37) : (side h l).length ≤ 2 * l.length := sideN_length _ _ _ _
theorem nxt_int (l : List S37) (i : Nat) : rd_T37 l (((i : Int) + 1) % (l.length : Int)) = nxt l i := by
  rw [nxt]; congr 1
theorem side_go (h : Half) (l : List S37) : ∀ (n i : Nat) (acc : List S37), i + n = l.length → acc.length + 2 * n ≤ 8796093022200 →
    Ev (fun k => clip_Ring.side k h l i acc) (acc ++ sideN h l n i) := by
  intro n
  induction n with
  | zero =>
    intro i acc hi ha
    refine Ev.step (f := fun _ => some acc) (fun k => ?_) (by rw [sideN, List.append_nil]; exact Ev.now _)
    rw [clip_Ring.side, if_neg (by omega)]
  | succ n ih =>
    intro i acc hi ha
    have hs := step_length h (rd_T37 l (i : Int)) (nxt l i)
    have := ih (i + 1) (acc ++ step h (rd_T37 l (i : Int)) (nxt l i)) (by omega) (by simp; omega)
    rw [List.append_assoc] at this
    obtain ⟨K, hK⟩ := this
    refine ⟨K + 3, fun k hk => ?_⟩
    obtain ⟨m, rfl⟩ : ∃ m, k = m + 2 + 1 := ⟨k - 3, by omega⟩
    have h2 := hK (m + 2) (by omega)
    show clip_Ring.side (m + 2 + 1) h l i acc = _
    rw [clip_Ring.side, if_pos (by omega), if_pos (by omega), nxt_int, has_f, has_f, Option.bind_some, Option.bind_some, bord_f, Option.bind_some]
    rw [step] at h2
    rw [sideN, step, ← h2]
    cases has h (rd_T37 l (i : Int)) <;> cases has h (nxt l i) <;> simp only [if_true, if_false, List.nil_append, List.append_nil, List.append_assoc, Bool.false_eq_true, reduceCtorEq] <;> rfl
theorem side_ev (h : Half) (l : List S37) (hl : l.length ≤ 1099511627776) : Ev (fun k => clip_Ring.side k h l 0 []) (side h l) :=
  side_go h l l.length 0 [] (by omega) (by simp; omega)

def areaN (l : List S37) : Nat → Nat → Int → Int
  | 0, _, s => s
  | n + 1, i, s => areaN l n (i + 1) (wrap64 (s + wrap64 (wrap64 ((rd_T37 l (i : Int)).f0 * (nxt l i).f1) - wrap64 ((rd_T37 l (i : Int)).f1 * (nxt l i).f0))))
def area (l : List S37) : Int := areaN l l.length 0 0
theorem area_idx (l : List S37) (i : Nat) (h : i < l.length) (hl : l.length ≤ 1099511627776) : Int.tmod (wrap64 ((i : Int) + 1)) (l.length : Int) = (((i + 1) % l.length : Nat) : Int) := by
  rw [w_suc h (by omega), Int.tmod_eq_emod_of_nonneg (by omega)]; simp
theorem area_l0 (l : List S37) (hl : l.length ≤ 1099511627776) : ∀ (n i : Nat) (s : Int), i + n = l.length → Ev (fun k => clip_area2.l0 k l s l (l.length : Int) (i : Int)) (areaN l n i s) := by
  intro n
  induction n with
  | zero =>
    intro i s h
    refine Ev.step (f := fun _ => some s) (fun k => ?_) (Ev.now _)
    rw [clip_area2.l0, if_neg (by omega)]
  | succ n ih =>
    intro i s h
    have hi : i < l.length := by omega
    have hm : (i + 1) % l.length < l.length := Nat.mod_lt _ (by omega)
    refine Ev.step (fun k => ?_) (ih (i + 1) (wrap64 (s + wrap64 (wrap64 ((rd_T37 l (i : Int)).f0 * (nxt l i).f1) - wrap64 ((rd_T37 l (i : Int)).f1 * (nxt l i).f0)))) (by omega))
    rw [clip_area2.l0, area_idx l i hi hl, if_pos (by omega), if_pos (by omega), if_pos (by omega), if_neg (by omega), if_pos (by omega), if_pos (by omega), w_suc hi (by omega)]
    rfl
theorem area_ev (l : List S37) (hl : l.length ≤ 1099511627776) : Ev (fun k => clip_area2.f k l) (area l) := area_l0 l hl l.length 0 0 (by omega)

def fin (l : List S37) : List S37 := if area (tidyRing (tidy l)) = 0 then [] else tidyRing (tidy l)
def rest (b0 b1 b2 b3 : Int) : Nat → List S37 → List S37
  | 0, l => fin l
  | n + 1, l => rest b0 b1 b2 b3 n (side (clip_hs b0 b1 b2 b3 (3 - n)) l)
theorem rest_ev (b0 b1 b2 b3 : Int) : ∀ (n : Nat) (l : List S37), l.length * 2 ^ n ≤ 1099511627776 → Ev (fun k => clip_Ring.rest k b0 b1 b2 b3 n l) (rest b0 b1 b2 b3 n l)
  | 0, l, hl => by
    have hl : l.length ≤ 1099511627776 := by omega
    have h1 := tidy_length l
    have h2 := tidyRing_length (tidy l)
    refine Ev.bind (tidyRing_ev l hl) (Ev.bind (area_ev _ (by omega)) ?_)
    rw [rest, fin]
    by_cases h : area (tidyRing (tidy l)) = 0
    · simp only [if_pos h]; exact Ev.now _
    · simp only [if_neg h]; exact Ev.now _
  | n + 1, l, hl => by
    have hp : 1 ≤ 2 ^ n := Nat.one_le_two_pow
    have hs := side_length (clip_hs b0 b1 b2 b3 (3 - n)) l
    have hl1 : l.length * 2 ^ n * 2 ≤ 1099511627776 := by rw [Nat.pow_succ, ← Nat.mul_assoc] at hl; exact hl
    have hl2 : l.length * 1 ≤ l.length * 2 ^ n := Nat.mul_le_mul_left _ hp
    have hl3 : (side (clip_hs b0 b1 b2 b3 (3 - n)) l).length * 2 ^ n ≤ 2 * l.length * 2 ^ n := Nat.mul_le_mul_right _ hs
    rw [Nat.mul_assoc] at hl3
    exact Ev.bind (side_ev _ l (by omega)) (rest_ev b0 b1 b2 b3 n _ (by omega))

def validP (p : S37) : Bool := decide (p.f0 ≥ 0) && decide (p.f0 < 32768) && decide (p.f1 ≥ 0) && decide (p.f1 < 32768)
def goodB (b0 b1 b2 b3 : Int) : Bool := decide (b0 ≥ 0) && decide (b0 ≤ b2) && decide (b2 ≤ 32768) && decide (b1 ≥ 0) && decide (b1 ≤ b3) && decide (b3 ≤ 32768)
theorem validP_f (p : S37) : grid_Valid.f p.f0 p.f1 = some (validP p) := by
  rw [grid_Valid.f, validP]
  split
  · split
    · split <;> simp [*]
    · simp [*]
  · simp [*]
theorem goodB_f (b0 b1 b2 b3 : Int) : grid_Check.f b0 b1 b2 b3 = some (if goodB b0 b1 b2 b3 = true then 0 else 2) := by
  have h : grid_valid.f b0 b1 b2 b3 = some (goodB b0 b1 b2 b3) := by
    rw [grid_valid.f, goodB]
    repeat' split
    all_goals simp [*]
  rw [grid_Check.f, h, Option.bind_some]
  split <;> rfl
theorem perm_l0 (b0 b1 b2 b3 : Int) (l : List S37) (hl : l.length ≤ 1099511627776) : ∀ (n i : Nat), i + n = l.length →
    Ev (fun k => clip_permitted.l0 k l (l.length : Int) (i : Int) b0 b1 b2 b3) ((l.drop i).all validP && goodB b0 b1 b2 b3) := by
  intro n
  induction n with
  | zero =>
    intro i h
    refine Ev.step (f := fun _ => some (goodB b0 b1 b2 b3)) (fun k => ?_) ?_
    · rw [clip_permitted.l0, if_neg (by omega), goodB_f, Option.bind_some]
      cases goodB b0 b1 b2 b3 <;> rfl
    · rw [List.drop_eq_nil_of_le (by omega)]; exact Ev.now _
  | succ n ih =>
    intro i h
    have hi : i < l.length := by omega
    rw [List.drop_eq_getElem_cons hi, List.all_cons]
    by_cases hv : validP l[i] = true
    · rw [hv, Bool.true_and]
      refine Ev.step (fun k => ?_) (ih (i + 1) (by omega))
      rw [clip_permitted.l0, if_pos (by omega), if_pos (by omega), if_pos (by omega), validP_f, Option.bind_some, rd_get l i hi, if_pos hv, w_suc hi (by omega)]
    · have hv' : validP l[i] = false := by simpa using hv
      refine Ev.step (f := fun _ => some false) (fun k => ?_) (by rw [hv']; exact Ev.now _)
      rw [clip_permitted.l0, if_pos (by omega), if_pos (by omega), if_pos (by omega), validP_f, Option.bind_some, rd_get l i hi, if_neg hv]
def perm (l : List S37) (b0 b1 b2 b3 : Int) : Bool := l.all validP && goodB b0 b1 b2 b3
theorem perm_ev (l : List S37) (b0 b1 b2 b3 : Int) (hl : l.length ≤ 1099511627776) : Ev (fun k => clip_permitted.f k l b0 b1 b2 b3) (perm l b0 b1 b2 b3) :=
  perm_l0 b0 b1 b2 b3 l hl l.length 0 (by omega)
def ring (l : List S37) (b0 b1 b2 b3 : Int) : List S37 := if perm l b0 b1 b2 b3 = true then rest b0 b1 b2 b3 4 l else []
theorem rest_length (b0 b1 b2 b3 : Int) : ∀ (n : Nat) (l : List S37), (rest b0 b1 b2 b3 n l).length ≤ l.length * 2 ^ n
  | 0, l => by
    have h1 := tidy_length l
    have h2 := tidyRing_length (tidy l)
    rw [rest, fin]
    split
    · simp
    · omega
  | n + 1, l => by
    have h := rest_length b0 b1 b2 b3 n (side (clip_hs b0 b1 b2 b3 (3 - n)) l)
    have hs := Nat.mul_le_mul_right (2 ^ n) (side_length (clip_hs b0 b1 b2 b3 (3 - n)) l)
    rw [rest, Nat.pow_succ, ← Nat.mul_assoc]
    rw [Nat.mul_assoc] at hs
    omega
theorem ring_length (l : List S37) (b0 b1 b2 b3 : Int) : (ring l b0 b1 b2 b3).length ≤ l.length * 16 := by
  rw [ring]
  split
  · exact rest_length b0 b1 b2 b3 4 l
  · simp
/-- Ring gives the clipped ring. -/
theorem ring_ev (l : List S37) (b0 b1 b2 b3 : Int) (hl : l.length ≤ 68719476736) : Ev (fun k => clip_Ring.f k l b0 b1 b2 b3) (ring l b0 b1 b2 b3) := by
  refine Ev.bind (perm_ev l b0 b1 b2 b3 (by omega)) ?_
  rw [ring]
  by_cases h : perm l b0 b1 b2 b3 = true
  · rw [if_pos h]; exact Ev.congr (fun k => if_pos h) (rest_ev b0 b1 b2 b3 4 l (by omega))
  · rw [if_neg h]; exact Ev.congr (fun k => if_neg h) (Ev.now _)
end Go.Proofs.Ytbgabhdhheplgaa.Pl
end
section
namespace Go.Proofs.Ytbgabhdhheplgaa.Pl
open Go.RowKit Go.Proofs.Ytbgabhdhheplgaa.PALL Go.Proofs.YtbgabhdhheplgaaW.PrintWords Go.Proofs.YtbgabhdhheplgaaW.PrintLast Go.Proofs.YtbgabhdhheplgaaW.PrintMore

abbrev hs (b0 b1 b2 b3 : Int) (s : Nat) : Half := clip_hs b0 b1 b2 b3 s
theorem ref_area_l0 (l : List S37) (hl : l.length ≤ 1099511627776) : ∀ (n i : Nat) (s : Int), i + n = l.length → Ev (fun k => mapmakerref12_Area2.l0 k l s (i : Int)) (areaN l n i s) := by
  intro n
  induction n with
  | zero =>
    intro i s h
    refine Ev.step (f := fun _ => some s) (fun k => ?_) (Ev.now _)
    rw [mapmakerref12_Area2.l0, if_neg (by omega)]
  | succ n ih =>
    intro i s h
    have hi : i < l.length := by omega
    have hm : (i + 1) % l.length < l.length := Nat.mod_lt _ (by omega)
    have e : ∀ x y : Int, wrap64 (wrap64 (s + x) - y) = wrap64 (s + wrap64 (x - y)) := fun x y => by unfold wrap64; omega
    refine Ev.step (fun k => ?_) (ih (i + 1) (wrap64 (s + wrap64 (wrap64 ((rd_T37 l (i : Int)).f0 * (nxt l i).f1) - wrap64 ((rd_T37 l (i : Int)).f1 * (nxt l i).f0)))) (by omega))
    rw [mapmakerref12_Area2.l0, area_idx l i hi hl, if_pos (by omega), if_pos (by omega), if_neg (by omega), if_pos (by omega), if_pos (by omega), w_suc hi (by omega), e]
    rfl
theorem ref_area_ev (l : List S37) (hl : l.length ≤ 1099511627776) : Ev (fun k => mapmakerref12_Area2.f k l) (area l) := ref_area_l0 l hl l.length 0 0 (by omega)
theorem ref_check_f (b0 b1 b2 b3 : Int) : mapmakerref08_Check.f b0 b1 b2 b3 = some (if goodB b0 b1 b2 b3 = true then 0 else 2) := by
  have h : mapmakerref08_Good.f b0 b1 b2 b3 = some (goodB b0 b1 b2 b3) := by
    rw [mapmakerref08_Good.f, goodB]
    repeat' split
    all_goals simp [*]
  rw [mapmakerref08_Check.f, h, Option.bind_some]
  split <;> rfl
theorem ref_valid_f (p : S37) : mapmakerref08_Valid.f p.f0 p.f1 = some (validP p) := by
  rw [mapmakerref08_Valid.f, validP]
  split
  · split
    · split <;> simp [*]
    · simp [*]
  · simp [*]
theorem ref_all_l0 (l : List S37) (hl : l.length ≤ 1099511627776) : ∀ (n i : Nat), i + n = l.length → Ev (fun k => mapmakerref08_All.l0 k l (i : Int)) ((l.drop i).all validP) := by
  intro n
  induction n with
  | zero =>
    intro i h
    refine Ev.step (f := fun _ => some true) (fun k => ?_) (by rw [List.drop_eq_nil_of_le (by omega)]; exact Ev.now _)
    rw [mapmakerref08_All.l0, if_neg (by omega)]
  | succ n ih =>
    intro i h
    have hi : i < l.length := by omega
    rw [List.drop_eq_getElem_cons hi, List.all_cons]
    by_cases hv : validP l[i] = true
    · rw [hv, Bool.true_and]
      refine Ev.step (fun k => ?_) (ih (i + 1) (by omega))
      rw [mapmakerref08_All.l0, if_pos (by omega), if_pos (by omega), ref_valid_f, Option.bind_some, rd_get l i hi, if_pos hv, w_suc hi (by omega)]
    · have hv' : validP l[i] = false := by simpa using hv
      refine Ev.step (f := fun _ => some false) (fun k => ?_) (by rw [hv']; exact Ev.now _)
      rw [mapmakerref08_All.l0, if_pos (by omega), if_pos (by omega), ref_valid_f, Option.bind_some, rd_get l i hi, if_neg hv]
theorem ref_all_ev (l : List S37) (hl : l.length ≤ 1099511627776) : Ev (fun k => mapmakerref08_All.f k l) (l.all validP) := ref_all_l0 l hl l.length 0 (by omega)
end Go.Proofs.Ytbgabhdhheplgaa.Pl
end
section
namespace Go.Proofs.Ytbgabhdhheplgaa.Pl
open Go.RowKit Go.Proofs.Ytbgabhdhheplgaa.PALL Go.Proofs.YtbgabhdhheplgaaW.PrintWords Go.Proofs.YtbgabhdhheplgaaW.PrintLast Go.Proofs.YtbgabhdhheplgaaW.PrintMore

/-- The piece of a segment within the sides that are left (n of four). -/
def piece (b0 b1 b2 b3 : Int) : Nat → S37 → S37 → Option (S37 × S37)
  | 0, p, q => if eqp p q = true then none else some (p, q)
  | n + 1, p, q =>
    if has (hs b0 b1 b2 b3 (3 - n)) p = true then
      if has (hs b0 b1 b2 b3 (3 - n)) q = true then piece b0 b1 b2 b3 n p q else piece b0 b1 b2 b3 n p (bord (hs b0 b1 b2 b3 (3 - n)) p q)
    else if has (hs b0 b1 b2 b3 (3 - n)) q = true then piece b0 b1 b2 b3 n (bord (hs b0 b1 b2 b3 (3 - n)) p q) q else none
/-- What a printed piece says of a result: whether there is one, and which. -/
def Says (o : Option (S37 × S37)) (r : Int × Int × Int × Int × Bool) : Prop := r.2.2.2.2 = o.isSome ∧ ∀ a c, o = some (a, c) → r = (a.f0, a.f1, c.f0, c.f1, true)
abbrev cl (b0 b1 b2 b3 : Int) (k : Nat) (s : Nat) (p q : S37) := clip_piece.l0 k (s : Int) false false b0 false true b2 true false b1 true true b3 p.f0 p.f1 q.f0 q.f1
abbrev hv (b0 b1 b2 b3 : Int) : S40 := ⟨⟨false, false, b0⟩, ⟨false, true, b2⟩, ⟨true, false, b1⟩, ⟨true, true, b3⟩⟩
theorem ix_f (b0 b1 b2 b3 : Int) (s : Nat) (h4 : s < 4) : ((ix_40 (hv b0 b1 b2 b3) (s : Int)).f0, (ix_40 (hv b0 b1 b2 b3) (s : Int)).f1, (ix_40 (hv b0 b1 b2 b3) (s : Int)).f2) = hs b0 b1 b2 b3 s := by
  have h : s = 0 ∨ s = 1 ∨ s = 2 ∨ s = 3 := by omega
  rcases h with rfl | rfl | rfl | rfl <;> rfl
theorem piece_j1 (b0 b1 b2 b3 : Int) (k s : Nat) (hs4 : s < 4) (p q : S37) (a c : Bool) :
    clip_piece.j1 (k + 2) a c (s : Int) (if a = true then false else !c) false false b0 false true b2 true false b1 true true b3 p.f0 p.f1 q.f0 q.f1 (hs b0 b1 b2 b3 s).1 (hs b0 b1 b2 b3 s).2.1 (hs b0 b1 b2 b3 s).2.2
      = if a = true then if c = true then cl b0 b1 b2 b3 (k + 1) (s + 1) p q else cl b0 b1 b2 b3 (k + 1) (s + 1) p (bord (hs b0 b1 b2 b3 s) p q)
        else if c = true then cl b0 b1 b2 b3 (k + 1) (s + 1) (bord (hs b0 b1 b2 b3 s) p q) q else some (0, 0, 0, 0, false) := by
  rw [clip_piece.j1, bord_f, w_suc hs4 (by omega)]
  cases a <;> cases c <;> simp [cl]
theorem piece_step (b0 b1 b2 b3 : Int) (k s : Nat) (hs4 : s < 4) (p q : S37) :
    cl b0 b1 b2 b3 (k + 3) s p q = if has (hs b0 b1 b2 b3 s) p = true then if has (hs b0 b1 b2 b3 s) q = true then cl b0 b1 b2 b3 (k + 1) (s + 1) p q else cl b0 b1 b2 b3 (k + 1) (s + 1) p (bord (hs b0 b1 b2 b3 s) p q)
        else if has (hs b0 b1 b2 b3 s) q = true then cl b0 b1 b2 b3 (k + 1) (s + 1) (bord (hs b0 b1 b2 b3 s) p q) q else some (0, 0, 0, 0, false) := by
  have hx := ix_f b0 b1 b2 b3 s hs4
  have e0 : (ix_40 (hv b0 b1 b2 b3) (s : Int)).f0 = (hs b0 b1 b2 b3 s).1 := by rw [← hx]
  have e1 : (ix_40 (hv b0 b1 b2 b3) (s : Int)).f1 = (hs b0 b1 b2 b3 s).2.1 := by rw [← hx]
  have e2 : (ix_40 (hv b0 b1 b2 b3) (s : Int)).f2 = (hs b0 b1 b2 b3 s).2.2 := by rw [← hx]
  rw [← piece_j1 b0 b1 b2 b3 k s hs4 p q]
  show clip_piece.l0 (k + 2 + 1) (s : Int) false false b0 false true b2 true false b1 true true b3 p.f0 p.f1 q.f0 q.f1 = _
  rw [clip_piece.l0, if_pos (by omega), if_pos (by omega)]
  rw [show (⟨⟨false, false, b0⟩, ⟨false, true, b2⟩, ⟨true, false, b1⟩, ⟨true, true, b3⟩⟩ : S40) = hv b0 b1 b2 b3 from rfl, e0, e1, e2, has_f, has_f, Option.bind_some, Option.bind_some]
  split <;> simp [*]
theorem piece_ev (b0 b1 b2 b3 : Int) : ∀ (n : Nat) (p q : S37), n ≤ 4 → ∃ r, Says (piece b0 b1 b2 b3 n p q) r ∧ Ev (fun k => cl b0 b1 b2 b3 k (4 - n) p q) r
  | 0, p, q, _ => by
    refine ⟨(p.f0, p.f1, q.f0, q.f1, !eqp p q), ?_, Ev.step (f := fun _ => some (p.f0, p.f1, q.f0, q.f1, !eqp p q)) (fun k => ?_) (Ev.now _)⟩
    · rw [piece]
      cases h : eqp p q <;> simp [Says]
    · show clip_piece.l0 (k + 1) _ _ _ _ _ _ _ _ _ _ _ _ _ _ _ _ _ = _
      rw [clip_piece.l0, if_neg (by omega)]
      simp [eqp, Bool.not_and]
  | n + 1, p, q, hn => by
    have st := fun k => piece_step b0 b1 b2 b3 k (3 - n) (by omega) p q
    rw [show 4 - (n + 1) = 3 - n by omega, piece]
    have fin : ∀ (p' q' : S37), (∀ k, cl b0 b1 b2 b3 (k + 3) (3 - n) p q = cl b0 b1 b2 b3 (k + 1) (3 - n + 1) p' q') → ∃ r, Says (piece b0 b1 b2 b3 n p' q') r ∧ Ev (fun k => cl b0 b1 b2 b3 k (3 - n) p q) r := fun p' q' h => by
      obtain ⟨r, h1, K, h2⟩ := piece_ev b0 b1 b2 b3 n p' q' (by omega)
      refine ⟨r, h1, K + 3, fun k hk => ?_⟩
      obtain ⟨m, rfl⟩ : ∃ m, k = m + 3 := ⟨k - 3, by omega⟩
      have := h2 (m + 1) (by omega)
      show cl b0 b1 b2 b3 (m + 3) (3 - n) p q = _
      rw [h m, show 3 - n + 1 = 4 - n by omega]
      exact this
    by_cases hp : has (hs b0 b1 b2 b3 (3 - n)) p = true
    · rw [if_pos hp]
      by_cases hq : has (hs b0 b1 b2 b3 (3 - n)) q = true
      · rw [if_pos hq]; exact fin p q (fun k => by rw [st, if_pos hp, if_pos hq])
      · rw [if_neg hq]; exact fin _ _ (fun k => by rw [st, if_pos hp, if_neg hq])
    · rw [if_neg hp]
      by_cases hq : has (hs b0 b1 b2 b3 (3 - n)) q = true
      · rw [if_pos hq]; exact fin _ _ (fun k => by rw [st, if_neg hp, if_pos hq])
      · rw [if_neg hq]
        refine ⟨(0, 0, 0, 0, false), ⟨rfl, fun a c h => by cases h⟩, 3, fun k hk => ?_⟩
        obtain ⟨m, rfl⟩ : ∃ m, k = m + 3 := ⟨k - 3, by omega⟩
        show cl b0 b1 b2 b3 (m + 3) (3 - n) p q = _
        rw [st, if_neg hp, if_neg hq]
end Go.Proofs.Ytbgabhdhheplgaa.Pl
end
section
namespace Go.Proofs.Ytbgabhdhheplgaa.Pl
open Go.RowKit Go.Proofs.Ytbgabhdhheplgaa.PALL Go.Proofs.YtbgabhdhheplgaaW.PrintWords Go.Proofs.YtbgabhdhheplgaaW.PrintLast Go.Proofs.YtbgabhdhheplgaaW.PrintMore

theorem piece_f_ev (b0 b1 b2 b3 : Int) (p q : S37) : ∃ r, Says (piece b0 b1 b2 b3 4 p q) r ∧ Ev (fun k => clip_piece.f k p.f0 p.f1 q.f0 q.f1 b0 b1 b2 b3) r := by
  obtain ⟨r, h1, h2⟩ := piece_ev b0 b1 b2 b3 4 p q (by omega)
  exact ⟨r, h1, Ev.congr (fun k => rfl) h2⟩
def shut (done : List (List S37)) (cur : List S37) : List (List S37) := if cur.length = 0 then done else done ++ [cur]
theorem shut_length (done : List (List S37)) (cur : List S37) : (shut done cur).length + 2 ≤ done.length + cur.length + 2 ∧ (shut done cur).length ≤ done.length + 1 := by
  rw [shut]; split <;> simp <;> omega
/-- The parts, from segment i on (from point i to point i + 1), n left. -/
def lineN (b0 b1 b2 b3 : Int) (t : List S37) : Nat → Nat → Bool → List (List S37) → List S37 → List (List S37)
  | 0, _, _, done, cur => shut done cur
  | n + 1, i, opn, done, cur =>
    match piece b0 b1 b2 b3 4 (rd_T37 t (i : Int)) (rd_T37 t ((i + 1 : Nat) : Int)) with
    | none => lineN b0 b1 b2 b3 t n (i + 1) false done cur
    | some (p, q) =>
      if (opn && eqp p (rd_T37 t (i : Int))) = true then lineN b0 b1 b2 b3 t n (i + 1) (eqp q (rd_T37 t ((i + 1 : Nat) : Int))) done (cur ++ [q])
      else lineN b0 b1 b2 b3 t n (i + 1) (eqp q (rd_T37 t ((i + 1 : Nat) : Int))) (shut done cur) [p, q]
theorem meets_iff {opn : Bool} {p a : S37} : (opn && eqp p a) = true ↔ opn = true ∧ p = a := by rw [Bool.and_eq_true, eqp_iff]
theorem go_ev (b0 b1 b2 b3 : Int) (t : List S37) : ∀ (n i : Nat) (opn : Bool) (last : Int) (done : List (List S37)) (cur : List S37), i + n = t.length - 1 → last ≤ (i : Int) → (last = (i : Int) → cur ≠ []) →
    (opn = true ↔ last = (i : Int) ∧ rd_T37 cur ((cur.length : Int) - 1) = rd_T37 t (i : Int)) →
    done.length + cur.length + 2 * n < 1099511627776 → Ev (fun k => clip_Line.go b0 b1 b2 b3 k t (i + 1) last done cur) (lineN b0 b1 b2 b3 t n i opn done cur)
  | 0, i, opn, last, done, cur, hi, hla, hn, ho, hl => by
    refine Ev.step (f := fun _ => some (shut done cur)) (fun k => ?_) (Ev.now _)
    rw [clip_Line.go, if_neg (by omega)]; rfl
  | n + 1, i, opn, last, done, cur, hi, hla, hn, ho, hl => by
    obtain ⟨r, h1, h2⟩ := piece_f_ev b0 b1 b2 b3 (rd_T37 t (i : Int)) (rd_T37 t ((i + 1 : Nat) : Int))
    have hs := shut_length done cur
    have hi1 : ((i + 1 : Nat) : Int) - 1 = (i : Int) := by omega
    refine Ev.step (fun k => ?_) (Ev.bind h2 (f := fun k r => if r.2.2.2.2 = true then
            (clip_Line.meets t cur ((i + 1 : Nat) : Int) last r.1 r.2.1).bind fun c =>
              if c = true then clip_Line.go b0 b1 b2 b3 k t (i + 1 + 1) ((i + 1 : Nat) : Int) done (cur ++ [⟨r.2.2.1, r.2.2.2.1⟩])
              else clip_Line.go b0 b1 b2 b3 k t (i + 1 + 1) ((i + 1 : Nat) : Int) (if cur.length = 0 then done else done ++ [cur]) [⟨r.1, r.2.1⟩, ⟨r.2.2.1, r.2.2.2.1⟩]
          else clip_Line.go b0 b1 b2 b3 k t (i + 1 + 1) last done cur) ?_)
    · rw [clip_Line.go, if_pos (by omega), if_pos ⟨by omega, by omega⟩, hi1]
    · rw [lineN]
      obtain ⟨e1, e2⟩ := h1
      cases hp : piece b0 b1 b2 b3 4 (rd_T37 t (i : Int)) (rd_T37 t ((i + 1 : Nat) : Int)) with
      | none =>
        rw [hp] at e1
        have := go_ev b0 b1 b2 b3 t n (i + 1) false last done cur (by omega) (by omega) (by omega) (by simp; omega) (by omega)
        exact Ev.congr (fun k => by rw [if_neg (by rw [e1]; simp)]) this
      | some pq =>
        obtain ⟨p, q⟩ := pq
        have e := e2 p q hp
        subst e
        dsimp only
        have hm : clip_Line.meets t cur ((i + 1 : Nat) : Int) last p.f0 p.f1 = some (opn && eqp p (rd_T37 t (i : Int))) := by
          have pe : ∀ a : S37, (p.f0 = a.f0 ∧ p.f1 = a.f1) ↔ p = a := fun a => ⟨fun ⟨h3, h4⟩ => eqp_iff.1 (by rw [eqp]; simp [h3, h4]), fun h => by rw [h]; exact ⟨rfl, rfl⟩⟩
          have pe2 : ∀ a : S37, (a.f0 = p.f0 ∧ a.f1 = p.f1) ↔ a = p := fun a => ⟨fun ⟨h3, h4⟩ => eqp_iff.1 (by rw [eqp]; simp [h3, h4]), fun h => by rw [h]; exact ⟨rfl, rfl⟩⟩
          rw [clip_Line.meets, hi1]
          by_cases h3 : last = (i : Int)
          · rw [if_pos h3]
            by_cases h4 : p = rd_T37 t (i : Int)
            · rw [if_pos ((pe _).2 h4), if_neg (by simpa using hn h3)]
              congr 1
              rw [Bool.eq_iff_iff, decide_eq_true_iff, meets_iff, ho]
              exact ⟨fun h => ⟨⟨h3, ((pe2 _).1 h).trans h4⟩, h4⟩, fun h => (pe2 _).2 (h.1.2.trans h4.symm)⟩
            · rw [if_neg (fun h => h4 ((pe _).1 h)), (Bool.eq_false_iff.2 (fun h => h4 (meets_iff.1 h).2) : (opn && eqp p (rd_T37 t (i : Int))) = false)]
          · rw [if_neg h3, (Bool.eq_false_iff.2 (fun h => h3 (ho.1 (meets_iff.1 h).1).1) : (opn && eqp p (rd_T37 t (i : Int))) = false)]
        have la : ∀ (l : List S37), rd_T37 (l ++ [q]) (((l ++ [q]).length : Int) - 1) = q := fun l => by
          rw [show (((l ++ [q]).length : Int) - 1) = ((l.length : Nat) : Int) by simp]
          rw [rd_get _ _ (by simp)]; simp
        by_cases hc : opn = true ∧ p = rd_T37 t (i : Int)
        · rw [if_pos (meets_iff.2 hc)]
          have := go_ev b0 b1 b2 b3 t n (i + 1) (eqp q (rd_T37 t ((i + 1 : Nat) : Int))) ((i + 1 : Nat) : Int) done (cur ++ [q]) (by omega) (by omega) (by simp) (by rw [la, eqp_iff]; simp) (by simp; omega)
          exact Ev.congr (fun k => by rw [if_pos rfl, hm, Option.bind_some, if_pos (meets_iff.2 hc)]) this
        · rw [if_neg (fun h => hc (meets_iff.1 h))]
          have := go_ev b0 b1 b2 b3 t n (i + 1) (eqp q (rd_T37 t ((i + 1 : Nat) : Int))) ((i + 1 : Nat) : Int) (shut done cur) [p, q] (by omega) (by omega) (by simp) (by rw [show [p, q] = [p] ++ [q] from rfl, la, eqp_iff]; simp) (by simp; omega)
          exact Ev.congr (fun k => by rw [if_pos rfl, hm, Option.bind_some, if_neg (fun h => hc (meets_iff.1 h))]; rfl) this
/-- The parts of a line. -/
def line (l : List S37) (b0 b1 b2 b3 : Int) : List (List S37) := if perm l b0 b1 b2 b3 = true then lineN b0 b1 b2 b3 (tidy l) ((tidy l).length - 1) 0 false [] [] else []
theorem line_ev (l : List S37) (b0 b1 b2 b3 : Int) (hl : l.length ≤ 68719476736) : Ev (fun k => clip_Line.f k l b0 b1 b2 b3) (line l b0 b1 b2 b3) := by
  have ht := tidy_length l
  refine Ev.bind (perm_ev l b0 b1 b2 b3 (by omega)) ?_
  rw [line]
  by_cases h : perm l b0 b1 b2 b3 = true
  · rw [if_pos h]
    refine Ev.congr (fun k => if_pos h) (Ev.bind (tidy_ev l (by omega)) ?_)
    exact go_ev b0 b1 b2 b3 (tidy l) ((tidy l).length - 1) 0 false (-1) [] [] (by omega) (by omega) (by omega) (by simp) (by simp; omega)
  · rw [if_neg h]; exact Ev.congr (fun k => if_neg h) (Ev.now _)
theorem lineN_length (b0 b1 b2 b3 : Int) (t : List S37) : ∀ (n i : Nat) (opn : Bool) (done : List (List S37)) (cur : List S37), (lineN b0 b1 b2 b3 t n i opn done cur).length ≤ done.length + n + 1
  | 0, i, opn, done, cur => by rw [lineN]; exact (shut_length done cur).2
  | n + 1, i, opn, done, cur => by
    have hs := (shut_length done cur).2
    have h1 := lineN_length b0 b1 b2 b3 t n (i + 1) false done cur
    rw [lineN]
    split
    · omega
    · rename_i p q _
      have h2 := lineN_length b0 b1 b2 b3 t n (i + 1) (eqp q (rd_T37 t ((i + 1 : Nat) : Int))) done (cur ++ [q])
      have h3 := lineN_length b0 b1 b2 b3 t n (i + 1) (eqp q (rd_T37 t ((i + 1 : Nat) : Int))) (shut done cur) [p, q]
      split
      · omega
      · omega
theorem shut_mem {done : List (List S37)} {cur x : List S37} (h : x ∈ shut done cur) : x ∈ done ∨ (x = cur ∧ cur ≠ []) := by
  rw [shut] at h
  split at h
  · exact .inl h
  · rename_i hc
    rcases List.mem_append.1 h with h | h
    · exact .inl h
    · exact .inr ⟨by simpa using h, by simpa using hc⟩
theorem lineN_part (b0 b1 b2 b3 : Int) (t : List S37) (M : Nat) : ∀ (n i : Nat) (opn : Bool) (done : List (List S37)) (cur : List S37), (∀ x ∈ done, x.length ≤ M) → cur.length + n ≤ M → n + 2 ≤ M → ∀ x ∈ lineN b0 b1 b2 b3 t n i opn done cur, x.length ≤ M
  | 0, i, opn, done, cur, hd, hc, hM => fun x hx => by
    rw [lineN] at hx
    rcases shut_mem hx with h | ⟨rfl, _⟩
    · exact hd x h
    · omega
  | n + 1, i, opn, done, cur, hd, hc, hM => by
    have hs : ∀ x ∈ shut done cur, x.length ≤ M := fun x hx => by
      rcases shut_mem hx with h | ⟨rfl, _⟩
      · exact hd x h
      · omega
    rw [lineN]
    split
    · exact lineN_part b0 b1 b2 b3 t M n _ _ _ _ hd (by omega) (by omega)
    · split
      · exact lineN_part b0 b1 b2 b3 t M n _ _ _ _ hd (by simp; omega) (by omega)
      · exact lineN_part b0 b1 b2 b3 t M n _ _ _ _ hs (by simp; omega) (by omega)
theorem line_length (l : List S37) (b0 b1 b2 b3 : Int) : (line l b0 b1 b2 b3).length ≤ l.length + 1 := by
  have ht := tidy_length l
  rw [line]
  split
  · have := lineN_length b0 b1 b2 b3 (tidy l) ((tidy l).length - 1) 0 false [] []
    simp at this
    omega
  · simp
theorem line_part (l : List S37) (b0 b1 b2 b3 : Int) : ∀ x ∈ line l b0 b1 b2 b3, x.length ≤ l.length + 2 := by
  have ht := tidy_length l
  rw [line]
  split
  · exact lineN_part b0 b1 b2 b3 (tidy l) (l.length + 2) ((tidy l).length - 1) 0 false [] [] (by simp) (by simp; omega) (by omega)
  · simp
end Go.Proofs.Ytbgabhdhheplgaa.Pl
end
section
namespace Go.Proofs.Ytbgabhdhheplgaa.Pl
open Go.RowKit Go.Proofs.Ytbgabhdhheplgaa.PALL Go.Proofs.YtbgabhdhheplgaaW.PrintWords Go.Proofs.YtbgabhdhheplgaaW.PrintLast Go.Proofs.YtbgabhdhheplgaaW.PrintMore

theorem same2_l0 (t : List (List S37)) (hl : t.length ≤ 1099511627776) (hp : ∀ x ∈ t, x.length ≤ 1099511627776) : ∀ (n i : Nat), i + n = t.length → Ev (fun k => mapmakerref12_Same.l0 k t t (i : Int)) true := by
  intro n
  induction n with
  | zero =>
    intro i h
    refine Ev.step (f := fun _ => some true) (fun k => ?_) (Ev.now _)
    rw [mapmakerref12_Same.l0, if_neg (by omega)]
  | succ n ih =>
    intro i h
    have hw := w_suc (show i < t.length by omega) (by omega)
    have hr : rd_L4 t (i : Int) = t[i] := by simp [rd_L4, show i < t.length by omega]
    refine Ev.step (f := fun k => (mapmakerref08_Same.f k t[i] t[i]).bind fun t145 => if t145 = true then mapmakerref12_Same.l0 k t t ((i + 1 : Nat) : Int) else some false) (fun k => ?_) (Ev.bind (same_ev t[i] (hp _ (List.getElem_mem _))) (Ev.congr (fun k => if_pos rfl) (ih (i + 1) (by omega))))
    rw [mapmakerref12_Same.l0, if_pos (by omega), if_pos (by omega), if_pos (by omega), hr, hw]
/-- The reference's Same says that a row of rows is itself. -/
theorem same2_ev (t : List (List S37)) (hl : t.length ≤ 1099511627776) (hp : ∀ x ∈ t, x.length ≤ 1099511627776) : Ev (fun k => mapmakerref12_Same.f k t t) true :=
  Ev.congr (fun k => by rw [mapmakerref12_Same.f, if_pos rfl]; rfl) (same2_l0 t hl hp t.length 0 (by omega))
end Go.Proofs.Ytbgabhdhheplgaa.Pl
end
section
namespace Go.Proofs.Ytbgabhdhheplgaa.Pl
open Go.RowKit Go.Proofs.Ytbgabhdhheplgaa.PALL Go.Proofs.YtbgabhdhheplgaaW.PrintWords Go.Proofs.YtbgabhdhheplgaaW.PrintLast Go.Proofs.YtbgabhdhheplgaaW.PrintMore

def inB (b0 b1 b2 b3 : Int) (p : S37) : Bool := decide (b0 ≤ p.f0) && decide (p.f0 ≤ b2) && decide (b1 ≤ p.f1) && decide (p.f1 ≤ b3)
theorem inB_iff {b0 b1 b2 b3 : Int} {p : S37} : inB b0 b1 b2 b3 p = true ↔ (b0 ≤ p.f0 ∧ p.f0 ≤ b2) ∧ (b1 ≤ p.f1 ∧ p.f1 ≤ b3) := by
  simp [inB, and_assoc]
theorem has_of_inB {b0 b1 b2 b3 : Int} {p : S37} (h : inB b0 b1 b2 b3 p = true) (s : Nat) (hs4 : s < 4) : has (hs b0 b1 b2 b3 s) p = true := by
  rw [inB_iff] at h
  have : s = 0 ∨ s = 1 ∨ s = 2 ∨ s = 3 := by omega
  rcases this with rfl | rfl | rfl | rfl <;> simp [hs, clip_hs, has] <;> omega
theorem inB_of_has {b0 b1 b2 b3 : Int} {p : S37} (h : ∀ s, s < 4 → has (hs b0 b1 b2 b3 s) p = true) : inB b0 b1 b2 b3 p = true := by
  have h0 := h 0 (by omega)
  have h1 := h 1 (by omega)
  have h2 := h 2 (by omega)
  have h3 := h 3 (by omega)
  simp [hs, clip_hs, has] at h0 h1 h2 h3
  rw [inB_iff]
  omega
theorem within_l0 (b0 b1 b2 b3 : Int) (l : List S37) (hl : l.length ≤ 1099511627776) : ∀ (n i : Nat), i + n = l.length → Ev (fun k => mapmakerlaw12_within.l0 k l (i : Int) b0 b1 b2 b3) ((l.drop i).all (inB b0 b1 b2 b3)) := by
  intro n
  induction n with
  | zero =>
    intro i h
    refine Ev.step (f := fun _ => some true) (fun k => ?_) ?_
    · rw [mapmakerlaw12_within.l0, if_neg (by omega)]
    · rw [List.drop_eq_nil_of_le (by omega)]; exact Ev.now _
  | succ n ih =>
    intro i h
    have hi : i < l.length := by omega
    rw [List.drop_eq_getElem_cons hi, List.all_cons]
    by_cases hp : inB b0 b1 b2 b3 l[i] = true
    · have hq := inB_iff.1 hp
      rw [hp, Bool.true_and]
      refine Ev.step (fun k => ?_) (ih (i + 1) (by omega))
      rw [mapmakerlaw12_within.l0, if_pos (by omega), if_pos (by omega), rd_get l i hi, if_neg (by omega), if_neg (by omega), if_neg (by omega), if_neg (by omega), w_suc hi (by omega)]
    · have hp' : inB b0 b1 b2 b3 l[i] = false := by simpa using hp
      rw [inB_iff] at hp
      rw [hp', Bool.false_and]
      refine Ev.step (f := fun _ => some false) (fun k => ?_) (Ev.now _)
      rw [mapmakerlaw12_within.l0, if_pos (by omega), if_pos (by omega), rd_get l i hi]
      by_cases h1 : l[i].f0 < b0
      · rw [if_pos h1]
      · rw [if_neg h1]
        by_cases h2 : l[i].f0 > b2
        · rw [if_pos h2]
        · rw [if_neg h2]
          by_cases h3 : l[i].f1 < b1
          · rw [if_pos h3]
          · rw [if_neg h3, if_pos (by omega)]
theorem within_ev (b0 b1 b2 b3 : Int) (l : List S37) (hl : l.length ≤ 1099511627776) : Ev (fun k => mapmakerlaw12_within.f k l b0 b1 b2 b3) (l.all (inB b0 b1 b2 b3)) := within_l0 b0 b1 b2 b3 l hl l.length 0 (by omega)
/-! ### rows whose neighbours differ -/
def chain : List S37 → Prop
  | p :: q :: t => p ≠ q ∧ chain (q :: t)
  | _ => True
theorem chain_tidyFrom : ∀ (l : List S37) (p : S37), chain (p :: tidyFrom p l)
  | [], p => trivial
  | q :: t, p => by
    rw [tidyFrom]
    split
    · exact chain_tidyFrom t p
    · rename_i h
      exact ⟨fun e => h (eqp_iff.2 e.symm), chain_tidyFrom t q⟩
theorem chain_tidy (l : List S37) : chain (tidy l) := by
  cases l with
  | nil => trivial
  | cons p t => exact chain_tidyFrom t p
theorem tidyFrom_id : ∀ (t : List S37) (p : S37), chain (p :: t) → tidyFrom p t = t
  | [], p, _ => rfl
  | q :: t, p, h => by rw [tidyFrom, if_neg (fun e => h.1 (eqp_iff.1 e).symm), tidyFrom_id t q h.2]
theorem tidy_id {t : List S37} (h : chain t) : tidy t = t := by
  cases t with
  | nil => rfl
  | cons p t => rw [tidy, tidyFrom_id t p h]
theorem mem_tidyFrom : ∀ (l : List S37) (p x : S37), x ∈ tidyFrom p l → x ∈ l
  | [], p, x, h => h
  | q :: t, p, x, h => by
    rw [tidyFrom] at h
    split at h
    · exact List.mem_cons_of_mem _ (mem_tidyFrom t p x h)
    · rcases List.mem_cons.1 h with e | e
      · rw [e]; exact List.mem_cons_self
      · exact List.mem_cons_of_mem _ (mem_tidyFrom t q x e)
theorem mem_tidy {l : List S37} {x : S37} (h : x ∈ tidy l) : x ∈ l := by
  cases l with
  | nil => exact h
  | cons p t =>
    rcases List.mem_cons.1 h with e | e
    · rw [e]; exact List.mem_cons_self
    · exact List.mem_cons_of_mem _ (mem_tidyFrom t p x e)
theorem chain_tail {p : S37} {t : List S37} (h : chain (p :: t)) : chain t := by
  cases t with
  | nil => trivial
  | cons q t => exact h.2
theorem chain_get : ∀ (t : List S37), chain t → ∀ (i : Nat) (h : i + 1 < t.length), t[i] ≠ t[i + 1]
  | [], _, i, h => by simp at h
  | [p], _, i, h => by simp at h
  | p :: q :: t, hc, 0, _ => hc.1
  | p :: q :: t, hc, i + 1, h => chain_get (q :: t) hc.2 i (by simpa using h)
theorem chain_take : ∀ (t : List S37) (n : Nat), chain t → chain (t.take n)
  | [], n, _ => by simp [chain]
  | p :: t, 0, _ => trivial
  | [p], n + 1, _ => by simp [chain]
  | p :: q :: t, 1, _ => trivial
  | p :: q :: t, n + 2, h => ⟨h.1, chain_take (q :: t) (n + 1) h.2⟩
theorem chain_snoc : ∀ (t : List S37) (q : S37), chain t → (∀ p, t.getLast? = some p → p ≠ q) → chain (t ++ [q])
  | [], q, _, _ => trivial
  | [p], q, _, h => ⟨h p rfl, trivial⟩
  | p :: p' :: t, q, hc, h => ⟨hc.1, chain_snoc (p' :: t) q hc.2 (fun x hx => h x (by rw [List.getLast?_cons_cons]; exact hx))⟩
/-! ### rings without an end that is the beginning -/
theorem mem_trim : ∀ (n : Nat) (t : List S37) (x : S37), x ∈ trim n t → x ∈ t
  | 0, t, x, h => h
  | n + 1, t, x, h => by
    rw [trim] at h
    split at h
    · exact List.mem_of_mem_take (mem_trim n _ x h)
    · exact h
theorem chain_trim : ∀ (n : Nat) (t : List S37), chain t → chain (trim n t)
  | 0, t, h => h
  | n + 1, t, h => by
    rw [trim]
    split
    · exact chain_trim n _ (chain_take _ _ h)
    · exact h
theorem trim_trim : ∀ (n : Nat) (t : List S37), t.length ≤ n → ∀ m, trim m (trim n t) = trim n t
  | 0, t, h, m => by
    have : t = [] := List.length_eq_zero_iff.1 (by omega)
    subst this
    cases m with
    | zero => rfl
    | succ m => rw [trim, trim, if_neg (by simp)]
  | n + 1, t, h, m => by
    rw [trim]
    split
    · exact trim_trim n _ (by simp; omega) m
    · rename_i hc
      cases m with
      | zero => rfl
      | succ m => rw [trim, if_neg hc]
theorem mem_tidyRing {t : List S37} {x : S37} (h : x ∈ tidyRing t) : x ∈ t := by
  rw [tidyRing] at h
  split at h
  · simp at h
  · exact mem_trim _ _ x h
theorem chain_tidyRing {t : List S37} (h : chain t) : chain (tidyRing t) := by
  rw [tidyRing]
  split
  · trivial
  · exact chain_trim _ _ h
theorem tidyRing_again (l : List S37) : tidyRing (tidy (tidyRing (tidy l))) = tidyRing (tidy l) := by
  rw [tidy_id (chain_tidyRing (chain_tidy l))]
  generalize tidy l = t
  rw [tidyRing.eq_1 t]
  split
  · rfl
  · rename_i h
    rw [tidyRing, trim_trim t.length t (Nat.le_refl _), if_neg h]
theorem tidyRing_three {t : List S37} (h : tidyRing t ≠ []) : 3 ≤ (tidyRing t).length := by
  rw [tidyRing] at h ⊢
  split
  · rename_i hc
    rw [if_pos hc] at h
    exact absurd rfl h
  · omega
theorem mem_fin {l : List S37} {x : S37} (h : x ∈ fin l) : x ∈ l := by
  rw [fin] at h
  split at h
  · simp at h
  · exact mem_tidy (mem_tidyRing h)
theorem fin_cases (l : List S37) : fin l = [] ∨ (fin l ≠ [] ∧ 3 ≤ (fin l).length ∧ area (fin l) ≠ 0 ∧ tidyRing (tidy (fin l)) = fin l) := by
  by_cases h : fin l = []
  · exact .inl h
  · refine .inr ⟨h, ?_⟩
    rw [fin] at h ⊢
    split
    · rename_i hc
      rw [if_pos hc] at h
      exact absurd rfl h
    · rename_i hc
      rw [if_neg hc] at h
      exact ⟨tidyRing_three h, hc, tidyRing_again l⟩
theorem fin_again (l : List S37) : fin (fin l) = fin l := by
  rcases fin_cases l with h | ⟨h1, h2, h3, h4⟩
  · rw [h, fin]
    split <;> simp [tidy, tidyRing, trim]
  · rw [fin.eq_1 (fin l), h4, if_neg h3]
/-! ### what lies in the box stays -/
theorem nxt_mem (l : List S37) (i : Nat) (h : i < l.length) : nxt l i ∈ l := by
  rw [nxt, rd_get l _ (Nat.mod_lt _ (by omega))]
  exact List.getElem_mem _
theorem sideN_keep (h : Half) (l : List S37) (hk : ∀ p ∈ l, has h p = true) : ∀ (n i : Nat), i + n = l.length → sideN h l n i = l.drop i := by
  intro n
  induction n with
  | zero => intro i hi; rw [sideN, List.drop_eq_nil_of_le (by omega)]
  | succ n ih =>
    intro i hi
    have hil : i < l.length := by omega
    have h1 := hk _ (List.getElem_mem hil)
    have h2 := hk _ (nxt_mem l i hil)
    rw [sideN, ih (i + 1) (by omega), List.drop_eq_getElem_cons hil, rd_get l i hil, step, if_pos h1, if_pos (by rw [h1, h2])]
    rfl
theorem rest_keep (b0 b1 b2 b3 : Int) : ∀ (n : Nat) (l : List S37), n ≤ 4 → (∀ p ∈ l, inB b0 b1 b2 b3 p = true) → rest b0 b1 b2 b3 n l = fin l
  | 0, l, _, _ => rfl
  | n + 1, l, hn, h => by
    rw [rest, side, sideN_keep _ l (fun p hp => has_of_inB (h p hp) (3 - n) (by omega)) l.length 0 (by omega), List.drop_zero]
    exact rest_keep b0 b1 b2 b3 n l (by omega) h
theorem piece_keep (b0 b1 b2 b3 : Int) : ∀ (n : Nat) (p q : S37), n ≤ 4 → inB b0 b1 b2 b3 p = true → inB b0 b1 b2 b3 q = true → p ≠ q → piece b0 b1 b2 b3 n p q = some (p, q)
  | 0, p, q, _, _, _, h => by rw [piece, if_neg (fun e => h (eqp_iff.1 e))]
  | n + 1, p, q, hn, hp, hq, h => by
    rw [piece, if_pos (has_of_inB hp _ (by omega)), if_pos (has_of_inB hq _ (by omega))]
    exact piece_keep b0 b1 b2 b3 n p q (by omega) hp hq h
theorem lineN_keep (b0 b1 b2 b3 : Int) (t : List S37) (ht : ∀ p ∈ t, inB b0 b1 b2 b3 p = true) (hc : chain t) : ∀ (n i : Nat), i + n + 1 = t.length → 0 < i → lineN b0 b1 b2 b3 t n i true [] (t.take (i + 1)) = [t] := by
  intro n
  induction n with
  | zero =>
    intro i hi h0
    rw [lineN, List.take_of_length_le (by omega), shut, if_neg (by omega)]
    rfl
  | succ n ih =>
    intro i hi h0
    have h1 : i < t.length := by omega
    have h2 : i + 1 < t.length := by omega
    rw [lineN, rd_get t i h1, rd_get t (i + 1) h2, piece_keep b0 b1 b2 b3 4 t[i] t[i + 1] (by omega) (ht _ (List.getElem_mem _)) (ht _ (List.getElem_mem _)) (chain_get t hc i h2)]
    dsimp only
    rw [if_pos (by rw [eqp_self]; rfl), eqp_self, show t.take (i + 1) ++ [t[i + 1]] = t.take (i + 1 + 1) by rw [List.take_succ_eq_append_getElem h2]]
    exact ih (i + 1) (by omega) (by omega)
theorem line_keep (b0 b1 b2 b3 : Int) (t : List S37) (ht : ∀ p ∈ t, inB b0 b1 b2 b3 p = true) (hc : chain t) : lineN b0 b1 b2 b3 t (t.length - 1) 0 false [] [] = if t.length < 2 then [] else [t] := by
  by_cases h : t.length < 2
  · rw [if_pos h, show t.length - 1 = 0 by omega, lineN]
    rfl
  · rw [if_neg h]
    obtain ⟨n, hn⟩ : ∃ n, t.length - 1 = n + 1 := ⟨t.length - 2, by omega⟩
    have h1 : 0 < t.length := by omega
    have h2 : 0 + 1 < t.length := by omega
    rw [hn, lineN, rd_get t 0 h1, rd_get t (0 + 1) h2, piece_keep b0 b1 b2 b3 4 t[0] t[0 + 1] (by omega) (ht _ (List.getElem_mem _)) (ht _ (List.getElem_mem _)) (chain_get t hc 0 h2)]
    dsimp only
    rw [if_neg (by simp), eqp_self, show shut [] ([] : List S37) = [] from rfl]
    have := lineN_keep b0 b1 b2 b3 t ht hc n 1 (by omega) (by omega)
    rw [← this]
    congr 1
    obtain ⟨a, c, t', rfl⟩ : ∃ a c t', t = a :: c :: t' := by
      match t, h with
      | a :: c :: t', _ => exact ⟨a, c, t', rfl⟩
      | [a], h => exact absurd (by simp) h
      | [], h => exact absurd (by simp) h
    rfl
end Go.Proofs.Ytbgabhdhheplgaa.Pl
end
section
namespace Go.Proofs.Ytbgabhdhheplgaa.Pure
open Go.RowKit Go.Proofs.Ytbgabhdhheplgaa.PALL Go.Proofs.YtbgabhdhheplgaaW.PrintWords Go.Proofs.YtbgabhdhheplgaaW.PrintLast Go.Proofs.YtbgabhdhheplgaaW.PrintMore Go.Proofs.YtbgabhdhheplgaaW.Open

theorem keeps_j1 (l : List S37) (b0 b1 b2 b3 : Int) (hl : l.length ≤ 60) (hp : Pl.perm l b0 b1 b2 b3 = true) (hb : ∀ p ∈ l, Pl.inB b0 b1 b2 b3 p = true) : Ev (fun k => mapmakerlaw12_ClipKeeps.j1 k l false b0 b1 b2 b3) true := by
  have h1 := Pl.tidy_length l
  have h2 := Pl.tidyRing_length (Pl.tidy l)
  have hr := Pl.ring_ev l b0 b1 b2 b3 (by omega)
  rw [Pl.ring, if_pos hp, Pl.rest_keep b0 b1 b2 b3 4 l (by omega) hb, Pl.fin] at hr
  refine Ev.step (f := fun k => (clip_TidyRing.f k l).bind fun t360 => (mapmakerref12_Area2.f k t360).bind fun t363 => if t363 = 0 then (clip_Ring.f k l b0 b1 b2 b3).bind fun t364 => (mapmakerref08_Same.f k t364 ([] : List S37)).bind fun t367 => if t367 = true then (mapmakerlaw12_lives.f k).bind fun t368 => some t368 else some false else (clip_Ring.f k l b0 b1 b2 b3).bind fun t369 => (mapmakerref08_Same.f k t369 t360).bind fun t372 => if t372 = true then (mapmakerlaw12_lives.f k).bind fun t373 => some t373 else some false) (fun k => by rw [mapmakerlaw12_ClipKeeps.j1, if_neg (by simp)]) ?_
  refine Ev.bind (Pl.tidyRing_ev l (by omega)) (Ev.bind (Pl.ref_area_ev (Pl.tidyRing (Pl.tidy l)) (by omega)) ?_)
  by_cases h0 : Pl.area (Pl.tidyRing (Pl.tidy l)) = 0
  · rw [if_pos h0] at hr
    exact Ev.congr (fun k => if_pos h0) (Ev.bind hr (Ev.bind (Pl.same_ev [] (by simp)) (Ev.congr (fun k => if_pos rfl) (Ev.bind Pl.lives_ev (Ev.now _)))))
  · rw [if_neg h0] at hr
    exact Ev.congr (fun k => if_neg h0) (Ev.bind hr (Ev.bind (Pl.same_ev _ (by omega)) (Ev.congr (fun k => if_pos rfl) (Ev.bind Pl.lives_ev (Ev.now _)))))
theorem keeps_j0 (l : List S37) (b0 b1 b2 b3 : Int) (hl : l.length ≤ 60) (hp : Pl.perm l b0 b1 b2 b3 = true) (hb : ∀ p ∈ l, Pl.inB b0 b1 b2 b3 p = true) : Ev (fun k => mapmakerlaw12_ClipKeeps.j0 k l false b0 b1 b2 b3) true := by
  have h1 := Pl.tidy_length l
  have hr := Pl.line_ev l b0 b1 b2 b3 (by omega)
  rw [Pl.line, if_pos hp, Pl.line_keep b0 b1 b2 b3 (Pl.tidy l) (fun p h => hb p (Pl.mem_tidy h)) (Pl.chain_tidy l)] at hr
  have hj := keeps_j1 l b0 b1 b2 b3 hl hp hb
  refine Ev.step (f := fun k => (clip_Tidy.f k l).bind fun t346 => (clip_Line.f k l b0 b1 b2 b3).bind fun t349 => if (t346.length : Int) < 2 then (if (t349.length : Int) > 0 then mapmakerlaw12_ClipKeeps.j1 k l true b0 b1 b2 b3 else (if (t346.length : Int) ≥ 2 then (mapmakerref12_Same.f k t349 ([t346] : List (List S37))).bind fun t355 => mapmakerlaw12_ClipKeeps.j1 k l (!t355) b0 b1 b2 b3 else mapmakerlaw12_ClipKeeps.j1 k l false b0 b1 b2 b3)) else (if (t346.length : Int) ≥ 2 then (mapmakerref12_Same.f k t349 ([t346] : List (List S37))).bind fun t359 => mapmakerlaw12_ClipKeeps.j1 k l (!t359) b0 b1 b2 b3 else mapmakerlaw12_ClipKeeps.j1 k l false b0 b1 b2 b3)) (fun k => by rw [mapmakerlaw12_ClipKeeps.j0, if_neg (by simp)]) ?_
  refine Ev.bind (Pl.tidy_ev l (by omega)) (Ev.bind hr ?_)
  by_cases h2 : (Pl.tidy l).length < 2
  · rw [if_pos h2]
    exact Ev.congr (fun k => by rw [if_pos (by omega), if_neg (by simp), if_neg (by omega)]) hj
  · rw [if_neg h2]
    refine Ev.congr (f := fun k => (mapmakerref12_Same.f k [Pl.tidy l] [Pl.tidy l]).bind fun t359 => mapmakerlaw12_ClipKeeps.j1 k l (!t359) b0 b1 b2 b3) (fun k => by rw [if_neg (by omega), if_pos (by omega)]) ?_
    exact Ev.bind (Pl.same2_ev [Pl.tidy l] (by simp) (fun x hx => by rw [List.mem_singleton.1 hx]; omega)) hj
theorem ClipKeeps : mapmakerlaw12_ClipKeeps.Pure := by
  intro y0 y1 h h1
  refine Ev.rounds ?_
  have bad : Ev (fun k => mapmakerlaw12_ClipKeeps.j0 k y0 true y1.f0 y1.f1 y1.f2 y1.f3) true :=
    Ev.step (f := fun k => (mapmakerlaw12_lives.f k).bind fun t => some t) (fun k => by rw [mapmakerlaw12_ClipKeeps.j0, if_pos rfl]) (Ev.bind Pl.lives_ev (Ev.now _))
  by_cases hc : (y0.length : Int) > 60
  · exact Ev.congr (fun k => by rw [mapmakerlaw12_ClipKeeps.f, if_pos hc]) bad
  · by_cases hg : Pl.goodB y1.f0 y1.f1 y1.f2 y1.f3 = true
    · refine Ev.congr (f := fun k => (mapmakerref08_All.f k y0).bind fun t343 => if t343 = true then (mapmakerlaw12_within.f k y0 y1.f0 y1.f1 y1.f2 y1.f3).bind fun t344 => mapmakerlaw12_ClipKeeps.j0 k y0 (!t344) y1.f0 y1.f1 y1.f2 y1.f3 else mapmakerlaw12_ClipKeeps.j0 k y0 true y1.f0 y1.f1 y1.f2 y1.f3) (fun k => by rw [mapmakerlaw12_ClipKeeps.f, if_neg hc, Pl.ref_check_f, Option.bind_some, if_pos hg, if_pos rfl]) (Ev.bind (Pl.ref_all_ev y0 (by omega)) ?_)
      by_cases ha : y0.all Pl.validP = true
      · refine Ev.congr (fun k => if_pos ha) (Ev.bind (Pl.within_ev y1.f0 y1.f1 y1.f2 y1.f3 y0 (by omega)) ?_)
        by_cases hb : y0.all (Pl.inB y1.f0 y1.f1 y1.f2 y1.f3) = true
        · rw [hb]
          exact keeps_j0 y0 _ _ _ _ (by omega) (by rw [Pl.perm, ha, hg]; rfl) (fun p hp => List.all_eq_true.1 hb p hp)
        · rw [Bool.eq_false_iff.2 hb]
          exact bad
      · exact Ev.congr (fun k => if_neg ha) bad
    · exact Ev.congr (fun k => by rw [mapmakerlaw12_ClipKeeps.f, if_neg hc, Pl.ref_check_f, Option.bind_some, if_neg hg, if_neg (by decide)]) bad

end Go.Proofs.Ytbgabhdhheplgaa.Pure
end
