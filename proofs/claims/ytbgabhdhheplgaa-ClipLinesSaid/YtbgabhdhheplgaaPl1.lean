/-
  Plain facts on Tidy, TidyRing, Same: what the printed functions give, from some number of rounds on.
-/
import Derived.IntWalk
import Derived.Test.YtbgabhdhheplgaaPALLx3
namespace Go.Proofs.Ytbgabhdhheplgaa.Pl
open Go.RowKit Go.Proofs.Ytbgabhdhheplgaa.PALL Go.Proofs.YtbgabhdhheplgaaW.PrintWords Go.Proofs.YtbgabhdhheplgaaW.PrintLast Go.Proofs.YtbgabhdhheplgaaW.PrintMore

def eqp (p q : S37) : Bool := p.f0 == q.f0 && p.f1 == q.f1
theorem eqp_iff {p q : S37} : eqp p q = true ↔ p = q := by
  obtain ⟨a, b⟩ := p
  obtain ⟨c, d⟩ := q
  simp [eqp]
theorem eqp_self (p : S37) : eqp p p = true := eqp_iff.2 rfl
def tidyFrom (q : S37) : List S37 → List S37
  | [] => []
  | p :: t => if eqp p q = true then tidyFrom q t else p :: tidyFrom p t
def tidy : List S37 → List S37
  | [] => []
  | p :: t => p :: tidyFrom p t
theorem tidyFrom_length (q : S37) (l : List S37) : (tidyFrom q l).length ≤ l.length := by
  induction l generalizing q with
  | nil => simp [tidyFrom]
  | cons p t ih =>
    rw [tidyFrom]
    split
    · have := ih q; simp; omega
    · have := ih p; simp; omega
theorem tidy_length (l : List S37) : (tidy l).length ≤ l.length := by
  cases l with
  | nil => simp [tidy]
  | cons p t => have := tidyFrom_length p t; simp [tidy]; omega
theorem w_suc {i n : Nat} (h : i < n) (hn : n ≤ 4611686018427387904) : wrap64 ((i : Int) + 1) = ((i + 1 : Nat) : Int) := by
  unfold wrap64; omega
theorem w_pre {i n : Nat} (h : i < n) (h0 : 0 < i) (hn : n ≤ 4611686018427387904) : wrap64 ((i : Int) - 1) = ((i - 1 : Nat) : Int) := by
  unfold wrap64; omega
theorem rd_nat (l : List S37) (i : Nat) : rd_T37 l (i : Int) = l.getD i z37 := by simp [rd_T37]
theorem rd_get (l : List S37) (i : Nat) (h : i < l.length) : rd_T37 l (i : Int) = l[i] := by
  rw [rd_nat, List.getD_eq_getElem?_getD, List.getElem?_eq_getElem h]; rfl
theorem eta (p : S37) : (⟨p.f0, p.f1⟩ : S37) = p := rfl
theorem ne_bool (p q : S37) : ((!(p.f0 == q.f0) || !(p.f1 == q.f1)) = true) ↔ ¬ eqp p q = true := by
  simp only [eqp]; cases (p.f0 == q.f0) <;> cases (p.f1 == q.f1) <;> simp

theorem tidy_l0 (l : List S37) (hl : l.length ≤ 1099511627776) : ∀ (n i : Nat) (acc : List S37), i + n = l.length → 0 < i → acc.length ≤ i →
    Ev (fun k => clip_Tidy.l0 k l acc l (l.length : Int) (i : Int)) (acc ++ tidyFrom (rd_T37 l ((i - 1 : Nat) : Int)) (l.drop i)) := by
  intro n
  induction n with
  | zero =>
    intro i acc h h0 ha
    rw [List.drop_eq_nil_of_le (by omega), tidyFrom, List.append_nil]
    refine Ev.step (f := fun _ => some acc) (fun k => ?_) (Ev.now _)
    rw [clip_Tidy.l0, if_neg (by omega)]
  | succ n ih =>
    intro i acc h h0 ha
    have hi : i < l.length := by omega
    rw [List.drop_eq_getElem_cons hi, tidyFrom]
    have hw := w_suc hi (by omega)
    have hp := w_pre hi h0 (by omega)
    by_cases he : eqp l[i] (rd_T37 l ((i - 1 : Nat) : Int)) = true
    · rw [if_pos he]
      have := ih (i + 1) acc (by omega) (by omega) (by omega)
      rw [show i + 1 - 1 = i by omega, rd_get l i hi, eqp_iff.1 he] at this
      refine Ev.step (f := fun k => clip_Tidy.l0 k l acc l (l.length : Int) ((i + 1 : Nat) : Int)) (fun k => ?_) this
      rw [clip_Tidy.l0, if_pos (by omega), if_pos (by omega), if_pos (by omega), if_neg (by omega), hp, if_pos (by omega), if_pos (by omega), if_neg (by rw [ne_bool, rd_get l i hi]; simpa using he), hw]
    · rw [if_neg he]
      have := ih (i + 1) (acc ++ [l[i]]) (by omega) (by omega) (by simp; omega)
      rw [show i + 1 - 1 = i by omega, rd_get l i hi, List.append_assoc] at this
      refine Ev.step (f := fun k => clip_Tidy.l0 k l (acc ++ [l[i]]) l (l.length : Int) ((i + 1 : Nat) : Int)) (fun k => ?_) this
      rw [clip_Tidy.l0, if_pos (by omega), if_pos (by omega), if_pos (by omega), if_neg (by omega), hp, if_pos (by omega), if_pos (by omega), if_pos (by rw [ne_bool, rd_get l i hi]; exact he), if_pos (by omega), hw, eta, rd_get l i hi]
/-- Tidy gives the tidy line. -/
theorem tidy_ev (l : List S37) (hl : l.length ≤ 1099511627776) : Ev (fun k => clip_Tidy.f k l) (tidy l) := by
  cases l with
  | nil =>
    refine Ev.step (f := fun _ => some []) (fun k => ?_) (Ev.now _)
    simp [clip_Tidy.f, clip_Tidy.l0]
  | cons p t =>
    have hc : ((p :: t).length : Int) = (t.length : Int) + 1 := by simp
    have := tidy_l0 (p :: t) hl t.length 1 [p] (by simp; omega) (by omega) (by simp)
    refine Ev.step (f := fun k => clip_Tidy.l0 k (p :: t) [p] (p :: t) ((p :: t).length : Int) ((1 : Nat) : Int)) (fun k => ?_) this
    rw [clip_Tidy.f, clip_Tidy.l0, if_pos (by omega), if_pos (by omega), if_pos (by omega), if_pos rfl, if_pos (by simp), show wrap64 (0 + 1) = ((1 : Nat) : Int) by (unfold wrap64; omega), show rd_T37 (p :: t) 0 = p from rfl]
    rfl

theorem same_l0 (t : List S37) (hl : t.length ≤ 1099511627776) : ∀ (n i : Nat), i + n = t.length → Ev (fun k => mapmakerref08_Same.l0 k t t (i : Int)) true := by
  intro n
  induction n with
  | zero =>
    intro i h
    refine Ev.step (f := fun _ => some true) (fun k => ?_) (Ev.now _)
    rw [mapmakerref08_Same.l0, if_neg (by omega)]
  | succ n ih =>
    intro i h
    have hw := w_suc (show i < t.length by omega) (by omega)
    refine Ev.step (fun k => ?_) (ih (i + 1) (by omega))
    rw [mapmakerref08_Same.l0, if_pos (by omega), if_pos (by omega), if_pos (by omega), if_neg (by rw [ne_bool]; simp [eqp_self]), hw]
/-- Same says that a row is itself. -/
theorem same_ev (t : List S37) (hl : t.length ≤ 1099511627776) : Ev (fun k => mapmakerref08_Same.f k t t) true :=
  Ev.congr (fun k => by rw [mapmakerref08_Same.f, if_pos rfl]; rfl) (same_l0 t hl t.length 0 (by omega))

/-- The row without the points at its end that are its first. -/
def trim : Nat → List S37 → List S37
  | 0, t => t
  | n + 1, t => if 1 < t.length ∧ eqp (rd_T37 t ((t.length - 1 : Nat) : Int)) (rd_T37 t ((0 : Nat) : Int)) = true then trim n (t.take (t.length - 1)) else t
def tidyRing (t : List S37) : List S37 := if (trim t.length t).length < 3 then [] else trim t.length t
theorem trim_length (n : Nat) (t : List S37) : (trim n t).length ≤ t.length := by
  induction n generalizing t with
  | zero => exact Nat.le_refl _
  | succ n ih =>
    rw [trim]
    split
    · have := ih (t.take (t.length - 1)); simp at this; omega
    · exact Nat.le_refl _
theorem ring_l0 : ∀ (n : Nat) (t : List S37), t.length ≤ n → n ≤ 1099511627776 → Ev (fun k => clip_TidyRing.l0 k t) (if (trim n t).length < 3 then [] else trim n t) := by
  intro n
  induction n with
  | zero =>
    intro t ht hn
    refine Ev.step (f := fun _ => some []) (fun k => ?_) ?_
    · rw [clip_TidyRing.l0, if_neg (by omega), if_pos (by omega)]
    · rw [trim, if_pos (by omega)]; exact Ev.now _
  | succ n ih =>
    intro t ht hn
    by_cases h1 : 1 < t.length
    · have hw : wrap64 ((t.length : Int) - 1) = ((t.length - 1 : Nat) : Int) := by unfold wrap64; omega
      by_cases h2 : eqp (rd_T37 t ((t.length - 1 : Nat) : Int)) (rd_T37 t ((0 : Nat) : Int)) = true
      · rw [show trim (n + 1) t = trim n (t.take (t.length - 1)) by rw [trim, if_pos ⟨h1, h2⟩]]
        refine Ev.step (fun k => ?_) (ih (t.take (t.length - 1)) (by simp; omega) (by omega))
        rw [clip_TidyRing.l0, if_pos (by omega), hw, if_pos (by omega), if_pos (by omega), if_pos (by omega), if_pos (by simpa [eqp] using h2), if_pos (by omega)]
        simp
      · rw [show trim (n + 1) t = t by rw [trim, if_neg (fun h => h2 h.2)]]
        refine Ev.step (f := fun _ => some (if t.length < 3 then [] else t)) (fun k => ?_) (Ev.now _)
        rw [clip_TidyRing.l0, if_pos (by omega), hw, if_pos (by omega), if_pos (by omega), if_pos (by omega), if_neg (by simpa [eqp] using h2)]
        by_cases h3 : t.length < 3
        · rw [if_pos h3, if_pos (by omega)]
        · rw [if_neg h3, if_neg (by omega)]
    · rw [show trim (n + 1) t = t by rw [trim, if_neg (fun h => h1 h.1)]]
      refine Ev.step (f := fun _ => some (if t.length < 3 then [] else t)) (fun k => ?_) (Ev.now _)
      rw [clip_TidyRing.l0, if_neg (by omega), if_pos (by omega), if_pos (by omega)]
/-- TidyRing gives the tidy ring. -/
theorem tidyRing_ev (l : List S37) (hl : l.length ≤ 1099511627776) : Ev (fun k => clip_TidyRing.f k l) (tidyRing (tidy l)) :=
  Ev.bind (tidy_ev l hl) (ring_l0 _ _ (Nat.le_refl _) (by have := tidy_length l; omega))
theorem tidyRing_length (t : List S37) : (tidyRing t).length ≤ t.length := by
  rw [tidyRing]
  split
  · simp
  · exact trim_length _ _
end Go.Proofs.Ytbgabhdhheplgaa.Pl
