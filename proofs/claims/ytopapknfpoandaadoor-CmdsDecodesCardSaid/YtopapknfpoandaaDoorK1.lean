import Derived.Test.YtopapknfpoandaaDoorPALLx3
import Derived.Test.YtopapknfpoandaaDoorR4
namespace Go.Proofs.YtopapknfpoandaaDoor.Hand
open Go.Proofs.YtopapknfpoandaaDoorW Go.RowKit Go.Proofs.YtopapknfpoandaaDoorW.PrintWords Go.Proofs.YtopapknfpoandaaDoorW.PrintLast Go.Proofs.YtopapknfpoandaaDoorW.PrintMore Go.Proofs.YtopapknfpoandaaDoorW.SepW Go.Proofs.YtopapknfpoandaaDoor.PALL
set_option linter.unusedVariables false
set_option linter.unusedSimpArgs false
theorem wnext (i : Nat) (h : i ≤ 140737488351232) : wrap64 ((i : Int) + 1) = ((i + 1 : Nat) : Int) := wrap_next (i : Int) i rfl h
theorem rd_at (l : List Int) (i : Nat) (h : i < l.length) : rd l (i : Int) = l[i] := by simp [rd, h]
theorem drop_eq_iff {α : Type} {l m : List α} {i : Nat} (h1 : i < l.length) (h2 : i < m.length) : l.drop i = m.drop i ↔ l[i] = m[i] ∧ l.drop (i + 1) = m.drop (i + 1) := by
  rw [List.drop_eq_getElem_cons h1, List.drop_eq_getElem_cons h2, List.cons.injEq]
theorem equal_l {l m : List Int} (hl : l.length = m.length) (hb : l.length ≤ 140737488351232) : ∀ n i, n + i = l.length → mapmakerref05_Equal.l0 (n + 1) l m (i : Int) = some (decide (l.drop i = m.drop i))
  | 0, i, hn => by
    have hi : i = l.length := by omega
    rw [mapmakerref05_Equal.l0, if_neg (by omega), hi, List.drop_length, hl, List.drop_length]
    rfl
  | n + 1, i, hn => by
    have h1 : i < l.length := by omega
    have h2 : i < m.length := by omega
    rw [mapmakerref05_Equal.l0, if_pos (by omega), if_pos (by omega), if_pos (by omega), rd_at l i h1, rd_at m i h2]
    have hd := drop_eq_iff h1 h2
    by_cases he : l[i] = m[i]
    · rw [if_pos he, wnext i (by omega), equal_l hl hb n (i + 1) (by omega)]
      congr 1
      exact decide_eq_decide.2 ⟨fun h => hd.2 ⟨he, h⟩, fun h => (hd.1 h).2⟩
    · rw [if_neg he]
      congr 1
      exact (decide_eq_false (fun h => he (hd.1 h).1)).symm
theorem equal_f (l m : List Int) (hb : l.length ≤ 140737488351232) : mapmakerref05_Equal.f (l.length + 1) l m = some (decide (l = m)) := by
  unfold mapmakerref05_Equal.f
  by_cases hl : l.length = m.length
  · rw [if_pos (by omega)]
    have h := equal_l hl hb l.length 0 (by omega)
    exact h
  · rw [if_neg (by omega)]
    congr 1
    exact (decide_eq_false (fun h => hl (by rw [h]))).symm
theorem equal_c (A0 : Option Addr) (c0 : Nat) (l : List Int) (A1 : Option Addr) (c1 : Nat) (m : List Int) (w : World) (hr0 : Kd.C (Kd.int .i64) w A0 l.length l) (hc0 : l.length ≤ c0) (hr1 : Kd.C (Kd.int .i64) w A1 m.length m) (hc1 : m.length ≤ c1) (hb : l.length ≤ 140737488351232) :
    Calls Tryd.prog 13 #[.slice A0 l.length c0, .slice A1 m.length c1] w fun e w' => e = .returned (.bool (decide (l = m))) ∧ Below w.heap.size w w' :=
  (mapmakerref05_Equal.calls _ A0 c0 l A1 c1 m _ w hr0 hc0 hr1 hc1 (equal_f l m hb)).mono fun e w' h => ⟨h.1, h.2.below⟩
/-- Sizes that memory bears. -/
def Fit (parts : List (List S44)) : Prop := parts.length ≤ 140737488351232 ∧ ∀ p ∈ parts, p.length ≤ 140737488351232
theorem rdL_at (l : List (List S44)) (i : Nat) (h : i < l.length) : rd_L2 l (i : Int) = l[i] := by simp [rd_L2, h]
theorem rdT_at (l : List S44) (i : Nat) (h : i < l.length) : rd_T44 l (i : Int) = l[i] := part_at h
instance : DecidableEq S44 := fun a b => decidable_of_iff (a.f0 = b.f0 ∧ a.f1 = b.f1) ⟨fun h => by cases a; cases b; simp_all, fun h => by subst h; exact ⟨rfl, rfl⟩⟩
theorem s44_ne (p q : S44) : ((!(p.f0 == q.f0) || (!(p.f1 == q.f1))) = true) ↔ p ≠ q := by
  cases p; cases q
  simp only [Bool.or_eq_true, Bool.not_eq_true', beq_eq_false_iff_ne, ne_eq, S44.mk.injEq, Classical.not_and_iff_not_or_not]
theorem same_l1 {a b : Int} {l m : List (List S44)} (hl : l.length = m.length) (i : Nat) (h1 : i < l.length) (h2 : i < m.length) (hi : i ≤ 140737488351232) (hrow : l[i].length = m[i].length) (hrb : l[i].length ≤ 140737488351232) (k0 : Nat) (r0 : Bool)
    (H : mapmakerref30_Same.l0 k0 ((i + 1 : Nat) : Int) a l b m = some r0) : ∀ n j, n + j = l[i].length → mapmakerref30_Same.l1 (n + 1 + k0) (i : Int) (j : Int) a l b m = some (decide (l[i].drop j = m[i].drop j) && r0)
  | 0, j, hn => by
    have hj : j = l[i].length := by omega
    have hd : l[i].drop j = m[i].drop j := by rw [hj, List.drop_length, hrow, List.drop_length]
    rw [show 0 + 1 + k0 = k0 + 1 by omega, mapmakerref30_Same.l1, if_pos (by omega), if_pos (by omega), rdL_at l i h1, if_neg (by omega), wnext i (by omega), H, decide_eq_true hd, Bool.true_and]
  | n + 1, j, hn => by
    have g1 : j < l[i].length := by omega
    have g2 : j < m[i].length := by omega
    have hd := drop_eq_iff g1 g2
    rw [show n + 1 + 1 + k0 = (n + 1 + k0) + 1 by omega, mapmakerref30_Same.l1, if_pos (by omega), if_pos (by omega), rdL_at l i h1, if_pos (by omega), if_pos (by omega), if_pos (by omega), rdL_at m i h2, if_pos (by omega), rdT_at _ j g1, rdT_at _ j g2]
    by_cases he : l[i][j] = m[i][j]
    · rw [if_neg (fun h => (s44_ne _ _).1 h he), wnext j (by omega), same_l1 hl i h1 h2 hi hrow hrb k0 r0 H n (j + 1) (by omega)]
      congr 2
      exact decide_eq_decide.2 ⟨fun h => hd.2 ⟨he, h⟩, fun h => (hd.1 h).2⟩
    · rw [if_pos ((s44_ne _ _).2 he), decide_eq_false (fun h => he (hd.1 h).1), Bool.false_and]
theorem same_l0 {a b : Int} {l m : List (List S44)} (hl : l.length = m.length) (hf : Fit l) : ∀ n i, n + i = l.length → ∃ k, mapmakerref30_Same.l0 k (i : Int) a l b m = some (decide (l.drop i = m.drop i))
  | 0, i, hn => by
    have hi : i = l.length := by omega
    refine ⟨1, ?_⟩
    rw [mapmakerref30_Same.l0, if_neg (by omega), hi, List.drop_length, hl, List.drop_length]
    rfl
  | n + 1, i, hn => by
    have h1 : i < l.length := by omega
    have h2 : i < m.length := by omega
    obtain ⟨k0, hk0⟩ := same_l0 (a := a) (b := b) hl hf n (i + 1) (by omega)
    have hd := drop_eq_iff h1 h2
    have hf1 := hf.1
    have hrb := hf.2 l[i] (List.getElem_mem h1)
    refine ⟨l[i].length + 1 + k0 + 1, ?_⟩
    rw [mapmakerref30_Same.l0, if_pos (by omega), if_pos (by omega), if_pos (by omega), rdL_at l i h1, rdL_at m i h2]
    by_cases hrow : l[i].length = m[i].length
    · have h := same_l1 hl i h1 h2 (by omega) hrow hrb k0 _ hk0 l[i].length 0 (by omega)
      rw [if_pos (by omega)]
      rw [show ((0 : Nat) : Int) = 0 from rfl] at h
      rw [h]
      congr 1
      rw [← Bool.decide_and]
      exact decide_eq_decide.2 hd.symm
    · rw [if_neg (by omega)]
      congr 1
      exact (decide_eq_false (fun h => hrow (by rw [(hd.1 h).1]))).symm
theorem same_f (a b : Int) (l m : List (List S44)) (hf : Fit l) : ∃ k, mapmakerref30_Same.f k a l b m = some (decide (a = b ∧ l = m)) := by
  unfold mapmakerref30_Same.f
  by_cases ha : a = b
  · by_cases hl : l.length = m.length
    · obtain ⟨k, hk⟩ := same_l0 (a := a) (b := b) hl hf l.length 0 (by omega)
      refine ⟨k + 1, ?_⟩
      have e : ((l.length : Int) != (m.length : Int)) = false := by rw [hl]; simp
      rw [if_pos ha, e, mapmakerref30_Same.j0, if_neg (by decide)]
      rw [show ((0 : Nat) : Int) = 0 from rfl] at hk
      rw [hk]
      congr 1
      exact decide_eq_decide.2 ⟨fun h => ⟨ha, h⟩, fun h => h.2⟩
    · refine ⟨1, ?_⟩
      have e : ((l.length : Int) != (m.length : Int)) = true := bne_iff_ne.2 (by omega)
      rw [if_pos ha, e, mapmakerref30_Same.j0, if_pos rfl]
      congr 1
      exact (decide_eq_false (fun h => hl (by rw [h.2]))).symm
  · refine ⟨1, ?_⟩
    rw [if_neg ha, mapmakerref30_Same.j0, if_pos rfl]
    congr 1
    exact (decide_eq_false (fun h => ha h.1)).symm
theorem same_c (a : Int) (A0 : Option Addr) (c0 : Nat) (l : List (List S44)) (b : Int) (A1 : Option Addr) (c1 : Nat) (m : List (List S44)) (w : World) (hr0 : Kd.C (Kd.slice 44 k44) w A0 l.length l) (hc0 : l.length ≤ c0) (hr1 : Kd.C (Kd.slice 44 k44) w A1 m.length m) (hc1 : m.length ≤ c1) (hf : Fit l) :
    Calls Tryd.prog 16 #[.agg #[.int .i64 a, .slice A0 l.length c0], .agg #[.int .i64 b, .slice A1 m.length c1]] w fun e w' => e = .returned (.bool (decide (a = b ∧ l = m))) ∧ Below w.heap.size w w' := by
  obtain ⟨k, hk⟩ := same_f a b l m hf
  exact mapmakerref30_Same.calls k a A0 c0 l b A1 c1 m _ w hr0 hc0 hr1 hc1 hk
theorem total_drop {l : List (List S44)} {i : Nat} (h : i < l.length) : total (l.drop i) = l[i].length + 1 + total (l.drop (i + 1)) := by rw [List.drop_eq_getElem_cons h, total]
theorem few_l {a : Int} {l : List (List S44)} (hf : Fit l) : ∀ n i (x : Int), n + i = l.length → 0 ≤ x → x ≤ 150000000000000 → mapmakerlaw30_few.l0 (n + 1) x (i : Int) a l = some (decide (x + (total (l.drop i) : Int) ≤ 9000 + ((l.length - i : Nat) : Int)))
  | 0, i, x, hn, _, _ => by
    have hi : i = l.length := by omega
    rw [mapmakerlaw30_few.l0, if_neg (by omega), hi, List.drop_length]
    congr 1
    exact decide_eq_decide.2 ⟨fun h => by simp only [total]; omega, fun h => by simp only [total] at h; omega⟩
  | n + 1, i, x, hn, h0, h1 => by
    have g1 : i < l.length := by omega
    have hf1 := hf.1
    have hrb := hf.2 l[i] (List.getElem_mem g1)
    have ht := total_drop g1
    have htl := total_len (l.drop (i + 1))
    rw [List.length_drop] at htl
    rw [mapmakerlaw30_few.l0, if_pos (by omega)]
    by_cases hx : x ≤ 9000
    · rw [if_pos hx, if_pos (by omega), rdL_at l i g1, wnext i (by omega), show wrap64 (x + (l[i].length : Int)) = x + (l[i].length : Int) by unfold wrap64; omega, few_l hf n (i + 1) _ (by omega) (by omega) (by omega)]
      congr 1
      refine decide_eq_decide.2 ⟨fun h => ?_, fun h => ?_⟩
      · rw [ht]; omega
      · rw [ht] at h; omega
    · rw [if_neg hx]
      congr 1
      refine decide_eq_decide.2 ⟨fun h => by omega, fun h => ?_⟩
      rw [ht] at h; omega
theorem few_c (a : Int) (A0 : Option Addr) (c0 : Nat) (l : List (List S44)) (w : World) (hr0 : Kd.C (Kd.slice 44 k44) w A0 l.length l) (hc0 : l.length ≤ c0) (hf : Fit l) :
    Calls Tryd.prog 7 #[.agg #[.int .i64 a, .slice A0 l.length c0]] w fun e w' => e = .returned (.bool (decide (total l ≤ 9000))) ∧ Below w.heap.size w w' := by
  have hf1 := hf.1
  have h := few_l (a := a) hf l.length 0 (l.length : Int) (by omega) (by omega) (by omega)
  have e : (decide ((l.length : Int) + (total (l.drop 0) : Int) ≤ 9000 + ((l.length - 0 : Nat) : Int))) = decide (total l ≤ 9000) := decide_eq_decide.2 ⟨fun h => by rw [List.drop_zero] at h; omega, fun h => by rw [List.drop_zero]; omega⟩
  rw [e] at h
  exact mapmakerlaw30_few.calls (l.length + 1) a A0 c0 l _ w hr0 hc0 h
end Go.Proofs.YtopapknfpoandaaDoor.Hand
