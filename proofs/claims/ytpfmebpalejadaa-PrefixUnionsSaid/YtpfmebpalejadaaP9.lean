import Derived.Test.YtpfmebpalejadaaJa
namespace Go.Proofs.Ytpfmebpalejadaa.Plain
open Go.Proofs.YtpfmebpalejadaaW Go.RowKit Go.Proofs.YtpfmebpalejadaaW.PrintWords Go.Proofs.Ytpfmebpalejadaa.PALL Go.Proofs.Ytpfmebpalejadaa.Hand
set_option linter.unusedVariables false
set_option linter.unusedSimpArgs false
/-- The documents of word number j. -/
def dOf (bs : List (List ByteArray)) (j : Nat) : List Int := sel (fun y => decide (y = wat (wordsOf bs.flatten) j)) bs bs.length
theorem dOf_lt {bs : List (List ByteArray)} {j : Nat} {x : Int} (h : x ∈ dOf bs j) : 0 ≤ x ∧ x < bs.length := by
  obtain ⟨i, rfl, hi, _⟩ := (mem_sel _ _ _ _).1 h
  omega
/-- The flags behind i words and k documents of the next. -/
structure FL (bs : List (List ByteArray)) (a b i k : Nat) (fl : List Bool) : Prop where
  len : fl.length = bs.length
  mem : ∀ x : Nat, x < bs.length → (fl.getD x false = true ↔ (∃ j, j < i ∧ a ≤ j ∧ j < b ∧ (x : Int) ∈ dOf bs j) ∨ (a ≤ i ∧ i < b ∧ (x : Int) ∈ (dOf bs i).take k))
theorem FL.start (bs : List (List ByteArray)) (a b : Nat) : FL bs a b 0 0 (List.replicate bs.length false) := by
  refine ⟨by simp, fun x hx => ?_⟩
  have e : (List.replicate bs.length false).getD x false = false := by
    rw [List.getD_eq_getElem?_getD, List.getElem?_replicate]
    split <;> rfl
  rw [e]
  constructor
  · intro h; cases h
  · rintro (⟨j, hj, _⟩ | ⟨_, _, h⟩)
    · omega
    · simp at h
theorem getD_set_b (fl : List Bool) (X x : Nat) (v : Bool) (hX : X < fl.length) : (fl.set X v).getD x false = if X = x then v else fl.getD x false := by
  rw [List.getD_eq_getElem?_getD, List.getElem?_set]
  split
  · rename_i h
    subst h
    rfl
  · rw [List.getD_eq_getElem?_getD]
theorem FL.put {bs : List (List ByteArray)} {a b i k : Nat} {fl : List Bool} (h : FL bs a b i k fl) (hk : k < (dOf bs i).length) (X : Nat) (hX : (dOf bs i)[k] = (X : Int)) : FL bs a b i (k + 1) (fl.set X (fl.getD X false || decide (a ≤ i ∧ i < b))) := by
  have hXl := (dOf_lt (List.getElem_mem hk)).2
  rw [hX] at hXl
  refine ⟨by rw [List.length_set]; exact h.len, fun x hx => ?_⟩
  rw [getD_set_b _ _ _ _ (by rw [h.len]; omega), List.take_add_one, List.getElem?_eq_getElem hk, hX]
  have hm := h.mem x hx
  by_cases hxX : X = x
  · subst hxX
    rw [if_pos rfl, Bool.or_eq_true, decide_eq_true_eq, hm]
    simp only [Option.toList_some, List.mem_append, List.mem_singleton]
    constructor
    · rintro ((h1 | ⟨h1, h2, h3⟩) | ⟨h1, h2⟩)
      · exact .inl h1
      · exact .inr ⟨h1, h2, .inl h3⟩
      · exact .inr ⟨h1, h2, .inr trivial⟩
    · rintro (h1 | ⟨h1, h2, _⟩)
      · exact .inl (.inl h1)
      · exact .inr ⟨h1, h2⟩
  · rw [if_neg hxX, hm]
    simp only [Option.toList_some, List.mem_append, List.mem_singleton]
    have hne : ¬ (x : Int) = (X : Int) := by omega
    simp only [hne, or_false]
theorem FL.next {bs : List (List ByteArray)} {a b i : Nat} {fl : List Bool} (h : FL bs a b i (dOf bs i).length fl) : FL bs a b (i + 1) 0 fl := by
  refine ⟨h.len, fun x hx => ?_⟩
  rw [h.mem x hx, List.take_length]
  constructor
  · rintro (⟨j, h1, h2⟩ | ⟨h1, h2, h3⟩)
    · exact .inl ⟨j, by omega, h2⟩
    · exact .inl ⟨i, by omega, h1, h2, h3⟩
  · rintro (⟨j, h1, h2, h3, h4⟩ | ⟨_, _, h⟩)
    · rcases Nat.lt_or_ge j i with hj | hj
      · exact .inl ⟨j, hj, h2, h3, h4⟩
      · obtain rfl : j = i := by omega
        exact .inr ⟨h2, h3, h4⟩
    · simp at h
/-- What is wanted, of the first n. -/
def wantOf (fl : List Bool) (n : Nat) : List Int := ((List.range n).filter (fun x => fl.getD x false)).map (fun i : Nat => (i : Int))
theorem wantOf_succ (fl : List Bool) (n : Nat) : wantOf fl (n + 1) = wantOf fl n ++ (if fl.getD n false then [(n : Int)] else []) := by
  unfold wantOf
  rw [List.range_succ, List.filter_append, List.map_append]
  congr 1
  by_cases h : fl.getD n false = true
  · rw [if_pos h, List.filter_cons, if_pos h]; rfl
  · rw [if_neg h, List.filter_cons, if_neg h]; rfl
theorem wantOf_len (fl : List Bool) (n : Nat) : (wantOf fl n).length ≤ n := by
  unfold wantOf
  rw [List.length_map]
  exact Nat.le_trans (List.length_filter_le _ _) (by rw [List.length_range]; exact Nat.le_refl _)
theorem FL.done {bs : List (List ByteArray)} {a b : Nat} {fl : List Bool} {p : ByteArray} (hR : RangeOf (wordsOf bs.flatten) p a b) (h : FL bs a b (wordsOf bs.flatten).length 0 fl) : wantOf fl bs.length = sel (begins · p) bs bs.length := by
  unfold wantOf sel
  congr 1
  refine List.filter_congr (fun x hx => ?_)
  have hx := List.mem_range.1 hx
  rw [Bool.eq_iff_iff, h.mem x hx]
  have hb := hR.bl
  constructor
  · rintro (⟨j, h1, h2, h3, h4⟩ | ⟨_, _, h⟩)
    · obtain ⟨i, hi, _, h5⟩ := (mem_sel _ _ _ _).1 h4
      obtain rfl : x = i := by omega
      obtain ⟨w, hw, hq⟩ := List.any_eq_true.1 h5
      refine List.any_eq_true.2 ⟨w, hw, ?_⟩
      rw [of_decide_eq_true hq]
      exact hR.mid j h2 h3
    · simp at h
  · intro h
    obtain ⟨w, hw, hq⟩ := List.any_eq_true.1 h
    have hwm : w ∈ wordsOf bs.flatten := (mem_wordsOf _ _).2 (List.mem_flatten.2 ⟨bs[x], List.getElem_mem hx, by rw [List.getD_eq_getElem?_getD, List.getElem?_eq_getElem hx] at hw; exact hw⟩)
    obtain ⟨j, hj, rfl⟩ := List.mem_iff_getElem.1 hwm
    have hbg := hR.begins_at j hj
    rw [wat_at hj] at hbg
    have hq' : begins (wordsOf bs.flatten)[j] p = true := hq
    rw [hq'] at hbg
    have hab := of_decide_eq_true hbg.symm
    refine .inl ⟨j, hj, hab.1, hab.2, (mem_sel _ _ _ _).2 ⟨x, rfl, hx, List.any_eq_true.2 ⟨_, hw, ?_⟩⟩⟩
    rw [wat_at hj]
    exact decide_eq_true rfl
theorem made_bools (n : Nat) : madeCells #[Value.bool false] n = ((List.replicate n false).map Value.bool).toArray := by
  apply Array.ext'
  apply List.ext_getElem
  · simp [madeCells]
  · intro i h1 h2
    simp [madeCells, Nat.mod_one]
end Go.Proofs.Ytpfmebpalejadaa.Plain
