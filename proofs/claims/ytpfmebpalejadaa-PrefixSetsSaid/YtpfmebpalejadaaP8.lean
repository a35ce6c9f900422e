import Derived.Test.YtpfmebpalejadaaJa
namespace Go.Proofs.Ytpfmebpalejadaa.Plain
open Go.Proofs.YtpfmebpalejadaaW Go.RowKit Go.Proofs.YtpfmebpalejadaaW.PrintWords Go.Proofs.Ytpfmebpalejadaa.PALL Go.Proofs.Ytpfmebpalejadaa.Hand
set_option linter.unusedVariables false
set_option linter.unusedSimpArgs false
/-! The reference's Set. -/
def setR (bs : List (List ByteArray)) (d : Int) (l : List ByteArray) : List (List ByteArray) × Bool := if 0 ≤ d ∧ d ≤ bs.length then ((grow bs d.toNat).set d.toNat l, true) else (bs, false)
theorem rset_l0 (bs : List (List ByteArray)) (hn : bs.length ≤ 1000) (D : Nat) (hD : D ≤ bs.length) (l : List ByteArray) : ∀ (d i : Nat), i + d = bs.length → Ev (fun k => mapmakerref52_Set.l0 k bs (D : Int) l (bs.take i) (i : Int)) ((grow bs D).set D l, true) := by
  intro d
  induction d with
  | zero =>
    intro i hi
    obtain rfl : i = bs.length := by omega
    refine Ev.step (f := fun _ => some _) (fun k => ?_) (Ev.now _)
    rw [mapmakerref52_Set.l0, if_neg (by omega), List.take_length]
    by_cases h : D = bs.length
    · rw [if_pos (by omega), if_pos (by omega)]
      have e : (grow bs D).set D l = bs ++ [l] := by
        unfold grow
        rw [if_pos h, h, List.set_append_right _ _ (Nat.le_refl _), Nat.sub_self]
        rfl
      rw [e]
    · rw [if_neg (by omega), if_pos (by omega), if_pos (by omega)]
      have e : (grow bs D).set D l = bs.set D l := by
        unfold grow
        rw [if_neg h]
      rw [e, show ((D : Int)).toNat = D by omega]
  | succ d ih =>
    intro i hi
    have h1 : i < bs.length := by omega
    have e0 : rd_L1 bs (i : Int) = bs[i] := by rw [rdL]; simp [h1]
    refine Ev.step (fun k => ?_) (ih (i + 1) (by omega))
    rw [mapmakerref52_Set.l0, if_pos (by omega), if_pos (by omega), if_pos (by rw [List.length_take]; omega), e0, w1 i (by omega), List.take_add_one, List.getElem?_eq_getElem h1]
    rfl
theorem rset_ev (bs : List (List ByteArray)) (hn : bs.length ≤ 1000) (d : Int) (l : List ByteArray) : ∃ k, mapmakerref52_Set.f k bs d l = some ((setR bs d l).1, (setR bs d l).2) := by
  unfold setR
  by_cases h : 0 ≤ d ∧ d ≤ bs.length
  · rw [if_pos h]
    obtain ⟨D, rfl⟩ : ∃ D : Nat, d = (D : Int) := ⟨d.toNat, by omega⟩
    rw [show ((D : Int)).toNat = D by omega]
    refine Ev.rounds (g := fun k => mapmakerref52_Set.f k bs (D : Int) l) (Ev.step (f := fun k => mapmakerref52_Set.f (k + 1) bs (D : Int) l) (fun k => rfl) ?_)
    refine Ev.congr (fun k => ?_) (rset_l0 bs hn D (by omega) l bs.length 0 (by omega))
    show mapmakerref52_Set.f (k + 1) bs (D : Int) l = _
    rw [mapmakerref52_Set.f, if_neg (by omega), mapmakerref52_Set.j0, if_neg (by simp; omega)]
    rfl
  · rw [if_neg h]
    refine ⟨1, ?_⟩
    by_cases h0 : d < 0
    · rw [mapmakerref52_Set.f, if_pos h0, mapmakerref52_Set.j0, if_pos rfl]
    · rw [mapmakerref52_Set.f, if_neg h0, mapmakerref52_Set.j0, if_pos (decide_eq_true (by omega))]
theorem setR_len (bs : List (List ByteArray)) (d : Int) (l : List ByteArray) : (setR bs d l).1.length ≤ bs.length + 1 := by
  unfold setR grow
  split
  · rw [List.length_set]
    split
    · simp
    · omega
  · simp
theorem setR_mem {bs : List (List ByteArray)} {d : Int} {l : List ByteArray} {n : Nat} (h : ∀ x ∈ bs, x.length ≤ n) (hl : l.length ≤ n) : ∀ x ∈ (setR bs d l).1, x.length ≤ n := by
  intro x hx
  unfold setR grow at hx
  split at hx
  · rcases List.mem_or_eq_of_mem_set hx with hx | rfl
    · split at hx
      · rcases List.mem_append.1 hx with hx | hx
        · exact h x hx
        · rw [List.mem_singleton.1 hx]; simp
      · exact h x hx
    · exact hl
  · exact h x hx
def opsB (os : List S35) : Bool := decide (os.length ≤ 20) && os.all (fun o => wordsB o.f1)
theorem rdT (os : List S35) (i : Nat) (h : i < os.length) : rd_T35 os (i : Int) = os[i] := by unfold rd_T35; simp [h]
theorem ops_l0 (os : List S35) (hl : os.length ≤ 20) : ∀ (d i : Nat), i + d = os.length → Ev (fun k => mapmakerlaw52_ops.l0 k os (i : Int)) ((os.drop i).all (fun o => wordsB o.f1)) := by
  intro d
  induction d with
  | zero =>
    intro i hi
    obtain rfl : i = os.length := by omega
    refine Ev.step (f := fun _ => some _) (fun k => ?_) (Ev.now _)
    rw [mapmakerlaw52_ops.l0, if_neg (by omega), List.drop_length]
    rfl
  | succ d ih =>
    intro i hi
    have h1 : i < os.length := by omega
    rw [List.drop_eq_getElem_cons h1, List.all_cons]
    refine Ev.step (f := fun k => (mapmakerlaw52_words.f k os[i].f1).bind fun t => if t = true then mapmakerlaw52_ops.l0 k os ((i + 1 : Nat) : Int) else some false) (fun k => ?_) (Ev.bind (lw_ev os[i].f1) ?_)
    · rw [mapmakerlaw52_ops.l0, if_pos (by omega), if_pos (by omega), rdT os i h1, w1 i (by omega)]
    · by_cases hx : wordsB os[i].f1 = true
      · rw [hx, Bool.true_and]
        exact ih (i + 1) (by omega)
      · have hx' := Bool.eq_false_iff.2 hx
        rw [hx', Bool.false_and]
        exact Ev.now _
theorem ops_ev (os : List S35) : ∃ k, mapmakerlaw52_ops.f k os = some (opsB os) := by
  unfold opsB
  by_cases h : os.length ≤ 20
  · rw [decide_eq_true h, Bool.true_and]
    exact (Ev.congr (f := fun k => mapmakerlaw52_ops.l0 k os ((0 : Nat) : Int)) (g := fun k => mapmakerlaw52_ops.f k os) (fun k => by rw [mapmakerlaw52_ops.f, if_neg (by omega)]; rfl) (ops_l0 os h os.length 0 (by omega))).rounds
  · rw [decide_eq_false h, Bool.false_and]
    exact ⟨0, by rw [mapmakerlaw52_ops.f, if_pos (by omega)]⟩
theorem opsB_small {os : List S35} (h : opsB os = true) : os.length ≤ 20 ∧ ∀ o ∈ os, o.f1.length ≤ 30 := by
  unfold opsB at h
  rw [Bool.and_eq_true] at h
  exact ⟨of_decide_eq_true h.1, fun o ho => wordsB_len (List.all_eq_true.1 h.2 o ho)⟩
end Go.Proofs.Ytpfmebpalejadaa.Plain
