/-
  Plain facts on the reference's half planes and borders: they are the program's.
-/
import Derived.Test.YtbgabhdhheplgaaPl3
import Derived.Test.YtbgabhdhheplgaaPALLx10
import Derived.Test.YtbgabhdhheplgaaPALLx14
import Derived.Test.YtbgabhdhheplgaaPALLx15
import Derived.Test.YtbgabhdhheplgaaPALLx16
import Derived.Test.YtbgabhdhheplgaaPALLx17
namespace Go.Proofs.Ytbgabhdhheplgaa.Pl
open Go.RowKit Go.Proofs.Ytbgabhdhheplgaa.PALL Go.Proofs.YtbgabhdhheplgaaW.PrintWords Go.Proofs.YtbgabhdhheplgaaW.PrintLast Go.Proofs.YtbgabhdhheplgaaW.PrintMore

theorem tmod_neg_iff (a d : Int) : Int.tmod a d < 0 ↔ a < 0 ∧ Int.tmod a d ≠ 0 := by
  by_cases ha : 0 ≤ a
  · have := Int.tmod_nonneg d ha; omega
  · have h1 := Int.tmod_nonneg d (show 0 ≤ -a by omega)
    rw [Int.neg_tmod] at h1
    omega
theorem ref_flr_f (a d : Int) (hd : ¬ d ≤ 0) : mapmakerref01_FloorDiv.f a d = some (flr a d) := by
  have h := tmod_neg_iff a d
  rw [mapmakerref01_FloorDiv.f, if_neg hd, if_neg (by omega), flr]
  by_cases ha : a < 0
  · by_cases hm : Int.tmod a d = 0
    · rw [if_pos ha, if_pos hm, if_neg (by omega)]
    · rw [if_pos ha, if_neg hm, if_pos (by omega)]
  · rw [if_neg ha, if_neg (by omega)]
theorem ref_rdiv_j0 (k : Nat) (a d x : Int) (hd : ¬ d ≤ 0) : mapmakerref01_RoundDiv.j0 (k + 1) a d x = some (if x ≥ wrap64 (d - x) then wrap64 (flr a d + 1) else flr a d) := by
  rw [mapmakerref01_RoundDiv.j0, ref_flr_f a d hd]
  split <;> rfl
theorem ref_rdiv_f (k : Nat) (a d : Int) : mapmakerref01_RoundDiv.f (k + 1) a d = some (rdiv a d) := by
  rw [mapmakerref01_RoundDiv.f, rdiv]
  by_cases hd : d ≤ 0
  · rw [if_pos hd, if_pos hd]
  · rw [if_neg hd, if_neg hd, if_neg (by omega), ref_rdiv_j0 k _ _ _ hd, ref_rdiv_j0 k _ _ _ hd, rem]
    split <;> rfl
def quot (a d : Int) : Int := if d < 0 then rdiv (wrap64 (-a)) (wrap64 (-d)) else rdiv a d
theorem quot_f (k : Nat) (a d : Int) : mapmakerref12_quotient.f (k + 1) a d = some (quot a d) := by
  rw [mapmakerref12_quotient.f, quot, ref_rdiv_f, ref_rdiv_f]
  split <;> rfl
theorem wrap_add (x k : Int) : wrap64 (x + 18446744073709551616 * k) = wrap64 x := by unfold wrap64; omega
theorem wrap_ex (x : Int) : ∃ k, wrap64 x = x + 18446744073709551616 * k := ⟨-((x + 9223372036854775808) / 18446744073709551616), by unfold wrap64; omega⟩
theorem ratio_quot (n m d : Int) : quot (wrap64 (n * m)) d = ratio n m d := by
  rw [quot, ratio]
  obtain ⟨k1, h1⟩ := wrap_ex (-n)
  obtain ⟨k2, h2⟩ := wrap_ex (n * m)
  have h : wrap64 (-wrap64 (n * m)) = wrap64 (wrap64 (-n) * m) := by
    rw [h1, h2, Int.add_mul, Int.neg_mul, Int.mul_assoc, wrap_add]
    have := wrap_add (-(n * m)) (-k2)
    rw [← this]
    congr 1
    omega
  rw [h]
theorem ref_less_f (p q : S37) : mapmakerref08_Less.f p.f0 p.f1 q.f0 q.f1 = some (less p q) := by
  rw [mapmakerref08_Less.f, less]
  by_cases h1 : p.f0 < q.f0
  · rw [if_pos h1, if_neg (by omega), decide_eq_true h1]
  · rw [if_neg h1, decide_eq_false h1]
    split <;> rfl
abbrev hs (b0 b1 b2 b3 : Int) (s : Nat) : Half := clip_hs b0 b1 b2 b3 s
theorem ref_in_f (b0 b1 b2 b3 : Int) (s : Nat) (hs4 : s < 4) (p : S37) : mapmakerref12_in.f p.f0 p.f1 b0 b1 b2 b3 (s : Int) = some (has (hs b0 b1 b2 b3 s) p) := by
  have h : s = 0 ∨ s = 1 ∨ s = 2 ∨ s = 3 := by omega
  rcases h with rfl | rfl | rfl | rfl <;> simp [mapmakerref12_in.f, has, hs, clip_hs]
theorem ref_bord_one (k : Nat) (b0 b1 b2 b3 : Int) (s : Nat) (hs4 : s < 4) (a c : S37) :
    mapmakerref12_border.one (k + 1) (s : Int) b0 b1 b2 b3 a.f0 a.f1 c.f0 c.f1 = some ((bord1 (hs b0 b1 b2 b3 s) a c).f0, (bord1 (hs b0 b1 b2 b3 s) a c).f1) := by
  have h : s = 0 ∨ s = 1 ∨ s = 2 ∨ s = 3 := by omega
  rcases h with rfl | rfl | rfl | rfl <;> simp [mapmakerref12_border.one, bord1, hs, clip_hs, quot_f, ratio_quot]
theorem ref_bord_f (k : Nat) (b0 b1 b2 b3 : Int) (s : Nat) (hs4 : s < 4) (p q : S37) :
    mapmakerref12_border.f (k + 1) p.f0 p.f1 q.f0 q.f1 b0 b1 b2 b3 (s : Int) = some ((bord (hs b0 b1 b2 b3 s) p q).f0, (bord (hs b0 b1 b2 b3 s) p q).f1) := by
  rw [mapmakerref12_border.f, ref_less_f, Option.bind_some, bord]
  cases less q p
  · exact ref_bord_one k b0 b1 b2 b3 s hs4 p q
  · exact ref_bord_one k b0 b1 b2 b3 s hs4 q p

theorem ref_area_l0 (l : List S37) (hl : l.length ≤ 1099511627776) : ∀ (n i : Nat) (s : Int), i + n = l.length → Ev (fun k => mapmakerref12_Area2.l0 k l s (i : Int)) (areaN l n i s) := by
  intro n
  induction n with
  | zero =>
    intro i s h
    refine Ev.step (f := fun _ => some s) (fun k => ?_) (Ev.now _)
    rw [mapmakerref12_Area2.l0, if_neg (by omega)]
  | succ n ih =>
    intro i s h
    have hi : i < l.length := by omega
    have hm : (i + 1) % l.length < l.length := Nat.mod_lt _ (by omega)
    have e : ∀ x y : Int, wrap64 (wrap64 (s + x) - y) = wrap64 (s + wrap64 (x - y)) := fun x y => by unfold wrap64; omega
    refine Ev.step (fun k => ?_) (ih (i + 1) (wrap64 (s + wrap64 (wrap64 ((rd_T37 l (i : Int)).f0 * (nxt l i).f1) - wrap64 ((rd_T37 l (i : Int)).f1 * (nxt l i).f0)))) (by omega))
    rw [mapmakerref12_Area2.l0, area_idx l i hi hl, if_pos (by omega), if_pos (by omega), if_neg (by omega), if_pos (by omega), if_pos (by omega), w_suc hi (by omega), e]
    rfl
theorem ref_area_ev (l : List S37) (hl : l.length ≤ 1099511627776) : Ev (fun k => mapmakerref12_Area2.f k l) (area l) := ref_area_l0 l hl l.length 0 0 (by omega)
theorem ref_check_f (b0 b1 b2 b3 : Int) : mapmakerref08_Check.f b0 b1 b2 b3 = some (if goodB b0 b1 b2 b3 = true then 0 else 2) := by
  have h : mapmakerref08_Good.f b0 b1 b2 b3 = some (goodB b0 b1 b2 b3) := by
    rw [mapmakerref08_Good.f, goodB]
    repeat' split
    all_goals simp [*]
  rw [mapmakerref08_Check.f, h, Option.bind_some]
  split <;> rfl
theorem ref_valid_f (p : S37) : mapmakerref08_Valid.f p.f0 p.f1 = some (validP p) := by
  rw [mapmakerref08_Valid.f, validP]
  split
  · split
    · split <;> simp [*]
    · simp [*]
  · simp [*]
theorem ref_all_l0 (l : List S37) (hl : l.length ≤ 1099511627776) : ∀ (n i : Nat), i + n = l.length → Ev (fun k => mapmakerref08_All.l0 k l (i : Int)) ((l.drop i).all validP) := by
  intro n
  induction n with
  | zero =>
    intro i h
    refine Ev.step (f := fun _ => some true) (fun k => ?_) (by rw [List.drop_eq_nil_of_le (by omega)]; exact Ev.now _)
    rw [mapmakerref08_All.l0, if_neg (by omega)]
  | succ n ih =>
    intro i h
    have hi : i < l.length := by omega
    rw [List.drop_eq_getElem_cons hi, List.all_cons]
    by_cases hv : validP l[i] = true
    · rw [hv, Bool.true_and]
      refine Ev.step (fun k => ?_) (ih (i + 1) (by omega))
      rw [mapmakerref08_All.l0, if_pos (by omega), if_pos (by omega), ref_valid_f, Option.bind_some, rd_get l i hi, if_pos hv, w_suc hi (by omega)]
    · have hv' : validP l[i] = false := by simpa using hv
      refine Ev.step (f := fun _ => some false) (fun k => ?_) (by rw [hv']; exact Ev.now _)
      rw [mapmakerref08_All.l0, if_pos (by omega), if_pos (by omega), ref_valid_f, Option.bind_some, rd_get l i hi, if_neg hv]
theorem ref_all_ev (l : List S37) (hl : l.length ≤ 1099511627776) : Ev (fun k => mapmakerref08_All.f k l) (l.all validP) := ref_all_l0 l hl l.length 0 (by omega)
end Go.Proofs.Ytbgabhdhheplgaa.Pl
