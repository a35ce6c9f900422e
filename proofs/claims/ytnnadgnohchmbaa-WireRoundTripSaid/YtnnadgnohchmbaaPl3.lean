/-
  What the reference reads.
-/
import Derived.Test.YtnnadgnohchmbaaPl2
namespace Go.Proofs.Ytnnadgnohchmbaa.Pl
open Go.RowKit Go.Proofs.Ytnnadgnohchmbaa.PALL Go.Proofs.YtnnadgnohchmbaaW.PrintWords Go.Proofs.YtnnadgnohchmbaaW.PrintLast Go.Proofs.YtnnadgnohchmbaaW.PrintMore
set_option linter.unusedVariables false
set_option linter.unusedSimpArgs false

theorem ext_size (s : ByteArray) (p : Nat) (hp : p ≤ s.size) : (s.extract p s.size).size = s.size - p := by simp
theorem ext_bt (s : ByteArray) (p i : Nat) (h : p + i < s.size) : bt (s.extract p s.size) (i : Int) = bt s ((p + i : Nat) : Int) := by
  have h1 : i < (s.extract p s.size).size := by simp; omega
  simp only [bt, Int.toNat_natCast]
  rw [dif_pos h1, dif_pos h]
  congr 2
  exact ByteArray.getElem_extract h1

/-- All bytes ahead of place i go on. -/
def On (s : ByteArray) (p i : Nat) : Prop := ∀ m, m < i → p + m < s.size ∧ 128 ≤ bt s ((p + m : Nat) : Int)
theorem on_succ {s : ByteArray} {p i : Nat} (h : On s p i) (h1 : p + i < s.size) (h2 : 128 ≤ bt s ((p + i : Nat) : Int)) : On s p (i + 1) := by
  intro m hm
  rcases Nat.lt_or_ge m i with h3 | h3
  · exact h m h3
  · obtain rfl : m = i := by omega
    exact ⟨h1, h2⟩
theorem lift_bad {s : ByteArray} {p : Nat} {c : Int} (hc : c ≠ 0) : ∀ i j, j + i = 10 → On s p i → rdp s j (p + i) = (0, c, 0) → rdp s 10 p = (0, c, 0) := by
  intro i
  induction i with
  | zero => intro j hj _ h; obtain rfl : j = 10 := by omega
            exact h
  | succ i ih =>
    intro j hj hon h
    obtain ⟨h1, h2⟩ := hon i (by omega)
    exact ih (j + 1) (by omega) (fun m hm => hon m (by omega)) (rdp_bads (by omega) h2 h hc)
theorem lift_good {s : ByteArray} {p : Nat} : ∀ i j n v, j + i = 10 → On s p i → rdp s j (p + i) = (v, 0, n) → ∃ v0, rdp s 10 p = (v0, 0, n + i) := by
  intro i
  induction i with
  | zero => intro j n v hj _ h; obtain rfl : j = 10 := by omega
            exact ⟨v, h⟩
  | succ i ih =>
    intro j n v hj hon h
    obtain ⟨h1, h2⟩ := hon i (by omega)
    obtain ⟨v0, h0⟩ := ih (j + 1) (n + 1) _ (by omega) (fun m hm => hon m (by omega)) (rdp_more (by omega) h2 h)
    exact ⟨v0, by rw [h0, show n + 1 + i = n + (i + 1) by omega]⟩
theorem pow_le : ∀ j : Nat, j ≤ 10 → (2 : Int) * 128 ^ (j - 1) ≤ 18446744073709551616 := by decide
theorem acc_step (v c : Int) (hv : 0 ≤ v) (hc : 128 ≤ c ∧ c ≤ 255) (h : c - 128 + 128 * v < 18446744073709551616) : IntKind.u64.wrap (IntKind.u64.wrap (v * 128) + Int.tmod (IntKind.u64.wrap c) 128) = c - 128 + 128 * v := by
  simp only [IntKind.wrap_u64]
  rw [Int.tmod_eq_emod_of_nonneg (by omega)]
  omega
theorem acc_start (c : Int) (hc : 0 ≤ c ∧ c < 128) : IntKind.u64.wrap (IntKind.u64.wrap (0 * 128) + Int.tmod (IntKind.u64.wrap c) 128) = c := by
  simp only [IntKind.wrap_u64]
  rw [Int.tmod_eq_emod_of_nonneg (by omega)]
  omega
theorem wrap_pred (i : Nat) (h : i ≤ 281474976702464) : wrap64 (((i + 1 : Nat) : Int) - 1) = (i : Int) := by unfold wrap64; omega
theorem wrap_neg : wrap64 (((0 : Nat) : Int) - 1) = -1 := by unfold wrap64; omega
/-- The loop that goes down: from behind place i. -/
theorem down (s : ByteArray) (p q : Nat) (hq : q ≤ 10) (hp : p ≤ s.size) : ∀ i j n v k, j + i = 10 → On s p i → i + 1 ≤ k → rdp s j (p + i) = (v, 0, n) →
    mapmakerref02_next.l1 k (s.extract p s.size) q v ((i : Int) - 1) = some ((rdp s 10 p).1, ((q + 1 : Nat) : Int), 0) := by
  intro i
  induction i with
  | zero =>
    intro j n v k hj _ hk h
    obtain ⟨k, rfl⟩ : ∃ i, k = i + 1 := ⟨k - 1, by omega⟩
    obtain rfl : j = 10 := by omega
    rw [Nat.add_zero] at h
    rw [mapmakerref02_next.l1, if_neg (show ¬ ((0 : Nat) : Int) - 1 ≥ 0 by omega), wrap_1 q (by omega), h]
  | succ i ih =>
    intro j n v k hj hon hk h
    obtain ⟨k, rfl⟩ : ∃ i, k = i + 1 := ⟨k - 1, by omega⟩
    obtain ⟨h1, h2⟩ := hon i (by omega)
    have hr := bt_range s ((p + i : Nat) : Int)
    have hm : rdp s (j + 1) (p + i) = _ := rdp_more (by omega) h2 h
    have hg := rdp_good s (j + 1) (p + i) (by rw [hm])
    rw [hm] at hg
    have hg0 := (rdp_good s j (p + (i + 1)) (by rw [h])).2.1
    rw [h] at hg0
    have hle := pow_le (j + 1) (by omega)
    simp only [Nat.add_sub_cancel] at hg hle
    have e1 : ((i + 1 : Nat) : Int) - 1 = (i : Int) := by omega
    have hlt := Int.lt_of_lt_of_le hg.2.2.1 hle
    have ha := acc_step v (bt s ((p + i : Nat) : Int)) hg0 ⟨h2, hr.2⟩ hlt
    have e2 : wrap64 ((i : Int) - 1) = (i : Int) - 1 := by clear hr hg hlt ha h2 hon; unfold wrap64; omega
    rw [e1, mapmakerref02_next.l1, if_pos (show (i : Int) ≥ 0 by omega), if_pos (show (0 : Int) ≤ (i : Int) by omega), if_pos (show (i : Int) < ((s.extract p s.size).size : Int) by rw [ext_size s p hp]; omega), ext_bt s p i h1, ha, e2]
    exact ih (j + 1) (n + 1) _ k (by omega) (fun m hm => hon m (by omega)) (by omega) hm
/-- The reference's answer. -/
def refAns (s : ByteArray) (p : Nat) : Option (Int × Int × Int) := some ((rdp s 10 p).1, ((rdp s 10 p).2.2 : Int), (rdp s 10 p).2.1)
theorem refAns_bad {s : ByteArray} {p : Nat} {c : Int} (h : rdp s 10 p = (0, c, 0)) : some (0, 0, c) = refAns s p := by rw [refAns, h]; rfl
/-- From the byte at which the loop stops. -/
theorem stop_ (s : ByteArray) (p i j k : Nat) (hp : p ≤ s.size) (hj : j + 1 + i = 10) (hon : On s p i) (h1 : p + i < s.size) (h2 : ¬ 128 ≤ bt s ((p + i : Nat) : Int)) (hk : i + 3 ≤ k)
    (h3 : ¬ ((j ≠ 9 ∧ bt s ((p + i : Nat) : Int) = 0) ∨ (j = 0 ∧ 1 < bt s ((p + i : Nat) : Int)))) : mapmakerref02_next.l1 k (s.extract p s.size) i 0 i = refAns s p := by
  obtain ⟨k, rfl⟩ : ∃ i, k = i + 1 := ⟨k - 1, by omega⟩
  have hr := bt_range s ((p + i : Nat) : Int)
  have hl : rdp s (j + 1) (p + i) = _ := rdp_last (by omega) h2 h3
  have e2 : wrap64 ((i : Int) - 1) = (i : Int) - 1 := by clear hr hl h2 h3 hon; unfold wrap64; omega
  obtain ⟨v0, h0⟩ := lift_good i (j + 1) 1 _ hj hon hl
  rw [mapmakerref02_next.l1, if_pos (show (i : Int) ≥ 0 by omega), if_pos (show (0 : Int) ≤ (i : Int) by omega), if_pos (show (i : Int) < ((s.extract p s.size).size : Int) by rw [ext_size s p hp]; omega), ext_bt s p i h1, acc_start _ ⟨hr.1, by omega⟩, e2]
  rw [down s p i (by omega) hp i (j + 1) 1 _ k hj hon (by omega) hl, refAns, h0, Nat.add_comm 1 i]
theorem j2_true (k : Nat) (x : ByteArray) (i : Int) : mapmakerref02_next.j2 (k + 1) x i true = some (0, 0, 4) := by rw [mapmakerref02_next.j2, if_pos rfl]
theorem j2_false (k : Nat) (x : ByteArray) (i : Int) : mapmakerref02_next.j2 (k + 1) x i false = mapmakerref02_next.l1 k x i 0 i := by rw [mapmakerref02_next.j2, if_neg (by decide)]
theorem mid (s : ByteArray) (p i j k : Nat) (hp : p ≤ s.size) (hj : j + 1 + i = 10) (hon : On s p i) (h1 : p + i < s.size) (h2 : ¬ 128 ≤ bt s ((p + i : Nat) : Int)) (hk : i + 5 ≤ k) : mapmakerref02_next.j1 k (s.extract p s.size) i = refAns s p := by
  obtain ⟨k, rfl⟩ : ∃ i, k = i + 1 := ⟨k - 1, by omega⟩
  obtain ⟨k, rfl⟩ : ∃ i, k = i + 1 := ⟨k - 1, by omega⟩
  have hsz : ((s.extract p s.size).size : Int) = (s.size : Int) - p := by rw [ext_size s p hp]; omega
  have hr := bt_range s ((p + i : Nat) : Int)
  have hbad : ((j ≠ 9 ∧ bt s ((p + i : Nat) : Int) = 0) ∨ (j = 0 ∧ 1 < bt s ((p + i : Nat) : Int))) → some (0, 0, 4) = refAns s p := fun h3 => refAns_bad (lift_bad (by decide) i (j + 1) hj hon (rdp_form (by omega) h2 h3))
  have hgood := stop_ s p i j k hp hj hon h1 h2 (by omega)
  have hb := ext_bt s p i h1
  rw [mapmakerref02_next.j1, if_neg (show ¬ (i : Int) = 10 by omega), if_neg (show ¬ (i : Int) = ((s.extract p s.size).size : Int) by omega)]
  by_cases c9 : (i : Int) = 9
  · obtain rfl : i = 9 := by omega
    rw [if_pos c9, if_pos (show (9 : Int) < ((s.extract p s.size).size : Int) by omega)]
    have hb' : bt (s.extract p s.size) 9 = bt s ((p + 9 : Nat) : Int) := hb
    rw [hb']
    by_cases c7 : bt s ((p + 9 : Nat) : Int) > 1
    · rw [if_pos c7, j2_true]; exact hbad (.inr ⟨by omega, c7⟩)
    · rw [if_neg c7, if_pos (show ((9 : Nat) : Int) > 0 by decide), if_pos (show (0 : Int) ≤ ((9 : Nat) : Int) by decide), if_pos (show ((9 : Nat) : Int) < ((s.extract p s.size).size : Int) by omega), hb]
      by_cases c5 : bt s ((p + 9 : Nat) : Int) = 0
      · rw [show (bt s ((p + 9 : Nat) : Int) == 0) = true from beq_iff_eq.2 c5, j2_true]; exact hbad (.inl ⟨by omega, c5⟩)
      · rw [show (bt s ((p + 9 : Nat) : Int) == 0) = false from beq_eq_false_iff_ne.2 c5, j2_false]; exact hgood (by omega)
  · rw [if_neg c9]
    by_cases c4 : (i : Int) > 0
    · rw [if_pos c4, if_pos (show (0 : Int) ≤ (i : Int) by omega), if_pos (show (i : Int) < ((s.extract p s.size).size : Int) by omega), hb]
      by_cases c5 : bt s ((p + i : Nat) : Int) = 0
      · rw [show (bt s ((p + i : Nat) : Int) == 0) = true from beq_iff_eq.2 c5, j2_true]; exact hbad (.inl ⟨by omega, c5⟩)
      · rw [show (bt s ((p + i : Nat) : Int) == 0) = false from beq_eq_false_iff_ne.2 c5, j2_false]; exact hgood (by omega)
    · rw [if_neg c4, j2_false]; exact hgood (by omega)
theorem up (s : ByteArray) (p : Nat) (hp : p ≤ s.size) : ∀ j i k, j + i = 10 → On s p i → j + 20 ≤ k → mapmakerref02_next.l0 k (s.extract p s.size) i = refAns s p := by
  intro j
  induction j with
  | zero =>
    intro i k hj hon hk
    obtain ⟨k, rfl⟩ : ∃ i, k = i + 1 := ⟨k - 1, by omega⟩
    obtain ⟨k, rfl⟩ : ∃ i, k = i + 1 := ⟨k - 1, by omega⟩
    obtain rfl : i = 10 := by omega
    rw [mapmakerref02_next.l0, if_neg (show ¬ ((10 : Nat) : Int) < 10 by decide), mapmakerref02_next.j1, if_pos (show ((10 : Nat) : Int) = 10 from rfl)]
    exact refAns_bad (lift_bad (by decide) 10 0 rfl hon rfl)
  | succ j ih =>
    intro i k hj hon hk
    obtain ⟨k, rfl⟩ : ∃ i, k = i + 1 := ⟨k - 1, by omega⟩
    have hsz : ((s.extract p s.size).size : Int) = (s.size : Int) - p := by rw [ext_size s p hp]; omega
    rw [mapmakerref02_next.l0, if_pos (show (i : Int) < 10 by omega)]
    by_cases c1 : p + i < s.size
    · rw [if_pos (show (i : Int) < ((s.extract p s.size).size : Int) by omega), if_pos (show (0 : Int) ≤ (i : Int) by omega), ext_bt s p i c1]
      by_cases c2 : 128 ≤ bt s ((p + i : Nat) : Int)
      · rw [if_pos (show bt s ((p + i : Nat) : Int) ≥ 128 from c2), wrap_1 i (by omega)]
        exact ih (i + 1) k (by omega) (on_succ hon c1 c2) (by omega)
      · rw [if_neg (show ¬ bt s ((p + i : Nat) : Int) ≥ 128 from c2)]
        exact mid s p i j k hp hj hon c1 c2 (by omega)
    · obtain ⟨k, rfl⟩ : ∃ i, k = i + 1 := ⟨k - 1, by omega⟩
      have hps : s.size = p + i := by
        rcases Nat.eq_zero_or_pos i with rfl | hi
        · omega
        · have := (hon (i - 1) (by omega)).1
          omega
      rw [if_neg (show ¬ (i : Int) < ((s.extract p s.size).size : Int) by omega), mapmakerref02_next.j1, if_neg (show ¬ (i : Int) = 10 by omega), if_pos (show (i : Int) = ((s.extract p s.size).size : Int) by omega)]
      exact refAns_bad (lift_bad (by decide) i (j + 1) hj hon (rdp_end (by omega)))
theorem ref_next (s : ByteArray) (p k : Nat) (e : Int) (hp : p ≤ s.size) (hk : 30 ≤ k) : mapmakerref02_next.f k s p e = some ((rdp s 10 p).1, ((rdp s 10 p).2.2 : Int), (rdp s 10 p).2.1) := by
  rw [mapmakerref02_next.f, if_pos (show (0 : Int) ≤ (p : Int) by omega), if_pos (show (p : Int) ≤ (s.size : Int) by omega), Int.toNat_natCast]
  exact up s p hp 10 0 k rfl (fun m hm => by omega) (by omega)
end Go.Proofs.Ytnnadgnohchmbaa.Pl
