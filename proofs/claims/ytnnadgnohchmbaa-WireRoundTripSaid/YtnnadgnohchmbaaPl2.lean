/-
  What both readers read.
-/
import Derived.Test.YtnnadgnohchmbaaPALLx3
import Derived.Test.YtnnadgnohchmbaaPALLx8
import Derived.Test.YtnnadgnohchmbaaPl1
namespace Go.Proofs.Ytnnadgnohchmbaa.Pl
open Go.RowKit Go.Proofs.Ytnnadgnohchmbaa.PALL Go.Proofs.YtnnadgnohchmbaaW.PrintWords Go.Proofs.YtnnadgnohchmbaaW.PrintLast Go.Proofs.YtnnadgnohchmbaaW.PrintMore
set_option linter.unusedVariables false
set_option linter.unusedSimpArgs false

/-- The number at p (j bytes at most are left to it): its value, the error, the number of its bytes. -/
def rdp (s : ByteArray) : Nat → Nat → Int × Int × Nat
  | 0, _ => (0, 4, 0)
  | j + 1, p => if s.size ≤ p then (0, 3, 0) else if 128 ≤ bt s p then (if (rdp s j (p + 1)).2.1 = 0 then (bt s p - 128 + 128 * (rdp s j (p + 1)).1, 0, (rdp s j (p + 1)).2.2 + 1) else (0, (rdp s j (p + 1)).2.1, 0))
    else if (j ≠ 9 ∧ bt s p = 0) ∨ (j = 0 ∧ 1 < bt s p) then (0, 4, 0) else (bt s p, 0, 1)

theorem rdp_bad (s : ByteArray) : ∀ j p, (rdp s j p).2.1 ≠ 0 → (rdp s j p).1 = 0 ∧ (rdp s j p).2.2 = 0 ∧ ((rdp s j p).2.1 = 3 ∨ (rdp s j p).2.1 = 4) := by
  intro j
  induction j with
  | zero => intro p _; simp [rdp]
  | succ j ih =>
    intro p h
    rw [rdp] at h ⊢
    split
    · simp
    · rename_i h1
      rw [if_neg h1] at h
      split
      · rename_i h2
        rw [if_pos h2] at h
        split
        · rename_i h3; rw [if_pos h3] at h; simp at h
        · rename_i h3; exact ⟨rfl, rfl, (ih _ h3).2.2⟩
      · rename_i h2
        rw [if_neg h2] at h
        split
        · simp
        · rename_i h3; rw [if_neg h3] at h; simp at h
theorem rdp_good (s : ByteArray) : ∀ j p, (rdp s j p).2.1 = 0 → j ≠ 0 ∧ 0 ≤ (rdp s j p).1 ∧ (rdp s j p).1 < 2 * 128 ^ (j - 1) ∧ 1 ≤ (rdp s j p).2.2 ∧ p + (rdp s j p).2.2 ≤ s.size := by
  intro j
  induction j with
  | zero => intro p h; simp [rdp] at h
  | succ j ih =>
    intro p h
    have hr := bt_range s p
    rw [rdp] at h ⊢
    split
    · rename_i h1; rw [if_pos h1] at h; simp at h
    · rename_i h1
      rw [if_neg h1] at h
      split
      · rename_i h2
        rw [if_pos h2] at h
        split
        · rename_i h3
          obtain ⟨g0, g1, g2, g3, g4⟩ := ih _ h3
          obtain ⟨j, rfl⟩ : ∃ i, j = i + 1 := ⟨j - 1, by omega⟩
          simp only [Nat.add_sub_cancel] at g2 ⊢
          rw [Int.pow_succ]
          refine ⟨by omega, by omega, by omega, by omega, by omega⟩
        · rename_i h3; rw [if_neg h3] at h; exact absurd h h3
      · rename_i h2
        rw [if_neg h2] at h
        split
        · rename_i h3; rw [if_pos h3] at h; simp at h
        · rename_i h3
          refine ⟨by omega, hr.1, ?_, by simp, by simp; omega⟩
          rcases Nat.eq_zero_or_pos j with rfl | hj
          · simp at h3 ⊢; omega
          · obtain ⟨i, rfl⟩ : ∃ i, j = i + 1 := ⟨j - 1, by omega⟩
            simp only [Nat.add_sub_cancel]
            rw [Int.pow_succ]
            have : (0 : Int) < 128 ^ i := Int.pow_pos (by omega)
            omega

set_option maxRecDepth 100000 in
theorem and127 : ∀ x : Fin 256, Go.bits .and .u8 ((x.val : Nat) : Int) 127 = ((x.val % 128 : Nat) : Int) := by decide
theorem and127_bt (s : ByteArray) (p : Int) : Go.bits .and .u8 (bt s p) 127 = bt s p % 128 := by
  have hr := bt_range s p
  obtain ⟨n, hn⟩ := Int.eq_ofNat_of_zero_le hr.1
  have h := and127 ⟨n, by omega⟩
  rw [hn]
  simp only at h
  rw [h]
  omega
def pw (i : Nat) : Nat := 2 ^ (7 * i)
theorem pw_zero : pw 0 = 1 := rfl
theorem pw_succ (i : Nat) : pw (i + 1) = 128 * pw i := by unfold pw; rw [Nat.mul_add, Nat.pow_add]; omega
theorem pw_8 (i : Nat) (h : i ≤ 8) : pw i ≤ 72057594037927936 := Nat.le_trans (Nat.pow_le_pow_right (by decide) (show 7 * i ≤ 56 by omega)) (by decide)
theorem pw_9 : pw 9 = 9223372036854775808 := by unfold pw; rfl
theorem pw_pos (i : Nat) : 0 < pw i := Nat.two_pow_pos _
theorem or_step (x c i : Nat) (hi : i ≤ 9) (hx : x < pw i) (hc : pw i * c < 18446744073709551616) :
    Go.bits .or .u64 (x : Int) (shl .u64 (IntKind.u64.wrap (c : Int)) (wrap64 (7 * (i : Int)))) = ((x + pw i * c : Nat) : Int) := by
  have hp : 0 < pw i := pw_pos i
  have hc' : c < 18446744073709551616 := by
    have := Nat.le_mul_of_pos_left c hp
    omega
  have h1 : wrap64 (7 * (i : Int)) = ((7 * i : Nat) : Int) := by unfold wrap64; omega
  have e : ((c : Int) % 18446744073709551616) = (c : Int) := by omega
  have h2 : shl .u64 (IntKind.u64.wrap (c : Int)) (wrap64 (7 * (i : Int))) = ((pw i * c : Nat) : Int) := by
    have hk : min (7 * i) IntKind.u64.bits = 7 * i := Nat.min_eq_left (by simp [IntKind.bits]; omega)
    have hm : (c : Int) * 2 ^ (7 * i) = ((pw i * c : Nat) : Int) := by unfold pw; push_cast; rw [Int.mul_comm]
    rw [h1, shl, IntKind.wrap_u64 (c : Int), Int.toNat_natCast, hk, IntKind.wrap_u64, e, hm]
    generalize pw i * c = z at hc
    omega
  have hx' : x < 18446744073709551616 := by
    rcases Nat.lt_or_ge i 9 with h9 | h9
    · have := pw_8 i (by omega); omega
    · have : i = 9 := by omega
      subst this
      rw [pw_9] at hx; omega
  rw [h2, bits_or_u64_nat x _ hx' hc, Nat.or_comm]
  have := Nat.two_pow_add_eq_or_of_lt (i := 7 * i) hx c
  unfold pw
  rw [← this, Nat.add_comm]

theorem rdp_end {s : ByteArray} {j p : Nat} (h : s.size ≤ p) : rdp s (j + 1) p = (0, 3, 0) := by rw [rdp, if_pos h]
theorem rdp_more {s : ByteArray} {j p n : Nat} {v : Int} (h : ¬ s.size ≤ p) (h2 : 128 ≤ bt s p) (h3 : rdp s j (p + 1) = (v, 0, n)) : rdp s (j + 1) p = (bt s p - 128 + 128 * v, 0, n + 1) := by rw [rdp, if_neg h, if_pos h2, h3, if_pos rfl]
theorem rdp_bads {s : ByteArray} {j p n : Nat} {v c : Int} (h : ¬ s.size ≤ p) (h2 : 128 ≤ bt s p) (h3 : rdp s j (p + 1) = (v, c, n)) (hc : c ≠ 0) : rdp s (j + 1) p = (0, c, 0) := by rw [rdp, if_neg h, if_pos h2, h3, if_neg hc]
theorem rdp_form {s : ByteArray} {j p : Nat} (h : ¬ s.size ≤ p) (h2 : ¬ 128 ≤ bt s p) (h3 : (j ≠ 9 ∧ bt s p = 0) ∨ (j = 0 ∧ 1 < bt s p)) : rdp s (j + 1) p = (0, 4, 0) := by rw [rdp, if_neg h, if_neg h2, if_pos h3]
theorem rdp_last {s : ByteArray} {j p : Nat} (h : ¬ s.size ≤ p) (h2 : ¬ 128 ≤ bt s p) (h3 : ¬ ((j ≠ 9 ∧ bt s p = 0) ∨ (j = 0 ∧ 1 < bt s p))) : rdp s (j + 1) p = (bt s p, 0, 1) := by rw [rdp, if_neg h, if_neg h2, if_neg h3]

/-- What the loop of uint tells at p. -/
def Tells (s : ByteArray) (j i p x : Nat) (e : Int) (o : Option (Int × Int × ByteArray × Int × Int)) : Prop :=
  ∀ v c n, rdp s j p = (v, c, n) → (c = 0 → o = some ((x : Int) + (pw i : Int) * v, 0, s, ((p + n : Nat) : Int), e)) ∧ (c ≠ 0 → ∃ p', o = some (0, c, s, p', e))
theorem tells_bad {s : ByteArray} {j i p x : Nat} {e c p' : Int} {o : Option (Int × Int × ByteArray × Int × Int)} (h : rdp s j p = (0, c, 0)) (hc : c ≠ 0) (ho : o = some (0, c, s, p', e)) : Tells s j i p x e o := by
  intro v c2 n h2
  rw [h] at h2
  simp only [Prod.mk.injEq] at h2
  obtain ⟨rfl, rfl, rfl⟩ := h2
  exact ⟨fun h => absurd h hc, fun _ => ⟨p', ho⟩⟩
theorem tells_good {s : ByteArray} {j i p x n : Nat} {e v y q : Int} {o : Option (Int × Int × ByteArray × Int × Int)} (h : rdp s j p = (v, 0, n)) (ho : o = some (y, 0, s, q, e)) (hy : y = (x : Int) + (pw i : Int) * v) (hq : q = ((p + n : Nat) : Int)) : Tells s j i p x e o := by
  intro v2 c2 n2 h2
  rw [h] at h2
  simp only [Prod.mk.injEq] at h2
  obtain ⟨rfl, rfl, rfl⟩ := h2
  subst hy hq
  exact ⟨fun _ => ho, fun h => absurd rfl h⟩
theorem uint_end (s : ByteArray) (e x : Int) (p k : Nat) : wire_Reader_uint.l0 (k + 1) x 10 s p e = some (0, 4, s, (p : Int), e) := by rw [wire_Reader_uint.l0, if_neg (show ¬ (10 : Int) < 10 by decide)]
theorem wrap_7 (i : Nat) (h : i ≤ 9) : 0 ≤ wrap64 (7 * (i : Int)) := by
  have : wrap64 (7 * (i : Int)) = ((7 * i : Nat) : Int) := by unfold wrap64; omega
  rw [this]; exact Int.natCast_nonneg _
theorem wrap_1 (i : Nat) (h : i ≤ 281474976702464) : wrap64 ((i : Int) + 1) = ((i + 1 : Nat) : Int) := by unfold wrap64; omega
theorem uint_loop (s : ByteArray) (e : Int) (hs : s.size ≤ 140737488351232 + 140737488351232) : ∀ (j i p x k : Nat), j + i = 10 → p ≤ s.size → j < k → (j ≠ 0 → x < pw i) →
    Tells s j i p x e (wire_Reader_uint.l0 k x (i : Int) s p e) := by
  intro j
  induction j with
  | zero =>
    intro i p x k hj hp hk _
    obtain ⟨k, rfl⟩ : ∃ i, k = i + 1 := ⟨k - 1, by omega⟩
    obtain rfl : i = 10 := by omega
    exact tells_bad (c := 4) rfl (by decide) (uint_end s e x p k)
  | succ j ih =>
    intro i p x k hj hp hk hx
    obtain ⟨k, rfl⟩ : ∃ i, k = i + 1 := ⟨k - 1, by omega⟩
    have hr := bt_range s p
    have hx := hx (by omega)
    have hi9 : i ≤ 9 := by omega
    have hji : j + i = 9 := by omega
    clear hj
    have hw := Aside0.mk (wrap_7 i hi9)
    have hw1 := Aside0.mk (wrap_1 i (by omega))
    by_cases c1 : s.size ≤ p
    · refine tells_bad (c := 3) (rdp_end c1) (by decide) (p' := p) ?_
      rw [wire_Reader_uint.l0, if_pos (show (i : Int) < 10 by omega), if_pos (show (p : Int) ≥ (s.size : Int) by omega)]
    have hp1 := Aside0.mk (wrap_1 p (by omega))
    have hL : wire_Reader_uint.l0 (k + 1) x i s p e = (if (bt s p) ≥ 128 then (wire_Reader_uint.l0 k (Go.bits .or .u64 x (shl .u64 (IntKind.u64.wrap (bt s p % 128)) (wrap64 (7 * i)))) ((i + 1 : Nat) : Int) s ((p + 1 : Nat) : Int) e) else
        (if (i : Int) > 0 then (if (bt s p) = 0 then (some (0, 4, s, ((p + 1 : Nat) : Int), e)) else (if (i : Int) = 9 then (if (bt s p) > 1 then (some (0, 4, s, ((p + 1 : Nat) : Int), e)) else (some (Go.bits .or .u64 x (shl .u64 (IntKind.u64.wrap (bt s p % 128)) (wrap64 (7 * i))), 0, s, ((p + 1 : Nat) : Int), e))) else (some (Go.bits .or .u64 x (shl .u64 (IntKind.u64.wrap (bt s p % 128)) (wrap64 (7 * i))), 0, s, ((p + 1 : Nat) : Int), e)))) else
          (if (i : Int) = 9 then (if (bt s p) > 1 then (some (0, 4, s, ((p + 1 : Nat) : Int), e)) else (some (Go.bits .or .u64 x (shl .u64 (IntKind.u64.wrap (bt s p % 128)) (wrap64 (7 * i))), 0, s, ((p + 1 : Nat) : Int), e))) else (some (Go.bits .or .u64 x (shl .u64 (IntKind.u64.wrap (bt s p % 128)) (wrap64 (7 * i))), 0, s, ((p + 1 : Nat) : Int), e))))) := by
      rw [wire_Reader_uint.l0, if_pos (show (i : Int) < 10 by omega), if_neg (show ¬ (p : Int) ≥ (s.size : Int) by omega), if_pos (show (0 : Int) ≤ (p : Int) by omega), if_pos (show (p : Int) < (s.size : Int) by omega), if_pos hw.out, and127_bt, hw1.out, hp1.out]
    rw [hL]
    clear hL
    obtain ⟨c, hc⟩ := Int.eq_ofNat_of_zero_le hr.1
    by_cases c2 : 128 ≤ bt s p
    · rw [if_pos (show bt s p ≥ 128 from c2)]
      rcases Nat.eq_zero_or_pos j with rfl | hj0
      · have hi' : i = 9 := by omega
        subst hi'
        obtain ⟨k, rfl⟩ : ∃ i, k = i + 1 := ⟨k - 1, by omega⟩
        exact tells_bad (c := 4) (rdp_bads c1 c2 (v := 0) (n := 0) rfl (by decide)) (by decide) (uint_end s e _ (p + 1) k)
      · have hp8 := pw_8 i (by omega)
        have hor := or_step x (c - 128) i hi9 hx (by
          have := Nat.mul_le_mul hp8 (show c - 128 ≤ 127 by omega)
          omega)
        rw [show bt s p % 128 = ((c - 128 : Nat) : Int) by omega, hor]
        have hlt : x + pw i * (c - 128) < pw (i + 1) := by
          rw [pw_succ]
          have : pw i * (c - 128) ≤ pw i * 127 := Nat.mul_le_mul_left _ (by omega)
          omega
        have q := ih (i + 1) (p + 1) (x + pw i * (c - 128)) k (by omega) (by omega) (by omega) (fun _ => hlt)
        obtain ⟨v, d, n, hd⟩ : ∃ v d n, rdp s j (p + 1) = (v, d, n) := ⟨_, _, _, rfl⟩
        obtain ⟨q1, q2⟩ := q v d n hd
        by_cases c3 : d = 0
        · subst c3
          refine tells_good (rdp_more c1 c2 hd) (q1 rfl) ?_ ?_
          · rw [pw_succ]
            have e1 : bt s p - 128 = ((c - 128 : Nat) : Int) := by omega
            rw [e1]
            push_cast
            generalize (pw i : Int) = A
            generalize ((c - 128 : Nat) : Int) = C
            rw [Int.mul_add, Int.mul_comm 128 A, Int.mul_assoc, Int.add_assoc]
          · push_cast; omega
        · obtain ⟨p', h'⟩ := q2 c3
          exact tells_bad (rdp_bads c1 c2 hd c3) c3 h'
    · rw [if_neg (show ¬ bt s p ≥ 128 from c2)]
      have hval : ¬ ((j ≠ 9 ∧ bt s p = 0) ∨ (j = 0 ∧ 1 < bt s p)) → Go.bits .or .u64 (x : Int) (shl .u64 (IntKind.u64.wrap (bt s p % 128)) (wrap64 (7 * (i : Int)))) = (x : Int) + (pw i : Int) * bt s p := by
        intro hn
        rw [show bt s p % 128 = (c : Int) by omega, or_step x c i hi9 hx, hc]
        · push_cast; rfl
        · rcases Nat.lt_or_ge i 9 with h9 | h9
          · have := Nat.mul_le_mul (pw_8 i (by omega)) (show c ≤ 127 by omega)
            omega
          · have : i = 9 := by omega
            subst this
            have := Nat.mul_le_mul_left (pw 9) (show c ≤ 1 by omega)
            rw [pw_9] at this ⊢
            omega
      have hgood : ¬ ((j ≠ 9 ∧ bt s p = 0) ∨ (j = 0 ∧ 1 < bt s p)) → Tells s (j + 1) i p x e (some (Go.bits .or .u64 (x : Int) (shl .u64 (IntKind.u64.wrap (bt s p % 128)) (wrap64 (7 * (i : Int)))), 0, s, ((p + 1 : Nat) : Int), e)) :=
        fun hn => tells_good (rdp_last c1 c2 hn) rfl (hval hn) rfl
      have hbad : ((j ≠ 9 ∧ bt s p = 0) ∨ (j = 0 ∧ 1 < bt s p)) → Tells s (j + 1) i p x e (some (0, 4, s, ((p + 1 : Nat) : Int), e)) :=
        fun hn => tells_bad (rdp_form c1 c2 hn) (by decide) rfl
      by_cases c4 : (i : Int) > 0
      · rw [if_pos c4]
        by_cases c5 : bt s p = 0
        · rw [if_pos c5]; exact hbad (.inl ⟨by omega, c5⟩)
        · rw [if_neg c5]
          by_cases c6 : (i : Int) = 9
          · rw [if_pos c6]
            by_cases c7 : bt s p > 1
            · rw [if_pos c7]; exact hbad (.inr ⟨by omega, c7⟩)
            · rw [if_neg c7]; exact hgood (by omega)
          · rw [if_neg c6]; exact hgood (by omega)
      · rw [if_neg c4, if_neg (show ¬ (i : Int) = 9 by omega)]; exact hgood (by omega)

theorem wire_uint (s : ByteArray) (p k : Nat) (e : Int) (hs : s.size ≤ 140737488351232 + 140737488351232) (hp : p ≤ s.size) (hk : 11 ≤ k) :
    ∃ p', wire_Reader_uint.f k s p e = some ((rdp s 10 p).1, (rdp s 10 p).2.1, s, p', e) ∧ ((rdp s 10 p).2.1 = 0 → p' = ((p + (rdp s 10 p).2.2 : Nat) : Int)) := by
  obtain ⟨q1, q2⟩ := uint_loop s e hs 10 0 p 0 k (by omega) hp (by omega) (fun _ => by decide) _ _ _ rfl
  rw [wire_Reader_uint.f]
  by_cases h : (rdp s 10 p).2.1 = 0
  · refine ⟨_, ?_, fun _ => rfl⟩
    have := q1 h
    rw [pw_zero] at this
    simp only [Int.natCast_zero, Int.zero_add, Int.natCast_one, Int.one_mul] at this
    rw [h]
    exact this
  · obtain ⟨p', h'⟩ := q2 h
    refine ⟨p', ?_, fun h2 => absurd h2 h⟩
    rw [(rdp_bad s 10 p h).1]
    exact h'
end Go.Proofs.Ytnnadgnohchmbaa.Pl
