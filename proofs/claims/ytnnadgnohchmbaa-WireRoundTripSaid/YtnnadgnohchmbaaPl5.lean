/-
  A number's bytes are its only encoding, and what was written is read back.
-/
import Derived.Test.YtnnadgnohchmbaaPl4
namespace Go.Proofs.Ytnnadgnohchmbaa.Pl
open Go.RowKit Go.Proofs.Ytnnadgnohchmbaa.PALL Go.Proofs.YtnnadgnohchmbaaW.PrintWords Go.Proofs.YtnnadgnohchmbaaW.PrintLast Go.Proofs.YtnnadgnohchmbaaW.PrintMore
set_option linter.unusedVariables false
set_option linter.unusedSimpArgs false

theorem rdp_pos (s : ByteArray) : ∀ (j p n : Nat) (v : Int), j ≤ 9 → rdp s j p = (v, 0, n) → 1 ≤ v := by
  intro j
  induction j with
  | zero => intro p n v _ h; simp [rdp] at h
  | succ j ih =>
    intro p n v hj h
    have hr := bt_range s p
    by_cases h1 : s.size ≤ p
    · rw [rdp_end h1] at h; simp at h
    by_cases h2 : 128 ≤ bt s p
    · obtain ⟨v', c, n', h3⟩ : ∃ v c n, rdp s j (p + 1) = (v, c, n) := ⟨_, _, _, rfl⟩
      by_cases hc : c = 0
      · subst hc
        rw [rdp_more h1 h2 h3] at h
        have := ih (p + 1) n' v' (by omega) h3
        simp only [Prod.mk.injEq] at h
        omega
      · rw [rdp_bads h1 h2 h3 hc] at h
        simp only [Prod.mk.injEq] at h
        exact absurd h.2.1 hc
    · by_cases h3 : (j ≠ 9 ∧ bt s p = 0) ∨ (j = 0 ∧ 1 < bt s p)
      · rw [rdp_form h1 h2 h3] at h; simp at h
      · rw [rdp_last h1 h2 h3] at h
        simp only [Prod.mk.injEq] at h
        omega
/-- n bytes from p on. -/
def byl (s : ByteArray) : Nat → Nat → List Int
  | _, 0 => []
  | p, n + 1 => bt s p :: byl s (p + 1) n
theorem canon (s : ByteArray) : ∀ (j p n : Nat) (v : Int), j ≤ 10 → rdp s j p = (v, 0, n) → enc v.toNat = byl s p n := by
  intro j
  induction j with
  | zero => intro p n v _ h; simp [rdp] at h
  | succ j ih =>
    intro p n v hj h
    have hr := bt_range s p
    by_cases h1 : s.size ≤ p
    · rw [rdp_end h1] at h; simp at h
    by_cases h2 : 128 ≤ bt s p
    · obtain ⟨v', c, n', h3⟩ : ∃ v c n, rdp s j (p + 1) = (v, c, n) := ⟨_, _, _, rfl⟩
      by_cases hc : c = 0
      · subst hc
        rw [rdp_more h1 h2 h3] at h
        have hp := rdp_pos s j (p + 1) n' v' (by omega) h3
        have hi := ih (p + 1) n' v' (by omega) h3
        simp only [Prod.mk.injEq] at h
        obtain ⟨rfl, -, rfl⟩ := h
        rw [enc, dif_neg (by omega), byl, ← hi]
        congr 1
        · omega
        · congr 1; omega
      · rw [rdp_bads h1 h2 h3 hc] at h
        simp only [Prod.mk.injEq] at h
        exact absurd h.2.1 hc
    · by_cases h3 : (j ≠ 9 ∧ bt s p = 0) ∨ (j = 0 ∧ 1 < bt s p)
      · rw [rdp_form h1 h2 h3] at h; simp at h
      · rw [rdp_last h1 h2 h3] at h
        simp only [Prod.mk.injEq] at h
        obtain ⟨rfl, -, rfl⟩ := h
        rw [enc, dif_pos (by omega), byl, byl]
        congr 1
        omega
theorem bt_data (s : ByteArray) (p : Nat) (h : p < s.size) : UInt8.ofNat (bt s (p : Int)).toNat = s[p] := by
  simp [bt, h]
theorem byl_ext (s : ByteArray) : ∀ (n p : Nat), p + n ≤ s.size → (byl s p n).map (fun x => UInt8.ofNat x.toNat) = (s.data.toList.drop p).take n := by
  intro n
  induction n with
  | zero => intro p _; simp [byl]
  | succ n ih =>
    intro p h
    have hp : p < s.data.toList.length := by simpa using (show p < s.size by omega)
    rw [byl, List.map_cons, ih (p + 1) (by omega), bt_data s p (by omega), List.drop_eq_getElem_cons hp, List.take_succ_cons]
    rfl
theorem str_byl (s : ByteArray) (p n : Nat) (h : p + n ≤ s.size) : strOfNums (byl s p n) = s.extract p (p + n) := by
  apply ByteArray.ext
  apply Array.ext'
  rw [show (strOfNums (byl s p n)).data.toList = (byl s p n).map (fun x => UInt8.ofNat x.toNat) from rfl, byl_ext s n p h]
  simp [ByteArray.data_extract, Array.toList_extract, List.extract_eq_take_drop]
theorem uint_canon (s : ByteArray) (p : Nat) (hc : (rdp s 10 p).2.1 = 0) (hp : p ≤ s.size) : strOfNums (enc (rdp s 10 p).1.toNat) = s.extract p (p + (rdp s 10 p).2.2) := by
  rw [canon s 10 p _ _ (by omega) (show rdp s 10 p = ((rdp s 10 p).1, 0, (rdp s 10 p).2.2) by rw [← hc]), str_byl s p _ ((rdp_range s p).2.2 hp)]
theorem zig_unzig (n : Int) (h0 : 0 ≤ n) : (zig (unzig n) : Int) = n := by
  unfold zig unzig
  split <;> split <;> omega
theorem unzig_zig (i : Int) : unzig (zig i) = i := by
  unfold zig unzig
  split <;> split <;> omega

/-- Bytes that begin with a number's encoding are read so. -/
theorem rdp_enc (s : ByteArray) : ∀ (j n p : Nat), j ≤ 9 → n < 2 * 128 ^ j → (j = 9 ∨ 1 ≤ n) → p + (enc n).length ≤ s.size → (∀ i (h : i < (enc n).length), bt s ((p + i : Nat) : Int) = (enc n)[i]) → rdp s (j + 1) p = ((n : Int), 0, (enc n).length) := by
  intro j
  induction j with
  | zero =>
    intro n p _ hn h1 hp hb
    have hn : n < 2 := by simpa using hn
    have e : enc n = [(n : Int)] := by rw [enc, dif_pos (by omega)]
    rw [e] at hb hp ⊢
    have h0 := hb 0 (by simp)
    simp only [Nat.add_zero, List.getElem_cons_zero, List.length_cons, List.length_nil] at h0 hp ⊢
    rw [rdp_last (by omega) (by omega) (by omega), h0]
  | succ j ih =>
    intro n p hj hn h1 hp hb
    by_cases h : n < 128
    · have e : enc n = [(n : Int)] := by rw [enc, dif_pos h]
      rw [e] at hb hp ⊢
      have h0 := hb 0 (by simp)
      simp only [Nat.add_zero, List.getElem_cons_zero, List.length_cons, List.length_nil] at h0 hp ⊢
      rw [rdp_last (by omega) (by omega) (by omega), h0]
    · have e : enc n = ((n % 128 + 128 : Nat) : Int) :: enc (n / 128) := by rw [enc, dif_neg h]
      rw [e] at hb hp ⊢
      have h0 := hb 0 (by simp)
      simp only [Nat.add_zero, List.getElem_cons_zero, List.length_cons] at h0 hp ⊢
      have hd : n / 128 < 2 * 128 ^ j := by
        rw [Nat.div_lt_iff_lt_mul (by decide)]
        rw [Nat.pow_succ] at hn
        omega
      have hi := ih (n / 128) (p + 1) (by omega) hd (.inr (by omega)) (by omega) (fun i h2 => by
        have := hb (i + 1) (by simp; omega)
        simp only [List.getElem_cons_succ] at this
        rw [← this, show p + 1 + i = p + (i + 1) by omega])
      rw [rdp_more (by omega) (by omega) hi, h0]
      simp only [Prod.mk.injEq, and_true, true_and]
      omega
end Go.Proofs.Ytnnadgnohchmbaa.Pl
