/-
  The encoding of numbers: what both programs write.
-/
import Derived.Test.YtnnadgnohchmbaaPALLx5
import Derived.Laws.Bits64
import Derived.Laws.Bits64b
import Derived.Laws.BitsAllLaws
namespace Go.Proofs.Ytnnadgnohchmbaa.Pl
open Go.RowKit Go.Proofs.Ytnnadgnohchmbaa.PALL Go.Proofs.YtnnadgnohchmbaaW.PrintWords Go.Proofs.YtnnadgnohchmbaaW.PrintLast
set_option linter.unusedVariables false
set_option linter.unusedSimpArgs false

/-- The bytes of a number. -/
def enc (n : Nat) : List Int := if h : n < 128 then [(n : Int)] else ((n % 128 + 128 : Nat) : Int) :: enc (n / 128)
termination_by n
decreasing_by omega

set_option maxRecDepth 100000 in
theorem or128 : ∀ x : Fin 256, Go.bits .or .u8 ((x.val : Nat) : Int) 128 = ((x.val % 128 + 128 : Nat) : Int) := by decide
theorem or128_nat (n : Nat) : Go.bits .or .u8 ((n : Int) % 256) 128 = ((n % 128 + 128 : Nat) : Int) := by
  have h := or128 ⟨n % 256, by omega⟩
  have e : ((n % 256 : Nat) : Int) = (n : Int) % 256 := by omega
  simp only [e] at h
  rw [h]
  have : n % 256 % 128 = n % 128 := by omega
  rw [this]

theorem enc_len (j : Nat) : ∀ n, n < 128 ^ (j + 1) → (enc n).length ≤ j + 1 := by
  induction j with
  | zero => intro n h; rw [enc, dif_pos (by simpa using h)]; simp
  | succ j ih =>
    intro n h
    rw [enc]
    split
    · simp
    · have : n / 128 < 128 ^ (j + 1) := by rw [Nat.div_lt_iff_lt_mul (by decide), ← Nat.pow_succ]; exact h
      have := ih _ this
      simp only [List.length_cons]; omega

theorem wire_put (b : ByteArray) (hb : b.size ≤ 140737488351232 + 140737488351232) : ∀ (j n k : Nat) (l : List Int), n < 128 ^ (j + 1) → j < k → j ≤ 9 → l.length + j ≤ 20 →
    wire_PutUint.l0 k b n l = some (b ++ strOfNums (l ++ enc n)) := by
  intro j
  induction j with
  | zero =>
    intro n k l h hk _ hl
    obtain ⟨k, rfl⟩ := Nat.exists_eq_add_of_lt hk
    have h1 : n < 128 := by simpa using h
    rw [enc, dif_pos h1]
    rw [show 0 + k + 1 = k + 1 by omega, wire_PutUint.l0, if_neg (by omega), if_pos (by omega)]
    have e : (n : Int) % 256 = n := by omega
    simp only [Option.bind_some, e]
    rw [if_pos]
    rw [strOfNums_size]; simp; omega
  | succ j ih =>
    intro n k l h hk hj hl
    obtain ⟨k, rfl⟩ := Nat.exists_eq_add_of_lt hk
    by_cases h1 : n < 128
    · rw [enc, dif_pos h1]
      rw [show j + 1 + k + 1 = (j + 1 + k) + 1 by omega, wire_PutUint.l0, if_neg (by omega), if_pos (by omega)]
      have e : (n : Int) % 256 = n := by omega
      simp only [Option.bind_some, e]
      rw [if_pos]
      rw [strOfNums_size]; simp; omega
    · have h2 : n / 128 < 128 ^ (j + 1) := by rw [Nat.div_lt_iff_lt_mul (by decide), ← Nat.pow_succ]; exact h
      rw [enc, dif_neg h1]
      rw [show j + 1 + k + 1 = (j + 1 + k) + 1 by omega, wire_PutUint.l0, if_pos (by omega), if_pos (by omega), or128_nat]
      rw [show (n : Int) / 128 = ((n / 128 : Nat) : Int) by omega, ih (n / 128) (j + 1 + k) _ h2 (by omega) (by omega) (by simp; omega)]
      simp

theorem str_append (x : ByteArray) (l m : List Int) : x ++ strOfNums (l ++ m) = (x ++ strOfNums l) ++ strOfNums m := by
  apply ByteArray.ext
  simp [strOfNums]

theorem ref_put : ∀ (j n k : Nat) (b : ByteArray), n < 128 ^ (j + 1) → n < 18446744073709551616 → j < k → j ≤ 9 → b.size + j ≤ 281474976702464 + 20 →
    mapmakerref02_PutUint.l0 k b n = some (b ++ strOfNums (enc n)) := by
  intro j
  induction j with
  | zero =>
    intro n k b h h64 hk _ hl
    obtain ⟨k, rfl⟩ := Nat.exists_eq_add_of_lt hk
    have h1 : n < 128 := by simpa using h
    rw [enc, dif_pos h1]
    rw [show 0 + k + 1 = k + 1 by omega, mapmakerref02_PutUint.l0, if_neg (by omega)]
    have e : (n : Int) % 256 = n := by omega
    simp only [Option.bind_some, e]
    rw [if_pos]
    rw [strOfNums_size]; simp; omega
  | succ j ih =>
    intro n k b h h64 hk hj hl
    obtain ⟨k, rfl⟩ := Nat.exists_eq_add_of_lt hk
    by_cases h1 : n < 128
    · rw [enc, dif_pos h1]
      rw [show j + 1 + k + 1 = (j + 1 + k) + 1 by omega, mapmakerref02_PutUint.l0, if_neg (by omega)]
      have e : (n : Int) % 256 = n := by omega
      simp only [Option.bind_some, e]
      rw [if_pos]
      rw [strOfNums_size]; simp; omega
    · have h2 : n / 128 < 128 ^ (j + 1) := by rw [Nat.div_lt_iff_lt_mul (by decide), ← Nat.pow_succ]; exact h
      rw [enc, dif_neg h1]
      have e : IntKind.u64.wrap (128 + Int.tmod (n : Int) 128) % 256 = ((n % 128 + 128 : Nat) : Int) := by
        rw [IntKind.wrap_u64, Int.tmod_eq_emod_of_nonneg (by omega)]; omega
      have e2 : IntKind.u64.wrap (Int.tdiv (n : Int) 128) = ((n / 128 : Nat) : Int) := by
        rw [IntKind.wrap_u64, Int.tdiv_eq_ediv_of_nonneg (by omega)]; omega
      rw [show j + 1 + k + 1 = (j + 1 + k) + 1 by omega, mapmakerref02_PutUint.l0, if_pos (by omega)]
      simp only [Option.bind_some, e, e2]
      rw [if_pos (by rw [strOfNums_size]; simp; omega), ih (n / 128) (j + 1 + k) _ h2 (by omega) (by omega) (by omega) (by simp [strOfNums_size]; omega)]
      rw [← str_append]; rfl

theorem wire_putUint (b : ByteArray) (hb : b.size ≤ 140737488351232 + 140737488351232) (n k : Nat) (h : n < 18446744073709551616) (hk : 10 ≤ k) : wire_PutUint.f k b n = some (b ++ strOfNums (enc n)) := by
  rw [wire_PutUint.f, wire_put b hb 9 n k [] (by omega) (by omega) (by omega) (by simp)]; rfl
theorem ref_putUint (b : ByteArray) (hb : b.size ≤ 140737488351232 + 140737488351232) (n k : Nat) (h : n < 18446744073709551616) (hk : 10 ≤ k) : mapmakerref02_PutUint.f k b n = some (b ++ strOfNums (enc n)) := by
  rw [mapmakerref02_PutUint.f, ref_put 9 n k b (by omega) h (by omega) (by omega) (by omega)]

/-- An integer as the number that is written. -/
def zig (i : Int) : Nat := if i < 0 then (-(i + 1) * 2 + 1).toNat else (i * 2).toNat
theorem zig_lt (i : Int) (h : -9223372036854775808 ≤ i ∧ i ≤ 9223372036854775807) : zig i < 18446744073709551616 := by unfold zig; split <;> omega
theorem xor_ones (a : Nat) (ha : a < 18446744073709551616) : Go.bits .xor .u64 (a : Int) 18446744073709551615 = ((18446744073709551615 - a : Nat) : Int) := by
  have h := bits_xor_u64_nat a 18446744073709551615 ha (by decide)
  rw [show ((18446744073709551615 : Nat) : Int) = 18446744073709551615 from rfl] at h
  rw [h]
  congr 1
  have e : BitVec.ofNat 64 a ^^^ BitVec.allOnes 64 = ~~~ (BitVec.ofNat 64 a) := BitVec.xor_allOnes
  have e2 := congrArg BitVec.toNat e
  rw [BitVec.toNat_xor, BitVec.toNat_not, BitVec.toNat_ofNat, BitVec.toNat_allOnes, Nat.mod_eq_of_lt (by omega)] at e2
  simpa using e2
theorem xor_zero (a : Nat) (ha : a < 18446744073709551616) : Go.bits .xor .u64 (a : Int) 0 = (a : Int) := by
  have h := bits_xor_u64_nat a 0 ha (by decide)
  simpa using h
theorem zig_wire (i : Int) (h : -9223372036854775808 ≤ i ∧ i ≤ 9223372036854775807) : Go.bits .xor .u64 (IntKind.u64.wrap ((IntKind.u64.wrap i) * 2)) (IntKind.u64.wrap (i / 9223372036854775808)) = (zig i : Int) := by
  simp only [IntKind.wrap_u64]
  by_cases h0 : i < 0
  · have e1 : i / 9223372036854775808 % 18446744073709551616 = 18446744073709551615 := by omega
    have e2 : i % 18446744073709551616 * 2 % 18446744073709551616 = ((2 * (i + 18446744073709551616 - 9223372036854775808).toNat : Nat) : Int) := by omega
    rw [e1, e2, xor_ones _ (by omega)]
    unfold zig
    rw [if_pos h0]
    omega
  · have e1 : i / 9223372036854775808 % 18446744073709551616 = 0 := by omega
    have e2 : i % 18446744073709551616 * 2 % 18446744073709551616 = (((i * 2).toNat : Nat) : Int) := by omega
    rw [e1, e2, xor_zero _ (by omega)]
    unfold zig
    rw [if_neg h0]
theorem wire_putInt (b : ByteArray) (hb : b.size ≤ 140737488351232 + 140737488351232) (i : Int) (k : Nat) (h : -9223372036854775808 ≤ i ∧ i ≤ 9223372036854775807) (hk : 10 ≤ k) : wire_PutInt.f k b i = some (b ++ strOfNums (enc (zig i))) := by
  rw [wire_PutInt.f, zig_wire i h, wire_putUint b hb _ k (zig_lt i h) hk]; rfl
theorem ref_putInt (b : ByteArray) (hb : b.size ≤ 140737488351232 + 140737488351232) (i : Int) (k : Nat) (h : -9223372036854775808 ≤ i ∧ i ≤ 9223372036854775807) (hk : 10 ≤ k) : mapmakerref02_PutInt.f k b i = some (b ++ strOfNums (enc (zig i))) := by
  rw [mapmakerref02_PutInt.f]
  simp only [IntKind.wrap_u64]
  by_cases h0 : i < 0
  · rw [if_pos h0]
    have e : (wrap64 (-(wrap64 (i + 1))) % 18446744073709551616 * 2 % 18446744073709551616 + 1) % 18446744073709551616 = (zig i : Int) := by
      unfold zig wrap64; rw [if_pos h0]; omega
    rw [e, ref_putUint b hb _ k (zig_lt i h) hk]; rfl
  · rw [if_neg h0]
    have e : i % 18446744073709551616 * 2 % 18446744073709551616 = (zig i : Int) := by
      unfold zig; rw [if_neg h0]; omega
    rw [e, ref_putUint b hb _ k (zig_lt i h) hk]; rfl
theorem enc_le (n : Nat) (h : n < 18446744073709551616) : (enc n).length ≤ 10 := enc_len 9 n (by omega)
theorem wire_putText (b s : ByteArray) (hb : b.size ≤ 140737488351232 + 140737488351232) (hs : s.size ≤ 140737488351232) (k : Nat) (hk : 10 ≤ k) : wire_PutText.f k b s = some (b ++ strOfNums (enc s.size) ++ s) := by
  have h := enc_le s.size (by omega)
  rw [wire_PutText.f, IntKind.wrap_u64, show (s.size : Int) % 18446744073709551616 = (s.size : Int) by omega, wire_putUint b hb _ k (by omega) hk]
  simp only [Option.bind_some]
  rw [if_pos]
  simp [strOfNums_size]; omega
theorem ref_putText (b s : ByteArray) (hb : b.size ≤ 140737488351232 + 140737488351232) (hs : s.size ≤ 140737488351232) (k : Nat) (hk : 10 ≤ k) : mapmakerref02_PutText.f k b s = some (b ++ strOfNums (enc s.size) ++ s) := by
  have h := enc_le s.size (by omega)
  rw [mapmakerref02_PutText.f, IntKind.wrap_u64, show (s.size : Int) % 18446744073709551616 = (s.size : Int) by omega, ref_putUint b hb _ k (by omega) hk]
  simp only [Option.bind_some]
  rw [if_pos]
  simp [strOfNums_size]; omega
end Go.Proofs.Ytnnadgnohchmbaa.Pl
