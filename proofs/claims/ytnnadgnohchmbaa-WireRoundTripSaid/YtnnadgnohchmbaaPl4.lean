/-
  What the readers' methods tell, without rounds.
-/
import Derived.Test.YtnnadgnohchmbaaPl3
import Derived.WalkSmall
namespace Go.Proofs.Ytnnadgnohchmbaa.Pl
open Go.RowKit Go.Proofs.Ytnnadgnohchmbaa.PALL Go.Proofs.YtnnadgnohchmbaaW.PrintWords Go.Proofs.YtnnadgnohchmbaaW.PrintLast Go.Proofs.YtnnadgnohchmbaaW.PrintMore
set_option linter.unusedVariables false
set_option linter.unusedSimpArgs false

/-- Value, place, error behind Uint. -/
def UintS (s : ByteArray) (p : Nat) (e : Int) : Int × Nat × Int := if e = 0 then ((rdp s 10 p).1, p + (rdp s 10 p).2.2, (rdp s 10 p).2.1) else (0, p, e)
def unzig (n : Int) : Int := if n % 2 = 1 then -(n / 2) - 1 else n / 2
def IntS (s : ByteArray) (p : Nat) (e : Int) : Int × Nat × Int := (unzig (UintS s p e).1, (UintS s p e).2.1, (UintS s p e).2.2)
def CountS (s : ByteArray) (p : Nat) (e m : Int) : Int × Nat × Int :=
  if e = 0 then (if (rdp s 10 p).2.1 = 0 then (if mx m 0 < (rdp s 10 p).1 then (0, p, 5) else ((rdp s 10 p).1, p + (rdp s 10 p).2.2, 0)) else (0, p, (rdp s 10 p).2.1)) else (0, p, e)
def TextS (s : ByteArray) (p : Nat) (e m : Int) : ByteArray × Nat × Int :=
  if (CountS s p e m).2.2 = 0 then (if (s.size : Int) - (CountS s p e m).2.1 < (CountS s p e m).1 then (⟨#[]⟩, p, 3) else (s.extract (CountS s p e m).2.1 ((CountS s p e m).2.1 + (CountS s p e m).1.toNat), (CountS s p e m).2.1 + (CountS s p e m).1.toNat, 0))
  else (⟨#[]⟩, (CountS s p e m).2.1, (CountS s p e m).2.2)

theorem rdp_range (s : ByteArray) (p : Nat) : 0 ≤ (rdp s 10 p).1 ∧ (rdp s 10 p).1 < 18446744073709551616 ∧ (p ≤ s.size → p + (rdp s 10 p).2.2 ≤ s.size) := by
  by_cases h : (rdp s 10 p).2.1 = 0
  · have g := rdp_good s 10 p h
    have e : (2 : Int) * 128 ^ (10 - 1) = 18446744073709551616 := by decide
    rw [e] at g
    exact ⟨g.2.1, g.2.2.1, fun _ => g.2.2.2.2⟩
  · have g := rdp_bad s 10 p h
    rw [g.1, g.2.1]
    exact ⟨by decide, by decide, fun h => by omega⟩
theorem UintS_ok (s : ByteArray) (p : Nat) (e : Int) (hp : p ≤ s.size) : (UintS s p e).2.1 ≤ s.size ∧ 0 ≤ (UintS s p e).1 ∧ (UintS s p e).1 < 18446744073709551616 := by
  have h := rdp_range s p
  unfold UintS
  split
  · exact ⟨h.2.2 hp, h.1, h.2.1⟩
  · exact ⟨hp, Int.le_refl 0, by simp⟩
theorem mx_range (m : Int) (hm : -9223372036854775808 ≤ m ∧ m ≤ 9223372036854775807) : 0 ≤ mx m 0 ∧ mx m 0 ≤ 9223372036854775807 := by unfold mx; split <;> omega
theorem CountS_ok (s : ByteArray) (p : Nat) (e m : Int) (hm : -9223372036854775808 ≤ m ∧ m ≤ 9223372036854775807) (hp : p ≤ s.size) : (CountS s p e m).2.1 ≤ s.size ∧ 0 ≤ (CountS s p e m).1 ∧ (CountS s p e m).1 ≤ 9223372036854775807 := by
  have h := rdp_range s p
  have hx := mx_range m hm
  unfold CountS
  split
  · split
    · split
      · exact ⟨hp, Int.le_refl 0, by simp⟩
      · exact ⟨h.2.2 hp, h.1, by simp only; omega⟩
    · exact ⟨hp, Int.le_refl 0, by simp⟩
  · exact ⟨hp, Int.le_refl 0, by simp⟩
theorem TextS_ok (s : ByteArray) (p : Nat) (e m : Int) (hm : -9223372036854775808 ≤ m ∧ m ≤ 9223372036854775807) (hp : p ≤ s.size) : (TextS s p e m).2.1 ≤ s.size := by
  have h := CountS_ok s p e m hm hp
  unfold TextS
  split
  · split
    · exact hp
    · simp only; omega
  · exact h.1

theorem wire_Uint (s : ByteArray) (p k : Nat) (e : Int) (hs : s.size ≤ 140737488351232 + 140737488351232) (hp : p ≤ s.size) (hk : 11 ≤ k) :
    wire_Reader_Uint.f k s p e = some ((UintS s p e).1, s, ((UintS s p e).2.1 : Int), (UintS s p e).2.2) := by
  unfold wire_Reader_Uint.f UintS
  by_cases he : e = 0
  · obtain ⟨p', h1, h2⟩ := wire_uint s p k e hs hp hk
    rw [if_pos he, if_pos he, h1, Option.bind_some]
    simp only
    by_cases hc : (rdp s 10 p).2.1 = 0
    · rw [if_pos hc, h2 hc, hc, he]
    · rw [if_neg hc, (rdp_bad s 10 p hc).1, (rdp_bad s 10 p hc).2.1, Nat.add_zero]
  · rw [if_neg he, if_neg he]
theorem ref_Uint (s : ByteArray) (p k : Nat) (e : Int) (hs : s.size ≤ 140737488351232 + 140737488351232) (hp : p ≤ s.size) (hk : 30 ≤ k) :
    mapmakerref02_Uint.f k s p e = some (s, ((UintS s p e).2.1 : Int), (UintS s p e).2.2, (UintS s p e).1) := by
  have h := (rdp_range s p).2.2 hp
  unfold mapmakerref02_Uint.f UintS
  by_cases he : e = 0
  · rw [if_pos he, if_pos he, ref_next s p k e hp hk, Option.bind_some]
    have e1 : wrap64 ((p : Int) + ((rdp s 10 p).2.2 : Int)) = ((p + (rdp s 10 p).2.2 : Nat) : Int) := by unfold wrap64; omega
    simp only
    rw [e1]
  · rw [if_neg he, if_neg he]

theorem xor_i64_ones (a : Nat) (ha : a < 9223372036854775808) : Go.bits .xor .i64 (a : Int) (-1) = -1 - (a : Int) := by
  show IntKind.i64.wrap ((BitVec.ofInt 64 (a : Int) ^^^ BitVec.ofInt 64 (-1)).toNat : Int) = _
  have hb : BitVec.ofInt 64 (-1) = BitVec.allOnes 64 := by decide
  rw [hb, BitVec.xor_allOnes, BitVec.toNat_not, BitVec.toNat_ofInt, IntKind.wrap_i64]
  have e : ((a : Int) % ((2 ^ 64 : Nat) : Int)).toNat = a := by omega
  rw [e]
  omega
theorem xor_i64_zero (a : Nat) (ha : a < 9223372036854775808) : Go.bits .xor .i64 (a : Int) 0 = (a : Int) := by
  show IntKind.i64.wrap ((BitVec.ofInt 64 (a : Int) ^^^ BitVec.ofInt 64 0).toNat : Int) = _
  have hb : BitVec.ofInt 64 0 = 0#64 := by decide
  rw [hb, BitVec.xor_zero, BitVec.toNat_ofInt, IntKind.wrap_i64]
  have e : ((a : Int) % ((2 ^ 64 : Nat) : Int)).toNat = a := by omega
  rw [e]
  omega
theorem unzig_wire (n : Int) (h0 : 0 ≤ n) (h1 : n < 18446744073709551616) : Go.bits .xor .i64 (wrap64 (n / 2)) (wrap64 (-(wrap64 (Go.bits .and .u64 n 1)))) = unzig n := by
  rw [and_one_u64 n h0 (by omega)]
  have e0 : wrap64 (n / 2) = (((n / 2).toNat : Nat) : Int) := by unfold wrap64; omega
  rw [e0]
  unfold unzig
  by_cases h : n % 2 = 1
  · rw [if_pos h, h, show wrap64 (-(wrap64 1)) = -1 from by unfold wrap64; omega, xor_i64_ones _ (by clear e0; omega)]
    clear e0; omega
  · have h' : n % 2 = 0 := by clear e0; omega
    rw [if_neg h, h', show wrap64 (-(wrap64 0)) = 0 from by unfold wrap64; omega, xor_i64_zero _ (by clear e0; omega)]
    clear e0; omega
theorem wire_Int (s : ByteArray) (p k : Nat) (e : Int) (hs : s.size ≤ 140737488351232 + 140737488351232) (hp : p ≤ s.size) (hk : 11 ≤ k) :
    wire_Reader_Int.f k s p e = some ((IntS s p e).1, s, ((IntS s p e).2.1 : Int), (IntS s p e).2.2) := by
  have h := UintS_ok s p e hp
  rw [wire_Reader_Int.f, wire_Uint s p k e hs hp hk, Option.bind_some]
  simp only
  rw [unzig_wire _ h.2.1 h.2.2]; rfl
theorem unzig_ref (n : Int) (h0 : 0 ≤ n) (h1 : n < 18446744073709551616) : (Int.tmod n 2 = 1 → wrap64 ((wrap64 (-(wrap64 (IntKind.u64.wrap (Int.tdiv n 2))))) - 1) = unzig n) ∧ (¬ Int.tmod n 2 = 1 → wrap64 (IntKind.u64.wrap (Int.tdiv n 2)) = unzig n) := by
  rw [Int.tmod_eq_emod_of_nonneg h0, Int.tdiv_eq_ediv_of_nonneg h0, IntKind.wrap_u64]
  have e0 : n / 2 % 18446744073709551616 = n / 2 := by omega
  rw [e0]
  have e1 : wrap64 (n / 2) = n / 2 := by unfold wrap64; omega
  rw [e1]
  clear e1
  have e2 : wrap64 (-(n / 2)) = -(n / 2) := by unfold wrap64; omega
  rw [e2]
  clear e2
  refine ⟨fun h => ?_, fun h => ?_⟩
  · have e3 : wrap64 (-(n / 2) - 1) = -(n / 2) - 1 := by unfold wrap64; omega
    rw [e3, unzig, if_pos h]
  · rw [unzig, if_neg h]
theorem ref_Int (s : ByteArray) (p k : Nat) (e : Int) (hs : s.size ≤ 140737488351232 + 140737488351232) (hp : p ≤ s.size) (hk : 30 ≤ k) :
    mapmakerref02_Int.f k s p e = some (s, ((IntS s p e).2.1 : Int), (IntS s p e).2.2, (IntS s p e).1) := by
  have h := UintS_ok s p e hp
  have hz := unzig_ref _ h.2.1 h.2.2
  rw [mapmakerref02_Int.f, ref_Uint s p k e hs hp hk, Option.bind_some]
  simp only
  split
  · rename_i h2; rw [hz.1 h2]; rfl
  · rename_i h2; rw [hz.2 h2]; rfl

theorem wire_count (s : ByteArray) (p k : Nat) (e m : Int) (hm : -9223372036854775808 ≤ m ∧ m ≤ 9223372036854775807) (hs : s.size ≤ 140737488351232 + 140737488351232) (hp : p ≤ s.size) (hk : 11 ≤ k) (he : e = 0) :
    ∃ n p', wire_Reader_count.f k s p e m = some (n, (CountS s p e m).2.2, s, p', e) ∧ ((CountS s p e m).2.2 = 0 → n = (CountS s p e m).1 ∧ p' = ((CountS s p e m).2.1 : Int)) := by
  obtain ⟨p', h1, h2⟩ := wire_uint s p k e hs hp hk
  have hx := mx_range m hm
  have hr := rdp_range s p
  have ew : IntKind.u64.wrap (mx m 0) = mx m 0 := by rw [IntKind.wrap_u64]; omega
  rw [wire_Reader_count.f, h1, Option.bind_some]
  simp only
  unfold CountS
  rw [if_pos he]
  by_cases hc : (rdp s 10 p).2.1 = 0
  · rw [if_pos hc, if_pos hc, ew]
    by_cases hg : mx m 0 < (rdp s 10 p).1
    · rw [if_pos (show (rdp s 10 p).1 > mx m 0 from hg), if_pos hg]
      exact ⟨_, _, rfl, fun h => by simp at h⟩
    · rw [if_neg (show ¬ (rdp s 10 p).1 > mx m 0 from hg), if_neg hg]
      refine ⟨_, _, by rw [hc], fun _ => ⟨?_, h2 hc⟩⟩
      unfold wrap64; omega
  · rw [if_neg hc, if_neg hc]
    exact ⟨_, _, rfl, fun h => absurd h hc⟩
theorem CountS_err (s : ByteArray) (p : Nat) (e m : Int) (h : ¬ (CountS s p e m).2.2 = 0) : (CountS s p e m).1 = 0 ∧ (CountS s p e m).2.1 = p := by
  revert h
  unfold CountS
  split
  · split
    · split
      · exact fun _ => ⟨rfl, rfl⟩
      · exact fun h => absurd rfl h
    · exact fun _ => ⟨rfl, rfl⟩
  · exact fun _ => ⟨rfl, rfl⟩
theorem CountS_off (s : ByteArray) (p : Nat) (e m : Int) (he : ¬ e = 0) : CountS s p e m = (0, p, e) := by unfold CountS; rw [if_neg he]
theorem wire_Count (s : ByteArray) (p k : Nat) (e m : Int) (hm : -9223372036854775808 ≤ m ∧ m ≤ 9223372036854775807) (hs : s.size ≤ 140737488351232 + 140737488351232) (hp : p ≤ s.size) (hk : 11 ≤ k) :
    wire_Reader_Count.f k s p e m = some ((CountS s p e m).1, s, ((CountS s p e m).2.1 : Int), (CountS s p e m).2.2) := by
  unfold wire_Reader_Count.f
  by_cases he : e = 0
  · obtain ⟨n, p', h1, h2⟩ := wire_count s p k e m hm hs hp hk he
    rw [if_pos he, h1, Option.bind_some]
    simp only
    by_cases hc : (CountS s p e m).2.2 = 0
    · rw [if_pos hc, (h2 hc).1, (h2 hc).2, hc, he]
    · rw [if_neg hc, (CountS_err s p e m hc).1, (CountS_err s p e m hc).2]
  · rw [if_neg he, CountS_off s p e m he]
theorem ref_Count (s : ByteArray) (p k : Nat) (e m : Int) (hm : -9223372036854775808 ≤ m ∧ m ≤ 9223372036854775807) (hs : s.size ≤ 140737488351232 + 140737488351232) (hp : p ≤ s.size) (hk : 30 ≤ k) :
    mapmakerref02_Count.f k s p e m = some (s, ((CountS s p e m).2.1 : Int), (CountS s p e m).2.2, (CountS s p e m).1) := by
  obtain ⟨k, rfl⟩ : ∃ i, k = i + 1 := ⟨k - 1, by omega⟩
  have hr := rdp_range s p
  have hx := mx_range m hm
  have ew : IntKind.u64.wrap (mx m 0) = mx m 0 := by rw [IntKind.wrap_u64]; omega
  unfold mapmakerref02_Count.f
  by_cases he : e = 0
  · rw [if_pos he, ref_next s p (k + 1) e hp hk, Option.bind_some]
    simp only
    unfold CountS
    rw [if_pos he]
    have e1 : wrap64 ((p : Int) + ((rdp s 10 p).2.2 : Int)) = ((p + (rdp s 10 p).2.2 : Nat) : Int) := by have := hr.2.2 hp; unfold wrap64; omega
    by_cases hc : (rdp s 10 p).2.1 = 0
    · rw [if_pos hc, if_pos hc, ew]
      by_cases hg : mx m 0 < (rdp s 10 p).1
      · rw [if_pos hg, show decide ((rdp s 10 p).1 > mx m 0) = true from decide_eq_true hg, mapmakerref02_Count.j0, if_pos rfl]; rfl
      · rw [if_neg hg, show decide ((rdp s 10 p).1 > mx m 0) = false from decide_eq_false hg, mapmakerref02_Count.j0, if_neg (by decide), if_pos hc, e1]
        have e2 : wrap64 (rdp s 10 p).1 = (rdp s 10 p).1 := by clear e1; unfold wrap64; omega
        rw [e2]
    · rw [if_neg hc, if_neg hc, mapmakerref02_Count.j0, if_neg (by decide), if_neg hc]
  · rw [if_neg he, CountS_off s p e m he]

theorem wire_Text (s : ByteArray) (p k : Nat) (e m : Int) (hm : -9223372036854775808 ≤ m ∧ m ≤ 9223372036854775807) (hs : s.size ≤ 140737488351232 + 140737488351232) (hp : p ≤ s.size) (hk : 11 ≤ k) :
    wire_Reader_Text.f k s p e m = some ((TextS s p e m).1, s, ((TextS s p e m).2.1 : Int), (TextS s p e m).2.2) := by
  have ho := CountS_ok s p e m hm hp
  unfold wire_Reader_Text.f TextS
  by_cases he : e = 0
  · obtain ⟨n, p', h1, h2⟩ := wire_count s p k e m hm hs hp hk he
    rw [if_pos he, wire_Reader_Text_1.f, h1, Option.bind_some]
    simp only
    by_cases hc : (CountS s p e m).2.2 = 0
    · rw [if_pos hc, if_pos hc, (h2 hc).1, (h2 hc).2]
      have e1 : wrap64 ((s.size : Int) - ((CountS s p e m).2.1 : Int)) = (s.size : Int) - ((CountS s p e m).2.1 : Int) := by unfold wrap64; omega
      rw [e1]
      clear e1
      by_cases hg : (s.size : Int) - ((CountS s p e m).2.1 : Int) < (CountS s p e m).1
      · rw [if_pos hg, if_pos hg, Option.bind_some]; rfl
      · rw [if_neg hg, if_neg hg]
        have e2 : wrap64 (((CountS s p e m).2.1 : Int) + (CountS s p e m).1) = (((CountS s p e m).2.1 + (CountS s p e m).1.toNat : Nat) : Int) := by unfold wrap64; omega
        rw [e2]
        rw [if_pos ⟨by omega, by omega, by omega⟩, Option.bind_some, Int.toNat_natCast, Int.toNat_natCast]
        simp only
        rw [if_pos trivial, he]
    · rw [if_neg hc, if_neg hc, Option.bind_some]
      simp only
      rw [if_neg hc, (CountS_err s p e m hc).2]
  · rw [if_neg he, CountS_off s p e m he]
    simp only
    rw [if_neg he]
theorem ref_Text (s : ByteArray) (p k : Nat) (e m : Int) (hm : -9223372036854775808 ≤ m ∧ m ≤ 9223372036854775807) (hs : s.size ≤ 140737488351232 + 140737488351232) (hp : p ≤ s.size) (hk : 30 ≤ k) :
    mapmakerref02_Text.f k s p e m = some (s, ((TextS s p e m).2.1 : Int), (TextS s p e m).2.2, (TextS s p e m).1) := by
  have ho := CountS_ok s p e m hm hp
  unfold mapmakerref02_Text.f TextS
  rw [ref_Count s p k e m hm hs hp hk, Option.bind_some]
  simp only
  by_cases hc : (CountS s p e m).2.2 = 0
  · rw [if_pos hc, if_pos hc]
    have e1 : wrap64 ((s.size : Int) - ((CountS s p e m).2.1 : Int)) = (s.size : Int) - ((CountS s p e m).2.1 : Int) := by unfold wrap64; omega
    rw [e1]
    clear e1
    by_cases hg : (s.size : Int) - ((CountS s p e m).2.1 : Int) < (CountS s p e m).1
    · rw [if_pos hg, if_pos (show (CountS s p e m).1 > (s.size : Int) - ((CountS s p e m).2.1 : Int) from hg)]
    · rw [if_neg hg, if_neg (show ¬ (CountS s p e m).1 > (s.size : Int) - ((CountS s p e m).2.1 : Int) from hg)]
      have e2 : wrap64 (((CountS s p e m).2.1 : Int) + (CountS s p e m).1) = (((CountS s p e m).2.1 + (CountS s p e m).1.toNat : Nat) : Int) := by unfold wrap64; omega
      rw [e2]
      rw [if_pos (by omega), if_pos (by omega), if_pos (by omega), Int.toNat_natCast, Int.toNat_natCast]
  · rw [if_neg hc, if_neg hc]
end Go.Proofs.Ytnnadgnohchmbaa.Pl
