import Derived.Test.YtnnadgnohchmbaaPl6
namespace Go.Proofs.Ytnnadgnohchmbaa.Pl
open Go.RowKit Go.Proofs.Ytnnadgnohchmbaa.PALL Go.Proofs.YtnnadgnohchmbaaW.PrintWords Go.Proofs.YtnnadgnohchmbaaW.PrintLast Go.Proofs.YtnnadgnohchmbaaW.PrintMore Go.Proofs.YtnnadgnohchmbaaW.Lent
set_option linter.unusedVariables false
set_option linter.unusedSimpArgs false
theorem big_walk (s : ByteArray) (w : World) (hs : 2000 < (s.size : Int)) : Calls Try.prog 5 #[.string s] w fun e w' => e = .returned (.bool true) ∧ Below w.heap.size w w' := by
  have S := Aside0.mk (Boxes.start (w := w) [] (by simp) (by simp))
  have d := decide_eq_true hs
  go_enter Try.func5, Try.ntmps5
  go_wp2_with (first | (go_at_call 14; have X := read_b S.out s; (with_reducible refine X.mono ?_); clear X; rintro e_ w_ ⟨g, rfl, S_⟩; replace S := Aside0.mk S_; clear S_) | (go_at_call 7; have X := lives_b S.out; (with_reducible refine X.mono ?_); clear X; rintro e_ w_ ⟨rfl, S_⟩; replace S := Aside0.mk S_; clear S_))
  go_ret
  exact ⟨rfl, S.out.below⟩
set_option maxHeartbeats 4000000 in
theorem small_walk (s : ByteArray) (w : World) (hs : ¬ 2000 < (s.size : Int)) (n1 : Int) (p1 : Nat) (e1 : Int) (t : ByteArray) (p2 : Nat) (e2 : Int)
    (hU : UintS s 0 0 = (n1, p1, e1)) (hI : IntS s 0 0 = (unzig n1, p1, e1)) (hT : TextS s 0 0 2000 = (t, p2, e2)) (hp1 : p1 ≤ s.size) (hp2 : p2 ≤ s.size)
    (F1 : e1 = 0 → wire_PutUint.f 10 ⟨#[]⟩ n1 = some (s.extract 0 p1)) (F2 : e1 = 0 → wire_PutInt.f 10 ⟨#[]⟩ (unzig n1) = some (s.extract 0 p1)) (F3 : e2 = 0 → wire_PutText.f 10 ⟨#[]⟩ t = some (s.extract 0 p2)) :
    Calls Try.prog 5 #[.string s] w fun e w' => e = .returned (.bool true) ∧ Below w.heap.size w w' := by
  have S := Aside0.mk (Boxes.start (w := w) [] (by simp) (by simp))
  have d := decide_eq_false hs
  have hs2 : s.size ≤ 140737488351232 + 140737488351232 := by omega
  have hm : (-9223372036854775808 : Int) ≤ 2000 ∧ (2000 : Int) ≤ 9223372036854775807 := by decide
  have hl1 : wrap64 ((s.size : Int) - (p1 : Nat)) = (s.size : Int) - (p1 : Nat) := by unfold wrap64; omega
  have hl2 : wrap64 ((s.size : Int) - (p2 : Nat)) = (s.size : Int) - (p2 : Nat) := by unfold wrap64; omega
  have hk1 : IntKind.i64.wrap ((s.size : Int) - ((s.size : Int) - (p1 : Nat))) = (p1 : Nat) := by rw [IntKind.wrap_i64]; clear hl1 hl2; omega
  have hk2 : IntKind.i64.wrap ((s.size : Int) - ((s.size : Int) - (p2 : Nat))) = (p2 : Nat) := by rw [IntKind.wrap_i64]; clear hl1 hl2 hk1; omega
  have hj1 : wrap64 ((s.size : Int) - ((s.size : Int) - (p1 : Nat))) = (p1 : Nat) := by rw [← i64_w]; exact hk1
  have hj2 : wrap64 ((s.size : Int) - ((s.size : Int) - (p2 : Nat))) = (p2 : Nat) := by rw [← i64_w]; exact hk2
  have q1 : (p1 : Int) ≤ (s.size : Int) := by exact_mod_cast hp1
  have q2 : (p2 : Int) ≤ (s.size : Int) := by exact_mod_cast hp2
  by_cases c1 : e1 = 0
  · subst c1
    replace F1 := F1 rfl
    replace F2 := F2 rfl
    by_cases c2 : e2 = 0
    · subst c2
      replace F3 := F3 rfl
      go_enter Try.func5, Try.ntmps5
      go_wp2_with (first | (go_at_call 14; have X := read_b S.out s; (with_reducible refine X.mono ?_); clear X; rintro e_ w_ ⟨g, rfl, S_⟩; replace S := Aside0.mk S_; clear S_) | (go_at_call 15; have X := uint_b (p := 0) S.out 2 rfl hs2 (Nat.zero_le _); (with_reducible refine X.mono ?_); clear X; rintro e_ w_ ⟨rfl, S_⟩; replace S := Aside0.mk S_; clear S_; rw [hU] at S) | (go_at_call 16; have X := int_b (p := 0) S.out 1 rfl hs2 (Nat.zero_le _); (with_reducible refine X.mono ?_); clear X; rintro e_ w_ ⟨rfl, S_⟩; replace S := Aside0.mk S_; clear S_; rw [hI] at S) | (go_at_call 17; have X := text_b (p := 0) (m := 2000) S.out 0 rfl hm hs2 (Nat.zero_le _); (with_reducible refine X.mono ?_); clear X; rintro e_ w_ ⟨rfl, S_⟩; replace S := Aside0.mk S_; clear S_; rw [hT] at S) | (go_at_call 20; have X := err_b S.out 2 rfl; (with_reducible refine X.mono ?_); clear X; rintro e_ w_ ⟨rfl, S_⟩; replace S := Aside0.mk S_; clear S_) | (go_at_call 20; have X := err_b S.out 1 rfl; (with_reducible refine X.mono ?_); clear X; rintro e_ w_ ⟨rfl, S_⟩; replace S := Aside0.mk S_; clear S_) | (go_at_call 20; have X := err_b S.out 0 rfl; (with_reducible refine X.mono ?_); clear X; rintro e_ w_ ⟨rfl, S_⟩; replace S := Aside0.mk S_; clear S_) | (go_at_call 19; have X := left_b (v := (s.size : Int) - (p1 : Nat)) S.out 2 rfl hl1; (with_reducible refine X.mono ?_); clear X; rintro e_ w_ ⟨rfl, S_⟩; replace S := Aside0.mk S_; clear S_) | (go_at_call 19; have X := left_b (v := (s.size : Int) - (p1 : Nat)) S.out 1 rfl hl1; (with_reducible refine X.mono ?_); clear X; rintro e_ w_ ⟨rfl, S_⟩; replace S := Aside0.mk S_; clear S_) | (go_at_call 19; have X := left_b (v := (s.size : Int) - (p2 : Nat)) S.out 0 rfl hl2; (with_reducible refine X.mono ?_); clear X; rintro e_ w_ ⟨rfl, S_⟩; replace S := Aside0.mk S_; clear S_) | (go_at_call 8; have X := putUint_b S.out F1; (with_reducible refine X.mono ?_); clear X; rintro e_ w_ ⟨rfl, S_⟩; replace S := Aside0.mk S_; clear S_) | (go_at_call 10; have X := putInt_b S.out F2; (with_reducible refine X.mono ?_); clear X; rintro e_ w_ ⟨rfl, S_⟩; replace S := Aside0.mk S_; clear S_) | (go_at_call 12; have X := putText_b S.out F3; (with_reducible refine X.mono ?_); clear X; rintro e_ w_ ⟨rfl, S_⟩; replace S := Aside0.mk S_; clear S_) | (go_at_call 7; have X := lives_b S.out; (with_reducible refine X.mono ?_); clear X; rintro e_ w_ ⟨rfl, S_⟩; replace S := Aside0.mk S_; clear S_))
      go_ret
      exact ⟨rfl, S.out.below⟩
    · clear F3
      have b1 : (e2 == 0) = false := by simp [c2]
      have b2 : (e2 != 0) = true := by simp [c2]
      go_enter Try.func5, Try.ntmps5
      go_wp2_with (first | (go_at_call 14; have X := read_b S.out s; (with_reducible refine X.mono ?_); clear X; rintro e_ w_ ⟨g, rfl, S_⟩; replace S := Aside0.mk S_; clear S_) | (go_at_call 15; have X := uint_b (p := 0) S.out 2 rfl hs2 (Nat.zero_le _); (with_reducible refine X.mono ?_); clear X; rintro e_ w_ ⟨rfl, S_⟩; replace S := Aside0.mk S_; clear S_; rw [hU] at S) | (go_at_call 16; have X := int_b (p := 0) S.out 1 rfl hs2 (Nat.zero_le _); (with_reducible refine X.mono ?_); clear X; rintro e_ w_ ⟨rfl, S_⟩; replace S := Aside0.mk S_; clear S_; rw [hI] at S) | (go_at_call 17; have X := text_b (p := 0) (m := 2000) S.out 0 rfl hm hs2 (Nat.zero_le _); (with_reducible refine X.mono ?_); clear X; rintro e_ w_ ⟨rfl, S_⟩; replace S := Aside0.mk S_; clear S_; rw [hT] at S) | (go_at_call 20; have X := err_b S.out 2 rfl; (with_reducible refine X.mono ?_); clear X; rintro e_ w_ ⟨rfl, S_⟩; replace S := Aside0.mk S_; clear S_) | (go_at_call 20; have X := err_b S.out 1 rfl; (with_reducible refine X.mono ?_); clear X; rintro e_ w_ ⟨rfl, S_⟩; replace S := Aside0.mk S_; clear S_) | (go_at_call 20; have X := err_b S.out 0 rfl; (with_reducible refine X.mono ?_); clear X; rintro e_ w_ ⟨rfl, S_⟩; replace S := Aside0.mk S_; clear S_) | (go_at_call 19; have X := left_b (v := (s.size : Int) - (p1 : Nat)) S.out 2 rfl hl1; (with_reducible refine X.mono ?_); clear X; rintro e_ w_ ⟨rfl, S_⟩; replace S := Aside0.mk S_; clear S_) | (go_at_call 19; have X := left_b (v := (s.size : Int) - (p1 : Nat)) S.out 1 rfl hl1; (with_reducible refine X.mono ?_); clear X; rintro e_ w_ ⟨rfl, S_⟩; replace S := Aside0.mk S_; clear S_) | (go_at_call 19; have X := left_b (v := (s.size : Int) - (p2 : Nat)) S.out 0 rfl hl2; (with_reducible refine X.mono ?_); clear X; rintro e_ w_ ⟨rfl, S_⟩; replace S := Aside0.mk S_; clear S_) | (go_at_call 8; have X := putUint_b S.out F1; (with_reducible refine X.mono ?_); clear X; rintro e_ w_ ⟨rfl, S_⟩; replace S := Aside0.mk S_; clear S_) | (go_at_call 10; have X := putInt_b S.out F2; (with_reducible refine X.mono ?_); clear X; rintro e_ w_ ⟨rfl, S_⟩; replace S := Aside0.mk S_; clear S_) | (go_at_call 12; have X := putText_b S.out F3; (with_reducible refine X.mono ?_); clear X; rintro e_ w_ ⟨rfl, S_⟩; replace S := Aside0.mk S_; clear S_) | (go_at_call 7; have X := lives_b S.out; (with_reducible refine X.mono ?_); clear X; rintro e_ w_ ⟨rfl, S_⟩; replace S := Aside0.mk S_; clear S_))
      go_ret
      exact ⟨rfl, S.out.below⟩
  · clear F1 F2
    have d1 : (e1 == 0) = false := by simp [c1]
    have d2 : (e1 != 0) = true := by simp [c1]
    by_cases c2 : e2 = 0
    · subst c2
      replace F3 := F3 rfl
      go_enter Try.func5, Try.ntmps5
      go_wp2_with (first | (go_at_call 14; have X := read_b S.out s; (with_reducible refine X.mono ?_); clear X; rintro e_ w_ ⟨g, rfl, S_⟩; replace S := Aside0.mk S_; clear S_) | (go_at_call 15; have X := uint_b (p := 0) S.out 2 rfl hs2 (Nat.zero_le _); (with_reducible refine X.mono ?_); clear X; rintro e_ w_ ⟨rfl, S_⟩; replace S := Aside0.mk S_; clear S_; rw [hU] at S) | (go_at_call 16; have X := int_b (p := 0) S.out 1 rfl hs2 (Nat.zero_le _); (with_reducible refine X.mono ?_); clear X; rintro e_ w_ ⟨rfl, S_⟩; replace S := Aside0.mk S_; clear S_; rw [hI] at S) | (go_at_call 17; have X := text_b (p := 0) (m := 2000) S.out 0 rfl hm hs2 (Nat.zero_le _); (with_reducible refine X.mono ?_); clear X; rintro e_ w_ ⟨rfl, S_⟩; replace S := Aside0.mk S_; clear S_; rw [hT] at S) | (go_at_call 20; have X := err_b S.out 2 rfl; (with_reducible refine X.mono ?_); clear X; rintro e_ w_ ⟨rfl, S_⟩; replace S := Aside0.mk S_; clear S_) | (go_at_call 20; have X := err_b S.out 1 rfl; (with_reducible refine X.mono ?_); clear X; rintro e_ w_ ⟨rfl, S_⟩; replace S := Aside0.mk S_; clear S_) | (go_at_call 20; have X := err_b S.out 0 rfl; (with_reducible refine X.mono ?_); clear X; rintro e_ w_ ⟨rfl, S_⟩; replace S := Aside0.mk S_; clear S_) | (go_at_call 19; have X := left_b (v := (s.size : Int) - (p1 : Nat)) S.out 2 rfl hl1; (with_reducible refine X.mono ?_); clear X; rintro e_ w_ ⟨rfl, S_⟩; replace S := Aside0.mk S_; clear S_) | (go_at_call 19; have X := left_b (v := (s.size : Int) - (p1 : Nat)) S.out 1 rfl hl1; (with_reducible refine X.mono ?_); clear X; rintro e_ w_ ⟨rfl, S_⟩; replace S := Aside0.mk S_; clear S_) | (go_at_call 19; have X := left_b (v := (s.size : Int) - (p2 : Nat)) S.out 0 rfl hl2; (with_reducible refine X.mono ?_); clear X; rintro e_ w_ ⟨rfl, S_⟩; replace S := Aside0.mk S_; clear S_) | (go_at_call 8; have X := putUint_b S.out F1; (with_reducible refine X.mono ?_); clear X; rintro e_ w_ ⟨rfl, S_⟩; replace S := Aside0.mk S_; clear S_) | (go_at_call 10; have X := putInt_b S.out F2; (with_reducible refine X.mono ?_); clear X; rintro e_ w_ ⟨rfl, S_⟩; replace S := Aside0.mk S_; clear S_) | (go_at_call 12; have X := putText_b S.out F3; (with_reducible refine X.mono ?_); clear X; rintro e_ w_ ⟨rfl, S_⟩; replace S := Aside0.mk S_; clear S_) | (go_at_call 7; have X := lives_b S.out; (with_reducible refine X.mono ?_); clear X; rintro e_ w_ ⟨rfl, S_⟩; replace S := Aside0.mk S_; clear S_))
      go_ret
      exact ⟨rfl, S.out.below⟩
    · clear F3
      have b1 : (e2 == 0) = false := by simp [c2]
      have b2 : (e2 != 0) = true := by simp [c2]
      go_enter Try.func5, Try.ntmps5
      go_wp2_with (first | (go_at_call 14; have X := read_b S.out s; (with_reducible refine X.mono ?_); clear X; rintro e_ w_ ⟨g, rfl, S_⟩; replace S := Aside0.mk S_; clear S_) | (go_at_call 15; have X := uint_b (p := 0) S.out 2 rfl hs2 (Nat.zero_le _); (with_reducible refine X.mono ?_); clear X; rintro e_ w_ ⟨rfl, S_⟩; replace S := Aside0.mk S_; clear S_; rw [hU] at S) | (go_at_call 16; have X := int_b (p := 0) S.out 1 rfl hs2 (Nat.zero_le _); (with_reducible refine X.mono ?_); clear X; rintro e_ w_ ⟨rfl, S_⟩; replace S := Aside0.mk S_; clear S_; rw [hI] at S) | (go_at_call 17; have X := text_b (p := 0) (m := 2000) S.out 0 rfl hm hs2 (Nat.zero_le _); (with_reducible refine X.mono ?_); clear X; rintro e_ w_ ⟨rfl, S_⟩; replace S := Aside0.mk S_; clear S_; rw [hT] at S) | (go_at_call 20; have X := err_b S.out 2 rfl; (with_reducible refine X.mono ?_); clear X; rintro e_ w_ ⟨rfl, S_⟩; replace S := Aside0.mk S_; clear S_) | (go_at_call 20; have X := err_b S.out 1 rfl; (with_reducible refine X.mono ?_); clear X; rintro e_ w_ ⟨rfl, S_⟩; replace S := Aside0.mk S_; clear S_) | (go_at_call 20; have X := err_b S.out 0 rfl; (with_reducible refine X.mono ?_); clear X; rintro e_ w_ ⟨rfl, S_⟩; replace S := Aside0.mk S_; clear S_) | (go_at_call 19; have X := left_b (v := (s.size : Int) - (p1 : Nat)) S.out 2 rfl hl1; (with_reducible refine X.mono ?_); clear X; rintro e_ w_ ⟨rfl, S_⟩; replace S := Aside0.mk S_; clear S_) | (go_at_call 19; have X := left_b (v := (s.size : Int) - (p1 : Nat)) S.out 1 rfl hl1; (with_reducible refine X.mono ?_); clear X; rintro e_ w_ ⟨rfl, S_⟩; replace S := Aside0.mk S_; clear S_) | (go_at_call 19; have X := left_b (v := (s.size : Int) - (p2 : Nat)) S.out 0 rfl hl2; (with_reducible refine X.mono ?_); clear X; rintro e_ w_ ⟨rfl, S_⟩; replace S := Aside0.mk S_; clear S_) | (go_at_call 8; have X := putUint_b S.out F1; (with_reducible refine X.mono ?_); clear X; rintro e_ w_ ⟨rfl, S_⟩; replace S := Aside0.mk S_; clear S_) | (go_at_call 10; have X := putInt_b S.out F2; (with_reducible refine X.mono ?_); clear X; rintro e_ w_ ⟨rfl, S_⟩; replace S := Aside0.mk S_; clear S_) | (go_at_call 12; have X := putText_b S.out F3; (with_reducible refine X.mono ?_); clear X; rintro e_ w_ ⟨rfl, S_⟩; replace S := Aside0.mk S_; clear S_) | (go_at_call 7; have X := lives_b S.out; (with_reducible refine X.mono ?_); clear X; rintro e_ w_ ⟨rfl, S_⟩; replace S := Aside0.mk S_; clear S_))
      go_ret
      exact ⟨rfl, S.out.below⟩
theorem count_e (s : ByteArray) (p : Nat) (m : Int) (h : (CountS s p 0 m).2.2 = 0) : (rdp s 10 p).2.1 = 0 ∧ (CountS s p 0 m).1 = (rdp s 10 p).1 ∧ (CountS s p 0 m).2.1 = p + (rdp s 10 p).2.2 := by
  revert h
  unfold CountS
  rw [if_pos rfl]
  split
  · rename_i h1
    split
    · intro h; simp at h
    · intro _; exact ⟨h1, rfl, rfl⟩
  · rename_i h1; intro h; exact absurd h h1
theorem empty_add (x : ByteArray) : (⟨#[]⟩ : ByteArray) ++ x = x := by
  apply ByteArray.ext; simp
theorem ext_add (s : ByteArray) (a b : Nat) (h : a ≤ b) : s.extract 0 a ++ s.extract a b = s.extract 0 b := by
  apply ByteArray.ext
  simp [ByteArray.data_extract, h]
theorem WireCanonical (s : ByteArray) (w : World) (h0 : s.size ≤ 140737488351232) : Calls Try.prog 5 #[.string s] w fun e w' => e = .returned (.bool true) ∧ Below w.heap.size w w' := by
  by_cases hs : 2000 < (s.size : Int)
  · exact big_walk s w hs
  have hU := UintS_ok s 0 0 (Nat.zero_le _)
  have hT := TextS_ok s 0 0 2000 (by decide) (Nat.zero_le _)
  have hC := CountS_ok s 0 0 2000 (by decide) (Nat.zero_le _)
  refine small_walk s w hs (UintS s 0 0).1 (UintS s 0 0).2.1 (UintS s 0 0).2.2 (TextS s 0 0 2000).1 (TextS s 0 0 2000).2.1 (TextS s 0 0 2000).2.2 rfl rfl rfl hU.1 hT ?_ ?_ ?_
  · intro h
    simp only [UintS, if_true] at h hU ⊢
    have hc := uint_canon s 0 h (Nat.zero_le _)
    rw [Nat.zero_add] at hc ⊢
    have he : (rdp s 10 0).1 = (((rdp s 10 0).1.toNat : Nat) : Int) := by omega
    rw [he, wire_putUint ⟨#[]⟩ (by decide) _ 10 (by omega) (by decide), hc, empty_add]
  · intro h
    simp only [UintS, if_true] at h hU ⊢
    have hc := uint_canon s 0 h (Nat.zero_le _)
    rw [Nat.zero_add] at hc ⊢
    have hz := zig_unzig _ hU.2.1
    have hz' : zig (unzig (rdp s 10 0).1) = (rdp s 10 0).1.toNat := by omega
    have hr : -9223372036854775808 ≤ unzig (rdp s 10 0).1 ∧ unzig (rdp s 10 0).1 ≤ 9223372036854775807 := by
      have := hU.2.2
      have := hU.2.1
      clear hz hz' hc
      unfold unzig
      split <;> omega
    rw [wire_putInt ⟨#[]⟩ (by decide) _ 10 hr (by decide), hz', hc, empty_add]
  · intro h
    by_cases h1 : (CountS s 0 0 2000).2.2 = 0
    · obtain ⟨k1, k2, k3⟩ := count_e s 0 2000 h1
      have hc := uint_canon s 0 k1 (Nat.zero_le _)
      unfold TextS at h hT ⊢
      rw [if_pos h1] at h hT ⊢
      split at h
      · simp at h
      · rename_i h2
        rw [if_neg h2] at hT ⊢
        simp only at hT ⊢
        have hz : (s.extract (CountS s 0 0 2000).2.1 ((CountS s 0 0 2000).2.1 + (CountS s 0 0 2000).1.toNat)).size = (CountS s 0 0 2000).1.toNat := by
          rw [ByteArray.size_extract, Nat.min_eq_left hT]; omega
        rw [wire_putText ⟨#[]⟩ _ (by decide) (by rw [hz]; omega) 10 (by decide), hz, k2, hc, empty_add, k3]
        rw [Nat.zero_add, ext_add _ _ _ (by omega)]
    · unfold TextS at h
      rw [if_neg h1] at h
      exact absurd h h1
end Go.Proofs.Ytnnadgnohchmbaa.Pl
