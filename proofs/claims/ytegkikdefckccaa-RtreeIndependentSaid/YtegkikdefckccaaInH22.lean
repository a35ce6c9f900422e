-- Out of the translation and of texts of our own, merged (wip/gen/pack.py): what the row names and no more.
import Derived.Test.YtegkikdefckccaaInH21
section
namespace Go.Proofs.Ytegkikdefckccaa.Hand
open Go.Proofs.YtegkikdefckccaaW Go.RowKit Go.Proofs.YtegkikdefckccaaW.PrintWords Go.Proofs.YtegkikdefckccaaW.PrintLast Go.Proofs.YtegkikdefckccaaW.PrintMore Go.Proofs.YtegkikdefckccaaW.SepW Go.Proofs.Ytegkikdefckccaa.PALL Go.Proofs.Ytegkikdefckccaa.Plain
set_option linter.unusedVariables false
set_option linter.unusedSimpArgs false
abbrev dT16_0 : Array Bool := #[false, false, false, false, false, false, false, false, false, false, false, false, false, false, false, false, false, false]
abbrev dT16_1 : Array Bool := #[true, false, false, false, false, false, false, false, false, false, false, false, false, false, false, false, false, false]
abbrev dT16_2 : Array Bool := #[true, false, false, true, false, false, false, false, false, false, false, false, false, false, false, false, false, false]
abbrev dT16_3 : Array Bool := #[true, true, false, true, false, false, false, false, false, false, false, false, false, false, false, false, false, false]
abbrev dT16_4 : Array Bool := #[true, true, false, true, true, false, false, false, false, false, false, false, false, false, false, false, false, false]
abbrev dT16_5 : Array Bool := #[true, true, true, true, true, false, false, false, false, false, false, false, false, false, false, false, false, false]
abbrev dT16_6 : Array Bool := #[true, true, true, true, true, true, false, false, false, false, false, false, false, false, false, false, false, false]
abbrev dT16_7 : Array Bool := #[true, true, true, true, true, true, true, false, false, false, false, false, false, false, false, false, false, false]
abbrev dT16_8 : Array Bool := #[true, true, true, true, true, true, true, true, false, false, false, false, false, false, false, false, false, false]
abbrev dT16_9 : Array Bool := #[true, true, true, true, true, true, true, true, true, false, false, false, false, false, false, false, false, false]
abbrev dT16_10 : Array Bool := #[true, true, true, true, true, true, true, true, true, false, true, false, false, false, false, false, false, false]
abbrev dT16_11 : Array Bool := #[true, true, true, true, true, true, true, true, true, true, true, false, false, false, false, false, false, false]
abbrev dT16_12 : Array Bool := #[true, true, true, true, true, true, true, true, true, true, true, true, false, false, false, false, false, false]
abbrev dT16_13 : Array Bool := #[true, true, true, true, true, true, true, true, true, true, true, true, true, false, false, false, false, false]
abbrev dT16_14 : Array Bool := #[true, true, true, true, true, true, true, true, true, true, true, true, true, true, false, false, false, false]
abbrev dT16_15 : Array Bool := #[true, true, true, true, true, true, true, true, true, true, true, true, true, true, true, false, false, false]
abbrev dT16_16 : Array Bool := #[true, true, true, true, true, true, true, true, true, true, true, true, true, true, true, true, false, false]
abbrev dT16_17 : Array Bool := #[true, true, true, true, true, true, true, true, true, true, true, true, true, true, true, true, true, false]
abbrev dT16_18 : Array Bool := #[true, true, true, true, true, true, true, true, true, true, true, true, true, true, true, true, true, true]
theorem dT16_n {α : Type} : (∀ (l : List α) (i : Nat) (a : α), l.toArray.setIfInBounds i a = (l.set i a).toArray) ∧ (∀ (a b : α) (l : List α), (a :: l).set 0 b = b :: l) ∧ (∀ (a b : α) (l : List α) (n : Nat), (a :: l).set (n + 1) b = a :: l.set n b) :=
  ⟨fun _ _ _ => List.setIfInBounds_toArray .., fun _ _ _ => rfl, fun _ _ _ _ => rfl⟩
theorem isort_rev {l : List S51} (hn : (l.map S51.f0).Nodup) : isortT l.reverse = isortT l :=
 sorted_one (isort_sorted _) (isort_sorted _) ((isort_perm _).trans ((List.reverse_perm l).trans (isort_perm l).symm)) (((((isort_perm l.reverse).trans (List.reverse_perm l)).map S51.f0).nodup_iff).2 hn)
theorem drop_back (l : List S51) (i : Nat) (hi : i < l.length) : (l.drop (i + 1)).reverse ++ [l[i]] = (l.drop i).reverse := by
 rw [List.drop_eq_getElem_cons hi, List.reverse_cons]
def ind14_T : Bool × List (List Nat × List Nat) := (true, [([], []), ([], []), ([0, 1], [0, 1]), ([], []), ([], []), ([3, 4, 2], [3, 4]), ([2, 5, 5], [2, 5]), ([6, 6], [6]), ([7], [7]), ([8, 7, 7], [7, 8]), ([7], [7]), ([10, 9, 7], [7, 10]), ([9, 11, 11, 7], [7, 9, 11]), ([7, 12], [7, 12]), ([13, 12], [13]), ([14, 14], [14]), ([14, 15], [14, 15]), ([16, 15, 0, 1, 2, 3, 4, 5, 6, 7, 8, 9, 10, 11, 12, 13, 14, 15, 16], [16])])
def ind14_B : List Nat := [0, 0, 3, 0, 0, 31, 63, 127, 255, 511, 255, 2047, 4095, 8191, 16383, 32767, 65535, 131071]
theorem ind14_tab : rtab .any (opsOf Try.f5 14) = ind14_T := by kernel_rfl
theorem ind14_bits : waitsOk ind14_T.2 ind14_B = true := by kernel_rfl
set_option maxHeartbeats 40000000 in
set_option maxRecDepth 100000 in
theorem independent_law (l : List S51) (fan other : Int) (b : S24) (A : Option Addr) (c : Nat) (w : World) (hC : k51.C w A l.length l) (hc : l.length ≤ c) :
  Calls Try.prog 5 #[.slice A l.length c, .int .i64 fan, .int .i64 other, .agg #[.int .i64 b.f0, .int .i64 b.f1, .int .i64 b.f2, .int .i64 b.f3]] w fun e w' => e = .returned (.bool true) ∧ Below w.heap.size w w' := by
 have S := Aside0.mk (SepW.Sep.start w)
 have HC := Aside0.mk hC
 have HCC := Aside0.mk hc
 have hu24 := Try.underlying24
 clear hC hc
 by_cases hl : l.length ≤ 60
 ·have HL := Aside0.mk hl
  have HFW := Aside0.mk (few_yes hl)
  have i0 : wrap64 ((l.length : Int) - 1) = (l.length : Int) - 1 := IntWalk.wrap64_in _ (by omega)
  clear hl
  go_enter Try.func5, Try.ntmps5
  go_upto_region 1 with fail
  have S1 := Aside0.mk (S.out.alloc #[.int .i64 b.f0, .int .i64 b.f1, .int .i64 b.f2, .int .i64 b.f3] 24)
  refine wp_genS S1 (fun W1 S => ?_)
  clear S1
  go_wp2_with (first | (go_at_call 7; (with_reducible refine (mapmakerlaw34_few.calls A c l true _ (Kd.C_below HC.out S.out.below) HCC.out HFW.out).mono ?_); rintro e_ w7 ⟨rfl, hdn⟩; have hb := drawn_below hdn; replace S := Aside0.mk (S.out.step hb); clear hb hdn) | fail)
  replace S := Aside0.mk (S.out.nil k51 51)
  go_loopg [9, 10] (l.length + 2) (fun kq v9 v10 w' => ∃ (j : Nat) (z : Int) (acc : List S51), v10 = .int .i64 z ∧ Aside0 (z = (j : Int) - 1) ∧ Aside0 (j < kq) ∧ Aside0 (j ≤ l.length) ∧ Aside0 (acc = (l.drop j).reverse) ∧ Aside0 (SepW.Sep w w' [YtegkikdefckccaaW.SepW.Own _ k51 51 v9 acc, Box _ w.heap.size 24 #[.int .i64 b.f0, .int .i64 b.f1, .int .i64 b.f2, .int .i64 b.f3]]))
  case atStart => exact ⟨l.length, (l.length : Int) - 1, [], by rw [i0], ⟨rfl⟩, ⟨by omega⟩, ⟨Nat.le_refl _⟩, ⟨by rw [List.drop_length]; rfl⟩, S⟩
  case round =>
   clear S i0
   obtain ⟨j, z, acc, rfl, ZJ, KQ, JL, AC, S⟩ := hrel
   cases gk with
   | zero => exact absurd KQ.out (by omega)
   | succ q1 =>
   cases j with
   | succ i =>
    obtain rfl : z = (i : Int) := by have := ZJ.out; omega
    have hi : i < l.length := JL.out
    have p0 : (0 : Int) ≤ (i : Int) := by omega
    have p1 : (i : Int) < (l.length : Int) := by omega
    have e1 : decide ((i : Int) ≥ 0) = true := decide_eq_true p0
    have e2 : decide ((0 : Int) ≤ (i : Int)) = true := decide_eq_true p0
    obtain ⟨ad, ead⟩ := list_some (Kd.C_below HC.out S.out.below) (by omega)
    subst ead
    obtain ⟨X, hX⟩ : ∃ X, X = l[i] := ⟨_, rfl⟩
    have hr := item_cells (Kd.C_below HC.out S.out.below) i hi hi
    rw [← hX] at hr
    obtain ⟨r0, r1, r2, r3, r4, r5⟩ := hr
    have HX := Aside0.mk hX
    clear hX
    have HI := Aside0.mk hi
    have i1 : Aside0 (wrap64 ((i : Int) - 1) = (i : Int) - 1) := ⟨IntWalk.wrap64_in _ (by have := HL.out; omega)⟩
    have i2 := i1.out
    have HAL : Aside0 (acc.length ≤ 60) := ⟨by rw [AC.out, List.length_reverse, List.length_drop]; have := HL.out; omega⟩
    go_wp2_with (first | ((with_reducible refine gate_builtin (b := .append) (xs := #[.tmp 26, .tmp 31]) rfl ?_); at_builtin; obtain ⟨ok, hR, hnew, hup⟩ := S.out.append 0 rfl; refine Kd.R_append k51 (w0 := w) w.heap.size rfl (.tmp 26) (.tmp 31) 22 51 (.agg #[.int .i64 0, .int .i64 0, .int .i64 0, .int .i64 0, .int .i64 0, .int .i64 0]) 48 rfl Try.underlying22 info51 rfl (by decide) (by omega) u9 acc X [.int .i64 X.f0.f0, .int .i64 X.f0.f1, .int .i64 X.f1.f0, .int .i64 X.f1.f1, .int .i64 X.f1.f2, .int .i64 X.f1.f3] ok (fun _ => False) rfl rfl (k51_mkM _ _ _ _) (fun _ h => h.elim) hnew hR S.out.below S.out.size (by have := HAL.out; omega) ?_; intro v32 w32 ho hb hg hat; replace S := Aside0.mk (hup _ w32 _ ho hb hg); clear hup hR hnew ho hb hg hat) | fail)
    clear i2
    go_roundg q1
    case measure => omega
    case rel => exact ⟨i, (i : Int) - 1, acc ++ [X], by rw [i1.out], ⟨rfl⟩, ⟨by have := KQ.out; omega⟩, ⟨by have := HI.out; omega⟩, ⟨by rw [AC.out, HX.out]; exact drop_back l i HI.out⟩, S⟩
   | zero =>
    obtain rfl : z = -1 := by have := ZJ.out; omega
    have hac := AC.out
    rw [List.drop_zero] at hac
    have HAC := Aside0.mk hac
    have HAN : Aside0 (acc.length = l.length) := ⟨by rw [hac, List.length_reverse]⟩
    clear hac AC KQ JL ZJ
    obtain ⟨A9, c9, e9, hca, _⟩ := S.out.own_reads 0 rfl
    subst e9
    have HCA := Aside0.mk hca
    clear hca
    go_upto_region 9 with (first | (go_at_call 9; (with_reducible refine (new_ct A c l fan _ (Kd.C_below HC.out S.out.below) HCC.out).mono ?_); rintro e_ w9 hN_; obtain ⟨p, r, rfl, hN, hb⟩ := new_form hN_; have HN := Aside0.mk hN; clear hN_ hN; replace S := Aside0.mk (S.out.step hb); clear hb) | fail)
    have SB := Aside0.mk (SepW.Sep.start w9)
    go_upto_region 10 with (first | (go_at_call 9; (with_reducible refine (new_ct A9 c9 acc other _ (S.out.own_C 0 rfl) HCA.out).mono ?_); rintro e_ w42 hN_; obtain ⟨p2, r2, rfl, hN, hb⟩ := new_form hN_; have HM := Aside0.mk hN; clear hN_ hN; replace S := Aside0.mk (S.out.step hb); replace SB := Aside0.mk (SB.out.step hb); clear hb; have SD := Aside0.mk (SepW.Sep.start w42)) | fail)
    rcases HN.out with ⟨hp, h0, hk⟩ | ⟨h0, m, hm, h2, h16, hv, hn, hk, g, hp, hT⟩
    ·subst hp
     have b0 : (r == 0) = false := by rw [beq_eq_false_iff_ne]; exact h0
     clear HN hk h0
     go_wp2_with (first | (go_at_call 8; (with_reducible refine (lives_ct _).mono ?_); rintro e_ w8 ⟨rfl, hb⟩; replace S := Aside0.mk (S.out.step hb); clear hb) | fail)
     go_ret
     exact ⟨rfl, S.out.below⟩
    subst hp
    subst h0
    subst hm
    rcases HM.out with ⟨hp, h0, hk'⟩ | ⟨h0, m2, hm2, h22, h162, hv2, hn2, hk2, g2, hp, hT2⟩
    ·subst hp
     have b0 : (r2 == 0) = false := by rw [beq_eq_false_iff_ne]; exact h0
     clear HM hk' h0 hk HN
     go_wp2_with (first | (go_at_call 8; (with_reducible refine (lives_ct _).mono ?_); rintro e_ w8 ⟨rfl, hb⟩; replace S := Aside0.mk (S.out.step hb); clear hb) | fail)
     go_ret
     exact ⟨rfl, S.out.below⟩
    subst hp
    subst h0
    subst hm2
    rw [HAC.out, isort_rev hn] at hT2
    have hil := isort_len l
    have HIL : Aside0 ((isortT l).length ≤ 60) := ⟨by have := HL.out; omega⟩
    have HF := Aside0.mk (fine_of h2 h16 (show (isortT l).length ≤ 10000 by have := HIL.out; omega))
    have HIV := Aside0.mk (isort_valid hv)
    have HT := Aside0.mk hT
    have HK := Aside0.mk hk
    have HV := Aside0.mk hv
    have HN2 := Aside0.mk hn
    have H2 := Aside0.mk h2
    have H16 := Aside0.mk h16
    have HHL := Aside0.mk hil
    clear HN hil hT hk hv hn h2 h16
    have HT2 := Aside0.mk hT2
    have H22 := Aside0.mk h22
    have H162 := Aside0.mk h162
    clear HM hT2 hv2 hn2 hk2 h22 h162
    have HF2 := Aside0.mk (fine_of H22.out H162.out (show (isortT l).length ≤ 10000 by have := HIL.out; omega))
    have HB9 := Aside0.mk (vis_small H2.out H16.out HIL.out b)
    have HW9 : Aside0 ((visT (levelsOf m ((isortT l).map S51.f1)) (isortT l) m b).1.length ≤ 1000000) := ⟨Nat.le_trans (visT_len H2.out HIV.out b) (by have := HIL.out; omega)⟩
    have HWL := Aside0.mk (win_len (b := b) HL.out HN2.out)
    have HB92 := Aside0.mk (vis_small H22.out H162.out HIL.out b)
    have HW92 : Aside0 ((visT (levelsOf m2 ((isortT l).map S51.f1)) (isortT l) m2 b).1.length ≤ 1000000) := ⟨Nat.le_trans (visT_len H22.out HIV.out b) (by have := HIL.out; omega)⟩
    have HI6 : Aside0 ((isortT l).length ≤ 1000000) := ⟨by have := HIL.out; omega⟩
    go_upto_region 14 with (first | fail)
    refine start_ (n := 18) (S := fun w' => w'.cell? ⟨w.heap.size, 0, none⟩ = some (.int .i64 b.f0) ∧ w'.cell? ⟨w.heap.size, 1, none⟩ = some (.int .i64 b.f1) ∧ w'.cell? ⟨w.heap.size, 2, none⟩ = some (.int .i64 b.f2) ∧ w'.cell? ⟨w.heap.size, 3, none⟩ = some (.int .i64 b.f3)) (ds := []) dT16_0 (by kernel_rfl) rfl rfl ⟨blk_cell (S.out.at_box 1 rfl) 0, blk_cell (S.out.at_box 1 rfl) 1, blk_cell (S.out.at_box 1 rfl) 2, blk_cell (S.out.at_box 1 rfl) 3⟩ (fun hHeld => ?_); refine with_tabW ind14_tab ind14_bits (fun HT_ HW_ => ?_)
    have HBW := Aside0.mk (below_drew (Below.refl w42.heap.size w42))
    generalize w42.drew = W9 at HBW hHeld ⊢
    replace S := Aside0.mk (S.out.step HBW.out)
    replace SB := Aside0.mk (SB.out.step HBW.out)
    replace SD := Aside0.mk (SD.out.step HBW.out)
    clear HBW
    refine pure_ (i := 0) (N := some 77) (v := ?_) (a' := ?_) dT16_1 rfl rfl (any_of HT_.out (by kernel_rfl)) (fun _ _ _ h => h) (Or.inl ⟨by rfl, ?_⟩) ?_ ?_
    rotate_left
    ·intro w'
     go_simp
     with_reducible rfl
    rotate_left
    ·simp only [Act.put, dT16_n, i64_w, i32_w]
     rfl
    refine pure_ (i := 3) (N := some 80) (v := ?_) (a' := ?_) dT16_2 rfl rfl (any_of HT_.out (by kernel_rfl)) (fun _ _ _ h => h) (Or.inl ⟨by rfl, ?_⟩) ?_ ?_
    rotate_left
    ·intro w'
     go_simp
     with_reducible rfl
    rotate_left
    ·simp only [Act.put, dT16_n, i64_w, i32_w]
     rfl
    refine take_ (i := 1) (N := some 78) (v := ?_) (a' := ?_) dT16_3 rfl rfl (take_ofW HT_.out HW_.out (by kernel_rfl)) (fun _ _ _ h => h) (Or.inl ⟨by rfl, ?_⟩) hHeld ?_ ?_
    rotate_left
    ·rintro w' ⟨s0, s1, s2, s3⟩
     go_simp
     with_reducible rfl
    rotate_left
    ·simp only [Act.put, dT16_n, i64_w, i32_w]
     rfl
    refine take_ (i := 4) (N := some 81) (v := ?_) (a' := ?_) dT16_4 rfl rfl (take_ofW HT_.out HW_.out (by kernel_rfl)) (fun _ _ _ h => h) (Or.inl ⟨by rfl, ?_⟩) hHeld ?_ ?_
    rotate_left
    ·rintro w' ⟨s0, s1, s2, s3⟩
     go_simp
     with_reducible rfl
    rotate_left
    ·simp only [Act.put, dT16_n, i64_w, i32_w]
     rfl
    refine one_ (i := 2) (N := some 79) dT16_5 rfl rfl (one_of HT_.out (by kernel_rfl)) (by decide) (fun K hK => ?_)
    refine goes_ Try.func11 (by kernel_rfl) rfl #[.pointer (some ⟨g, 0, none⟩), .agg #[.int .i64 b.f0, .int .i64 b.f1, .int .i64 b.f2, .int .i64 b.f3]] (by rfl) rfl rfl (by (try simp only [List.map_toArray, List.map_cons, List.map_nil]); first | done | rfl) ?_
    with_reducible refine (window_ct HT.out HF.out b HB9.out HW9.out _ SB.out.below).mono ?_
    rintro e w79 ⟨v79, ys, rfl, ho, hp, hso, hb⟩
    refine ⟨_, rfl, ?_⟩
    obtain rfl := win_one (ys := ys) (b := b) H2.out HV.out HN2.out hp hso
    clear hp hso
    obtain ⟨A79, c79, e79, hc79, _⟩ := Kd.R_reads ho
    subst e79
    have HC79 := Aside0.mk hc79
    replace S := Aside0.mk (S.out.own ho hb)
    replace SB := Aside0.mk (SB.out.step hb)
    replace SD := Aside0.mk (SD.out.step hb)
    clear ho hb hc79
    clear hHeld
    refine hK.out _ _ ⟨blk_cell (S.out.at_box 2 rfl) 0, blk_cell (S.out.at_box 2 rfl) 1, blk_cell (S.out.at_box 2 rfl) 2, blk_cell (S.out.at_box 2 rfl) 3⟩ (fun hHeld => ?_)
    clear hK K
    refine norm_ (a' := ?_) ?_ ?_
    rotate_left
    ·show Act.put _ (some 79) _ = _
     simp only [Act.put, dT16_n, i64_w, i32_w]
     rfl
    refine one_ (i := 5) (N := some 82) dT16_6 rfl rfl (one_of HT_.out (by kernel_rfl)) (by decide) (fun K hK => ?_)
    refine goes_ Try.func11 (by kernel_rfl) rfl #[.pointer (some ⟨g2, 0, none⟩), .agg #[.int .i64 b.f0, .int .i64 b.f1, .int .i64 b.f2, .int .i64 b.f3]] (by rfl) rfl rfl (by (try simp only [List.map_toArray, List.map_cons, List.map_nil]); first | done | rfl) ?_
    with_reducible refine (window_ct HT2.out HF2.out b HB92.out HW92.out _ SD.out.below).mono ?_
    rintro e w82 ⟨v82, ys, rfl, ho, hp, hso, hb⟩
    refine ⟨_, rfl, ?_⟩
    obtain rfl := win_one (ys := ys) (b := b) H22.out HV.out HN2.out hp hso
    clear hp hso
    obtain ⟨A82, c82, e82, hc82, _⟩ := Kd.R_reads ho
    subst e82
    have HC82 := Aside0.mk hc82
    replace S := Aside0.mk (S.out.own ho hb)
    replace SB := Aside0.mk (SB.out.step hb)
    replace SD := Aside0.mk (SD.out.step hb)
    clear ho hb hc82
    clear hHeld
    refine hK.out _ _ ⟨blk_cell (S.out.at_box 3 rfl) 0, blk_cell (S.out.at_box 3 rfl) 1, blk_cell (S.out.at_box 3 rfl) 2, blk_cell (S.out.at_box 3 rfl) 3⟩ (fun hHeld => ?_)
    clear hK K
    refine norm_ (a' := ?_) ?_ ?_
    rotate_left
    ·show Act.put _ (some 82) _ = _
     simp only [Act.put, dT16_n, i64_w, i32_w]
     rfl
    refine one_ (i := 6) (N := some 83) dT16_7 rfl rfl (one_of HT_.out (by kernel_rfl)) (by decide) (fun K hK => ?_)
    refine goes_ Try.func10 (by kernel_rfl) rfl #[.slice A79 (winR b l).length c79, .slice A82 (winR b l).length c82] (by rfl) rfl rfl (by (try simp only [List.map_toArray, List.map_cons, List.map_nil]); first | done | rfl) ?_
    with_reducible refine (sameRefs_ct A79 c79 A82 c82 (winR b l) HWL.out _ (S.out.own_C 1 rfl) HC79.out (S.out.own_C 0 rfl) HC82.out).mono ?_
    rintro e w83 ⟨rfl, hb⟩
    refine ⟨_, rfl, ?_⟩
    replace S := Aside0.mk (S.out.step hb)
    replace SB := Aside0.mk (SB.out.step hb)
    replace SD := Aside0.mk (SD.out.step hb)
    clear hb
    clear hHeld
    refine hK.out _ _ ⟨blk_cell (S.out.at_box 3 rfl) 0, blk_cell (S.out.at_box 3 rfl) 1, blk_cell (S.out.at_box 3 rfl) 2, blk_cell (S.out.at_box 3 rfl) 3⟩ (fun hHeld => ?_)
    clear hK K
    refine norm_ (a' := ?_) ?_ ?_
    rotate_left
    ·show Act.put _ (some 83) _ = _
     simp only [Act.put, dT16_n, i64_w, i32_w]
     rfl
    refine pure_ (i := 7) (N := some 84) (v := ?_) (a' := ?_) dT16_8 rfl rfl (any_of HT_.out (by kernel_rfl)) (fun _ _ _ h => h) (Or.inl ⟨by rfl, ?_⟩) ?_ ?_
    rotate_left
    ·intro w'
     go_simp
     with_reducible rfl
    rotate_left
    ·simp only [Act.put, dT16_n, i64_w, i32_w]
     rfl
    refine pure_ (i := 8) (N := some 85) (v := ?_) (a' := ?_) dT16_9 rfl rfl (any_of HT_.out (by kernel_rfl)) (fun _ _ _ h => h) (Or.inl ⟨by rfl, ?_⟩) ?_ ?_
    rotate_left
    ·intro w'
     go_simp
     with_reducible rfl
    rotate_left
    ·simp only [Act.put, dT16_n, i64_w, i32_w]
     rfl
    refine pure_ (i := 10) (N := some 87) (v := ?_) (a' := ?_) dT16_10 rfl rfl (any_of HT_.out (by kernel_rfl)) (fun _ _ _ h => h) (Or.inl ⟨by rfl, ?_⟩) ?_ ?_
    rotate_left
    ·intro w'
     go_simp
     with_reducible rfl
    rotate_left
    ·simp only [Act.put, dT16_n, i64_w, i32_w]
     rfl
    refine one_ (i := 9) (N := some 86) dT16_11 rfl rfl (one_of HT_.out (by kernel_rfl)) (by decide) (fun K hK => ?_)
    refine goes_ Try.func17 (by kernel_rfl) rfl #[.pointer (some ⟨g, 0, none⟩)] (by rfl) rfl rfl (by (try simp only [List.map_toArray, List.map_cons, List.map_nil]); first | done | rfl) ?_
    with_reducible refine (items_ct HT.out _ SB.out.below HI6.out).mono ?_
    rintro e w86 ⟨v86, rfl, ho, hb⟩
    refine ⟨_, rfl, ?_⟩
    obtain ⟨A86, c86, e86, hc86, _⟩ := Kd.R_reads ho
    subst e86
    have HC86 := Aside0.mk hc86
    replace S := Aside0.mk (S.out.own ho hb)
    replace SB := Aside0.mk (SB.out.step hb)
    replace SD := Aside0.mk (SD.out.step hb)
    clear ho hb hc86
    clear hHeld
    refine hK.out _ _ ⟨blk_cell (S.out.at_box 4 rfl) 0, blk_cell (S.out.at_box 4 rfl) 1, blk_cell (S.out.at_box 4 rfl) 2, blk_cell (S.out.at_box 4 rfl) 3⟩ (fun hHeld => ?_)
    clear hK K
    refine norm_ (a' := ?_) ?_ ?_
    rotate_left
    ·show Act.put _ (some 86) _ = _
     simp only [Act.put, dT16_n, i64_w, i32_w]
     rfl
    refine one_ (i := 11) (N := some 88) dT16_12 rfl rfl (one_of HT_.out (by kernel_rfl)) (by decide) (fun K hK => ?_)
    refine goes_ Try.func17 (by kernel_rfl) rfl #[.pointer (some ⟨g2, 0, none⟩)] (by rfl) rfl rfl (by (try simp only [List.map_toArray, List.map_cons, List.map_nil]); first | done | rfl) ?_
    with_reducible refine (items_ct HT2.out _ SD.out.below HI6.out).mono ?_
    rintro e w88 ⟨v88, rfl, ho, hb⟩
    refine ⟨_, rfl, ?_⟩
    obtain ⟨A88, c88, e88, hc88, _⟩ := Kd.R_reads ho
    subst e88
    have HC88 := Aside0.mk hc88
    replace S := Aside0.mk (S.out.own ho hb)
    replace SB := Aside0.mk (SB.out.step hb)
    replace SD := Aside0.mk (SD.out.step hb)
    clear ho hb hc88
    clear hHeld
    refine hK.out _ _ ⟨blk_cell (S.out.at_box 5 rfl) 0, blk_cell (S.out.at_box 5 rfl) 1, blk_cell (S.out.at_box 5 rfl) 2, blk_cell (S.out.at_box 5 rfl) 3⟩ (fun hHeld => ?_)
    clear hK K
    refine norm_ (a' := ?_) ?_ ?_
    rotate_left
    ·show Act.put _ (some 88) _ = _
     simp only [Act.put, dT16_n, i64_w, i32_w]
     rfl
    refine one_ (i := 12) (N := some 89) dT16_13 rfl rfl (one_of HT_.out (by kernel_rfl)) (by decide) (fun K hK => ?_)
    refine goes_ Try.func16 (by kernel_rfl) rfl #[.slice A86 (isortT l).length c86, .slice A88 (isortT l).length c88] (by rfl) rfl rfl (by (try simp only [List.map_toArray, List.map_cons, List.map_nil]); first | done | rfl) ?_
    with_reducible refine (same_ct A86 c86 A88 c88 (isortT l) HI6.out _ (S.out.own_C 1 rfl) HC86.out (S.out.own_C 0 rfl) HC88.out).mono ?_
    rintro e w89 ⟨rfl, hb⟩
    refine ⟨_, rfl, ?_⟩
    replace S := Aside0.mk (S.out.step hb)
    replace SB := Aside0.mk (SB.out.step hb)
    replace SD := Aside0.mk (SD.out.step hb)
    clear hb
    clear hHeld
    refine hK.out _ _ ⟨blk_cell (S.out.at_box 5 rfl) 0, blk_cell (S.out.at_box 5 rfl) 1, blk_cell (S.out.at_box 5 rfl) 2, blk_cell (S.out.at_box 5 rfl) 3⟩ (fun hHeld => ?_)
    clear hK K
    refine norm_ (a' := ?_) ?_ ?_
    rotate_left
    ·show Act.put _ (some 89) _ = _
     simp only [Act.put, dT16_n, i64_w, i32_w]
     rfl
    refine pure_ (i := 13) (N := some 90) (v := ?_) (a' := ?_) dT16_14 rfl rfl (any_of HT_.out (by kernel_rfl)) (fun _ _ _ h => h) (Or.inl ⟨by rfl, ?_⟩) ?_ ?_
    rotate_left
    ·intro w'
     go_simp
     with_reducible rfl
    rotate_left
    ·simp only [Act.put, dT16_n, i64_w, i32_w]
     rfl
    refine pure_ (i := 14) (N := some 91) (v := ?_) (a' := ?_) dT16_15 rfl rfl (any_of HT_.out (by kernel_rfl)) (fun _ _ _ h => h) (Or.inl ⟨by rfl, ?_⟩) ?_ ?_
    rotate_left
    ·intro w'
     go_simp
     with_reducible rfl
    rotate_left
    ·simp only [Act.put, dT16_n, i64_w, i32_w]
     rfl
    refine one_ (i := 15) (N := some 92) dT16_16 rfl rfl (one_of HT_.out (by kernel_rfl)) (by decide) (fun K hK => ?_)
    refine goes_ Try.func8 (by kernel_rfl) rfl #[] (by rfl) rfl rfl (by (try simp only [List.map_toArray, List.map_cons, List.map_nil]); first | done | rfl) ?_
    with_reducible refine (lives_ct _).mono ?_
    rintro e w92 ⟨rfl, hb⟩
    refine ⟨_, rfl, ?_⟩
    replace S := Aside0.mk (S.out.step hb)
    replace SB := Aside0.mk (SB.out.step hb)
    replace SD := Aside0.mk (SD.out.step hb)
    clear hb
    clear hHeld
    refine hK.out _ _ ⟨blk_cell (S.out.at_box 5 rfl) 0, blk_cell (S.out.at_box 5 rfl) 1, blk_cell (S.out.at_box 5 rfl) 2, blk_cell (S.out.at_box 5 rfl) 3⟩ (fun hHeld => ?_)
    clear hK K
    refine norm_ (a' := ?_) ?_ ?_
    rotate_left
    ·show Act.put _ (some 92) _ = _
     simp only [Act.put, dT16_n, i64_w, i32_w]
     rfl
    refine pure_ (i := 16) (N := some 93) (v := ?_) (a' := ?_) dT16_17 rfl rfl (any_of HT_.out (by kernel_rfl)) (fun _ _ _ h => h) (Or.inl ⟨by rfl, ?_⟩) ?_ ?_
    rotate_left
    ·intro w'
     go_simp
     with_reducible rfl
    rotate_left
    ·simp only [Act.put, dT16_n, i64_w, i32_w]
     rfl
    refine pure_ (i := 17) (N := some 8) (v := ?_) (a' := ?_) dT16_18 rfl rfl (any_of HT_.out (by kernel_rfl)) (fun _ _ _ h => h) (Or.inl ⟨by rfl, ?_⟩) ?_ ?_
    rotate_left
    ·intro w'
     go_simp
     with_reducible rfl
    rotate_left
    ·simp only [Act.put, dT16_n, i64_w, i32_w]
     rfl
    refine done_ (done_of HT_.out (by kernel_rfl)) ?_
    go_wp2
    go_ret
    exact ⟨rfl, S.out.below⟩
 ·have HFW := Aside0.mk (few_no hl)
  clear hl
  go_enter Try.func5, Try.ntmps5
  go_upto_region 1 with fail
  have S1 := Aside0.mk (S.out.alloc #[.int .i64 b.f0, .int .i64 b.f1, .int .i64 b.f2, .int .i64 b.f3] 24)
  refine wp_genS S1 (fun W1 S => ?_)
  clear S1
  go_wp2_with (first | (go_at_call 7; (with_reducible refine (mapmakerlaw34_few.calls A c l false _ (Kd.C_below HC.out S.out.below) HCC.out HFW.out).mono ?_); rintro e_ w7 ⟨rfl, hdn⟩; have hb := drawn_below hdn; replace S := Aside0.mk (S.out.step hb); clear hb hdn) | (go_at_call 8; (with_reducible refine (lives_ct _).mono ?_); rintro e_ w8 ⟨rfl, hb⟩; replace S := Aside0.mk (S.out.step hb); clear hb) | fail)
  go_ret
  exact ⟨rfl, S.out.below⟩
end Go.Proofs.Ytegkikdefckccaa.Hand
end
