-- Laid by a program of this work (wip/gen): out of the translation, with texts of our own.
import Derived.Test.YtdkegdnfbpobnaaPARSx0
import Derived.Test.YtdkegdnfbpobnaaPARSx1
namespace Go.Proofs.Ytdkegdnfbpobnaa.PARS
open Go.RowKit Go.Proofs.YtdkegdnfbpobnaaW.PrintWords Go.Proofs.YtdkegdnfbpobnaaW.PrintLast Go.Proofs.YtdkegdnfbpobnaaW.PrintMore Go.Proofs.YtdkegdnfbpobnaaW.SepW
attribute [local go_sem] max2_int min2_int max_two min_two max_three min_three max_four min_four   -- for this text's walks alone
set_option linter.unusedVariables false
set_option linter.unusedSimpArgs false

attribute [local go_sem high] eqA25
/-! ### mapmakerlaw29_within: function 19 -/
def mapmakerlaw29_within.l0 : Nat → List (S25) → Int → Option (Bool)
 | 0, _, _ => none
 | k + 1, x0, x3 => if x3 < (x0.length : Int) then (if 0 ≤ x3 then (if ((rd_T25 x0 x3).f0) < 0 then (some false) else (if ((rd_T25 x0 x3).f0) > 256 then (some false) else (if ((rd_T25 x0 x3).f1) < 0 then (some false) else (if ((rd_T25 x0 x3).f1) > 256 then (some false) else (if x3 > 0 then (if 0 ≤ (wrap64 (x3 - 1)) then (if (wrap64 (x3 - 1)) < (x0.length : Int) then (if (((rd_T25 x0 x3).f0) == ((rd_T25 x0 (wrap64 (x3 - 1))).f0) && (((rd_T25 x0 x3).f1) == ((rd_T25 x0 (wrap64 (x3 - 1))).f1))) = true then (some false) else (mapmakerlaw29_within.l0 k x0 (wrap64 (x3 + 1)))) else (none)) else (none)) else (mapmakerlaw29_within.l0 k x0 (wrap64 (x3 + 1)))))))) else (none)) else (some true)
def mapmakerlaw29_within.f (k : Nat) (l0 : List (S25)) : Option (Bool) := mapmakerlaw29_within.l0 k l0 0
theorem mapmakerlaw29_within.mono_l : ∀ k, (∀ y0 y1, LeO (mapmakerlaw29_within.l0 k y0 y1) (mapmakerlaw29_within.l0 (k + 1) y0 y1))
 | 0 => fun _ _ r h => by simp [mapmakerlaw29_within.l0] at h
 | k + 1 => by
  have ih0 := mapmakerlaw29_within.mono_l k
  ·intro y0 y1
   unfold mapmakerlaw29_within.l0
   repeat' first
   | (with_reducible exact ih0 _ _)
   | (with_reducible exact LeO.refl _)
   | (with_reducible exact LeO.none _)
   | (with_reducible refine LeO.ite ?_ ?_)
   | (with_reducible refine LeO.bind ?_ (fun _ => ?_))
   | exact ih0 _ _
   | exact LeO.none _
   | refine LeO.ite ?_ ?_
   | refine LeO.bind ?_ (fun _ => ?_)
theorem mapmakerlaw29_within.mono : ∀ a0 k, LeO (mapmakerlaw29_within.f k a0) (mapmakerlaw29_within.f (k + 1) a0) := by
 intro a0 k
 have ih0 := mapmakerlaw29_within.mono_l k
 unfold mapmakerlaw29_within.f
 repeat' first
   | (with_reducible exact ih0 _ _)
   | (with_reducible exact LeO.refl _)
   | (with_reducible exact LeO.none _)
   | (with_reducible refine LeO.ite ?_ ?_)
   | (with_reducible refine LeO.bind ?_ (fun _ => ?_))
   | exact ih0 _ _
   | exact LeO.none _
   | refine LeO.ite ?_ ?_
   | refine LeO.bind ?_ (fun _ => ?_)
set_option maxHeartbeats 8000000 in
set_option maxRecDepth 100000 in
theorem mapmakerlaw29_within.calls (k : Nat) (A0 : Option Addr) (c0 : Nat) (l0 : List (S25)) (r : Bool) (w : World) (hr0 : Kd.C k25 w A0 l0.length l0) (hc0 : l0.length ≤ c0) (h : mapmakerlaw29_within.f k l0 = some r) :
  Calls Try.prog 19 #[.slice A0 l0.length c0] w fun e w' => e = .returned (.bool r) ∧ Drawn0 w w' := by
 have hu25 := Try.underlying25
 have HR0 := Aside0.mk hr0
 have HC0 := Aside0.mk hc0
 clear hr0 hc0
 have H : (mapmakerlaw29_within.l0 k l0 0) = some r := h
 clear h
 have H' := Aside0.mk H
 clear H
 go_enter Try.func19, Try.ntmps19
 go_wp2
 repeat (go_quiet (fail); try go_wp2)
 go_loopg [3] k (fun kq v3 w' => ∃ (x3_1 : Int), v3 = .int .i64 x3_1 ∧ Aside0 (mapmakerlaw29_within.l0 kq l0 x3_1 = some r) ∧ Aside0 (kq ≤ k) ∧ Drawn0 w w')
 case atStart => exact ⟨(0), (by first | rfl | (simp; done) | (simp [*]; done)), H', ⟨Nat.le_refl _⟩, by repeat (first | exact Drawn0.refl _ | apply Drawn0.step)⟩
 case round =>
  clear H'
  try clear c1
  obtain ⟨x3_1, rfl, HA, HK1, ⟨m1, rfl⟩⟩ := hrel
  cases gk with
  | zero => exact absurd HA.out (by simp [mapmakerlaw29_within.l0])
  | succ k1 =>
   have H := HA.out
   clear HA
   simp only [mapmakerlaw29_within.l0] at H
   by_cases c2 : x3_1 < (l0.length : Int)
   ·rw [if_pos c2] at H
    have c2b0 : decide (x3_1 < (l0.length : Int)) = true := decide_eq_true c2
    clear c2
    by_cases c3 : 0 ≤ x3_1
    ·rw [if_pos c3] at H
     have c3b0 : decide (0 ≤ x3_1) = true := decide_eq_true c3
     clear c3
     by_cases c4 : ((rd_T25 l0 x3_1).f0) < 0
     ·rw [if_pos c4] at H
      have c4b0 : decide (((rd_T25 l0 x3_1).f0) < 0) = true := decide_eq_true c4
      clear c4
      obtain rfl := Option.some.inj H
      have p282 : 0 ≤ (x3_1 : Int) := of_decide_eq_true (by first | (with_reducible assumption) | assumption)
      have q282 : x3_1 < (l0.length : Int) := of_decide_eq_true (by first | (with_reducible assumption) | assumption)
      obtain ⟨ad282, e282, hx282_0, hx282_1⟩ := at_T25 HR0.out x3_1 p282 q282
      cases e282
      replace p282 := eq_true p282
      replace q282 := eq_true q282
      go_wp2
      repeat (go_quiet (fail); try go_wp2)
      go_ret
      exact ⟨by first | rfl | (simp; done) | (simp [*]; done), by repeat (first | exact Drawn0.refl _ | apply Drawn0.step)⟩
     ·rw [if_neg c4] at H
      have c4b0 : decide (((rd_T25 l0 x3_1).f0) < 0) = false := decide_eq_false c4
      clear c4
      by_cases c5 : ((rd_T25 l0 x3_1).f0) > 256
      ·rw [if_pos c5] at H
       have c5b0 : decide (256 < ((rd_T25 l0 x3_1).f0)) = true := decide_eq_true c5
       clear c5
       obtain rfl := Option.some.inj H
       have p282 : 0 ≤ (x3_1 : Int) := of_decide_eq_true (by first | (with_reducible assumption) | assumption)
       have q282 : x3_1 < (l0.length : Int) := of_decide_eq_true (by first | (with_reducible assumption) | assumption)
       obtain ⟨ad282, e282, hx282_0, hx282_1⟩ := at_T25 HR0.out x3_1 p282 q282
       cases e282
       replace p282 := eq_true p282
       replace q282 := eq_true q282
       have p283 : 0 ≤ (x3_1 : Int) := of_decide_eq_true (by first | (with_reducible assumption) | assumption)
       have q283 : x3_1 < (l0.length : Int) := of_decide_eq_true (by first | (with_reducible assumption) | assumption)
       obtain ⟨ad283, e283, hx283_0, hx283_1⟩ := at_T25 HR0.out x3_1 p283 q283
       obtain rfl : ad282 = ad283 := (by injection e283)
       replace p283 := eq_true p283
       replace q283 := eq_true q283
       go_wp2
       repeat (go_quiet (fail); try go_wp2)
       go_ret
       exact ⟨by first | rfl | (simp; done) | (simp [*]; done), by repeat (first | exact Drawn0.refl _ | apply Drawn0.step)⟩
      ·rw [if_neg c5] at H
       have c5b0 : decide (256 < ((rd_T25 l0 x3_1).f0)) = false := decide_eq_false c5
       clear c5
       by_cases c6 : ((rd_T25 l0 x3_1).f1) < 0
       ·rw [if_pos c6] at H
        have c6b0 : decide (((rd_T25 l0 x3_1).f1) < 0) = true := decide_eq_true c6
        clear c6
        obtain rfl := Option.some.inj H
        have p282 : 0 ≤ (x3_1 : Int) := of_decide_eq_true (by first | (with_reducible assumption) | assumption)
        have q282 : x3_1 < (l0.length : Int) := of_decide_eq_true (by first | (with_reducible assumption) | assumption)
        obtain ⟨ad282, e282, hx282_0, hx282_1⟩ := at_T25 HR0.out x3_1 p282 q282
        cases e282
        replace p282 := eq_true p282
        replace q282 := eq_true q282
        have p283 : 0 ≤ (x3_1 : Int) := of_decide_eq_true (by first | (with_reducible assumption) | assumption)
        have q283 : x3_1 < (l0.length : Int) := of_decide_eq_true (by first | (with_reducible assumption) | assumption)
        obtain ⟨ad283, e283, hx283_0, hx283_1⟩ := at_T25 HR0.out x3_1 p283 q283
        obtain rfl : ad282 = ad283 := (by injection e283)
        replace p283 := eq_true p283
        replace q283 := eq_true q283
        have p284 : 0 ≤ (x3_1 : Int) := of_decide_eq_true (by first | (with_reducible assumption) | assumption)
        have q284 : x3_1 < (l0.length : Int) := of_decide_eq_true (by first | (with_reducible assumption) | assumption)
        obtain ⟨ad284, e284, hx284_0, hx284_1⟩ := at_T25 HR0.out x3_1 p284 q284
        obtain rfl : ad282 = ad284 := (by injection e284)
        replace p284 := eq_true p284
        replace q284 := eq_true q284
        go_wp2
        repeat (go_quiet (fail); try go_wp2)
        go_ret
        exact ⟨by first | rfl | (simp; done) | (simp [*]; done), by repeat (first | exact Drawn0.refl _ | apply Drawn0.step)⟩
       ·rw [if_neg c6] at H
        have c6b0 : decide (((rd_T25 l0 x3_1).f1) < 0) = false := decide_eq_false c6
        clear c6
        by_cases c7 : ((rd_T25 l0 x3_1).f1) > 256
        ·rw [if_pos c7] at H
         have c7b0 : decide (256 < ((rd_T25 l0 x3_1).f1)) = true := decide_eq_true c7
         clear c7
         obtain rfl := Option.some.inj H
         have p282 : 0 ≤ (x3_1 : Int) := of_decide_eq_true (by first | (with_reducible assumption) | assumption)
         have q282 : x3_1 < (l0.length : Int) := of_decide_eq_true (by first | (with_reducible assumption) | assumption)
         obtain ⟨ad282, e282, hx282_0, hx282_1⟩ := at_T25 HR0.out x3_1 p282 q282
         cases e282
         replace p282 := eq_true p282
         replace q282 := eq_true q282
         have p283 : 0 ≤ (x3_1 : Int) := of_decide_eq_true (by first | (with_reducible assumption) | assumption)
         have q283 : x3_1 < (l0.length : Int) := of_decide_eq_true (by first | (with_reducible assumption) | assumption)
         obtain ⟨ad283, e283, hx283_0, hx283_1⟩ := at_T25 HR0.out x3_1 p283 q283
         obtain rfl : ad282 = ad283 := (by injection e283)
         replace p283 := eq_true p283
         replace q283 := eq_true q283
         have p284 : 0 ≤ (x3_1 : Int) := of_decide_eq_true (by first | (with_reducible assumption) | assumption)
         have q284 : x3_1 < (l0.length : Int) := of_decide_eq_true (by first | (with_reducible assumption) | assumption)
         obtain ⟨ad284, e284, hx284_0, hx284_1⟩ := at_T25 HR0.out x3_1 p284 q284
         obtain rfl : ad282 = ad284 := (by injection e284)
         replace p284 := eq_true p284
         replace q284 := eq_true q284
         have p285 : 0 ≤ (x3_1 : Int) := of_decide_eq_true (by first | (with_reducible assumption) | assumption)
         have q285 : x3_1 < (l0.length : Int) := of_decide_eq_true (by first | (with_reducible assumption) | assumption)
         obtain ⟨ad285, e285, hx285_0, hx285_1⟩ := at_T25 HR0.out x3_1 p285 q285
         obtain rfl : ad282 = ad285 := (by injection e285)
         replace p285 := eq_true p285
         replace q285 := eq_true q285
         go_wp2
         repeat (go_quiet (fail); try go_wp2)
         go_ret
         exact ⟨by first | rfl | (simp; done) | (simp [*]; done), by repeat (first | exact Drawn0.refl _ | apply Drawn0.step)⟩
        ·rw [if_neg c7] at H
         have c7b0 : decide (256 < ((rd_T25 l0 x3_1).f1)) = false := decide_eq_false c7
         clear c7
         by_cases c8 : x3_1 > 0
         ·rw [if_pos c8] at H
          have c8b0 : decide (0 < x3_1) = true := decide_eq_true c8
          clear c8
          obtain ⟨ji9, hji9⟩ : ∃ j_ : Int, (wrap64 (x3_1 - 1)) = j_ := ⟨_, rfl⟩
          replace H : (if 0 ≤ (ji9) then (if (ji9) < (l0.length : Int) then (if (((rd_T25 l0 x3_1).f0) == ((rd_T25 l0 (ji9)).f0) && (((rd_T25 l0 x3_1).f1) == ((rd_T25 l0 (ji9)).f1))) = true then (some false) else (mapmakerlaw29_within.l0 k1 l0 (wrap64 (x3_1 + 1)))) else (none)) else (none)) = some r := by first | (rw [hji9] at H; exact H) | (simp only [hji9] at H ⊢; exact H)
          have hji9w : (IntKind.i64.wrap (x3_1 - 1)) = ji9 := (i64_w _).trans hji9
          by_cases c10 : 0 ≤ (ji9)
          ·rw [if_pos c10] at H
           have c10b0 : decide (0 ≤ (ji9)) = true := decide_eq_true c10
           clear c10
           by_cases c11 : (ji9) < (l0.length : Int)
           ·rw [if_pos c11] at H
            have c11b0 : decide ((ji9) < (l0.length : Int)) = true := decide_eq_true c11
            clear c11
            by_cases c12 : (((rd_T25 l0 x3_1).f0) == ((rd_T25 l0 (ji9)).f0) && (((rd_T25 l0 x3_1).f1) == ((rd_T25 l0 (ji9)).f1))) = true
            ·rw [if_pos c12] at H
             have c12b0 : (((rd_T25 l0 x3_1).f0) == ((rd_T25 l0 (ji9)).f0) && (((rd_T25 l0 x3_1).f1) == ((rd_T25 l0 (ji9)).f1))) = true := c12
             (try (have c12b1 : decide (((rd_T25 l0 x3_1).f0) = ((rd_T25 l0 (ji9)).f0) && (((rd_T25 l0 x3_1).f1) == ((rd_T25 l0 (ji9)).f1))) = true := by simpa using c12))
             (try (have c12b2 : (((rd_T25 l0 x3_1).f0) == ((rd_T25 l0 (ji9)).f0) && (((rd_T25 l0 x3_1).f1) == ((rd_T25 l0 (ji9)).f1))) = true := by simpa using c12))
             clear c12
             obtain rfl := Option.some.inj H
             have p282 : 0 ≤ (x3_1 : Int) := of_decide_eq_true (by first | (with_reducible assumption) | assumption)
             have q282 : x3_1 < (l0.length : Int) := of_decide_eq_true (by first | (with_reducible assumption) | assumption)
             obtain ⟨ad282, e282, hx282_0, hx282_1⟩ := at_T25 HR0.out x3_1 p282 q282
             cases e282
             replace p282 := eq_true p282
             replace q282 := eq_true q282
             have p283 : 0 ≤ (x3_1 : Int) := of_decide_eq_true (by first | (with_reducible assumption) | assumption)
             have q283 : x3_1 < (l0.length : Int) := of_decide_eq_true (by first | (with_reducible assumption) | assumption)
             obtain ⟨ad283, e283, hx283_0, hx283_1⟩ := at_T25 HR0.out x3_1 p283 q283
             obtain rfl : ad282 = ad283 := (by injection e283)
             replace p283 := eq_true p283
             replace q283 := eq_true q283
             have p284 : 0 ≤ (x3_1 : Int) := of_decide_eq_true (by first | (with_reducible assumption) | assumption)
             have q284 : x3_1 < (l0.length : Int) := of_decide_eq_true (by first | (with_reducible assumption) | assumption)
             obtain ⟨ad284, e284, hx284_0, hx284_1⟩ := at_T25 HR0.out x3_1 p284 q284
             obtain rfl : ad282 = ad284 := (by injection e284)
             replace p284 := eq_true p284
             replace q284 := eq_true q284
             have p285 : 0 ≤ (x3_1 : Int) := of_decide_eq_true (by first | (with_reducible assumption) | assumption)
             have q285 : x3_1 < (l0.length : Int) := of_decide_eq_true (by first | (with_reducible assumption) | assumption)
             obtain ⟨ad285, e285, hx285_0, hx285_1⟩ := at_T25 HR0.out x3_1 p285 q285
             obtain rfl : ad282 = ad285 := (by injection e285)
             replace p285 := eq_true p285
             replace q285 := eq_true q285
             have p286 : 0 ≤ (x3_1 : Int) := of_decide_eq_true (by first | (with_reducible assumption) | assumption)
             have q286 : x3_1 < (l0.length : Int) := of_decide_eq_true (by first | (with_reducible assumption) | assumption)
             obtain ⟨ad286, e286, hx286_0, hx286_1⟩ := at_T25 HR0.out x3_1 p286 q286
             obtain rfl : ad282 = ad286 := (by injection e286)
             replace p286 := eq_true p286
             replace q286 := eq_true q286
             have p287 : 0 ≤ ((ji9) : Int) := of_decide_eq_true (by first | (with_reducible assumption) | assumption)
             have q287 : (ji9) < (l0.length : Int) := of_decide_eq_true (by first | (with_reducible assumption) | assumption)
             obtain ⟨ad287, e287, hx287_0, hx287_1⟩ := at_T25 HR0.out (ji9) p287 q287
             obtain rfl : ad282 = ad287 := (by injection e287)
             replace p287 := eq_true p287
             replace q287 := eq_true q287
             go_wp2
             repeat (go_quiet (fail); try go_wp2)
             go_ret
             exact ⟨by first | rfl | (simp; done) | (simp only [← hji9] <;> (first | rfl | simp)) | (simp [*]; done), by repeat (first | exact Drawn0.refl _ | apply Drawn0.step)⟩
            ·rw [if_neg c12] at H
             have c12b0 : (((rd_T25 l0 x3_1).f0) == ((rd_T25 l0 (ji9)).f0) && (((rd_T25 l0 x3_1).f1) == ((rd_T25 l0 (ji9)).f1))) = false := by simpa using c12
             (try (have c12b1 : decide (((rd_T25 l0 x3_1).f0) = ((rd_T25 l0 (ji9)).f0) && (((rd_T25 l0 x3_1).f1) == ((rd_T25 l0 (ji9)).f1))) = false := by simpa using c12))
             (try (have c12b2 : (((rd_T25 l0 x3_1).f0) == ((rd_T25 l0 (ji9)).f0) && (((rd_T25 l0 x3_1).f1) == ((rd_T25 l0 (ji9)).f1))) = false := by simpa using c12))
             (try (have c12b3 : ¬ (((rd_T25 l0 x3_1).f0) = ((rd_T25 l0 (ji9)).f0) && (((rd_T25 l0 x3_1).f1) == ((rd_T25 l0 (ji9)).f1))) := by simpa using c12))
             clear c12
             have H' := Aside0.mk H
             clear H
             have p282 : 0 ≤ (x3_1 : Int) := of_decide_eq_true (by first | (with_reducible assumption) | assumption)
             have q282 : x3_1 < (l0.length : Int) := of_decide_eq_true (by first | (with_reducible assumption) | assumption)
             obtain ⟨ad282, e282, hx282_0, hx282_1⟩ := at_T25 HR0.out x3_1 p282 q282
             cases e282
             replace p282 := eq_true p282
             replace q282 := eq_true q282
             have p283 : 0 ≤ (x3_1 : Int) := of_decide_eq_true (by first | (with_reducible assumption) | assumption)
             have q283 : x3_1 < (l0.length : Int) := of_decide_eq_true (by first | (with_reducible assumption) | assumption)
             obtain ⟨ad283, e283, hx283_0, hx283_1⟩ := at_T25 HR0.out x3_1 p283 q283
             obtain rfl : ad282 = ad283 := (by injection e283)
             replace p283 := eq_true p283
             replace q283 := eq_true q283
             have p284 : 0 ≤ (x3_1 : Int) := of_decide_eq_true (by first | (with_reducible assumption) | assumption)
             have q284 : x3_1 < (l0.length : Int) := of_decide_eq_true (by first | (with_reducible assumption) | assumption)
             obtain ⟨ad284, e284, hx284_0, hx284_1⟩ := at_T25 HR0.out x3_1 p284 q284
             obtain rfl : ad282 = ad284 := (by injection e284)
             replace p284 := eq_true p284
             replace q284 := eq_true q284
             have p285 : 0 ≤ (x3_1 : Int) := of_decide_eq_true (by first | (with_reducible assumption) | assumption)
             have q285 : x3_1 < (l0.length : Int) := of_decide_eq_true (by first | (with_reducible assumption) | assumption)
             obtain ⟨ad285, e285, hx285_0, hx285_1⟩ := at_T25 HR0.out x3_1 p285 q285
             obtain rfl : ad282 = ad285 := (by injection e285)
             replace p285 := eq_true p285
             replace q285 := eq_true q285
             have p286 : 0 ≤ (x3_1 : Int) := of_decide_eq_true (by first | (with_reducible assumption) | assumption)
             have q286 : x3_1 < (l0.length : Int) := of_decide_eq_true (by first | (with_reducible assumption) | assumption)
             obtain ⟨ad286, e286, hx286_0, hx286_1⟩ := at_T25 HR0.out x3_1 p286 q286
             obtain rfl : ad282 = ad286 := (by injection e286)
             replace p286 := eq_true p286
             replace q286 := eq_true q286
             have p287 : 0 ≤ ((ji9) : Int) := of_decide_eq_true (by first | (with_reducible assumption) | assumption)
             have q287 : (ji9) < (l0.length : Int) := of_decide_eq_true (by first | (with_reducible assumption) | assumption)
             obtain ⟨ad287, e287, hx287_0, hx287_1⟩ := at_T25 HR0.out (ji9) p287 q287
             obtain rfl : ad282 = ad287 := (by injection e287)
             replace p287 := eq_true p287
             replace q287 := eq_true q287
             go_wp2
             repeat (go_quiet (fail); try go_wp2)
             go_roundg k1
             case measure => have := HK1.out; omega
             case rel => exact ⟨(wrap64 (x3_1 + 1)), (by first | rfl | (simp; done) | (simp [*]; done)), H', ⟨by have := HK1.out; omega⟩, by repeat (first | exact Drawn0.refl _ | apply Drawn0.step)⟩
           ·rw [if_neg c11] at H
            exact absurd H (by simp)
          ·rw [if_neg c10] at H
           exact absurd H (by simp)
         ·rw [if_neg c8] at H
          have c8b0 : decide (0 < x3_1) = false := decide_eq_false c8
          clear c8
          have H' := Aside0.mk H
          clear H
          have p282 : 0 ≤ (x3_1 : Int) := of_decide_eq_true (by first | (with_reducible assumption) | assumption)
          have q282 : x3_1 < (l0.length : Int) := of_decide_eq_true (by first | (with_reducible assumption) | assumption)
          obtain ⟨ad282, e282, hx282_0, hx282_1⟩ := at_T25 HR0.out x3_1 p282 q282
          cases e282
          replace p282 := eq_true p282
          replace q282 := eq_true q282
          have p283 : 0 ≤ (x3_1 : Int) := of_decide_eq_true (by first | (with_reducible assumption) | assumption)
          have q283 : x3_1 < (l0.length : Int) := of_decide_eq_true (by first | (with_reducible assumption) | assumption)
          obtain ⟨ad283, e283, hx283_0, hx283_1⟩ := at_T25 HR0.out x3_1 p283 q283
          obtain rfl : ad282 = ad283 := (by injection e283)
          replace p283 := eq_true p283
          replace q283 := eq_true q283
          have p284 : 0 ≤ (x3_1 : Int) := of_decide_eq_true (by first | (with_reducible assumption) | assumption)
          have q284 : x3_1 < (l0.length : Int) := of_decide_eq_true (by first | (with_reducible assumption) | assumption)
          obtain ⟨ad284, e284, hx284_0, hx284_1⟩ := at_T25 HR0.out x3_1 p284 q284
          obtain rfl : ad282 = ad284 := (by injection e284)
          replace p284 := eq_true p284
          replace q284 := eq_true q284
          have p285 : 0 ≤ (x3_1 : Int) := of_decide_eq_true (by first | (with_reducible assumption) | assumption)
          have q285 : x3_1 < (l0.length : Int) := of_decide_eq_true (by first | (with_reducible assumption) | assumption)
          obtain ⟨ad285, e285, hx285_0, hx285_1⟩ := at_T25 HR0.out x3_1 p285 q285
          obtain rfl : ad282 = ad285 := (by injection e285)
          replace p285 := eq_true p285
          replace q285 := eq_true q285
          go_wp2
          repeat (go_quiet (fail); try go_wp2)
          go_roundg k1
          case measure => have := HK1.out; omega
          case rel => exact ⟨(wrap64 (x3_1 + 1)), (by first | rfl | (simp; done) | (simp [*]; done)), H', ⟨by have := HK1.out; omega⟩, by repeat (first | exact Drawn0.refl _ | apply Drawn0.step)⟩
    ·rw [if_neg c3] at H
     exact absurd H (by simp)
   ·rw [if_neg c2] at H
    have c2b0 : decide (x3_1 < (l0.length : Int)) = false := decide_eq_false c2
    clear c2
    obtain rfl := Option.some.inj H
    go_wp2
    repeat (go_quiet (fail); try go_wp2)
    go_ret
    exact ⟨by first | rfl | (simp; done) | (simp [*]; done), by repeat (first | exact Drawn0.refl _ | apply Drawn0.step)⟩

-- NOT PRINTED: function 7 (mapmakerlaw29_QuantRanges)

end Go.Proofs.Ytdkegdnfbpobnaa.PARS
