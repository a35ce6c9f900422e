-- Laid by a program of this work (wip/gen): out of the translation, with texts of our own.
import Derived.Test.YtdkegdnfbpobnaaPARSx0
import Derived.Test.YtdkegdnfbpobnaaPARSx1
import Derived.Test.YtdkegdnfbpobnaaPARSx3
namespace Go.Proofs.Ytdkegdnfbpobnaa.PARS
open Go.RowKit Go.Proofs.YtdkegdnfbpobnaaW.PrintWords Go.Proofs.YtdkegdnfbpobnaaW.PrintLast Go.Proofs.YtdkegdnfbpobnaaW.PrintMore Go.Proofs.YtdkegdnfbpobnaaW.SepW
attribute [local go_sem] max2_int min2_int max_two min_two max_three min_three max_four min_four   -- for this text's walks alone
set_option linter.unusedVariables false
set_option linter.unusedSimpArgs false

attribute [local go_sem high] eqA25
/-! ### mapmakerlaw22_Few: function 16 -/
def mapmakerlaw22_Few.l0 : Nat → List (List (S25)) → Int → Option (Bool)
 | 0, _, _ => none
 | k + 1, x0, x3 => if x3 < (x0.length : Int) then (if 0 ≤ x3 then (if ((rd_L5 x0 x3).length : Int) > 30 then (some false) else (mapmakerlaw22_Few.l0 k x0 (wrap64 (x3 + 1)))) else (none)) else (some true)
def mapmakerlaw22_Few.f (k : Nat) (l0 : List (List (S25))) : Option (Bool) := if (l0.length : Int) > 12 then (some false) else (mapmakerlaw22_Few.l0 k l0 0)
theorem mapmakerlaw22_Few.mono_l : ∀ k, (∀ y0 y1, LeO (mapmakerlaw22_Few.l0 k y0 y1) (mapmakerlaw22_Few.l0 (k + 1) y0 y1))
 | 0 => fun _ _ r h => by simp [mapmakerlaw22_Few.l0] at h
 | k + 1 => by
  have ih0 := mapmakerlaw22_Few.mono_l k
  ·intro y0 y1
   unfold mapmakerlaw22_Few.l0
   repeat' first
   | (with_reducible exact ih0 _ _)
   | (with_reducible exact LeO.refl _)
   | (with_reducible exact LeO.none _)
   | (with_reducible refine LeO.ite ?_ ?_)
   | (with_reducible refine LeO.bind ?_ (fun _ => ?_))
   | exact ih0 _ _
   | exact LeO.none _
   | refine LeO.ite ?_ ?_
   | refine LeO.bind ?_ (fun _ => ?_)
theorem mapmakerlaw22_Few.mono : ∀ a0 k, LeO (mapmakerlaw22_Few.f k a0) (mapmakerlaw22_Few.f (k + 1) a0) := by
 intro a0 k
 have ih0 := mapmakerlaw22_Few.mono_l k
 unfold mapmakerlaw22_Few.f
 repeat' first
   | (with_reducible exact ih0 _ _)
   | (with_reducible exact LeO.refl _)
   | (with_reducible exact LeO.none _)
   | (with_reducible refine LeO.ite ?_ ?_)
   | (with_reducible refine LeO.bind ?_ (fun _ => ?_))
   | exact ih0 _ _
   | exact LeO.none _
   | refine LeO.ite ?_ ?_
   | refine LeO.bind ?_ (fun _ => ?_)
set_option maxHeartbeats 8000000 in
set_option maxRecDepth 100000 in
theorem mapmakerlaw22_Few.calls (k : Nat) (A0 : Option Addr) (c0 : Nat) (l0 : List (List (S25))) (r : Bool) (w : World) (hr0 : Kd.C (Kd.slice 25 k25) w A0 l0.length l0) (hc0 : l0.length ≤ c0) (h : mapmakerlaw22_Few.f k l0 = some r) :
  Calls Try.prog 16 #[.slice A0 l0.length c0] w fun e w' => e = .returned (.bool r) ∧ Drawn0 w w' := by
 have HR0 := Aside0.mk hr0
 have HC0 := Aside0.mk hc0
 clear hr0 hc0
 have H : (if (l0.length : Int) > 12 then (some false) else (mapmakerlaw22_Few.l0 k l0 0)) = some r := h
 clear h
 by_cases c2 : (l0.length : Int) > 12
 ·rw [if_pos c2] at H
  have c2b0 : decide (12 < (l0.length : Int)) = true := decide_eq_true c2
  have c2b1 : decide (12 < l0.length) = true := decide_eq_true (by omega)
  clear c2
  obtain rfl := Option.some.inj H
  go_enter Try.func16, Try.ntmps16
  go_wp2
  go_ret
  exact ⟨by first | rfl | (simp; done) | (simp [*]; done), by repeat (first | exact Drawn0.refl _ | apply Drawn0.step)⟩
 ·rw [if_neg c2] at H
  have c2b0 : decide (12 < (l0.length : Int)) = false := decide_eq_false c2
  have c2b1 : decide (12 < l0.length) = false := decide_eq_false (by omega)
  clear c2
  have H' := Aside0.mk H
  clear H
  go_enter Try.func16, Try.ntmps16
  go_wp2
  go_loopg [3] k (fun kq v3 w' => ∃ (x3_1 : Int), v3 = .int .i64 x3_1 ∧ Aside0 (mapmakerlaw22_Few.l0 kq l0 x3_1 = some r) ∧ Aside0 (kq ≤ k) ∧ Drawn0 w w')
  case atStart => exact ⟨(0), (by first | rfl | (simp; done) | (simp [*]; done)), H', ⟨Nat.le_refl _⟩, by repeat (first | exact Drawn0.refl _ | apply Drawn0.step)⟩
  case round =>
   clear H'
   try clear c1
   try clear c2
   try clear c2b0
   try clear c2b1
   try clear p2
   obtain ⟨x3_1, rfl, HA, HK1, ⟨m1, rfl⟩⟩ := hrel
   cases gk with
   | zero => exact absurd HA.out (by simp [mapmakerlaw22_Few.l0])
   | succ k1 =>
    have H := HA.out
    clear HA
    simp only [mapmakerlaw22_Few.l0] at H
    by_cases c3 : x3_1 < (l0.length : Int)
    ·rw [if_pos c3] at H
     have c3b0 : decide (x3_1 < (l0.length : Int)) = true := decide_eq_true c3
     clear c3
     by_cases c4 : 0 ≤ x3_1
     ·rw [if_pos c4] at H
      have c4b0 : decide (0 ≤ x3_1) = true := decide_eq_true c4
      clear c4
      by_cases c5 : ((rd_L5 l0 x3_1).length : Int) > 30
      ·rw [if_pos c5] at H
       have c5b0 : decide (30 < ((rd_L5 l0 x3_1).length : Int)) = true := decide_eq_true c5
       have c5b1 : decide (30 < (rd_L5 l0 x3_1).length) = true := decide_eq_true (by omega)
       clear c5
       obtain rfl := Option.some.inj H
       have p173 : 0 ≤ (x3_1 : Int) := of_decide_eq_true (by first | (with_reducible assumption) | assumption)
       have q173 : x3_1 < (l0.length : Int) := of_decide_eq_true (by first | (with_reducible assumption) | assumption)
       obtain ⟨ad173, A173_0, c173_0, e173, hx173_0, hl173_0, hi173_0⟩ := at_L5 HR0.out x3_1 p173 q173
       cases e173
       have HR173_0 := Aside0.mk hi173_0
       have HC173_0 := Aside0.mk hl173_0
       clear hi173_0 hl173_0
       replace p173 := eq_true p173
       replace q173 := eq_true q173
       go_wp2
       go_ret
       exact ⟨by first | rfl | (simp; done) | (simp [*]; done), by repeat (first | exact Drawn0.refl _ | apply Drawn0.step)⟩
      ·rw [if_neg c5] at H
       have c5b0 : decide (30 < ((rd_L5 l0 x3_1).length : Int)) = false := decide_eq_false c5
       have c5b1 : decide (30 < (rd_L5 l0 x3_1).length) = false := decide_eq_false (by omega)
       clear c5
       have H' := Aside0.mk H
       clear H
       have p173 : 0 ≤ (x3_1 : Int) := of_decide_eq_true (by first | (with_reducible assumption) | assumption)
       have q173 : x3_1 < (l0.length : Int) := of_decide_eq_true (by first | (with_reducible assumption) | assumption)
       obtain ⟨ad173, A173_0, c173_0, e173, hx173_0, hl173_0, hi173_0⟩ := at_L5 HR0.out x3_1 p173 q173
       cases e173
       have HR173_0 := Aside0.mk hi173_0
       have HC173_0 := Aside0.mk hl173_0
       clear hi173_0 hl173_0
       replace p173 := eq_true p173
       replace q173 := eq_true q173
       go_wp2
       go_roundg k1
       case measure => have := HK1.out; omega
       case rel => exact ⟨(wrap64 (x3_1 + 1)), (by first | rfl | (simp; done) | (simp [*]; done)), H', ⟨by have := HK1.out; omega⟩, by repeat (first | exact Drawn0.refl _ | apply Drawn0.step)⟩
     ·rw [if_neg c4] at H
      exact absurd H (by simp)
    ·rw [if_neg c3] at H
     have c3b0 : decide (x3_1 < (l0.length : Int)) = false := decide_eq_false c3
     clear c3
     obtain rfl := Option.some.inj H
     go_wp2
     go_ret
     exact ⟨by first | rfl | (simp; done) | (simp [*]; done), by repeat (first | exact Drawn0.refl _ | apply Drawn0.step)⟩

/-! ### clip_TidyRing: function 32 -/
def clip_TidyRing.l0 : Nat → List (S25) → Option ((List (S25)))
 | 0, _ => none
 | k + 1, x3 => if (x3.length : Int) > 1 then (if 0 ≤ (wrap64 ((x3.length : Int) - 1)) then (if (wrap64 ((x3.length : Int) - 1)) < (x3.length : Int) then (if 0 < (x3.length : Int) then (if (((rd_T25 x3 (wrap64 ((x3.length : Int) - 1))).f0) == ((rd_T25 x3 0).f0) && (((rd_T25 x3 (wrap64 ((x3.length : Int) - 1))).f1) == ((rd_T25 x3 0).f1))) = true then (if (wrap64 ((x3.length : Int) - 1)) ≤ (x3.length : Int) then (clip_TidyRing.l0 k (x3.take ((wrap64 ((x3.length : Int) - 1)) : Int).toNat)) else (none)) else (if (x3.length : Int) < 3 then (some ([] : List (S25))) else (some x3))) else (none)) else (none)) else (none)) else (if (x3.length : Int) < 3 then (some ([] : List (S25))) else (some x3))
def clip_TidyRing.f (k : Nat) (l0 : List (S25)) : Option ((List (S25))) := (clip_Tidy.f k l0).bind fun t174 => (clip_TidyRing.l0 k t174)
theorem clip_TidyRing.mono_l : ∀ k, (∀ y0, LeO (clip_TidyRing.l0 k y0) (clip_TidyRing.l0 (k + 1) y0))
 | 0 => fun _ r h => by simp [clip_TidyRing.l0] at h
 | k + 1 => by
  have ih0 := clip_TidyRing.mono_l k
  ·intro y0
   unfold clip_TidyRing.l0
   repeat' first
   | (with_reducible exact ih0 _)
   | (with_reducible exact clip_Tidy.mono _ _)
   | (with_reducible exact LeO.refl _)
   | (with_reducible exact LeO.none _)
   | (with_reducible refine LeO.ite ?_ ?_)
   | (with_reducible refine LeO.bind ?_ (fun _ => ?_))
   | exact ih0 _
   | exact clip_Tidy.mono _ _
   | exact LeO.none _
   | refine LeO.ite ?_ ?_
   | refine LeO.bind ?_ (fun _ => ?_)
theorem clip_TidyRing.mono : ∀ a0 k, LeO (clip_TidyRing.f k a0) (clip_TidyRing.f (k + 1) a0) := by
 intro a0 k
 have ih0 := clip_TidyRing.mono_l k
 unfold clip_TidyRing.f
 repeat' first
   | (with_reducible exact ih0 _)
   | (with_reducible exact clip_Tidy.mono _ _)
   | (with_reducible exact LeO.refl _)
   | (with_reducible exact LeO.none _)
   | (with_reducible refine LeO.ite ?_ ?_)
   | (with_reducible refine LeO.bind ?_ (fun _ => ?_))
   | exact ih0 _
   | exact clip_Tidy.mono _ _
   | exact LeO.none _
   | refine LeO.ite ?_ ?_
   | refine LeO.bind ?_ (fun _ => ?_)
set_option maxHeartbeats 8000000 in
set_option maxRecDepth 100000 in
theorem clip_TidyRing.calls (k : Nat) (A0 : Option Addr) (c0 : Nat) (l0 : List (S25)) (r : List (S25)) (w : World) (hr0 : Kd.C k25 w A0 l0.length l0) (hc0 : l0.length ≤ c0) (h : clip_TidyRing.f k l0 = some r) :
  Calls Try.prog 32 #[.slice A0 l0.length c0] w fun e w' => ∃ v0_ : Value, e = .returned (v0_) ∧ Kd.R k25 25 w' w.heap.size (fun _ => True) v0_ r ∧ Below w.heap.size w w' := by
 have hu25 := Try.underlying25
 have HR0 := Aside0.mk hr0
 have HC0 := Aside0.mk hc0
 clear hr0 hc0
 have HB := Aside0.mk (Below.refl w.heap.size w)
 have H : ((clip_Tidy.f k l0).bind fun t174 => (clip_TidyRing.l0 k t174)) = some r := h
 clear h
 replace H := Option.bind_eq_some_iff.mp H
 obtain ⟨t174, A20, H⟩ := H
 replace H : (clip_TidyRing.l0 k t174) = some r := H
 have A2 := Aside0.mk A20
 clear A20
 have H' := Aside0.mk H
 clear H
 go_enter Try.func32, Try.ntmps32
 go_wp2_with (first | (go_at_call 27; (with_reducible refine (clip_Tidy.calls k _ _ l0 t174 _ ?side1 ?side2 A2.out).mono ?_); (case side1 => repeat (first | exact HR0.out | (with_reducible refine Kd.C_alloc ?_ _) | (with_reducible refine Kd.C_drewN ?_ _) | (with_reducible refine Kd.C_drew ?_))); (case side2 => exact HC0.out); rintro e w3 ⟨v175, rfl, ho0, hb⟩; have n0_ := Aside0.mk (Kd.R_lower ho0 (below_size (by repeat (first | (with_reducible first | exact HB.out | apply below_alloc | apply pw_below_drewN | apply below_drew1) | exact HB.out)))); have n1_ := Aside0.mk (below_step (by repeat (first | (with_reducible first | exact HB.out | apply below_alloc | apply pw_below_drewN | apply below_drew1) | exact HB.out)) hb); clear HB; have HO176 := n0_; have HB := n1_; clear n0_ n1_; (try clear hb); (try clear hb2); (try clear hk); (try clear hi); (try clear ho0)))
 repeat (go_quiet (first | (go_at_call 27; (with_reducible refine (clip_Tidy.calls k _ _ l0 t174 _ ?side1 ?side2 A2.out).mono ?_); (case side1 => repeat (first | exact HR0.out | (with_reducible refine Kd.C_alloc ?_ _) | (with_reducible refine Kd.C_drewN ?_ _) | (with_reducible refine Kd.C_drew ?_))); (case side2 => exact HC0.out); rintro e w3 ⟨v175, rfl, ho0, hb⟩; have n0_ := Aside0.mk (Kd.R_lower ho0 (below_size (by repeat (first | (with_reducible first | exact HB.out | apply below_alloc | apply pw_below_drewN | apply below_drew1) | exact HB.out)))); have n1_ := Aside0.mk (below_step (by repeat (first | (with_reducible first | exact HB.out | apply below_alloc | apply pw_below_drewN | apply below_drew1) | exact HB.out)) hb); clear HB; have HO176 := n0_; have HB := n1_; clear n0_ n1_; (try clear hb); (try clear hb2); (try clear hk); (try clear hi); (try clear ho0))); try go_wp2_with (first | (go_at_call 27; (with_reducible refine (clip_Tidy.calls k _ _ l0 t174 _ ?side1 ?side2 A2.out).mono ?_); (case side1 => repeat (first | exact HR0.out | (with_reducible refine Kd.C_alloc ?_ _) | (with_reducible refine Kd.C_drewN ?_ _) | (with_reducible refine Kd.C_drew ?_))); (case side2 => exact HC0.out); rintro e w3 ⟨v175, rfl, ho0, hb⟩; have n0_ := Aside0.mk (Kd.R_lower ho0 (below_size (by repeat (first | (with_reducible first | exact HB.out | apply below_alloc | apply pw_below_drewN | apply below_drew1) | exact HB.out)))); have n1_ := Aside0.mk (below_step (by repeat (first | (with_reducible first | exact HB.out | apply below_alloc | apply pw_below_drewN | apply below_drew1) | exact HB.out)) hb); clear HB; have HO176 := n0_; have HB := n1_; clear n0_ n1_; (try clear hb); (try clear hb2); (try clear hk); (try clear hi); (try clear ho0))))
 go_loopg [3] k (fun kq v3 w' => ∃ (x3_1 : List (S25)), Aside0 (clip_TidyRing.l0 kq x3_1 = some r) ∧ Aside0 (kq ≤ k) ∧ Aside0 (Kd.R k25 25 w' w.heap.size (fun _ => True) v3 x3_1) ∧ Aside0 (Below w.heap.size w w'))
 case atStart => exact ⟨(t174), H', ⟨Nat.le_refl _⟩, ⟨by (with_reducible repeat (first | apply Kd.R_alloc | apply Kd.R_drewN | apply Kd.R_drew)); exact HO176.out⟩, ⟨by repeat (first | (with_reducible first | exact HB.out | apply below_alloc | apply pw_below_drewN | apply below_drew1) | exact HB.out)⟩⟩
 case round =>
  clear H'
  try clear p2
  try clear c3
  obtain ⟨x3_1, HA, HK1, HO_3, HB⟩ := hrel
  cases gk with
  | zero => exact absurd HA.out (by simp [clip_TidyRing.l0])
  | succ k1 =>
   have H := HA.out
   clear HA
   simp only [clip_TidyRing.l0] at H
   by_cases c4 : (x3_1.length : Int) > 1
   ·rw [if_pos c4] at H
    have c4b0 : decide (1 < (x3_1.length : Int)) = true := decide_eq_true c4
    have c4b1 : decide (1 < x3_1.length) = true := decide_eq_true (by omega)
    clear c4
    obtain ⟨ji5, hji5⟩ : ∃ j_ : Int, (wrap64 ((x3_1.length : Int) - 1)) = j_ := ⟨_, rfl⟩
    replace H : (if 0 ≤ (ji5) then (if (ji5) < (x3_1.length : Int) then (if 0 < (x3_1.length : Int) then (if (((rd_T25 x3_1 (ji5)).f0) == ((rd_T25 x3_1 0).f0) && (((rd_T25 x3_1 (ji5)).f1) == ((rd_T25 x3_1 0).f1))) = true then (if (ji5) ≤ (x3_1.length : Int) then (clip_TidyRing.l0 k1 (x3_1.take ((ji5) : Int).toNat)) else (none)) else (if (x3_1.length : Int) < 3 then (some ([] : List (S25))) else (some x3_1))) else (none)) else (none)) else (none)) = some r := by first | (rw [hji5] at H; exact H) | (simp only [hji5] at H ⊢; exact H)
    have hji5w : (IntKind.i64.wrap ((x3_1.length : Int) - 1)) = ji5 := (i64_w _).trans hji5
    by_cases c6 : 0 ≤ (ji5)
    ·rw [if_pos c6] at H
     have c6b0 : decide (0 ≤ (ji5)) = true := decide_eq_true c6
     clear c6
     by_cases c7 : (ji5) < (x3_1.length : Int)
     ·rw [if_pos c7] at H
      have c7b0 : decide ((ji5) < (x3_1.length : Int)) = true := decide_eq_true c7
      clear c7
      by_cases c8 : 0 < (x3_1.length : Int)
      ·rw [if_pos c8] at H
       have c8b0 : decide (0 < (x3_1.length : Int)) = true := decide_eq_true c8
       have c8b1 : decide (0 < x3_1.length) = true := decide_eq_true (by omega)
       clear c8
       by_cases c9 : (((rd_T25 x3_1 (ji5)).f0) == ((rd_T25 x3_1 0).f0) && (((rd_T25 x3_1 (ji5)).f1) == ((rd_T25 x3_1 0).f1))) = true
       ·rw [if_pos c9] at H
        have c9b0 : (((rd_T25 x3_1 (ji5)).f0) == ((rd_T25 x3_1 0).f0) && (((rd_T25 x3_1 (ji5)).f1) == ((rd_T25 x3_1 0).f1))) = true := c9
        (try (have c9b1 : decide (((rd_T25 x3_1 (ji5)).f0) = ((rd_T25 x3_1 0).f0) && (((rd_T25 x3_1 (ji5)).f1) == ((rd_T25 x3_1 0).f1))) = true := by simpa using c9))
        (try (have c9b2 : (((rd_T25 x3_1 (ji5)).f0) == ((rd_T25 x3_1 0).f0) && (((rd_T25 x3_1 (ji5)).f1) == ((rd_T25 x3_1 0).f1))) = true := by simpa using c9))
        clear c9
        by_cases c10 : (ji5) ≤ (x3_1.length : Int)
        ·rw [if_pos c10] at H
         have c10b0 := eq_true c10
         have c10b1 : decide ((ji5) ≤ (x3_1.length : Int)) = true := decide_eq_true c10
         clear c10
         obtain ⟨y179, hy179⟩ : ∃ y_ : List (S25), y_ = (x3_1.take ((ji5) : Int).toNat) := ⟨_, rfl⟩
         replace H : (clip_TidyRing.l0 k1 y179) = some r := by first | (rw [hy179]; with_reducible exact H) | (have H2_ := (Option.bind_some _ _).symm.trans H; rw [hy179]; with_reducible exact H2_) | (have H2_ := (Option.bind_some _ _).symm.trans H; with_reducible exact H2_) | with_reducible exact H | (rw [hy179]; exact H) | exact H
         have Ny179 := Aside0.mk hy179
         clear hy179
         have H' := Aside0.mk H
         clear H
         obtain ⟨Ao11, co11, eo11⟩ := Kd.R_slice HO_3.out
         subst eo11
         have p177 : 0 ≤ ((ji5) : Int) := of_decide_eq_true (by first | (with_reducible assumption) | assumption)
         have q177 : (ji5) < (x3_1.length : Int) := of_decide_eq_true (by first | (with_reducible assumption) | assumption)
         obtain ⟨ad177, e177, hx177_0, hx177_1⟩ := at_T25 (Kd.R_reads' HO_3.out).2.2 (ji5) p177 q177
         cases e177
         replace p177 := eq_true p177
         replace q177 := eq_true q177
         have p178 : 0 ≤ (0 : Int) := (by omega)
         have q178 : 0 < (x3_1.length : Int) := of_decide_eq_true (by first | (with_reducible assumption) | assumption)
         obtain ⟨ad178, e178, hx178_0, hx178_1⟩ := at_T25 (Kd.R_reads' HO_3.out).2.2 0 p178 q178
         obtain rfl : ad177 = ad178 := (by injection e178)
         have qi178 : (0 < x3_1.length) = True := eq_true (by omega)
         (try rw [show ((0 : Int)).toNat = 0 from rfl] at hx178_0)
         (try rw [show 0 * 2 = 0 from rfl] at hx178_0)
         (try rw [Addr.add_zero'] at hx178_0)
         (try rw [show ((0 : Int)).toNat = 0 from rfl] at hx178_1)
         (try rw [show 0 * 2 = 0 from rfl] at hx178_1)
         (try rw [Addr.add_zero'] at hx178_1)
         replace p178 := eq_true p178
         replace q178 := eq_true q178
         have q12 : ((ji5) : Int) ≤ ((x3_1.length : Int) : Int) := of_decide_eq_true (by first | (with_reducible assumption) | assumption)
         obtain ⟨i012, hi012, _, hsz12, _⟩ := info_parts info25
         have hcut12 := cut_to (P := Try.prog) 30 25 .i64 Try.underlying30 hi012 (some ad177) x3_1.length co11 (ji5) (of_decide_eq_true (by first | (with_reducible assumption) | assumption)) q12 (Kd.R_reads' HO_3.out).2.1
         have hr12 := Kd.R_take (m := ((ji5) : Int).toNat) HO_3.out (by omega)
         have hy12 : y179.length = ((ji5) : Int).toNat := (by rw [Ny179.out, List.length_take]; omega)
         rw [← Ny179.out] at hr12
         rw [← hy12] at hr12 hcut12
         clear hy12 hi012 hsz12 HO_3
         have HO181 := Aside0.mk hr12
         clear hr12
         replace q12 := eq_true q12
         go_wp2
         repeat (go_quiet (fail); try go_wp2)
         go_roundg k1
         case measure => have := HK1.out; omega
         case rel => exact ⟨(y179), H', ⟨by have := HK1.out; omega⟩, ⟨by (with_reducible repeat (first | apply Kd.R_alloc | apply Kd.R_drewN | apply Kd.R_drew)); exact HO181.out⟩, ⟨by repeat (first | (with_reducible first | exact HB.out | apply below_alloc | apply pw_below_drewN | apply below_drew1) | exact HB.out)⟩⟩
        ·rw [if_neg c10] at H
         exact absurd H (by simp)
       ·rw [if_neg c9] at H
        have c9b0 : (((rd_T25 x3_1 (ji5)).f0) == ((rd_T25 x3_1 0).f0) && (((rd_T25 x3_1 (ji5)).f1) == ((rd_T25 x3_1 0).f1))) = false := by simpa using c9
        (try (have c9b1 : decide (((rd_T25 x3_1 (ji5)).f0) = ((rd_T25 x3_1 0).f0) && (((rd_T25 x3_1 (ji5)).f1) == ((rd_T25 x3_1 0).f1))) = false := by simpa using c9))
        (try (have c9b2 : (((rd_T25 x3_1 (ji5)).f0) == ((rd_T25 x3_1 0).f0) && (((rd_T25 x3_1 (ji5)).f1) == ((rd_T25 x3_1 0).f1))) = false := by simpa using c9))
        (try (have c9b3 : ¬ (((rd_T25 x3_1 (ji5)).f0) = ((rd_T25 x3_1 0).f0) && (((rd_T25 x3_1 (ji5)).f1) == ((rd_T25 x3_1 0).f1))) := by simpa using c9))
        clear c9
        by_cases c13 : (x3_1.length : Int) < 3
        ·rw [if_pos c13] at H
         have c13b0 : decide ((x3_1.length : Int) < 3) = true := decide_eq_true c13
         have c13b1 : decide (x3_1.length < 3) = true := decide_eq_true (by omega)
         clear c13
         obtain rfl := Option.some.inj H
         obtain ⟨Ao14, co14, eo14⟩ := Kd.R_slice HO_3.out
         subst eo14
         have p177 : 0 ≤ ((ji5) : Int) := of_decide_eq_true (by first | (with_reducible assumption) | assumption)
         have q177 : (ji5) < (x3_1.length : Int) := of_decide_eq_true (by first | (with_reducible assumption) | assumption)
         obtain ⟨ad177, e177, hx177_0, hx177_1⟩ := at_T25 (Kd.R_reads' HO_3.out).2.2 (ji5) p177 q177
         cases e177
         replace p177 := eq_true p177
         replace q177 := eq_true q177
         have p178 : 0 ≤ (0 : Int) := (by omega)
         have q178 : 0 < (x3_1.length : Int) := of_decide_eq_true (by first | (with_reducible assumption) | assumption)
         obtain ⟨ad178, e178, hx178_0, hx178_1⟩ := at_T25 (Kd.R_reads' HO_3.out).2.2 0 p178 q178
         obtain rfl : ad177 = ad178 := (by injection e178)
         have qi178 : (0 < x3_1.length) = True := eq_true (by omega)
         (try rw [show ((0 : Int)).toNat = 0 from rfl] at hx178_0)
         (try rw [show 0 * 2 = 0 from rfl] at hx178_0)
         (try rw [Addr.add_zero'] at hx178_0)
         (try rw [show ((0 : Int)).toNat = 0 from rfl] at hx178_1)
         (try rw [show 0 * 2 = 0 from rfl] at hx178_1)
         (try rw [Addr.add_zero'] at hx178_1)
         replace p178 := eq_true p178
         replace q178 := eq_true q178
         go_wp2
         repeat (go_quiet (fail); try go_wp2)
         go_ret
         exact ⟨_, by first | rfl | (simp [errW_none, errW_some] <;> rfl) | (simp only [← hji5]; first | rfl | (simp [errW_none, errW_some] <;> rfl)) | (simp [*, errW_none, errW_some] <;> rfl), by first | exact Kd.R_nil _ _ _ _ _ | exact Kd.N_nil _ _ _ _ _ | exact Kd.V_nil _ _ _ _ _ | exact Kd.Q_nil _ _ _ _ _ | exact Kd.S_nil _ _ _ _ _, by repeat (first | (with_reducible first | exact HB.out | apply below_alloc | apply pw_below_drewN | apply below_drew1) | exact HB.out)⟩
        ·rw [if_neg c13] at H
         have c13b0 : decide ((x3_1.length : Int) < 3) = false := decide_eq_false c13
         have c13b1 : decide (x3_1.length < 3) = false := decide_eq_false (by omega)
         clear c13
         obtain rfl := Option.some.inj H
         obtain ⟨Ao15, co15, eo15⟩ := Kd.R_slice HO_3.out
         subst eo15
         have p177 : 0 ≤ ((ji5) : Int) := of_decide_eq_true (by first | (with_reducible assumption) | assumption)
         have q177 : (ji5) < (x3_1.length : Int) := of_decide_eq_true (by first | (with_reducible assumption) | assumption)
         obtain ⟨ad177, e177, hx177_0, hx177_1⟩ := at_T25 (Kd.R_reads' HO_3.out).2.2 (ji5) p177 q177
         cases e177
         replace p177 := eq_true p177
         replace q177 := eq_true q177
         have p178 : 0 ≤ (0 : Int) := (by omega)
         have q178 : 0 < (x3_1.length : Int) := of_decide_eq_true (by first | (with_reducible assumption) | assumption)
         obtain ⟨ad178, e178, hx178_0, hx178_1⟩ := at_T25 (Kd.R_reads' HO_3.out).2.2 0 p178 q178
         obtain rfl : ad177 = ad178 := (by injection e178)
         have qi178 : (0 < x3_1.length) = True := eq_true (by omega)
         (try rw [show ((0 : Int)).toNat = 0 from rfl] at hx178_0)
         (try rw [show 0 * 2 = 0 from rfl] at hx178_0)
         (try rw [Addr.add_zero'] at hx178_0)
         (try rw [show ((0 : Int)).toNat = 0 from rfl] at hx178_1)
         (try rw [show 0 * 2 = 0 from rfl] at hx178_1)
         (try rw [Addr.add_zero'] at hx178_1)
         replace p178 := eq_true p178
         replace q178 := eq_true q178
         go_wp2
         repeat (go_quiet (fail); try go_wp2)
         go_ret
         exact ⟨_, by first | rfl | (simp [errW_none, errW_some] <;> rfl) | (simp only [← hji5]; first | rfl | (simp [errW_none, errW_some] <;> rfl)) | (simp [*, errW_none, errW_some] <;> rfl), by (with_reducible repeat (first | apply Kd.R_alloc | apply Kd.R_drewN | apply Kd.R_drew)); exact HO_3.out, by repeat (first | (with_reducible first | exact HB.out | apply below_alloc | apply pw_below_drewN | apply below_drew1) | exact HB.out)⟩
      ·rw [if_neg c8] at H
       exact absurd H (by simp)
     ·rw [if_neg c7] at H
      exact absurd H (by simp)
    ·rw [if_neg c6] at H
     exact absurd H (by simp)
   ·rw [if_neg c4] at H
    have c4b0 : decide (1 < (x3_1.length : Int)) = false := decide_eq_false c4
    have c4b1 : decide (1 < x3_1.length) = false := decide_eq_false (by omega)
    clear c4
    by_cases c16 : (x3_1.length : Int) < 3
    ·rw [if_pos c16] at H
     have c16b0 : decide ((x3_1.length : Int) < 3) = true := decide_eq_true c16
     have c16b1 : decide (x3_1.length < 3) = true := decide_eq_true (by omega)
     clear c16
     obtain rfl := Option.some.inj H
     obtain ⟨Ao17, co17, eo17⟩ := Kd.R_slice HO_3.out
     subst eo17
     go_wp2
     repeat (go_quiet (fail); try go_wp2)
     go_ret
     exact ⟨_, by first | rfl | (simp [errW_none, errW_some] <;> rfl) | (simp [*, errW_none, errW_some] <;> rfl), by first | exact Kd.R_nil _ _ _ _ _ | exact Kd.N_nil _ _ _ _ _ | exact Kd.V_nil _ _ _ _ _ | exact Kd.Q_nil _ _ _ _ _ | exact Kd.S_nil _ _ _ _ _, by repeat (first | (with_reducible first | exact HB.out | apply below_alloc | apply pw_below_drewN | apply below_drew1) | exact HB.out)⟩
    ·rw [if_neg c16] at H
     have c16b0 : decide ((x3_1.length : Int) < 3) = false := decide_eq_false c16
     have c16b1 : decide (x3_1.length < 3) = false := decide_eq_false (by omega)
     clear c16
     obtain rfl := Option.some.inj H
     obtain ⟨Ao18, co18, eo18⟩ := Kd.R_slice HO_3.out
     subst eo18
     go_wp2
     repeat (go_quiet (fail); try go_wp2)
     go_ret
     exact ⟨_, by first | rfl | (simp [errW_none, errW_some] <;> rfl) | (simp [*, errW_none, errW_some] <;> rfl), by (with_reducible repeat (first | apply Kd.R_alloc | apply Kd.R_drewN | apply Kd.R_drew)); exact HO_3.out, by repeat (first | (with_reducible first | exact HB.out | apply below_alloc | apply pw_below_drewN | apply below_drew1) | exact HB.out)⟩

end Go.Proofs.Ytdkegdnfbpobnaa.PARS
