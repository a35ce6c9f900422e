-- Laid by a program of this work (wip/gen): out of the translation, with texts of our own.
import Derived.Test.YtdkegdnfbpobnaaPARSx0
import Derived.Test.YtdkegdnfbpobnaaPARSx17
import Derived.Test.YtdkegdnfbpobnaaPARSx18
import Derived.Test.YtdkegdnfbpobnaaPARSx20
import Derived.Test.YtdkegdnfbpobnaaPARSx21
namespace Go.Proofs.Ytdkegdnfbpobnaa.PARS
open Go.RowKit Go.Proofs.YtdkegdnfbpobnaaW.PrintWords Go.Proofs.YtdkegdnfbpobnaaW.PrintLast Go.Proofs.YtdkegdnfbpobnaaW.PrintMore Go.Proofs.YtdkegdnfbpobnaaW.SepW
attribute [local go_sem] max2_int min2_int max_two min_two max_three min_three max_four min_four   -- for this text's walks alone
set_option linter.unusedVariables false
set_option linter.unusedSimpArgs false

/-! ### mapmakerref12_Ring: function 37 -/
mutual
def mapmakerref12_Ring.j0 : Nat → List (S25) → Bool → Int → Int → Int → Int → Option ((List (S25)))
 | 0, _, _, _, _, _, _ => none
 | k + 1, x0, x17, x241000, x241001, x241002, x241003 => if x17 = true then (some ([] : List (S25))) else (mapmakerref12_Ring.l0 k x0 0 x241000 x241001 x241002 x241003)
def mapmakerref12_Ring.l0 : Nat → List (S25) → Int → Int → Int → Int → Int → Option ((List (S25)))
 | 0, _, _, _, _, _, _ => none
 | k + 1, x0, x5, x241000, x241001, x241002, x241003 => if x5 < 4 then (mapmakerref12_Ring.l1 k x0 x5 ([] : List (S25)) 0 x241000 x241001 x241002 x241003) else ((mapmakerref12_TidyRing.f k x0).bind fun t258 => ((mapmakerref12_Area2.f k t258).bind fun t261 => (if t261 = 0 then (some ([] : List (S25))) else (some t258))))
def mapmakerref12_Ring.l1 : Nat → List (S25) → Int → List (S25) → Int → Int → Int → Int → Int → Option ((List (S25)))
 | 0, _, _, _, _, _, _, _, _ => none
 | k + 1, x0, x5, x6, x7, x241000, x241001, x241002, x241003 => if x7 < (x0.length : Int) then (if 0 ≤ x7 then (if (x0.length : Int) = 0 then (none) else (if 0 ≤ (Int.tmod (wrap64 (x7 + 1)) (x0.length : Int)) then (if (Int.tmod (wrap64 (x7 + 1)) (x0.length : Int)) < (x0.length : Int) then ((mapmakerref12_in.f ((rd_T25 x0 x7).f0) ((rd_T25 x0 x7).f1) x241000 x241001 x241002 x241003 x5).bind fun t247 => (if t247 = true then (if x6.length < 8796093022208 then (mapmakerref12_Ring.j3 k x0 x5 (x6 ++ [(⟨(rd_T25 x0 x7).f0, (rd_T25 x0 x7).f1⟩ : S25)]) x7 x241000 x241001 x241002 x241003 ((rd_T25 x0 x7).f0) ((rd_T25 x0 x7).f1) ((rd_T25 x0 (Int.tmod (wrap64 (x7 + 1)) (x0.length : Int))).f0) ((rd_T25 x0 (Int.tmod (wrap64 (x7 + 1)) (x0.length : Int))).f1)) else (none)) else (mapmakerref12_Ring.j3 k x0 x5 x6 x7 x241000 x241001 x241002 x241003 ((rd_T25 x0 x7).f0) ((rd_T25 x0 x7).f1) ((rd_T25 x0 (Int.tmod (wrap64 (x7 + 1)) (x0.length : Int))).f0) ((rd_T25 x0 (Int.tmod (wrap64 (x7 + 1)) (x0.length : Int))).f1)))) else (none)) else (none))) else (none)) else (mapmakerref12_Ring.l0 k x6 (wrap64 (x5 + 1)) x241000 x241001 x241002 x241003)
def mapmakerref12_Ring.j3 : Nat → List (S25) → Int → List (S25) → Int → Int → Int → Int → Int → Int → Int → Int → Int → Option ((List (S25)))
 | 0, _, _, _, _, _, _, _, _, _, _, _, _ => none
 | k + 1, x0, x5, x6, x7, x241000, x241001, x241002, x241003, x246000, x246001, x247000, x247001 => (mapmakerref12_in.f x246000 x246001 x241000 x241001 x241002 x241003 x5).bind fun t251 => ((mapmakerref12_in.f x247000 x247001 x241000 x241001 x241002 x241003 x5).bind fun t252 => (if (t251 != t252) = true then ((mapmakerref12_border.f k x246000 x246001 x247000 x247001 x241000 x241001 x241002 x241003 x5).bind fun bt253 => (if x6.length < 8796093022208 then (mapmakerref12_Ring.l1 k x0 x5 (x6 ++ [(⟨bt253.1, bt253.2⟩ : S25)]) (wrap64 (x7 + 1)) x241000 x241001 x241002 x241003) else (none))) else (mapmakerref12_Ring.l1 k x0 x5 x6 (wrap64 (x7 + 1)) x241000 x241001 x241002 x241003)))
end
def mapmakerref12_Ring.f (k : Nat) (l0 : List (S25)) (a1_0 : Int) (a1_1 : Int) (a1_2 : Int) (a1_3 : Int) : Option ((List (S25))) := (mapmakerref08_Check.f a1_0 a1_1 a1_2 a1_3).bind fun t241 => (if t241 = 0 then ((mapmakerref08_All.f k l0).bind fun t242 => (mapmakerref12_Ring.j0 k l0 (!t242) a1_0 a1_1 a1_2 a1_3)) else (mapmakerref12_Ring.j0 k l0 true a1_0 a1_1 a1_2 a1_3))
theorem mapmakerref12_Ring.mono_l : ∀ k, (∀ y0 y1 y2 y3 y4 y5, LeO (mapmakerref12_Ring.j0 k y0 y1 y2 y3 y4 y5) (mapmakerref12_Ring.j0 (k + 1) y0 y1 y2 y3 y4 y5)) ∧ (∀ y0 y1 y2 y3 y4 y5, LeO (mapmakerref12_Ring.l0 k y0 y1 y2 y3 y4 y5) (mapmakerref12_Ring.l0 (k + 1) y0 y1 y2 y3 y4 y5)) ∧ (∀ y0 y1 y2 y3 y4 y5 y6 y7, LeO (mapmakerref12_Ring.l1 k y0 y1 y2 y3 y4 y5 y6 y7) (mapmakerref12_Ring.l1 (k + 1) y0 y1 y2 y3 y4 y5 y6 y7)) ∧ (∀ y0 y1 y2 y3 y4 y5 y6 y7 y8 y9 y10 y11, LeO (mapmakerref12_Ring.j3 k y0 y1 y2 y3 y4 y5 y6 y7 y8 y9 y10 y11) (mapmakerref12_Ring.j3 (k + 1) y0 y1 y2 y3 y4 y5 y6 y7 y8 y9 y10 y11))
 | 0 => ⟨fun _ _ _ _ _ _ r h => by simp [mapmakerref12_Ring.j0] at h, fun _ _ _ _ _ _ r h => by simp [mapmakerref12_Ring.l0] at h, fun _ _ _ _ _ _ _ _ r h => by simp [mapmakerref12_Ring.l1] at h, fun _ _ _ _ _ _ _ _ _ _ _ _ r h => by simp [mapmakerref12_Ring.j3] at h⟩
 | k + 1 => by
  obtain ⟨ih0, ih1, ih2, ih3⟩ := mapmakerref12_Ring.mono_l k
  refine ⟨?_, ?_, ?_, ?_⟩
  ·intro y0 y1 y2 y3 y4 y5
   unfold mapmakerref12_Ring.j0
   repeat' first
   | (with_reducible exact ih0 _ _ _ _ _ _)
   | (with_reducible exact ih1 _ _ _ _ _ _)
   | (with_reducible exact ih2 _ _ _ _ _ _ _ _)
   | (with_reducible exact ih3 _ _ _ _ _ _ _ _ _ _ _ _)
   | (with_reducible exact mapmakerref08_All.mono _ _)
   | (with_reducible exact mapmakerref12_Area2.mono _ _)
   | (with_reducible exact mapmakerref12_TidyRing.mono _ _)
   | (with_reducible exact mapmakerref12_border.mono _ _ _ _ _ _ _ _ _ _)
   | (with_reducible exact LeO.refl _)
   | (with_reducible exact LeO.none _)
   | (with_reducible refine LeO.ite ?_ ?_)
   | (with_reducible refine LeO.bind ?_ (fun _ => ?_))
   | exact ih0 _ _ _ _ _ _
   | exact ih1 _ _ _ _ _ _
   | exact ih2 _ _ _ _ _ _ _ _
   | exact ih3 _ _ _ _ _ _ _ _ _ _ _ _
   | exact mapmakerref08_All.mono _ _
   | exact mapmakerref12_Area2.mono _ _
   | exact mapmakerref12_TidyRing.mono _ _
   | exact mapmakerref12_border.mono _ _ _ _ _ _ _ _ _ _
   | exact LeO.none _
   | refine LeO.ite ?_ ?_
   | refine LeO.bind ?_ (fun _ => ?_)
  ·intro y0 y1 y2 y3 y4 y5
   unfold mapmakerref12_Ring.l0
   repeat' first
   | (with_reducible exact ih0 _ _ _ _ _ _)
   | (with_reducible exact ih1 _ _ _ _ _ _)
   | (with_reducible exact ih2 _ _ _ _ _ _ _ _)
   | (with_reducible exact ih3 _ _ _ _ _ _ _ _ _ _ _ _)
   | (with_reducible exact mapmakerref08_All.mono _ _)
   | (with_reducible exact mapmakerref12_Area2.mono _ _)
   | (with_reducible exact mapmakerref12_TidyRing.mono _ _)
   | (with_reducible exact mapmakerref12_border.mono _ _ _ _ _ _ _ _ _ _)
   | (with_reducible exact LeO.refl _)
   | (with_reducible exact LeO.none _)
   | (with_reducible refine LeO.ite ?_ ?_)
   | (with_reducible refine LeO.bind ?_ (fun _ => ?_))
   | exact ih0 _ _ _ _ _ _
   | exact ih1 _ _ _ _ _ _
   | exact ih2 _ _ _ _ _ _ _ _
   | exact ih3 _ _ _ _ _ _ _ _ _ _ _ _
   | exact mapmakerref08_All.mono _ _
   | exact mapmakerref12_Area2.mono _ _
   | exact mapmakerref12_TidyRing.mono _ _
   | exact mapmakerref12_border.mono _ _ _ _ _ _ _ _ _ _
   | exact LeO.none _
   | refine LeO.ite ?_ ?_
   | refine LeO.bind ?_ (fun _ => ?_)
  ·intro y0 y1 y2 y3 y4 y5 y6 y7
   unfold mapmakerref12_Ring.l1
   repeat' first
   | (with_reducible exact ih0 _ _ _ _ _ _)
   | (with_reducible exact ih1 _ _ _ _ _ _)
   | (with_reducible exact ih2 _ _ _ _ _ _ _ _)
   | (with_reducible exact ih3 _ _ _ _ _ _ _ _ _ _ _ _)
   | (with_reducible exact mapmakerref08_All.mono _ _)
   | (with_reducible exact mapmakerref12_Area2.mono _ _)
   | (with_reducible exact mapmakerref12_TidyRing.mono _ _)
   | (with_reducible exact mapmakerref12_border.mono _ _ _ _ _ _ _ _ _ _)
   | (with_reducible exact LeO.refl _)
   | (with_reducible exact LeO.none _)
   | (with_reducible refine LeO.ite ?_ ?_)
   | (with_reducible refine LeO.bind ?_ (fun _ => ?_))
   | exact ih0 _ _ _ _ _ _
   | exact ih1 _ _ _ _ _ _
   | exact ih2 _ _ _ _ _ _ _ _
   | exact ih3 _ _ _ _ _ _ _ _ _ _ _ _
   | exact mapmakerref08_All.mono _ _
   | exact mapmakerref12_Area2.mono _ _
   | exact mapmakerref12_TidyRing.mono _ _
   | exact mapmakerref12_border.mono _ _ _ _ _ _ _ _ _ _
   | exact LeO.none _
   | refine LeO.ite ?_ ?_
   | refine LeO.bind ?_ (fun _ => ?_)
  ·intro y0 y1 y2 y3 y4 y5 y6 y7 y8 y9 y10 y11
   unfold mapmakerref12_Ring.j3
   repeat' first
   | (with_reducible exact ih0 _ _ _ _ _ _)
   | (with_reducible exact ih1 _ _ _ _ _ _)
   | (with_reducible exact ih2 _ _ _ _ _ _ _ _)
   | (with_reducible exact ih3 _ _ _ _ _ _ _ _ _ _ _ _)
   | (with_reducible exact mapmakerref08_All.mono _ _)
   | (with_reducible exact mapmakerref12_Area2.mono _ _)
   | (with_reducible exact mapmakerref12_TidyRing.mono _ _)
   | (with_reducible exact mapmakerref12_border.mono _ _ _ _ _ _ _ _ _ _)
   | (with_reducible exact LeO.refl _)
   | (with_reducible exact LeO.none _)
   | (with_reducible refine LeO.ite ?_ ?_)
   | (with_reducible refine LeO.bind ?_ (fun _ => ?_))
   | exact ih0 _ _ _ _ _ _
   | exact ih1 _ _ _ _ _ _
   | exact ih2 _ _ _ _ _ _ _ _
   | exact ih3 _ _ _ _ _ _ _ _ _ _ _ _
   | exact mapmakerref08_All.mono _ _
   | exact mapmakerref12_Area2.mono _ _
   | exact mapmakerref12_TidyRing.mono _ _
   | exact mapmakerref12_border.mono _ _ _ _ _ _ _ _ _ _
   | exact LeO.none _
   | refine LeO.ite ?_ ?_
   | refine LeO.bind ?_ (fun _ => ?_)
theorem mapmakerref12_Ring.mono : ∀ a0 a1 a2 a3 a4 k, LeO (mapmakerref12_Ring.f k a0 a1 a2 a3 a4) (mapmakerref12_Ring.f (k + 1) a0 a1 a2 a3 a4) := by
 intro a0 a1 a2 a3 a4 k
 obtain ⟨ih0, ih1, ih2, ih3⟩ := mapmakerref12_Ring.mono_l k
 unfold mapmakerref12_Ring.f
 repeat' first
   | (with_reducible exact ih0 _ _ _ _ _ _)
   | (with_reducible exact ih1 _ _ _ _ _ _)
   | (with_reducible exact ih2 _ _ _ _ _ _ _ _)
   | (with_reducible exact ih3 _ _ _ _ _ _ _ _ _ _ _ _)
   | (with_reducible exact mapmakerref08_All.mono _ _)
   | (with_reducible exact mapmakerref12_Area2.mono _ _)
   | (with_reducible exact mapmakerref12_TidyRing.mono _ _)
   | (with_reducible exact mapmakerref12_border.mono _ _ _ _ _ _ _ _ _ _)
   | (with_reducible exact LeO.refl _)
   | (with_reducible exact LeO.none _)
   | (with_reducible refine LeO.ite ?_ ?_)
   | (with_reducible refine LeO.bind ?_ (fun _ => ?_))
   | exact ih0 _ _ _ _ _ _
   | exact ih1 _ _ _ _ _ _
   | exact ih2 _ _ _ _ _ _ _ _
   | exact ih3 _ _ _ _ _ _ _ _ _ _ _ _
   | exact mapmakerref08_All.mono _ _
   | exact mapmakerref12_Area2.mono _ _
   | exact mapmakerref12_TidyRing.mono _ _
   | exact mapmakerref12_border.mono _ _ _ _ _ _ _ _ _ _
   | exact LeO.none _
   | refine LeO.ite ?_ ?_
   | refine LeO.bind ?_ (fun _ => ?_)
def mapmakerref12_Ring.T10 : Bool × List (List Nat × List Nat) := (true, [([], []), ([], []), ([0, 1], [0, 1]), ([2], [2]), ([], []), ([], []), ([5], [5]), ([], []), ([7], [7]), ([6, 8], [6, 8]), ([4, 9], [4, 9]), ([10], [10]), ([], []), ([], []), ([12, 3, 0, 1, 2, 3, 12, 13], [3, 12]), ([13, 11, 14, 0, 1, 2, 3, 4, 5, 6, 7, 8, 9, 10, 11, 12, 13, 14], [11, 13])])
def mapmakerref12_Ring.B10 : List Nat := [0, 0, 3, 7, 0, 0, 32, 0, 128, 480, 1008, 2032, 0, 0, 12303, 32767]
theorem mapmakerref12_Ring.tab10 : rtab .any (opsOf Try.f37 10) = mapmakerref12_Ring.T10 := by kernel_rfl
theorem mapmakerref12_Ring.bits10 : waitsOk mapmakerref12_Ring.T10.2 mapmakerref12_Ring.B10 = true := by kernel_rfl
def mapmakerref12_Ring.T13 : Bool × List (List Nat × List Nat) := (true, [([], []), ([], []), ([], []), ([0, 1, 2], [0, 1, 2]), ([], []), ([], []), ([], []), ([4, 5, 6, 3], [4, 5, 6]), ([3, 7], [3, 7])])
def mapmakerref12_Ring.B13 : List Nat := [0, 0, 0, 7, 0, 0, 0, 127, 255]
theorem mapmakerref12_Ring.tab13 : rtab .any (opsOf Try.f37 13) = mapmakerref12_Ring.T13 := by kernel_rfl
theorem mapmakerref12_Ring.bits13 : waitsOk mapmakerref12_Ring.T13.2 mapmakerref12_Ring.B13 = true := by kernel_rfl
set_option maxHeartbeats 8000000 in
set_option maxRecDepth 100000 in
theorem mapmakerref12_Ring.calls (k : Nat) (P0_ : Nat → Prop) (A0 : Option Addr) (c0 : Nat) (l0 : List (S25)) (a1_0 : Int) (a1_1 : Int) (a1_2 : Int) (a1_3 : Int) (r : List (S25)) (w : World) (hs0 : Kd.V k25 25 w w.heap.size (fun k_ => P0_ k_) (.slice A0 l0.length c0) l0) (h : mapmakerref12_Ring.f k l0 a1_0 a1_1 a1_2 a1_3 = some r) :
  Calls Try.prog 37 #[.slice A0 l0.length c0, .agg #[.int .i64 a1_0, .int .i64 a1_1, .int .i64 a1_2, .int .i64 a1_3]] w fun e w' => ∃ v0_ : Value, e = .returned (v0_) ∧ Kd.R k25 25 w' w.heap.size (fun k_ => (w.heap.size ≤ k_)) v0_ r ∧ Below w.heap.size w w' := by
 have hu40 := Try.underlying40
 have hu25 := Try.underlying25
 have HO0 := Aside0.mk (show Kd.V k25 25 w w.heap.size (fun k_ => (P0_ k_ ∨ w.heap.size ≤ k_)) (.slice A0 l0.length c0) l0 from Kd.V_mono hs0 (fun k_ hk => .inl hk))
 have HB := Aside0.mk (Below.refl w.heap.size w)
 have H : ((mapmakerref08_Check.f a1_0 a1_1 a1_2 a1_3).bind fun t241 => (if t241 = 0 then ((mapmakerref08_All.f k l0).bind fun t242 => (mapmakerref12_Ring.j0 k l0 (!t242) a1_0 a1_1 a1_2 a1_3)) else (mapmakerref12_Ring.j0 k l0 true a1_0 a1_1 a1_2 a1_3))) = some r := h
 clear h
 have HC3 := Aside0.mk H
 clear H
 go_enter Try.func37, Try.ntmps37
 go_upto_region 1 with (first | ((with_reducible refine gate_dst (N := 3) rfl ?_); refine box_event ?hg (N := 3) ?hd (cs := #[.int .i64 a1_0, .int .i64 a1_1, .int .i64 a1_2, .int .i64 a1_3]) (t := 40) ?hr ?_; (case hd => rfl); (case hg => rfl); (case hr => first | (go_simp; done) | (go_simp; rfl)); intro gb240 hg w4 hbox hb; have n0_ := Aside0.mk (Kd.V_below (Kd.V_elderB (by (with_reducible repeat (first | apply Kd.V_alloc | apply Kd.V_drewN | apply Kd.V_drew)); exact HO0.out) gb240 (Nat.le_of_eq hg.symm)) hb); have n1_ := Aside0.mk (below_step (by repeat (first | (with_reducible first | exact HB.out | apply below_alloc | apply pw_below_drewN | apply below_drew1) | exact HB.out)) hb); have n2_ := Aside0.mk (hbox); have n3_ := Aside0.mk ((by rw [hg]; exact (below_size (by repeat (first | (with_reducible first | exact HB.out | apply below_alloc | apply pw_below_drewN | apply below_drew1) | exact HB.out))) : w.heap.size ≤ gb240)); have n4_ := Aside0.mk ((by rw [hg]; exact (below_size (by repeat (first | (with_reducible first | exact HB.out | apply below_alloc | apply pw_below_drewN | apply below_drew1) | exact HB.out))) : w.heap.size ≤ gb240)); clear HO0; clear HB; have HO0 := n0_; have HB := n1_; have BK240 := n2_; have GW240 := n3_; have GE240 := n4_; clear n0_ n1_ n2_ n3_ n4_; clear hb hbox hg))
 (try simp only [Act.put, List.setIfInBounds_toArray, List.set_cons_zero, List.set_cons_succ])
 go_cut [17] (fun v17 wc => ∃ (kq : Nat) (x17_2 : Bool), v17 = .bool x17_2 ∧ Aside0 (mapmakerref12_Ring.j0 kq l0 x17_2 a1_0 a1_1 a1_2 a1_3 = some r) ∧ Aside0 (kq ≤ k) ∧ Aside0 (Kd.V k25 25 wc w.heap.size (fun k_ => (P0_ k_ ∨ w.heap.size ≤ k_) ∧ k_ ≠ gb240) (.slice A0 l0.length c0) l0) ∧ Aside0 (wc.heap[gb240]? = some (.cells #[.int .i64 a1_0, .int .i64 a1_1, .int .i64 a1_2, .int .i64 a1_3] 40 (0, 0))) ∧ Aside0 (Below w.heap.size w wc))
 case first =>
  have H := HC3.out
  clear HC3
  replace H := Option.bind_eq_some_iff.mp H
  obtain ⟨t241, A50, H⟩ := H
  replace H : (if t241 = 0 then ((mapmakerref08_All.f k l0).bind fun t242 => (mapmakerref12_Ring.j0 k l0 (!t242) a1_0 a1_1 a1_2 a1_3)) else (mapmakerref12_Ring.j0 k l0 true a1_0 a1_1 a1_2 a1_3)) = some r := H
  have A5 := Aside0.mk A50
  clear A50
  by_cases c6 : t241 = 0
  ·rw [if_pos c6] at H
   have c6b0 : (t241 == 0) = true := beq_iff_eq.mpr c6
   have c6b1 : (t241 != 0) = false := bne_eq_false_iff_eq.mpr c6
   clear c6
   (first | rw [c6b0] | (simp only [i64_w, i32_w]; rw [c6b0]) | skip)
   replace H := Option.bind_eq_some_iff.mp H
   obtain ⟨t242, A70, H⟩ := H
   replace H : (mapmakerref12_Ring.j0 k l0 (!t242) a1_0 a1_1 a1_2 a1_3) = some r := H
   have A7 := Aside0.mk A70
   clear A70
   have H' := Aside0.mk H
   clear H
   have hcz8_0 : w4.cell? ⟨gb240, 0, none⟩ = some (.int .i64 a1_0) := (blk_cell BK240.out 0).trans rfl
   have hcz8_1 : w4.cell? ⟨gb240, 1, none⟩ = some (.int .i64 a1_1) := (blk_cell BK240.out 1).trans rfl
   have hcz8_2 : w4.cell? ⟨gb240, 2, none⟩ = some (.int .i64 a1_2) := (blk_cell BK240.out 2).trans rfl
   have hcz8_3 : w4.cell? ⟨gb240, 3, none⟩ = some (.int .i64 a1_3) := (blk_cell BK240.out 3).trans rfl
   have hfz8_0 := blk_frozen BK240.out 0
   have hfz8_1 := blk_frozen BK240.out 1
   have hfz8_2 := blk_frozen BK240.out 2
   have hfz8_3 := blk_frozen BK240.out 3
   go_wp2_with (first | ((with_reducible refine gate_callee (f := 46) rfl ?_); refine goesL_ (some 11) rfl rfl Try.func46 (by kernel_rfl) rfl #[.agg #[.int .i64 a1_0, .int .i64 a1_1, .int .i64 a1_2, .int .i64 a1_3]] rfl (by (try simp only [List.map_toArray, List.map_cons, List.map_nil]); first | done | rfl | (simp only [List.length_drop, List.length_take]; rfl)) ?_; (with_reducible refine (mapmakerref08_Check.calls a1_0 a1_1 a1_2 a1_3 t241 _ A5.out).mono ?_); rintro e w9 ⟨rfl, hb⟩; refine ⟨_, rfl, ?_⟩; have n0_ := Aside0.mk (Kd.V_below (by (with_reducible repeat (first | apply Kd.V_alloc | apply Kd.V_drewN | apply Kd.V_drew)); exact HO0.out) hb); have n1_ := Aside0.mk (blk_below (g := gb240) (o := .cells #[.int .i64 a1_0, .int .i64 a1_1, .int .i64 a1_2, .int .i64 a1_3] 40 (0, 0)) (by (with_reducible repeat (first | apply blk_drewN | apply blk_drew | apply blk_alloc)); exact BK240.out) hb); have n2_ := Aside0.mk (below_step (by repeat (first | (with_reducible first | exact HB.out | apply below_alloc | apply pw_below_drewN | apply below_drew1 | refine below_set ?_ GE240.out) | exact HB.out)) hb); clear HO0; clear BK240; clear HB; have HO0 := n0_; have BK240 := n1_; have HB := n2_; clear n0_ n1_ n2_; (try clear hb); (try clear hb2); (try clear hk); (try clear hi)) | (go_at_call 47; (with_reducible refine (mapmakerref08_All.calls k _ _ l0 t242 _ ?side1 ?side2 A7.out).mono ?_); (case side1 => repeat (first | exact (Kd.V_reads' HO0.out).2.2 | (with_reducible refine Kd.C_alloc ?_ _) | (with_reducible refine Kd.C_drewN ?_ _) | (with_reducible refine Kd.C_drew ?_))); (case side2 => exact (Kd.V_reads' HO0.out).2.1); rintro e w10 ⟨rfl, hb⟩; have n0_ := Aside0.mk (Kd.V_below (by (with_reducible repeat (first | apply Kd.V_alloc | apply Kd.V_drewN | apply Kd.V_drew)); exact HO0.out) hb); have n1_ := Aside0.mk (blk_below (g := gb240) (o := .cells #[.int .i64 a1_0, .int .i64 a1_1, .int .i64 a1_2, .int .i64 a1_3] 40 (0, 0)) (by (with_reducible repeat (first | apply blk_drewN | apply blk_drew | apply blk_alloc)); exact BK240.out) hb); have n2_ := Aside0.mk (below_step (by repeat (first | (with_reducible first | exact HB.out | apply below_alloc | apply pw_below_drewN | apply below_drew1 | refine below_set ?_ GE240.out) | exact HB.out)) hb); clear HO0; clear BK240; clear HB; have HO0 := n0_; have BK240 := n1_; have HB := n2_; clear n0_ n1_ n2_; (try clear hb); (try clear hb2); (try clear hk); (try clear hi)))
   go_meet
   case rel => exact ⟨_, (!t242), (by first | rfl | (simp; done) | (simp [*]; done)), H', ⟨by first | omega | exact Nat.le_refl _⟩, ⟨by (with_reducible repeat (first | apply Kd.V_alloc | apply Kd.V_drewN | apply Kd.V_drew)); exact HO0.out⟩, ⟨by (with_reducible repeat (first | apply blk_drewN | apply blk_drew | apply blk_alloc)); exact BK240.out⟩, ⟨by repeat (first | (with_reducible first | exact HB.out | apply below_alloc | apply pw_below_drewN | apply below_drew1 | refine below_set ?_ GE240.out) | exact HB.out)⟩⟩
  ·rw [if_neg c6] at H
   have c6b0 : (t241 == 0) = false := beq_eq_false_iff_ne.mpr c6
   have c6b1 : (t241 != 0) = true := bne_iff_ne.mpr c6
   (first | rw [c6b0] | (simp only [i64_w, i32_w]; rw [c6b0]) | skip)
   have H' := Aside0.mk H
   clear H
   have hcz11_0 : w4.cell? ⟨gb240, 0, none⟩ = some (.int .i64 a1_0) := (blk_cell BK240.out 0).trans rfl
   have hcz11_1 : w4.cell? ⟨gb240, 1, none⟩ = some (.int .i64 a1_1) := (blk_cell BK240.out 1).trans rfl
   have hcz11_2 : w4.cell? ⟨gb240, 2, none⟩ = some (.int .i64 a1_2) := (blk_cell BK240.out 2).trans rfl
   have hcz11_3 : w4.cell? ⟨gb240, 3, none⟩ = some (.int .i64 a1_3) := (blk_cell BK240.out 3).trans rfl
   have hfz11_0 := blk_frozen BK240.out 0
   have hfz11_1 := blk_frozen BK240.out 1
   have hfz11_2 := blk_frozen BK240.out 2
   have hfz11_3 := blk_frozen BK240.out 3
   go_wp2_with (first | ((with_reducible refine gate_callee (f := 46) rfl ?_); refine goesL_ (some 11) rfl rfl Try.func46 (by kernel_rfl) rfl #[.agg #[.int .i64 a1_0, .int .i64 a1_1, .int .i64 a1_2, .int .i64 a1_3]] rfl (by (try simp only [List.map_toArray, List.map_cons, List.map_nil]); first | done | rfl | (simp only [List.length_drop, List.length_take]; rfl)) ?_; (with_reducible refine (mapmakerref08_Check.calls a1_0 a1_1 a1_2 a1_3 t241 _ A5.out).mono ?_); rintro e w12 ⟨rfl, hb⟩; refine ⟨_, rfl, ?_⟩; have n0_ := Aside0.mk (Kd.V_below (by (with_reducible repeat (first | apply Kd.V_alloc | apply Kd.V_drewN | apply Kd.V_drew)); exact HO0.out) hb); have n1_ := Aside0.mk (blk_below (g := gb240) (o := .cells #[.int .i64 a1_0, .int .i64 a1_1, .int .i64 a1_2, .int .i64 a1_3] 40 (0, 0)) (by (with_reducible repeat (first | apply blk_drewN | apply blk_drew | apply blk_alloc)); exact BK240.out) hb); have n2_ := Aside0.mk (below_step (by repeat (first | (with_reducible first | exact HB.out | apply below_alloc | apply pw_below_drewN | apply below_drew1 | refine below_set ?_ GE240.out) | exact HB.out)) hb); clear HO0; clear BK240; clear HB; have HO0 := n0_; have BK240 := n1_; have HB := n2_; clear n0_ n1_ n2_; (try clear hb); (try clear hb2); (try clear hk); (try clear hi)))
   go_meet
   case rel => exact ⟨_, (true), (by first | rfl | (simp; done) | (simp [*]; done)), H', ⟨by first | omega | exact Nat.le_refl _⟩, ⟨by (with_reducible repeat (first | apply Kd.V_alloc | apply Kd.V_drewN | apply Kd.V_drew)); exact HO0.out⟩, ⟨by (with_reducible repeat (first | apply blk_drewN | apply blk_drew | apply blk_alloc)); exact BK240.out⟩, ⟨by repeat (first | (with_reducible first | exact HB.out | apply below_alloc | apply pw_below_drewN | apply below_drew1 | refine below_set ?_ GE240.out) | exact HB.out)⟩⟩
 case rest =>
  clear HC3
  try clear p2
  try clear c3
  try clear c4
  try clear c6
  try clear c6b0
  try clear c6b1
  try clear hcz11_0
  try clear hcz11_1
  try clear hcz11_2
  try clear hcz11_3
  try clear hcz8_0
  try clear hcz8_1
  try clear hcz8_2
  try clear hcz8_3
  try clear hfz11_0
  try clear hfz11_1
  try clear hfz11_2
  try clear hfz11_3
  try clear hfz8_0
  try clear hfz8_1
  try clear hfz8_2
  try clear hfz8_3
  obtain ⟨kq, x17_2, rfl, HA, HJ2, HO_0, BK240, HB⟩ := hcut
  cases kq with
  | zero => exact absurd HA.out (by simp [mapmakerref12_Ring.j0])
  | succ kj2 =>
   have H := HA.out
   clear HA
   simp only [mapmakerref12_Ring.j0] at H
   by_cases c13 : x17_2 = true
   ·subst c13
    have H1 : (some ([] : List (S25))) = some r := by rw [if_pos rfl] at H; exact H
    clear H
    have H := H1
    clear H1
    obtain rfl := Option.some.inj H
    go_wp2
    go_ret
    exact ⟨_, by first | rfl | (simp [errW_none, errW_some] <;> rfl) | (simp [*, errW_none, errW_some] <;> rfl), by first | exact Kd.R_nil _ _ _ _ _ | exact Kd.N_nil _ _ _ _ _ | exact Kd.V_nil _ _ _ _ _ | exact Kd.Q_nil _ _ _ _ _ | exact Kd.S_nil _ _ _ _ _, by repeat (first | (with_reducible first | exact HB.out | apply below_alloc | apply pw_below_drewN | apply below_drew1 | refine below_set ?_ GE240.out) | exact HB.out)⟩
   ·replace c13 := Bool.eq_false_iff.mpr c13
    subst c13
    have H1 : (mapmakerref12_Ring.l0 kj2 l0 0 a1_0 a1_1 a1_2 a1_3) = some r := by rw [if_neg (show ¬ (false = true) by decide)] at H; exact H
    clear H
    have H := H1
    clear H1
    have H' := Aside0.mk H
    clear H
    go_wp2
    go_loopg [0, 5] kj2 (fun kq v0 v5 w' => ∃ (x0_2 : List (S25)) (x5_2 : Int), v5 = .int .i64 x5_2 ∧ Aside0 (mapmakerref12_Ring.l0 kq x0_2 x5_2 a1_0 a1_1 a1_2 a1_3 = some r) ∧ Aside0 (kq ≤ kj2) ∧ Aside0 (Kd.V k25 25 w' w.heap.size (fun k_ => (P0_ k_ ∨ w.heap.size ≤ k_) ∧ k_ ≠ gb240) v0 x0_2) ∧ Aside0 (w'.heap[gb240]? = some (.cells #[.int .i64 a1_0, .int .i64 a1_1, .int .i64 a1_2, .int .i64 a1_3] 40 (0, 0))) ∧ Aside0 (Below w.heap.size w w'))
    case atStart => exact ⟨(l0), (0), (by first | rfl | (simp; done) | (simp [*]; done)), H', ⟨Nat.le_refl _⟩, ⟨by (with_reducible repeat (first | apply Kd.V_alloc | apply Kd.V_drewN | apply Kd.V_drew)); exact HO_0.out⟩, ⟨by (with_reducible repeat (first | apply blk_drewN | apply blk_drew | apply blk_alloc)); exact BK240.out⟩, ⟨by repeat (first | (with_reducible first | exact HB.out | apply below_alloc | apply pw_below_drewN | apply below_drew1 | refine below_set ?_ GE240.out) | exact HB.out)⟩⟩
    case round =>
     clear H'
     try clear c1
     try clear p2
     try clear c3
     try clear c4
     try clear c6
     try clear c6b0
     try clear c6b1
     try clear c13
     try clear hcz11_0
     try clear hcz11_1
     try clear hcz11_2
     try clear hcz11_3
     try clear hcz8_0
     try clear hcz8_1
     try clear hcz8_2
     try clear hcz8_3
     try clear hfz11_0
     try clear hfz11_1
     try clear hfz11_2
     try clear hfz11_3
     try clear hfz8_0
     try clear hfz8_1
     try clear hfz8_2
     try clear hfz8_3
     try clear p2
     obtain ⟨x0_2, x5_2, rfl, HA, HK2, HO_0, BK240, HB⟩ := hrel
     cases gk with
     | zero => exact absurd HA.out (by simp [mapmakerref12_Ring.l0])
     | succ k2 =>
      have H := HA.out
      clear HA
      simp only [mapmakerref12_Ring.l0] at H
      by_cases c14 : x5_2 < 4
      ·rw [if_pos c14] at H
       have c14b0 : decide (x5_2 < 4) = true := decide_eq_true c14
       clear c14
       have H' := Aside0.mk H
       clear H
       go_wp2
       go_loopg [6, 7] k2 (fun kq v6 v7 w' => ∃ (x6_3 : List (S25)) (x7_3 : Int), v7 = .int .i64 x7_3 ∧ Aside0 (mapmakerref12_Ring.l1 kq x0_2 x5_2 x6_3 x7_3 a1_0 a1_1 a1_2 a1_3 = some r) ∧ Aside0 (kq ≤ k2) ∧ Aside0 (Kd.V k25 25 w' w.heap.size (fun k_ => (P0_ k_ ∨ w.heap.size ≤ k_) ∧ some k_ ≠ (v6 : Value).ownBlock ∧ k_ ≠ gb240) u0 x0_2) ∧ Aside0 (Kd.R k25 25 w' w.heap.size (fun k_ => (w.heap.size ≤ k_)) v6 x6_3) ∧ Aside0 (w'.heap[gb240]? = some (.cells #[.int .i64 a1_0, .int .i64 a1_1, .int .i64 a1_2, .int .i64 a1_3] 40 (0, 0))) ∧ Aside0 (Below w.heap.size w w'))
       case atStart => exact ⟨(([] : List (S25))), (0), (by first | rfl | (simp; done) | (simp [*]; done)), H', ⟨Nat.le_refl _⟩, ⟨by (with_reducible repeat (first | apply Kd.V_alloc | apply Kd.V_drewN | apply Kd.V_drew)); exact Kd.V_mono HO_0.out (fun _ hk => ⟨hk.1, ⟨(by simp [Value.ownBlock]), hk.2⟩⟩)⟩, ⟨by first | exact Kd.R_nil _ _ _ _ _ | exact Kd.N_nil _ _ _ _ _ | exact Kd.V_nil _ _ _ _ _ | exact Kd.Q_nil _ _ _ _ _ | exact Kd.S_nil _ _ _ _ _⟩, ⟨by (with_reducible repeat (first | apply blk_drewN | apply blk_drew | apply blk_alloc)); exact BK240.out⟩, ⟨by repeat (first | (with_reducible first | exact HB.out | apply below_alloc | apply pw_below_drewN | apply below_drew1 | refine below_set ?_ GE240.out) | exact HB.out)⟩⟩
       case round =>
        clear H'
        try clear c1
        try clear p2
        try clear c3
        try clear c4
        try clear c6
        try clear c6b0
        try clear c6b1
        try clear c13
        try clear c14
        try clear c14b0
        try clear hcz11_0
        try clear hcz11_1
        try clear hcz11_2
        try clear hcz11_3
        try clear hcz8_0
        try clear hcz8_1
        try clear hcz8_2
        try clear hcz8_3
        try clear hfz11_0
        try clear hfz11_1
        try clear hfz11_2
        try clear hfz11_3
        try clear hfz8_0
        try clear hfz8_1
        try clear hfz8_2
        try clear hfz8_3
        try clear p2
        obtain ⟨x6_3, x7_3, rfl, HA, HK3, HO_0, HO_6, BK240, HB⟩ := hrel
        cases gk with
        | zero => exact absurd HA.out (by simp [mapmakerref12_Ring.l1])
        | succ k3 =>
         have H := HA.out
         clear HA
         simp only [mapmakerref12_Ring.l1] at H
         by_cases c15 : x7_3 < (x0_2.length : Int)
         ·rw [if_pos c15] at H
          have c15b0 : decide (x7_3 < (x0_2.length : Int)) = true := decide_eq_true c15
          clear c15
          by_cases c16 : 0 ≤ x7_3
          ·rw [if_pos c16] at H
           have c16b0 : decide (0 ≤ x7_3) = true := decide_eq_true c16
           clear c16
           by_cases c17 : (x0_2.length : Int) = 0
           ·rw [if_pos c17] at H
            exact absurd H (by simp)
           ·rw [if_neg c17] at H
            have c17b0 : ((x0_2.length : Int) == 0) = false := beq_eq_false_iff_ne.mpr c17
            have c17b1 : ((x0_2.length : Int) != 0) = true := bne_iff_ne.mpr c17
            have c17b2 : ¬ (x0_2 = []) := fun h_ => c17 (by rw [h_]; rfl)
            obtain ⟨ji18, hji18⟩ : ∃ j_ : Int, (Int.tmod (wrap64 (x7_3 + 1)) (x0_2.length : Int)) = j_ := ⟨_, rfl⟩
            replace H : (if 0 ≤ (ji18) then (if (ji18) < (x0_2.length : Int) then ((mapmakerref12_in.f ((rd_T25 x0_2 x7_3).f0) ((rd_T25 x0_2 x7_3).f1) a1_0 a1_1 a1_2 a1_3 x5_2).bind fun t247 => (if t247 = true then (if x6_3.length < 8796093022208 then (mapmakerref12_Ring.j3 k3 x0_2 x5_2 (x6_3 ++ [(⟨(rd_T25 x0_2 x7_3).f0, (rd_T25 x0_2 x7_3).f1⟩ : S25)]) x7_3 a1_0 a1_1 a1_2 a1_3 ((rd_T25 x0_2 x7_3).f0) ((rd_T25 x0_2 x7_3).f1) ((rd_T25 x0_2 (ji18)).f0) ((rd_T25 x0_2 (ji18)).f1)) else (none)) else (mapmakerref12_Ring.j3 k3 x0_2 x5_2 x6_3 x7_3 a1_0 a1_1 a1_2 a1_3 ((rd_T25 x0_2 x7_3).f0) ((rd_T25 x0_2 x7_3).f1) ((rd_T25 x0_2 (ji18)).f0) ((rd_T25 x0_2 (ji18)).f1)))) else (none)) else (none)) = some r := by first | (rw [hji18] at H; exact H) | (simp only [hji18] at H ⊢; exact H)
            by_cases c19 : 0 ≤ (ji18)
            ·rw [if_pos c19] at H
             have c19b0 : decide (0 ≤ (ji18)) = true := decide_eq_true c19
             clear c19
             by_cases c20 : (ji18) < (x0_2.length : Int)
             ·rw [if_pos c20] at H
              have c20b0 : decide ((ji18) < (x0_2.length : Int)) = true := decide_eq_true c20
              clear c20
              replace H := Option.bind_eq_some_iff.mp H
              obtain ⟨t247, A210, H⟩ := H
              replace H : (if t247 = true then (if x6_3.length < 8796093022208 then (mapmakerref12_Ring.j3 k3 x0_2 x5_2 (x6_3 ++ [(⟨(rd_T25 x0_2 x7_3).f0, (rd_T25 x0_2 x7_3).f1⟩ : S25)]) x7_3 a1_0 a1_1 a1_2 a1_3 ((rd_T25 x0_2 x7_3).f0) ((rd_T25 x0_2 x7_3).f1) ((rd_T25 x0_2 (ji18)).f0) ((rd_T25 x0_2 (ji18)).f1)) else (none)) else (mapmakerref12_Ring.j3 k3 x0_2 x5_2 x6_3 x7_3 a1_0 a1_1 a1_2 a1_3 ((rd_T25 x0_2 x7_3).f0) ((rd_T25 x0_2 x7_3).f1) ((rd_T25 x0_2 (ji18)).f0) ((rd_T25 x0_2 (ji18)).f1))) = some r := H
              have A21 := Aside0.mk A210
              clear A210
              have HC22 := Aside0.mk H
              clear H
              obtain ⟨Ao23, co23, eo23⟩ := Kd.V_slice HO_0.out
              subst eo23
              try go_wp2
              have n0_ := Aside0.mk (Kd.V_drew HO_0.out)
              have n1_ := Aside0.mk (Kd.R_drew HO_6.out)
              have n2_ := Aside0.mk (blk_drew BK240.out)
              have n3_ := Aside0.mk (below_drew1 HB.out)
              clear HO_0
              clear HO_6
              clear BK240
              clear HB
              have HO_0 := n0_
              have HO_6 := n1_
              have BK240 := n2_
              have HB := n3_
              clear n0_ n1_ n2_ n3_
              have p243 : 0 ≤ (x7_3 : Int) := of_decide_eq_true (by first | (with_reducible assumption) | assumption)
              have q243 : x7_3 < (x0_2.length : Int) := of_decide_eq_true (by first | (with_reducible assumption) | assumption)
              have vz243 : 0 < x0_2.length := (by have a_ := p243; have b_ := q243; omega)
              obtain ⟨ad243, e243, hx243_0, hx243_1⟩ := at_T25 (Kd.V_reads' HO_0.out).2.2 x7_3 p243 q243
              cases e243
              replace p243 := eq_true p243
              replace q243 := eq_true q243
              have p244 : 0 ≤ ((ji18) : Int) := of_decide_eq_true (by first | (with_reducible assumption) | assumption)
              have q244 : (ji18) < (x0_2.length : Int) := of_decide_eq_true (by first | (with_reducible assumption) | assumption)
              have vz244 : 0 < x0_2.length := (by have a_ := p244; have b_ := q244; omega)
              obtain ⟨ad244, e244, hx244_0, hx244_1⟩ := at_T25 (Kd.V_reads' HO_0.out).2.2 (ji18) p244 q244
              obtain rfl : ad243 = ad244 := (by injection e244)
              replace p244 := eq_true p244
              replace q244 := eq_true q244
              refine start_ (n := 16) (S := fun w' => w'.cell? (ad243.add ((x7_3).toNat * 2)) = some (.int .i64 ((rd_T25 x0_2 x7_3).f0)) ∧ w'.cell? ⟨(ad243.add ((x7_3).toNat * 2)).block, (ad243.add ((x7_3).toNat * 2)).off + 1, none⟩ = some (.int .i64 ((rd_T25 x0_2 x7_3).f1)) ∧ w'.cell? (ad243.add (((ji18)).toNat * 2)) = some (.int .i64 ((rd_T25 x0_2 (ji18)).f0)) ∧ w'.cell? ⟨(ad243.add (((ji18)).toNat * 2)).block, (ad243.add (((ji18)).toNat * 2)).off + 1, none⟩ = some (.int .i64 ((rd_T25 x0_2 (ji18)).f1))) (ds := []) #[false, false, false, false, false, false, false, false, false, false, false, false, false, false, false, false] (by kernel_rfl) rfl rfl ⟨hx243_0, hx243_1, hx244_0, hx244_1⟩ (fun hHeld => ?_); refine with_tabW mapmakerref12_Ring.tab10 mapmakerref12_Ring.bits10 (fun HT_ HW_ => ?_)
              generalize wr.drew = w24 at HO_0 HO_6 BK240 HB hx243_0 hx243_1 hx244_0 hx244_1 hHeld ⊢
              refine pure_ (i := 0) (N := some 28) (v := ?_) (a' := ?_) #[true, false, false, false, false, false, false, false, false, false, false, false, false, false, false, false] rfl rfl (any_of HT_.out (by kernel_rfl)) (fun _ _ _ h => h) (Or.inl ⟨by rfl, ?_⟩) ?_ ?_
              rotate_left
              ·intro w'
               go_simp
               with_reducible rfl
              rotate_left
              ·simp only [Act.put, List.setIfInBounds_toArray, List.set_cons_zero, List.set_cons_succ, i64_w, i32_w]
               rfl
              refine pure_ (i := 1) (N := some 29) (v := ?_) (a' := ?_) #[true, true, false, false, false, false, false, false, false, false, false, false, false, false, false, false] rfl rfl (any_of HT_.out (by kernel_rfl)) (fun _ _ _ h => h) (Or.inl ⟨by rfl, ?_⟩) ?_ ?_
              rotate_left
              ·intro w'
               go_simp
               with_reducible rfl
              rotate_left
              ·simp only [Act.put, List.setIfInBounds_toArray, List.set_cons_zero, List.set_cons_succ, i64_w, i32_w]
               rfl
              refine pure_ (i := 2) (N := some 30) (v := ?_) (a' := ?_) #[true, true, true, false, false, false, false, false, false, false, false, false, false, false, false, false] rfl rfl (any_of HT_.out (by kernel_rfl)) (fun _ _ _ h => h) (Or.inl ⟨by rfl, ?_⟩) ?_ ?_
              rotate_left
              ·intro w'
               go_simp
               with_reducible rfl
              rotate_left
              ·simp only [Act.put, List.setIfInBounds_toArray, List.set_cons_zero, List.set_cons_succ, i64_w, i32_w]
               rfl
              refine pure_ (i := 4) (N := some 32) (v := ?_) (a' := ?_) #[true, true, true, false, true, false, false, false, false, false, false, false, false, false, false, false] rfl rfl (any_of HT_.out (by kernel_rfl)) (fun _ _ _ h => h) (Or.inl ⟨by rfl, ?_⟩) ?_ ?_
              rotate_left
              ·intro w'
               go_simp
               with_reducible rfl
              rotate_left
              ·simp only [Act.put, List.setIfInBounds_toArray, List.set_cons_zero, List.set_cons_succ, i64_w, i32_w]
               rfl
              refine pure_ (i := 5) (N := some 33) (v := ?_) (a' := ?_) #[true, true, true, false, true, true, false, false, false, false, false, false, false, false, false, false] rfl rfl (any_of HT_.out (by kernel_rfl)) (fun _ _ _ h => h) (Or.inl ⟨by rfl, ?_⟩) ?_ ?_
              rotate_left
              ·intro w'
               go_simp
               with_reducible rfl
              rotate_left
              ·simp only [Act.put, List.setIfInBounds_toArray, List.set_cons_zero, List.set_cons_succ, i64_w, i32_w]
               rfl
              refine pure_ (i := 6) (N := some 34) (v := ?_) (a' := ?_) #[true, true, true, false, true, true, true, false, false, false, false, false, false, false, false, false] rfl rfl (any_of HT_.out (by kernel_rfl)) (fun _ _ _ h => h) (Or.inl ⟨by rfl, ?_⟩) ?_ ?_
              rotate_left
              ·intro w'
               go_simp
               with_reducible rfl
              rotate_left
              ·simp only [Act.put, List.setIfInBounds_toArray, List.set_cons_zero, List.set_cons_succ, i64_w, i32_w]
               rfl
              refine pure_ (i := 7) (N := some 35) (v := ?_) (a' := ?_) #[true, true, true, false, true, true, true, true, false, false, false, false, false, false, false, false] rfl rfl (any_of HT_.out (by kernel_rfl)) (fun _ _ _ h => h) (Or.inl ⟨by rfl, ?_⟩) ?_ ?_
              rotate_left
              ·intro w'
               go_simp
               with_reducible rfl
              rotate_left
              ·simp only [Act.put, List.setIfInBounds_toArray, List.set_cons_zero, List.set_cons_succ, i64_w, i32_w]
               rfl
              refine pure_ (i := 8) (N := some 36) (v := ?_) (a' := ?_) #[true, true, true, false, true, true, true, true, true, false, false, false, false, false, false, false] rfl rfl (any_of HT_.out (by kernel_rfl)) (fun _ _ _ h => h) (Or.inl ⟨by rfl, ?_⟩) ?_ ?_
              rotate_left
              ·intro w'
               go_simp
               with_reducible rfl
              rotate_left
              ·simp only [Act.put, List.setIfInBounds_toArray, List.set_cons_zero, List.set_cons_succ, i64_w, i32_w]
               rfl
              refine pure_ (i := 9) (N := some 37) (v := ?_) (a' := ?_) #[true, true, true, false, true, true, true, true, true, true, false, false, false, false, false, false] rfl rfl (any_of HT_.out (by kernel_rfl)) (fun _ _ _ h => h) (Or.inl ⟨by rfl, ?_⟩) ?_ ?_
              rotate_left
              ·intro w'
               go_simp
               with_reducible rfl
              rotate_left
              ·simp only [Act.put, List.setIfInBounds_toArray, List.set_cons_zero, List.set_cons_succ, i64_w, i32_w]
               rfl
              refine pure_ (i := 10) (N := some 38) (v := ?_) (a' := ?_) #[true, true, true, false, true, true, true, true, true, true, true, false, false, false, false, false] rfl rfl (any_of HT_.out (by kernel_rfl)) (fun _ _ _ h => h) (Or.inl ⟨by rfl, ?_⟩) ?_ ?_
              rotate_left
              ·intro w'
               go_simp
               with_reducible rfl
              rotate_left
              ·simp only [Act.put, List.setIfInBounds_toArray, List.set_cons_zero, List.set_cons_succ, i64_w, i32_w]
               rfl
              refine take_ (i := 3) (N := some 31) (v := ?_) (a' := ?_) #[true, true, true, true, true, true, true, true, true, true, true, false, false, false, false, false] rfl rfl (take_ofW HT_.out HW_.out (by kernel_rfl)) (fun _ _ _ h => h) (Or.inl ⟨by rfl, ?_⟩) hHeld ?_ ?_
              rotate_left
              ·rintro w' ⟨s0, s1, s2, s3⟩
               go_simp
               with_reducible rfl
              rotate_left
              ·simp only [Act.put, List.setIfInBounds_toArray, List.set_cons_zero, List.set_cons_succ, i64_w, i32_w]
               rfl
              refine take_ (i := 11) (N := some 39) (v := ?_) (a' := ?_) #[true, true, true, true, true, true, true, true, true, true, true, true, false, false, false, false] rfl rfl (take_ofW HT_.out HW_.out (by kernel_rfl)) (fun _ _ _ h => h) (Or.inl ⟨by rfl, ?_⟩) hHeld ?_ ?_
              rotate_left
              ·rintro w' ⟨s0, s1, s2, s3⟩
               go_simp
               with_reducible rfl
              rotate_left
              ·simp only [Act.put, List.setIfInBounds_toArray, List.set_cons_zero, List.set_cons_succ, i64_w, i32_w]
               rfl
              refine join_ (σ := Nat × Nat) 2 #[true, true, true, true, true, true, true, true, true, true, true, true, true, true, false, false] (fun s_ => [(8, .pointer (some ⟨s_.1, 0, none⟩)), (9, .pointer (some ⟨s_.2, 0, none⟩))]) (fun s_ w' => (w'.cell? (ad243.add ((x7_3).toNat * 2)) = some (.int .i64 ((rd_T25 x0_2 x7_3).f0)) ∧ w'.cell? ⟨(ad243.add ((x7_3).toNat * 2)).block, (ad243.add ((x7_3).toNat * 2)).off + 1, none⟩ = some (.int .i64 ((rd_T25 x0_2 x7_3).f1)) ∧ w'.cell? (ad243.add (((ji18)).toNat * 2)) = some (.int .i64 ((rd_T25 x0_2 (ji18)).f0)) ∧ w'.cell? ⟨(ad243.add (((ji18)).toNat * 2)).block, (ad243.add (((ji18)).toNat * 2)).off + 1, none⟩ = some (.int .i64 ((rd_T25 x0_2 (ji18)).f1))) ∧ (Kd.V k25 25 w' w.heap.size (fun k_ => (P0_ k_ ∨ w.heap.size ≤ k_) ∧ some k_ ≠ (u6 : Value).ownBlock ∧ k_ ≠ gb240 ∧ k_ ≠ s_.1 ∧ k_ ≠ s_.2) (.slice (some ad243) x0_2.length co23) x0_2) ∧ (Kd.R k25 25 w' w.heap.size (fun k_ => (w.heap.size ≤ k_) ∧ k_ ≠ s_.1 ∧ k_ ≠ s_.2) u6 x6_3) ∧ (w'.heap[gb240]? = some (.cells #[.int .i64 a1_0, .int .i64 a1_1, .int .i64 a1_2, .int .i64 a1_3] 40 (0, 0))) ∧ (w'.heap[s_.1]? = some (.cells #[.int .i64 0, .int .i64 0] 25 (0, 0))) ∧ (w'.heap[s_.2]? = some (.cells #[.int .i64 0, .int .i64 0] 25 (0, 0))) ∧ (w.heap.size ≤ s_.1) ∧ (w.heap.size ≤ s_.1) ∧ (gb240 ≠ s_.1) ∧ (s_.1 ≠ gb240) ∧ (s_.2 ≠ s_.1) ∧ (s_.1 ≠ s_.2) ∧ (w.heap.size ≤ s_.2) ∧ (w.heap.size ≤ s_.2) ∧ (gb240 ≠ s_.2) ∧ (s_.2 ≠ gb240) ∧ (Below w.heap.size w w')) ?_ ?_
              rotate_left
              ·intro hCont
               refine two_ (i := 12) (j := 13) (Ni := some 8) (Nj := some 9) #[true, true, true, true, true, true, true, true, true, true, true, true, true, false, false, false] #[true, true, true, true, true, true, true, true, true, true, true, true, false, true, false, false] rfl rfl rfl rfl (two_of HT_.out (by kernel_rfl)) (by decide) (by decide) (fun K hK => ?_) (fun K hK => ?_)
               ·skip
                refine box_step ?hg (N := 8) ?hd (cs := #[.int .i64 0, .int .i64 0]) (t := 25) ?hr ?_; (case hd => rfl); (case hg => rfl); (case hr => first | (go_simp; done) | (go_simp; rfl))
                intro gb245 hg w25 hbox hb
                have HS0_ := (hb.cell (World.block_lt_of_cell? _ _ (hHeld.1))).trans (hHeld.1)
                have HS1_ := (hb.cell (World.block_lt_of_cell? _ _ (hHeld.2.1))).trans (hHeld.2.1)
                have HS2_ := (hb.cell (World.block_lt_of_cell? _ _ (hHeld.2.2.1))).trans (hHeld.2.2.1)
                have HS3_ := (hb.cell (World.block_lt_of_cell? _ _ (hHeld.2.2.2))).trans (hHeld.2.2.2)
                have n0_ := Aside0.mk (Kd.V_below (Kd.V_elderB (by (with_reducible repeat (first | apply Kd.V_alloc | apply Kd.V_drewN | apply Kd.V_drew)); exact HO_0.out) gb245 (Nat.le_of_eq hg.symm)) hb)
                have n1_ := Aside0.mk (Kd.R_below (Kd.R_elderB (by (with_reducible repeat (first | apply Kd.R_alloc | apply Kd.R_drewN | apply Kd.R_drew)); exact HO_6.out) gb245 (Nat.le_of_eq hg.symm)) hb)
                have n2_ := Aside0.mk (blk_below (g := gb240) (o := .cells #[.int .i64 a1_0, .int .i64 a1_1, .int .i64 a1_2, .int .i64 a1_3] 40 (0, 0)) (by (with_reducible repeat (first | apply blk_drewN | apply blk_drew | apply blk_alloc)); exact BK240.out) hb)
                have n3_ := Aside0.mk (below_step (by repeat (first | (with_reducible first | exact HB.out | apply below_alloc | apply pw_below_drewN | apply below_drew1 | refine below_set ?_ GE240.out) | exact HB.out)) hb)
                have n4_ := Aside0.mk (hbox)
                have n5_ := Aside0.mk ((by rw [hg]; exact (below_size (by repeat (first | (with_reducible first | exact HB.out | apply below_alloc | apply pw_below_drewN | apply below_drew1 | refine below_set ?_ GE240.out) | exact HB.out))) : w.heap.size ≤ gb245))
                have n6_ := Aside0.mk ((by rw [hg]; exact (below_size (by repeat (first | (with_reducible first | exact HB.out | apply below_alloc | apply pw_below_drewN | apply below_drew1 | refine below_set ?_ GE240.out) | exact HB.out))) : w.heap.size ≤ gb245))
                have n7_ := Aside0.mk ((by rw [hg]; exact Nat.ne_of_lt (blk_lt (g := gb240) (o := .cells #[.int .i64 a1_0, .int .i64 a1_1, .int .i64 a1_2, .int .i64 a1_3] 40 (0, 0)) (by (with_reducible repeat (first | apply blk_drewN | apply blk_drew | apply blk_alloc)); exact BK240.out)) : gb240 ≠ gb245))
                have n8_ := Aside0.mk ((by rw [hg]; exact Nat.ne_of_gt (blk_lt (g := gb240) (o := .cells #[.int .i64 a1_0, .int .i64 a1_1, .int .i64 a1_2, .int .i64 a1_3] 40 (0, 0)) (by (with_reducible repeat (first | apply blk_drewN | apply blk_drew | apply blk_alloc)); exact BK240.out)) : gb245 ≠ gb240))
                clear HO_0
                clear HO_6
                clear BK240
                clear HB
                have HO_0 := n0_
                have HO_6 := n1_
                have BK240 := n2_
                have HB := n3_
                have BK245 := n4_
                have GW245 := n5_
                have GE245 := n6_
                have NB240_245 := n7_
                have NB245_240 := n8_
                clear n0_ n1_ n2_ n3_ n4_ n5_ n6_ n7_ n8_
                clear hb hbox hg
                refine hK.out _ _ ⟨HS0_, HS1_, HS2_, HS3_⟩ (fun hHeld => ?_)
                clear hK K
                refine norm_ (a' := ?_) ?_ ?_
                rotate_left
                ·show Act.put _ (some 8) _ = _
                 simp only [Act.put, List.setIfInBounds_toArray, List.set_cons_zero, List.set_cons_succ, i64_w, i32_w]
                 rfl
                refine one_ (i := 13) (N := some 9) #[true, true, true, true, true, true, true, true, true, true, true, true, true, true, false, false] rfl rfl (one_of HT_.out (by kernel_rfl)) (by decide) (fun K hK => ?_)
                refine box_step ?hg (N := 9) ?hd (cs := #[.int .i64 0, .int .i64 0]) (t := 25) ?hr ?_; (case hd => rfl); (case hg => rfl); (case hr => first | (go_simp; done) | (go_simp; rfl))
                intro gb246 hg w26 hbox hb
                have HS0_ := (hb.cell (World.block_lt_of_cell? _ _ (hHeld.1))).trans (hHeld.1)
                have HS1_ := (hb.cell (World.block_lt_of_cell? _ _ (hHeld.2.1))).trans (hHeld.2.1)
                have HS2_ := (hb.cell (World.block_lt_of_cell? _ _ (hHeld.2.2.1))).trans (hHeld.2.2.1)
                have HS3_ := (hb.cell (World.block_lt_of_cell? _ _ (hHeld.2.2.2))).trans (hHeld.2.2.2)
                have n0_ := Aside0.mk (Kd.V_below (Kd.V_elderB (by (with_reducible repeat (first | apply Kd.V_alloc | apply Kd.V_drewN | apply Kd.V_drew)); exact HO_0.out) gb246 (Nat.le_of_eq hg.symm)) hb)
                have n1_ := Aside0.mk (Kd.R_below (Kd.R_elderB (by (with_reducible repeat (first | apply Kd.R_alloc | apply Kd.R_drewN | apply Kd.R_drew)); exact HO_6.out) gb246 (Nat.le_of_eq hg.symm)) hb)
                have n2_ := Aside0.mk (blk_below (g := gb240) (o := .cells #[.int .i64 a1_0, .int .i64 a1_1, .int .i64 a1_2, .int .i64 a1_3] 40 (0, 0)) (by (with_reducible repeat (first | apply blk_drewN | apply blk_drew | apply blk_alloc)); exact BK240.out) hb)
                have n3_ := Aside0.mk (blk_below (g := gb245) (o := .cells #[.int .i64 0, .int .i64 0] 25 (0, 0)) (by (with_reducible repeat (first | apply blk_drewN | apply blk_drew | apply blk_alloc)); exact BK245.out) hb)
                have n4_ := Aside0.mk (below_step (by repeat (first | (with_reducible first | exact HB.out | apply below_alloc | apply pw_below_drewN | apply below_drew1 | refine below_set ?_ GE240.out | refine below_set ?_ GE245.out) | exact HB.out)) hb)
                have n5_ := Aside0.mk (hbox)
                have n6_ := Aside0.mk ((by rw [hg]; exact (below_size (by repeat (first | (with_reducible first | exact HB.out | apply below_alloc | apply pw_below_drewN | apply below_drew1 | refine below_set ?_ GE240.out | refine below_set ?_ GE245.out) | exact HB.out))) : w.heap.size ≤ gb246))
                have n7_ := Aside0.mk ((by rw [hg]; exact (below_size (by repeat (first | (with_reducible first | exact HB.out | apply below_alloc | apply pw_below_drewN | apply below_drew1 | refine below_set ?_ GE240.out | refine below_set ?_ GE245.out) | exact HB.out))) : w.heap.size ≤ gb246))
                have n8_ := Aside0.mk ((by rw [hg]; exact Nat.ne_of_lt (blk_lt (g := gb240) (o := .cells #[.int .i64 a1_0, .int .i64 a1_1, .int .i64 a1_2, .int .i64 a1_3] 40 (0, 0)) (by (with_reducible repeat (first | apply blk_drewN | apply blk_drew | apply blk_alloc)); exact BK240.out)) : gb240 ≠ gb246))
                have n9_ := Aside0.mk ((by rw [hg]; exact Nat.ne_of_gt (blk_lt (g := gb240) (o := .cells #[.int .i64 a1_0, .int .i64 a1_1, .int .i64 a1_2, .int .i64 a1_3] 40 (0, 0)) (by (with_reducible repeat (first | apply blk_drewN | apply blk_drew | apply blk_alloc)); exact BK240.out)) : gb246 ≠ gb240))
                have n10_ := Aside0.mk ((by rw [hg]; exact Nat.ne_of_lt (blk_lt (g := gb245) (o := .cells #[.int .i64 0, .int .i64 0] 25 (0, 0)) (by (with_reducible repeat (first | apply blk_drewN | apply blk_drew | apply blk_alloc)); exact BK245.out)) : gb245 ≠ gb246))
                have n11_ := Aside0.mk ((by rw [hg]; exact Nat.ne_of_gt (blk_lt (g := gb245) (o := .cells #[.int .i64 0, .int .i64 0] 25 (0, 0)) (by (with_reducible repeat (first | apply blk_drewN | apply blk_drew | apply blk_alloc)); exact BK245.out)) : gb246 ≠ gb245))
                clear HO_0
                clear HO_6
                clear BK240
                clear BK245
                clear HB
                have HO_0 := n0_
                have HO_6 := n1_
                have BK240 := n2_
                have BK245 := n3_
                have HB := n4_
                have BK246 := n5_
                have GW246 := n6_
                have GE246 := n7_
                have NB240_246 := n8_
                have NB246_240 := n9_
                have NB245_246 := n10_
                have NB246_245 := n11_
                clear n0_ n1_ n2_ n3_ n4_ n5_ n6_ n7_ n8_ n9_ n10_ n11_
                clear hb hbox hg
                refine hK.out _ _ ⟨HS0_, HS1_, HS2_, HS3_⟩ (fun hHeld => ?_)
                clear hK K
                refine norm_ (a' := ?_) ?_ ?_
                rotate_left
                ·show Act.put _ (some 9) _ = _
                 simp only [Act.put, List.setIfInBounds_toArray, List.set_cons_zero, List.set_cons_succ, i64_w, i32_w]
                 rfl
                exact norm_ (by simp only [putAll, Act.put, List.setIfInBounds_toArray, List.set_cons_zero, List.set_cons_succ]) (hCont (gb245, gb246) _ ⟨hHeld, (by (with_reducible repeat (first | apply Kd.V_alloc | apply Kd.V_drewN | apply Kd.V_drew)); exact Kd.V_mono HO_0.out (fun _ hk => ⟨hk.1.1.1, ⟨hk.1.1.2.1, ⟨hk.1.1.2.2, ⟨hk.1.2, hk.2⟩⟩⟩⟩)), (by (with_reducible repeat (first | apply Kd.R_alloc | apply Kd.R_drewN | apply Kd.R_drew)); exact Kd.R_mono HO_6.out (fun _ hk => ⟨hk.1.1, ⟨hk.1.2, hk.2⟩⟩)), (by (with_reducible repeat (first | apply blk_drewN | apply blk_drew | apply blk_alloc)); exact BK240.out), (by (with_reducible repeat (first | apply blk_drewN | apply blk_drew | apply blk_alloc)); exact BK245.out), (by (with_reducible repeat (first | apply blk_drewN | apply blk_drew | apply blk_alloc)); exact BK246.out), GW245.out, GE245.out, NB240_245.out, NB245_240.out, NB246_245.out, NB245_246.out, GW246.out, GE246.out, NB240_246.out, NB246_240.out, (by repeat (first | (with_reducible first | exact HB.out | apply below_alloc | apply pw_below_drewN | apply below_drew1 | refine below_set ?_ GE240.out | refine below_set ?_ GE245.out | refine below_set ?_ GE246.out) | exact HB.out))⟩)
               ·skip
                refine box_step ?hg (N := 9) ?hd (cs := #[.int .i64 0, .int .i64 0]) (t := 25) ?hr ?_; (case hd => rfl); (case hg => rfl); (case hr => first | (go_simp; done) | (go_simp; rfl))
                intro gb246 hg w25 hbox hb
                have HS0_ := (hb.cell (World.block_lt_of_cell? _ _ (hHeld.1))).trans (hHeld.1)
                have HS1_ := (hb.cell (World.block_lt_of_cell? _ _ (hHeld.2.1))).trans (hHeld.2.1)
                have HS2_ := (hb.cell (World.block_lt_of_cell? _ _ (hHeld.2.2.1))).trans (hHeld.2.2.1)
                have HS3_ := (hb.cell (World.block_lt_of_cell? _ _ (hHeld.2.2.2))).trans (hHeld.2.2.2)
                have n0_ := Aside0.mk (Kd.V_below (Kd.V_elderB (by (with_reducible repeat (first | apply Kd.V_alloc | apply Kd.V_drewN | apply Kd.V_drew)); exact HO_0.out) gb246 (Nat.le_of_eq hg.symm)) hb)
                have n1_ := Aside0.mk (Kd.R_below (Kd.R_elderB (by (with_reducible repeat (first | apply Kd.R_alloc | apply Kd.R_drewN | apply Kd.R_drew)); exact HO_6.out) gb246 (Nat.le_of_eq hg.symm)) hb)
                have n2_ := Aside0.mk (blk_below (g := gb240) (o := .cells #[.int .i64 a1_0, .int .i64 a1_1, .int .i64 a1_2, .int .i64 a1_3] 40 (0, 0)) (by (with_reducible repeat (first | apply blk_drewN | apply blk_drew | apply blk_alloc)); exact BK240.out) hb)
                have n3_ := Aside0.mk (below_step (by repeat (first | (with_reducible first | exact HB.out | apply below_alloc | apply pw_below_drewN | apply below_drew1 | refine below_set ?_ GE240.out) | exact HB.out)) hb)
                have n4_ := Aside0.mk (hbox)
                have n5_ := Aside0.mk ((by rw [hg]; exact (below_size (by repeat (first | (with_reducible first | exact HB.out | apply below_alloc | apply pw_below_drewN | apply below_drew1 | refine below_set ?_ GE240.out) | exact HB.out))) : w.heap.size ≤ gb246))
                have n6_ := Aside0.mk ((by rw [hg]; exact (below_size (by repeat (first | (with_reducible first | exact HB.out | apply below_alloc | apply pw_below_drewN | apply below_drew1 | refine below_set ?_ GE240.out) | exact HB.out))) : w.heap.size ≤ gb246))
                have n7_ := Aside0.mk ((by rw [hg]; exact Nat.ne_of_lt (blk_lt (g := gb240) (o := .cells #[.int .i64 a1_0, .int .i64 a1_1, .int .i64 a1_2, .int .i64 a1_3] 40 (0, 0)) (by (with_reducible repeat (first | apply blk_drewN | apply blk_drew | apply blk_alloc)); exact BK240.out)) : gb240 ≠ gb246))
                have n8_ := Aside0.mk ((by rw [hg]; exact Nat.ne_of_gt (blk_lt (g := gb240) (o := .cells #[.int .i64 a1_0, .int .i64 a1_1, .int .i64 a1_2, .int .i64 a1_3] 40 (0, 0)) (by (with_reducible repeat (first | apply blk_drewN | apply blk_drew | apply blk_alloc)); exact BK240.out)) : gb246 ≠ gb240))
                clear HO_0
                clear HO_6
                clear BK240
                clear HB
                have HO_0 := n0_
                have HO_6 := n1_
                have BK240 := n2_
                have HB := n3_
                have BK246 := n4_
                have GW246 := n5_
                have GE246 := n6_
                have NB240_246 := n7_
                have NB246_240 := n8_
                clear n0_ n1_ n2_ n3_ n4_ n5_ n6_ n7_ n8_
                clear hb hbox hg
                refine hK.out _ _ ⟨HS0_, HS1_, HS2_, HS3_⟩ (fun hHeld => ?_)
                clear hK K
                refine norm_ (a' := ?_) ?_ ?_
                rotate_left
                ·show Act.put _ (some 9) _ = _
                 simp only [Act.put, List.setIfInBounds_toArray, List.set_cons_zero, List.set_cons_succ, i64_w, i32_w]
                 rfl
                refine one_ (i := 12) (N := some 8) #[true, true, true, true, true, true, true, true, true, true, true, true, true, true, false, false] rfl rfl (one_of HT_.out (by kernel_rfl)) (by decide) (fun K hK => ?_)
                refine box_step ?hg (N := 8) ?hd (cs := #[.int .i64 0, .int .i64 0]) (t := 25) ?hr ?_; (case hd => rfl); (case hg => rfl); (case hr => first | (go_simp; done) | (go_simp; rfl))
                intro gb245 hg w26 hbox hb
                have HS0_ := (hb.cell (World.block_lt_of_cell? _ _ (hHeld.1))).trans (hHeld.1)
                have HS1_ := (hb.cell (World.block_lt_of_cell? _ _ (hHeld.2.1))).trans (hHeld.2.1)
                have HS2_ := (hb.cell (World.block_lt_of_cell? _ _ (hHeld.2.2.1))).trans (hHeld.2.2.1)
                have HS3_ := (hb.cell (World.block_lt_of_cell? _ _ (hHeld.2.2.2))).trans (hHeld.2.2.2)
                have n0_ := Aside0.mk (Kd.V_below (Kd.V_elderB (by (with_reducible repeat (first | apply Kd.V_alloc | apply Kd.V_drewN | apply Kd.V_drew)); exact HO_0.out) gb245 (Nat.le_of_eq hg.symm)) hb)
                have n1_ := Aside0.mk (Kd.R_below (Kd.R_elderB (by (with_reducible repeat (first | apply Kd.R_alloc | apply Kd.R_drewN | apply Kd.R_drew)); exact HO_6.out) gb245 (Nat.le_of_eq hg.symm)) hb)
                have n2_ := Aside0.mk (blk_below (g := gb240) (o := .cells #[.int .i64 a1_0, .int .i64 a1_1, .int .i64 a1_2, .int .i64 a1_3] 40 (0, 0)) (by (with_reducible repeat (first | apply blk_drewN | apply blk_drew | apply blk_alloc)); exact BK240.out) hb)
                have n3_ := Aside0.mk (blk_below (g := gb246) (o := .cells #[.int .i64 0, .int .i64 0] 25 (0, 0)) (by (with_reducible repeat (first | apply blk_drewN | apply blk_drew | apply blk_alloc)); exact BK246.out) hb)
                have n4_ := Aside0.mk (below_step (by repeat (first | (with_reducible first | exact HB.out | apply below_alloc | apply pw_below_drewN | apply below_drew1 | refine below_set ?_ GE240.out | refine below_set ?_ GE246.out) | exact HB.out)) hb)
                have n5_ := Aside0.mk (hbox)
                have n6_ := Aside0.mk ((by rw [hg]; exact (below_size (by repeat (first | (with_reducible first | exact HB.out | apply below_alloc | apply pw_below_drewN | apply below_drew1 | refine below_set ?_ GE240.out | refine below_set ?_ GE246.out) | exact HB.out))) : w.heap.size ≤ gb245))
                have n7_ := Aside0.mk ((by rw [hg]; exact (below_size (by repeat (first | (with_reducible first | exact HB.out | apply below_alloc | apply pw_below_drewN | apply below_drew1 | refine below_set ?_ GE240.out | refine below_set ?_ GE246.out) | exact HB.out))) : w.heap.size ≤ gb245))
                have n8_ := Aside0.mk ((by rw [hg]; exact Nat.ne_of_lt (blk_lt (g := gb240) (o := .cells #[.int .i64 a1_0, .int .i64 a1_1, .int .i64 a1_2, .int .i64 a1_3] 40 (0, 0)) (by (with_reducible repeat (first | apply blk_drewN | apply blk_drew | apply blk_alloc)); exact BK240.out)) : gb240 ≠ gb245))
                have n9_ := Aside0.mk ((by rw [hg]; exact Nat.ne_of_gt (blk_lt (g := gb240) (o := .cells #[.int .i64 a1_0, .int .i64 a1_1, .int .i64 a1_2, .int .i64 a1_3] 40 (0, 0)) (by (with_reducible repeat (first | apply blk_drewN | apply blk_drew | apply blk_alloc)); exact BK240.out)) : gb245 ≠ gb240))
                have n10_ := Aside0.mk ((by rw [hg]; exact Nat.ne_of_lt (blk_lt (g := gb246) (o := .cells #[.int .i64 0, .int .i64 0] 25 (0, 0)) (by (with_reducible repeat (first | apply blk_drewN | apply blk_drew | apply blk_alloc)); exact BK246.out)) : gb246 ≠ gb245))
                have n11_ := Aside0.mk ((by rw [hg]; exact Nat.ne_of_gt (blk_lt (g := gb246) (o := .cells #[.int .i64 0, .int .i64 0] 25 (0, 0)) (by (with_reducible repeat (first | apply blk_drewN | apply blk_drew | apply blk_alloc)); exact BK246.out)) : gb245 ≠ gb246))
                clear HO_0
                clear HO_6
                clear BK240
                clear BK246
                clear HB
                have HO_0 := n0_
                have HO_6 := n1_
                have BK240 := n2_
                have BK246 := n3_
                have HB := n4_
                have BK245 := n5_
                have GW245 := n6_
                have GE245 := n7_
                have NB240_245 := n8_
                have NB245_240 := n9_
                have NB246_245 := n10_
                have NB245_246 := n11_
                clear n0_ n1_ n2_ n3_ n4_ n5_ n6_ n7_ n8_ n9_ n10_ n11_
                clear hb hbox hg
                refine hK.out _ _ ⟨HS0_, HS1_, HS2_, HS3_⟩ (fun hHeld => ?_)
                clear hK K
                refine norm_ (a' := ?_) ?_ ?_
                rotate_left
                ·show Act.put _ (some 8) _ = _
                 simp only [Act.put, List.setIfInBounds_toArray, List.set_cons_zero, List.set_cons_succ, i64_w, i32_w]
                 rfl
                exact norm_ (by simp only [putAll, Act.put, List.setIfInBounds_toArray, List.set_cons_zero, List.set_cons_succ]) (hCont (gb245, gb246) _ ⟨hHeld, (by (with_reducible repeat (first | apply Kd.V_alloc | apply Kd.V_drewN | apply Kd.V_drew)); exact Kd.V_mono HO_0.out (fun _ hk => ⟨hk.1.1.1, ⟨hk.1.1.2.1, ⟨hk.1.1.2.2, ⟨hk.2, hk.1.2⟩⟩⟩⟩)), (by (with_reducible repeat (first | apply Kd.R_alloc | apply Kd.R_drewN | apply Kd.R_drew)); exact Kd.R_mono HO_6.out (fun _ hk => ⟨hk.1.1, ⟨hk.2, hk.1.2⟩⟩)), (by (with_reducible repeat (first | apply blk_drewN | apply blk_drew | apply blk_alloc)); exact BK240.out), (by (with_reducible repeat (first | apply blk_drewN | apply blk_drew | apply blk_alloc)); exact BK245.out), (by (with_reducible repeat (first | apply blk_drewN | apply blk_drew | apply blk_alloc)); exact BK246.out), GW245.out, GE245.out, NB240_245.out, NB245_240.out, NB246_245.out, NB245_246.out, GW246.out, GE246.out, NB240_246.out, NB246_240.out, (by repeat (first | (with_reducible first | exact HB.out | apply below_alloc | apply pw_below_drewN | apply below_drew1 | refine below_set ?_ GE240.out | refine below_set ?_ GE246.out | refine below_set ?_ GE245.out) | exact HB.out))⟩)
              rintro ⟨gb245, gb246⟩ w27 ⟨hS_, h0_, h1_, h2_, h3_, h4_, h5_, h6_, h7_, h8_, h9_, h10_, h11_, h12_, h13_, h14_, h15_⟩
              have n0_ : Aside0 (Kd.V k25 25 w27 w.heap.size (fun k_ => (P0_ k_ ∨ w.heap.size ≤ k_) ∧ some k_ ≠ (u6 : Value).ownBlock ∧ k_ ≠ gb240 ∧ k_ ≠ gb245 ∧ k_ ≠ gb246) (.slice (some ad243) x0_2.length co23) x0_2) := ⟨h0_⟩
              have n1_ : Aside0 (Kd.R k25 25 w27 w.heap.size (fun k_ => (w.heap.size ≤ k_) ∧ k_ ≠ gb245 ∧ k_ ≠ gb246) u6 x6_3) := ⟨h1_⟩
              have n2_ : Aside0 (w27.heap[gb240]? = some (.cells #[.int .i64 a1_0, .int .i64 a1_1, .int .i64 a1_2, .int .i64 a1_3] 40 (0, 0))) := ⟨h2_⟩
              have n3_ : Aside0 (w27.heap[gb245]? = some (.cells #[.int .i64 0, .int .i64 0] 25 (0, 0))) := ⟨h3_⟩
              have n4_ : Aside0 (w27.heap[gb246]? = some (.cells #[.int .i64 0, .int .i64 0] 25 (0, 0))) := ⟨h4_⟩
              have n5_ : Aside0 (w.heap.size ≤ gb245) := ⟨h5_⟩
              have n6_ : Aside0 (w.heap.size ≤ gb245) := ⟨h6_⟩
              have n7_ : Aside0 (gb240 ≠ gb245) := ⟨h7_⟩
              have n8_ : Aside0 (gb245 ≠ gb240) := ⟨h8_⟩
              have n9_ : Aside0 (gb246 ≠ gb245) := ⟨h9_⟩
              have n10_ : Aside0 (gb245 ≠ gb246) := ⟨h10_⟩
              have n11_ : Aside0 (w.heap.size ≤ gb246) := ⟨h11_⟩
              have n12_ : Aside0 (w.heap.size ≤ gb246) := ⟨h12_⟩
              have n13_ : Aside0 (gb240 ≠ gb246) := ⟨h13_⟩
              have n14_ : Aside0 (gb246 ≠ gb240) := ⟨h14_⟩
              have n15_ : Aside0 (Below w.heap.size w w27) := ⟨h15_⟩
              clear HO_0
              clear HO_6
              clear BK240
              clear HB
              clear h0_ h1_ h2_ h3_ h4_ h5_ h6_ h7_ h8_ h9_ h10_ h11_ h12_ h13_ h14_ h15_
              have HO_0 := n0_
              have HO_6 := n1_
              have BK240 := n2_
              have BK245 := n3_
              have BK246 := n4_
              have GW245 := n5_
              have GE245 := n6_
              have NB240_245 := n7_
              have NB245_240 := n8_
              have NB246_245 := n9_
              have NB245_246 := n10_
              have GW246 := n11_
              have GE246 := n12_
              have NB240_246 := n13_
              have NB246_240 := n14_
              have HB := n15_
              clear n0_ n1_ n2_ n3_ n4_ n5_ n6_ n7_ n8_ n9_ n10_ n11_ n12_ n13_ n14_ n15_
              have hHeld : w27.cell? (ad243.add ((x7_3).toNat * 2)) = some (.int .i64 ((rd_T25 x0_2 x7_3).f0)) ∧ w27.cell? ⟨(ad243.add ((x7_3).toNat * 2)).block, (ad243.add ((x7_3).toNat * 2)).off + 1, none⟩ = some (.int .i64 ((rd_T25 x0_2 x7_3).f1)) ∧ w27.cell? (ad243.add (((ji18)).toNat * 2)) = some (.int .i64 ((rd_T25 x0_2 (ji18)).f0)) ∧ w27.cell? ⟨(ad243.add (((ji18)).toNat * 2)).block, (ad243.add (((ji18)).toNat * 2)).off + 1, none⟩ = some (.int .i64 ((rd_T25 x0_2 (ji18)).f1)) := hS_
              refine norm_ (a' := ?_) ?_ ?_
              rotate_left
              ·simp only [putAll, Act.put, List.setIfInBounds_toArray, List.set_cons_zero, List.set_cons_succ]
               rfl
              refine one_ (i := 14) (N := none) #[true, true, true, true, true, true, true, true, true, true, true, true, true, true, true, false] rfl rfl (one_of HT_.out (by kernel_rfl)) (by decide) (fun K hK => ?_)
              have hs28 : w27.cell? ⟨gb245, 0, none⟩ = some (.int .i64 0) := (blk_cell BK245.out 0).trans rfl
              have hfs28 := blk_frozen BK245.out 0
              have hns28_0 := NB240_245.out
              have hns28_2 := NB246_245.out
              have hms28_0 := NB245_240.out
              have hms28_2 := NB245_246.out
              have hs29 : w27.cell? ⟨gb245, 1, none⟩ = some (.int .i64 0) := (blk_cell BK245.out 1).trans rfl
              have hfs29 := blk_frozen BK245.out 1
              have hns29_0 := NB240_245.out
              have hns29_2 := NB246_245.out
              have hms29_0 := NB245_240.out
              have hms29_2 := NB245_246.out
              refine skip_ (w1 := ?_) (by rfl) rfl ?_ ?_
              rotate_left
              ·go_simp
               rfl
              refine hK.out _ _ ⟨((cell_far (p := ⟨gb245, _, none⟩) (by first | exact Kd.V_block HO_0.out (by decide) vz243 (fun _ hk => hk.2.2.2.1) | (rw [add_block]; exact Kd.V_block HO_0.out (by decide) vz243 (fun _ hk => hk.2.2.2.1)) | (show (Addr.add _ _).block ≠ _; rw [add_block]; exact Kd.V_block HO_0.out (by decide) vz243 (fun _ hk => hk.2.2.2.1)) | (dsimp only; exact Kd.V_block HO_0.out (by decide) vz243 (fun _ hk => hk.2.2.2.1))) _).trans (((cell_far (p := ⟨gb245, _, none⟩) (by first | exact Kd.V_block HO_0.out (by decide) vz243 (fun _ hk => hk.2.2.2.1) | (rw [add_block]; exact Kd.V_block HO_0.out (by decide) vz243 (fun _ hk => hk.2.2.2.1)) | (show (Addr.add _ _).block ≠ _; rw [add_block]; exact Kd.V_block HO_0.out (by decide) vz243 (fun _ hk => hk.2.2.2.1)) | (dsimp only; exact Kd.V_block HO_0.out (by decide) vz243 (fun _ hk => hk.2.2.2.1))) _).trans (hHeld.1)))), ((cell_far (p := ⟨gb245, _, none⟩) (by first | exact Kd.V_block HO_0.out (by decide) vz243 (fun _ hk => hk.2.2.2.1) | (rw [add_block]; exact Kd.V_block HO_0.out (by decide) vz243 (fun _ hk => hk.2.2.2.1)) | (show (Addr.add _ _).block ≠ _; rw [add_block]; exact Kd.V_block HO_0.out (by decide) vz243 (fun _ hk => hk.2.2.2.1)) | (dsimp only; exact Kd.V_block HO_0.out (by decide) vz243 (fun _ hk => hk.2.2.2.1))) _).trans (((cell_far (p := ⟨gb245, _, none⟩) (by first | exact Kd.V_block HO_0.out (by decide) vz243 (fun _ hk => hk.2.2.2.1) | (rw [add_block]; exact Kd.V_block HO_0.out (by decide) vz243 (fun _ hk => hk.2.2.2.1)) | (show (Addr.add _ _).block ≠ _; rw [add_block]; exact Kd.V_block HO_0.out (by decide) vz243 (fun _ hk => hk.2.2.2.1)) | (dsimp only; exact Kd.V_block HO_0.out (by decide) vz243 (fun _ hk => hk.2.2.2.1))) _).trans (hHeld.2.1)))), ((cell_far (p := ⟨gb245, _, none⟩) (by first | exact Kd.V_block HO_0.out (by decide) vz244 (fun _ hk => hk.2.2.2.1) | (rw [add_block]; exact Kd.V_block HO_0.out (by decide) vz244 (fun _ hk => hk.2.2.2.1)) | (show (Addr.add _ _).block ≠ _; rw [add_block]; exact Kd.V_block HO_0.out (by decide) vz244 (fun _ hk => hk.2.2.2.1)) | (dsimp only; exact Kd.V_block HO_0.out (by decide) vz244 (fun _ hk => hk.2.2.2.1))) _).trans (((cell_far (p := ⟨gb245, _, none⟩) (by first | exact Kd.V_block HO_0.out (by decide) vz244 (fun _ hk => hk.2.2.2.1) | (rw [add_block]; exact Kd.V_block HO_0.out (by decide) vz244 (fun _ hk => hk.2.2.2.1)) | (show (Addr.add _ _).block ≠ _; rw [add_block]; exact Kd.V_block HO_0.out (by decide) vz244 (fun _ hk => hk.2.2.2.1)) | (dsimp only; exact Kd.V_block HO_0.out (by decide) vz244 (fun _ hk => hk.2.2.2.1))) _).trans (hHeld.2.2.1)))), ((cell_far (p := ⟨gb245, _, none⟩) (by first | exact Kd.V_block HO_0.out (by decide) vz244 (fun _ hk => hk.2.2.2.1) | (rw [add_block]; exact Kd.V_block HO_0.out (by decide) vz244 (fun _ hk => hk.2.2.2.1)) | (show (Addr.add _ _).block ≠ _; rw [add_block]; exact Kd.V_block HO_0.out (by decide) vz244 (fun _ hk => hk.2.2.2.1)) | (dsimp only; exact Kd.V_block HO_0.out (by decide) vz244 (fun _ hk => hk.2.2.2.1))) _).trans (((cell_far (p := ⟨gb245, _, none⟩) (by first | exact Kd.V_block HO_0.out (by decide) vz244 (fun _ hk => hk.2.2.2.1) | (rw [add_block]; exact Kd.V_block HO_0.out (by decide) vz244 (fun _ hk => hk.2.2.2.1)) | (show (Addr.add _ _).block ≠ _; rw [add_block]; exact Kd.V_block HO_0.out (by decide) vz244 (fun _ hk => hk.2.2.2.1)) | (dsimp only; exact Kd.V_block HO_0.out (by decide) vz244 (fun _ hk => hk.2.2.2.1))) _).trans (hHeld.2.2.2))))⟩ (fun hHeld => ?_)
              clear hK K
              refine one_ (i := 15) (N := none) #[true, true, true, true, true, true, true, true, true, true, true, true, true, true, true, true] rfl rfl (one_of HT_.out (by kernel_rfl)) (by decide) (fun K hK => ?_)
              have hs30 : w27.cell? ⟨gb246, 0, none⟩ = some (.int .i64 0) := (blk_cell BK246.out 0).trans rfl
              have hfs30 := blk_frozen BK246.out 0
              have hns30_0 := NB240_246.out
              have hns30_1 := NB245_246.out
              have hms30_0 := NB246_240.out
              have hms30_1 := NB246_245.out
              have hs31 : w27.cell? ⟨gb246, 1, none⟩ = some (.int .i64 0) := (blk_cell BK246.out 1).trans rfl
              have hfs31 := blk_frozen BK246.out 1
              have hns31_0 := NB240_246.out
              have hns31_1 := NB245_246.out
              have hms31_0 := NB246_240.out
              have hms31_1 := NB246_245.out
              refine skip_ (w1 := ?_) (by rfl) rfl ?_ ?_
              rotate_left
              ·go_simp
               rfl
              refine hK.out _ _ ⟨((cell_far (p := ⟨gb246, _, none⟩) (by first | exact Kd.V_block HO_0.out (by decide) vz243 (fun _ hk => hk.2.2.2.2) | (rw [add_block]; exact Kd.V_block HO_0.out (by decide) vz243 (fun _ hk => hk.2.2.2.2)) | (show (Addr.add _ _).block ≠ _; rw [add_block]; exact Kd.V_block HO_0.out (by decide) vz243 (fun _ hk => hk.2.2.2.2)) | (dsimp only; exact Kd.V_block HO_0.out (by decide) vz243 (fun _ hk => hk.2.2.2.2))) _).trans (((cell_far (p := ⟨gb246, _, none⟩) (by first | exact Kd.V_block HO_0.out (by decide) vz243 (fun _ hk => hk.2.2.2.2) | (rw [add_block]; exact Kd.V_block HO_0.out (by decide) vz243 (fun _ hk => hk.2.2.2.2)) | (show (Addr.add _ _).block ≠ _; rw [add_block]; exact Kd.V_block HO_0.out (by decide) vz243 (fun _ hk => hk.2.2.2.2)) | (dsimp only; exact Kd.V_block HO_0.out (by decide) vz243 (fun _ hk => hk.2.2.2.2))) _).trans (hHeld.1)))), ((cell_far (p := ⟨gb246, _, none⟩) (by first | exact Kd.V_block HO_0.out (by decide) vz243 (fun _ hk => hk.2.2.2.2) | (rw [add_block]; exact Kd.V_block HO_0.out (by decide) vz243 (fun _ hk => hk.2.2.2.2)) | (show (Addr.add _ _).block ≠ _; rw [add_block]; exact Kd.V_block HO_0.out (by decide) vz243 (fun _ hk => hk.2.2.2.2)) | (dsimp only; exact Kd.V_block HO_0.out (by decide) vz243 (fun _ hk => hk.2.2.2.2))) _).trans (((cell_far (p := ⟨gb246, _, none⟩) (by first | exact Kd.V_block HO_0.out (by decide) vz243 (fun _ hk => hk.2.2.2.2) | (rw [add_block]; exact Kd.V_block HO_0.out (by decide) vz243 (fun _ hk => hk.2.2.2.2)) | (show (Addr.add _ _).block ≠ _; rw [add_block]; exact Kd.V_block HO_0.out (by decide) vz243 (fun _ hk => hk.2.2.2.2)) | (dsimp only; exact Kd.V_block HO_0.out (by decide) vz243 (fun _ hk => hk.2.2.2.2))) _).trans (hHeld.2.1)))), ((cell_far (p := ⟨gb246, _, none⟩) (by first | exact Kd.V_block HO_0.out (by decide) vz244 (fun _ hk => hk.2.2.2.2) | (rw [add_block]; exact Kd.V_block HO_0.out (by decide) vz244 (fun _ hk => hk.2.2.2.2)) | (show (Addr.add _ _).block ≠ _; rw [add_block]; exact Kd.V_block HO_0.out (by decide) vz244 (fun _ hk => hk.2.2.2.2)) | (dsimp only; exact Kd.V_block HO_0.out (by decide) vz244 (fun _ hk => hk.2.2.2.2))) _).trans (((cell_far (p := ⟨gb246, _, none⟩) (by first | exact Kd.V_block HO_0.out (by decide) vz244 (fun _ hk => hk.2.2.2.2) | (rw [add_block]; exact Kd.V_block HO_0.out (by decide) vz244 (fun _ hk => hk.2.2.2.2)) | (show (Addr.add _ _).block ≠ _; rw [add_block]; exact Kd.V_block HO_0.out (by decide) vz244 (fun _ hk => hk.2.2.2.2)) | (dsimp only; exact Kd.V_block HO_0.out (by decide) vz244 (fun _ hk => hk.2.2.2.2))) _).trans (hHeld.2.2.1)))), ((cell_far (p := ⟨gb246, _, none⟩) (by first | exact Kd.V_block HO_0.out (by decide) vz244 (fun _ hk => hk.2.2.2.2) | (rw [add_block]; exact Kd.V_block HO_0.out (by decide) vz244 (fun _ hk => hk.2.2.2.2)) | (show (Addr.add _ _).block ≠ _; rw [add_block]; exact Kd.V_block HO_0.out (by decide) vz244 (fun _ hk => hk.2.2.2.2)) | (dsimp only; exact Kd.V_block HO_0.out (by decide) vz244 (fun _ hk => hk.2.2.2.2))) _).trans (((cell_far (p := ⟨gb246, _, none⟩) (by first | exact Kd.V_block HO_0.out (by decide) vz244 (fun _ hk => hk.2.2.2.2) | (rw [add_block]; exact Kd.V_block HO_0.out (by decide) vz244 (fun _ hk => hk.2.2.2.2)) | (show (Addr.add _ _).block ≠ _; rw [add_block]; exact Kd.V_block HO_0.out (by decide) vz244 (fun _ hk => hk.2.2.2.2)) | (dsimp only; exact Kd.V_block HO_0.out (by decide) vz244 (fun _ hk => hk.2.2.2.2))) _).trans (hHeld.2.2.2))))⟩ (fun hHeld => ?_)
              clear hK K
              refine done_ (done_of HT_.out (by kernel_rfl)) ?_
              have hnb32 := NB245_240.out
              have hnc32 := NB240_245.out
              have hnb33 := NB245_246.out
              have hnc33 := NB246_245.out
              have hcz34_0 : w27.cell? ⟨gb245, 0, none⟩ = some (.int .i64 0) := (blk_cell BK245.out 0).trans rfl
              have hcz34_1 : w27.cell? ⟨gb245, 1, none⟩ = some (.int .i64 0) := (blk_cell BK245.out 1).trans rfl
              have hfz34_0 := blk_frozen BK245.out 0
              have hfz34_1 := blk_frozen BK245.out 1
              have hnb35 := NB240_246.out
              have hnc35 := NB246_240.out
              have hcz36_0 : w27.cell? ⟨gb240, 0, none⟩ = some (.int .i64 a1_0) := (blk_cell BK240.out 0).trans rfl
              have hcz36_1 : w27.cell? ⟨gb240, 1, none⟩ = some (.int .i64 a1_1) := (blk_cell BK240.out 1).trans rfl
              have hcz36_2 : w27.cell? ⟨gb240, 2, none⟩ = some (.int .i64 a1_2) := (blk_cell BK240.out 2).trans rfl
              have hcz36_3 : w27.cell? ⟨gb240, 3, none⟩ = some (.int .i64 a1_3) := (blk_cell BK240.out 3).trans rfl
              have hfz36_0 := blk_frozen BK240.out 0
              have hfz36_1 := blk_frozen BK240.out 1
              have hfz36_2 := blk_frozen BK240.out 2
              have hfz36_3 := blk_frozen BK240.out 3
              go_upto_if 43 with (first | ((with_reducible refine gate_callee (f := 57) rfl ?_); refine goesL_ (some 43) rfl rfl Try.func57 (by kernel_rfl) rfl #[.agg #[.int .i64 ((rd_T25 x0_2 x7_3).f0), .int .i64 ((rd_T25 x0_2 x7_3).f1)], .agg #[.int .i64 a1_0, .int .i64 a1_1, .int .i64 a1_2, .int .i64 a1_3], .int .i64 x5_2] rfl (by (try simp only [List.map_toArray, List.map_cons, List.map_nil]); first | done | rfl | (simp only [List.length_drop, List.length_take]; rfl)) ?_; (with_reducible refine (mapmakerref12_in.calls ((rd_T25 x0_2 x7_3).f0) ((rd_T25 x0_2 x7_3).f1) a1_0 a1_1 a1_2 a1_3 x5_2 t247 _ A21.out).mono ?_); rintro e w37 ⟨rfl, hb⟩; refine ⟨_, rfl, ?_⟩; have n0_ := Aside0.mk (Kd.V_below (by (with_reducible repeat (first | apply Kd.V_alloc | apply Kd.V_drewN | apply Kd.V_drew)); exact (Kd.V_mono (Kd.V_mono (Kd.V_far (p := ⟨gb246, 1, none⟩) (Kd.V_far (p := ⟨gb246, 0, none⟩) (Kd.V_far (p := ⟨gb245, 1, none⟩) (Kd.V_far (p := ⟨gb245, 0, none⟩) (Kd.V_mono (Kd.V_mono HO_0.out (fun k_ hk => (⟨hk, hk.2.2.2.1⟩ : _ ∧ k_ ≠ gb245))) (fun k_ hk => (⟨hk, hk.1.2.2.2.2⟩ : _ ∧ k_ ≠ gb246))) (fun _ hk => hk.1.2) (.int .i64 ((rd_T25 x0_2 x7_3).f0))) (fun _ hk => hk.1.2) (.int .i64 ((rd_T25 x0_2 x7_3).f1))) (fun _ hk => hk.2) (.int .i64 ((rd_T25 x0_2 (ji18)).f0))) (fun _ hk => hk.2) (.int .i64 ((rd_T25 x0_2 (ji18)).f1))) (fun _ h_ => h_.1)) (fun _ h_ => h_.1))) hb); have n1_ := Aside0.mk (Kd.R_below (by (with_reducible repeat (first | apply Kd.R_alloc | apply Kd.R_drewN | apply Kd.R_drew)); exact (Kd.R_mono (Kd.R_mono (Kd.R_far (p := ⟨gb246, 1, none⟩) (Kd.R_far (p := ⟨gb246, 0, none⟩) (Kd.R_far (p := ⟨gb245, 1, none⟩) (Kd.R_far (p := ⟨gb245, 0, none⟩) (Kd.R_mono (Kd.R_mono HO_6.out (fun k_ hk => (⟨hk, hk.2.1⟩ : _ ∧ k_ ≠ gb245))) (fun k_ hk => (⟨hk, hk.1.2.2⟩ : _ ∧ k_ ≠ gb246))) (fun _ hk => hk.1.2) (.int .i64 ((rd_T25 x0_2 x7_3).f0))) (fun _ hk => hk.1.2) (.int .i64 ((rd_T25 x0_2 x7_3).f1))) (fun _ hk => hk.2) (.int .i64 ((rd_T25 x0_2 (ji18)).f0))) (fun _ hk => hk.2) (.int .i64 ((rd_T25 x0_2 (ji18)).f1))) (fun _ h_ => h_.1)) (fun _ h_ => h_.1))) hb); have n2_ := Aside0.mk (blk_below (g := gb240) (o := .cells #[.int .i64 a1_0, .int .i64 a1_1, .int .i64 a1_2, .int .i64 a1_3] 40 (0, 0)) (by (with_reducible repeat (first | apply blk_drewN | apply blk_drew | apply blk_alloc)); refine blk_far ?_ NB240_246.out _; (with_reducible repeat (first | apply blk_drewN | apply blk_drew | apply blk_alloc)); refine blk_far ?_ NB240_246.out _; (with_reducible repeat (first | apply blk_drewN | apply blk_drew | apply blk_alloc)); refine blk_far ?_ NB240_245.out _; (with_reducible repeat (first | apply blk_drewN | apply blk_drew | apply blk_alloc)); refine blk_far ?_ NB240_245.out _; (with_reducible repeat (first | apply blk_drewN | apply blk_drew | apply blk_alloc)); exact BK240.out) hb); have n3_ := Aside0.mk (blk_below (g := gb245) (o := .cells #[.int .i64 ((rd_T25 x0_2 x7_3).f0), .int .i64 ((rd_T25 x0_2 x7_3).f1)] 25 (0, 0)) (by (with_reducible repeat (first | apply blk_drewN | apply blk_drew | apply blk_alloc)); refine blk_far ?_ NB245_246.out _; (with_reducible repeat (first | apply blk_drewN | apply blk_drew | apply blk_alloc)); refine blk_far ?_ NB245_246.out _; (with_reducible repeat (first | apply blk_drewN | apply blk_drew | apply blk_alloc)); refine blk_put (cs := #[.int .i64 ((rd_T25 x0_2 x7_3).f0), .int .i64 0]) ?_ 1 _ rfl; (with_reducible repeat (first | apply blk_drewN | apply blk_drew | apply blk_alloc)); refine blk_put (cs := #[.int .i64 0, .int .i64 0]) ?_ 0 _ rfl; (with_reducible repeat (first | apply blk_drewN | apply blk_drew | apply blk_alloc)); exact BK245.out) hb); have n4_ := Aside0.mk (blk_below (g := gb246) (o := .cells #[.int .i64 ((rd_T25 x0_2 (ji18)).f0), .int .i64 ((rd_T25 x0_2 (ji18)).f1)] 25 (0, 0)) (by (with_reducible repeat (first | apply blk_drewN | apply blk_drew | apply blk_alloc)); refine blk_put (cs := #[.int .i64 ((rd_T25 x0_2 (ji18)).f0), .int .i64 0]) ?_ 1 _ rfl; (with_reducible repeat (first | apply blk_drewN | apply blk_drew | apply blk_alloc)); refine blk_put (cs := #[.int .i64 0, .int .i64 0]) ?_ 0 _ rfl; (with_reducible repeat (first | apply blk_drewN | apply blk_drew | apply blk_alloc)); refine blk_far ?_ NB246_245.out _; (with_reducible repeat (first | apply blk_drewN | apply blk_drew | apply blk_alloc)); refine blk_far ?_ NB246_245.out _; (with_reducible repeat (first | apply blk_drewN | apply blk_drew | apply blk_alloc)); exact BK246.out) hb); have n5_ := Aside0.mk (below_step (by repeat (first | (with_reducible first | exact HB.out | apply below_alloc | apply pw_below_drewN | apply below_drew1 | refine below_set ?_ GE240.out | refine below_set ?_ GE245.out | refine below_set ?_ GE246.out) | exact HB.out)) hb); clear HO_0; clear HO_6; clear BK240; clear BK245; clear BK246; clear HB; have HO_0 := n0_; have HO_6 := n1_; have BK240 := n2_; have BK245 := n3_; have BK246 := n4_; have HB := n5_; clear n0_ n1_ n2_ n3_ n4_ n5_; (try clear hb); (try clear hb2); (try clear hk); (try clear hi)))
              (try simp only [Act.put, List.setIfInBounds_toArray, List.set_cons_zero, List.set_cons_succ])
              go_cut [6] (fun v6 wc => ∃ (kq : Nat) (x6_21 : List (S25)), Aside0 (mapmakerref12_Ring.j3 kq x0_2 x5_2 x6_21 x7_3 a1_0 a1_1 a1_2 a1_3 ((rd_T25 x0_2 x7_3).f0) ((rd_T25 x0_2 x7_3).f1) ((rd_T25 x0_2 (ji18)).f0) ((rd_T25 x0_2 (ji18)).f1) = some r) ∧ Aside0 (kq ≤ k3) ∧ Aside0 (Kd.V k25 25 wc w.heap.size (fun k_ => (P0_ k_ ∨ w.heap.size ≤ k_) ∧ some k_ ≠ (v6 : Value).ownBlock ∧ k_ ≠ gb240 ∧ k_ ≠ gb245 ∧ k_ ≠ gb246) (.slice (some ad243) x0_2.length co23) x0_2) ∧ Aside0 (Kd.R k25 25 wc w.heap.size (fun k_ => (w.heap.size ≤ k_) ∧ k_ ≠ gb245 ∧ k_ ≠ gb246) v6 x6_21) ∧ Aside0 (wc.heap[gb240]? = some (.cells #[.int .i64 a1_0, .int .i64 a1_1, .int .i64 a1_2, .int .i64 a1_3] 40 (0, 0))) ∧ Aside0 (wc.heap[gb245]? = some (.cells #[.int .i64 ((rd_T25 x0_2 x7_3).f0), .int .i64 ((rd_T25 x0_2 x7_3).f1)] 25 (0, 0))) ∧ Aside0 (wc.heap[gb246]? = some (.cells #[.int .i64 ((rd_T25 x0_2 (ji18)).f0), .int .i64 ((rd_T25 x0_2 (ji18)).f1)] 25 (0, 0))) ∧ Aside0 (Below w.heap.size w wc))
              case first =>
               have H := HC22.out
               clear HC22
               by_cases c38 : t247 = true
               ·subst c38
                have H1 : (if x6_3.length < 8796093022208 then (mapmakerref12_Ring.j3 k3 x0_2 x5_2 (x6_3 ++ [(⟨(rd_T25 x0_2 x7_3).f0, (rd_T25 x0_2 x7_3).f1⟩ : S25)]) x7_3 a1_0 a1_1 a1_2 a1_3 ((rd_T25 x0_2 x7_3).f0) ((rd_T25 x0_2 x7_3).f1) ((rd_T25 x0_2 (ji18)).f0) ((rd_T25 x0_2 (ji18)).f1)) else (none)) = some r := by rw [if_pos rfl] at H; exact H
                clear H
                have H := H1
                clear H1
                by_cases c39 : x6_3.length < 8796093022208
                ·rw [if_pos c39] at H
                 have LMc39 := Aside0.mk c39
                 clear c39
                 obtain ⟨y248, hy248⟩ : ∃ y_ : List (S25), y_ = (x6_3 ++ [(⟨(rd_T25 x0_2 x7_3).f0, (rd_T25 x0_2 x7_3).f1⟩ : S25)]) := ⟨_, rfl⟩
                 replace H : (mapmakerref12_Ring.j3 k3 x0_2 x5_2 y248 x7_3 a1_0 a1_1 a1_2 a1_3 ((rd_T25 x0_2 x7_3).f0) ((rd_T25 x0_2 x7_3).f1) ((rd_T25 x0_2 (ji18)).f0) ((rd_T25 x0_2 (ji18)).f1)) = some r := by first | (rw [hy248]; with_reducible exact H) | (have H2_ := (Option.bind_some _ _).symm.trans H; rw [hy248]; with_reducible exact H2_) | (have H2_ := (Option.bind_some _ _).symm.trans H; with_reducible exact H2_) | with_reducible exact H | (rw [hy248]; exact H) | exact H
                 have Ny248 := Aside0.mk hy248
                 clear hy248
                 have H' := Aside0.mk H
                 clear H
                 have hnb40 := NB245_240.out
                 have hnc40 := NB240_245.out
                 have hnb41 := NB245_246.out
                 have hnc41 := NB246_245.out
                 have hcz42_0 : w37.cell? ⟨gb245, 0, none⟩ = some (.int .i64 ((rd_T25 x0_2 x7_3).f0)) := (blk_cell BK245.out 0).trans rfl
                 have hcz42_1 : w37.cell? ⟨gb245, 1, none⟩ = some (.int .i64 ((rd_T25 x0_2 x7_3).f1)) := (blk_cell BK245.out 1).trans rfl
                 have hfz42_0 := blk_frozen BK245.out 0
                 have hfz42_1 := blk_frozen BK245.out 1
                 go_wp2_with (first | ((with_reducible refine gate_builtin (b := .append) (xs := #[.tmp 44, .tmp 46]) rfl ?_); at_builtin; refine Kd.R_append k25 (w0 := w) w.heap.size rfl (.tmp 44) (.tmp 46) 30 25 (.agg #[(.int .i64 0), (.int .i64 0)]) 16 rfl Try.underlying30 info25 rfl (by decide) (by omega) u6 x6_3 (⟨(rd_T25 x0_2 x7_3).f0, (rd_T25 x0_2 x7_3).f1⟩ : S25) [.int .i64 ((rd_T25 x0_2 x7_3).f0), .int .i64 ((rd_T25 x0_2 x7_3).f1)] (fun k_ => (w.heap.size ≤ k_) ∧ k_ ≠ gb245 ∧ k_ ≠ gb246) (fun _ => False) rfl rfl ?aP (fun _ hk => hk.elim) ?aF ?aO ?aB ?aS ?aL ?_; (case aP => exact k25_mkM _ _ _ (⟨(rd_T25 x0_2 x7_3).f0, (rd_T25 x0_2 x7_3).f1⟩ : S25)); (case aB => exact (by repeat (first | (with_reducible first | exact HB.out | apply below_alloc | apply pw_below_drewN | apply below_drew1 | refine below_set ?_ GE240.out | refine below_set ?_ GE245.out | refine below_set ?_ GE246.out) | exact HB.out))); (case aF => exact (fun k_ hk => ⟨(Nat.le_trans (below_size (by repeat (first | (with_reducible first | exact HB.out | apply below_alloc | apply pw_below_drewN | apply below_drew1 | refine below_set ?_ GE240.out | refine below_set ?_ GE245.out | refine below_set ?_ GE246.out) | exact HB.out))) hk), Kd.freshB (g := gb245) (o := .cells #[.int .i64 ((rd_T25 x0_2 x7_3).f0), .int .i64 ((rd_T25 x0_2 x7_3).f1)] 25 (0, 0)) (by (with_reducible repeat (first | apply blk_drewN | apply blk_drew | apply blk_alloc)); exact BK245.out) k_ hk, Kd.freshB (g := gb246) (o := .cells #[.int .i64 ((rd_T25 x0_2 (ji18)).f0), .int .i64 ((rd_T25 x0_2 (ji18)).f1)] 25 (0, 0)) (by (with_reducible repeat (first | apply blk_drewN | apply blk_drew | apply blk_alloc)); exact BK246.out) k_ hk⟩)); (case aO => exact (by (with_reducible repeat (first | apply Kd.R_alloc | apply Kd.R_drewN | apply Kd.R_drew)); exact HO_6.out)); (case aS => exact (below_size (by repeat (first | (with_reducible first | exact HB.out | apply below_alloc | apply pw_below_drewN | apply below_drew1 | refine below_set ?_ GE240.out | refine below_set ?_ GE245.out | refine below_set ?_ GE246.out) | exact HB.out)))); (case aL => have := LMc39.out; omega); intro v249 w43 ho hb hg hat; rw [← Ny248.out] at ho; have n0_ := Aside0.mk (Kd.V_afterv (ok := (fun k_ => (P0_ k_ ∨ w.heap.size ≤ k_) ∧ k_ ≠ gb240 ∧ k_ ≠ gb245 ∧ k_ ≠ gb246)) (by (with_reducible repeat (first | apply Kd.V_alloc | apply Kd.V_drewN | apply Kd.V_drew)); exact Kd.V_mono HO_0.out (fun _ hk => ⟨⟨hk.1, ⟨hk.2.2.1, ⟨hk.2.2.2.1, hk.2.2.2.2⟩⟩⟩, hk.2.1⟩)) hg hat); have n1_ := Aside0.mk (blk_grown (g := gb240) (o := .cells #[.int .i64 a1_0, .int .i64 a1_1, .int .i64 a1_2, .int .i64 a1_3] 40 (0, 0)) (by (with_reducible repeat (first | apply blk_drewN | apply blk_drew | apply blk_alloc)); exact BK240.out) hg (Kd.R_ne HO_6.out BK240.out (by decide))); have n2_ := Aside0.mk (blk_grown (g := gb245) (o := .cells #[.int .i64 ((rd_T25 x0_2 x7_3).f0), .int .i64 ((rd_T25 x0_2 x7_3).f1)] 25 (0, 0)) (by (with_reducible repeat (first | apply blk_drewN | apply blk_drew | apply blk_alloc)); exact BK245.out) hg (Kd.R_away HO_6.out (fun _ hk => hk.2.1))); have n3_ := Aside0.mk (blk_grown (g := gb246) (o := .cells #[.int .i64 ((rd_T25 x0_2 (ji18)).f0), .int .i64 ((rd_T25 x0_2 (ji18)).f1)] 25 (0, 0)) (by (with_reducible repeat (first | apply blk_drewN | apply blk_drew | apply blk_alloc)); exact BK246.out) hg (Kd.R_away HO_6.out (fun _ hk => hk.2.2))); have n4_ := Aside0.mk (hb); have n5_ := Aside0.mk (ho); clear HO_0; clear BK240; clear BK245; clear BK246; clear HB; clear HO_6; have HO_0 := n0_; have BK240 := n1_; have BK245 := n2_; have BK246 := n3_; have HB := n4_; have HO250 := n5_; clear n0_ n1_ n2_ n3_ n4_ n5_; clear ho hb hg hat))
                 go_meet
                 case rel => exact ⟨_, (y248), H', ⟨by have := HJ2.out; have := HK2.out; have := HK3.out; first | omega | exact Nat.le_refl _⟩, ⟨by (with_reducible repeat (first | apply Kd.V_alloc | apply Kd.V_drewN | apply Kd.V_drew)); exact Kd.V_mono HO_0.out (fun _ hk => ⟨hk.1.1, ⟨hk.2, ⟨hk.1.2.1, ⟨hk.1.2.2.1, hk.1.2.2.2⟩⟩⟩⟩)⟩, ⟨by (with_reducible repeat (first | apply Kd.R_alloc | apply Kd.R_drewN | apply Kd.R_drew)); exact HO250.out⟩, ⟨by (with_reducible repeat (first | apply blk_drewN | apply blk_drew | apply blk_alloc)); exact BK240.out⟩, ⟨by (with_reducible repeat (first | apply blk_drewN | apply blk_drew | apply blk_alloc)); exact BK245.out⟩, ⟨by (with_reducible repeat (first | apply blk_drewN | apply blk_drew | apply blk_alloc)); exact BK246.out⟩, ⟨by repeat (first | (with_reducible first | exact HB.out | apply below_alloc | apply pw_below_drewN | apply below_drew1 | refine below_set ?_ GE240.out | refine below_set ?_ GE245.out | refine below_set ?_ GE246.out) | exact HB.out)⟩⟩
                ·rw [if_neg c39] at H
                 exact absurd H (by simp)
               ·replace c38 := Bool.eq_false_iff.mpr c38
                subst c38
                have H1 : (mapmakerref12_Ring.j3 k3 x0_2 x5_2 x6_3 x7_3 a1_0 a1_1 a1_2 a1_3 ((rd_T25 x0_2 x7_3).f0) ((rd_T25 x0_2 x7_3).f1) ((rd_T25 x0_2 (ji18)).f0) ((rd_T25 x0_2 (ji18)).f1)) = some r := by rw [if_neg (show ¬ (false = true) by decide)] at H; exact H
                clear H
                have H := H1
                clear H1
                have H' := Aside0.mk H
                clear H
                go_wp2
                go_meet
                case rel => exact ⟨_, (x6_3), H', ⟨by have := HJ2.out; have := HK2.out; have := HK3.out; first | omega | exact Nat.le_refl _⟩, ⟨by (with_reducible repeat (first | apply Kd.V_alloc | apply Kd.V_drewN | apply Kd.V_drew)); exact HO_0.out⟩, ⟨by (with_reducible repeat (first | apply Kd.R_alloc | apply Kd.R_drewN | apply Kd.R_drew)); exact HO_6.out⟩, ⟨by (with_reducible repeat (first | apply blk_drewN | apply blk_drew | apply blk_alloc)); exact BK240.out⟩, ⟨by (with_reducible repeat (first | apply blk_drewN | apply blk_drew | apply blk_alloc)); exact BK245.out⟩, ⟨by (with_reducible repeat (first | apply blk_drewN | apply blk_drew | apply blk_alloc)); exact BK246.out⟩, ⟨by repeat (first | (with_reducible first | exact HB.out | apply below_alloc | apply pw_below_drewN | apply below_drew1 | refine below_set ?_ GE240.out | refine below_set ?_ GE245.out | refine below_set ?_ GE246.out) | exact HB.out)⟩⟩
              case rest =>
               clear HC22
               try clear c1
               try clear c2
               try clear p2
               try clear q2
               try clear hx2
               try clear c3
               try clear c4
               try clear c5
               try clear c6
               try clear c6b0
               try clear c6b1
               try clear p6
               try clear c13
               try clear c14
               try clear c14b0
               try clear c15
               try clear c15b0
               try clear c16
               try clear c16b0
               try clear c17
               try clear c17b0
               try clear c17b1
               try clear c17b2
               try clear c19
               try clear c19b0
               try clear c20
               try clear c20b0
               try clear p24
               try clear q24
               try clear hx24
               try clear c32
               try clear c33
               try clear c35
               try clear c38
               try clear c39
               try clear c40
               try clear c41
               try clear hcz11_0
               try clear hcz11_1
               try clear hcz11_2
               try clear hcz11_3
               try clear hcz34_0
               try clear hcz34_1
               try clear hcz36_0
               try clear hcz36_1
               try clear hcz36_2
               try clear hcz36_3
               try clear hcz42_0
               try clear hcz42_1
               try clear hcz8_0
               try clear hcz8_1
               try clear hcz8_2
               try clear hcz8_3
               try clear hfz11_0
               try clear hfz11_1
               try clear hfz11_2
               try clear hfz11_3
               try clear hfz34_0
               try clear hfz34_1
               try clear hfz36_0
               try clear hfz36_1
               try clear hfz36_2
               try clear hfz36_3
               try clear hfz42_0
               try clear hfz42_1
               try clear hfz8_0
               try clear hfz8_1
               try clear hfz8_2
               try clear hfz8_3
               try clear hx243_0
               try clear hx243_1
               try clear hx244_0
               try clear hx244_1
               try clear p2
               try clear p243
               try clear p244
               try clear q243
               try clear q244
               obtain ⟨kq, x6_21, HA, HJ21, HO_0, HO_6, BK240, BK245, BK246, HB⟩ := hcut
               cases kq with
               | zero => exact absurd HA.out (by simp [mapmakerref12_Ring.j3])
               | succ kj21 =>
                have H := HA.out
                clear HA
                simp only [mapmakerref12_Ring.j3] at H
                replace H := Option.bind_eq_some_iff.mp H
                obtain ⟨t251, A440, H⟩ := H
                replace H : ((mapmakerref12_in.f ((rd_T25 x0_2 (ji18)).f0) ((rd_T25 x0_2 (ji18)).f1) a1_0 a1_1 a1_2 a1_3 x5_2).bind fun t252 => (if (t251 != t252) = true then ((mapmakerref12_border.f kj21 ((rd_T25 x0_2 x7_3).f0) ((rd_T25 x0_2 x7_3).f1) ((rd_T25 x0_2 (ji18)).f0) ((rd_T25 x0_2 (ji18)).f1) a1_0 a1_1 a1_2 a1_3 x5_2).bind fun bt253 => (if x6_21.length < 8796093022208 then (mapmakerref12_Ring.l1 kj21 x0_2 x5_2 (x6_21 ++ [(⟨bt253.1, bt253.2⟩ : S25)]) (wrap64 (x7_3 + 1)) a1_0 a1_1 a1_2 a1_3) else (none))) else (mapmakerref12_Ring.l1 kj21 x0_2 x5_2 x6_21 (wrap64 (x7_3 + 1)) a1_0 a1_1 a1_2 a1_3))) = some r := H
                have A44 := Aside0.mk A440
                clear A440
                replace H := Option.bind_eq_some_iff.mp H
                obtain ⟨t252, A450, H⟩ := H
                replace H : (if (t251 != t252) = true then ((mapmakerref12_border.f kj21 ((rd_T25 x0_2 x7_3).f0) ((rd_T25 x0_2 x7_3).f1) ((rd_T25 x0_2 (ji18)).f0) ((rd_T25 x0_2 (ji18)).f1) a1_0 a1_1 a1_2 a1_3 x5_2).bind fun bt253 => (if x6_21.length < 8796093022208 then (mapmakerref12_Ring.l1 kj21 x0_2 x5_2 (x6_21 ++ [(⟨bt253.1, bt253.2⟩ : S25)]) (wrap64 (x7_3 + 1)) a1_0 a1_1 a1_2 a1_3) else (none))) else (mapmakerref12_Ring.l1 kj21 x0_2 x5_2 x6_21 (wrap64 (x7_3 + 1)) a1_0 a1_1 a1_2 a1_3)) = some r := H
                have A45 := Aside0.mk A450
                clear A450
                by_cases c46 : (t251 != t252) = true
                ·rw [if_pos c46] at H
                 have c46b0 : (t251 != t252) = true := c46
                 (try (have c46b1 : decide (t251 = t252) = false := by simpa using c46))
                 (try (have c46b2 : (t251 == t252) = false := by simpa using c46))
                 (try (have c46b3 : ¬ (t251 = t252) := by simpa using c46))
                 clear c46
                 replace H := Option.bind_eq_some_iff.mp H
                 obtain ⟨⟨t253, t254⟩, A470, H⟩ := H
                 replace H : (if x6_21.length < 8796093022208 then (mapmakerref12_Ring.l1 kj21 x0_2 x5_2 (x6_21 ++ [(⟨t253, t254⟩ : S25)]) (wrap64 (x7_3 + 1)) a1_0 a1_1 a1_2 a1_3) else (none)) = some r := H
                 have A47 := Aside0.mk A470
                 clear A470
                 by_cases c48 : x6_21.length < 8796093022208
                 ·rw [if_pos c48] at H
                  have LMc48 := Aside0.mk c48
                  clear c48
                  obtain ⟨y255, hy255⟩ : ∃ y_ : List (S25), y_ = (x6_21 ++ [(⟨t253, t254⟩ : S25)]) := ⟨_, rfl⟩
                  replace H : (mapmakerref12_Ring.l1 kj21 x0_2 x5_2 y255 (wrap64 (x7_3 + 1)) a1_0 a1_1 a1_2 a1_3) = some r := by first | (rw [hy255]; with_reducible exact H) | (have H2_ := (Option.bind_some _ _).symm.trans H; rw [hy255]; with_reducible exact H2_) | (have H2_ := (Option.bind_some _ _).symm.trans H; with_reducible exact H2_) | with_reducible exact H | (rw [hy255]; exact H) | exact H
                  have Ny255 := Aside0.mk hy255
                  clear hy255
                  have H' := Aside0.mk H
                  clear H
                  try go_wp2
                  have n0_ := Aside0.mk (Kd.V_drew HO_0.out)
                  have n1_ := Aside0.mk (Kd.R_drew HO_6.out)
                  have n2_ := Aside0.mk (blk_drew BK240.out)
                  have n3_ := Aside0.mk (blk_drew BK245.out)
                  have n4_ := Aside0.mk (blk_drew BK246.out)
                  have n5_ := Aside0.mk (below_drew1 HB.out)
                  clear HO_0
                  clear HO_6
                  clear BK240
                  clear BK245
                  clear BK246
                  clear HB
                  have HO_0 := n0_
                  have HO_6 := n1_
                  have BK240 := n2_
                  have BK245 := n3_
                  have BK246 := n4_
                  have HB := n5_
                  clear n0_ n1_ n2_ n3_ n4_ n5_
                  refine start_ (n := 9) (S := fun w' => w'.cell? ⟨gb245, 0, none⟩ = some (.int .i64 ((rd_T25 x0_2 x7_3).f0)) ∧ w'.cell? ⟨gb245, 1, none⟩ = some (.int .i64 ((rd_T25 x0_2 x7_3).f1)) ∧ w'.cell? ⟨gb240, 0, none⟩ = some (.int .i64 a1_0) ∧ w'.cell? ⟨gb240, 1, none⟩ = some (.int .i64 a1_1) ∧ w'.cell? ⟨gb240, 2, none⟩ = some (.int .i64 a1_2) ∧ w'.cell? ⟨gb240, 3, none⟩ = some (.int .i64 a1_3) ∧ w'.cell? ⟨gb246, 0, none⟩ = some (.int .i64 ((rd_T25 x0_2 (ji18)).f0)) ∧ w'.cell? ⟨gb246, 1, none⟩ = some (.int .i64 ((rd_T25 x0_2 (ji18)).f1))) (ds := []) #[false, false, false, false, false, false, false, false, false] (by kernel_rfl) rfl rfl ⟨(blk_cell BK245.out 0).trans rfl, (blk_cell BK245.out 1).trans rfl, (blk_cell BK240.out 0).trans rfl, (blk_cell BK240.out 1).trans rfl, (blk_cell BK240.out 2).trans rfl, (blk_cell BK240.out 3).trans rfl, (blk_cell BK246.out 0).trans rfl, (blk_cell BK246.out 1).trans rfl⟩ (fun hHeld => ?_); refine with_tabW mapmakerref12_Ring.tab13 mapmakerref12_Ring.bits13 (fun HT_ HW_ => ?_)
                  generalize wc.drew = w49 at HO_0 HO_6 BK240 BK245 BK246 HB hHeld ⊢
                  refine pure_ (i := 2) (N := some 50) (v := ?_) (a' := ?_) #[false, false, true, false, false, false, false, false, false] rfl rfl (any_of HT_.out (by kernel_rfl)) (fun _ _ _ h => h) (Or.inl ⟨by rfl, ?_⟩) ?_ ?_
                  rotate_left
                  ·intro w'
                   go_simp
                   with_reducible rfl
                  rotate_left
                  ·simp only [Act.put, List.setIfInBounds_toArray, List.set_cons_zero, List.set_cons_succ, i64_w, i32_w]
                   rfl
                  refine pure_ (i := 6) (N := some 54) (v := ?_) (a' := ?_) #[false, false, true, false, false, false, true, false, false] rfl rfl (any_of HT_.out (by kernel_rfl)) (fun _ _ _ h => h) (Or.inl ⟨by rfl, ?_⟩) ?_ ?_
                  rotate_left
                  ·intro w'
                   go_simp
                   with_reducible rfl
                  rotate_left
                  ·simp only [Act.put, List.setIfInBounds_toArray, List.set_cons_zero, List.set_cons_succ, i64_w, i32_w]
                   rfl
                  refine take_ (i := 0) (N := some 48) (v := ?_) (a' := ?_) #[true, false, true, false, false, false, true, false, false] rfl rfl (take_ofW HT_.out HW_.out (by kernel_rfl)) (fun _ _ _ h => h) (Or.inl ⟨by rfl, ?_⟩) hHeld ?_ ?_
                  rotate_left
                  ·rintro w' ⟨s0, s1, s2, s3, s4, s5, s6, s7⟩
                   go_simp
                   with_reducible rfl
                  rotate_left
                  ·simp only [Act.put, List.setIfInBounds_toArray, List.set_cons_zero, List.set_cons_succ, i64_w, i32_w]
                   rfl
                  refine take_ (i := 1) (N := some 49) (v := ?_) (a' := ?_) #[true, true, true, false, false, false, true, false, false] rfl rfl (take_ofW HT_.out HW_.out (by kernel_rfl)) (fun _ _ _ h => h) (Or.inl ⟨by rfl, ?_⟩) hHeld ?_ ?_
                  rotate_left
                  ·rintro w' ⟨s0, s1, s2, s3, s4, s5, s6, s7⟩
                   go_simp
                   with_reducible rfl
                  rotate_left
                  ·simp only [Act.put, List.setIfInBounds_toArray, List.set_cons_zero, List.set_cons_succ, i64_w, i32_w]
                   rfl
                  refine take_ (i := 4) (N := some 52) (v := ?_) (a' := ?_) #[true, true, true, false, true, false, true, false, false] rfl rfl (take_ofW HT_.out HW_.out (by kernel_rfl)) (fun _ _ _ h => h) (Or.inl ⟨by rfl, ?_⟩) hHeld ?_ ?_
                  rotate_left
                  ·rintro w' ⟨s0, s1, s2, s3, s4, s5, s6, s7⟩
                   go_simp
                   with_reducible rfl
                  rotate_left
                  ·simp only [Act.put, List.setIfInBounds_toArray, List.set_cons_zero, List.set_cons_succ, i64_w, i32_w]
                   rfl
                  refine take_ (i := 5) (N := some 53) (v := ?_) (a' := ?_) #[true, true, true, false, true, true, true, false, false] rfl rfl (take_ofW HT_.out HW_.out (by kernel_rfl)) (fun _ _ _ h => h) (Or.inl ⟨by rfl, ?_⟩) hHeld ?_ ?_
                  rotate_left
                  ·rintro w' ⟨s0, s1, s2, s3, s4, s5, s6, s7⟩
                   go_simp
                   with_reducible rfl
                  rotate_left
                  ·simp only [Act.put, List.setIfInBounds_toArray, List.set_cons_zero, List.set_cons_succ, i64_w, i32_w]
                   rfl
                  refine one_ (i := 3) (N := some 51) #[true, true, true, true, true, true, true, false, false] rfl rfl (one_of HT_.out (by kernel_rfl)) (by decide) (fun K hK => ?_)
                  refine goes_ Try.func57 (by kernel_rfl) rfl #[.agg #[.int .i64 ((rd_T25 x0_2 x7_3).f0), .int .i64 ((rd_T25 x0_2 x7_3).f1)], .agg #[.int .i64 a1_0, .int .i64 a1_1, .int .i64 a1_2, .int .i64 a1_3], .int .i64 x5_2] (by rfl) rfl rfl (by (try simp only [List.map_toArray, List.map_cons, List.map_nil]); first | done | rfl | (simp only [List.length_drop, List.length_take]; rfl)) ?_
                  with_reducible refine (mapmakerref12_in.calls ((rd_T25 x0_2 x7_3).f0) ((rd_T25 x0_2 x7_3).f1) a1_0 a1_1 a1_2 a1_3 x5_2 t251 _ A44.out).mono ?_
                  rintro e w50 ⟨rfl, hb⟩
                  refine ⟨_, rfl, ?_⟩
                  have n0_ := Aside0.mk (Kd.V_below (by (with_reducible repeat (first | apply Kd.V_alloc | apply Kd.V_drewN | apply Kd.V_drew)); exact HO_0.out) hb)
                  have n1_ := Aside0.mk (Kd.R_below (by (with_reducible repeat (first | apply Kd.R_alloc | apply Kd.R_drewN | apply Kd.R_drew)); exact HO_6.out) hb)
                  have n2_ := Aside0.mk (blk_below (g := gb240) (o := .cells #[.int .i64 a1_0, .int .i64 a1_1, .int .i64 a1_2, .int .i64 a1_3] 40 (0, 0)) (by (with_reducible repeat (first | apply blk_drewN | apply blk_drew | apply blk_alloc)); exact BK240.out) hb)
                  have n3_ := Aside0.mk (blk_below (g := gb245) (o := .cells #[.int .i64 ((rd_T25 x0_2 x7_3).f0), .int .i64 ((rd_T25 x0_2 x7_3).f1)] 25 (0, 0)) (by (with_reducible repeat (first | apply blk_drewN | apply blk_drew | apply blk_alloc)); exact BK245.out) hb)
                  have n4_ := Aside0.mk (blk_below (g := gb246) (o := .cells #[.int .i64 ((rd_T25 x0_2 (ji18)).f0), .int .i64 ((rd_T25 x0_2 (ji18)).f1)] 25 (0, 0)) (by (with_reducible repeat (first | apply blk_drewN | apply blk_drew | apply blk_alloc)); exact BK246.out) hb)
                  have n5_ := Aside0.mk (below_step (by repeat (first | (with_reducible first | exact HB.out | apply below_alloc | apply pw_below_drewN | apply below_drew1 | refine below_set ?_ GE240.out | refine below_set ?_ GE245.out | refine below_set ?_ GE246.out) | exact HB.out)) hb)
                  clear HO_0
                  clear HO_6
                  clear BK240
                  clear BK245
                  clear BK246
                  clear HB
                  have HO_0 := n0_
                  have HO_6 := n1_
                  have BK240 := n2_
                  have BK245 := n3_
                  have BK246 := n4_
                  have HB := n5_
                  clear n0_ n1_ n2_ n3_ n4_ n5_
                  (try clear hb)
                  (try clear hb2)
                  (try clear hk)
                  (try clear hi)
                  refine hK.out _ _ ⟨(blk_cell BK245.out 0).trans rfl, (blk_cell BK245.out 1).trans rfl, (blk_cell BK240.out 0).trans rfl, (blk_cell BK240.out 1).trans rfl, (blk_cell BK240.out 2).trans rfl, (blk_cell BK240.out 3).trans rfl, (blk_cell BK246.out 0).trans rfl, (blk_cell BK246.out 1).trans rfl⟩ (fun hHeld => ?_)
                  clear hK K
                  refine norm_ (a' := ?_) ?_ ?_
                  rotate_left
                  ·show Act.put _ (some 51) _ = _
                   simp only [Act.put, List.setIfInBounds_toArray, List.set_cons_zero, List.set_cons_succ, i64_w, i32_w]
                   rfl
                  refine one_ (i := 7) (N := some 55) #[true, true, true, true, true, true, true, true, false] rfl rfl (one_of HT_.out (by kernel_rfl)) (by decide) (fun K hK => ?_)
                  refine goes_ Try.func57 (by kernel_rfl) rfl #[.agg #[.int .i64 ((rd_T25 x0_2 (ji18)).f0), .int .i64 ((rd_T25 x0_2 (ji18)).f1)], .agg #[.int .i64 a1_0, .int .i64 a1_1, .int .i64 a1_2, .int .i64 a1_3], .int .i64 x5_2] (by rfl) rfl rfl (by (try simp only [List.map_toArray, List.map_cons, List.map_nil]); first | done | (simp only [hji18]; rfl) | rfl | (simp only [List.length_drop, List.length_take]; rfl)) ?_
                  with_reducible refine (mapmakerref12_in.calls ((rd_T25 x0_2 (ji18)).f0) ((rd_T25 x0_2 (ji18)).f1) a1_0 a1_1 a1_2 a1_3 x5_2 t252 _ A45.out).mono ?_
                  rintro e w51 ⟨rfl, hb⟩
                  refine ⟨_, rfl, ?_⟩
                  have n0_ := Aside0.mk (Kd.V_below (by (with_reducible repeat (first | apply Kd.V_alloc | apply Kd.V_drewN | apply Kd.V_drew)); exact HO_0.out) hb)
                  have n1_ := Aside0.mk (Kd.R_below (by (with_reducible repeat (first | apply Kd.R_alloc | apply Kd.R_drewN | apply Kd.R_drew)); exact HO_6.out) hb)
                  have n2_ := Aside0.mk (blk_below (g := gb240) (o := .cells #[.int .i64 a1_0, .int .i64 a1_1, .int .i64 a1_2, .int .i64 a1_3] 40 (0, 0)) (by (with_reducible repeat (first | apply blk_drewN | apply blk_drew | apply blk_alloc)); exact BK240.out) hb)
                  have n3_ := Aside0.mk (blk_below (g := gb245) (o := .cells #[.int .i64 ((rd_T25 x0_2 x7_3).f0), .int .i64 ((rd_T25 x0_2 x7_3).f1)] 25 (0, 0)) (by (with_reducible repeat (first | apply blk_drewN | apply blk_drew | apply blk_alloc)); exact BK245.out) hb)
                  have n4_ := Aside0.mk (blk_below (g := gb246) (o := .cells #[.int .i64 ((rd_T25 x0_2 (ji18)).f0), .int .i64 ((rd_T25 x0_2 (ji18)).f1)] 25 (0, 0)) (by (with_reducible repeat (first | apply blk_drewN | apply blk_drew | apply blk_alloc)); exact BK246.out) hb)
                  have n5_ := Aside0.mk (below_step (by repeat (first | (with_reducible first | exact HB.out | apply below_alloc | apply pw_below_drewN | apply below_drew1 | refine below_set ?_ GE240.out | refine below_set ?_ GE245.out | refine below_set ?_ GE246.out) | exact HB.out)) hb)
                  clear HO_0
                  clear HO_6
                  clear BK240
                  clear BK245
                  clear BK246
                  clear HB
                  have HO_0 := n0_
                  have HO_6 := n1_
                  have BK240 := n2_
                  have BK245 := n3_
                  have BK246 := n4_
                  have HB := n5_
                  clear n0_ n1_ n2_ n3_ n4_ n5_
                  (try clear hb)
                  (try clear hb2)
                  (try clear hk)
                  (try clear hi)
                  refine hK.out _ _ ⟨(blk_cell BK245.out 0).trans rfl, (blk_cell BK245.out 1).trans rfl, (blk_cell BK240.out 0).trans rfl, (blk_cell BK240.out 1).trans rfl, (blk_cell BK240.out 2).trans rfl, (blk_cell BK240.out 3).trans rfl, (blk_cell BK246.out 0).trans rfl, (blk_cell BK246.out 1).trans rfl⟩ (fun hHeld => ?_)
                  clear hK K
                  refine norm_ (a' := ?_) ?_ ?_
                  rotate_left
                  ·show Act.put _ (some 55) _ = _
                   simp only [Act.put, List.setIfInBounds_toArray, List.set_cons_zero, List.set_cons_succ, i64_w, i32_w]
                   rfl
                  refine pure_ (i := 8) (N := some 56) (v := ?_) (a' := ?_) #[true, true, true, true, true, true, true, true, true] rfl rfl (any_of HT_.out (by kernel_rfl)) (fun _ _ _ h => h) (Or.inl ⟨by rfl, ?_⟩) ?_ ?_
                  rotate_left
                  ·intro w'
                   go_simp
                   with_reducible rfl
                  rotate_left
                  ·simp only [Act.put, List.setIfInBounds_toArray, List.set_cons_zero, List.set_cons_succ, i64_w, i32_w]
                   rfl
                  refine done_ (done_of HT_.out (by kernel_rfl)) ?_
                  have hnb52 := NB245_240.out
                  have hnc52 := NB240_245.out
                  have hnb53 := NB245_246.out
                  have hnc53 := NB246_245.out
                  have hcz54_0 : w51.cell? ⟨gb245, 0, none⟩ = some (.int .i64 ((rd_T25 x0_2 x7_3).f0)) := (blk_cell BK245.out 0).trans rfl
                  have hcz54_1 : w51.cell? ⟨gb245, 1, none⟩ = some (.int .i64 ((rd_T25 x0_2 x7_3).f1)) := (blk_cell BK245.out 1).trans rfl
                  have hfz54_0 := blk_frozen BK245.out 0
                  have hfz54_1 := blk_frozen BK245.out 1
                  have hnb55 := NB246_240.out
                  have hnc55 := NB240_246.out
                  have hcz56_0 : w51.cell? ⟨gb246, 0, none⟩ = some (.int .i64 ((rd_T25 x0_2 (ji18)).f0)) := (blk_cell BK246.out 0).trans rfl
                  have hcz56_1 : w51.cell? ⟨gb246, 1, none⟩ = some (.int .i64 ((rd_T25 x0_2 (ji18)).f1)) := (blk_cell BK246.out 1).trans rfl
                  have hfz56_0 := blk_frozen BK246.out 0
                  have hfz56_1 := blk_frozen BK246.out 1
                  have hcz57_0 : w51.cell? ⟨gb240, 0, none⟩ = some (.int .i64 a1_0) := (blk_cell BK240.out 0).trans rfl
                  have hcz57_1 : w51.cell? ⟨gb240, 1, none⟩ = some (.int .i64 a1_1) := (blk_cell BK240.out 1).trans rfl
                  have hcz57_2 : w51.cell? ⟨gb240, 2, none⟩ = some (.int .i64 a1_2) := (blk_cell BK240.out 2).trans rfl
                  have hcz57_3 : w51.cell? ⟨gb240, 3, none⟩ = some (.int .i64 a1_3) := (blk_cell BK240.out 3).trans rfl
                  have hfz57_0 := blk_frozen BK240.out 0
                  have hfz57_1 := blk_frozen BK240.out 1
                  have hfz57_2 := blk_frozen BK240.out 2
                  have hfz57_3 := blk_frozen BK240.out 3
                  try go_wp2_with (first | ((with_reducible refine gate_callee (f := 58) rfl ?_); refine goesL_ (some 62) rfl rfl Try.func58 (by kernel_rfl) rfl #[.agg #[.int .i64 ((rd_T25 x0_2 x7_3).f0), .int .i64 ((rd_T25 x0_2 x7_3).f1)], .agg #[.int .i64 ((rd_T25 x0_2 (ji18)).f0), .int .i64 ((rd_T25 x0_2 (ji18)).f1)], .agg #[.int .i64 a1_0, .int .i64 a1_1, .int .i64 a1_2, .int .i64 a1_3], .int .i64 x5_2] rfl (by (try simp only [List.map_toArray, List.map_cons, List.map_nil]); first | done | (simp only [hji18]; rfl) | rfl | (simp only [List.length_drop, List.length_take]; rfl)) ?_; (with_reducible refine (mapmakerref12_border.calls kj21 ((rd_T25 x0_2 x7_3).f0) ((rd_T25 x0_2 x7_3).f1) ((rd_T25 x0_2 (ji18)).f0) ((rd_T25 x0_2 (ji18)).f1) a1_0 a1_1 a1_2 a1_3 x5_2 t253 t254 _ A47.out).mono ?_); rintro e w58 ⟨rfl, hb⟩; refine ⟨_, rfl, ?_⟩; have n0_ := Aside0.mk (Kd.V_below (by (with_reducible repeat (first | apply Kd.V_alloc | apply Kd.V_drewN | apply Kd.V_drew)); exact HO_0.out) hb); have n1_ := Aside0.mk (Kd.R_below (by (with_reducible repeat (first | apply Kd.R_alloc | apply Kd.R_drewN | apply Kd.R_drew)); exact HO_6.out) hb); have n2_ := Aside0.mk (blk_below (g := gb240) (o := .cells #[.int .i64 a1_0, .int .i64 a1_1, .int .i64 a1_2, .int .i64 a1_3] 40 (0, 0)) (by (with_reducible repeat (first | apply blk_drewN | apply blk_drew | apply blk_alloc)); exact BK240.out) hb); have n3_ := Aside0.mk (blk_below (g := gb245) (o := .cells #[.int .i64 ((rd_T25 x0_2 x7_3).f0), .int .i64 ((rd_T25 x0_2 x7_3).f1)] 25 (0, 0)) (by (with_reducible repeat (first | apply blk_drewN | apply blk_drew | apply blk_alloc)); exact BK245.out) hb); have n4_ := Aside0.mk (blk_below (g := gb246) (o := .cells #[.int .i64 ((rd_T25 x0_2 (ji18)).f0), .int .i64 ((rd_T25 x0_2 (ji18)).f1)] 25 (0, 0)) (by (with_reducible repeat (first | apply blk_drewN | apply blk_drew | apply blk_alloc)); exact BK246.out) hb); have n5_ := Aside0.mk (below_step (by repeat (first | (with_reducible first | exact HB.out | apply below_alloc | apply pw_below_drewN | apply below_drew1 | refine below_set ?_ GE240.out | refine below_set ?_ GE245.out | refine below_set ?_ GE246.out) | exact HB.out)) hb); clear HO_0; clear HO_6; clear BK240; clear BK245; clear BK246; clear HB; have HO_0 := n0_; have HO_6 := n1_; have BK240 := n2_; have BK245 := n3_; have BK246 := n4_; have HB := n5_; clear n0_ n1_ n2_ n3_ n4_ n5_; (try clear hb); (try clear hb2); (try clear hk); (try clear hi)) | ((with_reducible refine gate_builtin (b := .append) (xs := #[.tmp 57, .tmp 63]) rfl ?_); at_builtin; refine Kd.R_append k25 (w0 := w) w.heap.size rfl (.tmp 57) (.tmp 63) 30 25 (.agg #[(.int .i64 0), (.int .i64 0)]) 16 rfl Try.underlying30 info25 rfl (by decide) (by omega) u6 x6_21 (⟨t253, t254⟩ : S25) [.int .i64 t253, .int .i64 t254] (fun k_ => (w.heap.size ≤ k_) ∧ k_ ≠ gb245 ∧ k_ ≠ gb246) (fun _ => False) rfl rfl ?aP (fun _ hk => hk.elim) ?aF ?aO ?aB ?aS ?aL ?_; (case aP => exact k25_mkM _ _ _ (⟨t253, t254⟩ : S25)); (case aB => exact (by repeat (first | (with_reducible first | exact HB.out | apply below_alloc | apply pw_below_drewN | apply below_drew1 | refine below_set ?_ GE240.out | refine below_set ?_ GE245.out | refine below_set ?_ GE246.out) | exact HB.out))); (case aF => exact (fun k_ hk => ⟨(Nat.le_trans (below_size (by repeat (first | (with_reducible first | exact HB.out | apply below_alloc | apply pw_below_drewN | apply below_drew1 | refine below_set ?_ GE240.out | refine below_set ?_ GE245.out | refine below_set ?_ GE246.out) | exact HB.out))) hk), Kd.freshB (g := gb245) (o := .cells #[.int .i64 ((rd_T25 x0_2 x7_3).f0), .int .i64 ((rd_T25 x0_2 x7_3).f1)] 25 (0, 0)) (by (with_reducible repeat (first | apply blk_drewN | apply blk_drew | apply blk_alloc)); exact BK245.out) k_ hk, Kd.freshB (g := gb246) (o := .cells #[.int .i64 ((rd_T25 x0_2 (ji18)).f0), .int .i64 ((rd_T25 x0_2 (ji18)).f1)] 25 (0, 0)) (by (with_reducible repeat (first | apply blk_drewN | apply blk_drew | apply blk_alloc)); exact BK246.out) k_ hk⟩)); (case aO => exact (by (with_reducible repeat (first | apply Kd.R_alloc | apply Kd.R_drewN | apply Kd.R_drew)); exact HO_6.out)); (case aS => exact (below_size (by repeat (first | (with_reducible first | exact HB.out | apply below_alloc | apply pw_below_drewN | apply below_drew1 | refine below_set ?_ GE240.out | refine below_set ?_ GE245.out | refine below_set ?_ GE246.out) | exact HB.out)))); (case aL => have := LMc48.out; omega); intro v256 w59 ho hb hg hat; rw [← Ny255.out] at ho; have n0_ := Aside0.mk (Kd.V_afterv (ok := (fun k_ => (P0_ k_ ∨ w.heap.size ≤ k_) ∧ k_ ≠ gb240 ∧ k_ ≠ gb245 ∧ k_ ≠ gb246)) (by (with_reducible repeat (first | apply Kd.V_alloc | apply Kd.V_drewN | apply Kd.V_drew)); exact Kd.V_mono HO_0.out (fun _ hk => ⟨⟨hk.1, ⟨hk.2.2.1, ⟨hk.2.2.2.1, hk.2.2.2.2⟩⟩⟩, hk.2.1⟩)) hg hat); have n1_ := Aside0.mk (blk_grown (g := gb240) (o := .cells #[.int .i64 a1_0, .int .i64 a1_1, .int .i64 a1_2, .int .i64 a1_3] 40 (0, 0)) (by (with_reducible repeat (first | apply blk_drewN | apply blk_drew | apply blk_alloc)); exact BK240.out) hg (Kd.R_ne HO_6.out BK240.out (by decide))); have n2_ := Aside0.mk (blk_grown (g := gb245) (o := .cells #[.int .i64 ((rd_T25 x0_2 x7_3).f0), .int .i64 ((rd_T25 x0_2 x7_3).f1)] 25 (0, 0)) (by (with_reducible repeat (first | apply blk_drewN | apply blk_drew | apply blk_alloc)); exact BK245.out) hg (Kd.R_away HO_6.out (fun _ hk => hk.2.1))); have n3_ := Aside0.mk (blk_grown (g := gb246) (o := .cells #[.int .i64 ((rd_T25 x0_2 (ji18)).f0), .int .i64 ((rd_T25 x0_2 (ji18)).f1)] 25 (0, 0)) (by (with_reducible repeat (first | apply blk_drewN | apply blk_drew | apply blk_alloc)); exact BK246.out) hg (Kd.R_away HO_6.out (fun _ hk => hk.2.2))); have n4_ := Aside0.mk (hb); have n5_ := Aside0.mk (ho); clear HO_0; clear BK240; clear BK245; clear BK246; clear HB; clear HO_6; have HO_0 := n0_; have BK240 := n1_; have BK245 := n2_; have BK246 := n3_; have HB := n4_; have HO257 := n5_; clear n0_ n1_ n2_ n3_ n4_ n5_; clear ho hb hg hat))
                  go_roundg kj21
                  case measure => have := HJ2.out; have := HK2.out; have := HK3.out; have := HJ21.out; omega
                  case rel => exact ⟨(y255), (wrap64 (x7_3 + 1)), (by first | rfl | (simp; done) | (simp [*]; done)), H', ⟨by have := HJ2.out; have := HK2.out; have := HK3.out; have := HJ21.out; omega⟩, ⟨by (with_reducible repeat (first | apply Kd.V_alloc | apply Kd.V_drewN | apply Kd.V_drew)); exact Kd.V_mono HO_0.out (fun _ hk => ⟨hk.1.1, ⟨hk.2, hk.1.2.1⟩⟩)⟩, ⟨by (with_reducible repeat (first | apply Kd.R_alloc | apply Kd.R_drewN | apply Kd.R_drew)); exact Kd.R_mono HO257.out (fun _ hk => hk.1)⟩, ⟨by (with_reducible repeat (first | apply blk_drewN | apply blk_drew | apply blk_alloc)); exact BK240.out⟩, ⟨by repeat (first | (with_reducible first | exact HB.out | apply below_alloc | apply pw_below_drewN | apply below_drew1 | refine below_set ?_ GE240.out | refine below_set ?_ GE245.out | refine below_set ?_ GE246.out) | exact HB.out)⟩⟩
                 ·rw [if_neg c48] at H
                  exact absurd H (by simp)
                ·rw [if_neg c46] at H
                 have c46b0 : (t251 != t252) = false := by simpa using c46
                 (try (have c46b1 : decide (t251 = t252) = true := by simpa using c46))
                 (try (have c46b2 : (t251 == t252) = true := by simpa using c46))
                 clear c46
                 have H' := Aside0.mk H
                 clear H
                 try go_wp2
                 have n0_ := Aside0.mk (Kd.V_drew HO_0.out)
                 have n1_ := Aside0.mk (Kd.R_drew HO_6.out)
                 have n2_ := Aside0.mk (blk_drew BK240.out)
                 have n3_ := Aside0.mk (blk_drew BK245.out)
                 have n4_ := Aside0.mk (blk_drew BK246.out)
                 have n5_ := Aside0.mk (below_drew1 HB.out)
                 clear HO_0
                 clear HO_6
                 clear BK240
                 clear BK245
                 clear BK246
                 clear HB
                 have HO_0 := n0_
                 have HO_6 := n1_
                 have BK240 := n2_
                 have BK245 := n3_
                 have BK246 := n4_
                 have HB := n5_
                 clear n0_ n1_ n2_ n3_ n4_ n5_
                 refine start_ (n := 9) (S := fun w' => w'.cell? ⟨gb245, 0, none⟩ = some (.int .i64 ((rd_T25 x0_2 x7_3).f0)) ∧ w'.cell? ⟨gb245, 1, none⟩ = some (.int .i64 ((rd_T25 x0_2 x7_3).f1)) ∧ w'.cell? ⟨gb240, 0, none⟩ = some (.int .i64 a1_0) ∧ w'.cell? ⟨gb240, 1, none⟩ = some (.int .i64 a1_1) ∧ w'.cell? ⟨gb240, 2, none⟩ = some (.int .i64 a1_2) ∧ w'.cell? ⟨gb240, 3, none⟩ = some (.int .i64 a1_3) ∧ w'.cell? ⟨gb246, 0, none⟩ = some (.int .i64 ((rd_T25 x0_2 (ji18)).f0)) ∧ w'.cell? ⟨gb246, 1, none⟩ = some (.int .i64 ((rd_T25 x0_2 (ji18)).f1))) (ds := []) #[false, false, false, false, false, false, false, false, false] (by kernel_rfl) rfl rfl ⟨(blk_cell BK245.out 0).trans rfl, (blk_cell BK245.out 1).trans rfl, (blk_cell BK240.out 0).trans rfl, (blk_cell BK240.out 1).trans rfl, (blk_cell BK240.out 2).trans rfl, (blk_cell BK240.out 3).trans rfl, (blk_cell BK246.out 0).trans rfl, (blk_cell BK246.out 1).trans rfl⟩ (fun hHeld => ?_); refine with_tabW mapmakerref12_Ring.tab13 mapmakerref12_Ring.bits13 (fun HT_ HW_ => ?_)
                 generalize wc.drew = w60 at HO_0 HO_6 BK240 BK245 BK246 HB hHeld ⊢
                 refine pure_ (i := 2) (N := some 50) (v := ?_) (a' := ?_) #[false, false, true, false, false, false, false, false, false] rfl rfl (any_of HT_.out (by kernel_rfl)) (fun _ _ _ h => h) (Or.inl ⟨by rfl, ?_⟩) ?_ ?_
                 rotate_left
                 ·intro w'
                  go_simp
                  with_reducible rfl
                 rotate_left
                 ·simp only [Act.put, List.setIfInBounds_toArray, List.set_cons_zero, List.set_cons_succ, i64_w, i32_w]
                  rfl
                 refine pure_ (i := 6) (N := some 54) (v := ?_) (a' := ?_) #[false, false, true, false, false, false, true, false, false] rfl rfl (any_of HT_.out (by kernel_rfl)) (fun _ _ _ h => h) (Or.inl ⟨by rfl, ?_⟩) ?_ ?_
                 rotate_left
                 ·intro w'
                  go_simp
                  with_reducible rfl
                 rotate_left
                 ·simp only [Act.put, List.setIfInBounds_toArray, List.set_cons_zero, List.set_cons_succ, i64_w, i32_w]
                  rfl
                 refine take_ (i := 0) (N := some 48) (v := ?_) (a' := ?_) #[true, false, true, false, false, false, true, false, false] rfl rfl (take_ofW HT_.out HW_.out (by kernel_rfl)) (fun _ _ _ h => h) (Or.inl ⟨by rfl, ?_⟩) hHeld ?_ ?_
                 rotate_left
                 ·rintro w' ⟨s0, s1, s2, s3, s4, s5, s6, s7⟩
                  go_simp
                  with_reducible rfl
                 rotate_left
                 ·simp only [Act.put, List.setIfInBounds_toArray, List.set_cons_zero, List.set_cons_succ, i64_w, i32_w]
                  rfl
                 refine take_ (i := 1) (N := some 49) (v := ?_) (a' := ?_) #[true, true, true, false, false, false, true, false, false] rfl rfl (take_ofW HT_.out HW_.out (by kernel_rfl)) (fun _ _ _ h => h) (Or.inl ⟨by rfl, ?_⟩) hHeld ?_ ?_
                 rotate_left
                 ·rintro w' ⟨s0, s1, s2, s3, s4, s5, s6, s7⟩
                  go_simp
                  with_reducible rfl
                 rotate_left
                 ·simp only [Act.put, List.setIfInBounds_toArray, List.set_cons_zero, List.set_cons_succ, i64_w, i32_w]
                  rfl
                 refine take_ (i := 4) (N := some 52) (v := ?_) (a' := ?_) #[true, true, true, false, true, false, true, false, false] rfl rfl (take_ofW HT_.out HW_.out (by kernel_rfl)) (fun _ _ _ h => h) (Or.inl ⟨by rfl, ?_⟩) hHeld ?_ ?_
                 rotate_left
                 ·rintro w' ⟨s0, s1, s2, s3, s4, s5, s6, s7⟩
                  go_simp
                  with_reducible rfl
                 rotate_left
                 ·simp only [Act.put, List.setIfInBounds_toArray, List.set_cons_zero, List.set_cons_succ, i64_w, i32_w]
                  rfl
                 refine take_ (i := 5) (N := some 53) (v := ?_) (a' := ?_) #[true, true, true, false, true, true, true, false, false] rfl rfl (take_ofW HT_.out HW_.out (by kernel_rfl)) (fun _ _ _ h => h) (Or.inl ⟨by rfl, ?_⟩) hHeld ?_ ?_
                 rotate_left
                 ·rintro w' ⟨s0, s1, s2, s3, s4, s5, s6, s7⟩
                  go_simp
                  with_reducible rfl
                 rotate_left
                 ·simp only [Act.put, List.setIfInBounds_toArray, List.set_cons_zero, List.set_cons_succ, i64_w, i32_w]
                  rfl
                 refine one_ (i := 3) (N := some 51) #[true, true, true, true, true, true, true, false, false] rfl rfl (one_of HT_.out (by kernel_rfl)) (by decide) (fun K hK => ?_)
                 refine goes_ Try.func57 (by kernel_rfl) rfl #[.agg #[.int .i64 ((rd_T25 x0_2 x7_3).f0), .int .i64 ((rd_T25 x0_2 x7_3).f1)], .agg #[.int .i64 a1_0, .int .i64 a1_1, .int .i64 a1_2, .int .i64 a1_3], .int .i64 x5_2] (by rfl) rfl rfl (by (try simp only [List.map_toArray, List.map_cons, List.map_nil]); first | done | rfl | (simp only [List.length_drop, List.length_take]; rfl)) ?_
                 with_reducible refine (mapmakerref12_in.calls ((rd_T25 x0_2 x7_3).f0) ((rd_T25 x0_2 x7_3).f1) a1_0 a1_1 a1_2 a1_3 x5_2 t251 _ A44.out).mono ?_
                 rintro e w61 ⟨rfl, hb⟩
                 refine ⟨_, rfl, ?_⟩
                 have n0_ := Aside0.mk (Kd.V_below (by (with_reducible repeat (first | apply Kd.V_alloc | apply Kd.V_drewN | apply Kd.V_drew)); exact HO_0.out) hb)
                 have n1_ := Aside0.mk (Kd.R_below (by (with_reducible repeat (first | apply Kd.R_alloc | apply Kd.R_drewN | apply Kd.R_drew)); exact HO_6.out) hb)
                 have n2_ := Aside0.mk (blk_below (g := gb240) (o := .cells #[.int .i64 a1_0, .int .i64 a1_1, .int .i64 a1_2, .int .i64 a1_3] 40 (0, 0)) (by (with_reducible repeat (first | apply blk_drewN | apply blk_drew | apply blk_alloc)); exact BK240.out) hb)
                 have n3_ := Aside0.mk (blk_below (g := gb245) (o := .cells #[.int .i64 ((rd_T25 x0_2 x7_3).f0), .int .i64 ((rd_T25 x0_2 x7_3).f1)] 25 (0, 0)) (by (with_reducible repeat (first | apply blk_drewN | apply blk_drew | apply blk_alloc)); exact BK245.out) hb)
                 have n4_ := Aside0.mk (blk_below (g := gb246) (o := .cells #[.int .i64 ((rd_T25 x0_2 (ji18)).f0), .int .i64 ((rd_T25 x0_2 (ji18)).f1)] 25 (0, 0)) (by (with_reducible repeat (first | apply blk_drewN | apply blk_drew | apply blk_alloc)); exact BK246.out) hb)
                 have n5_ := Aside0.mk (below_step (by repeat (first | (with_reducible first | exact HB.out | apply below_alloc | apply pw_below_drewN | apply below_drew1 | refine below_set ?_ GE240.out | refine below_set ?_ GE245.out | refine below_set ?_ GE246.out) | exact HB.out)) hb)
                 clear HO_0
                 clear HO_6
                 clear BK240
                 clear BK245
                 clear BK246
                 clear HB
                 have HO_0 := n0_
                 have HO_6 := n1_
                 have BK240 := n2_
                 have BK245 := n3_
                 have BK246 := n4_
                 have HB := n5_
                 clear n0_ n1_ n2_ n3_ n4_ n5_
                 (try clear hb)
                 (try clear hb2)
                 (try clear hk)
                 (try clear hi)
                 refine hK.out _ _ ⟨(blk_cell BK245.out 0).trans rfl, (blk_cell BK245.out 1).trans rfl, (blk_cell BK240.out 0).trans rfl, (blk_cell BK240.out 1).trans rfl, (blk_cell BK240.out 2).trans rfl, (blk_cell BK240.out 3).trans rfl, (blk_cell BK246.out 0).trans rfl, (blk_cell BK246.out 1).trans rfl⟩ (fun hHeld => ?_)
                 clear hK K
                 refine norm_ (a' := ?_) ?_ ?_
                 rotate_left
                 ·show Act.put _ (some 51) _ = _
                  simp only [Act.put, List.setIfInBounds_toArray, List.set_cons_zero, List.set_cons_succ, i64_w, i32_w]
                  rfl
                 refine one_ (i := 7) (N := some 55) #[true, true, true, true, true, true, true, true, false] rfl rfl (one_of HT_.out (by kernel_rfl)) (by decide) (fun K hK => ?_)
                 refine goes_ Try.func57 (by kernel_rfl) rfl #[.agg #[.int .i64 ((rd_T25 x0_2 (ji18)).f0), .int .i64 ((rd_T25 x0_2 (ji18)).f1)], .agg #[.int .i64 a1_0, .int .i64 a1_1, .int .i64 a1_2, .int .i64 a1_3], .int .i64 x5_2] (by rfl) rfl rfl (by (try simp only [List.map_toArray, List.map_cons, List.map_nil]); first | done | (simp only [hji18]; rfl) | rfl | (simp only [List.length_drop, List.length_take]; rfl)) ?_
                 with_reducible refine (mapmakerref12_in.calls ((rd_T25 x0_2 (ji18)).f0) ((rd_T25 x0_2 (ji18)).f1) a1_0 a1_1 a1_2 a1_3 x5_2 t252 _ A45.out).mono ?_
                 rintro e w62 ⟨rfl, hb⟩
                 refine ⟨_, rfl, ?_⟩
                 have n0_ := Aside0.mk (Kd.V_below (by (with_reducible repeat (first | apply Kd.V_alloc | apply Kd.V_drewN | apply Kd.V_drew)); exact HO_0.out) hb)
                 have n1_ := Aside0.mk (Kd.R_below (by (with_reducible repeat (first | apply Kd.R_alloc | apply Kd.R_drewN | apply Kd.R_drew)); exact HO_6.out) hb)
                 have n2_ := Aside0.mk (blk_below (g := gb240) (o := .cells #[.int .i64 a1_0, .int .i64 a1_1, .int .i64 a1_2, .int .i64 a1_3] 40 (0, 0)) (by (with_reducible repeat (first | apply blk_drewN | apply blk_drew | apply blk_alloc)); exact BK240.out) hb)
                 have n3_ := Aside0.mk (blk_below (g := gb245) (o := .cells #[.int .i64 ((rd_T25 x0_2 x7_3).f0), .int .i64 ((rd_T25 x0_2 x7_3).f1)] 25 (0, 0)) (by (with_reducible repeat (first | apply blk_drewN | apply blk_drew | apply blk_alloc)); exact BK245.out) hb)
                 have n4_ := Aside0.mk (blk_below (g := gb246) (o := .cells #[.int .i64 ((rd_T25 x0_2 (ji18)).f0), .int .i64 ((rd_T25 x0_2 (ji18)).f1)] 25 (0, 0)) (by (with_reducible repeat (first | apply blk_drewN | apply blk_drew | apply blk_alloc)); exact BK246.out) hb)
                 have n5_ := Aside0.mk (below_step (by repeat (first | (with_reducible first | exact HB.out | apply below_alloc | apply pw_below_drewN | apply below_drew1 | refine below_set ?_ GE240.out | refine below_set ?_ GE245.out | refine below_set ?_ GE246.out) | exact HB.out)) hb)
                 clear HO_0
                 clear HO_6
                 clear BK240
                 clear BK245
                 clear BK246
                 clear HB
                 have HO_0 := n0_
                 have HO_6 := n1_
                 have BK240 := n2_
                 have BK245 := n3_
                 have BK246 := n4_
                 have HB := n5_
                 clear n0_ n1_ n2_ n3_ n4_ n5_
                 (try clear hb)
                 (try clear hb2)
                 (try clear hk)
                 (try clear hi)
                 refine hK.out _ _ ⟨(blk_cell BK245.out 0).trans rfl, (blk_cell BK245.out 1).trans rfl, (blk_cell BK240.out 0).trans rfl, (blk_cell BK240.out 1).trans rfl, (blk_cell BK240.out 2).trans rfl, (blk_cell BK240.out 3).trans rfl, (blk_cell BK246.out 0).trans rfl, (blk_cell BK246.out 1).trans rfl⟩ (fun hHeld => ?_)
                 clear hK K
                 refine norm_ (a' := ?_) ?_ ?_
                 rotate_left
                 ·show Act.put _ (some 55) _ = _
                  simp only [Act.put, List.setIfInBounds_toArray, List.set_cons_zero, List.set_cons_succ, i64_w, i32_w]
                  rfl
                 refine pure_ (i := 8) (N := some 56) (v := ?_) (a' := ?_) #[true, true, true, true, true, true, true, true, true] rfl rfl (any_of HT_.out (by kernel_rfl)) (fun _ _ _ h => h) (Or.inl ⟨by rfl, ?_⟩) ?_ ?_
                 rotate_left
                 ·intro w'
                  go_simp
                  with_reducible rfl
                 rotate_left
                 ·simp only [Act.put, List.setIfInBounds_toArray, List.set_cons_zero, List.set_cons_succ, i64_w, i32_w]
                  rfl
                 refine done_ (done_of HT_.out (by kernel_rfl)) ?_
                 try go_wp2
                 go_roundg kj21
                 case measure => have := HJ2.out; have := HK2.out; have := HK3.out; have := HJ21.out; omega
                 case rel => exact ⟨(x6_21), (wrap64 (x7_3 + 1)), (by first | rfl | (simp; done) | (simp [*]; done)), H', ⟨by have := HJ2.out; have := HK2.out; have := HK3.out; have := HJ21.out; omega⟩, ⟨by (with_reducible repeat (first | apply Kd.V_alloc | apply Kd.V_drewN | apply Kd.V_drew)); exact Kd.V_mono HO_0.out (fun _ hk => ⟨hk.1, ⟨hk.2.1, hk.2.2.1⟩⟩)⟩, ⟨by (with_reducible repeat (first | apply Kd.R_alloc | apply Kd.R_drewN | apply Kd.R_drew)); exact Kd.R_mono HO_6.out (fun _ hk => hk.1)⟩, ⟨by (with_reducible repeat (first | apply blk_drewN | apply blk_drew | apply blk_alloc)); exact BK240.out⟩, ⟨by repeat (first | (with_reducible first | exact HB.out | apply below_alloc | apply pw_below_drewN | apply below_drew1 | refine below_set ?_ GE240.out | refine below_set ?_ GE245.out | refine below_set ?_ GE246.out) | exact HB.out)⟩⟩
             ·rw [if_neg c20] at H
              exact absurd H (by simp)
            ·rw [if_neg c19] at H
             exact absurd H (by simp)
          ·rw [if_neg c16] at H
           exact absurd H (by simp)
         ·rw [if_neg c15] at H
          have c15b0 : decide (x7_3 < (x0_2.length : Int)) = false := decide_eq_false c15
          clear c15
          have H' := Aside0.mk H
          clear H
          obtain ⟨Ao63, co63, eo63⟩ := Kd.V_slice HO_0.out
          subst eo63
          go_wp2
          go_roundg k3
          case measure => have := HJ2.out; have := HK2.out; have := HK3.out; omega
          case rel => exact ⟨(x6_3), (wrap64 (x5_2 + 1)), (by first | rfl | (simp; done) | (simp [*]; done)), H', ⟨by have := HJ2.out; have := HK2.out; have := HK3.out; omega⟩, ⟨Kd.V_mono (Kd.R_V (by (with_reducible repeat (first | apply Kd.R_alloc | apply Kd.R_drewN | apply Kd.R_drew)); exact (Kd.R_types HO_6.out BK240.out (by decide)))) (fun k_ hk => by first | exact ⟨(.inr (hk.1)), hk.2⟩ | exact (.inr (hk)))⟩, ⟨by (with_reducible repeat (first | apply blk_drewN | apply blk_drew | apply blk_alloc)); exact BK240.out⟩, ⟨by repeat (first | (with_reducible first | exact HB.out | apply below_alloc | apply pw_below_drewN | apply below_drew1 | refine below_set ?_ GE240.out) | exact HB.out)⟩⟩
      ·rw [if_neg c14] at H
       have c14b0 : decide (x5_2 < 4) = false := decide_eq_false c14
       clear c14
       replace H := Option.bind_eq_some_iff.mp H
       obtain ⟨t258, A640, H⟩ := H
       replace H : ((mapmakerref12_Area2.f k2 t258).bind fun t261 => (if t261 = 0 then (some ([] : List (S25))) else (some t258))) = some r := H
       have A64 := Aside0.mk A640
       clear A640
       replace H := Option.bind_eq_some_iff.mp H
       obtain ⟨t261, A650, H⟩ := H
       replace H : (if t261 = 0 then (some ([] : List (S25))) else (some t258)) = some r := H
       have A65 := Aside0.mk A650
       clear A650
       by_cases c66 : t261 = 0
       ·rw [if_pos c66] at H
        have c66b0 : (t261 == 0) = true := beq_iff_eq.mpr c66
        have c66b1 : (t261 != 0) = false := bne_eq_false_iff_eq.mpr c66
        clear c66
        obtain rfl := Option.some.inj H
        obtain ⟨Ao67, co67, eo67⟩ := Kd.V_slice HO_0.out
        subst eo67
        go_wp2_with (first | ((with_reducible refine gate_callee (f := 36) rfl ?_); refine goesL_ (some 67) rfl rfl Try.func36 (by kernel_rfl) rfl #[.slice Ao67 x0_2.length co67] rfl (by (try simp only [List.map_toArray, List.map_cons, List.map_nil]); first | done | rfl | (simp only [List.length_drop, List.length_take]; rfl)) ?_; (with_reducible refine (mapmakerref12_TidyRing.calls k2 _ _ x0_2 t258 _ ?side1 ?side2 A64.out).mono ?_); (case side1 => repeat (first | exact (Kd.V_reads' HO_0.out).2.2 | (with_reducible refine Kd.C_alloc ?_ _) | (with_reducible refine Kd.C_drewN ?_ _) | (with_reducible refine Kd.C_drew ?_))); (case side2 => exact (Kd.V_reads' HO_0.out).2.1); rintro e w68 ⟨v259, rfl, ho0, hb⟩; refine ⟨_, rfl, ?_⟩; have n0_ := Aside0.mk (Kd.V_elder' (by (with_reducible repeat (first | apply Kd.V_alloc | apply Kd.V_drewN | apply Kd.V_drew)); exact HO_0.out) (Kd.R_base ho0) hb); have n1_ := Aside0.mk (Kd.R_lower (Kd.R_newM (M := fun k_ => (w.heap.size ≤ k_)) ho0 (below_size (by repeat (first | (with_reducible first | exact HB.out | apply below_alloc | apply pw_below_drewN | apply below_drew1 | refine below_set ?_ GE240.out) | exact HB.out))) (fun k_ h_ => h_)) (below_size (by repeat (first | (with_reducible first | exact HB.out | apply below_alloc | apply pw_below_drewN | apply below_drew1 | refine below_set ?_ GE240.out) | exact HB.out)))); have n2_ := Aside0.mk (blk_below (g := gb240) (o := .cells #[.int .i64 a1_0, .int .i64 a1_1, .int .i64 a1_2, .int .i64 a1_3] 40 (0, 0)) (by (with_reducible repeat (first | apply blk_drewN | apply blk_drew | apply blk_alloc)); exact BK240.out) hb); have n3_ := Aside0.mk (below_step (by repeat (first | (with_reducible first | exact HB.out | apply below_alloc | apply pw_below_drewN | apply below_drew1 | refine below_set ?_ GE240.out) | exact HB.out)) hb); clear HO_0; clear BK240; clear HB; have HO_0 := n0_; have HO260 := n1_; have BK240 := n2_; have HB := n3_; clear n0_ n1_ n2_ n3_; (try clear hb); (try clear hb2); (try clear hk); (try clear hi); (try clear ho0); obtain ⟨Ao69, co69, eo69⟩ := Kd.R_slice HO260.out; subst eo69) | ((with_reducible refine gate_callee (f := 59) rfl ?_); refine goesL_ (some 69) rfl rfl Try.func59 (by kernel_rfl) rfl #[.slice Ao69 t258.length co69] rfl (by (try simp only [List.map_toArray, List.map_cons, List.map_nil]); first | done | rfl | (simp only [List.length_drop, List.length_take]; rfl)) ?_; (with_reducible refine (mapmakerref12_Area2.calls k2 _ _ t258 t261 _ ?side1 ?side2 A65.out).mono ?_); (case side1 => repeat (first | exact (Kd.R_reads' HO260.out).2.2 | (with_reducible refine Kd.C_alloc ?_ _) | (with_reducible refine Kd.C_drewN ?_ _) | (with_reducible refine Kd.C_drew ?_))); (case side2 => exact (Kd.R_reads' HO260.out).2.1); rintro e w70 ⟨rfl, hb⟩; refine ⟨_, rfl, ?_⟩; have n0_ := Aside0.mk (Kd.V_below (by (with_reducible repeat (first | apply Kd.V_alloc | apply Kd.V_drewN | apply Kd.V_drew)); exact HO_0.out) hb); have n1_ := Aside0.mk (Kd.R_below (by (with_reducible repeat (first | apply Kd.R_alloc | apply Kd.R_drewN | apply Kd.R_drew)); exact HO260.out) hb); have n2_ := Aside0.mk (blk_below (g := gb240) (o := .cells #[.int .i64 a1_0, .int .i64 a1_1, .int .i64 a1_2, .int .i64 a1_3] 40 (0, 0)) (by (with_reducible repeat (first | apply blk_drewN | apply blk_drew | apply blk_alloc)); exact BK240.out) hb); have n3_ := Aside0.mk (below_step (by repeat (first | (with_reducible first | exact HB.out | apply below_alloc | apply pw_below_drewN | apply below_drew1 | refine below_set ?_ GE240.out) | exact HB.out)) hb); clear HO_0; clear HO260; clear BK240; clear HB; have HO_0 := n0_; have HO260 := n1_; have BK240 := n2_; have HB := n3_; clear n0_ n1_ n2_ n3_; (try clear hb); (try clear hb2); (try clear hk); (try clear hi)))
        go_ret
        exact ⟨_, by first | rfl | (simp [errW_none, errW_some] <;> rfl) | (simp [*, errW_none, errW_some] <;> rfl), by first | exact Kd.R_nil _ _ _ _ _ | exact Kd.N_nil _ _ _ _ _ | exact Kd.V_nil _ _ _ _ _ | exact Kd.Q_nil _ _ _ _ _ | exact Kd.S_nil _ _ _ _ _, by repeat (first | (with_reducible first | exact HB.out | apply below_alloc | apply pw_below_drewN | apply below_drew1 | refine below_set ?_ GE240.out) | exact HB.out)⟩
       ·rw [if_neg c66] at H
        have c66b0 : (t261 == 0) = false := beq_eq_false_iff_ne.mpr c66
        have c66b1 : (t261 != 0) = true := bne_iff_ne.mpr c66
        obtain rfl := Option.some.inj H
        obtain ⟨Ao71, co71, eo71⟩ := Kd.V_slice HO_0.out
        subst eo71
        go_wp2_with (first | ((with_reducible refine gate_callee (f := 36) rfl ?_); refine goesL_ (some 67) rfl rfl Try.func36 (by kernel_rfl) rfl #[.slice Ao71 x0_2.length co71] rfl (by (try simp only [List.map_toArray, List.map_cons, List.map_nil]); first | done | rfl | (simp only [List.length_drop, List.length_take]; rfl)) ?_; (with_reducible refine (mapmakerref12_TidyRing.calls k2 _ _ x0_2 t258 _ ?side1 ?side2 A64.out).mono ?_); (case side1 => repeat (first | exact (Kd.V_reads' HO_0.out).2.2 | (with_reducible refine Kd.C_alloc ?_ _) | (with_reducible refine Kd.C_drewN ?_ _) | (with_reducible refine Kd.C_drew ?_))); (case side2 => exact (Kd.V_reads' HO_0.out).2.1); rintro e w72 ⟨v259, rfl, ho0, hb⟩; refine ⟨_, rfl, ?_⟩; have n0_ := Aside0.mk (Kd.V_elder' (by (with_reducible repeat (first | apply Kd.V_alloc | apply Kd.V_drewN | apply Kd.V_drew)); exact HO_0.out) (Kd.R_base ho0) hb); have n1_ := Aside0.mk (Kd.R_lower (Kd.R_newM (M := fun k_ => (w.heap.size ≤ k_)) ho0 (below_size (by repeat (first | (with_reducible first | exact HB.out | apply below_alloc | apply pw_below_drewN | apply below_drew1 | refine below_set ?_ GE240.out) | exact HB.out))) (fun k_ h_ => h_)) (below_size (by repeat (first | (with_reducible first | exact HB.out | apply below_alloc | apply pw_below_drewN | apply below_drew1 | refine below_set ?_ GE240.out) | exact HB.out)))); have n2_ := Aside0.mk (blk_below (g := gb240) (o := .cells #[.int .i64 a1_0, .int .i64 a1_1, .int .i64 a1_2, .int .i64 a1_3] 40 (0, 0)) (by (with_reducible repeat (first | apply blk_drewN | apply blk_drew | apply blk_alloc)); exact BK240.out) hb); have n3_ := Aside0.mk (below_step (by repeat (first | (with_reducible first | exact HB.out | apply below_alloc | apply pw_below_drewN | apply below_drew1 | refine below_set ?_ GE240.out) | exact HB.out)) hb); clear HO_0; clear BK240; clear HB; have HO_0 := n0_; have HO260 := n1_; have BK240 := n2_; have HB := n3_; clear n0_ n1_ n2_ n3_; (try clear hb); (try clear hb2); (try clear hk); (try clear hi); (try clear ho0); obtain ⟨Ao73, co73, eo73⟩ := Kd.R_slice HO260.out; subst eo73) | ((with_reducible refine gate_callee (f := 59) rfl ?_); refine goesL_ (some 69) rfl rfl Try.func59 (by kernel_rfl) rfl #[.slice Ao73 t258.length co73] rfl (by (try simp only [List.map_toArray, List.map_cons, List.map_nil]); first | done | rfl | (simp only [List.length_drop, List.length_take]; rfl)) ?_; (with_reducible refine (mapmakerref12_Area2.calls k2 _ _ t258 t261 _ ?side1 ?side2 A65.out).mono ?_); (case side1 => repeat (first | exact (Kd.R_reads' HO260.out).2.2 | (with_reducible refine Kd.C_alloc ?_ _) | (with_reducible refine Kd.C_drewN ?_ _) | (with_reducible refine Kd.C_drew ?_))); (case side2 => exact (Kd.R_reads' HO260.out).2.1); rintro e w74 ⟨rfl, hb⟩; refine ⟨_, rfl, ?_⟩; have n0_ := Aside0.mk (Kd.V_below (by (with_reducible repeat (first | apply Kd.V_alloc | apply Kd.V_drewN | apply Kd.V_drew)); exact HO_0.out) hb); have n1_ := Aside0.mk (Kd.R_below (by (with_reducible repeat (first | apply Kd.R_alloc | apply Kd.R_drewN | apply Kd.R_drew)); exact HO260.out) hb); have n2_ := Aside0.mk (blk_below (g := gb240) (o := .cells #[.int .i64 a1_0, .int .i64 a1_1, .int .i64 a1_2, .int .i64 a1_3] 40 (0, 0)) (by (with_reducible repeat (first | apply blk_drewN | apply blk_drew | apply blk_alloc)); exact BK240.out) hb); have n3_ := Aside0.mk (below_step (by repeat (first | (with_reducible first | exact HB.out | apply below_alloc | apply pw_below_drewN | apply below_drew1 | refine below_set ?_ GE240.out) | exact HB.out)) hb); clear HO_0; clear HO260; clear BK240; clear HB; have HO_0 := n0_; have HO260 := n1_; have BK240 := n2_; have HB := n3_; clear n0_ n1_ n2_ n3_; (try clear hb); (try clear hb2); (try clear hk); (try clear hi)))
        go_ret
        exact ⟨_, by first | rfl | (simp [errW_none, errW_some] <;> rfl) | (simp [*, errW_none, errW_some] <;> rfl), by (with_reducible repeat (first | apply Kd.R_alloc | apply Kd.R_drewN | apply Kd.R_drew)); exact Kd.R_mono HO260.out (fun _ hk => hk.1), by repeat (first | (with_reducible first | exact HB.out | apply below_alloc | apply pw_below_drewN | apply below_drew1 | refine below_set ?_ GE240.out) | exact HB.out)⟩

end Go.Proofs.Ytdkegdnfbpobnaa.PARS
