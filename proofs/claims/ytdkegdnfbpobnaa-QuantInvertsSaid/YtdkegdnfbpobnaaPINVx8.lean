-- Laid by a program of this work (wip/gen): out of the translation, with texts of our own.
import Derived.Test.YtdkegdnfbpobnaaPINVx0
import Derived.Test.YtdkegdnfbpobnaaPINVx1
import Derived.Test.YtdkegdnfbpobnaaPINVx6
import Derived.Test.YtdkegdnfbpobnaaPINVx7
namespace Go.Proofs.Ytdkegdnfbpobnaa.PINV
open Go.RowKit Go.Proofs.YtdkegdnfbpobnaaW.PrintWords Go.Proofs.YtdkegdnfbpobnaaW.PrintLast Go.Proofs.YtdkegdnfbpobnaaW.PrintMore Go.Proofs.YtdkegdnfbpobnaaW.SepW
attribute [local go_sem] max2_int min2_int max_two min_two max_three min_three max_four min_four   -- for this text's walks alone
set_option linter.unusedVariables false
set_option linter.unusedSimpArgs false

attribute [local go_sem high] eqA25
/-! ### clip_piece: function 45 -/
mutual
def clip_piece.l0 : Nat → Int → Bool → Bool → Int → Bool → Bool → Int → Bool → Bool → Int → Bool → Bool → Int → Int → Int → Int → Int → Option (Int × Int × Int × Int × Bool)
  | 0, _, _, _, _, _, _, _, _, _, _, _, _, _, _, _, _, _ => none
  | k + 1, x15, x58, x59, x60, x61, x62, x63, x64, x65, x66, x67, x68, x69, x158000, x158001, x159000, x159001 => if x15 < 4 then (if 0 ≤ x15 then ((clip_half_has.f ((ix_63 (⟨(⟨x58, x59, x60⟩ : S62), (⟨x61, x62, x63⟩ : S62), (⟨x64, x65, x66⟩ : S62), (⟨x67, x68, x69⟩ : S62)⟩ : S63) x15).f0) ((ix_63 (⟨(⟨x58, x59, x60⟩ : S62), (⟨x61, x62, x63⟩ : S62), (⟨x64, x65, x66⟩ : S62), (⟨x67, x68, x69⟩ : S62)⟩ : S63) x15).f1) ((ix_63 (⟨(⟨x58, x59, x60⟩ : S62), (⟨x61, x62, x63⟩ : S62), (⟨x64, x65, x66⟩ : S62), (⟨x67, x68, x69⟩ : S62)⟩ : S63) x15).f2) x158000 x158001).bind fun t175 => ((clip_half_has.f ((ix_63 (⟨(⟨x58, x59, x60⟩ : S62), (⟨x61, x62, x63⟩ : S62), (⟨x64, x65, x66⟩ : S62), (⟨x67, x68, x69⟩ : S62)⟩ : S63) x15).f0) ((ix_63 (⟨(⟨x58, x59, x60⟩ : S62), (⟨x61, x62, x63⟩ : S62), (⟨x64, x65, x66⟩ : S62), (⟨x67, x68, x69⟩ : S62)⟩ : S63) x15).f1) ((ix_63 (⟨(⟨x58, x59, x60⟩ : S62), (⟨x61, x62, x63⟩ : S62), (⟨x64, x65, x66⟩ : S62), (⟨x67, x68, x69⟩ : S62)⟩ : S63) x15).f2) x159000 x159001).bind fun t176 => (if t175 = true then (clip_piece.j1 k t175 t176 x15 false x58 x59 x60 x61 x62 x63 x64 x65 x66 x67 x68 x69 x158000 x158001 x159000 x159001 ((ix_63 (⟨(⟨x58, x59, x60⟩ : S62), (⟨x61, x62, x63⟩ : S62), (⟨x64, x65, x66⟩ : S62), (⟨x67, x68, x69⟩ : S62)⟩ : S63) x15).f0) ((ix_63 (⟨(⟨x58, x59, x60⟩ : S62), (⟨x61, x62, x63⟩ : S62), (⟨x64, x65, x66⟩ : S62), (⟨x67, x68, x69⟩ : S62)⟩ : S63) x15).f1) ((ix_63 (⟨(⟨x58, x59, x60⟩ : S62), (⟨x61, x62, x63⟩ : S62), (⟨x64, x65, x66⟩ : S62), (⟨x67, x68, x69⟩ : S62)⟩ : S63) x15).f2)) else (clip_piece.j1 k t175 t176 x15 (!t176) x58 x59 x60 x61 x62 x63 x64 x65 x66 x67 x68 x69 x158000 x158001 x159000 x159001 ((ix_63 (⟨(⟨x58, x59, x60⟩ : S62), (⟨x61, x62, x63⟩ : S62), (⟨x64, x65, x66⟩ : S62), (⟨x67, x68, x69⟩ : S62)⟩ : S63) x15).f0) ((ix_63 (⟨(⟨x58, x59, x60⟩ : S62), (⟨x61, x62, x63⟩ : S62), (⟨x64, x65, x66⟩ : S62), (⟨x67, x68, x69⟩ : S62)⟩ : S63) x15).f1) ((ix_63 (⟨(⟨x58, x59, x60⟩ : S62), (⟨x61, x62, x63⟩ : S62), (⟨x64, x65, x66⟩ : S62), (⟨x67, x68, x69⟩ : S62)⟩ : S63) x15).f2))))) else (none)) else (some (x158000, x158001, x159000, x159001, (!(x158000 == x159000) || (!(x158001 == x159001)))))
def clip_piece.j1 : Nat → Bool → Bool → Int → Bool → Bool → Bool → Int → Bool → Bool → Int → Bool → Bool → Int → Bool → Bool → Int → Int → Int → Int → Int → Bool → Bool → Int → Option (Int × Int × Int × Int × Bool)
  | 0, _, _, _, _, _, _, _, _, _, _, _, _, _, _, _, _, _, _, _, _, _, _, _ => none
  | k + 1, x11, x12, x15, x24, x58, x59, x60, x61, x62, x63, x64, x65, x66, x67, x68, x69, x158000, x158001, x159000, x159001, x175000, x175001, x175002 => if x24 = true then (some (0, 0, 0, 0, false)) else (if x11 = true then (if x12 = true then (clip_piece.l0 k (wrap64 (x15 + 1)) x58 x59 x60 x61 x62 x63 x64 x65 x66 x67 x68 x69 x158000 x158001 x159000 x159001) else ((clip_half_border.f k x175000 x175001 x175002 x158000 x158001 x159000 x159001).bind fun bt177 => (clip_piece.l0 k (wrap64 (x15 + 1)) x58 x59 x60 x61 x62 x63 x64 x65 x66 x67 x68 x69 x158000 x158001 bt177.1 bt177.2))) else ((clip_half_border.f k x175000 x175001 x175002 x158000 x158001 x159000 x159001).bind fun bt179 => (clip_piece.l0 k (wrap64 (x15 + 1)) x58 x59 x60 x61 x62 x63 x64 x65 x66 x67 x68 x69 bt179.1 bt179.2 x159000 x159001)))
end
def clip_piece.f (k : Nat) (a0_0 : Int) (a0_1 : Int) (a1_0 : Int) (a1_1 : Int) (a2_0 : Int) (a2_1 : Int) (a2_2 : Int) (a2_3 : Int) : Option (Int × Int × Int × Int × Bool) := (clip_halves.f a2_0 a2_1 a2_2 a2_3).bind fun bt162 => (clip_piece.l0 k 0 bt162.1 bt162.2.1 bt162.2.2.1 bt162.2.2.2.1 bt162.2.2.2.2.1 bt162.2.2.2.2.2.1 bt162.2.2.2.2.2.2.1 bt162.2.2.2.2.2.2.2.1 bt162.2.2.2.2.2.2.2.2.1 bt162.2.2.2.2.2.2.2.2.2.1 bt162.2.2.2.2.2.2.2.2.2.2.1 bt162.2.2.2.2.2.2.2.2.2.2.2 a0_0 a0_1 a1_0 a1_1)
theorem clip_piece.mono_l : ∀ k, (∀ y0 y1 y2 y3 y4 y5 y6 y7 y8 y9 y10 y11 y12 y13 y14 y15 y16, LeO (clip_piece.l0 k y0 y1 y2 y3 y4 y5 y6 y7 y8 y9 y10 y11 y12 y13 y14 y15 y16) (clip_piece.l0 (k + 1) y0 y1 y2 y3 y4 y5 y6 y7 y8 y9 y10 y11 y12 y13 y14 y15 y16)) ∧ (∀ y0 y1 y2 y3 y4 y5 y6 y7 y8 y9 y10 y11 y12 y13 y14 y15 y16 y17 y18 y19 y20 y21 y22, LeO (clip_piece.j1 k y0 y1 y2 y3 y4 y5 y6 y7 y8 y9 y10 y11 y12 y13 y14 y15 y16 y17 y18 y19 y20 y21 y22) (clip_piece.j1 (k + 1) y0 y1 y2 y3 y4 y5 y6 y7 y8 y9 y10 y11 y12 y13 y14 y15 y16 y17 y18 y19 y20 y21 y22))
  | 0 => ⟨fun _ _ _ _ _ _ _ _ _ _ _ _ _ _ _ _ _ r h => by simp [clip_piece.l0] at h, fun _ _ _ _ _ _ _ _ _ _ _ _ _ _ _ _ _ _ _ _ _ _ _ r h => by simp [clip_piece.j1] at h⟩
  | k + 1 => by
    obtain ⟨ih0, ih1⟩ := clip_piece.mono_l k
    refine ⟨?_, ?_⟩
    · intro y0 y1 y2 y3 y4 y5 y6 y7 y8 y9 y10 y11 y12 y13 y14 y15 y16
      unfold clip_piece.l0
      repeat' first
      | (with_reducible exact ih0 _ _ _ _ _ _ _ _ _ _ _ _ _ _ _ _ _)
      | (with_reducible exact ih1 _ _ _ _ _ _ _ _ _ _ _ _ _ _ _ _ _ _ _ _ _ _ _)
      | (with_reducible exact clip_half_border.mono _ _ _ _ _ _ _ _)
      | (with_reducible exact LeO.refl _)
      | (with_reducible exact LeO.none _)
      | (with_reducible refine LeO.ite ?_ ?_)
      | (with_reducible refine LeO.bind ?_ (fun _ => ?_))
      | exact ih0 _ _ _ _ _ _ _ _ _ _ _ _ _ _ _ _ _
      | exact ih1 _ _ _ _ _ _ _ _ _ _ _ _ _ _ _ _ _ _ _ _ _ _ _
      | exact clip_half_border.mono _ _ _ _ _ _ _ _
      | exact LeO.none _
      | refine LeO.ite ?_ ?_
      | refine LeO.bind ?_ (fun _ => ?_)
    · intro y0 y1 y2 y3 y4 y5 y6 y7 y8 y9 y10 y11 y12 y13 y14 y15 y16 y17 y18 y19 y20 y21 y22
      unfold clip_piece.j1
      repeat' first
      | (with_reducible exact ih0 _ _ _ _ _ _ _ _ _ _ _ _ _ _ _ _ _)
      | (with_reducible exact ih1 _ _ _ _ _ _ _ _ _ _ _ _ _ _ _ _ _ _ _ _ _ _ _)
      | (with_reducible exact clip_half_border.mono _ _ _ _ _ _ _ _)
      | (with_reducible exact LeO.refl _)
      | (with_reducible exact LeO.none _)
      | (with_reducible refine LeO.ite ?_ ?_)
      | (with_reducible refine LeO.bind ?_ (fun _ => ?_))
      | exact ih0 _ _ _ _ _ _ _ _ _ _ _ _ _ _ _ _ _
      | exact ih1 _ _ _ _ _ _ _ _ _ _ _ _ _ _ _ _ _ _ _ _ _ _ _
      | exact clip_half_border.mono _ _ _ _ _ _ _ _
      | exact LeO.none _
      | refine LeO.ite ?_ ?_
      | refine LeO.bind ?_ (fun _ => ?_)
theorem clip_piece.mono : ∀ a0 a1 a2 a3 a4 a5 a6 a7 k, LeO (clip_piece.f k a0 a1 a2 a3 a4 a5 a6 a7) (clip_piece.f (k + 1) a0 a1 a2 a3 a4 a5 a6 a7) := by
  intro a0 a1 a2 a3 a4 a5 a6 a7 k
  obtain ⟨ih0, ih1⟩ := clip_piece.mono_l k
  unfold clip_piece.f
  repeat' first
      | (with_reducible exact ih0 _ _ _ _ _ _ _ _ _ _ _ _ _ _ _ _ _)
      | (with_reducible exact ih1 _ _ _ _ _ _ _ _ _ _ _ _ _ _ _ _ _ _ _ _ _ _ _)
      | (with_reducible exact clip_half_border.mono _ _ _ _ _ _ _ _)
      | (with_reducible exact LeO.refl _)
      | (with_reducible exact LeO.none _)
      | (with_reducible refine LeO.ite ?_ ?_)
      | (with_reducible refine LeO.bind ?_ (fun _ => ?_))
      | exact ih0 _ _ _ _ _ _ _ _ _ _ _ _ _ _ _ _ _
      | exact ih1 _ _ _ _ _ _ _ _ _ _ _ _ _ _ _ _ _ _ _ _ _ _ _
      | exact clip_half_border.mono _ _ _ _ _ _ _ _
      | exact LeO.none _
      | refine LeO.ite ?_ ?_
      | refine LeO.bind ?_ (fun _ => ?_)
def clip_piece.T4 : Bool × List (List Nat × List Nat) := (true, [([], []), ([], []), ([0, 1], [0, 1]), ([], []), ([], []), ([3, 4, 2], [3, 4]), ([2, 5, 0, 1, 2], [2]), ([5, 6, 0, 1, 2, 3, 4, 5, 6], [5])])
def clip_piece.B4 : List Nat := [0, 0, 3, 0, 0, 31, 63, 127]
theorem clip_piece.tab4 : rtab .any (opsOf Try.f45 4) = clip_piece.T4 := by kernel_rfl
theorem clip_piece.bits4 : waitsOk clip_piece.T4.2 clip_piece.B4 = true := by kernel_rfl
def clip_piece.T12 : Bool × List (List Nat × List Nat) := (true, [([], []), ([], []), ([], []), ([], []), ([2, 3], [2, 3]), ([0, 0], [0]), ([1, 5, 0, 1, 5], [1]), ([4, 6, 0, 1, 2, 3, 4, 5, 6], [4])])
def clip_piece.B12 : List Nat := [0, 0, 0, 0, 12, 1, 35, 127]
theorem clip_piece.tab12 : rtab .any (opsOf Try.f45 12) = clip_piece.T12 := by kernel_rfl
theorem clip_piece.bits12 : waitsOk clip_piece.T12.2 clip_piece.B12 = true := by kernel_rfl
set_option maxHeartbeats 8000000 in
set_option maxRecDepth 100000 in
theorem clip_piece.calls (k : Nat) (a0_0 : Int) (a0_1 : Int) (a1_0 : Int) (a1_1 : Int) (a2_0 : Int) (a2_1 : Int) (a2_2 : Int) (a2_3 : Int) (r1 : Int) (r2 : Int) (r3 : Int) (r4 : Int) (r5 : Bool) (w : World) (h : clip_piece.f k a0_0 a0_1 a1_0 a1_1 a2_0 a2_1 a2_2 a2_3 = some (r1, r2, r3, r4, r5)) :
    Calls Try.prog 45 #[.agg #[.int .i64 a0_0, .int .i64 a0_1], .agg #[.int .i64 a1_0, .int .i64 a1_1], .agg #[.int .i64 a2_0, .int .i64 a2_1, .int .i64 a2_2, .int .i64 a2_3]] w fun e w' => e = .returned (.tuple #[.agg #[.int .i64 r1, .int .i64 r2], .agg #[.int .i64 r3, .int .i64 r4], .bool r5]) ∧ Below w.heap.size w w' := by
  have hu25 := Try.underlying25
  have hu40 := Try.underlying40
  have hu62 := Try.underlying62
  have HB := Aside0.mk (Below.refl w.heap.size w)
  have H : ((clip_halves.f a2_0 a2_1 a2_2 a2_3).bind fun bt162 => (clip_piece.l0 k 0 bt162.1 bt162.2.1 bt162.2.2.1 bt162.2.2.2.1 bt162.2.2.2.2.1 bt162.2.2.2.2.2.1 bt162.2.2.2.2.2.2.1 bt162.2.2.2.2.2.2.2.1 bt162.2.2.2.2.2.2.2.2.1 bt162.2.2.2.2.2.2.2.2.2.1 bt162.2.2.2.2.2.2.2.2.2.2.1 bt162.2.2.2.2.2.2.2.2.2.2.2 a0_0 a0_1 a1_0 a1_1)) = some (r1, r2, r3, r4, r5) := h
  clear h
  replace H := Option.bind_eq_some_iff.mp H
  obtain ⟨⟨t162, t163, t164, t165, t166, t167, t168, t169, t170, t171, t172, t173⟩, A40, H⟩ := H
  replace H : (clip_piece.l0 k 0 t162 t163 t164 t165 t166 t167 t168 t169 t170 t171 t172 t173 a0_0 a0_1 a1_0 a1_1) = some (r1, r2, r3, r4, r5) := H
  have A4 := Aside0.mk A40
  clear A40
  have H' := Aside0.mk H
  clear H
  go_enter Try.func45, Try.ntmps45
  go_wp2_with (first | ((with_reducible refine gate_dst (N := 3) rfl ?_); refine box_event ?hg (N := 3) ?hd (cs := #[.int .i64 a0_0, .int .i64 a0_1]) (t := 25) ?hr ?_; (case hd => rfl); (case hg => rfl); (case hr => first | (go_simp; done) | (go_simp; rfl)); intro gb157 hg w5 hbox hb; have n0_ := Aside0.mk (below_step (by repeat (first | (with_reducible first | exact HB.out | apply below_alloc | apply pw_below_drewN | apply below_drew1) | exact HB.out)) hb); have n1_ := Aside0.mk (hbox); have n2_ := Aside0.mk ((by rw [hg]; exact (below_size (by repeat (first | (with_reducible first | exact HB.out | apply below_alloc | apply pw_below_drewN | apply below_drew1) | exact HB.out))) : w.heap.size ≤ gb157)); have n3_ := Aside0.mk ((by rw [hg]; exact (below_size (by repeat (first | (with_reducible first | exact HB.out | apply below_alloc | apply pw_below_drewN | apply below_drew1) | exact HB.out))) : w.heap.size ≤ gb157)); clear HB; have HB := n0_; have BK157 := n1_; have GW157 := n2_; have GE157 := n3_; clear n0_ n1_ n2_ n3_; clear hb hbox hg) | ((with_reducible refine gate_dst (N := 4) rfl ?_); refine box_event ?hg (N := 4) ?hd (cs := #[.int .i64 a1_0, .int .i64 a1_1]) (t := 25) ?hr ?_; (case hd => rfl); (case hg => rfl); (case hr => first | (go_simp; done) | (go_simp; rfl)); intro gb158 hg w6 hbox hb; have n0_ := Aside0.mk (blk_below (g := gb157) (o := .cells #[.int .i64 a0_0, .int .i64 a0_1] 25 (0, 0)) (by (with_reducible repeat (first | refine blk_drewN ?_ _ | refine blk_drew ?_ | refine blk_alloc ?_ _)); exact BK157.out) hb); have n1_ := Aside0.mk (below_step (by repeat (first | (with_reducible first | exact HB.out | apply below_alloc | apply pw_below_drewN | apply below_drew1 | refine below_set ?_ GE157.out) | exact HB.out)) hb); have n2_ := Aside0.mk (hbox); have n3_ := Aside0.mk ((by rw [hg]; exact (below_size (by repeat (first | (with_reducible first | exact HB.out | apply below_alloc | apply pw_below_drewN | apply below_drew1 | refine below_set ?_ GE157.out) | exact HB.out))) : w.heap.size ≤ gb158)); have n4_ := Aside0.mk ((by rw [hg]; exact (below_size (by repeat (first | (with_reducible first | exact HB.out | apply below_alloc | apply pw_below_drewN | apply below_drew1 | refine below_set ?_ GE157.out) | exact HB.out))) : w.heap.size ≤ gb158)); have n5_ := Aside0.mk ((by rw [hg]; exact Nat.ne_of_lt (blk_lt (g := gb157) (o := .cells #[.int .i64 a0_0, .int .i64 a0_1] 25 (0, 0)) (by (with_reducible repeat (first | refine blk_drewN ?_ _ | refine blk_drew ?_ | refine blk_alloc ?_ _)); exact BK157.out)) : gb157 ≠ gb158)); have n6_ := Aside0.mk ((by rw [hg]; exact Nat.ne_of_gt (blk_lt (g := gb157) (o := .cells #[.int .i64 a0_0, .int .i64 a0_1] 25 (0, 0)) (by (with_reducible repeat (first | refine blk_drewN ?_ _ | refine blk_drew ?_ | refine blk_alloc ?_ _)); exact BK157.out)) : gb158 ≠ gb157)); clear BK157; clear HB; have BK157 := n0_; have HB := n1_; have BK158 := n2_; have GW158 := n3_; have GE158 := n4_; have NB157_158 := n5_; have NB158_157 := n6_; clear n0_ n1_ n2_ n3_ n4_ n5_ n6_; clear hb hbox hg) | ((with_reducible refine gate_dst (N := 5) rfl ?_); refine box_event ?hg (N := 5) ?hd (cs := #[.int .i64 a2_0, .int .i64 a2_1, .int .i64 a2_2, .int .i64 a2_3]) (t := 40) ?hr ?_; (case hd => rfl); (case hg => rfl); (case hr => first | (go_simp; done) | (go_simp; rfl)); intro gb159 hg w7 hbox hb; have n0_ := Aside0.mk (blk_below (g := gb157) (o := .cells #[.int .i64 a0_0, .int .i64 a0_1] 25 (0, 0)) (by (with_reducible repeat (first | refine blk_drewN ?_ _ | refine blk_drew ?_ | refine blk_alloc ?_ _)); exact BK157.out) hb); have n1_ := Aside0.mk (blk_below (g := gb158) (o := .cells #[.int .i64 a1_0, .int .i64 a1_1] 25 (0, 0)) (by (with_reducible repeat (first | refine blk_drewN ?_ _ | refine blk_drew ?_ | refine blk_alloc ?_ _)); exact BK158.out) hb); have n2_ := Aside0.mk (below_step (by repeat (first | (with_reducible first | exact HB.out | apply below_alloc | apply pw_below_drewN | apply below_drew1 | refine below_set ?_ GE157.out | refine below_set ?_ GE158.out) | exact HB.out)) hb); have n3_ := Aside0.mk (hbox); have n4_ := Aside0.mk ((by rw [hg]; exact (below_size (by repeat (first | (with_reducible first | exact HB.out | apply below_alloc | apply pw_below_drewN | apply below_drew1 | refine below_set ?_ GE157.out | refine below_set ?_ GE158.out) | exact HB.out))) : w.heap.size ≤ gb159)); have n5_ := Aside0.mk ((by rw [hg]; exact (below_size (by repeat (first | (with_reducible first | exact HB.out | apply below_alloc | apply pw_below_drewN | apply below_drew1 | refine below_set ?_ GE157.out | refine below_set ?_ GE158.out) | exact HB.out))) : w.heap.size ≤ gb159)); have n6_ := Aside0.mk ((by rw [hg]; exact Nat.ne_of_lt (blk_lt (g := gb157) (o := .cells #[.int .i64 a0_0, .int .i64 a0_1] 25 (0, 0)) (by (with_reducible repeat (first | refine blk_drewN ?_ _ | refine blk_drew ?_ | refine blk_alloc ?_ _)); exact BK157.out)) : gb157 ≠ gb159)); have n7_ := Aside0.mk ((by rw [hg]; exact Nat.ne_of_gt (blk_lt (g := gb157) (o := .cells #[.int .i64 a0_0, .int .i64 a0_1] 25 (0, 0)) (by (with_reducible repeat (first | refine blk_drewN ?_ _ | refine blk_drew ?_ | refine blk_alloc ?_ _)); exact BK157.out)) : gb159 ≠ gb157)); have n8_ := Aside0.mk ((by rw [hg]; exact Nat.ne_of_lt (blk_lt (g := gb158) (o := .cells #[.int .i64 a1_0, .int .i64 a1_1] 25 (0, 0)) (by (with_reducible repeat (first | refine blk_drewN ?_ _ | refine blk_drew ?_ | refine blk_alloc ?_ _)); exact BK158.out)) : gb158 ≠ gb159)); have n9_ := Aside0.mk ((by rw [hg]; exact Nat.ne_of_gt (blk_lt (g := gb158) (o := .cells #[.int .i64 a1_0, .int .i64 a1_1] 25 (0, 0)) (by (with_reducible repeat (first | refine blk_drewN ?_ _ | refine blk_drew ?_ | refine blk_alloc ?_ _)); exact BK158.out)) : gb159 ≠ gb158)); clear BK157; clear BK158; clear HB; have BK157 := n0_; have BK158 := n1_; have HB := n2_; have BK159 := n3_; have GW159 := n4_; have GE159 := n5_; have NB157_159 := n6_; have NB159_157 := n7_; have NB158_159 := n8_; have NB159_158 := n9_; clear n0_ n1_ n2_ n3_ n4_ n5_ n6_ n7_ n8_ n9_; clear hb hbox hg) | ((with_reducible refine gate_dst (N := 6) rfl ?_); refine box_event ?hg (N := 6) ?hd (cs := #[.int .i64 0, .int .i64 0]) (t := 25) ?hr ?_; (case hd => rfl); (case hg => rfl); (case hr => first | (go_simp; done) | (go_simp; rfl)); intro gb160 hg w8 hbox hb; have n0_ := Aside0.mk (blk_below (g := gb157) (o := .cells #[.int .i64 a0_0, .int .i64 a0_1] 25 (0, 0)) (by (with_reducible repeat (first | refine blk_drewN ?_ _ | refine blk_drew ?_ | refine blk_alloc ?_ _)); exact BK157.out) hb); have n1_ := Aside0.mk (blk_below (g := gb158) (o := .cells #[.int .i64 a1_0, .int .i64 a1_1] 25 (0, 0)) (by (with_reducible repeat (first | refine blk_drewN ?_ _ | refine blk_drew ?_ | refine blk_alloc ?_ _)); exact BK158.out) hb); have n2_ := Aside0.mk (blk_below (g := gb159) (o := .cells #[.int .i64 a2_0, .int .i64 a2_1, .int .i64 a2_2, .int .i64 a2_3] 40 (0, 0)) (by (with_reducible repeat (first | refine blk_drewN ?_ _ | refine blk_drew ?_ | refine blk_alloc ?_ _)); exact BK159.out) hb); have n3_ := Aside0.mk (below_step (by repeat (first | (with_reducible first | exact HB.out | apply below_alloc | apply pw_below_drewN | apply below_drew1 | refine below_set ?_ GE157.out | refine below_set ?_ GE158.out | refine below_set ?_ GE159.out) | exact HB.out)) hb); have n4_ := Aside0.mk (hbox); have n5_ := Aside0.mk ((by rw [hg]; exact (below_size (by repeat (first | (with_reducible first | exact HB.out | apply below_alloc | apply pw_below_drewN | apply below_drew1 | refine below_set ?_ GE157.out | refine below_set ?_ GE158.out | refine below_set ?_ GE159.out) | exact HB.out))) : w.heap.size ≤ gb160)); have n6_ := Aside0.mk ((by rw [hg]; exact (below_size (by repeat (first | (with_reducible first | exact HB.out | apply below_alloc | apply pw_below_drewN | apply below_drew1 | refine below_set ?_ GE157.out | refine below_set ?_ GE158.out | refine below_set ?_ GE159.out) | exact HB.out))) : w.heap.size ≤ gb160)); have n7_ := Aside0.mk ((by rw [hg]; exact Nat.ne_of_lt (blk_lt (g := gb157) (o := .cells #[.int .i64 a0_0, .int .i64 a0_1] 25 (0, 0)) (by (with_reducible repeat (first | refine blk_drewN ?_ _ | refine blk_drew ?_ | refine blk_alloc ?_ _)); exact BK157.out)) : gb157 ≠ gb160)); have n8_ := Aside0.mk ((by rw [hg]; exact Nat.ne_of_gt (blk_lt (g := gb157) (o := .cells #[.int .i64 a0_0, .int .i64 a0_1] 25 (0, 0)) (by (with_reducible repeat (first | refine blk_drewN ?_ _ | refine blk_drew ?_ | refine blk_alloc ?_ _)); exact BK157.out)) : gb160 ≠ gb157)); have n9_ := Aside0.mk ((by rw [hg]; exact Nat.ne_of_lt (blk_lt (g := gb158) (o := .cells #[.int .i64 a1_0, .int .i64 a1_1] 25 (0, 0)) (by (with_reducible repeat (first | refine blk_drewN ?_ _ | refine blk_drew ?_ | refine blk_alloc ?_ _)); exact BK158.out)) : gb158 ≠ gb160)); have n10_ := Aside0.mk ((by rw [hg]; exact Nat.ne_of_gt (blk_lt (g := gb158) (o := .cells #[.int .i64 a1_0, .int .i64 a1_1] 25 (0, 0)) (by (with_reducible repeat (first | refine blk_drewN ?_ _ | refine blk_drew ?_ | refine blk_alloc ?_ _)); exact BK158.out)) : gb160 ≠ gb158)); have n11_ := Aside0.mk ((by rw [hg]; exact Nat.ne_of_lt (blk_lt (g := gb159) (o := .cells #[.int .i64 a2_0, .int .i64 a2_1, .int .i64 a2_2, .int .i64 a2_3] 40 (0, 0)) (by (with_reducible repeat (first | refine blk_drewN ?_ _ | refine blk_drew ?_ | refine blk_alloc ?_ _)); exact BK159.out)) : gb159 ≠ gb160)); have n12_ := Aside0.mk ((by rw [hg]; exact Nat.ne_of_gt (blk_lt (g := gb159) (o := .cells #[.int .i64 a2_0, .int .i64 a2_1, .int .i64 a2_2, .int .i64 a2_3] 40 (0, 0)) (by (with_reducible repeat (first | refine blk_drewN ?_ _ | refine blk_drew ?_ | refine blk_alloc ?_ _)); exact BK159.out)) : gb160 ≠ gb159)); clear BK157; clear BK158; clear BK159; clear HB; have BK157 := n0_; have BK158 := n1_; have BK159 := n2_; have HB := n3_; have BK160 := n4_; have GW160 := n5_; have GE160 := n6_; have NB157_160 := n7_; have NB160_157 := n8_; have NB158_160 := n9_; have NB160_158 := n10_; have NB159_160 := n11_; have NB160_159 := n12_; clear n0_ n1_ n2_ n3_ n4_ n5_ n6_ n7_ n8_ n9_ n10_ n11_ n12_; clear hb hbox hg) | ((with_reducible refine gate_dst (N := 7) rfl ?_); refine box_event ?hg (N := 7) ?hd (cs := #[.int .i64 0, .int .i64 0]) (t := 25) ?hr ?_; (case hd => rfl); (case hg => rfl); (case hr => first | (go_simp; done) | (go_simp; rfl)); intro gb161 hg w9 hbox hb; have n0_ := Aside0.mk (blk_below (g := gb157) (o := .cells #[.int .i64 a0_0, .int .i64 a0_1] 25 (0, 0)) (by (with_reducible repeat (first | refine blk_drewN ?_ _ | refine blk_drew ?_ | refine blk_alloc ?_ _)); exact BK157.out) hb); have n1_ := Aside0.mk (blk_below (g := gb158) (o := .cells #[.int .i64 a1_0, .int .i64 a1_1] 25 (0, 0)) (by (with_reducible repeat (first | refine blk_drewN ?_ _ | refine blk_drew ?_ | refine blk_alloc ?_ _)); exact BK158.out) hb); have n2_ := Aside0.mk (blk_below (g := gb159) (o := .cells #[.int .i64 a2_0, .int .i64 a2_1, .int .i64 a2_2, .int .i64 a2_3] 40 (0, 0)) (by (with_reducible repeat (first | refine blk_drewN ?_ _ | refine blk_drew ?_ | refine blk_alloc ?_ _)); exact BK159.out) hb); have n3_ := Aside0.mk (blk_below (g := gb160) (o := .cells #[.int .i64 0, .int .i64 0] 25 (0, 0)) (by (with_reducible repeat (first | refine blk_drewN ?_ _ | refine blk_drew ?_ | refine blk_alloc ?_ _)); exact BK160.out) hb); have n4_ := Aside0.mk (below_step (by repeat (first | (with_reducible first | exact HB.out | apply below_alloc | apply pw_below_drewN | apply below_drew1 | refine below_set ?_ GE157.out | refine below_set ?_ GE158.out | refine below_set ?_ GE159.out | refine below_set ?_ GE160.out) | exact HB.out)) hb); have n5_ := Aside0.mk (hbox); have n6_ := Aside0.mk ((by rw [hg]; exact (below_size (by repeat (first | (with_reducible first | exact HB.out | apply below_alloc | apply pw_below_drewN | apply below_drew1 | refine below_set ?_ GE157.out | refine below_set ?_ GE158.out | refine below_set ?_ GE159.out | refine below_set ?_ GE160.out) | exact HB.out))) : w.heap.size ≤ gb161)); have n7_ := Aside0.mk ((by rw [hg]; exact (below_size (by repeat (first | (with_reducible first | exact HB.out | apply below_alloc | apply pw_below_drewN | apply below_drew1 | refine below_set ?_ GE157.out | refine below_set ?_ GE158.out | refine below_set ?_ GE159.out | refine below_set ?_ GE160.out) | exact HB.out))) : w.heap.size ≤ gb161)); have n8_ := Aside0.mk ((by rw [hg]; exact Nat.ne_of_lt (blk_lt (g := gb157) (o := .cells #[.int .i64 a0_0, .int .i64 a0_1] 25 (0, 0)) (by (with_reducible repeat (first | refine blk_drewN ?_ _ | refine blk_drew ?_ | refine blk_alloc ?_ _)); exact BK157.out)) : gb157 ≠ gb161)); have n9_ := Aside0.mk ((by rw [hg]; exact Nat.ne_of_gt (blk_lt (g := gb157) (o := .cells #[.int .i64 a0_0, .int .i64 a0_1] 25 (0, 0)) (by (with_reducible repeat (first | refine blk_drewN ?_ _ | refine blk_drew ?_ | refine blk_alloc ?_ _)); exact BK157.out)) : gb161 ≠ gb157)); have n10_ := Aside0.mk ((by rw [hg]; exact Nat.ne_of_lt (blk_lt (g := gb158) (o := .cells #[.int .i64 a1_0, .int .i64 a1_1] 25 (0, 0)) (by (with_reducible repeat (first | refine blk_drewN ?_ _ | refine blk_drew ?_ | refine blk_alloc ?_ _)); exact BK158.out)) : gb158 ≠ gb161)); have n11_ := Aside0.mk ((by rw [hg]; exact Nat.ne_of_gt (blk_lt (g := gb158) (o := .cells #[.int .i64 a1_0, .int .i64 a1_1] 25 (0, 0)) (by (with_reducible repeat (first | refine blk_drewN ?_ _ | refine blk_drew ?_ | refine blk_alloc ?_ _)); exact BK158.out)) : gb161 ≠ gb158)); have n12_ := Aside0.mk ((by rw [hg]; exact Nat.ne_of_lt (blk_lt (g := gb159) (o := .cells #[.int .i64 a2_0, .int .i64 a2_1, .int .i64 a2_2, .int .i64 a2_3] 40 (0, 0)) (by (with_reducible repeat (first | refine blk_drewN ?_ _ | refine blk_drew ?_ | refine blk_alloc ?_ _)); exact BK159.out)) : gb159 ≠ gb161)); have n13_ := Aside0.mk ((by rw [hg]; exact Nat.ne_of_gt (blk_lt (g := gb159) (o := .cells #[.int .i64 a2_0, .int .i64 a2_1, .int .i64 a2_2, .int .i64 a2_3] 40 (0, 0)) (by (with_reducible repeat (first | refine blk_drewN ?_ _ | refine blk_drew ?_ | refine blk_alloc ?_ _)); exact BK159.out)) : gb161 ≠ gb159)); have n14_ := Aside0.mk ((by rw [hg]; exact Nat.ne_of_lt (blk_lt (g := gb160) (o := .cells #[.int .i64 0, .int .i64 0] 25 (0, 0)) (by (with_reducible repeat (first | refine blk_drewN ?_ _ | refine blk_drew ?_ | refine blk_alloc ?_ _)); exact BK160.out)) : gb160 ≠ gb161)); have n15_ := Aside0.mk ((by rw [hg]; exact Nat.ne_of_gt (blk_lt (g := gb160) (o := .cells #[.int .i64 0, .int .i64 0] 25 (0, 0)) (by (with_reducible repeat (first | refine blk_drewN ?_ _ | refine blk_drew ?_ | refine blk_alloc ?_ _)); exact BK160.out)) : gb161 ≠ gb160)); clear BK157; clear BK158; clear BK159; clear BK160; clear HB; have BK157 := n0_; have BK158 := n1_; have BK159 := n2_; have BK160 := n3_; have HB := n4_; have BK161 := n5_; have GW161 := n6_; have GE161 := n7_; have NB157_161 := n8_; have NB161_157 := n9_; have NB158_161 := n10_; have NB161_158 := n11_; have NB159_161 := n12_; have NB161_159 := n13_; have NB160_161 := n14_; have NB161_160 := n15_; clear n0_ n1_ n2_ n3_ n4_ n5_ n6_ n7_ n8_ n9_ n10_ n11_ n12_ n13_ n14_ n15_; clear hb hbox hg; have hnb10 := NB159_157.out; have hnc10 := NB157_159.out; have hnb11 := NB159_158.out; have hnc11 := NB158_159.out; have hnb12 := NB159_160.out; have hnc12 := NB160_159.out; have hnb13 := NB159_161.out; have hnc13 := NB161_159.out; have hcz14_0 : w9.cell? ⟨gb159, 0, none⟩ = some (.int .i64 a2_0) := (blk_cell BK159.out 0).trans rfl; have hcz14_1 : w9.cell? ⟨gb159, 1, none⟩ = some (.int .i64 a2_1) := (blk_cell BK159.out 1).trans rfl; have hcz14_2 : w9.cell? ⟨gb159, 2, none⟩ = some (.int .i64 a2_2) := (blk_cell BK159.out 2).trans rfl; have hcz14_3 : w9.cell? ⟨gb159, 3, none⟩ = some (.int .i64 a2_3) := (blk_cell BK159.out 3).trans rfl; have hfz14_0 := blk_frozen BK159.out 0; have hfz14_1 := blk_frozen BK159.out 1; have hfz14_2 := blk_frozen BK159.out 2; have hfz14_3 := blk_frozen BK159.out 3) | ((with_reducible refine gate_callee (f := 49) rfl ?_); refine goesL_ (some 14) rfl rfl Try.func49 (by kernel_rfl) rfl #[.agg #[.int .i64 a2_0, .int .i64 a2_1, .int .i64 a2_2, .int .i64 a2_3]] rfl (by (try simp only [List.map_toArray, List.map_cons, List.map_nil]); first | done | rfl | (simp only [List.length_drop, List.length_take]; rfl)) ?_; (with_reducible refine (clip_halves.calls a2_0 a2_1 a2_2 a2_3 t162 t163 t164 t165 t166 t167 t168 t169 t170 t171 t172 t173 _ A4.out).mono ?_); rintro e w15 ⟨rfl, hb⟩; refine ⟨_, rfl, ?_⟩; have n0_ := Aside0.mk (blk_below (g := gb157) (o := .cells #[.int .i64 a0_0, .int .i64 a0_1] 25 (0, 0)) (by (with_reducible repeat (first | refine blk_drewN ?_ _ | refine blk_drew ?_ | refine blk_alloc ?_ _)); exact BK157.out) hb); have n1_ := Aside0.mk (blk_below (g := gb158) (o := .cells #[.int .i64 a1_0, .int .i64 a1_1] 25 (0, 0)) (by (with_reducible repeat (first | refine blk_drewN ?_ _ | refine blk_drew ?_ | refine blk_alloc ?_ _)); exact BK158.out) hb); have n2_ := Aside0.mk (blk_below (g := gb159) (o := .cells #[.int .i64 a2_0, .int .i64 a2_1, .int .i64 a2_2, .int .i64 a2_3] 40 (0, 0)) (by (with_reducible repeat (first | refine blk_drewN ?_ _ | refine blk_drew ?_ | refine blk_alloc ?_ _)); exact BK159.out) hb); have n3_ := Aside0.mk (blk_below (g := gb160) (o := .cells #[.int .i64 0, .int .i64 0] 25 (0, 0)) (by (with_reducible repeat (first | refine blk_drewN ?_ _ | refine blk_drew ?_ | refine blk_alloc ?_ _)); exact BK160.out) hb); have n4_ := Aside0.mk (blk_below (g := gb161) (o := .cells #[.int .i64 0, .int .i64 0] 25 (0, 0)) (by (with_reducible repeat (first | refine blk_drewN ?_ _ | refine blk_drew ?_ | refine blk_alloc ?_ _)); exact BK161.out) hb); have n5_ := Aside0.mk (below_step (by repeat (first | (with_reducible first | exact HB.out | apply below_alloc | apply pw_below_drewN | apply below_drew1 | refine below_set ?_ GE157.out | refine below_set ?_ GE158.out | refine below_set ?_ GE159.out | refine below_set ?_ GE160.out | refine below_set ?_ GE161.out) | exact HB.out)) hb); clear BK157; clear BK158; clear BK159; clear BK160; clear BK161; clear HB; have BK157 := n0_; have BK158 := n1_; have BK159 := n2_; have BK160 := n3_; have BK161 := n4_; have HB := n5_; clear n0_ n1_ n2_ n3_ n4_ n5_; (try clear hb); (try clear hb2); (try clear hk); (try clear hi)))
  go_loopg [15] k (fun kq v15 w' => ∃ (x15_1 : Int) (x158000_1 : Int) (x158001_1 : Int) (x159000_1 : Int) (x159001_1 : Int) (x161000_1 : Int) (x161001_1 : Int) (x162000_1 : Int) (x162001_1 : Int), v15 = .int .i64 x15_1 ∧ Aside0 (clip_piece.l0 kq x15_1 t162 t163 t164 t165 t166 t167 t168 t169 t170 t171 t172 t173 x158000_1 x158001_1 x159000_1 x159001_1 = some (r1, r2, r3, r4, r5)) ∧ Aside0 (kq ≤ k) ∧ Aside0 (w'.heap[gb157]? = some (.cells #[.int .i64 x158000_1, .int .i64 x158001_1] 25 (0, 0))) ∧ Aside0 (w'.heap[gb158]? = some (.cells #[.int .i64 x159000_1, .int .i64 x159001_1] 25 (0, 0))) ∧ Aside0 (w'.heap[gb159]? = some (.cells #[.int .i64 a2_0, .int .i64 a2_1, .int .i64 a2_2, .int .i64 a2_3] 40 (0, 0))) ∧ Aside0 (w'.heap[gb160]? = some (.cells #[.int .i64 x161000_1, .int .i64 x161001_1] 25 (0, 0))) ∧ Aside0 (w'.heap[gb161]? = some (.cells #[.int .i64 x162000_1, .int .i64 x162001_1] 25 (0, 0))) ∧ Aside0 (Below w.heap.size w w'))
  case atStart => exact ⟨(0), (a0_0), (a0_1), (a1_0), (a1_1), (0), (0), (0), (0), (by first | rfl | (simp; done) | (simp [*]; done)), H', ⟨Nat.le_refl _⟩, ⟨by (with_reducible repeat (first | refine blk_drewN ?_ _ | refine blk_drew ?_ | refine blk_alloc ?_ _)); exact BK157.out⟩, ⟨by (with_reducible repeat (first | refine blk_drewN ?_ _ | refine blk_drew ?_ | refine blk_alloc ?_ _)); exact BK158.out⟩, ⟨by (with_reducible repeat (first | refine blk_drewN ?_ _ | refine blk_drew ?_ | refine blk_alloc ?_ _)); exact BK159.out⟩, ⟨by (with_reducible repeat (first | refine blk_drewN ?_ _ | refine blk_drew ?_ | refine blk_alloc ?_ _)); exact BK160.out⟩, ⟨by (with_reducible repeat (first | refine blk_drewN ?_ _ | refine blk_drew ?_ | refine blk_alloc ?_ _)); exact BK161.out⟩, ⟨by repeat (first | (with_reducible first | exact HB.out | apply below_alloc | apply pw_below_drewN | apply below_drew1 | refine below_set ?_ GE157.out | refine below_set ?_ GE158.out | refine below_set ?_ GE159.out | refine below_set ?_ GE160.out | refine below_set ?_ GE161.out) | exact HB.out)⟩⟩
  case round =>
    clear H'
    try clear c1
    try clear p2
    try clear c4
    try clear c10
    try clear c11
    try clear c12
    try clear c13
    try clear hcz14_0
    try clear hcz14_1
    try clear hcz14_2
    try clear hcz14_3
    try clear hfz14_0
    try clear hfz14_1
    try clear hfz14_2
    try clear hfz14_3
    obtain ⟨x15_1, x158000_1, x158001_1, x159000_1, x159001_1, x161000_1, x161001_1, x162000_1, x162001_1, rfl, HA, HK1, BK157, BK158, BK159, BK160, BK161, HB⟩ := hrel
    cases gk with
    | zero => exact absurd HA.out (by simp [clip_piece.l0])
    | succ k1 =>
      have H := HA.out
      clear HA
      simp only [clip_piece.l0] at H
      by_cases c16 : x15_1 < 4
      · rw [if_pos c16] at H
        have c16b0 : decide (x15_1 < 4) = true := decide_eq_true c16
        clear c16
        by_cases c17 : 0 ≤ x15_1
        · rw [if_pos c17] at H
          have c17b0 : decide (0 ≤ x15_1) = true := decide_eq_true c17
          clear c17
          replace H := Option.bind_eq_some_iff.mp H
          obtain ⟨t175, A190, H⟩ := H
          replace H : ((clip_half_has.f ((ix_63 (⟨(⟨t162, t163, t164⟩ : S62), (⟨t165, t166, t167⟩ : S62), (⟨t168, t169, t170⟩ : S62), (⟨t171, t172, t173⟩ : S62)⟩ : S63) x15_1).f0) ((ix_63 (⟨(⟨t162, t163, t164⟩ : S62), (⟨t165, t166, t167⟩ : S62), (⟨t168, t169, t170⟩ : S62), (⟨t171, t172, t173⟩ : S62)⟩ : S63) x15_1).f1) ((ix_63 (⟨(⟨t162, t163, t164⟩ : S62), (⟨t165, t166, t167⟩ : S62), (⟨t168, t169, t170⟩ : S62), (⟨t171, t172, t173⟩ : S62)⟩ : S63) x15_1).f2) x159000_1 x159001_1).bind fun t176 => (if t175 = true then (clip_piece.j1 k1 t175 t176 x15_1 false t162 t163 t164 t165 t166 t167 t168 t169 t170 t171 t172 t173 x158000_1 x158001_1 x159000_1 x159001_1 ((ix_63 (⟨(⟨t162, t163, t164⟩ : S62), (⟨t165, t166, t167⟩ : S62), (⟨t168, t169, t170⟩ : S62), (⟨t171, t172, t173⟩ : S62)⟩ : S63) x15_1).f0) ((ix_63 (⟨(⟨t162, t163, t164⟩ : S62), (⟨t165, t166, t167⟩ : S62), (⟨t168, t169, t170⟩ : S62), (⟨t171, t172, t173⟩ : S62)⟩ : S63) x15_1).f1) ((ix_63 (⟨(⟨t162, t163, t164⟩ : S62), (⟨t165, t166, t167⟩ : S62), (⟨t168, t169, t170⟩ : S62), (⟨t171, t172, t173⟩ : S62)⟩ : S63) x15_1).f2)) else (clip_piece.j1 k1 t175 t176 x15_1 (!t176) t162 t163 t164 t165 t166 t167 t168 t169 t170 t171 t172 t173 x158000_1 x158001_1 x159000_1 x159001_1 ((ix_63 (⟨(⟨t162, t163, t164⟩ : S62), (⟨t165, t166, t167⟩ : S62), (⟨t168, t169, t170⟩ : S62), (⟨t171, t172, t173⟩ : S62)⟩ : S63) x15_1).f0) ((ix_63 (⟨(⟨t162, t163, t164⟩ : S62), (⟨t165, t166, t167⟩ : S62), (⟨t168, t169, t170⟩ : S62), (⟨t171, t172, t173⟩ : S62)⟩ : S63) x15_1).f1) ((ix_63 (⟨(⟨t162, t163, t164⟩ : S62), (⟨t165, t166, t167⟩ : S62), (⟨t168, t169, t170⟩ : S62), (⟨t171, t172, t173⟩ : S62)⟩ : S63) x15_1).f2)))) = some (r1, r2, r3, r4, r5) := H
          have A19 := Aside0.mk A190
          clear A190
          replace H := Option.bind_eq_some_iff.mp H
          obtain ⟨t176, A200, H⟩ := H
          replace H : (if t175 = true then (clip_piece.j1 k1 t175 t176 x15_1 false t162 t163 t164 t165 t166 t167 t168 t169 t170 t171 t172 t173 x158000_1 x158001_1 x159000_1 x159001_1 ((ix_63 (⟨(⟨t162, t163, t164⟩ : S62), (⟨t165, t166, t167⟩ : S62), (⟨t168, t169, t170⟩ : S62), (⟨t171, t172, t173⟩ : S62)⟩ : S63) x15_1).f0) ((ix_63 (⟨(⟨t162, t163, t164⟩ : S62), (⟨t165, t166, t167⟩ : S62), (⟨t168, t169, t170⟩ : S62), (⟨t171, t172, t173⟩ : S62)⟩ : S63) x15_1).f1) ((ix_63 (⟨(⟨t162, t163, t164⟩ : S62), (⟨t165, t166, t167⟩ : S62), (⟨t168, t169, t170⟩ : S62), (⟨t171, t172, t173⟩ : S62)⟩ : S63) x15_1).f2)) else (clip_piece.j1 k1 t175 t176 x15_1 (!t176) t162 t163 t164 t165 t166 t167 t168 t169 t170 t171 t172 t173 x158000_1 x158001_1 x159000_1 x159001_1 ((ix_63 (⟨(⟨t162, t163, t164⟩ : S62), (⟨t165, t166, t167⟩ : S62), (⟨t168, t169, t170⟩ : S62), (⟨t171, t172, t173⟩ : S62)⟩ : S63) x15_1).f0) ((ix_63 (⟨(⟨t162, t163, t164⟩ : S62), (⟨t165, t166, t167⟩ : S62), (⟨t168, t169, t170⟩ : S62), (⟨t171, t172, t173⟩ : S62)⟩ : S63) x15_1).f1) ((ix_63 (⟨(⟨t162, t163, t164⟩ : S62), (⟨t165, t166, t167⟩ : S62), (⟨t168, t169, t170⟩ : S62), (⟨t171, t172, t173⟩ : S62)⟩ : S63) x15_1).f2))) = some (r1, r2, r3, r4, r5) := H
          have A20 := Aside0.mk A200
          clear A200
          have HC21 := Aside0.mk H
          clear H
          have p18 : 0 ≤ (x15_1 : Int) := of_decide_eq_true (by first | (with_reducible assumption) | assumption)
          have q18 : (x15_1 : Int) < 4 := of_decide_eq_true (by first | (with_reducible assumption) | assumption)
          have hix18 : ∀ W_ : World, (Instr.index 63 (.agg #[.bool t162, .bool t163, .int .i64 t164, .bool t165, .bool t166, .int .i64 t167, .bool t168, .bool t169, .int .i64 t170, .bool t171, .bool t172, .int .i64 t173]) (.int .i64 x15_1)).run Try.prog W_ = .ok (.agg #[.bool ((ix_63 (⟨(⟨t162, t163, t164⟩ : S62), (⟨t165, t166, t167⟩ : S62), (⟨t168, t169, t170⟩ : S62), (⟨t171, t172, t173⟩ : S62)⟩ : S63) x15_1).f0), .bool ((ix_63 (⟨(⟨t162, t163, t164⟩ : S62), (⟨t165, t166, t167⟩ : S62), (⟨t168, t169, t170⟩ : S62), (⟨t171, t172, t173⟩ : S62)⟩ : S63) x15_1).f1), .int .i64 ((ix_63 (⟨(⟨t162, t163, t164⟩ : S62), (⟨t165, t166, t167⟩ : S62), (⟨t168, t169, t170⟩ : S62), (⟨t171, t172, t173⟩ : S62)⟩ : S63) x15_1).f2)]) W_ := index_63 (⟨(⟨t162, t163, t164⟩ : S62), (⟨t165, t166, t167⟩ : S62), (⟨t168, t169, t170⟩ : S62), (⟨t171, t172, t173⟩ : S62)⟩ : S63) x15_1 p18 q18
          replace p18 := eq_true p18
          replace q18 := eq_true q18
          try go_wp2_with (first | ((with_reducible refine gate_dst (N := 10) rfl ?_); refine box_event ?hg (N := 10) ?hd (cs := #[.bool false, .bool false, .int .i64 0]) (t := 62) ?hr ?_; (case hd => rfl); (case hg => rfl); (case hr => first | (go_simp; done) | (go_simp; rfl)); intro gb174 hg w22 hbox hb; have n0_ := Aside0.mk (blk_below (g := gb157) (o := .cells #[.int .i64 x158000_1, .int .i64 x158001_1] 25 (0, 0)) (by (with_reducible repeat (first | refine blk_drewN ?_ _ | refine blk_drew ?_ | refine blk_alloc ?_ _)); exact BK157.out) hb); have n1_ := Aside0.mk (blk_below (g := gb158) (o := .cells #[.int .i64 x159000_1, .int .i64 x159001_1] 25 (0, 0)) (by (with_reducible repeat (first | refine blk_drewN ?_ _ | refine blk_drew ?_ | refine blk_alloc ?_ _)); exact BK158.out) hb); have n2_ := Aside0.mk (blk_below (g := gb159) (o := .cells #[.int .i64 a2_0, .int .i64 a2_1, .int .i64 a2_2, .int .i64 a2_3] 40 (0, 0)) (by (with_reducible repeat (first | refine blk_drewN ?_ _ | refine blk_drew ?_ | refine blk_alloc ?_ _)); exact BK159.out) hb); have n3_ := Aside0.mk (blk_below (g := gb160) (o := .cells #[.int .i64 x161000_1, .int .i64 x161001_1] 25 (0, 0)) (by (with_reducible repeat (first | refine blk_drewN ?_ _ | refine blk_drew ?_ | refine blk_alloc ?_ _)); exact BK160.out) hb); have n4_ := Aside0.mk (blk_below (g := gb161) (o := .cells #[.int .i64 x162000_1, .int .i64 x162001_1] 25 (0, 0)) (by (with_reducible repeat (first | refine blk_drewN ?_ _ | refine blk_drew ?_ | refine blk_alloc ?_ _)); exact BK161.out) hb); have n5_ := Aside0.mk (below_step (by repeat (first | (with_reducible first | exact HB.out | apply below_alloc | apply pw_below_drewN | apply below_drew1 | refine below_set ?_ GE157.out | refine below_set ?_ GE158.out | refine below_set ?_ GE159.out | refine below_set ?_ GE160.out | refine below_set ?_ GE161.out) | exact HB.out)) hb); have n6_ := Aside0.mk (hbox); have n7_ := Aside0.mk ((by rw [hg]; exact (below_size (by repeat (first | (with_reducible first | exact HB.out | apply below_alloc | apply pw_below_drewN | apply below_drew1 | refine below_set ?_ GE157.out | refine below_set ?_ GE158.out | refine below_set ?_ GE159.out | refine below_set ?_ GE160.out | refine below_set ?_ GE161.out) | exact HB.out))) : w.heap.size ≤ gb174)); have n8_ := Aside0.mk ((by rw [hg]; exact (below_size (by repeat (first | (with_reducible first | exact HB.out | apply below_alloc | apply pw_below_drewN | apply below_drew1 | refine below_set ?_ GE157.out | refine below_set ?_ GE158.out | refine below_set ?_ GE159.out | refine below_set ?_ GE160.out | refine below_set ?_ GE161.out) | exact HB.out))) : w.heap.size ≤ gb174)); have n9_ := Aside0.mk ((by rw [hg]; exact Nat.ne_of_lt (blk_lt (g := gb157) (o := .cells #[.int .i64 x158000_1, .int .i64 x158001_1] 25 (0, 0)) (by (with_reducible repeat (first | refine blk_drewN ?_ _ | refine blk_drew ?_ | refine blk_alloc ?_ _)); exact BK157.out)) : gb157 ≠ gb174)); have n10_ := Aside0.mk ((by rw [hg]; exact Nat.ne_of_gt (blk_lt (g := gb157) (o := .cells #[.int .i64 x158000_1, .int .i64 x158001_1] 25 (0, 0)) (by (with_reducible repeat (first | refine blk_drewN ?_ _ | refine blk_drew ?_ | refine blk_alloc ?_ _)); exact BK157.out)) : gb174 ≠ gb157)); have n11_ := Aside0.mk ((by rw [hg]; exact Nat.ne_of_lt (blk_lt (g := gb158) (o := .cells #[.int .i64 x159000_1, .int .i64 x159001_1] 25 (0, 0)) (by (with_reducible repeat (first | refine blk_drewN ?_ _ | refine blk_drew ?_ | refine blk_alloc ?_ _)); exact BK158.out)) : gb158 ≠ gb174)); have n12_ := Aside0.mk ((by rw [hg]; exact Nat.ne_of_gt (blk_lt (g := gb158) (o := .cells #[.int .i64 x159000_1, .int .i64 x159001_1] 25 (0, 0)) (by (with_reducible repeat (first | refine blk_drewN ?_ _ | refine blk_drew ?_ | refine blk_alloc ?_ _)); exact BK158.out)) : gb174 ≠ gb158)); have n13_ := Aside0.mk ((by rw [hg]; exact Nat.ne_of_lt (blk_lt (g := gb159) (o := .cells #[.int .i64 a2_0, .int .i64 a2_1, .int .i64 a2_2, .int .i64 a2_3] 40 (0, 0)) (by (with_reducible repeat (first | refine blk_drewN ?_ _ | refine blk_drew ?_ | refine blk_alloc ?_ _)); exact BK159.out)) : gb159 ≠ gb174)); have n14_ := Aside0.mk ((by rw [hg]; exact Nat.ne_of_gt (blk_lt (g := gb159) (o := .cells #[.int .i64 a2_0, .int .i64 a2_1, .int .i64 a2_2, .int .i64 a2_3] 40 (0, 0)) (by (with_reducible repeat (first | refine blk_drewN ?_ _ | refine blk_drew ?_ | refine blk_alloc ?_ _)); exact BK159.out)) : gb174 ≠ gb159)); have n15_ := Aside0.mk ((by rw [hg]; exact Nat.ne_of_lt (blk_lt (g := gb160) (o := .cells #[.int .i64 x161000_1, .int .i64 x161001_1] 25 (0, 0)) (by (with_reducible repeat (first | refine blk_drewN ?_ _ | refine blk_drew ?_ | refine blk_alloc ?_ _)); exact BK160.out)) : gb160 ≠ gb174)); have n16_ := Aside0.mk ((by rw [hg]; exact Nat.ne_of_gt (blk_lt (g := gb160) (o := .cells #[.int .i64 x161000_1, .int .i64 x161001_1] 25 (0, 0)) (by (with_reducible repeat (first | refine blk_drewN ?_ _ | refine blk_drew ?_ | refine blk_alloc ?_ _)); exact BK160.out)) : gb174 ≠ gb160)); have n17_ := Aside0.mk ((by rw [hg]; exact Nat.ne_of_lt (blk_lt (g := gb161) (o := .cells #[.int .i64 x162000_1, .int .i64 x162001_1] 25 (0, 0)) (by (with_reducible repeat (first | refine blk_drewN ?_ _ | refine blk_drew ?_ | refine blk_alloc ?_ _)); exact BK161.out)) : gb161 ≠ gb174)); have n18_ := Aside0.mk ((by rw [hg]; exact Nat.ne_of_gt (blk_lt (g := gb161) (o := .cells #[.int .i64 x162000_1, .int .i64 x162001_1] 25 (0, 0)) (by (with_reducible repeat (first | refine blk_drewN ?_ _ | refine blk_drew ?_ | refine blk_alloc ?_ _)); exact BK161.out)) : gb174 ≠ gb161)); clear BK157; clear BK158; clear BK159; clear BK160; clear BK161; clear HB; have BK157 := n0_; have BK158 := n1_; have BK159 := n2_; have BK160 := n3_; have BK161 := n4_; have HB := n5_; have BK174 := n6_; have GW174 := n7_; have GE174 := n8_; have NB157_174 := n9_; have NB174_157 := n10_; have NB158_174 := n11_; have NB174_158 := n12_; have NB159_174 := n13_; have NB174_159 := n14_; have NB160_174 := n15_; have NB174_160 := n16_; have NB161_174 := n17_; have NB174_161 := n18_; clear n0_ n1_ n2_ n3_ n4_ n5_ n6_ n7_ n8_ n9_ n10_ n11_ n12_ n13_ n14_ n15_ n16_ n17_ n18_; clear hb hbox hg; have hnb23 := NB174_157.out; have hnc23 := NB157_174.out; have hnb24 := NB174_158.out; have hnc24 := NB158_174.out; have hnb25 := NB174_159.out; have hnc25 := NB159_174.out; have hnb26 := NB174_160.out; have hnc26 := NB160_174.out; have hnb27 := NB174_161.out; have hnc27 := NB161_174.out; have hcz28_0 : w22.cell? ⟨gb174, 0, none⟩ = some (.bool false) := (blk_cell BK174.out 0).trans rfl; have hcz28_1 : w22.cell? ⟨gb174, 1, none⟩ = some (.bool false) := (blk_cell BK174.out 1).trans rfl; have hcz28_2 : w22.cell? ⟨gb174, 2, none⟩ = some (.int .i64 0) := (blk_cell BK174.out 2).trans rfl; have hfz28_0 := blk_frozen BK174.out 0; have hfz28_1 := blk_frozen BK174.out 1; have hfz28_2 := blk_frozen BK174.out 2))
          have n0_ : Aside0 ((((w22.setCell ⟨gb174, 0, none⟩ (.bool ((ix_63 (⟨(⟨t162, t163, t164⟩ : S62), (⟨t165, t166, t167⟩ : S62), (⟨t168, t169, t170⟩ : S62), (⟨t171, t172, t173⟩ : S62)⟩ : S63) x15_1).f0))).setCell ⟨gb174, 1, none⟩ (.bool ((ix_63 (⟨(⟨t162, t163, t164⟩ : S62), (⟨t165, t166, t167⟩ : S62), (⟨t168, t169, t170⟩ : S62), (⟨t171, t172, t173⟩ : S62)⟩ : S63) x15_1).f1))).setCell ⟨gb174, 2, none⟩ (.int .i64 ((ix_63 (⟨(⟨t162, t163, t164⟩ : S62), (⟨t165, t166, t167⟩ : S62), (⟨t168, t169, t170⟩ : S62), (⟨t171, t172, t173⟩ : S62)⟩ : S63) x15_1).f2))).heap[gb157]? = some (.cells #[.int .i64 x158000_1, .int .i64 x158001_1] 25 (0, 0))) := ⟨by (with_reducible repeat (first | refine blk_drewN ?_ _ | refine blk_drew ?_ | refine blk_alloc ?_ _)); refine blk_far ?_ NB157_174.out _; (with_reducible repeat (first | refine blk_drewN ?_ _ | refine blk_drew ?_ | refine blk_alloc ?_ _)); refine blk_far ?_ NB157_174.out _; (with_reducible repeat (first | refine blk_drewN ?_ _ | refine blk_drew ?_ | refine blk_alloc ?_ _)); refine blk_far ?_ NB157_174.out _; (with_reducible repeat (first | refine blk_drewN ?_ _ | refine blk_drew ?_ | refine blk_alloc ?_ _)); exact BK157.out⟩
          have n1_ : Aside0 ((((w22.setCell ⟨gb174, 0, none⟩ (.bool ((ix_63 (⟨(⟨t162, t163, t164⟩ : S62), (⟨t165, t166, t167⟩ : S62), (⟨t168, t169, t170⟩ : S62), (⟨t171, t172, t173⟩ : S62)⟩ : S63) x15_1).f0))).setCell ⟨gb174, 1, none⟩ (.bool ((ix_63 (⟨(⟨t162, t163, t164⟩ : S62), (⟨t165, t166, t167⟩ : S62), (⟨t168, t169, t170⟩ : S62), (⟨t171, t172, t173⟩ : S62)⟩ : S63) x15_1).f1))).setCell ⟨gb174, 2, none⟩ (.int .i64 ((ix_63 (⟨(⟨t162, t163, t164⟩ : S62), (⟨t165, t166, t167⟩ : S62), (⟨t168, t169, t170⟩ : S62), (⟨t171, t172, t173⟩ : S62)⟩ : S63) x15_1).f2))).heap[gb158]? = some (.cells #[.int .i64 x159000_1, .int .i64 x159001_1] 25 (0, 0))) := ⟨by (with_reducible repeat (first | refine blk_drewN ?_ _ | refine blk_drew ?_ | refine blk_alloc ?_ _)); refine blk_far ?_ NB158_174.out _; (with_reducible repeat (first | refine blk_drewN ?_ _ | refine blk_drew ?_ | refine blk_alloc ?_ _)); refine blk_far ?_ NB158_174.out _; (with_reducible repeat (first | refine blk_drewN ?_ _ | refine blk_drew ?_ | refine blk_alloc ?_ _)); refine blk_far ?_ NB158_174.out _; (with_reducible repeat (first | refine blk_drewN ?_ _ | refine blk_drew ?_ | refine blk_alloc ?_ _)); exact BK158.out⟩
          have n2_ : Aside0 ((((w22.setCell ⟨gb174, 0, none⟩ (.bool ((ix_63 (⟨(⟨t162, t163, t164⟩ : S62), (⟨t165, t166, t167⟩ : S62), (⟨t168, t169, t170⟩ : S62), (⟨t171, t172, t173⟩ : S62)⟩ : S63) x15_1).f0))).setCell ⟨gb174, 1, none⟩ (.bool ((ix_63 (⟨(⟨t162, t163, t164⟩ : S62), (⟨t165, t166, t167⟩ : S62), (⟨t168, t169, t170⟩ : S62), (⟨t171, t172, t173⟩ : S62)⟩ : S63) x15_1).f1))).setCell ⟨gb174, 2, none⟩ (.int .i64 ((ix_63 (⟨(⟨t162, t163, t164⟩ : S62), (⟨t165, t166, t167⟩ : S62), (⟨t168, t169, t170⟩ : S62), (⟨t171, t172, t173⟩ : S62)⟩ : S63) x15_1).f2))).heap[gb159]? = some (.cells #[.int .i64 a2_0, .int .i64 a2_1, .int .i64 a2_2, .int .i64 a2_3] 40 (0, 0))) := ⟨by (with_reducible repeat (first | refine blk_drewN ?_ _ | refine blk_drew ?_ | refine blk_alloc ?_ _)); refine blk_far ?_ NB159_174.out _; (with_reducible repeat (first | refine blk_drewN ?_ _ | refine blk_drew ?_ | refine blk_alloc ?_ _)); refine blk_far ?_ NB159_174.out _; (with_reducible repeat (first | refine blk_drewN ?_ _ | refine blk_drew ?_ | refine blk_alloc ?_ _)); refine blk_far ?_ NB159_174.out _; (with_reducible repeat (first | refine blk_drewN ?_ _ | refine blk_drew ?_ | refine blk_alloc ?_ _)); exact BK159.out⟩
          have n3_ : Aside0 ((((w22.setCell ⟨gb174, 0, none⟩ (.bool ((ix_63 (⟨(⟨t162, t163, t164⟩ : S62), (⟨t165, t166, t167⟩ : S62), (⟨t168, t169, t170⟩ : S62), (⟨t171, t172, t173⟩ : S62)⟩ : S63) x15_1).f0))).setCell ⟨gb174, 1, none⟩ (.bool ((ix_63 (⟨(⟨t162, t163, t164⟩ : S62), (⟨t165, t166, t167⟩ : S62), (⟨t168, t169, t170⟩ : S62), (⟨t171, t172, t173⟩ : S62)⟩ : S63) x15_1).f1))).setCell ⟨gb174, 2, none⟩ (.int .i64 ((ix_63 (⟨(⟨t162, t163, t164⟩ : S62), (⟨t165, t166, t167⟩ : S62), (⟨t168, t169, t170⟩ : S62), (⟨t171, t172, t173⟩ : S62)⟩ : S63) x15_1).f2))).heap[gb160]? = some (.cells #[.int .i64 x161000_1, .int .i64 x161001_1] 25 (0, 0))) := ⟨by (with_reducible repeat (first | refine blk_drewN ?_ _ | refine blk_drew ?_ | refine blk_alloc ?_ _)); refine blk_far ?_ NB160_174.out _; (with_reducible repeat (first | refine blk_drewN ?_ _ | refine blk_drew ?_ | refine blk_alloc ?_ _)); refine blk_far ?_ NB160_174.out _; (with_reducible repeat (first | refine blk_drewN ?_ _ | refine blk_drew ?_ | refine blk_alloc ?_ _)); refine blk_far ?_ NB160_174.out _; (with_reducible repeat (first | refine blk_drewN ?_ _ | refine blk_drew ?_ | refine blk_alloc ?_ _)); exact BK160.out⟩
          have n4_ : Aside0 ((((w22.setCell ⟨gb174, 0, none⟩ (.bool ((ix_63 (⟨(⟨t162, t163, t164⟩ : S62), (⟨t165, t166, t167⟩ : S62), (⟨t168, t169, t170⟩ : S62), (⟨t171, t172, t173⟩ : S62)⟩ : S63) x15_1).f0))).setCell ⟨gb174, 1, none⟩ (.bool ((ix_63 (⟨(⟨t162, t163, t164⟩ : S62), (⟨t165, t166, t167⟩ : S62), (⟨t168, t169, t170⟩ : S62), (⟨t171, t172, t173⟩ : S62)⟩ : S63) x15_1).f1))).setCell ⟨gb174, 2, none⟩ (.int .i64 ((ix_63 (⟨(⟨t162, t163, t164⟩ : S62), (⟨t165, t166, t167⟩ : S62), (⟨t168, t169, t170⟩ : S62), (⟨t171, t172, t173⟩ : S62)⟩ : S63) x15_1).f2))).heap[gb161]? = some (.cells #[.int .i64 x162000_1, .int .i64 x162001_1] 25 (0, 0))) := ⟨by (with_reducible repeat (first | refine blk_drewN ?_ _ | refine blk_drew ?_ | refine blk_alloc ?_ _)); refine blk_far ?_ NB161_174.out _; (with_reducible repeat (first | refine blk_drewN ?_ _ | refine blk_drew ?_ | refine blk_alloc ?_ _)); refine blk_far ?_ NB161_174.out _; (with_reducible repeat (first | refine blk_drewN ?_ _ | refine blk_drew ?_ | refine blk_alloc ?_ _)); refine blk_far ?_ NB161_174.out _; (with_reducible repeat (first | refine blk_drewN ?_ _ | refine blk_drew ?_ | refine blk_alloc ?_ _)); exact BK161.out⟩
          have n5_ : Aside0 ((((w22.setCell ⟨gb174, 0, none⟩ (.bool ((ix_63 (⟨(⟨t162, t163, t164⟩ : S62), (⟨t165, t166, t167⟩ : S62), (⟨t168, t169, t170⟩ : S62), (⟨t171, t172, t173⟩ : S62)⟩ : S63) x15_1).f0))).setCell ⟨gb174, 1, none⟩ (.bool ((ix_63 (⟨(⟨t162, t163, t164⟩ : S62), (⟨t165, t166, t167⟩ : S62), (⟨t168, t169, t170⟩ : S62), (⟨t171, t172, t173⟩ : S62)⟩ : S63) x15_1).f1))).setCell ⟨gb174, 2, none⟩ (.int .i64 ((ix_63 (⟨(⟨t162, t163, t164⟩ : S62), (⟨t165, t166, t167⟩ : S62), (⟨t168, t169, t170⟩ : S62), (⟨t171, t172, t173⟩ : S62)⟩ : S63) x15_1).f2))).heap[gb174]? = some (.cells #[.bool ((ix_63 (⟨(⟨t162, t163, t164⟩ : S62), (⟨t165, t166, t167⟩ : S62), (⟨t168, t169, t170⟩ : S62), (⟨t171, t172, t173⟩ : S62)⟩ : S63) x15_1).f0), .bool ((ix_63 (⟨(⟨t162, t163, t164⟩ : S62), (⟨t165, t166, t167⟩ : S62), (⟨t168, t169, t170⟩ : S62), (⟨t171, t172, t173⟩ : S62)⟩ : S63) x15_1).f1), .int .i64 ((ix_63 (⟨(⟨t162, t163, t164⟩ : S62), (⟨t165, t166, t167⟩ : S62), (⟨t168, t169, t170⟩ : S62), (⟨t171, t172, t173⟩ : S62)⟩ : S63) x15_1).f2)] 62 (0, 0))) := ⟨by (with_reducible repeat (first | refine blk_drewN ?_ _ | refine blk_drew ?_ | refine blk_alloc ?_ _)); refine blk_put (cs := #[.bool ((ix_63 (⟨(⟨t162, t163, t164⟩ : S62), (⟨t165, t166, t167⟩ : S62), (⟨t168, t169, t170⟩ : S62), (⟨t171, t172, t173⟩ : S62)⟩ : S63) x15_1).f0), .bool ((ix_63 (⟨(⟨t162, t163, t164⟩ : S62), (⟨t165, t166, t167⟩ : S62), (⟨t168, t169, t170⟩ : S62), (⟨t171, t172, t173⟩ : S62)⟩ : S63) x15_1).f1), .int .i64 0]) ?_ 2 _ rfl; (with_reducible repeat (first | refine blk_drewN ?_ _ | refine blk_drew ?_ | refine blk_alloc ?_ _)); refine blk_put (cs := #[.bool ((ix_63 (⟨(⟨t162, t163, t164⟩ : S62), (⟨t165, t166, t167⟩ : S62), (⟨t168, t169, t170⟩ : S62), (⟨t171, t172, t173⟩ : S62)⟩ : S63) x15_1).f0), .bool false, .int .i64 0]) ?_ 1 _ rfl; (with_reducible repeat (first | refine blk_drewN ?_ _ | refine blk_drew ?_ | refine blk_alloc ?_ _)); refine blk_put (cs := #[.bool false, .bool false, .int .i64 0]) ?_ 0 _ rfl; (with_reducible repeat (first | refine blk_drewN ?_ _ | refine blk_drew ?_ | refine blk_alloc ?_ _)); exact BK174.out⟩
          have n6_ : Aside0 (Below w.heap.size w (((w22.setCell ⟨gb174, 0, none⟩ (.bool ((ix_63 (⟨(⟨t162, t163, t164⟩ : S62), (⟨t165, t166, t167⟩ : S62), (⟨t168, t169, t170⟩ : S62), (⟨t171, t172, t173⟩ : S62)⟩ : S63) x15_1).f0))).setCell ⟨gb174, 1, none⟩ (.bool ((ix_63 (⟨(⟨t162, t163, t164⟩ : S62), (⟨t165, t166, t167⟩ : S62), (⟨t168, t169, t170⟩ : S62), (⟨t171, t172, t173⟩ : S62)⟩ : S63) x15_1).f1))).setCell ⟨gb174, 2, none⟩ (.int .i64 ((ix_63 (⟨(⟨t162, t163, t164⟩ : S62), (⟨t165, t166, t167⟩ : S62), (⟨t168, t169, t170⟩ : S62), (⟨t171, t172, t173⟩ : S62)⟩ : S63) x15_1).f2)))) := ⟨by repeat (first | (with_reducible first | exact HB.out | apply below_alloc | apply pw_below_drewN | apply below_drew1 | refine below_set ?_ GE157.out | refine below_set ?_ GE158.out | refine below_set ?_ GE159.out | refine below_set ?_ GE160.out | refine below_set ?_ GE161.out | refine below_set ?_ GE174.out) | exact HB.out)⟩
          (try clear BK157)
          (try clear BK158)
          (try clear BK159)
          (try clear BK160)
          (try clear BK161)
          (try clear BK174)
          (try clear HB)
          generalize (((w22.setCell ⟨gb174, 0, none⟩ (.bool ((ix_63 (⟨(⟨t162, t163, t164⟩ : S62), (⟨t165, t166, t167⟩ : S62), (⟨t168, t169, t170⟩ : S62), (⟨t171, t172, t173⟩ : S62)⟩ : S63) x15_1).f0))).setCell ⟨gb174, 1, none⟩ (.bool ((ix_63 (⟨(⟨t162, t163, t164⟩ : S62), (⟨t165, t166, t167⟩ : S62), (⟨t168, t169, t170⟩ : S62), (⟨t171, t172, t173⟩ : S62)⟩ : S63) x15_1).f1))).setCell ⟨gb174, 2, none⟩ (.int .i64 ((ix_63 (⟨(⟨t162, t163, t164⟩ : S62), (⟨t165, t166, t167⟩ : S62), (⟨t168, t169, t170⟩ : S62), (⟨t171, t172, t173⟩ : S62)⟩ : S63) x15_1).f2))) = w29 at n0_ n1_ n2_ n3_ n4_ n5_ n6_ ⊢
          have BK157 := n0_
          have BK158 := n1_
          have BK159 := n2_
          have BK160 := n3_
          have BK161 := n4_
          have BK174 := n5_
          have HB := n6_
          clear n0_ n1_ n2_ n3_ n4_ n5_ n6_
          have n0_ := Aside0.mk (blk_drew BK157.out)
          have n1_ := Aside0.mk (blk_drew BK158.out)
          have n2_ := Aside0.mk (blk_drew BK159.out)
          have n3_ := Aside0.mk (blk_drew BK160.out)
          have n4_ := Aside0.mk (blk_drew BK161.out)
          have n5_ := Aside0.mk (blk_drew BK174.out)
          have n6_ := Aside0.mk (below_drew1 HB.out)
          clear BK157
          clear BK158
          clear BK159
          clear BK160
          clear BK161
          clear BK174
          clear HB
          have BK157 := n0_
          have BK158 := n1_
          have BK159 := n2_
          have BK160 := n3_
          have BK161 := n4_
          have BK174 := n5_
          have HB := n6_
          clear n0_ n1_ n2_ n3_ n4_ n5_ n6_
          refine start_ (n := 8) (S := fun w' => w'.cell? ⟨gb174, 0, none⟩ = some (.bool ((ix_63 (⟨(⟨t162, t163, t164⟩ : S62), (⟨t165, t166, t167⟩ : S62), (⟨t168, t169, t170⟩ : S62), (⟨t171, t172, t173⟩ : S62)⟩ : S63) x15_1).f0)) ∧ w'.cell? ⟨gb174, 1, none⟩ = some (.bool ((ix_63 (⟨(⟨t162, t163, t164⟩ : S62), (⟨t165, t166, t167⟩ : S62), (⟨t168, t169, t170⟩ : S62), (⟨t171, t172, t173⟩ : S62)⟩ : S63) x15_1).f1)) ∧ w'.cell? ⟨gb174, 2, none⟩ = some (.int .i64 ((ix_63 (⟨(⟨t162, t163, t164⟩ : S62), (⟨t165, t166, t167⟩ : S62), (⟨t168, t169, t170⟩ : S62), (⟨t171, t172, t173⟩ : S62)⟩ : S63) x15_1).f2)) ∧ w'.cell? ⟨gb157, 0, none⟩ = some (.int .i64 x158000_1) ∧ w'.cell? ⟨gb157, 1, none⟩ = some (.int .i64 x158001_1) ∧ w'.cell? ⟨gb158, 0, none⟩ = some (.int .i64 x159000_1) ∧ w'.cell? ⟨gb158, 1, none⟩ = some (.int .i64 x159001_1)) (ds := []) #[false, false, false, false, false, false, false, false] (by kernel_rfl) rfl rfl ⟨(blk_cell BK174.out 0).trans rfl, (blk_cell BK174.out 1).trans rfl, (blk_cell BK174.out 2).trans rfl, (blk_cell BK157.out 0).trans rfl, (blk_cell BK157.out 1).trans rfl, (blk_cell BK158.out 0).trans rfl, (blk_cell BK158.out 1).trans rfl⟩ (fun hHeld => ?_); refine with_tabW clip_piece.tab4 clip_piece.bits4 (fun HT_ HW_ => ?_)
          generalize w29.drew = w30 at BK157 BK158 BK159 BK160 BK161 BK174 HB hHeld ⊢
          refine take_ (i := 0) (N := some 18) (v := ?_) (a' := ?_) #[true, false, false, false, false, false, false, false] rfl rfl (take_ofW HT_.out HW_.out (by kernel_rfl)) (fun _ _ _ h => h) (Or.inl ⟨by rfl, ?_⟩) hHeld ?_ ?_
          rotate_left
          · rintro w' ⟨s0, s1, s2, s3, s4, s5, s6⟩
            go_simp
            with_reducible rfl
          rotate_left
          · simp only [Act.put, List.setIfInBounds_toArray, List.set_cons_zero, List.set_cons_succ, i64_w, i32_w]
            rfl
          refine take_ (i := 1) (N := some 19) (v := ?_) (a' := ?_) #[true, true, false, false, false, false, false, false] rfl rfl (take_ofW HT_.out HW_.out (by kernel_rfl)) (fun _ _ _ h => h) (Or.inl ⟨by rfl, ?_⟩) hHeld ?_ ?_
          rotate_left
          · rintro w' ⟨s0, s1, s2, s3, s4, s5, s6⟩
            go_simp
            with_reducible rfl
          rotate_left
          · simp only [Act.put, List.setIfInBounds_toArray, List.set_cons_zero, List.set_cons_succ, i64_w, i32_w]
            rfl
          refine take_ (i := 3) (N := some 21) (v := ?_) (a' := ?_) #[true, true, false, true, false, false, false, false] rfl rfl (take_ofW HT_.out HW_.out (by kernel_rfl)) (fun _ _ _ h => h) (Or.inl ⟨by rfl, ?_⟩) hHeld ?_ ?_
          rotate_left
          · rintro w' ⟨s0, s1, s2, s3, s4, s5, s6⟩
            go_simp
            with_reducible rfl
          rotate_left
          · simp only [Act.put, List.setIfInBounds_toArray, List.set_cons_zero, List.set_cons_succ, i64_w, i32_w]
            rfl
          refine take_ (i := 4) (N := some 22) (v := ?_) (a' := ?_) #[true, true, false, true, true, false, false, false] rfl rfl (take_ofW HT_.out HW_.out (by kernel_rfl)) (fun _ _ _ h => h) (Or.inl ⟨by rfl, ?_⟩) hHeld ?_ ?_
          rotate_left
          · rintro w' ⟨s0, s1, s2, s3, s4, s5, s6⟩
            go_simp
            with_reducible rfl
          rotate_left
          · simp only [Act.put, List.setIfInBounds_toArray, List.set_cons_zero, List.set_cons_succ, i64_w, i32_w]
            rfl
          refine one_ (i := 2) (N := some 20) #[true, true, true, true, true, false, false, false] rfl rfl (one_of HT_.out (by kernel_rfl)) (by decide) (fun K hK => ?_)
          refine goes_ Try.func51 (by kernel_rfl) rfl #[.agg #[.bool ((ix_63 (⟨(⟨t162, t163, t164⟩ : S62), (⟨t165, t166, t167⟩ : S62), (⟨t168, t169, t170⟩ : S62), (⟨t171, t172, t173⟩ : S62)⟩ : S63) x15_1).f0), .bool ((ix_63 (⟨(⟨t162, t163, t164⟩ : S62), (⟨t165, t166, t167⟩ : S62), (⟨t168, t169, t170⟩ : S62), (⟨t171, t172, t173⟩ : S62)⟩ : S63) x15_1).f1), .int .i64 ((ix_63 (⟨(⟨t162, t163, t164⟩ : S62), (⟨t165, t166, t167⟩ : S62), (⟨t168, t169, t170⟩ : S62), (⟨t171, t172, t173⟩ : S62)⟩ : S63) x15_1).f2)], .agg #[.int .i64 x158000_1, .int .i64 x158001_1]] (by rfl) rfl rfl (by (try simp only [List.map_toArray, List.map_cons, List.map_nil]); first | done | rfl | (simp only [List.length_drop, List.length_take]; rfl)) ?_
          with_reducible refine (clip_half_has.calls ((ix_63 (⟨(⟨t162, t163, t164⟩ : S62), (⟨t165, t166, t167⟩ : S62), (⟨t168, t169, t170⟩ : S62), (⟨t171, t172, t173⟩ : S62)⟩ : S63) x15_1).f0) ((ix_63 (⟨(⟨t162, t163, t164⟩ : S62), (⟨t165, t166, t167⟩ : S62), (⟨t168, t169, t170⟩ : S62), (⟨t171, t172, t173⟩ : S62)⟩ : S63) x15_1).f1) ((ix_63 (⟨(⟨t162, t163, t164⟩ : S62), (⟨t165, t166, t167⟩ : S62), (⟨t168, t169, t170⟩ : S62), (⟨t171, t172, t173⟩ : S62)⟩ : S63) x15_1).f2) x158000_1 x158001_1 t175 _ A19.out).mono ?_
          rintro e w31 ⟨rfl, hb⟩
          refine ⟨_, rfl, ?_⟩
          have n0_ := Aside0.mk (blk_below (g := gb157) (o := .cells #[.int .i64 x158000_1, .int .i64 x158001_1] 25 (0, 0)) (by (with_reducible repeat (first | refine blk_drewN ?_ _ | refine blk_drew ?_ | refine blk_alloc ?_ _)); exact BK157.out) hb)
          have n1_ := Aside0.mk (blk_below (g := gb158) (o := .cells #[.int .i64 x159000_1, .int .i64 x159001_1] 25 (0, 0)) (by (with_reducible repeat (first | refine blk_drewN ?_ _ | refine blk_drew ?_ | refine blk_alloc ?_ _)); exact BK158.out) hb)
          have n2_ := Aside0.mk (blk_below (g := gb159) (o := .cells #[.int .i64 a2_0, .int .i64 a2_1, .int .i64 a2_2, .int .i64 a2_3] 40 (0, 0)) (by (with_reducible repeat (first | refine blk_drewN ?_ _ | refine blk_drew ?_ | refine blk_alloc ?_ _)); exact BK159.out) hb)
          have n3_ := Aside0.mk (blk_below (g := gb160) (o := .cells #[.int .i64 x161000_1, .int .i64 x161001_1] 25 (0, 0)) (by (with_reducible repeat (first | refine blk_drewN ?_ _ | refine blk_drew ?_ | refine blk_alloc ?_ _)); exact BK160.out) hb)
          have n4_ := Aside0.mk (blk_below (g := gb161) (o := .cells #[.int .i64 x162000_1, .int .i64 x162001_1] 25 (0, 0)) (by (with_reducible repeat (first | refine blk_drewN ?_ _ | refine blk_drew ?_ | refine blk_alloc ?_ _)); exact BK161.out) hb)
          have n5_ := Aside0.mk (blk_below (g := gb174) (o := .cells #[.bool ((ix_63 (⟨(⟨t162, t163, t164⟩ : S62), (⟨t165, t166, t167⟩ : S62), (⟨t168, t169, t170⟩ : S62), (⟨t171, t172, t173⟩ : S62)⟩ : S63) x15_1).f0), .bool ((ix_63 (⟨(⟨t162, t163, t164⟩ : S62), (⟨t165, t166, t167⟩ : S62), (⟨t168, t169, t170⟩ : S62), (⟨t171, t172, t173⟩ : S62)⟩ : S63) x15_1).f1), .int .i64 ((ix_63 (⟨(⟨t162, t163, t164⟩ : S62), (⟨t165, t166, t167⟩ : S62), (⟨t168, t169, t170⟩ : S62), (⟨t171, t172, t173⟩ : S62)⟩ : S63) x15_1).f2)] 62 (0, 0)) (by (with_reducible repeat (first | refine blk_drewN ?_ _ | refine blk_drew ?_ | refine blk_alloc ?_ _)); exact BK174.out) hb)
          have n6_ := Aside0.mk (below_step (by repeat (first | (with_reducible first | exact HB.out | apply below_alloc | apply pw_below_drewN | apply below_drew1 | refine below_set ?_ GE157.out | refine below_set ?_ GE158.out | refine below_set ?_ GE159.out | refine below_set ?_ GE160.out | refine below_set ?_ GE161.out | refine below_set ?_ GE174.out) | exact HB.out)) hb)
          clear BK157
          clear BK158
          clear BK159
          clear BK160
          clear BK161
          clear BK174
          clear HB
          have BK157 := n0_
          have BK158 := n1_
          have BK159 := n2_
          have BK160 := n3_
          have BK161 := n4_
          have BK174 := n5_
          have HB := n6_
          clear n0_ n1_ n2_ n3_ n4_ n5_ n6_
          (try clear hb)
          (try clear hb2)
          (try clear hk)
          (try clear hi)
          refine hK.out _ _ ⟨(blk_cell BK174.out 0).trans rfl, (blk_cell BK174.out 1).trans rfl, (blk_cell BK174.out 2).trans rfl, (blk_cell BK157.out 0).trans rfl, (blk_cell BK157.out 1).trans rfl, (blk_cell BK158.out 0).trans rfl, (blk_cell BK158.out 1).trans rfl⟩ (fun hHeld => ?_)
          clear hK K
          refine norm_ (a' := ?_) ?_ ?_
          rotate_left
          · show Act.put _ (some 20) _ = _
            simp only [Act.put, List.setIfInBounds_toArray, List.set_cons_zero, List.set_cons_succ, i64_w, i32_w]
            rfl
          refine one_ (i := 5) (N := some 23) #[true, true, true, true, true, true, false, false] rfl rfl (one_of HT_.out (by kernel_rfl)) (by decide) (fun K hK => ?_)
          refine goes_ Try.func51 (by kernel_rfl) rfl #[.agg #[.bool ((ix_63 (⟨(⟨t162, t163, t164⟩ : S62), (⟨t165, t166, t167⟩ : S62), (⟨t168, t169, t170⟩ : S62), (⟨t171, t172, t173⟩ : S62)⟩ : S63) x15_1).f0), .bool ((ix_63 (⟨(⟨t162, t163, t164⟩ : S62), (⟨t165, t166, t167⟩ : S62), (⟨t168, t169, t170⟩ : S62), (⟨t171, t172, t173⟩ : S62)⟩ : S63) x15_1).f1), .int .i64 ((ix_63 (⟨(⟨t162, t163, t164⟩ : S62), (⟨t165, t166, t167⟩ : S62), (⟨t168, t169, t170⟩ : S62), (⟨t171, t172, t173⟩ : S62)⟩ : S63) x15_1).f2)], .agg #[.int .i64 x159000_1, .int .i64 x159001_1]] (by rfl) rfl rfl (by (try simp only [List.map_toArray, List.map_cons, List.map_nil]); first | done | rfl | (simp only [List.length_drop, List.length_take]; rfl)) ?_
          with_reducible refine (clip_half_has.calls ((ix_63 (⟨(⟨t162, t163, t164⟩ : S62), (⟨t165, t166, t167⟩ : S62), (⟨t168, t169, t170⟩ : S62), (⟨t171, t172, t173⟩ : S62)⟩ : S63) x15_1).f0) ((ix_63 (⟨(⟨t162, t163, t164⟩ : S62), (⟨t165, t166, t167⟩ : S62), (⟨t168, t169, t170⟩ : S62), (⟨t171, t172, t173⟩ : S62)⟩ : S63) x15_1).f1) ((ix_63 (⟨(⟨t162, t163, t164⟩ : S62), (⟨t165, t166, t167⟩ : S62), (⟨t168, t169, t170⟩ : S62), (⟨t171, t172, t173⟩ : S62)⟩ : S63) x15_1).f2) x159000_1 x159001_1 t176 _ A20.out).mono ?_
          rintro e w32 ⟨rfl, hb⟩
          refine ⟨_, rfl, ?_⟩
          have n0_ := Aside0.mk (blk_below (g := gb157) (o := .cells #[.int .i64 x158000_1, .int .i64 x158001_1] 25 (0, 0)) (by (with_reducible repeat (first | refine blk_drewN ?_ _ | refine blk_drew ?_ | refine blk_alloc ?_ _)); exact BK157.out) hb)
          have n1_ := Aside0.mk (blk_below (g := gb158) (o := .cells #[.int .i64 x159000_1, .int .i64 x159001_1] 25 (0, 0)) (by (with_reducible repeat (first | refine blk_drewN ?_ _ | refine blk_drew ?_ | refine blk_alloc ?_ _)); exact BK158.out) hb)
          have n2_ := Aside0.mk (blk_below (g := gb159) (o := .cells #[.int .i64 a2_0, .int .i64 a2_1, .int .i64 a2_2, .int .i64 a2_3] 40 (0, 0)) (by (with_reducible repeat (first | refine blk_drewN ?_ _ | refine blk_drew ?_ | refine blk_alloc ?_ _)); exact BK159.out) hb)
          have n3_ := Aside0.mk (blk_below (g := gb160) (o := .cells #[.int .i64 x161000_1, .int .i64 x161001_1] 25 (0, 0)) (by (with_reducible repeat (first | refine blk_drewN ?_ _ | refine blk_drew ?_ | refine blk_alloc ?_ _)); exact BK160.out) hb)
          have n4_ := Aside0.mk (blk_below (g := gb161) (o := .cells #[.int .i64 x162000_1, .int .i64 x162001_1] 25 (0, 0)) (by (with_reducible repeat (first | refine blk_drewN ?_ _ | refine blk_drew ?_ | refine blk_alloc ?_ _)); exact BK161.out) hb)
          have n5_ := Aside0.mk (blk_below (g := gb174) (o := .cells #[.bool ((ix_63 (⟨(⟨t162, t163, t164⟩ : S62), (⟨t165, t166, t167⟩ : S62), (⟨t168, t169, t170⟩ : S62), (⟨t171, t172, t173⟩ : S62)⟩ : S63) x15_1).f0), .bool ((ix_63 (⟨(⟨t162, t163, t164⟩ : S62), (⟨t165, t166, t167⟩ : S62), (⟨t168, t169, t170⟩ : S62), (⟨t171, t172, t173⟩ : S62)⟩ : S63) x15_1).f1), .int .i64 ((ix_63 (⟨(⟨t162, t163, t164⟩ : S62), (⟨t165, t166, t167⟩ : S62), (⟨t168, t169, t170⟩ : S62), (⟨t171, t172, t173⟩ : S62)⟩ : S63) x15_1).f2)] 62 (0, 0)) (by (with_reducible repeat (first | refine blk_drewN ?_ _ | refine blk_drew ?_ | refine blk_alloc ?_ _)); exact BK174.out) hb)
          have n6_ := Aside0.mk (below_step (by repeat (first | (with_reducible first | exact HB.out | apply below_alloc | apply pw_below_drewN | apply below_drew1 | refine below_set ?_ GE157.out | refine below_set ?_ GE158.out | refine below_set ?_ GE159.out | refine below_set ?_ GE160.out | refine below_set ?_ GE161.out | refine below_set ?_ GE174.out) | exact HB.out)) hb)
          clear BK157
          clear BK158
          clear BK159
          clear BK160
          clear BK161
          clear BK174
          clear HB
          have BK157 := n0_
          have BK158 := n1_
          have BK159 := n2_
          have BK160 := n3_
          have BK161 := n4_
          have BK174 := n5_
          have HB := n6_
          clear n0_ n1_ n2_ n3_ n4_ n5_ n6_
          (try clear hb)
          (try clear hb2)
          (try clear hk)
          (try clear hi)
          refine hK.out _ _ ⟨(blk_cell BK174.out 0).trans rfl, (blk_cell BK174.out 1).trans rfl, (blk_cell BK174.out 2).trans rfl, (blk_cell BK157.out 0).trans rfl, (blk_cell BK157.out 1).trans rfl, (blk_cell BK158.out 0).trans rfl, (blk_cell BK158.out 1).trans rfl⟩ (fun hHeld => ?_)
          clear hK K
          refine norm_ (a' := ?_) ?_ ?_
          rotate_left
          · show Act.put _ (some 23) _ = _
            simp only [Act.put, List.setIfInBounds_toArray, List.set_cons_zero, List.set_cons_succ, i64_w, i32_w]
            rfl
          refine pure_ (i := 6) (N := some 11) (v := ?_) (a' := ?_) #[true, true, true, true, true, true, true, false] rfl rfl (any_of HT_.out (by kernel_rfl)) (fun _ _ _ h => h) (Or.inl ⟨by rfl, ?_⟩) ?_ ?_
          rotate_left
          · intro w'
            go_simp
            with_reducible rfl
          rotate_left
          · simp only [Act.put, List.setIfInBounds_toArray, List.set_cons_zero, List.set_cons_succ, i64_w, i32_w]
            rfl
          refine pure_ (i := 7) (N := some 12) (v := ?_) (a' := ?_) #[true, true, true, true, true, true, true, true] rfl rfl (any_of HT_.out (by kernel_rfl)) (fun _ _ _ h => h) (Or.inl ⟨by rfl, ?_⟩) ?_ ?_
          rotate_left
          · intro w'
            go_simp
            with_reducible rfl
          rotate_left
          · simp only [Act.put, List.setIfInBounds_toArray, List.set_cons_zero, List.set_cons_succ, i64_w, i32_w]
            rfl
          refine done_ (done_of HT_.out (by kernel_rfl)) ?_
          go_upto_region 5 with (fail)
          go_cut [24] (fun v24 wc => ∃ (kq : Nat) (x24_20 : Bool), v24 = .bool x24_20 ∧ Aside0 (clip_piece.j1 kq t175 t176 x15_1 x24_20 t162 t163 t164 t165 t166 t167 t168 t169 t170 t171 t172 t173 x158000_1 x158001_1 x159000_1 x159001_1 ((ix_63 (⟨(⟨t162, t163, t164⟩ : S62), (⟨t165, t166, t167⟩ : S62), (⟨t168, t169, t170⟩ : S62), (⟨t171, t172, t173⟩ : S62)⟩ : S63) x15_1).f0) ((ix_63 (⟨(⟨t162, t163, t164⟩ : S62), (⟨t165, t166, t167⟩ : S62), (⟨t168, t169, t170⟩ : S62), (⟨t171, t172, t173⟩ : S62)⟩ : S63) x15_1).f1) ((ix_63 (⟨(⟨t162, t163, t164⟩ : S62), (⟨t165, t166, t167⟩ : S62), (⟨t168, t169, t170⟩ : S62), (⟨t171, t172, t173⟩ : S62)⟩ : S63) x15_1).f2) = some (r1, r2, r3, r4, r5)) ∧ Aside0 (kq ≤ k1) ∧ Aside0 (wc.heap[gb157]? = some (.cells #[.int .i64 x158000_1, .int .i64 x158001_1] 25 (0, 0))) ∧ Aside0 (wc.heap[gb158]? = some (.cells #[.int .i64 x159000_1, .int .i64 x159001_1] 25 (0, 0))) ∧ Aside0 (wc.heap[gb159]? = some (.cells #[.int .i64 a2_0, .int .i64 a2_1, .int .i64 a2_2, .int .i64 a2_3] 40 (0, 0))) ∧ Aside0 (wc.heap[gb160]? = some (.cells #[.int .i64 x161000_1, .int .i64 x161001_1] 25 (0, 0))) ∧ Aside0 (wc.heap[gb161]? = some (.cells #[.int .i64 x162000_1, .int .i64 x162001_1] 25 (0, 0))) ∧ Aside0 (wc.heap[gb174]? = some (.cells #[.bool ((ix_63 (⟨(⟨t162, t163, t164⟩ : S62), (⟨t165, t166, t167⟩ : S62), (⟨t168, t169, t170⟩ : S62), (⟨t171, t172, t173⟩ : S62)⟩ : S63) x15_1).f0), .bool ((ix_63 (⟨(⟨t162, t163, t164⟩ : S62), (⟨t165, t166, t167⟩ : S62), (⟨t168, t169, t170⟩ : S62), (⟨t171, t172, t173⟩ : S62)⟩ : S63) x15_1).f1), .int .i64 ((ix_63 (⟨(⟨t162, t163, t164⟩ : S62), (⟨t165, t166, t167⟩ : S62), (⟨t168, t169, t170⟩ : S62), (⟨t171, t172, t173⟩ : S62)⟩ : S63) x15_1).f2)] 62 (0, 0))) ∧ Aside0 (Below w.heap.size w wc))
          case first =>
            have H := HC21.out
            clear HC21
            by_cases c33 : t175 = true
            · subst c33
              have H1 : (clip_piece.j1 k1 true t176 x15_1 false t162 t163 t164 t165 t166 t167 t168 t169 t170 t171 t172 t173 x158000_1 x158001_1 x159000_1 x159001_1 ((ix_63 (⟨(⟨t162, t163, t164⟩ : S62), (⟨t165, t166, t167⟩ : S62), (⟨t168, t169, t170⟩ : S62), (⟨t171, t172, t173⟩ : S62)⟩ : S63) x15_1).f0) ((ix_63 (⟨(⟨t162, t163, t164⟩ : S62), (⟨t165, t166, t167⟩ : S62), (⟨t168, t169, t170⟩ : S62), (⟨t171, t172, t173⟩ : S62)⟩ : S63) x15_1).f1) ((ix_63 (⟨(⟨t162, t163, t164⟩ : S62), (⟨t165, t166, t167⟩ : S62), (⟨t168, t169, t170⟩ : S62), (⟨t171, t172, t173⟩ : S62)⟩ : S63) x15_1).f2)) = some (r1, r2, r3, r4, r5) := by rw [if_pos rfl] at H; exact H
              clear H
              have H := H1
              clear H1
              have H' := Aside0.mk H
              clear H
              go_wp2
              go_meet
              case rel => exact ⟨_, (false), (by first | rfl | (simp; done) | (simp [*]; done)), H', ⟨by have := HK1.out; first | omega | exact Nat.le_refl _⟩, ⟨by (with_reducible repeat (first | refine blk_drewN ?_ _ | refine blk_drew ?_ | refine blk_alloc ?_ _)); exact BK157.out⟩, ⟨by (with_reducible repeat (first | refine blk_drewN ?_ _ | refine blk_drew ?_ | refine blk_alloc ?_ _)); exact BK158.out⟩, ⟨by (with_reducible repeat (first | refine blk_drewN ?_ _ | refine blk_drew ?_ | refine blk_alloc ?_ _)); exact BK159.out⟩, ⟨by (with_reducible repeat (first | refine blk_drewN ?_ _ | refine blk_drew ?_ | refine blk_alloc ?_ _)); exact BK160.out⟩, ⟨by (with_reducible repeat (first | refine blk_drewN ?_ _ | refine blk_drew ?_ | refine blk_alloc ?_ _)); exact BK161.out⟩, ⟨by (with_reducible repeat (first | refine blk_drewN ?_ _ | refine blk_drew ?_ | refine blk_alloc ?_ _)); exact BK174.out⟩, ⟨by repeat (first | (with_reducible first | exact HB.out | apply below_alloc | apply pw_below_drewN | apply below_drew1 | refine below_set ?_ GE157.out | refine below_set ?_ GE158.out | refine below_set ?_ GE159.out | refine below_set ?_ GE160.out | refine below_set ?_ GE161.out | refine below_set ?_ GE174.out) | exact HB.out)⟩⟩
            · replace c33 := Bool.eq_false_iff.mpr c33
              subst c33
              have H1 : (clip_piece.j1 k1 false t176 x15_1 (!t176) t162 t163 t164 t165 t166 t167 t168 t169 t170 t171 t172 t173 x158000_1 x158001_1 x159000_1 x159001_1 ((ix_63 (⟨(⟨t162, t163, t164⟩ : S62), (⟨t165, t166, t167⟩ : S62), (⟨t168, t169, t170⟩ : S62), (⟨t171, t172, t173⟩ : S62)⟩ : S63) x15_1).f0) ((ix_63 (⟨(⟨t162, t163, t164⟩ : S62), (⟨t165, t166, t167⟩ : S62), (⟨t168, t169, t170⟩ : S62), (⟨t171, t172, t173⟩ : S62)⟩ : S63) x15_1).f1) ((ix_63 (⟨(⟨t162, t163, t164⟩ : S62), (⟨t165, t166, t167⟩ : S62), (⟨t168, t169, t170⟩ : S62), (⟨t171, t172, t173⟩ : S62)⟩ : S63) x15_1).f2)) = some (r1, r2, r3, r4, r5) := by rw [if_neg (show ¬ (false = true) by decide)] at H; exact H
              clear H
              have H := H1
              clear H1
              have H' := Aside0.mk H
              clear H
              go_wp2
              go_meet
              case rel => exact ⟨_, (!t176), (by first | rfl | (simp; done) | (simp [*]; done)), H', ⟨by have := HK1.out; first | omega | exact Nat.le_refl _⟩, ⟨by (with_reducible repeat (first | refine blk_drewN ?_ _ | refine blk_drew ?_ | refine blk_alloc ?_ _)); exact BK157.out⟩, ⟨by (with_reducible repeat (first | refine blk_drewN ?_ _ | refine blk_drew ?_ | refine blk_alloc ?_ _)); exact BK158.out⟩, ⟨by (with_reducible repeat (first | refine blk_drewN ?_ _ | refine blk_drew ?_ | refine blk_alloc ?_ _)); exact BK159.out⟩, ⟨by (with_reducible repeat (first | refine blk_drewN ?_ _ | refine blk_drew ?_ | refine blk_alloc ?_ _)); exact BK160.out⟩, ⟨by (with_reducible repeat (first | refine blk_drewN ?_ _ | refine blk_drew ?_ | refine blk_alloc ?_ _)); exact BK161.out⟩, ⟨by (with_reducible repeat (first | refine blk_drewN ?_ _ | refine blk_drew ?_ | refine blk_alloc ?_ _)); exact BK174.out⟩, ⟨by repeat (first | (with_reducible first | exact HB.out | apply below_alloc | apply pw_below_drewN | apply below_drew1 | refine below_set ?_ GE157.out | refine below_set ?_ GE158.out | refine below_set ?_ GE159.out | refine below_set ?_ GE160.out | refine below_set ?_ GE161.out | refine below_set ?_ GE174.out) | exact HB.out)⟩⟩
          case rest =>
            clear HC21
            try clear c1
            try clear p1
            try clear q1
            try clear c2
            try clear p2
            try clear c3
            try clear c4
            try clear c5
            try clear c10
            try clear c11
            try clear c12
            try clear c13
            try clear c16
            try clear c16b0
            try clear c17
            try clear c17b0
            try clear p18
            try clear q18
            try clear c23
            try clear c24
            try clear c25
            try clear c26
            try clear c27
            try clear c33
            try clear hcz14_0
            try clear hcz14_1
            try clear hcz14_2
            try clear hcz14_3
            try clear hcz28_0
            try clear hcz28_1
            try clear hcz28_2
            try clear hfz14_0
            try clear hfz14_1
            try clear hfz14_2
            try clear hfz14_3
            try clear hfz28_0
            try clear hfz28_1
            try clear hfz28_2
            try clear p18
            try clear p2
            try clear q18
            obtain ⟨kq, x24_20, rfl, HA, HJ20, BK157, BK158, BK159, BK160, BK161, BK174, HB⟩ := hcut
            cases kq with
            | zero => exact absurd HA.out (by simp [clip_piece.j1])
            | succ kj20 =>
              have H := HA.out
              clear HA
              simp only [clip_piece.j1] at H
              by_cases c34 : x24_20 = true
              · subst c34
                have H1 : (some (0, 0, 0, 0, false)) = some (r1, r2, r3, r4, r5) := by rw [if_pos rfl] at H; exact H
                clear H
                have H := H1
                clear H1
                simp only [Option.some.injEq, Prod.mk.injEq] at H
                obtain ⟨rfl, rfl, rfl, rfl, rfl⟩ := H
                have hnb35 := NB160_157.out
                have hnc35 := NB157_160.out
                have hnb36 := NB160_158.out
                have hnc36 := NB158_160.out
                have hnb37 := NB160_159.out
                have hnc37 := NB159_160.out
                have hnb38 := NB160_161.out
                have hnc38 := NB161_160.out
                have hnb39 := NB160_174.out
                have hnc39 := NB174_160.out
                have hcz40_0 : wc.cell? ⟨gb160, 0, none⟩ = some (.int .i64 x161000_1) := (blk_cell BK160.out 0).trans rfl
                have hcz40_1 : wc.cell? ⟨gb160, 1, none⟩ = some (.int .i64 x161001_1) := (blk_cell BK160.out 1).trans rfl
                have hfz40_0 := blk_frozen BK160.out 0
                have hfz40_1 := blk_frozen BK160.out 1
                have hnb41 := NB161_157.out
                have hnc41 := NB157_161.out
                have hnb42 := NB161_158.out
                have hnc42 := NB158_161.out
                have hnb43 := NB161_159.out
                have hnc43 := NB159_161.out
                have hnb44 := NB161_174.out
                have hnc44 := NB174_161.out
                have hcz45_0 : wc.cell? ⟨gb161, 0, none⟩ = some (.int .i64 x162000_1) := (blk_cell BK161.out 0).trans rfl
                have hcz45_1 : wc.cell? ⟨gb161, 1, none⟩ = some (.int .i64 x162001_1) := (blk_cell BK161.out 1).trans rfl
                have hfz45_0 := blk_frozen BK161.out 0
                have hfz45_1 := blk_frozen BK161.out 1
                go_wp2
                refine bodyPost_ret (results_list (rs := [.cell 6 25, .cell 7 25, .tmp 8]) rfl (by simp) (.cell gb160 25 #[.int .i64 0, .int .i64 0] (0, 0) _ rfl (by (with_reducible repeat (first | refine blk_drewN ?_ _ | refine blk_drew ?_ | refine blk_alloc ?_ _)); refine blk_far ?_ NB160_161.out _; (with_reducible repeat (first | refine blk_drewN ?_ _ | refine blk_drew ?_ | refine blk_alloc ?_ _)); refine blk_far ?_ NB160_161.out _; (with_reducible repeat (first | refine blk_drewN ?_ _ | refine blk_drew ?_ | refine blk_alloc ?_ _)); refine blk_put (cs := #[.int .i64 0, .int .i64 x161001_1]) ?_ 1 _ rfl; (with_reducible repeat (first | refine blk_drewN ?_ _ | refine blk_drew ?_ | refine blk_alloc ?_ _)); refine blk_put (cs := #[.int .i64 x161000_1, .int .i64 x161001_1]) ?_ 0 _ rfl; (with_reducible repeat (first | refine blk_drewN ?_ _ | refine blk_drew ?_ | refine blk_alloc ?_ _)); exact BK160.out) Try.underlying25 rfl (by kernel_rfl) (.cell gb161 25 #[.int .i64 0, .int .i64 0] (0, 0) _ rfl (by (with_reducible repeat (first | refine blk_drewN ?_ _ | refine blk_drew ?_ | refine blk_alloc ?_ _)); refine blk_put (cs := #[.int .i64 0, .int .i64 x162001_1]) ?_ 1 _ rfl; (with_reducible repeat (first | refine blk_drewN ?_ _ | refine blk_drew ?_ | refine blk_alloc ?_ _)); refine blk_put (cs := #[.int .i64 x162000_1, .int .i64 x162001_1]) ?_ 0 _ rfl; (with_reducible repeat (first | refine blk_drewN ?_ _ | refine blk_drew ?_ | refine blk_alloc ?_ _)); refine blk_far ?_ NB161_160.out _; (with_reducible repeat (first | refine blk_drewN ?_ _ | refine blk_drew ?_ | refine blk_alloc ?_ _)); refine blk_far ?_ NB161_160.out _; (with_reducible repeat (first | refine blk_drewN ?_ _ | refine blk_drew ?_ | refine blk_alloc ?_ _)); exact BK161.out) Try.underlying25 rfl (by kernel_rfl) (.tmp .nil)))) rfl ?_
                exact ⟨by first | rfl | (simp [errW_none, errW_some] <;> rfl) | (simp [*, errW_none, errW_some] <;> rfl), by repeat (first | (with_reducible first | exact HB.out | apply below_alloc | apply pw_below_drewN | apply below_drew1 | refine below_set ?_ GE157.out | refine below_set ?_ GE158.out | refine below_set ?_ GE159.out | refine below_set ?_ GE160.out | refine below_set ?_ GE161.out | refine below_set ?_ GE174.out) | exact HB.out)⟩
              · replace c34 := Bool.eq_false_iff.mpr c34
                subst c34
                have H1 : (if t175 = true then (if t176 = true then (clip_piece.l0 kj20 (wrap64 (x15_1 + 1)) t162 t163 t164 t165 t166 t167 t168 t169 t170 t171 t172 t173 x158000_1 x158001_1 x159000_1 x159001_1) else ((clip_half_border.f kj20 ((ix_63 (⟨(⟨t162, t163, t164⟩ : S62), (⟨t165, t166, t167⟩ : S62), (⟨t168, t169, t170⟩ : S62), (⟨t171, t172, t173⟩ : S62)⟩ : S63) x15_1).f0) ((ix_63 (⟨(⟨t162, t163, t164⟩ : S62), (⟨t165, t166, t167⟩ : S62), (⟨t168, t169, t170⟩ : S62), (⟨t171, t172, t173⟩ : S62)⟩ : S63) x15_1).f1) ((ix_63 (⟨(⟨t162, t163, t164⟩ : S62), (⟨t165, t166, t167⟩ : S62), (⟨t168, t169, t170⟩ : S62), (⟨t171, t172, t173⟩ : S62)⟩ : S63) x15_1).f2) x158000_1 x158001_1 x159000_1 x159001_1).bind fun bt177 => (clip_piece.l0 kj20 (wrap64 (x15_1 + 1)) t162 t163 t164 t165 t166 t167 t168 t169 t170 t171 t172 t173 x158000_1 x158001_1 bt177.1 bt177.2))) else ((clip_half_border.f kj20 ((ix_63 (⟨(⟨t162, t163, t164⟩ : S62), (⟨t165, t166, t167⟩ : S62), (⟨t168, t169, t170⟩ : S62), (⟨t171, t172, t173⟩ : S62)⟩ : S63) x15_1).f0) ((ix_63 (⟨(⟨t162, t163, t164⟩ : S62), (⟨t165, t166, t167⟩ : S62), (⟨t168, t169, t170⟩ : S62), (⟨t171, t172, t173⟩ : S62)⟩ : S63) x15_1).f1) ((ix_63 (⟨(⟨t162, t163, t164⟩ : S62), (⟨t165, t166, t167⟩ : S62), (⟨t168, t169, t170⟩ : S62), (⟨t171, t172, t173⟩ : S62)⟩ : S63) x15_1).f2) x158000_1 x158001_1 x159000_1 x159001_1).bind fun bt179 => (clip_piece.l0 kj20 (wrap64 (x15_1 + 1)) t162 t163 t164 t165 t166 t167 t168 t169 t170 t171 t172 t173 bt179.1 bt179.2 x159000_1 x159001_1))) = some (r1, r2, r3, r4, r5) := by rw [if_neg (show ¬ (false = true) by decide)] at H; exact H
                clear H
                have H := H1
                clear H1
                by_cases c46 : t175 = true
                · subst c46
                  have H1 : (if t176 = true then (clip_piece.l0 kj20 (wrap64 (x15_1 + 1)) t162 t163 t164 t165 t166 t167 t168 t169 t170 t171 t172 t173 x158000_1 x158001_1 x159000_1 x159001_1) else ((clip_half_border.f kj20 ((ix_63 (⟨(⟨t162, t163, t164⟩ : S62), (⟨t165, t166, t167⟩ : S62), (⟨t168, t169, t170⟩ : S62), (⟨t171, t172, t173⟩ : S62)⟩ : S63) x15_1).f0) ((ix_63 (⟨(⟨t162, t163, t164⟩ : S62), (⟨t165, t166, t167⟩ : S62), (⟨t168, t169, t170⟩ : S62), (⟨t171, t172, t173⟩ : S62)⟩ : S63) x15_1).f1) ((ix_63 (⟨(⟨t162, t163, t164⟩ : S62), (⟨t165, t166, t167⟩ : S62), (⟨t168, t169, t170⟩ : S62), (⟨t171, t172, t173⟩ : S62)⟩ : S63) x15_1).f2) x158000_1 x158001_1 x159000_1 x159001_1).bind fun bt177 => (clip_piece.l0 kj20 (wrap64 (x15_1 + 1)) t162 t163 t164 t165 t166 t167 t168 t169 t170 t171 t172 t173 x158000_1 x158001_1 bt177.1 bt177.2))) = some (r1, r2, r3, r4, r5) := by rw [if_pos rfl] at H; exact H
                  clear H
                  have H := H1
                  clear H1
                  by_cases c47 : t176 = true
                  · subst c47
                    have H1 : (clip_piece.l0 kj20 (wrap64 (x15_1 + 1)) t162 t163 t164 t165 t166 t167 t168 t169 t170 t171 t172 t173 x158000_1 x158001_1 x159000_1 x159001_1) = some (r1, r2, r3, r4, r5) := by rw [if_pos rfl] at H; exact H
                    clear H
                    have H := H1
                    clear H1
                    have H' := Aside0.mk H
                    clear H
                    go_wp2
                    go_roundg kj20
                    case measure => have := HK1.out; have := HJ20.out; omega
                    case rel => exact ⟨(wrap64 (x15_1 + 1)), (x158000_1), (x158001_1), (x159000_1), (x159001_1), (x161000_1), (x161001_1), (x162000_1), (x162001_1), (by first | rfl | (simp; done) | (simp [*]; done)), H', ⟨by have := HK1.out; have := HJ20.out; omega⟩, ⟨by (with_reducible repeat (first | refine blk_drewN ?_ _ | refine blk_drew ?_ | refine blk_alloc ?_ _)); exact BK157.out⟩, ⟨by (with_reducible repeat (first | refine blk_drewN ?_ _ | refine blk_drew ?_ | refine blk_alloc ?_ _)); exact BK158.out⟩, ⟨by (with_reducible repeat (first | refine blk_drewN ?_ _ | refine blk_drew ?_ | refine blk_alloc ?_ _)); exact BK159.out⟩, ⟨by (with_reducible repeat (first | refine blk_drewN ?_ _ | refine blk_drew ?_ | refine blk_alloc ?_ _)); exact BK160.out⟩, ⟨by (with_reducible repeat (first | refine blk_drewN ?_ _ | refine blk_drew ?_ | refine blk_alloc ?_ _)); exact BK161.out⟩, ⟨by repeat (first | (with_reducible first | exact HB.out | apply below_alloc | apply pw_below_drewN | apply below_drew1 | refine below_set ?_ GE157.out | refine below_set ?_ GE158.out | refine below_set ?_ GE159.out | refine below_set ?_ GE160.out | refine below_set ?_ GE161.out | refine below_set ?_ GE174.out) | exact HB.out)⟩⟩
                  · replace c47 := Bool.eq_false_iff.mpr c47
                    subst c47
                    have H1 : ((clip_half_border.f kj20 ((ix_63 (⟨(⟨t162, t163, t164⟩ : S62), (⟨t165, t166, t167⟩ : S62), (⟨t168, t169, t170⟩ : S62), (⟨t171, t172, t173⟩ : S62)⟩ : S63) x15_1).f0) ((ix_63 (⟨(⟨t162, t163, t164⟩ : S62), (⟨t165, t166, t167⟩ : S62), (⟨t168, t169, t170⟩ : S62), (⟨t171, t172, t173⟩ : S62)⟩ : S63) x15_1).f1) ((ix_63 (⟨(⟨t162, t163, t164⟩ : S62), (⟨t165, t166, t167⟩ : S62), (⟨t168, t169, t170⟩ : S62), (⟨t171, t172, t173⟩ : S62)⟩ : S63) x15_1).f2) x158000_1 x158001_1 x159000_1 x159001_1).bind fun bt177 => (clip_piece.l0 kj20 (wrap64 (x15_1 + 1)) t162 t163 t164 t165 t166 t167 t168 t169 t170 t171 t172 t173 x158000_1 x158001_1 bt177.1 bt177.2)) = some (r1, r2, r3, r4, r5) := by rw [if_neg (show ¬ (false = true) by decide)] at H; exact H
                    clear H
                    have H := H1
                    clear H1
                    replace H := Option.bind_eq_some_iff.mp H
                    obtain ⟨⟨t177, t178⟩, A480, H⟩ := H
                    replace H : (clip_piece.l0 kj20 (wrap64 (x15_1 + 1)) t162 t163 t164 t165 t166 t167 t168 t169 t170 t171 t172 t173 x158000_1 x158001_1 t177 t178) = some (r1, r2, r3, r4, r5) := H
                    have A48 := Aside0.mk A480
                    clear A480
                    have H' := Aside0.mk H
                    clear H
                    have hnb49 := NB174_157.out
                    have hnc49 := NB157_174.out
                    have hnb50 := NB174_158.out
                    have hnc50 := NB158_174.out
                    have hnb51 := NB174_159.out
                    have hnc51 := NB159_174.out
                    have hnb52 := NB174_160.out
                    have hnc52 := NB160_174.out
                    have hnb53 := NB174_161.out
                    have hnc53 := NB161_174.out
                    have hcz54_0 : wc.cell? ⟨gb174, 0, none⟩ = some (.bool ((ix_63 (⟨(⟨t162, t163, t164⟩ : S62), (⟨t165, t166, t167⟩ : S62), (⟨t168, t169, t170⟩ : S62), (⟨t171, t172, t173⟩ : S62)⟩ : S63) x15_1).f0)) := (blk_cell BK174.out 0).trans rfl
                    have hcz54_1 : wc.cell? ⟨gb174, 1, none⟩ = some (.bool ((ix_63 (⟨(⟨t162, t163, t164⟩ : S62), (⟨t165, t166, t167⟩ : S62), (⟨t168, t169, t170⟩ : S62), (⟨t171, t172, t173⟩ : S62)⟩ : S63) x15_1).f1)) := (blk_cell BK174.out 1).trans rfl
                    have hcz54_2 : wc.cell? ⟨gb174, 2, none⟩ = some (.int .i64 ((ix_63 (⟨(⟨t162, t163, t164⟩ : S62), (⟨t165, t166, t167⟩ : S62), (⟨t168, t169, t170⟩ : S62), (⟨t171, t172, t173⟩ : S62)⟩ : S63) x15_1).f2)) := (blk_cell BK174.out 2).trans rfl
                    have hfz54_0 := blk_frozen BK174.out 0
                    have hfz54_1 := blk_frozen BK174.out 1
                    have hfz54_2 := blk_frozen BK174.out 2
                    have hnb55 := NB157_158.out
                    have hnc55 := NB158_157.out
                    have hnb56 := NB157_159.out
                    have hnc56 := NB159_157.out
                    have hnb57 := NB157_160.out
                    have hnc57 := NB160_157.out
                    have hnb58 := NB157_161.out
                    have hnc58 := NB161_157.out
                    have hcz59_0 : wc.cell? ⟨gb157, 0, none⟩ = some (.int .i64 x158000_1) := (blk_cell BK157.out 0).trans rfl
                    have hcz59_1 : wc.cell? ⟨gb157, 1, none⟩ = some (.int .i64 x158001_1) := (blk_cell BK157.out 1).trans rfl
                    have hfz59_0 := blk_frozen BK157.out 0
                    have hfz59_1 := blk_frozen BK157.out 1
                    have hnb60 := NB158_159.out
                    have hnc60 := NB159_158.out
                    have hnb61 := NB158_160.out
                    have hnc61 := NB160_158.out
                    have hnb62 := NB158_161.out
                    have hnc62 := NB161_158.out
                    have hcz63_0 : wc.cell? ⟨gb158, 0, none⟩ = some (.int .i64 x159000_1) := (blk_cell BK158.out 0).trans rfl
                    have hcz63_1 : wc.cell? ⟨gb158, 1, none⟩ = some (.int .i64 x159001_1) := (blk_cell BK158.out 1).trans rfl
                    have hfz63_0 := blk_frozen BK158.out 0
                    have hfz63_1 := blk_frozen BK158.out 1
                    go_wp2_with (first | ((with_reducible refine gate_callee (f := 52) rfl ?_); refine goesL_ (some 46) rfl rfl Try.func52 (by kernel_rfl) rfl #[.agg #[.bool ((ix_63 (⟨(⟨t162, t163, t164⟩ : S62), (⟨t165, t166, t167⟩ : S62), (⟨t168, t169, t170⟩ : S62), (⟨t171, t172, t173⟩ : S62)⟩ : S63) x15_1).f0), .bool ((ix_63 (⟨(⟨t162, t163, t164⟩ : S62), (⟨t165, t166, t167⟩ : S62), (⟨t168, t169, t170⟩ : S62), (⟨t171, t172, t173⟩ : S62)⟩ : S63) x15_1).f1), .int .i64 ((ix_63 (⟨(⟨t162, t163, t164⟩ : S62), (⟨t165, t166, t167⟩ : S62), (⟨t168, t169, t170⟩ : S62), (⟨t171, t172, t173⟩ : S62)⟩ : S63) x15_1).f2)], .agg #[.int .i64 x158000_1, .int .i64 x158001_1], .agg #[.int .i64 x159000_1, .int .i64 x159001_1]] rfl (by (try simp only [List.map_toArray, List.map_cons, List.map_nil]); first | done | rfl | (simp only [List.length_drop, List.length_take]; rfl)) ?_; (with_reducible refine (clip_half_border.calls kj20 ((ix_63 (⟨(⟨t162, t163, t164⟩ : S62), (⟨t165, t166, t167⟩ : S62), (⟨t168, t169, t170⟩ : S62), (⟨t171, t172, t173⟩ : S62)⟩ : S63) x15_1).f0) ((ix_63 (⟨(⟨t162, t163, t164⟩ : S62), (⟨t165, t166, t167⟩ : S62), (⟨t168, t169, t170⟩ : S62), (⟨t171, t172, t173⟩ : S62)⟩ : S63) x15_1).f1) ((ix_63 (⟨(⟨t162, t163, t164⟩ : S62), (⟨t165, t166, t167⟩ : S62), (⟨t168, t169, t170⟩ : S62), (⟨t171, t172, t173⟩ : S62)⟩ : S63) x15_1).f2) x158000_1 x158001_1 x159000_1 x159001_1 t177 t178 _ A48.out).mono ?_); rintro e w64 ⟨rfl, hb⟩; refine ⟨_, rfl, ?_⟩; have n0_ := Aside0.mk (blk_below (g := gb157) (o := .cells #[.int .i64 x158000_1, .int .i64 x158001_1] 25 (0, 0)) (by (with_reducible repeat (first | refine blk_drewN ?_ _ | refine blk_drew ?_ | refine blk_alloc ?_ _)); exact BK157.out) hb); have n1_ := Aside0.mk (blk_below (g := gb158) (o := .cells #[.int .i64 x159000_1, .int .i64 x159001_1] 25 (0, 0)) (by (with_reducible repeat (first | refine blk_drewN ?_ _ | refine blk_drew ?_ | refine blk_alloc ?_ _)); exact BK158.out) hb); have n2_ := Aside0.mk (blk_below (g := gb159) (o := .cells #[.int .i64 a2_0, .int .i64 a2_1, .int .i64 a2_2, .int .i64 a2_3] 40 (0, 0)) (by (with_reducible repeat (first | refine blk_drewN ?_ _ | refine blk_drew ?_ | refine blk_alloc ?_ _)); exact BK159.out) hb); have n3_ := Aside0.mk (blk_below (g := gb160) (o := .cells #[.int .i64 x161000_1, .int .i64 x161001_1] 25 (0, 0)) (by (with_reducible repeat (first | refine blk_drewN ?_ _ | refine blk_drew ?_ | refine blk_alloc ?_ _)); exact BK160.out) hb); have n4_ := Aside0.mk (blk_below (g := gb161) (o := .cells #[.int .i64 x162000_1, .int .i64 x162001_1] 25 (0, 0)) (by (with_reducible repeat (first | refine blk_drewN ?_ _ | refine blk_drew ?_ | refine blk_alloc ?_ _)); exact BK161.out) hb); have n5_ := Aside0.mk (blk_below (g := gb174) (o := .cells #[.bool ((ix_63 (⟨(⟨t162, t163, t164⟩ : S62), (⟨t165, t166, t167⟩ : S62), (⟨t168, t169, t170⟩ : S62), (⟨t171, t172, t173⟩ : S62)⟩ : S63) x15_1).f0), .bool ((ix_63 (⟨(⟨t162, t163, t164⟩ : S62), (⟨t165, t166, t167⟩ : S62), (⟨t168, t169, t170⟩ : S62), (⟨t171, t172, t173⟩ : S62)⟩ : S63) x15_1).f1), .int .i64 ((ix_63 (⟨(⟨t162, t163, t164⟩ : S62), (⟨t165, t166, t167⟩ : S62), (⟨t168, t169, t170⟩ : S62), (⟨t171, t172, t173⟩ : S62)⟩ : S63) x15_1).f2)] 62 (0, 0)) (by (with_reducible repeat (first | refine blk_drewN ?_ _ | refine blk_drew ?_ | refine blk_alloc ?_ _)); exact BK174.out) hb); have n6_ := Aside0.mk (below_step (by repeat (first | (with_reducible first | exact HB.out | apply below_alloc | apply pw_below_drewN | apply below_drew1 | refine below_set ?_ GE157.out | refine below_set ?_ GE158.out | refine below_set ?_ GE159.out | refine below_set ?_ GE160.out | refine below_set ?_ GE161.out | refine below_set ?_ GE174.out) | exact HB.out)) hb); clear BK157; clear BK158; clear BK159; clear BK160; clear BK161; clear BK174; clear HB; have BK157 := n0_; have BK158 := n1_; have BK159 := n2_; have BK160 := n3_; have BK161 := n4_; have BK174 := n5_; have HB := n6_; clear n0_ n1_ n2_ n3_ n4_ n5_ n6_; (try clear hb); (try clear hb2); (try clear hk); (try clear hi); have hcz65_0 : w64.cell? ⟨gb158, 0, none⟩ = some (.int .i64 x159000_1) := (blk_cell BK158.out 0).trans rfl; have hcz65_1 : w64.cell? ⟨gb158, 1, none⟩ = some (.int .i64 x159001_1) := (blk_cell BK158.out 1).trans rfl; have hfz65_0 := blk_frozen BK158.out 0; have hfz65_1 := blk_frozen BK158.out 1))
                    go_roundg kj20
                    case measure => have := HK1.out; have := HJ20.out; omega
                    case rel => exact ⟨(wrap64 (x15_1 + 1)), (x158000_1), (x158001_1), (t177), (t178), (x161000_1), (x161001_1), (x162000_1), (x162001_1), (by first | rfl | (simp; done) | (simp [*]; done)), H', ⟨by have := HK1.out; have := HJ20.out; omega⟩, ⟨by (with_reducible repeat (first | refine blk_drewN ?_ _ | refine blk_drew ?_ | refine blk_alloc ?_ _)); refine blk_far ?_ NB157_158.out _; (with_reducible repeat (first | refine blk_drewN ?_ _ | refine blk_drew ?_ | refine blk_alloc ?_ _)); refine blk_far ?_ NB157_158.out _; (with_reducible repeat (first | refine blk_drewN ?_ _ | refine blk_drew ?_ | refine blk_alloc ?_ _)); exact BK157.out⟩, ⟨by (with_reducible repeat (first | refine blk_drewN ?_ _ | refine blk_drew ?_ | refine blk_alloc ?_ _)); refine blk_put (cs := #[.int .i64 t177, .int .i64 x159001_1]) ?_ 1 _ rfl; (with_reducible repeat (first | refine blk_drewN ?_ _ | refine blk_drew ?_ | refine blk_alloc ?_ _)); refine blk_put (cs := #[.int .i64 x159000_1, .int .i64 x159001_1]) ?_ 0 _ rfl; (with_reducible repeat (first | refine blk_drewN ?_ _ | refine blk_drew ?_ | refine blk_alloc ?_ _)); exact BK158.out⟩, ⟨by (with_reducible repeat (first | refine blk_drewN ?_ _ | refine blk_drew ?_ | refine blk_alloc ?_ _)); refine blk_far ?_ NB159_158.out _; (with_reducible repeat (first | refine blk_drewN ?_ _ | refine blk_drew ?_ | refine blk_alloc ?_ _)); refine blk_far ?_ NB159_158.out _; (with_reducible repeat (first | refine blk_drewN ?_ _ | refine blk_drew ?_ | refine blk_alloc ?_ _)); exact BK159.out⟩, ⟨by (with_reducible repeat (first | refine blk_drewN ?_ _ | refine blk_drew ?_ | refine blk_alloc ?_ _)); refine blk_far ?_ NB160_158.out _; (with_reducible repeat (first | refine blk_drewN ?_ _ | refine blk_drew ?_ | refine blk_alloc ?_ _)); refine blk_far ?_ NB160_158.out _; (with_reducible repeat (first | refine blk_drewN ?_ _ | refine blk_drew ?_ | refine blk_alloc ?_ _)); exact BK160.out⟩, ⟨by (with_reducible repeat (first | refine blk_drewN ?_ _ | refine blk_drew ?_ | refine blk_alloc ?_ _)); refine blk_far ?_ NB161_158.out _; (with_reducible repeat (first | refine blk_drewN ?_ _ | refine blk_drew ?_ | refine blk_alloc ?_ _)); refine blk_far ?_ NB161_158.out _; (with_reducible repeat (first | refine blk_drewN ?_ _ | refine blk_drew ?_ | refine blk_alloc ?_ _)); exact BK161.out⟩, ⟨by repeat (first | (with_reducible first | exact HB.out | apply below_alloc | apply pw_below_drewN | apply below_drew1 | refine below_set ?_ GE157.out | refine below_set ?_ GE158.out | refine below_set ?_ GE159.out | refine below_set ?_ GE160.out | refine below_set ?_ GE161.out | refine below_set ?_ GE174.out) | exact HB.out)⟩⟩
                · replace c46 := Bool.eq_false_iff.mpr c46
                  subst c46
                  have H1 : ((clip_half_border.f kj20 ((ix_63 (⟨(⟨t162, t163, t164⟩ : S62), (⟨t165, t166, t167⟩ : S62), (⟨t168, t169, t170⟩ : S62), (⟨t171, t172, t173⟩ : S62)⟩ : S63) x15_1).f0) ((ix_63 (⟨(⟨t162, t163, t164⟩ : S62), (⟨t165, t166, t167⟩ : S62), (⟨t168, t169, t170⟩ : S62), (⟨t171, t172, t173⟩ : S62)⟩ : S63) x15_1).f1) ((ix_63 (⟨(⟨t162, t163, t164⟩ : S62), (⟨t165, t166, t167⟩ : S62), (⟨t168, t169, t170⟩ : S62), (⟨t171, t172, t173⟩ : S62)⟩ : S63) x15_1).f2) x158000_1 x158001_1 x159000_1 x159001_1).bind fun bt179 => (clip_piece.l0 kj20 (wrap64 (x15_1 + 1)) t162 t163 t164 t165 t166 t167 t168 t169 t170 t171 t172 t173 bt179.1 bt179.2 x159000_1 x159001_1)) = some (r1, r2, r3, r4, r5) := by rw [if_neg (show ¬ (false = true) by decide)] at H; exact H
                  clear H
                  have H := H1
                  clear H1
                  replace H := Option.bind_eq_some_iff.mp H
                  obtain ⟨⟨t179, t180⟩, A660, H⟩ := H
                  replace H : (clip_piece.l0 kj20 (wrap64 (x15_1 + 1)) t162 t163 t164 t165 t166 t167 t168 t169 t170 t171 t172 t173 t179 t180 x159000_1 x159001_1) = some (r1, r2, r3, r4, r5) := H
                  have A66 := Aside0.mk A660
                  clear A660
                  have H' := Aside0.mk H
                  clear H
                  have hnb67 := NB174_157.out
                  have hnc67 := NB157_174.out
                  have hnb68 := NB174_158.out
                  have hnc68 := NB158_174.out
                  have hnb69 := NB174_159.out
                  have hnc69 := NB159_174.out
                  have hnb70 := NB174_160.out
                  have hnc70 := NB160_174.out
                  have hnb71 := NB174_161.out
                  have hnc71 := NB161_174.out
                  have hcz72_0 : wc.cell? ⟨gb174, 0, none⟩ = some (.bool ((ix_63 (⟨(⟨t162, t163, t164⟩ : S62), (⟨t165, t166, t167⟩ : S62), (⟨t168, t169, t170⟩ : S62), (⟨t171, t172, t173⟩ : S62)⟩ : S63) x15_1).f0)) := (blk_cell BK174.out 0).trans rfl
                  have hcz72_1 : wc.cell? ⟨gb174, 1, none⟩ = some (.bool ((ix_63 (⟨(⟨t162, t163, t164⟩ : S62), (⟨t165, t166, t167⟩ : S62), (⟨t168, t169, t170⟩ : S62), (⟨t171, t172, t173⟩ : S62)⟩ : S63) x15_1).f1)) := (blk_cell BK174.out 1).trans rfl
                  have hcz72_2 : wc.cell? ⟨gb174, 2, none⟩ = some (.int .i64 ((ix_63 (⟨(⟨t162, t163, t164⟩ : S62), (⟨t165, t166, t167⟩ : S62), (⟨t168, t169, t170⟩ : S62), (⟨t171, t172, t173⟩ : S62)⟩ : S63) x15_1).f2)) := (blk_cell BK174.out 2).trans rfl
                  have hfz72_0 := blk_frozen BK174.out 0
                  have hfz72_1 := blk_frozen BK174.out 1
                  have hfz72_2 := blk_frozen BK174.out 2
                  have hnb73 := NB157_158.out
                  have hnc73 := NB158_157.out
                  have hnb74 := NB157_159.out
                  have hnc74 := NB159_157.out
                  have hnb75 := NB157_160.out
                  have hnc75 := NB160_157.out
                  have hnb76 := NB157_161.out
                  have hnc76 := NB161_157.out
                  have hcz77_0 : wc.cell? ⟨gb157, 0, none⟩ = some (.int .i64 x158000_1) := (blk_cell BK157.out 0).trans rfl
                  have hcz77_1 : wc.cell? ⟨gb157, 1, none⟩ = some (.int .i64 x158001_1) := (blk_cell BK157.out 1).trans rfl
                  have hfz77_0 := blk_frozen BK157.out 0
                  have hfz77_1 := blk_frozen BK157.out 1
                  have hnb78 := NB158_159.out
                  have hnc78 := NB159_158.out
                  have hnb79 := NB158_160.out
                  have hnc79 := NB160_158.out
                  have hnb80 := NB158_161.out
                  have hnc80 := NB161_158.out
                  have hcz81_0 : wc.cell? ⟨gb158, 0, none⟩ = some (.int .i64 x159000_1) := (blk_cell BK158.out 0).trans rfl
                  have hcz81_1 : wc.cell? ⟨gb158, 1, none⟩ = some (.int .i64 x159001_1) := (blk_cell BK158.out 1).trans rfl
                  have hfz81_0 := blk_frozen BK158.out 0
                  have hfz81_1 := blk_frozen BK158.out 1
                  go_wp2_with (first | ((with_reducible refine gate_callee (f := 52) rfl ?_); refine goesL_ (some 39) rfl rfl Try.func52 (by kernel_rfl) rfl #[.agg #[.bool ((ix_63 (⟨(⟨t162, t163, t164⟩ : S62), (⟨t165, t166, t167⟩ : S62), (⟨t168, t169, t170⟩ : S62), (⟨t171, t172, t173⟩ : S62)⟩ : S63) x15_1).f0), .bool ((ix_63 (⟨(⟨t162, t163, t164⟩ : S62), (⟨t165, t166, t167⟩ : S62), (⟨t168, t169, t170⟩ : S62), (⟨t171, t172, t173⟩ : S62)⟩ : S63) x15_1).f1), .int .i64 ((ix_63 (⟨(⟨t162, t163, t164⟩ : S62), (⟨t165, t166, t167⟩ : S62), (⟨t168, t169, t170⟩ : S62), (⟨t171, t172, t173⟩ : S62)⟩ : S63) x15_1).f2)], .agg #[.int .i64 x158000_1, .int .i64 x158001_1], .agg #[.int .i64 x159000_1, .int .i64 x159001_1]] rfl (by (try simp only [List.map_toArray, List.map_cons, List.map_nil]); first | done | rfl | (simp only [List.length_drop, List.length_take]; rfl)) ?_; (with_reducible refine (clip_half_border.calls kj20 ((ix_63 (⟨(⟨t162, t163, t164⟩ : S62), (⟨t165, t166, t167⟩ : S62), (⟨t168, t169, t170⟩ : S62), (⟨t171, t172, t173⟩ : S62)⟩ : S63) x15_1).f0) ((ix_63 (⟨(⟨t162, t163, t164⟩ : S62), (⟨t165, t166, t167⟩ : S62), (⟨t168, t169, t170⟩ : S62), (⟨t171, t172, t173⟩ : S62)⟩ : S63) x15_1).f1) ((ix_63 (⟨(⟨t162, t163, t164⟩ : S62), (⟨t165, t166, t167⟩ : S62), (⟨t168, t169, t170⟩ : S62), (⟨t171, t172, t173⟩ : S62)⟩ : S63) x15_1).f2) x158000_1 x158001_1 x159000_1 x159001_1 t179 t180 _ A66.out).mono ?_); rintro e w82 ⟨rfl, hb⟩; refine ⟨_, rfl, ?_⟩; have n0_ := Aside0.mk (blk_below (g := gb157) (o := .cells #[.int .i64 x158000_1, .int .i64 x158001_1] 25 (0, 0)) (by (with_reducible repeat (first | refine blk_drewN ?_ _ | refine blk_drew ?_ | refine blk_alloc ?_ _)); exact BK157.out) hb); have n1_ := Aside0.mk (blk_below (g := gb158) (o := .cells #[.int .i64 x159000_1, .int .i64 x159001_1] 25 (0, 0)) (by (with_reducible repeat (first | refine blk_drewN ?_ _ | refine blk_drew ?_ | refine blk_alloc ?_ _)); exact BK158.out) hb); have n2_ := Aside0.mk (blk_below (g := gb159) (o := .cells #[.int .i64 a2_0, .int .i64 a2_1, .int .i64 a2_2, .int .i64 a2_3] 40 (0, 0)) (by (with_reducible repeat (first | refine blk_drewN ?_ _ | refine blk_drew ?_ | refine blk_alloc ?_ _)); exact BK159.out) hb); have n3_ := Aside0.mk (blk_below (g := gb160) (o := .cells #[.int .i64 x161000_1, .int .i64 x161001_1] 25 (0, 0)) (by (with_reducible repeat (first | refine blk_drewN ?_ _ | refine blk_drew ?_ | refine blk_alloc ?_ _)); exact BK160.out) hb); have n4_ := Aside0.mk (blk_below (g := gb161) (o := .cells #[.int .i64 x162000_1, .int .i64 x162001_1] 25 (0, 0)) (by (with_reducible repeat (first | refine blk_drewN ?_ _ | refine blk_drew ?_ | refine blk_alloc ?_ _)); exact BK161.out) hb); have n5_ := Aside0.mk (blk_below (g := gb174) (o := .cells #[.bool ((ix_63 (⟨(⟨t162, t163, t164⟩ : S62), (⟨t165, t166, t167⟩ : S62), (⟨t168, t169, t170⟩ : S62), (⟨t171, t172, t173⟩ : S62)⟩ : S63) x15_1).f0), .bool ((ix_63 (⟨(⟨t162, t163, t164⟩ : S62), (⟨t165, t166, t167⟩ : S62), (⟨t168, t169, t170⟩ : S62), (⟨t171, t172, t173⟩ : S62)⟩ : S63) x15_1).f1), .int .i64 ((ix_63 (⟨(⟨t162, t163, t164⟩ : S62), (⟨t165, t166, t167⟩ : S62), (⟨t168, t169, t170⟩ : S62), (⟨t171, t172, t173⟩ : S62)⟩ : S63) x15_1).f2)] 62 (0, 0)) (by (with_reducible repeat (first | refine blk_drewN ?_ _ | refine blk_drew ?_ | refine blk_alloc ?_ _)); exact BK174.out) hb); have n6_ := Aside0.mk (below_step (by repeat (first | (with_reducible first | exact HB.out | apply below_alloc | apply pw_below_drewN | apply below_drew1 | refine below_set ?_ GE157.out | refine below_set ?_ GE158.out | refine below_set ?_ GE159.out | refine below_set ?_ GE160.out | refine below_set ?_ GE161.out | refine below_set ?_ GE174.out) | exact HB.out)) hb); clear BK157; clear BK158; clear BK159; clear BK160; clear BK161; clear BK174; clear HB; have BK157 := n0_; have BK158 := n1_; have BK159 := n2_; have BK160 := n3_; have BK161 := n4_; have BK174 := n5_; have HB := n6_; clear n0_ n1_ n2_ n3_ n4_ n5_ n6_; (try clear hb); (try clear hb2); (try clear hk); (try clear hi); have hcz83_0 : w82.cell? ⟨gb157, 0, none⟩ = some (.int .i64 x158000_1) := (blk_cell BK157.out 0).trans rfl; have hcz83_1 : w82.cell? ⟨gb157, 1, none⟩ = some (.int .i64 x158001_1) := (blk_cell BK157.out 1).trans rfl; have hfz83_0 := blk_frozen BK157.out 0; have hfz83_1 := blk_frozen BK157.out 1))
                  go_roundg kj20
                  case measure => have := HK1.out; have := HJ20.out; omega
                  case rel => exact ⟨(wrap64 (x15_1 + 1)), (t179), (t180), (x159000_1), (x159001_1), (x161000_1), (x161001_1), (x162000_1), (x162001_1), (by first | rfl | (simp; done) | (simp [*]; done)), H', ⟨by have := HK1.out; have := HJ20.out; omega⟩, ⟨by (with_reducible repeat (first | refine blk_drewN ?_ _ | refine blk_drew ?_ | refine blk_alloc ?_ _)); refine blk_put (cs := #[.int .i64 t179, .int .i64 x158001_1]) ?_ 1 _ rfl; (with_reducible repeat (first | refine blk_drewN ?_ _ | refine blk_drew ?_ | refine blk_alloc ?_ _)); refine blk_put (cs := #[.int .i64 x158000_1, .int .i64 x158001_1]) ?_ 0 _ rfl; (with_reducible repeat (first | refine blk_drewN ?_ _ | refine blk_drew ?_ | refine blk_alloc ?_ _)); exact BK157.out⟩, ⟨by (with_reducible repeat (first | refine blk_drewN ?_ _ | refine blk_drew ?_ | refine blk_alloc ?_ _)); refine blk_far ?_ NB158_157.out _; (with_reducible repeat (first | refine blk_drewN ?_ _ | refine blk_drew ?_ | refine blk_alloc ?_ _)); refine blk_far ?_ NB158_157.out _; (with_reducible repeat (first | refine blk_drewN ?_ _ | refine blk_drew ?_ | refine blk_alloc ?_ _)); exact BK158.out⟩, ⟨by (with_reducible repeat (first | refine blk_drewN ?_ _ | refine blk_drew ?_ | refine blk_alloc ?_ _)); refine blk_far ?_ NB159_157.out _; (with_reducible repeat (first | refine blk_drewN ?_ _ | refine blk_drew ?_ | refine blk_alloc ?_ _)); refine blk_far ?_ NB159_157.out _; (with_reducible repeat (first | refine blk_drewN ?_ _ | refine blk_drew ?_ | refine blk_alloc ?_ _)); exact BK159.out⟩, ⟨by (with_reducible repeat (first | refine blk_drewN ?_ _ | refine blk_drew ?_ | refine blk_alloc ?_ _)); refine blk_far ?_ NB160_157.out _; (with_reducible repeat (first | refine blk_drewN ?_ _ | refine blk_drew ?_ | refine blk_alloc ?_ _)); refine blk_far ?_ NB160_157.out _; (with_reducible repeat (first | refine blk_drewN ?_ _ | refine blk_drew ?_ | refine blk_alloc ?_ _)); exact BK160.out⟩, ⟨by (with_reducible repeat (first | refine blk_drewN ?_ _ | refine blk_drew ?_ | refine blk_alloc ?_ _)); refine blk_far ?_ NB161_157.out _; (with_reducible repeat (first | refine blk_drewN ?_ _ | refine blk_drew ?_ | refine blk_alloc ?_ _)); refine blk_far ?_ NB161_157.out _; (with_reducible repeat (first | refine blk_drewN ?_ _ | refine blk_drew ?_ | refine blk_alloc ?_ _)); exact BK161.out⟩, ⟨by repeat (first | (with_reducible first | exact HB.out | apply below_alloc | apply pw_below_drewN | apply below_drew1 | refine below_set ?_ GE157.out | refine below_set ?_ GE158.out | refine below_set ?_ GE159.out | refine below_set ?_ GE160.out | refine below_set ?_ GE161.out | refine below_set ?_ GE174.out) | exact HB.out)⟩⟩
        · rw [if_neg c17] at H
          exact absurd H (by simp)
      · rw [if_neg c16] at H
        have c16b0 : decide (x15_1 < 4) = false := decide_eq_false c16
        clear c16
        simp only [Option.some.injEq, Prod.mk.injEq] at H
        obtain ⟨rfl, rfl, rfl, rfl, rfl⟩ := H
        try go_wp2
        have n0_ := Aside0.mk (blk_drew BK157.out)
        have n1_ := Aside0.mk (blk_drew BK158.out)
        have n2_ := Aside0.mk (blk_drew BK159.out)
        have n3_ := Aside0.mk (blk_drew BK160.out)
        have n4_ := Aside0.mk (blk_drew BK161.out)
        have n5_ := Aside0.mk (below_drew1 HB.out)
        clear BK157
        clear BK158
        clear BK159
        clear BK160
        clear BK161
        clear HB
        have BK157 := n0_
        have BK158 := n1_
        have BK159 := n2_
        have BK160 := n3_
        have BK161 := n4_
        have HB := n5_
        clear n0_ n1_ n2_ n3_ n4_ n5_
        refine start_ (n := 8) (S := fun w' => w'.cell? ⟨gb157, 0, none⟩ = some (.int .i64 x158000_1) ∧ w'.cell? ⟨gb157, 1, none⟩ = some (.int .i64 x158001_1) ∧ w'.cell? ⟨gb158, 0, none⟩ = some (.int .i64 x159000_1) ∧ w'.cell? ⟨gb158, 1, none⟩ = some (.int .i64 x159001_1)) (ds := []) #[false, false, false, false, false, false, false, false] (by kernel_rfl) rfl rfl ⟨(blk_cell BK157.out 0).trans rfl, (blk_cell BK157.out 1).trans rfl, (blk_cell BK158.out 0).trans rfl, (blk_cell BK158.out 1).trans rfl⟩ (fun hHeld => ?_); refine with_tabW clip_piece.tab12 clip_piece.bits12 (fun HT_ HW_ => ?_)
        generalize wr.drew = w84 at BK157 BK158 BK159 BK160 BK161 HB hHeld ⊢
        refine take_ (i := 0) (N := some 48) (v := ?_) (a' := ?_) #[true, false, false, false, false, false, false, false] rfl rfl (take_ofW HT_.out HW_.out (by kernel_rfl)) (fun _ _ _ h => h) (Or.inl ⟨by rfl, ?_⟩) hHeld ?_ ?_
        rotate_left
        · rintro w' ⟨s0, s1, s2, s3⟩
          go_simp
          with_reducible rfl
        rotate_left
        · simp only [Act.put, List.setIfInBounds_toArray, List.set_cons_zero, List.set_cons_succ, i64_w, i32_w]
          rfl
        refine take_ (i := 1) (N := some 49) (v := ?_) (a' := ?_) #[true, true, false, false, false, false, false, false] rfl rfl (take_ofW HT_.out HW_.out (by kernel_rfl)) (fun _ _ _ h => h) (Or.inl ⟨by rfl, ?_⟩) hHeld ?_ ?_
        rotate_left
        · rintro w' ⟨s0, s1, s2, s3⟩
          go_simp
          with_reducible rfl
        rotate_left
        · simp only [Act.put, List.setIfInBounds_toArray, List.set_cons_zero, List.set_cons_succ, i64_w, i32_w]
          rfl
        refine take_ (i := 2) (N := some 50) (v := ?_) (a' := ?_) #[true, true, true, false, false, false, false, false] rfl rfl (take_ofW HT_.out HW_.out (by kernel_rfl)) (fun _ _ _ h => h) (Or.inl ⟨by rfl, ?_⟩) hHeld ?_ ?_
        rotate_left
        · rintro w' ⟨s0, s1, s2, s3⟩
          go_simp
          with_reducible rfl
        rotate_left
        · simp only [Act.put, List.setIfInBounds_toArray, List.set_cons_zero, List.set_cons_succ, i64_w, i32_w]
          rfl
        refine take_ (i := 3) (N := some 51) (v := ?_) (a' := ?_) #[true, true, true, true, false, false, false, false] rfl rfl (take_ofW HT_.out HW_.out (by kernel_rfl)) (fun _ _ _ h => h) (Or.inl ⟨by rfl, ?_⟩) hHeld ?_ ?_
        rotate_left
        · rintro w' ⟨s0, s1, s2, s3⟩
          go_simp
          with_reducible rfl
        rotate_left
        · simp only [Act.put, List.setIfInBounds_toArray, List.set_cons_zero, List.set_cons_succ, i64_w, i32_w]
          rfl
        refine pure_ (i := 4) (N := some 52) (v := ?_) (a' := ?_) #[true, true, true, true, true, false, false, false] rfl rfl (any_of HT_.out (by kernel_rfl)) (fun _ _ _ h => h) (Or.inl ⟨by rfl, ?_⟩) ?_ ?_
        rotate_left
        · intro w'
          go_simp
          with_reducible rfl
        rotate_left
        · simp only [Act.put, List.setIfInBounds_toArray, List.set_cons_zero, List.set_cons_succ, i64_w, i32_w]
          rfl
        refine one_ (i := 5) (N := none) #[true, true, true, true, true, true, false, false] rfl rfl (one_of HT_.out (by kernel_rfl)) (by decide) (fun K hK => ?_)
        have hs85 : w84.cell? ⟨gb160, 0, none⟩ = some (.int .i64 x161000_1) := (blk_cell BK160.out 0).trans rfl
        have hfs85 := blk_frozen BK160.out 0
        have hns85_0 := NB157_160.out
        have hns85_1 := NB158_160.out
        have hns85_2 := NB159_160.out
        have hns85_4 := NB161_160.out
        have hms85_0 := NB160_157.out
        have hms85_1 := NB160_158.out
        have hms85_2 := NB160_159.out
        have hms85_4 := NB160_161.out
        have hs86 : w84.cell? ⟨gb160, 1, none⟩ = some (.int .i64 x161001_1) := (blk_cell BK160.out 1).trans rfl
        have hfs86 := blk_frozen BK160.out 1
        have hns86_0 := NB157_160.out
        have hns86_1 := NB158_160.out
        have hns86_2 := NB159_160.out
        have hns86_4 := NB161_160.out
        have hms86_0 := NB160_157.out
        have hms86_1 := NB160_158.out
        have hms86_2 := NB160_159.out
        have hms86_4 := NB160_161.out
        refine skip_ (w1 := ?_) (by rfl) rfl ?_ ?_
        rotate_left
        · go_simp
          rfl
        refine hK.out _ _ ⟨((cell_far (p := ⟨gb160, _, none⟩) NB157_160.out _).trans (((cell_far (p := ⟨gb160, _, none⟩) NB157_160.out _).trans (hHeld.1)))), ((cell_far (p := ⟨gb160, _, none⟩) NB157_160.out _).trans (((cell_far (p := ⟨gb160, _, none⟩) NB157_160.out _).trans (hHeld.2.1)))), ((cell_far (p := ⟨gb160, _, none⟩) NB158_160.out _).trans (((cell_far (p := ⟨gb160, _, none⟩) NB158_160.out _).trans (hHeld.2.2.1)))), ((cell_far (p := ⟨gb160, _, none⟩) NB158_160.out _).trans (((cell_far (p := ⟨gb160, _, none⟩) NB158_160.out _).trans (hHeld.2.2.2))))⟩ (fun hHeld => ?_)
        clear hK K
        refine one_ (i := 6) (N := none) #[true, true, true, true, true, true, true, false] rfl rfl (one_of HT_.out (by kernel_rfl)) (by decide) (fun K hK => ?_)
        have hs87 : w84.cell? ⟨gb161, 0, none⟩ = some (.int .i64 x162000_1) := (blk_cell BK161.out 0).trans rfl
        have hfs87 := blk_frozen BK161.out 0
        have hns87_0 := NB157_161.out
        have hns87_1 := NB158_161.out
        have hns87_2 := NB159_161.out
        have hns87_3 := NB160_161.out
        have hms87_0 := NB161_157.out
        have hms87_1 := NB161_158.out
        have hms87_2 := NB161_159.out
        have hms87_3 := NB161_160.out
        have hs88 : w84.cell? ⟨gb161, 1, none⟩ = some (.int .i64 x162001_1) := (blk_cell BK161.out 1).trans rfl
        have hfs88 := blk_frozen BK161.out 1
        have hns88_0 := NB157_161.out
        have hns88_1 := NB158_161.out
        have hns88_2 := NB159_161.out
        have hns88_3 := NB160_161.out
        have hms88_0 := NB161_157.out
        have hms88_1 := NB161_158.out
        have hms88_2 := NB161_159.out
        have hms88_3 := NB161_160.out
        refine skip_ (w1 := ?_) (by rfl) rfl ?_ ?_
        rotate_left
        · go_simp
          rfl
        refine hK.out _ _ ⟨((cell_far (p := ⟨gb161, _, none⟩) NB157_161.out _).trans (((cell_far (p := ⟨gb161, _, none⟩) NB157_161.out _).trans (hHeld.1)))), ((cell_far (p := ⟨gb161, _, none⟩) NB157_161.out _).trans (((cell_far (p := ⟨gb161, _, none⟩) NB157_161.out _).trans (hHeld.2.1)))), ((cell_far (p := ⟨gb161, _, none⟩) NB158_161.out _).trans (((cell_far (p := ⟨gb161, _, none⟩) NB158_161.out _).trans (hHeld.2.2.1)))), ((cell_far (p := ⟨gb161, _, none⟩) NB158_161.out _).trans (((cell_far (p := ⟨gb161, _, none⟩) NB158_161.out _).trans (hHeld.2.2.2))))⟩ (fun hHeld => ?_)
        clear hK K
        refine pure_ (i := 7) (N := some 8) (v := ?_) (a' := ?_) #[true, true, true, true, true, true, true, true] rfl rfl (any_of HT_.out (by kernel_rfl)) (fun _ _ _ h => h) (Or.inl ⟨by rfl, ?_⟩) ?_ ?_
        rotate_left
        · intro w'
          go_simp
          with_reducible rfl
        rotate_left
        · simp only [Act.put, List.setIfInBounds_toArray, List.set_cons_zero, List.set_cons_succ, i64_w, i32_w]
          rfl
        refine done_ (done_of HT_.out (by kernel_rfl)) ?_
        try go_wp2
        refine bodyPost_ret (results_list (rs := [.cell 6 25, .cell 7 25, .tmp 8]) rfl (by simp) (.cell gb160 25 #[.int .i64 x158000_1, .int .i64 x158001_1] (0, 0) _ rfl (by (with_reducible repeat (first | refine blk_drewN ?_ _ | refine blk_drew ?_ | refine blk_alloc ?_ _)); refine blk_far ?_ NB160_161.out _; (with_reducible repeat (first | refine blk_drewN ?_ _ | refine blk_drew ?_ | refine blk_alloc ?_ _)); refine blk_far ?_ NB160_161.out _; (with_reducible repeat (first | refine blk_drewN ?_ _ | refine blk_drew ?_ | refine blk_alloc ?_ _)); refine blk_put (cs := #[.int .i64 x158000_1, .int .i64 x161001_1]) ?_ 1 _ rfl; (with_reducible repeat (first | refine blk_drewN ?_ _ | refine blk_drew ?_ | refine blk_alloc ?_ _)); refine blk_put (cs := #[.int .i64 x161000_1, .int .i64 x161001_1]) ?_ 0 _ rfl; (with_reducible repeat (first | refine blk_drewN ?_ _ | refine blk_drew ?_ | refine blk_alloc ?_ _)); exact BK160.out) Try.underlying25 rfl (by kernel_rfl) (.cell gb161 25 #[.int .i64 x159000_1, .int .i64 x159001_1] (0, 0) _ rfl (by (with_reducible repeat (first | refine blk_drewN ?_ _ | refine blk_drew ?_ | refine blk_alloc ?_ _)); refine blk_put (cs := #[.int .i64 x159000_1, .int .i64 x162001_1]) ?_ 1 _ rfl; (with_reducible repeat (first | refine blk_drewN ?_ _ | refine blk_drew ?_ | refine blk_alloc ?_ _)); refine blk_put (cs := #[.int .i64 x162000_1, .int .i64 x162001_1]) ?_ 0 _ rfl; (with_reducible repeat (first | refine blk_drewN ?_ _ | refine blk_drew ?_ | refine blk_alloc ?_ _)); refine blk_far ?_ NB161_160.out _; (with_reducible repeat (first | refine blk_drewN ?_ _ | refine blk_drew ?_ | refine blk_alloc ?_ _)); refine blk_far ?_ NB161_160.out _; (with_reducible repeat (first | refine blk_drewN ?_ _ | refine blk_drew ?_ | refine blk_alloc ?_ _)); exact BK161.out) Try.underlying25 rfl (by kernel_rfl) (.tmp .nil)))) rfl ?_
        exact ⟨by first | rfl | (simp [errW_none, errW_some] <;> rfl) | (simp [*, errW_none, errW_some] <;> rfl), by repeat (first | (with_reducible first | exact HB.out | apply below_alloc | apply pw_below_drewN | apply below_drew1 | refine below_set ?_ GE157.out | refine below_set ?_ GE158.out | refine below_set ?_ GE159.out | refine below_set ?_ GE160.out | refine below_set ?_ GE161.out) | exact HB.out)⟩

end Go.Proofs.Ytdkegdnfbpobnaa.PINV
