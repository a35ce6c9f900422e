-- Laid by a program of this work (wip/gen): out of the translation, with texts of our own.
import Derived.Test.YtdkegdnfbpobnaaPARSx0
import Derived.Test.YtdkegdnfbpobnaaPARSx1
import Derived.Test.YtdkegdnfbpobnaaPARSx4
import Derived.Test.YtdkegdnfbpobnaaPARSx5
namespace Go.Proofs.Ytdkegdnfbpobnaa.PARS
open Go.RowKit Go.Proofs.YtdkegdnfbpobnaaW.PrintWords Go.Proofs.YtdkegdnfbpobnaaW.PrintLast Go.Proofs.YtdkegdnfbpobnaaW.PrintMore Go.Proofs.YtdkegdnfbpobnaaW.SepW
attribute [local go_sem] max2_int min2_int max_two min_two max_three min_three max_four min_four   -- for this text's walks alone
set_option linter.unusedVariables false
set_option linter.unusedSimpArgs false

attribute [local go_sem high] eqA25
/-! ### clip_piece: function 45 -/
mutual
def clip_piece.l0 : Nat → Int → Bool → Bool → Int → Bool → Bool → Int → Bool → Bool → Int → Bool → Bool → Int → Int → Int → Int → Int → Option (Int × Int × Int × Int × Bool)
 | 0, _, _, _, _, _, _, _, _, _, _, _, _, _, _, _, _, _ => none
 | k + 1, x15, x58, x59, x60, x61, x62, x63, x64, x65, x66, x67, x68, x69, x135000, x135001, x136000, x136001 => if x15 < 4 then (if 0 ≤ x15 then ((clip_half_has.f ((ix_63 (⟨(⟨x58, x59, x60⟩ : S62), (⟨x61, x62, x63⟩ : S62), (⟨x64, x65, x66⟩ : S62), (⟨x67, x68, x69⟩ : S62)⟩ : S63) x15).f0) ((ix_63 (⟨(⟨x58, x59, x60⟩ : S62), (⟨x61, x62, x63⟩ : S62), (⟨x64, x65, x66⟩ : S62), (⟨x67, x68, x69⟩ : S62)⟩ : S63) x15).f1) ((ix_63 (⟨(⟨x58, x59, x60⟩ : S62), (⟨x61, x62, x63⟩ : S62), (⟨x64, x65, x66⟩ : S62), (⟨x67, x68, x69⟩ : S62)⟩ : S63) x15).f2) x135000 x135001).bind fun t152 => ((clip_half_has.f ((ix_63 (⟨(⟨x58, x59, x60⟩ : S62), (⟨x61, x62, x63⟩ : S62), (⟨x64, x65, x66⟩ : S62), (⟨x67, x68, x69⟩ : S62)⟩ : S63) x15).f0) ((ix_63 (⟨(⟨x58, x59, x60⟩ : S62), (⟨x61, x62, x63⟩ : S62), (⟨x64, x65, x66⟩ : S62), (⟨x67, x68, x69⟩ : S62)⟩ : S63) x15).f1) ((ix_63 (⟨(⟨x58, x59, x60⟩ : S62), (⟨x61, x62, x63⟩ : S62), (⟨x64, x65, x66⟩ : S62), (⟨x67, x68, x69⟩ : S62)⟩ : S63) x15).f2) x136000 x136001).bind fun t153 => (if t152 = true then (clip_piece.j1 k t152 t153 x15 false x58 x59 x60 x61 x62 x63 x64 x65 x66 x67 x68 x69 x135000 x135001 x136000 x136001 ((ix_63 (⟨(⟨x58, x59, x60⟩ : S62), (⟨x61, x62, x63⟩ : S62), (⟨x64, x65, x66⟩ : S62), (⟨x67, x68, x69⟩ : S62)⟩ : S63) x15).f0) ((ix_63 (⟨(⟨x58, x59, x60⟩ : S62), (⟨x61, x62, x63⟩ : S62), (⟨x64, x65, x66⟩ : S62), (⟨x67, x68, x69⟩ : S62)⟩ : S63) x15).f1) ((ix_63 (⟨(⟨x58, x59, x60⟩ : S62), (⟨x61, x62, x63⟩ : S62), (⟨x64, x65, x66⟩ : S62), (⟨x67, x68, x69⟩ : S62)⟩ : S63) x15).f2)) else (clip_piece.j1 k t152 t153 x15 (!t153) x58 x59 x60 x61 x62 x63 x64 x65 x66 x67 x68 x69 x135000 x135001 x136000 x136001 ((ix_63 (⟨(⟨x58, x59, x60⟩ : S62), (⟨x61, x62, x63⟩ : S62), (⟨x64, x65, x66⟩ : S62), (⟨x67, x68, x69⟩ : S62)⟩ : S63) x15).f0) ((ix_63 (⟨(⟨x58, x59, x60⟩ : S62), (⟨x61, x62, x63⟩ : S62), (⟨x64, x65, x66⟩ : S62), (⟨x67, x68, x69⟩ : S62)⟩ : S63) x15).f1) ((ix_63 (⟨(⟨x58, x59, x60⟩ : S62), (⟨x61, x62, x63⟩ : S62), (⟨x64, x65, x66⟩ : S62), (⟨x67, x68, x69⟩ : S62)⟩ : S63) x15).f2))))) else (none)) else (some (x135000, x135001, x136000, x136001, (!(x135000 == x136000) || (!(x135001 == x136001)))))
def clip_piece.j1 : Nat → Bool → Bool → Int → Bool → Bool → Bool → Int → Bool → Bool → Int → Bool → Bool → Int → Bool → Bool → Int → Int → Int → Int → Int → Bool → Bool → Int → Option (Int × Int × Int × Int × Bool)
 | 0, _, _, _, _, _, _, _, _, _, _, _, _, _, _, _, _, _, _, _, _, _, _, _ => none
 | k + 1, x11, x12, x15, x24, x58, x59, x60, x61, x62, x63, x64, x65, x66, x67, x68, x69, x135000, x135001, x136000, x136001, x152000, x152001, x152002 => if x24 = true then (some (0, 0, 0, 0, false)) else (if x11 = true then (if x12 = true then (clip_piece.l0 k (wrap64 (x15 + 1)) x58 x59 x60 x61 x62 x63 x64 x65 x66 x67 x68 x69 x135000 x135001 x136000 x136001) else ((clip_half_border.f k x152000 x152001 x152002 x135000 x135001 x136000 x136001).bind fun bt154 => (clip_piece.l0 k (wrap64 (x15 + 1)) x58 x59 x60 x61 x62 x63 x64 x65 x66 x67 x68 x69 x135000 x135001 bt154.1 bt154.2))) else ((clip_half_border.f k x152000 x152001 x152002 x135000 x135001 x136000 x136001).bind fun bt156 => (clip_piece.l0 k (wrap64 (x15 + 1)) x58 x59 x60 x61 x62 x63 x64 x65 x66 x67 x68 x69 bt156.1 bt156.2 x136000 x136001)))
end
def clip_piece.f (k : Nat) (a0_0 : Int) (a0_1 : Int) (a1_0 : Int) (a1_1 : Int) (a2_0 : Int) (a2_1 : Int) (a2_2 : Int) (a2_3 : Int) : Option (Int × Int × Int × Int × Bool) := (clip_halves.f a2_0 a2_1 a2_2 a2_3).bind fun bt139 => (clip_piece.l0 k 0 bt139.1 bt139.2.1 bt139.2.2.1 bt139.2.2.2.1 bt139.2.2.2.2.1 bt139.2.2.2.2.2.1 bt139.2.2.2.2.2.2.1 bt139.2.2.2.2.2.2.2.1 bt139.2.2.2.2.2.2.2.2.1 bt139.2.2.2.2.2.2.2.2.2.1 bt139.2.2.2.2.2.2.2.2.2.2.1 bt139.2.2.2.2.2.2.2.2.2.2.2 a0_0 a0_1 a1_0 a1_1)
theorem clip_piece.mono_l : ∀ k, (∀ y0 y1 y2 y3 y4 y5 y6 y7 y8 y9 y10 y11 y12 y13 y14 y15 y16, LeO (clip_piece.l0 k y0 y1 y2 y3 y4 y5 y6 y7 y8 y9 y10 y11 y12 y13 y14 y15 y16) (clip_piece.l0 (k + 1) y0 y1 y2 y3 y4 y5 y6 y7 y8 y9 y10 y11 y12 y13 y14 y15 y16)) ∧ (∀ y0 y1 y2 y3 y4 y5 y6 y7 y8 y9 y10 y11 y12 y13 y14 y15 y16 y17 y18 y19 y20 y21 y22, LeO (clip_piece.j1 k y0 y1 y2 y3 y4 y5 y6 y7 y8 y9 y10 y11 y12 y13 y14 y15 y16 y17 y18 y19 y20 y21 y22) (clip_piece.j1 (k + 1) y0 y1 y2 y3 y4 y5 y6 y7 y8 y9 y10 y11 y12 y13 y14 y15 y16 y17 y18 y19 y20 y21 y22))
 | 0 => ⟨fun _ _ _ _ _ _ _ _ _ _ _ _ _ _ _ _ _ r h => by simp [clip_piece.l0] at h, fun _ _ _ _ _ _ _ _ _ _ _ _ _ _ _ _ _ _ _ _ _ _ _ r h => by simp [clip_piece.j1] at h⟩
 | k + 1 => by
  obtain ⟨ih0, ih1⟩ := clip_piece.mono_l k
  refine ⟨?_, ?_⟩
  ·intro y0 y1 y2 y3 y4 y5 y6 y7 y8 y9 y10 y11 y12 y13 y14 y15 y16
   unfold clip_piece.l0
   repeat' first
   | (with_reducible exact ih0 _ _ _ _ _ _ _ _ _ _ _ _ _ _ _ _ _)
   | (with_reducible exact ih1 _ _ _ _ _ _ _ _ _ _ _ _ _ _ _ _ _ _ _ _ _ _ _)
   | (with_reducible exact clip_half_border.mono _ _ _ _ _ _ _ _)
   | (with_reducible exact LeO.refl _)
   | (with_reducible exact LeO.none _)
   | (with_reducible refine LeO.ite ?_ ?_)
   | (with_reducible refine LeO.bind ?_ (fun _ => ?_))
   | exact ih0 _ _ _ _ _ _ _ _ _ _ _ _ _ _ _ _ _
   | exact ih1 _ _ _ _ _ _ _ _ _ _ _ _ _ _ _ _ _ _ _ _ _ _ _
   | exact clip_half_border.mono _ _ _ _ _ _ _ _
   | exact LeO.none _
   | refine LeO.ite ?_ ?_
   | refine LeO.bind ?_ (fun _ => ?_)
  ·intro y0 y1 y2 y3 y4 y5 y6 y7 y8 y9 y10 y11 y12 y13 y14 y15 y16 y17 y18 y19 y20 y21 y22
   unfold clip_piece.j1
   repeat' first
   | (with_reducible exact ih0 _ _ _ _ _ _ _ _ _ _ _ _ _ _ _ _ _)
   | (with_reducible exact ih1 _ _ _ _ _ _ _ _ _ _ _ _ _ _ _ _ _ _ _ _ _ _ _)
   | (with_reducible exact clip_half_border.mono _ _ _ _ _ _ _ _)
   | (with_reducible exact LeO.refl _)
   | (with_reducible exact LeO.none _)
   | (with_reducible refine LeO.ite ?_ ?_)
   | (with_reducible refine LeO.bind ?_ (fun _ => ?_))
   | exact ih0 _ _ _ _ _ _ _ _ _ _ _ _ _ _ _ _ _
   | exact ih1 _ _ _ _ _ _ _ _ _ _ _ _ _ _ _ _ _ _ _ _ _ _ _
   | exact clip_half_border.mono _ _ _ _ _ _ _ _
   | exact LeO.none _
   | refine LeO.ite ?_ ?_
   | refine LeO.bind ?_ (fun _ => ?_)
theorem clip_piece.mono : ∀ a0 a1 a2 a3 a4 a5 a6 a7 k, LeO (clip_piece.f k a0 a1 a2 a3 a4 a5 a6 a7) (clip_piece.f (k + 1) a0 a1 a2 a3 a4 a5 a6 a7) := by
 intro a0 a1 a2 a3 a4 a5 a6 a7 k
 obtain ⟨ih0, ih1⟩ := clip_piece.mono_l k
 unfold clip_piece.f
 repeat' first
   | (with_reducible exact ih0 _ _ _ _ _ _ _ _ _ _ _ _ _ _ _ _ _)
   | (with_reducible exact ih1 _ _ _ _ _ _ _ _ _ _ _ _ _ _ _ _ _ _ _ _ _ _ _)
   | (with_reducible exact clip_half_border.mono _ _ _ _ _ _ _ _)
   | (with_reducible exact LeO.refl _)
   | (with_reducible exact LeO.none _)
   | (with_reducible refine LeO.ite ?_ ?_)
   | (with_reducible refine LeO.bind ?_ (fun _ => ?_))
   | exact ih0 _ _ _ _ _ _ _ _ _ _ _ _ _ _ _ _ _
   | exact ih1 _ _ _ _ _ _ _ _ _ _ _ _ _ _ _ _ _ _ _ _ _ _ _
   | exact clip_half_border.mono _ _ _ _ _ _ _ _
   | exact LeO.none _
   | refine LeO.ite ?_ ?_
   | refine LeO.bind ?_ (fun _ => ?_)
def clip_piece.T4 : Bool × List (List Nat × List Nat) := (true, [([], []), ([], []), ([0, 1], [0, 1]), ([], []), ([], []), ([3, 4, 2], [3, 4]), ([2, 5, 0, 1, 2], [2]), ([5, 6, 0, 1, 2, 3, 4, 5, 6], [5])])
def clip_piece.B4 : List Nat := [0, 0, 3, 0, 0, 31, 63, 127]
theorem clip_piece.tab4 : rtab .any (opsOf Try.f45 4) = clip_piece.T4 := by kernel_rfl
theorem clip_piece.bits4 : waitsOk clip_piece.T4.2 clip_piece.B4 = true := by kernel_rfl
def clip_piece.T12 : Bool × List (List Nat × List Nat) := (true, [([], []), ([], []), ([], []), ([], []), ([2, 3], [2, 3]), ([0, 0], [0]), ([1, 5, 0, 1, 5], [1]), ([4, 6, 0, 1, 2, 3, 4, 5, 6], [4])])
def clip_piece.B12 : List Nat := [0, 0, 0, 0, 12, 1, 35, 127]
theorem clip_piece.tab12 : rtab .any (opsOf Try.f45 12) = clip_piece.T12 := by kernel_rfl
theorem clip_piece.bits12 : waitsOk clip_piece.T12.2 clip_piece.B12 = true := by kernel_rfl
set_option maxHeartbeats 8000000 in
set_option maxRecDepth 100000 in
theorem clip_piece.calls (k : Nat) (a0_0 : Int) (a0_1 : Int) (a1_0 : Int) (a1_1 : Int) (a2_0 : Int) (a2_1 : Int) (a2_2 : Int) (a2_3 : Int) (r1 : Int) (r2 : Int) (r3 : Int) (r4 : Int) (r5 : Bool) (w : World) (h : clip_piece.f k a0_0 a0_1 a1_0 a1_1 a2_0 a2_1 a2_2 a2_3 = some (r1, r2, r3, r4, r5)) :
  Calls Try.prog 45 #[.agg #[.int .i64 a0_0, .int .i64 a0_1], .agg #[.int .i64 a1_0, .int .i64 a1_1], .agg #[.int .i64 a2_0, .int .i64 a2_1, .int .i64 a2_2, .int .i64 a2_3]] w fun e w' => e = .returned (.tuple #[.agg #[.int .i64 r1, .int .i64 r2], .agg #[.int .i64 r3, .int .i64 r4], .bool r5]) ∧ Below w.heap.size w w' := by
 have hu25 := Try.underlying25
 have hu40 := Try.underlying40
 have hu62 := Try.underlying62
 have HB := Aside0.mk (Below.refl w.heap.size w)
 have H : ((clip_halves.f a2_0 a2_1 a2_2 a2_3).bind fun bt139 => (clip_piece.l0 k 0 bt139.1 bt139.2.1 bt139.2.2.1 bt139.2.2.2.1 bt139.2.2.2.2.1 bt139.2.2.2.2.2.1 bt139.2.2.2.2.2.2.1 bt139.2.2.2.2.2.2.2.1 bt139.2.2.2.2.2.2.2.2.1 bt139.2.2.2.2.2.2.2.2.2.1 bt139.2.2.2.2.2.2.2.2.2.2.1 bt139.2.2.2.2.2.2.2.2.2.2.2 a0_0 a0_1 a1_0 a1_1)) = some (r1, r2, r3, r4, r5) := h
 clear h
 replace H := Option.bind_eq_some_iff.mp H
 obtain ⟨⟨t139, t140, t141, t142, t143, t144, t145, t146, t147, t148, t149, t150⟩, A40, H⟩ := H
 replace H : (clip_piece.l0 k 0 t139 t140 t141 t142 t143 t144 t145 t146 t147 t148 t149 t150 a0_0 a0_1 a1_0 a1_1) = some (r1, r2, r3, r4, r5) := H
 have A4 := Aside0.mk A40
 clear A40
 have H' := Aside0.mk H
 clear H
 go_enter Try.func45, Try.ntmps45
 go_wp2_with (first | ((with_reducible refine gate_dst (N := 3) rfl ?_); refine box_event ?hg (N := 3) ?hd (cs := #[.int .i64 a0_0, .int .i64 a0_1]) (t := 25) ?hr ?_; (case hd => rfl); (case hg => rfl); (case hr => first | (go_simp; done) | (go_simp; rfl)); intro gb134 hg w5 hbox hb; have n0_ := Aside0.mk (below_step (by repeat (first | (with_reducible first | exact HB.out | apply below_alloc | apply pw_below_drewN | apply below_drew1) | exact HB.out)) hb); have n1_ := Aside0.mk (hbox); have n2_ := Aside0.mk ((by rw [hg]; exact (below_size (by repeat (first | (with_reducible first | exact HB.out | apply below_alloc | apply pw_below_drewN | apply below_drew1) | exact HB.out))) : w.heap.size ≤ gb134)); have n3_ := Aside0.mk ((by rw [hg]; exact (below_size (by repeat (first | (with_reducible first | exact HB.out | apply below_alloc | apply pw_below_drewN | apply below_drew1) | exact HB.out))) : w.heap.size ≤ gb134)); clear HB; have HB := n0_; have BK134 := n1_; have GW134 := n2_; have GE134 := n3_; clear n0_ n1_ n2_ n3_; clear hb hbox hg) | ((with_reducible refine gate_dst (N := 4) rfl ?_); refine box_event ?hg (N := 4) ?hd (cs := #[.int .i64 a1_0, .int .i64 a1_1]) (t := 25) ?hr ?_; (case hd => rfl); (case hg => rfl); (case hr => first | (go_simp; done) | (go_simp; rfl)); intro gb135 hg w6 hbox hb; have n0_ := Aside0.mk (blk_below (g := gb134) (o := .cells #[.int .i64 a0_0, .int .i64 a0_1] 25 (0, 0)) (by (with_reducible repeat (first | apply blk_drewN | apply blk_drew | apply blk_alloc)); exact BK134.out) hb); have n1_ := Aside0.mk (below_step (by repeat (first | (with_reducible first | exact HB.out | apply below_alloc | apply pw_below_drewN | apply below_drew1 | refine below_set ?_ GE134.out) | exact HB.out)) hb); have n2_ := Aside0.mk (hbox); have n3_ := Aside0.mk ((by rw [hg]; exact (below_size (by repeat (first | (with_reducible first | exact HB.out | apply below_alloc | apply pw_below_drewN | apply below_drew1 | refine below_set ?_ GE134.out) | exact HB.out))) : w.heap.size ≤ gb135)); have n4_ := Aside0.mk ((by rw [hg]; exact (below_size (by repeat (first | (with_reducible first | exact HB.out | apply below_alloc | apply pw_below_drewN | apply below_drew1 | refine below_set ?_ GE134.out) | exact HB.out))) : w.heap.size ≤ gb135)); have n5_ := Aside0.mk ((by rw [hg]; exact Nat.ne_of_lt (blk_lt (g := gb134) (o := .cells #[.int .i64 a0_0, .int .i64 a0_1] 25 (0, 0)) (by (with_reducible repeat (first | apply blk_drewN | apply blk_drew | apply blk_alloc)); exact BK134.out)) : gb134 ≠ gb135)); have n6_ := Aside0.mk ((by rw [hg]; exact Nat.ne_of_gt (blk_lt (g := gb134) (o := .cells #[.int .i64 a0_0, .int .i64 a0_1] 25 (0, 0)) (by (with_reducible repeat (first | apply blk_drewN | apply blk_drew | apply blk_alloc)); exact BK134.out)) : gb135 ≠ gb134)); clear BK134; clear HB; have BK134 := n0_; have HB := n1_; have BK135 := n2_; have GW135 := n3_; have GE135 := n4_; have NB134_135 := n5_; have NB135_134 := n6_; clear n0_ n1_ n2_ n3_ n4_ n5_ n6_; clear hb hbox hg) | ((with_reducible refine gate_dst (N := 5) rfl ?_); refine box_event ?hg (N := 5) ?hd (cs := #[.int .i64 a2_0, .int .i64 a2_1, .int .i64 a2_2, .int .i64 a2_3]) (t := 40) ?hr ?_; (case hd => rfl); (case hg => rfl); (case hr => first | (go_simp; done) | (go_simp; rfl)); intro gb136 hg w7 hbox hb; have n0_ := Aside0.mk (blk_below (g := gb134) (o := .cells #[.int .i64 a0_0, .int .i64 a0_1] 25 (0, 0)) (by (with_reducible repeat (first | apply blk_drewN | apply blk_drew | apply blk_alloc)); exact BK134.out) hb); have n1_ := Aside0.mk (blk_below (g := gb135) (o := .cells #[.int .i64 a1_0, .int .i64 a1_1] 25 (0, 0)) (by (with_reducible repeat (first | apply blk_drewN | apply blk_drew | apply blk_alloc)); exact BK135.out) hb); have n2_ := Aside0.mk (below_step (by repeat (first | (with_reducible first | exact HB.out | apply below_alloc | apply pw_below_drewN | apply below_drew1 | refine below_set ?_ GE134.out | refine below_set ?_ GE135.out) | exact HB.out)) hb); have n3_ := Aside0.mk (hbox); have n4_ := Aside0.mk ((by rw [hg]; exact (below_size (by repeat (first | (with_reducible first | exact HB.out | apply below_alloc | apply pw_below_drewN | apply below_drew1 | refine below_set ?_ GE134.out | refine below_set ?_ GE135.out) | exact HB.out))) : w.heap.size ≤ gb136)); have n5_ := Aside0.mk ((by rw [hg]; exact (below_size (by repeat (first | (with_reducible first | exact HB.out | apply below_alloc | apply pw_below_drewN | apply below_drew1 | refine below_set ?_ GE134.out | refine below_set ?_ GE135.out) | exact HB.out))) : w.heap.size ≤ gb136)); have n6_ := Aside0.mk ((by rw [hg]; exact Nat.ne_of_lt (blk_lt (g := gb134) (o := .cells #[.int .i64 a0_0, .int .i64 a0_1] 25 (0, 0)) (by (with_reducible repeat (first | apply blk_drewN | apply blk_drew | apply blk_alloc)); exact BK134.out)) : gb134 ≠ gb136)); have n7_ := Aside0.mk ((by rw [hg]; exact Nat.ne_of_gt (blk_lt (g := gb134) (o := .cells #[.int .i64 a0_0, .int .i64 a0_1] 25 (0, 0)) (by (with_reducible repeat (first | apply blk_drewN | apply blk_drew | apply blk_alloc)); exact BK134.out)) : gb136 ≠ gb134)); have n8_ := Aside0.mk ((by rw [hg]; exact Nat.ne_of_lt (blk_lt (g := gb135) (o := .cells #[.int .i64 a1_0, .int .i64 a1_1] 25 (0, 0)) (by (with_reducible repeat (first | apply blk_drewN | apply blk_drew | apply blk_alloc)); exact BK135.out)) : gb135 ≠ gb136)); have n9_ := Aside0.mk ((by rw [hg]; exact Nat.ne_of_gt (blk_lt (g := gb135) (o := .cells #[.int .i64 a1_0, .int .i64 a1_1] 25 (0, 0)) (by (with_reducible repeat (first | apply blk_drewN | apply blk_drew | apply blk_alloc)); exact BK135.out)) : gb136 ≠ gb135)); clear BK134; clear BK135; clear HB; have BK134 := n0_; have BK135 := n1_; have HB := n2_; have BK136 := n3_; have GW136 := n4_; have GE136 := n5_; have NB134_136 := n6_; have NB136_134 := n7_; have NB135_136 := n8_; have NB136_135 := n9_; clear n0_ n1_ n2_ n3_ n4_ n5_ n6_ n7_ n8_ n9_; clear hb hbox hg) | ((with_reducible refine gate_dst (N := 6) rfl ?_); refine box_event ?hg (N := 6) ?hd (cs := #[.int .i64 0, .int .i64 0]) (t := 25) ?hr ?_; (case hd => rfl); (case hg => rfl); (case hr => first | (go_simp; done) | (go_simp; rfl)); intro gb137 hg w8 hbox hb; have n0_ := Aside0.mk (blk_below (g := gb134) (o := .cells #[.int .i64 a0_0, .int .i64 a0_1] 25 (0, 0)) (by (with_reducible repeat (first | apply blk_drewN | apply blk_drew | apply blk_alloc)); exact BK134.out) hb); have n1_ := Aside0.mk (blk_below (g := gb135) (o := .cells #[.int .i64 a1_0, .int .i64 a1_1] 25 (0, 0)) (by (with_reducible repeat (first | apply blk_drewN | apply blk_drew | apply blk_alloc)); exact BK135.out) hb); have n2_ := Aside0.mk (blk_below (g := gb136) (o := .cells #[.int .i64 a2_0, .int .i64 a2_1, .int .i64 a2_2, .int .i64 a2_3] 40 (0, 0)) (by (with_reducible repeat (first | apply blk_drewN | apply blk_drew | apply blk_alloc)); exact BK136.out) hb); have n3_ := Aside0.mk (below_step (by repeat (first | (with_reducible first | exact HB.out | apply below_alloc | apply pw_below_drewN | apply below_drew1 | refine below_set ?_ GE134.out | refine below_set ?_ GE135.out | refine below_set ?_ GE136.out) | exact HB.out)) hb); have n4_ := Aside0.mk (hbox); have n5_ := Aside0.mk ((by rw [hg]; exact (below_size (by repeat (first | (with_reducible first | exact HB.out | apply below_alloc | apply pw_below_drewN | apply below_drew1 | refine below_set ?_ GE134.out | refine below_set ?_ GE135.out | refine below_set ?_ GE136.out) | exact HB.out))) : w.heap.size ≤ gb137)); have n6_ := Aside0.mk ((by rw [hg]; exact (below_size (by repeat (first | (with_reducible first | exact HB.out | apply below_alloc | apply pw_below_drewN | apply below_drew1 | refine below_set ?_ GE134.out | refine below_set ?_ GE135.out | refine below_set ?_ GE136.out) | exact HB.out))) : w.heap.size ≤ gb137)); have n7_ := Aside0.mk ((by rw [hg]; exact Nat.ne_of_lt (blk_lt (g := gb134) (o := .cells #[.int .i64 a0_0, .int .i64 a0_1] 25 (0, 0)) (by (with_reducible repeat (first | apply blk_drewN | apply blk_drew | apply blk_alloc)); exact BK134.out)) : gb134 ≠ gb137)); have n8_ := Aside0.mk ((by rw [hg]; exact Nat.ne_of_gt (blk_lt (g := gb134) (o := .cells #[.int .i64 a0_0, .int .i64 a0_1] 25 (0, 0)) (by (with_reducible repeat (first | apply blk_drewN | apply blk_drew | apply blk_alloc)); exact BK134.out)) : gb137 ≠ gb134)); have n9_ := Aside0.mk ((by rw [hg]; exact Nat.ne_of_lt (blk_lt (g := gb135) (o := .cells #[.int .i64 a1_0, .int .i64 a1_1] 25 (0, 0)) (by (with_reducible repeat (first | apply blk_drewN | apply blk_drew | apply blk_alloc)); exact BK135.out)) : gb135 ≠ gb137)); have n10_ := Aside0.mk ((by rw [hg]; exact Nat.ne_of_gt (blk_lt (g := gb135) (o := .cells #[.int .i64 a1_0, .int .i64 a1_1] 25 (0, 0)) (by (with_reducible repeat (first | apply blk_drewN | apply blk_drew | apply blk_alloc)); exact BK135.out)) : gb137 ≠ gb135)); have n11_ := Aside0.mk ((by rw [hg]; exact Nat.ne_of_lt (blk_lt (g := gb136) (o := .cells #[.int .i64 a2_0, .int .i64 a2_1, .int .i64 a2_2, .int .i64 a2_3] 40 (0, 0)) (by (with_reducible repeat (first | apply blk_drewN | apply blk_drew | apply blk_alloc)); exact BK136.out)) : gb136 ≠ gb137)); have n12_ := Aside0.mk ((by rw [hg]; exact Nat.ne_of_gt (blk_lt (g := gb136) (o := .cells #[.int .i64 a2_0, .int .i64 a2_1, .int .i64 a2_2, .int .i64 a2_3] 40 (0, 0)) (by (with_reducible repeat (first | apply blk_drewN | apply blk_drew | apply blk_alloc)); exact BK136.out)) : gb137 ≠ gb136)); clear BK134; clear BK135; clear BK136; clear HB; have BK134 := n0_; have BK135 := n1_; have BK136 := n2_; have HB := n3_; have BK137 := n4_; have GW137 := n5_; have GE137 := n6_; have NB134_137 := n7_; have NB137_134 := n8_; have NB135_137 := n9_; have NB137_135 := n10_; have NB136_137 := n11_; have NB137_136 := n12_; clear n0_ n1_ n2_ n3_ n4_ n5_ n6_ n7_ n8_ n9_ n10_ n11_ n12_; clear hb hbox hg) | ((with_reducible refine gate_dst (N := 7) rfl ?_); refine box_event ?hg (N := 7) ?hd (cs := #[.int .i64 0, .int .i64 0]) (t := 25) ?hr ?_; (case hd => rfl); (case hg => rfl); (case hr => first | (go_simp; done) | (go_simp; rfl)); intro gb138 hg w9 hbox hb; have n0_ := Aside0.mk (blk_below (g := gb134) (o := .cells #[.int .i64 a0_0, .int .i64 a0_1] 25 (0, 0)) (by (with_reducible repeat (first | apply blk_drewN | apply blk_drew | apply blk_alloc)); exact BK134.out) hb); have n1_ := Aside0.mk (blk_below (g := gb135) (o := .cells #[.int .i64 a1_0, .int .i64 a1_1] 25 (0, 0)) (by (with_reducible repeat (first | apply blk_drewN | apply blk_drew | apply blk_alloc)); exact BK135.out) hb); have n2_ := Aside0.mk (blk_below (g := gb136) (o := .cells #[.int .i64 a2_0, .int .i64 a2_1, .int .i64 a2_2, .int .i64 a2_3] 40 (0, 0)) (by (with_reducible repeat (first | apply blk_drewN | apply blk_drew | apply blk_alloc)); exact BK136.out) hb); have n3_ := Aside0.mk (blk_below (g := gb137) (o := .cells #[.int .i64 0, .int .i64 0] 25 (0, 0)) (by (with_reducible repeat (first | apply blk_drewN | apply blk_drew | apply blk_alloc)); exact BK137.out) hb); have n4_ := Aside0.mk (below_step (by repeat (first | (with_reducible first | exact HB.out | apply below_alloc | apply pw_below_drewN | apply below_drew1 | refine below_set ?_ GE134.out | refine below_set ?_ GE135.out | refine below_set ?_ GE136.out | refine below_set ?_ GE137.out) | exact HB.out)) hb); have n5_ := Aside0.mk (hbox); have n6_ := Aside0.mk ((by rw [hg]; exact (below_size (by repeat (first | (with_reducible first | exact HB.out | apply below_alloc | apply pw_below_drewN | apply below_drew1 | refine below_set ?_ GE134.out | refine below_set ?_ GE135.out | refine below_set ?_ GE136.out | refine below_set ?_ GE137.out) | exact HB.out))) : w.heap.size ≤ gb138)); have n7_ := Aside0.mk ((by rw [hg]; exact (below_size (by repeat (first | (with_reducible first | exact HB.out | apply below_alloc | apply pw_below_drewN | apply below_drew1 | refine below_set ?_ GE134.out | refine below_set ?_ GE135.out | refine below_set ?_ GE136.out | refine below_set ?_ GE137.out) | exact HB.out))) : w.heap.size ≤ gb138)); have n8_ := Aside0.mk ((by rw [hg]; exact Nat.ne_of_lt (blk_lt (g := gb134) (o := .cells #[.int .i64 a0_0, .int .i64 a0_1] 25 (0, 0)) (by (with_reducible repeat (first | apply blk_drewN | apply blk_drew | apply blk_alloc)); exact BK134.out)) : gb134 ≠ gb138)); have n9_ := Aside0.mk ((by rw [hg]; exact Nat.ne_of_gt (blk_lt (g := gb134) (o := .cells #[.int .i64 a0_0, .int .i64 a0_1] 25 (0, 0)) (by (with_reducible repeat (first | apply blk_drewN | apply blk_drew | apply blk_alloc)); exact BK134.out)) : gb138 ≠ gb134)); have n10_ := Aside0.mk ((by rw [hg]; exact Nat.ne_of_lt (blk_lt (g := gb135) (o := .cells #[.int .i64 a1_0, .int .i64 a1_1] 25 (0, 0)) (by (with_reducible repeat (first | apply blk_drewN | apply blk_drew | apply blk_alloc)); exact BK135.out)) : gb135 ≠ gb138)); have n11_ := Aside0.mk ((by rw [hg]; exact Nat.ne_of_gt (blk_lt (g := gb135) (o := .cells #[.int .i64 a1_0, .int .i64 a1_1] 25 (0, 0)) (by (with_reducible repeat (first | apply blk_drewN | apply blk_drew | apply blk_alloc)); exact BK135.out)) : gb138 ≠ gb135)); have n12_ := Aside0.mk ((by rw [hg]; exact Nat.ne_of_lt (blk_lt (g := gb136) (o := .cells #[.int .i64 a2_0, .int .i64 a2_1, .int .i64 a2_2, .int .i64 a2_3] 40 (0, 0)) (by (with_reducible repeat (first | apply blk_drewN | apply blk_drew | apply blk_alloc)); exact BK136.out)) : gb136 ≠ gb138)); have n13_ := Aside0.mk ((by rw [hg]; exact Nat.ne_of_gt (blk_lt (g := gb136) (o := .cells #[.int .i64 a2_0, .int .i64 a2_1, .int .i64 a2_2, .int .i64 a2_3] 40 (0, 0)) (by (with_reducible repeat (first | apply blk_drewN | apply blk_drew | apply blk_alloc)); exact BK136.out)) : gb138 ≠ gb136)); have n14_ := Aside0.mk ((by rw [hg]; exact Nat.ne_of_lt (blk_lt (g := gb137) (o := .cells #[.int .i64 0, .int .i64 0] 25 (0, 0)) (by (with_reducible repeat (first | apply blk_drewN | apply blk_drew | apply blk_alloc)); exact BK137.out)) : gb137 ≠ gb138)); have n15_ := Aside0.mk ((by rw [hg]; exact Nat.ne_of_gt (blk_lt (g := gb137) (o := .cells #[.int .i64 0, .int .i64 0] 25 (0, 0)) (by (with_reducible repeat (first | apply blk_drewN | apply blk_drew | apply blk_alloc)); exact BK137.out)) : gb138 ≠ gb137)); clear BK134; clear BK135; clear BK136; clear BK137; clear HB; have BK134 := n0_; have BK135 := n1_; have BK136 := n2_; have BK137 := n3_; have HB := n4_; have BK138 := n5_; have GW138 := n6_; have GE138 := n7_; have NB134_138 := n8_; have NB138_134 := n9_; have NB135_138 := n10_; have NB138_135 := n11_; have NB136_138 := n12_; have NB138_136 := n13_; have NB137_138 := n14_; have NB138_137 := n15_; clear n0_ n1_ n2_ n3_ n4_ n5_ n6_ n7_ n8_ n9_ n10_ n11_ n12_ n13_ n14_ n15_; clear hb hbox hg; have hnb10 := NB136_134.out; have hnc10 := NB134_136.out; have hnb11 := NB136_135.out; have hnc11 := NB135_136.out; have hnb12 := NB136_137.out; have hnc12 := NB137_136.out; have hnb13 := NB136_138.out; have hnc13 := NB138_136.out; have hcz14_0 : w9.cell? ⟨gb136, 0, none⟩ = some (.int .i64 a2_0) := (blk_cell BK136.out 0).trans rfl; have hcz14_1 : w9.cell? ⟨gb136, 1, none⟩ = some (.int .i64 a2_1) := (blk_cell BK136.out 1).trans rfl; have hcz14_2 : w9.cell? ⟨gb136, 2, none⟩ = some (.int .i64 a2_2) := (blk_cell BK136.out 2).trans rfl; have hcz14_3 : w9.cell? ⟨gb136, 3, none⟩ = some (.int .i64 a2_3) := (blk_cell BK136.out 3).trans rfl; have hfz14_0 := blk_frozen BK136.out 0; have hfz14_1 := blk_frozen BK136.out 1; have hfz14_2 := blk_frozen BK136.out 2; have hfz14_3 := blk_frozen BK136.out 3) | ((with_reducible refine gate_callee (f := 49) rfl ?_); refine goesL_ (some 14) rfl rfl Try.func49 (by kernel_rfl) rfl #[.agg #[.int .i64 a2_0, .int .i64 a2_1, .int .i64 a2_2, .int .i64 a2_3]] rfl (by (try simp only [List.map_toArray, List.map_cons, List.map_nil]); first | done | rfl | (simp only [List.length_drop, List.length_take]; rfl)) ?_; (with_reducible refine (clip_halves.calls a2_0 a2_1 a2_2 a2_3 t139 t140 t141 t142 t143 t144 t145 t146 t147 t148 t149 t150 _ A4.out).mono ?_); rintro e w15 ⟨rfl, hb⟩; refine ⟨_, rfl, ?_⟩; have n0_ := Aside0.mk (blk_below (g := gb134) (o := .cells #[.int .i64 a0_0, .int .i64 a0_1] 25 (0, 0)) (by (with_reducible repeat (first | apply blk_drewN | apply blk_drew | apply blk_alloc)); exact BK134.out) hb); have n1_ := Aside0.mk (blk_below (g := gb135) (o := .cells #[.int .i64 a1_0, .int .i64 a1_1] 25 (0, 0)) (by (with_reducible repeat (first | apply blk_drewN | apply blk_drew | apply blk_alloc)); exact BK135.out) hb); have n2_ := Aside0.mk (blk_below (g := gb136) (o := .cells #[.int .i64 a2_0, .int .i64 a2_1, .int .i64 a2_2, .int .i64 a2_3] 40 (0, 0)) (by (with_reducible repeat (first | apply blk_drewN | apply blk_drew | apply blk_alloc)); exact BK136.out) hb); have n3_ := Aside0.mk (blk_below (g := gb137) (o := .cells #[.int .i64 0, .int .i64 0] 25 (0, 0)) (by (with_reducible repeat (first | apply blk_drewN | apply blk_drew | apply blk_alloc)); exact BK137.out) hb); have n4_ := Aside0.mk (blk_below (g := gb138) (o := .cells #[.int .i64 0, .int .i64 0] 25 (0, 0)) (by (with_reducible repeat (first | apply blk_drewN | apply blk_drew | apply blk_alloc)); exact BK138.out) hb); have n5_ := Aside0.mk (below_step (by repeat (first | (with_reducible first | exact HB.out | apply below_alloc | apply pw_below_drewN | apply below_drew1 | refine below_set ?_ GE134.out | refine below_set ?_ GE135.out | refine below_set ?_ GE136.out | refine below_set ?_ GE137.out | refine below_set ?_ GE138.out) | exact HB.out)) hb); clear BK134; clear BK135; clear BK136; clear BK137; clear BK138; clear HB; have BK134 := n0_; have BK135 := n1_; have BK136 := n2_; have BK137 := n3_; have BK138 := n4_; have HB := n5_; clear n0_ n1_ n2_ n3_ n4_ n5_; (try clear hb); (try clear hb2); (try clear hk); (try clear hi)))
 go_loopg [15] k (fun kq v15 w' => ∃ (x15_1 : Int) (x135000_1 : Int) (x135001_1 : Int) (x136000_1 : Int) (x136001_1 : Int) (x138000_1 : Int) (x138001_1 : Int) (x139000_1 : Int) (x139001_1 : Int), v15 = .int .i64 x15_1 ∧ Aside0 (clip_piece.l0 kq x15_1 t139 t140 t141 t142 t143 t144 t145 t146 t147 t148 t149 t150 x135000_1 x135001_1 x136000_1 x136001_1 = some (r1, r2, r3, r4, r5)) ∧ Aside0 (kq ≤ k) ∧ Aside0 (w'.heap[gb134]? = some (.cells #[.int .i64 x135000_1, .int .i64 x135001_1] 25 (0, 0))) ∧ Aside0 (w'.heap[gb135]? = some (.cells #[.int .i64 x136000_1, .int .i64 x136001_1] 25 (0, 0))) ∧ Aside0 (w'.heap[gb136]? = some (.cells #[.int .i64 a2_0, .int .i64 a2_1, .int .i64 a2_2, .int .i64 a2_3] 40 (0, 0))) ∧ Aside0 (w'.heap[gb137]? = some (.cells #[.int .i64 x138000_1, .int .i64 x138001_1] 25 (0, 0))) ∧ Aside0 (w'.heap[gb138]? = some (.cells #[.int .i64 x139000_1, .int .i64 x139001_1] 25 (0, 0))) ∧ Aside0 (Below w.heap.size w w'))
 case atStart => exact ⟨(0), (a0_0), (a0_1), (a1_0), (a1_1), (0), (0), (0), (0), (by first | rfl | (simp; done) | (simp [*]; done)), H', ⟨Nat.le_refl _⟩, ⟨by (with_reducible repeat (first | apply blk_drewN | apply blk_drew | apply blk_alloc)); exact BK134.out⟩, ⟨by (with_reducible repeat (first | apply blk_drewN | apply blk_drew | apply blk_alloc)); exact BK135.out⟩, ⟨by (with_reducible repeat (first | apply blk_drewN | apply blk_drew | apply blk_alloc)); exact BK136.out⟩, ⟨by (with_reducible repeat (first | apply blk_drewN | apply blk_drew | apply blk_alloc)); exact BK137.out⟩, ⟨by (with_reducible repeat (first | apply blk_drewN | apply blk_drew | apply blk_alloc)); exact BK138.out⟩, ⟨by repeat (first | (with_reducible first | exact HB.out | apply below_alloc | apply pw_below_drewN | apply below_drew1 | refine below_set ?_ GE134.out | refine below_set ?_ GE135.out | refine below_set ?_ GE136.out | refine below_set ?_ GE137.out | refine below_set ?_ GE138.out) | exact HB.out)⟩⟩
 case round =>
  clear H'
  try clear c1
  try clear p2
  try clear c4
  try clear c10
  try clear c11
  try clear c12
  try clear c13
  try clear hcz14_0
  try clear hcz14_1
  try clear hcz14_2
  try clear hcz14_3
  try clear hfz14_0
  try clear hfz14_1
  try clear hfz14_2
  try clear hfz14_3
  obtain ⟨x15_1, x135000_1, x135001_1, x136000_1, x136001_1, x138000_1, x138001_1, x139000_1, x139001_1, rfl, HA, HK1, BK134, BK135, BK136, BK137, BK138, HB⟩ := hrel
  cases gk with
  | zero => exact absurd HA.out (by simp [clip_piece.l0])
  | succ k1 =>
   have H := HA.out
   clear HA
   simp only [clip_piece.l0] at H
   by_cases c16 : x15_1 < 4
   ·rw [if_pos c16] at H
    have c16b0 : decide (x15_1 < 4) = true := decide_eq_true c16
    clear c16
    by_cases c17 : 0 ≤ x15_1
    ·rw [if_pos c17] at H
     have c17b0 : decide (0 ≤ x15_1) = true := decide_eq_true c17
     clear c17
     replace H := Option.bind_eq_some_iff.mp H
     obtain ⟨t152, A190, H⟩ := H
     replace H : ((clip_half_has.f ((ix_63 (⟨(⟨t139, t140, t141⟩ : S62), (⟨t142, t143, t144⟩ : S62), (⟨t145, t146, t147⟩ : S62), (⟨t148, t149, t150⟩ : S62)⟩ : S63) x15_1).f0) ((ix_63 (⟨(⟨t139, t140, t141⟩ : S62), (⟨t142, t143, t144⟩ : S62), (⟨t145, t146, t147⟩ : S62), (⟨t148, t149, t150⟩ : S62)⟩ : S63) x15_1).f1) ((ix_63 (⟨(⟨t139, t140, t141⟩ : S62), (⟨t142, t143, t144⟩ : S62), (⟨t145, t146, t147⟩ : S62), (⟨t148, t149, t150⟩ : S62)⟩ : S63) x15_1).f2) x136000_1 x136001_1).bind fun t153 => (if t152 = true then (clip_piece.j1 k1 t152 t153 x15_1 false t139 t140 t141 t142 t143 t144 t145 t146 t147 t148 t149 t150 x135000_1 x135001_1 x136000_1 x136001_1 ((ix_63 (⟨(⟨t139, t140, t141⟩ : S62), (⟨t142, t143, t144⟩ : S62), (⟨t145, t146, t147⟩ : S62), (⟨t148, t149, t150⟩ : S62)⟩ : S63) x15_1).f0) ((ix_63 (⟨(⟨t139, t140, t141⟩ : S62), (⟨t142, t143, t144⟩ : S62), (⟨t145, t146, t147⟩ : S62), (⟨t148, t149, t150⟩ : S62)⟩ : S63) x15_1).f1) ((ix_63 (⟨(⟨t139, t140, t141⟩ : S62), (⟨t142, t143, t144⟩ : S62), (⟨t145, t146, t147⟩ : S62), (⟨t148, t149, t150⟩ : S62)⟩ : S63) x15_1).f2)) else (clip_piece.j1 k1 t152 t153 x15_1 (!t153) t139 t140 t141 t142 t143 t144 t145 t146 t147 t148 t149 t150 x135000_1 x135001_1 x136000_1 x136001_1 ((ix_63 (⟨(⟨t139, t140, t141⟩ : S62), (⟨t142, t143, t144⟩ : S62), (⟨t145, t146, t147⟩ : S62), (⟨t148, t149, t150⟩ : S62)⟩ : S63) x15_1).f0) ((ix_63 (⟨(⟨t139, t140, t141⟩ : S62), (⟨t142, t143, t144⟩ : S62), (⟨t145, t146, t147⟩ : S62), (⟨t148, t149, t150⟩ : S62)⟩ : S63) x15_1).f1) ((ix_63 (⟨(⟨t139, t140, t141⟩ : S62), (⟨t142, t143, t144⟩ : S62), (⟨t145, t146, t147⟩ : S62), (⟨t148, t149, t150⟩ : S62)⟩ : S63) x15_1).f2)))) = some (r1, r2, r3, r4, r5) := H
     have A19 := Aside0.mk A190
     clear A190
     replace H := Option.bind_eq_some_iff.mp H
     obtain ⟨t153, A200, H⟩ := H
     replace H : (if t152 = true then (clip_piece.j1 k1 t152 t153 x15_1 false t139 t140 t141 t142 t143 t144 t145 t146 t147 t148 t149 t150 x135000_1 x135001_1 x136000_1 x136001_1 ((ix_63 (⟨(⟨t139, t140, t141⟩ : S62), (⟨t142, t143, t144⟩ : S62), (⟨t145, t146, t147⟩ : S62), (⟨t148, t149, t150⟩ : S62)⟩ : S63) x15_1).f0) ((ix_63 (⟨(⟨t139, t140, t141⟩ : S62), (⟨t142, t143, t144⟩ : S62), (⟨t145, t146, t147⟩ : S62), (⟨t148, t149, t150⟩ : S62)⟩ : S63) x15_1).f1) ((ix_63 (⟨(⟨t139, t140, t141⟩ : S62), (⟨t142, t143, t144⟩ : S62), (⟨t145, t146, t147⟩ : S62), (⟨t148, t149, t150⟩ : S62)⟩ : S63) x15_1).f2)) else (clip_piece.j1 k1 t152 t153 x15_1 (!t153) t139 t140 t141 t142 t143 t144 t145 t146 t147 t148 t149 t150 x135000_1 x135001_1 x136000_1 x136001_1 ((ix_63 (⟨(⟨t139, t140, t141⟩ : S62), (⟨t142, t143, t144⟩ : S62), (⟨t145, t146, t147⟩ : S62), (⟨t148, t149, t150⟩ : S62)⟩ : S63) x15_1).f0) ((ix_63 (⟨(⟨t139, t140, t141⟩ : S62), (⟨t142, t143, t144⟩ : S62), (⟨t145, t146, t147⟩ : S62), (⟨t148, t149, t150⟩ : S62)⟩ : S63) x15_1).f1) ((ix_63 (⟨(⟨t139, t140, t141⟩ : S62), (⟨t142, t143, t144⟩ : S62), (⟨t145, t146, t147⟩ : S62), (⟨t148, t149, t150⟩ : S62)⟩ : S63) x15_1).f2))) = some (r1, r2, r3, r4, r5) := H
     have A20 := Aside0.mk A200
     clear A200
     have HC21 := Aside0.mk H
     clear H
     have p18 : 0 ≤ (x15_1 : Int) := of_decide_eq_true (by first | (with_reducible assumption) | assumption)
     have q18 : (x15_1 : Int) < 4 := of_decide_eq_true (by first | (with_reducible assumption) | assumption)
     have hix18 : ∀ W_ : World, (Instr.index 63 (.agg #[.bool t139, .bool t140, .int .i64 t141, .bool t142, .bool t143, .int .i64 t144, .bool t145, .bool t146, .int .i64 t147, .bool t148, .bool t149, .int .i64 t150]) (.int .i64 x15_1)).run Try.prog W_ = .ok (.agg #[.bool ((ix_63 (⟨(⟨t139, t140, t141⟩ : S62), (⟨t142, t143, t144⟩ : S62), (⟨t145, t146, t147⟩ : S62), (⟨t148, t149, t150⟩ : S62)⟩ : S63) x15_1).f0), .bool ((ix_63 (⟨(⟨t139, t140, t141⟩ : S62), (⟨t142, t143, t144⟩ : S62), (⟨t145, t146, t147⟩ : S62), (⟨t148, t149, t150⟩ : S62)⟩ : S63) x15_1).f1), .int .i64 ((ix_63 (⟨(⟨t139, t140, t141⟩ : S62), (⟨t142, t143, t144⟩ : S62), (⟨t145, t146, t147⟩ : S62), (⟨t148, t149, t150⟩ : S62)⟩ : S63) x15_1).f2)]) W_ := index_63 (⟨(⟨t139, t140, t141⟩ : S62), (⟨t142, t143, t144⟩ : S62), (⟨t145, t146, t147⟩ : S62), (⟨t148, t149, t150⟩ : S62)⟩ : S63) x15_1 p18 q18
     replace p18 := eq_true p18
     replace q18 := eq_true q18
     try go_wp2_with (first | ((with_reducible refine gate_dst (N := 10) rfl ?_); refine box_event ?hg (N := 10) ?hd (cs := #[.bool false, .bool false, .int .i64 0]) (t := 62) ?hr ?_; (case hd => rfl); (case hg => rfl); (case hr => first | (go_simp; done) | (go_simp; rfl)); intro gb151 hg w22 hbox hb; have n0_ := Aside0.mk (blk_below (g := gb134) (o := .cells #[.int .i64 x135000_1, .int .i64 x135001_1] 25 (0, 0)) (by (with_reducible repeat (first | apply blk_drewN | apply blk_drew | apply blk_alloc)); exact BK134.out) hb); have n1_ := Aside0.mk (blk_below (g := gb135) (o := .cells #[.int .i64 x136000_1, .int .i64 x136001_1] 25 (0, 0)) (by (with_reducible repeat (first | apply blk_drewN | apply blk_drew | apply blk_alloc)); exact BK135.out) hb); have n2_ := Aside0.mk (blk_below (g := gb136) (o := .cells #[.int .i64 a2_0, .int .i64 a2_1, .int .i64 a2_2, .int .i64 a2_3] 40 (0, 0)) (by (with_reducible repeat (first | apply blk_drewN | apply blk_drew | apply blk_alloc)); exact BK136.out) hb); have n3_ := Aside0.mk (blk_below (g := gb137) (o := .cells #[.int .i64 x138000_1, .int .i64 x138001_1] 25 (0, 0)) (by (with_reducible repeat (first | apply blk_drewN | apply blk_drew | apply blk_alloc)); exact BK137.out) hb); have n4_ := Aside0.mk (blk_below (g := gb138) (o := .cells #[.int .i64 x139000_1, .int .i64 x139001_1] 25 (0, 0)) (by (with_reducible repeat (first | apply blk_drewN | apply blk_drew | apply blk_alloc)); exact BK138.out) hb); have n5_ := Aside0.mk (below_step (by repeat (first | (with_reducible first | exact HB.out | apply below_alloc | apply pw_below_drewN | apply below_drew1 | refine below_set ?_ GE134.out | refine below_set ?_ GE135.out | refine below_set ?_ GE136.out | refine below_set ?_ GE137.out | refine below_set ?_ GE138.out) | exact HB.out)) hb); have n6_ := Aside0.mk (hbox); have n7_ := Aside0.mk ((by rw [hg]; exact (below_size (by repeat (first | (with_reducible first | exact HB.out | apply below_alloc | apply pw_below_drewN | apply below_drew1 | refine below_set ?_ GE134.out | refine below_set ?_ GE135.out | refine below_set ?_ GE136.out | refine below_set ?_ GE137.out | refine below_set ?_ GE138.out) | exact HB.out))) : w.heap.size ≤ gb151)); have n8_ := Aside0.mk ((by rw [hg]; exact (below_size (by repeat (first | (with_reducible first | exact HB.out | apply below_alloc | apply pw_below_drewN | apply below_drew1 | refine below_set ?_ GE134.out | refine below_set ?_ GE135.out | refine below_set ?_ GE136.out | refine below_set ?_ GE137.out | refine below_set ?_ GE138.out) | exact HB.out))) : w.heap.size ≤ gb151)); have n9_ := Aside0.mk ((by rw [hg]; exact Nat.ne_of_lt (blk_lt (g := gb134) (o := .cells #[.int .i64 x135000_1, .int .i64 x135001_1] 25 (0, 0)) (by (with_reducible repeat (first | apply blk_drewN | apply blk_drew | apply blk_alloc)); exact BK134.out)) : gb134 ≠ gb151)); have n10_ := Aside0.mk ((by rw [hg]; exact Nat.ne_of_gt (blk_lt (g := gb134) (o := .cells #[.int .i64 x135000_1, .int .i64 x135001_1] 25 (0, 0)) (by (with_reducible repeat (first | apply blk_drewN | apply blk_drew | apply blk_alloc)); exact BK134.out)) : gb151 ≠ gb134)); have n11_ := Aside0.mk ((by rw [hg]; exact Nat.ne_of_lt (blk_lt (g := gb135) (o := .cells #[.int .i64 x136000_1, .int .i64 x136001_1] 25 (0, 0)) (by (with_reducible repeat (first | apply blk_drewN | apply blk_drew | apply blk_alloc)); exact BK135.out)) : gb135 ≠ gb151)); have n12_ := Aside0.mk ((by rw [hg]; exact Nat.ne_of_gt (blk_lt (g := gb135) (o := .cells #[.int .i64 x136000_1, .int .i64 x136001_1] 25 (0, 0)) (by (with_reducible repeat (first | apply blk_drewN | apply blk_drew | apply blk_alloc)); exact BK135.out)) : gb151 ≠ gb135)); have n13_ := Aside0.mk ((by rw [hg]; exact Nat.ne_of_lt (blk_lt (g := gb136) (o := .cells #[.int .i64 a2_0, .int .i64 a2_1, .int .i64 a2_2, .int .i64 a2_3] 40 (0, 0)) (by (with_reducible repeat (first | apply blk_drewN | apply blk_drew | apply blk_alloc)); exact BK136.out)) : gb136 ≠ gb151)); have n14_ := Aside0.mk ((by rw [hg]; exact Nat.ne_of_gt (blk_lt (g := gb136) (o := .cells #[.int .i64 a2_0, .int .i64 a2_1, .int .i64 a2_2, .int .i64 a2_3] 40 (0, 0)) (by (with_reducible repeat (first | apply blk_drewN | apply blk_drew | apply blk_alloc)); exact BK136.out)) : gb151 ≠ gb136)); have n15_ := Aside0.mk ((by rw [hg]; exact Nat.ne_of_lt (blk_lt (g := gb137) (o := .cells #[.int .i64 x138000_1, .int .i64 x138001_1] 25 (0, 0)) (by (with_reducible repeat (first | apply blk_drewN | apply blk_drew | apply blk_alloc)); exact BK137.out)) : gb137 ≠ gb151)); have n16_ := Aside0.mk ((by rw [hg]; exact Nat.ne_of_gt (blk_lt (g := gb137) (o := .cells #[.int .i64 x138000_1, .int .i64 x138001_1] 25 (0, 0)) (by (with_reducible repeat (first | apply blk_drewN | apply blk_drew | apply blk_alloc)); exact BK137.out)) : gb151 ≠ gb137)); have n17_ := Aside0.mk ((by rw [hg]; exact Nat.ne_of_lt (blk_lt (g := gb138) (o := .cells #[.int .i64 x139000_1, .int .i64 x139001_1] 25 (0, 0)) (by (with_reducible repeat (first | apply blk_drewN | apply blk_drew | apply blk_alloc)); exact BK138.out)) : gb138 ≠ gb151)); have n18_ := Aside0.mk ((by rw [hg]; exact Nat.ne_of_gt (blk_lt (g := gb138) (o := .cells #[.int .i64 x139000_1, .int .i64 x139001_1] 25 (0, 0)) (by (with_reducible repeat (first | apply blk_drewN | apply blk_drew | apply blk_alloc)); exact BK138.out)) : gb151 ≠ gb138)); clear BK134; clear BK135; clear BK136; clear BK137; clear BK138; clear HB; have BK134 := n0_; have BK135 := n1_; have BK136 := n2_; have BK137 := n3_; have BK138 := n4_; have HB := n5_; have BK151 := n6_; have GW151 := n7_; have GE151 := n8_; have NB134_151 := n9_; have NB151_134 := n10_; have NB135_151 := n11_; have NB151_135 := n12_; have NB136_151 := n13_; have NB151_136 := n14_; have NB137_151 := n15_; have NB151_137 := n16_; have NB138_151 := n17_; have NB151_138 := n18_; clear n0_ n1_ n2_ n3_ n4_ n5_ n6_ n7_ n8_ n9_ n10_ n11_ n12_ n13_ n14_ n15_ n16_ n17_ n18_; clear hb hbox hg; have hnb23 := NB151_134.out; have hnc23 := NB134_151.out; have hnb24 := NB151_135.out; have hnc24 := NB135_151.out; have hnb25 := NB151_136.out; have hnc25 := NB136_151.out; have hnb26 := NB151_137.out; have hnc26 := NB137_151.out; have hnb27 := NB151_138.out; have hnc27 := NB138_151.out; have hcz28_0 : w22.cell? ⟨gb151, 0, none⟩ = some (.bool false) := (blk_cell BK151.out 0).trans rfl; have hcz28_1 : w22.cell? ⟨gb151, 1, none⟩ = some (.bool false) := (blk_cell BK151.out 1).trans rfl; have hcz28_2 : w22.cell? ⟨gb151, 2, none⟩ = some (.int .i64 0) := (blk_cell BK151.out 2).trans rfl; have hfz28_0 := blk_frozen BK151.out 0; have hfz28_1 := blk_frozen BK151.out 1; have hfz28_2 := blk_frozen BK151.out 2))
     have n0_ : Aside0 ((((w22.setCell ⟨gb151, 0, none⟩ (.bool ((ix_63 (⟨(⟨t139, t140, t141⟩ : S62), (⟨t142, t143, t144⟩ : S62), (⟨t145, t146, t147⟩ : S62), (⟨t148, t149, t150⟩ : S62)⟩ : S63) x15_1).f0))).setCell ⟨gb151, 1, none⟩ (.bool ((ix_63 (⟨(⟨t139, t140, t141⟩ : S62), (⟨t142, t143, t144⟩ : S62), (⟨t145, t146, t147⟩ : S62), (⟨t148, t149, t150⟩ : S62)⟩ : S63) x15_1).f1))).setCell ⟨gb151, 2, none⟩ (.int .i64 ((ix_63 (⟨(⟨t139, t140, t141⟩ : S62), (⟨t142, t143, t144⟩ : S62), (⟨t145, t146, t147⟩ : S62), (⟨t148, t149, t150⟩ : S62)⟩ : S63) x15_1).f2))).heap[gb134]? = some (.cells #[.int .i64 x135000_1, .int .i64 x135001_1] 25 (0, 0))) := ⟨by (with_reducible repeat (first | apply blk_drewN | apply blk_drew | apply blk_alloc)); refine blk_far ?_ NB134_151.out _; (with_reducible repeat (first | apply blk_drewN | apply blk_drew | apply blk_alloc)); refine blk_far ?_ NB134_151.out _; (with_reducible repeat (first | apply blk_drewN | apply blk_drew | apply blk_alloc)); refine blk_far ?_ NB134_151.out _; (with_reducible repeat (first | apply blk_drewN | apply blk_drew | apply blk_alloc)); exact BK134.out⟩
     have n1_ : Aside0 ((((w22.setCell ⟨gb151, 0, none⟩ (.bool ((ix_63 (⟨(⟨t139, t140, t141⟩ : S62), (⟨t142, t143, t144⟩ : S62), (⟨t145, t146, t147⟩ : S62), (⟨t148, t149, t150⟩ : S62)⟩ : S63) x15_1).f0))).setCell ⟨gb151, 1, none⟩ (.bool ((ix_63 (⟨(⟨t139, t140, t141⟩ : S62), (⟨t142, t143, t144⟩ : S62), (⟨t145, t146, t147⟩ : S62), (⟨t148, t149, t150⟩ : S62)⟩ : S63) x15_1).f1))).setCell ⟨gb151, 2, none⟩ (.int .i64 ((ix_63 (⟨(⟨t139, t140, t141⟩ : S62), (⟨t142, t143, t144⟩ : S62), (⟨t145, t146, t147⟩ : S62), (⟨t148, t149, t150⟩ : S62)⟩ : S63) x15_1).f2))).heap[gb135]? = some (.cells #[.int .i64 x136000_1, .int .i64 x136001_1] 25 (0, 0))) := ⟨by (with_reducible repeat (first | apply blk_drewN | apply blk_drew | apply blk_alloc)); refine blk_far ?_ NB135_151.out _; (with_reducible repeat (first | apply blk_drewN | apply blk_drew | apply blk_alloc)); refine blk_far ?_ NB135_151.out _; (with_reducible repeat (first | apply blk_drewN | apply blk_drew | apply blk_alloc)); refine blk_far ?_ NB135_151.out _; (with_reducible repeat (first | apply blk_drewN | apply blk_drew | apply blk_alloc)); exact BK135.out⟩
     have n2_ : Aside0 ((((w22.setCell ⟨gb151, 0, none⟩ (.bool ((ix_63 (⟨(⟨t139, t140, t141⟩ : S62), (⟨t142, t143, t144⟩ : S62), (⟨t145, t146, t147⟩ : S62), (⟨t148, t149, t150⟩ : S62)⟩ : S63) x15_1).f0))).setCell ⟨gb151, 1, none⟩ (.bool ((ix_63 (⟨(⟨t139, t140, t141⟩ : S62), (⟨t142, t143, t144⟩ : S62), (⟨t145, t146, t147⟩ : S62), (⟨t148, t149, t150⟩ : S62)⟩ : S63) x15_1).f1))).setCell ⟨gb151, 2, none⟩ (.int .i64 ((ix_63 (⟨(⟨t139, t140, t141⟩ : S62), (⟨t142, t143, t144⟩ : S62), (⟨t145, t146, t147⟩ : S62), (⟨t148, t149, t150⟩ : S62)⟩ : S63) x15_1).f2))).heap[gb136]? = some (.cells #[.int .i64 a2_0, .int .i64 a2_1, .int .i64 a2_2, .int .i64 a2_3] 40 (0, 0))) := ⟨by (with_reducible repeat (first | apply blk_drewN | apply blk_drew | apply blk_alloc)); refine blk_far ?_ NB136_151.out _; (with_reducible repeat (first | apply blk_drewN | apply blk_drew | apply blk_alloc)); refine blk_far ?_ NB136_151.out _; (with_reducible repeat (first | apply blk_drewN | apply blk_drew | apply blk_alloc)); refine blk_far ?_ NB136_151.out _; (with_reducible repeat (first | apply blk_drewN | apply blk_drew | apply blk_alloc)); exact BK136.out⟩
     have n3_ : Aside0 ((((w22.setCell ⟨gb151, 0, none⟩ (.bool ((ix_63 (⟨(⟨t139, t140, t141⟩ : S62), (⟨t142, t143, t144⟩ : S62), (⟨t145, t146, t147⟩ : S62), (⟨t148, t149, t150⟩ : S62)⟩ : S63) x15_1).f0))).setCell ⟨gb151, 1, none⟩ (.bool ((ix_63 (⟨(⟨t139, t140, t141⟩ : S62), (⟨t142, t143, t144⟩ : S62), (⟨t145, t146, t147⟩ : S62), (⟨t148, t149, t150⟩ : S62)⟩ : S63) x15_1).f1))).setCell ⟨gb151, 2, none⟩ (.int .i64 ((ix_63 (⟨(⟨t139, t140, t141⟩ : S62), (⟨t142, t143, t144⟩ : S62), (⟨t145, t146, t147⟩ : S62), (⟨t148, t149, t150⟩ : S62)⟩ : S63) x15_1).f2))).heap[gb137]? = some (.cells #[.int .i64 x138000_1, .int .i64 x138001_1] 25 (0, 0))) := ⟨by (with_reducible repeat (first | apply blk_drewN | apply blk_drew | apply blk_alloc)); refine blk_far ?_ NB137_151.out _; (with_reducible repeat (first | apply blk_drewN | apply blk_drew | apply blk_alloc)); refine blk_far ?_ NB137_151.out _; (with_reducible repeat (first | apply blk_drewN | apply blk_drew | apply blk_alloc)); refine blk_far ?_ NB137_151.out _; (with_reducible repeat (first | apply blk_drewN | apply blk_drew | apply blk_alloc)); exact BK137.out⟩
     have n4_ : Aside0 ((((w22.setCell ⟨gb151, 0, none⟩ (.bool ((ix_63 (⟨(⟨t139, t140, t141⟩ : S62), (⟨t142, t143, t144⟩ : S62), (⟨t145, t146, t147⟩ : S62), (⟨t148, t149, t150⟩ : S62)⟩ : S63) x15_1).f0))).setCell ⟨gb151, 1, none⟩ (.bool ((ix_63 (⟨(⟨t139, t140, t141⟩ : S62), (⟨t142, t143, t144⟩ : S62), (⟨t145, t146, t147⟩ : S62), (⟨t148, t149, t150⟩ : S62)⟩ : S63) x15_1).f1))).setCell ⟨gb151, 2, none⟩ (.int .i64 ((ix_63 (⟨(⟨t139, t140, t141⟩ : S62), (⟨t142, t143, t144⟩ : S62), (⟨t145, t146, t147⟩ : S62), (⟨t148, t149, t150⟩ : S62)⟩ : S63) x15_1).f2))).heap[gb138]? = some (.cells #[.int .i64 x139000_1, .int .i64 x139001_1] 25 (0, 0))) := ⟨by (with_reducible repeat (first | apply blk_drewN | apply blk_drew | apply blk_alloc)); refine blk_far ?_ NB138_151.out _; (with_reducible repeat (first | apply blk_drewN | apply blk_drew | apply blk_alloc)); refine blk_far ?_ NB138_151.out _; (with_reducible repeat (first | apply blk_drewN | apply blk_drew | apply blk_alloc)); refine blk_far ?_ NB138_151.out _; (with_reducible repeat (first | apply blk_drewN | apply blk_drew | apply blk_alloc)); exact BK138.out⟩
     have n5_ : Aside0 ((((w22.setCell ⟨gb151, 0, none⟩ (.bool ((ix_63 (⟨(⟨t139, t140, t141⟩ : S62), (⟨t142, t143, t144⟩ : S62), (⟨t145, t146, t147⟩ : S62), (⟨t148, t149, t150⟩ : S62)⟩ : S63) x15_1).f0))).setCell ⟨gb151, 1, none⟩ (.bool ((ix_63 (⟨(⟨t139, t140, t141⟩ : S62), (⟨t142, t143, t144⟩ : S62), (⟨t145, t146, t147⟩ : S62), (⟨t148, t149, t150⟩ : S62)⟩ : S63) x15_1).f1))).setCell ⟨gb151, 2, none⟩ (.int .i64 ((ix_63 (⟨(⟨t139, t140, t141⟩ : S62), (⟨t142, t143, t144⟩ : S62), (⟨t145, t146, t147⟩ : S62), (⟨t148, t149, t150⟩ : S62)⟩ : S63) x15_1).f2))).heap[gb151]? = some (.cells #[.bool ((ix_63 (⟨(⟨t139, t140, t141⟩ : S62), (⟨t142, t143, t144⟩ : S62), (⟨t145, t146, t147⟩ : S62), (⟨t148, t149, t150⟩ : S62)⟩ : S63) x15_1).f0), .bool ((ix_63 (⟨(⟨t139, t140, t141⟩ : S62), (⟨t142, t143, t144⟩ : S62), (⟨t145, t146, t147⟩ : S62), (⟨t148, t149, t150⟩ : S62)⟩ : S63) x15_1).f1), .int .i64 ((ix_63 (⟨(⟨t139, t140, t141⟩ : S62), (⟨t142, t143, t144⟩ : S62), (⟨t145, t146, t147⟩ : S62), (⟨t148, t149, t150⟩ : S62)⟩ : S63) x15_1).f2)] 62 (0, 0))) := ⟨by (with_reducible repeat (first | apply blk_drewN | apply blk_drew | apply blk_alloc)); refine blk_put (cs := #[.bool ((ix_63 (⟨(⟨t139, t140, t141⟩ : S62), (⟨t142, t143, t144⟩ : S62), (⟨t145, t146, t147⟩ : S62), (⟨t148, t149, t150⟩ : S62)⟩ : S63) x15_1).f0), .bool ((ix_63 (⟨(⟨t139, t140, t141⟩ : S62), (⟨t142, t143, t144⟩ : S62), (⟨t145, t146, t147⟩ : S62), (⟨t148, t149, t150⟩ : S62)⟩ : S63) x15_1).f1), .int .i64 0]) ?_ 2 _ rfl; (with_reducible repeat (first | apply blk_drewN | apply blk_drew | apply blk_alloc)); refine blk_put (cs := #[.bool ((ix_63 (⟨(⟨t139, t140, t141⟩ : S62), (⟨t142, t143, t144⟩ : S62), (⟨t145, t146, t147⟩ : S62), (⟨t148, t149, t150⟩ : S62)⟩ : S63) x15_1).f0), .bool false, .int .i64 0]) ?_ 1 _ rfl; (with_reducible repeat (first | apply blk_drewN | apply blk_drew | apply blk_alloc)); refine blk_put (cs := #[.bool false, .bool false, .int .i64 0]) ?_ 0 _ rfl; (with_reducible repeat (first | apply blk_drewN | apply blk_drew | apply blk_alloc)); exact BK151.out⟩
     have n6_ : Aside0 (Below w.heap.size w (((w22.setCell ⟨gb151, 0, none⟩ (.bool ((ix_63 (⟨(⟨t139, t140, t141⟩ : S62), (⟨t142, t143, t144⟩ : S62), (⟨t145, t146, t147⟩ : S62), (⟨t148, t149, t150⟩ : S62)⟩ : S63) x15_1).f0))).setCell ⟨gb151, 1, none⟩ (.bool ((ix_63 (⟨(⟨t139, t140, t141⟩ : S62), (⟨t142, t143, t144⟩ : S62), (⟨t145, t146, t147⟩ : S62), (⟨t148, t149, t150⟩ : S62)⟩ : S63) x15_1).f1))).setCell ⟨gb151, 2, none⟩ (.int .i64 ((ix_63 (⟨(⟨t139, t140, t141⟩ : S62), (⟨t142, t143, t144⟩ : S62), (⟨t145, t146, t147⟩ : S62), (⟨t148, t149, t150⟩ : S62)⟩ : S63) x15_1).f2)))) := ⟨by repeat (first | (with_reducible first | exact HB.out | apply below_alloc | apply pw_below_drewN | apply below_drew1 | refine below_set ?_ GE134.out | refine below_set ?_ GE135.out | refine below_set ?_ GE136.out | refine below_set ?_ GE137.out | refine below_set ?_ GE138.out | refine below_set ?_ GE151.out) | exact HB.out)⟩
     (try clear BK134)
     (try clear BK135)
     (try clear BK136)
     (try clear BK137)
     (try clear BK138)
     (try clear BK151)
     (try clear HB)
     generalize (((w22.setCell ⟨gb151, 0, none⟩ (.bool ((ix_63 (⟨(⟨t139, t140, t141⟩ : S62), (⟨t142, t143, t144⟩ : S62), (⟨t145, t146, t147⟩ : S62), (⟨t148, t149, t150⟩ : S62)⟩ : S63) x15_1).f0))).setCell ⟨gb151, 1, none⟩ (.bool ((ix_63 (⟨(⟨t139, t140, t141⟩ : S62), (⟨t142, t143, t144⟩ : S62), (⟨t145, t146, t147⟩ : S62), (⟨t148, t149, t150⟩ : S62)⟩ : S63) x15_1).f1))).setCell ⟨gb151, 2, none⟩ (.int .i64 ((ix_63 (⟨(⟨t139, t140, t141⟩ : S62), (⟨t142, t143, t144⟩ : S62), (⟨t145, t146, t147⟩ : S62), (⟨t148, t149, t150⟩ : S62)⟩ : S63) x15_1).f2))) = w29 at n0_ n1_ n2_ n3_ n4_ n5_ n6_ ⊢
     have BK134 := n0_
     have BK135 := n1_
     have BK136 := n2_
     have BK137 := n3_
     have BK138 := n4_
     have BK151 := n5_
     have HB := n6_
     clear n0_ n1_ n2_ n3_ n4_ n5_ n6_
     have n0_ := Aside0.mk (blk_drew BK134.out)
     have n1_ := Aside0.mk (blk_drew BK135.out)
     have n2_ := Aside0.mk (blk_drew BK136.out)
     have n3_ := Aside0.mk (blk_drew BK137.out)
     have n4_ := Aside0.mk (blk_drew BK138.out)
     have n5_ := Aside0.mk (blk_drew BK151.out)
     have n6_ := Aside0.mk (below_drew1 HB.out)
     clear BK134
     clear BK135
     clear BK136
     clear BK137
     clear BK138
     clear BK151
     clear HB
     have BK134 := n0_
     have BK135 := n1_
     have BK136 := n2_
     have BK137 := n3_
     have BK138 := n4_
     have BK151 := n5_
     have HB := n6_
     clear n0_ n1_ n2_ n3_ n4_ n5_ n6_
     refine start_ (n := 8) (S := fun w' => w'.cell? ⟨gb151, 0, none⟩ = some (.bool ((ix_63 (⟨(⟨t139, t140, t141⟩ : S62), (⟨t142, t143, t144⟩ : S62), (⟨t145, t146, t147⟩ : S62), (⟨t148, t149, t150⟩ : S62)⟩ : S63) x15_1).f0)) ∧ w'.cell? ⟨gb151, 1, none⟩ = some (.bool ((ix_63 (⟨(⟨t139, t140, t141⟩ : S62), (⟨t142, t143, t144⟩ : S62), (⟨t145, t146, t147⟩ : S62), (⟨t148, t149, t150⟩ : S62)⟩ : S63) x15_1).f1)) ∧ w'.cell? ⟨gb151, 2, none⟩ = some (.int .i64 ((ix_63 (⟨(⟨t139, t140, t141⟩ : S62), (⟨t142, t143, t144⟩ : S62), (⟨t145, t146, t147⟩ : S62), (⟨t148, t149, t150⟩ : S62)⟩ : S63) x15_1).f2)) ∧ w'.cell? ⟨gb134, 0, none⟩ = some (.int .i64 x135000_1) ∧ w'.cell? ⟨gb134, 1, none⟩ = some (.int .i64 x135001_1) ∧ w'.cell? ⟨gb135, 0, none⟩ = some (.int .i64 x136000_1) ∧ w'.cell? ⟨gb135, 1, none⟩ = some (.int .i64 x136001_1)) (ds := []) #[false, false, false, false, false, false, false, false] (by kernel_rfl) rfl rfl ⟨(blk_cell BK151.out 0).trans rfl, (blk_cell BK151.out 1).trans rfl, (blk_cell BK151.out 2).trans rfl, (blk_cell BK134.out 0).trans rfl, (blk_cell BK134.out 1).trans rfl, (blk_cell BK135.out 0).trans rfl, (blk_cell BK135.out 1).trans rfl⟩ (fun hHeld => ?_); refine with_tabW clip_piece.tab4 clip_piece.bits4 (fun HT_ HW_ => ?_)
     generalize w29.drew = w30 at BK134 BK135 BK136 BK137 BK138 BK151 HB hHeld ⊢
     refine take_ (i := 0) (N := some 18) (v := ?_) (a' := ?_) #[true, false, false, false, false, false, false, false] rfl rfl (take_ofW HT_.out HW_.out (by kernel_rfl)) (fun _ _ _ h => h) (Or.inl ⟨by rfl, ?_⟩) hHeld ?_ ?_
     rotate_left
     ·rintro w' ⟨s0, s1, s2, s3, s4, s5, s6⟩
      go_simp
      with_reducible rfl
     rotate_left
     ·simp only [Act.put, List.setIfInBounds_toArray, List.set_cons_zero, List.set_cons_succ, i64_w, i32_w]
      rfl
     refine take_ (i := 1) (N := some 19) (v := ?_) (a' := ?_) #[true, true, false, false, false, false, false, false] rfl rfl (take_ofW HT_.out HW_.out (by kernel_rfl)) (fun _ _ _ h => h) (Or.inl ⟨by rfl, ?_⟩) hHeld ?_ ?_
     rotate_left
     ·rintro w' ⟨s0, s1, s2, s3, s4, s5, s6⟩
      go_simp
      with_reducible rfl
     rotate_left
     ·simp only [Act.put, List.setIfInBounds_toArray, List.set_cons_zero, List.set_cons_succ, i64_w, i32_w]
      rfl
     refine take_ (i := 3) (N := some 21) (v := ?_) (a' := ?_) #[true, true, false, true, false, false, false, false] rfl rfl (take_ofW HT_.out HW_.out (by kernel_rfl)) (fun _ _ _ h => h) (Or.inl ⟨by rfl, ?_⟩) hHeld ?_ ?_
     rotate_left
     ·rintro w' ⟨s0, s1, s2, s3, s4, s5, s6⟩
      go_simp
      with_reducible rfl
     rotate_left
     ·simp only [Act.put, List.setIfInBounds_toArray, List.set_cons_zero, List.set_cons_succ, i64_w, i32_w]
      rfl
     refine take_ (i := 4) (N := some 22) (v := ?_) (a' := ?_) #[true, true, false, true, true, false, false, false] rfl rfl (take_ofW HT_.out HW_.out (by kernel_rfl)) (fun _ _ _ h => h) (Or.inl ⟨by rfl, ?_⟩) hHeld ?_ ?_
     rotate_left
     ·rintro w' ⟨s0, s1, s2, s3, s4, s5, s6⟩
      go_simp
      with_reducible rfl
     rotate_left
     ·simp only [Act.put, List.setIfInBounds_toArray, List.set_cons_zero, List.set_cons_succ, i64_w, i32_w]
      rfl
     refine one_ (i := 2) (N := some 20) #[true, true, true, true, true, false, false, false] rfl rfl (one_of HT_.out (by kernel_rfl)) (by decide) (fun K hK => ?_)
     refine goes_ Try.func51 (by kernel_rfl) rfl #[.agg #[.bool ((ix_63 (⟨(⟨t139, t140, t141⟩ : S62), (⟨t142, t143, t144⟩ : S62), (⟨t145, t146, t147⟩ : S62), (⟨t148, t149, t150⟩ : S62)⟩ : S63) x15_1).f0), .bool ((ix_63 (⟨(⟨t139, t140, t141⟩ : S62), (⟨t142, t143, t144⟩ : S62), (⟨t145, t146, t147⟩ : S62), (⟨t148, t149, t150⟩ : S62)⟩ : S63) x15_1).f1), .int .i64 ((ix_63 (⟨(⟨t139, t140, t141⟩ : S62), (⟨t142, t143, t144⟩ : S62), (⟨t145, t146, t147⟩ : S62), (⟨t148, t149, t150⟩ : S62)⟩ : S63) x15_1).f2)], .agg #[.int .i64 x135000_1, .int .i64 x135001_1]] (by rfl) rfl rfl (by (try simp only [List.map_toArray, List.map_cons, List.map_nil]); first | done | rfl | (simp only [List.length_drop, List.length_take]; rfl)) ?_
     with_reducible refine (clip_half_has.calls ((ix_63 (⟨(⟨t139, t140, t141⟩ : S62), (⟨t142, t143, t144⟩ : S62), (⟨t145, t146, t147⟩ : S62), (⟨t148, t149, t150⟩ : S62)⟩ : S63) x15_1).f0) ((ix_63 (⟨(⟨t139, t140, t141⟩ : S62), (⟨t142, t143, t144⟩ : S62), (⟨t145, t146, t147⟩ : S62), (⟨t148, t149, t150⟩ : S62)⟩ : S63) x15_1).f1) ((ix_63 (⟨(⟨t139, t140, t141⟩ : S62), (⟨t142, t143, t144⟩ : S62), (⟨t145, t146, t147⟩ : S62), (⟨t148, t149, t150⟩ : S62)⟩ : S63) x15_1).f2) x135000_1 x135001_1 t152 _ A19.out).mono ?_
     rintro e w31 ⟨rfl, hb⟩
     refine ⟨_, rfl, ?_⟩
     have n0_ := Aside0.mk (blk_below (g := gb134) (o := .cells #[.int .i64 x135000_1, .int .i64 x135001_1] 25 (0, 0)) (by (with_reducible repeat (first | apply blk_drewN | apply blk_drew | apply blk_alloc)); exact BK134.out) hb)
     have n1_ := Aside0.mk (blk_below (g := gb135) (o := .cells #[.int .i64 x136000_1, .int .i64 x136001_1] 25 (0, 0)) (by (with_reducible repeat (first | apply blk_drewN | apply blk_drew | apply blk_alloc)); exact BK135.out) hb)
     have n2_ := Aside0.mk (blk_below (g := gb136) (o := .cells #[.int .i64 a2_0, .int .i64 a2_1, .int .i64 a2_2, .int .i64 a2_3] 40 (0, 0)) (by (with_reducible repeat (first | apply blk_drewN | apply blk_drew | apply blk_alloc)); exact BK136.out) hb)
     have n3_ := Aside0.mk (blk_below (g := gb137) (o := .cells #[.int .i64 x138000_1, .int .i64 x138001_1] 25 (0, 0)) (by (with_reducible repeat (first | apply blk_drewN | apply blk_drew | apply blk_alloc)); exact BK137.out) hb)
     have n4_ := Aside0.mk (blk_below (g := gb138) (o := .cells #[.int .i64 x139000_1, .int .i64 x139001_1] 25 (0, 0)) (by (with_reducible repeat (first | apply blk_drewN | apply blk_drew | apply blk_alloc)); exact BK138.out) hb)
     have n5_ := Aside0.mk (blk_below (g := gb151) (o := .cells #[.bool ((ix_63 (⟨(⟨t139, t140, t141⟩ : S62), (⟨t142, t143, t144⟩ : S62), (⟨t145, t146, t147⟩ : S62), (⟨t148, t149, t150⟩ : S62)⟩ : S63) x15_1).f0), .bool ((ix_63 (⟨(⟨t139, t140, t141⟩ : S62), (⟨t142, t143, t144⟩ : S62), (⟨t145, t146, t147⟩ : S62), (⟨t148, t149, t150⟩ : S62)⟩ : S63) x15_1).f1), .int .i64 ((ix_63 (⟨(⟨t139, t140, t141⟩ : S62), (⟨t142, t143, t144⟩ : S62), (⟨t145, t146, t147⟩ : S62), (⟨t148, t149, t150⟩ : S62)⟩ : S63) x15_1).f2)] 62 (0, 0)) (by (with_reducible repeat (first | apply blk_drewN | apply blk_drew | apply blk_alloc)); exact BK151.out) hb)
     have n6_ := Aside0.mk (below_step (by repeat (first | (with_reducible first | exact HB.out | apply below_alloc | apply pw_below_drewN | apply below_drew1 | refine below_set ?_ GE134.out | refine below_set ?_ GE135.out | refine below_set ?_ GE136.out | refine below_set ?_ GE137.out | refine below_set ?_ GE138.out | refine below_set ?_ GE151.out) | exact HB.out)) hb)
     clear BK134
     clear BK135
     clear BK136
     clear BK137
     clear BK138
     clear BK151
     clear HB
     have BK134 := n0_
     have BK135 := n1_
     have BK136 := n2_
     have BK137 := n3_
     have BK138 := n4_
     have BK151 := n5_
     have HB := n6_
     clear n0_ n1_ n2_ n3_ n4_ n5_ n6_
     (try clear hb)
     (try clear hb2)
     (try clear hk)
     (try clear hi)
     refine hK.out _ _ ⟨(blk_cell BK151.out 0).trans rfl, (blk_cell BK151.out 1).trans rfl, (blk_cell BK151.out 2).trans rfl, (blk_cell BK134.out 0).trans rfl, (blk_cell BK134.out 1).trans rfl, (blk_cell BK135.out 0).trans rfl, (blk_cell BK135.out 1).trans rfl⟩ (fun hHeld => ?_)
     clear hK K
     refine norm_ (a' := ?_) ?_ ?_
     rotate_left
     ·show Act.put _ (some 20) _ = _
      simp only [Act.put, List.setIfInBounds_toArray, List.set_cons_zero, List.set_cons_succ, i64_w, i32_w]
      rfl
     refine one_ (i := 5) (N := some 23) #[true, true, true, true, true, true, false, false] rfl rfl (one_of HT_.out (by kernel_rfl)) (by decide) (fun K hK => ?_)
     refine goes_ Try.func51 (by kernel_rfl) rfl #[.agg #[.bool ((ix_63 (⟨(⟨t139, t140, t141⟩ : S62), (⟨t142, t143, t144⟩ : S62), (⟨t145, t146, t147⟩ : S62), (⟨t148, t149, t150⟩ : S62)⟩ : S63) x15_1).f0), .bool ((ix_63 (⟨(⟨t139, t140, t141⟩ : S62), (⟨t142, t143, t144⟩ : S62), (⟨t145, t146, t147⟩ : S62), (⟨t148, t149, t150⟩ : S62)⟩ : S63) x15_1).f1), .int .i64 ((ix_63 (⟨(⟨t139, t140, t141⟩ : S62), (⟨t142, t143, t144⟩ : S62), (⟨t145, t146, t147⟩ : S62), (⟨t148, t149, t150⟩ : S62)⟩ : S63) x15_1).f2)], .agg #[.int .i64 x136000_1, .int .i64 x136001_1]] (by rfl) rfl rfl (by (try simp only [List.map_toArray, List.map_cons, List.map_nil]); first | done | rfl | (simp only [List.length_drop, List.length_take]; rfl)) ?_
     with_reducible refine (clip_half_has.calls ((ix_63 (⟨(⟨t139, t140, t141⟩ : S62), (⟨t142, t143, t144⟩ : S62), (⟨t145, t146, t147⟩ : S62), (⟨t148, t149, t150⟩ : S62)⟩ : S63) x15_1).f0) ((ix_63 (⟨(⟨t139, t140, t141⟩ : S62), (⟨t142, t143, t144⟩ : S62), (⟨t145, t146, t147⟩ : S62), (⟨t148, t149, t150⟩ : S62)⟩ : S63) x15_1).f1) ((ix_63 (⟨(⟨t139, t140, t141⟩ : S62), (⟨t142, t143, t144⟩ : S62), (⟨t145, t146, t147⟩ : S62), (⟨t148, t149, t150⟩ : S62)⟩ : S63) x15_1).f2) x136000_1 x136001_1 t153 _ A20.out).mono ?_
     rintro e w32 ⟨rfl, hb⟩
     refine ⟨_, rfl, ?_⟩
     have n0_ := Aside0.mk (blk_below (g := gb134) (o := .cells #[.int .i64 x135000_1, .int .i64 x135001_1] 25 (0, 0)) (by (with_reducible repeat (first | apply blk_drewN | apply blk_drew | apply blk_alloc)); exact BK134.out) hb)
     have n1_ := Aside0.mk (blk_below (g := gb135) (o := .cells #[.int .i64 x136000_1, .int .i64 x136001_1] 25 (0, 0)) (by (with_reducible repeat (first | apply blk_drewN | apply blk_drew | apply blk_alloc)); exact BK135.out) hb)
     have n2_ := Aside0.mk (blk_below (g := gb136) (o := .cells #[.int .i64 a2_0, .int .i64 a2_1, .int .i64 a2_2, .int .i64 a2_3] 40 (0, 0)) (by (with_reducible repeat (first | apply blk_drewN | apply blk_drew | apply blk_alloc)); exact BK136.out) hb)
     have n3_ := Aside0.mk (blk_below (g := gb137) (o := .cells #[.int .i64 x138000_1, .int .i64 x138001_1] 25 (0, 0)) (by (with_reducible repeat (first | apply blk_drewN | apply blk_drew | apply blk_alloc)); exact BK137.out) hb)
     have n4_ := Aside0.mk (blk_below (g := gb138) (o := .cells #[.int .i64 x139000_1, .int .i64 x139001_1] 25 (0, 0)) (by (with_reducible repeat (first | apply blk_drewN | apply blk_drew | apply blk_alloc)); exact BK138.out) hb)
     have n5_ := Aside0.mk (blk_below (g := gb151) (o := .cells #[.bool ((ix_63 (⟨(⟨t139, t140, t141⟩ : S62), (⟨t142, t143, t144⟩ : S62), (⟨t145, t146, t147⟩ : S62), (⟨t148, t149, t150⟩ : S62)⟩ : S63) x15_1).f0), .bool ((ix_63 (⟨(⟨t139, t140, t141⟩ : S62), (⟨t142, t143, t144⟩ : S62), (⟨t145, t146, t147⟩ : S62), (⟨t148, t149, t150⟩ : S62)⟩ : S63) x15_1).f1), .int .i64 ((ix_63 (⟨(⟨t139, t140, t141⟩ : S62), (⟨t142, t143, t144⟩ : S62), (⟨t145, t146, t147⟩ : S62), (⟨t148, t149, t150⟩ : S62)⟩ : S63) x15_1).f2)] 62 (0, 0)) (by (with_reducible repeat (first | apply blk_drewN | apply blk_drew | apply blk_alloc)); exact BK151.out) hb)
     have n6_ := Aside0.mk (below_step (by repeat (first | (with_reducible first | exact HB.out | apply below_alloc | apply pw_below_drewN | apply below_drew1 | refine below_set ?_ GE134.out | refine below_set ?_ GE135.out | refine below_set ?_ GE136.out | refine below_set ?_ GE137.out | refine below_set ?_ GE138.out | refine below_set ?_ GE151.out) | exact HB.out)) hb)
     clear BK134
     clear BK135
     clear BK136
     clear BK137
     clear BK138
     clear BK151
     clear HB
     have BK134 := n0_
     have BK135 := n1_
     have BK136 := n2_
     have BK137 := n3_
     have BK138 := n4_
     have BK151 := n5_
     have HB := n6_
     clear n0_ n1_ n2_ n3_ n4_ n5_ n6_
     (try clear hb)
     (try clear hb2)
     (try clear hk)
     (try clear hi)
     refine hK.out _ _ ⟨(blk_cell BK151.out 0).trans rfl, (blk_cell BK151.out 1).trans rfl, (blk_cell BK151.out 2).trans rfl, (blk_cell BK134.out 0).trans rfl, (blk_cell BK134.out 1).trans rfl, (blk_cell BK135.out 0).trans rfl, (blk_cell BK135.out 1).trans rfl⟩ (fun hHeld => ?_)
     clear hK K
     refine norm_ (a' := ?_) ?_ ?_
     rotate_left
     ·show Act.put _ (some 23) _ = _
      simp only [Act.put, List.setIfInBounds_toArray, List.set_cons_zero, List.set_cons_succ, i64_w, i32_w]
      rfl
     refine pure_ (i := 6) (N := some 11) (v := ?_) (a' := ?_) #[true, true, true, true, true, true, true, false] rfl rfl (any_of HT_.out (by kernel_rfl)) (fun _ _ _ h => h) (Or.inl ⟨by rfl, ?_⟩) ?_ ?_
     rotate_left
     ·intro w'
      go_simp
      with_reducible rfl
     rotate_left
     ·simp only [Act.put, List.setIfInBounds_toArray, List.set_cons_zero, List.set_cons_succ, i64_w, i32_w]
      rfl
     refine pure_ (i := 7) (N := some 12) (v := ?_) (a' := ?_) #[true, true, true, true, true, true, true, true] rfl rfl (any_of HT_.out (by kernel_rfl)) (fun _ _ _ h => h) (Or.inl ⟨by rfl, ?_⟩) ?_ ?_
     rotate_left
     ·intro w'
      go_simp
      with_reducible rfl
     rotate_left
     ·simp only [Act.put, List.setIfInBounds_toArray, List.set_cons_zero, List.set_cons_succ, i64_w, i32_w]
      rfl
     refine done_ (done_of HT_.out (by kernel_rfl)) ?_
     go_upto_region 5 with (fail)
     go_cut [24] (fun v24 wc => ∃ (kq : Nat) (x24_20 : Bool), v24 = .bool x24_20 ∧ Aside0 (clip_piece.j1 kq t152 t153 x15_1 x24_20 t139 t140 t141 t142 t143 t144 t145 t146 t147 t148 t149 t150 x135000_1 x135001_1 x136000_1 x136001_1 ((ix_63 (⟨(⟨t139, t140, t141⟩ : S62), (⟨t142, t143, t144⟩ : S62), (⟨t145, t146, t147⟩ : S62), (⟨t148, t149, t150⟩ : S62)⟩ : S63) x15_1).f0) ((ix_63 (⟨(⟨t139, t140, t141⟩ : S62), (⟨t142, t143, t144⟩ : S62), (⟨t145, t146, t147⟩ : S62), (⟨t148, t149, t150⟩ : S62)⟩ : S63) x15_1).f1) ((ix_63 (⟨(⟨t139, t140, t141⟩ : S62), (⟨t142, t143, t144⟩ : S62), (⟨t145, t146, t147⟩ : S62), (⟨t148, t149, t150⟩ : S62)⟩ : S63) x15_1).f2) = some (r1, r2, r3, r4, r5)) ∧ Aside0 (kq ≤ k1) ∧ Aside0 (wc.heap[gb134]? = some (.cells #[.int .i64 x135000_1, .int .i64 x135001_1] 25 (0, 0))) ∧ Aside0 (wc.heap[gb135]? = some (.cells #[.int .i64 x136000_1, .int .i64 x136001_1] 25 (0, 0))) ∧ Aside0 (wc.heap[gb136]? = some (.cells #[.int .i64 a2_0, .int .i64 a2_1, .int .i64 a2_2, .int .i64 a2_3] 40 (0, 0))) ∧ Aside0 (wc.heap[gb137]? = some (.cells #[.int .i64 x138000_1, .int .i64 x138001_1] 25 (0, 0))) ∧ Aside0 (wc.heap[gb138]? = some (.cells #[.int .i64 x139000_1, .int .i64 x139001_1] 25 (0, 0))) ∧ Aside0 (wc.heap[gb151]? = some (.cells #[.bool ((ix_63 (⟨(⟨t139, t140, t141⟩ : S62), (⟨t142, t143, t144⟩ : S62), (⟨t145, t146, t147⟩ : S62), (⟨t148, t149, t150⟩ : S62)⟩ : S63) x15_1).f0), .bool ((ix_63 (⟨(⟨t139, t140, t141⟩ : S62), (⟨t142, t143, t144⟩ : S62), (⟨t145, t146, t147⟩ : S62), (⟨t148, t149, t150⟩ : S62)⟩ : S63) x15_1).f1), .int .i64 ((ix_63 (⟨(⟨t139, t140, t141⟩ : S62), (⟨t142, t143, t144⟩ : S62), (⟨t145, t146, t147⟩ : S62), (⟨t148, t149, t150⟩ : S62)⟩ : S63) x15_1).f2)] 62 (0, 0))) ∧ Aside0 (Below w.heap.size w wc))
     case first =>
      have H := HC21.out
      clear HC21
      by_cases c33 : t152 = true
      ·subst c33
       have H1 : (clip_piece.j1 k1 true t153 x15_1 false t139 t140 t141 t142 t143 t144 t145 t146 t147 t148 t149 t150 x135000_1 x135001_1 x136000_1 x136001_1 ((ix_63 (⟨(⟨t139, t140, t141⟩ : S62), (⟨t142, t143, t144⟩ : S62), (⟨t145, t146, t147⟩ : S62), (⟨t148, t149, t150⟩ : S62)⟩ : S63) x15_1).f0) ((ix_63 (⟨(⟨t139, t140, t141⟩ : S62), (⟨t142, t143, t144⟩ : S62), (⟨t145, t146, t147⟩ : S62), (⟨t148, t149, t150⟩ : S62)⟩ : S63) x15_1).f1) ((ix_63 (⟨(⟨t139, t140, t141⟩ : S62), (⟨t142, t143, t144⟩ : S62), (⟨t145, t146, t147⟩ : S62), (⟨t148, t149, t150⟩ : S62)⟩ : S63) x15_1).f2)) = some (r1, r2, r3, r4, r5) := by rw [if_pos rfl] at H; exact H
       clear H
       have H := H1
       clear H1
       have H' := Aside0.mk H
       clear H
       go_wp2
       go_meet
       case rel => exact ⟨_, (false), (by first | rfl | (simp; done) | (simp [*]; done)), H', ⟨by have := HK1.out; first | omega | exact Nat.le_refl _⟩, ⟨by (with_reducible repeat (first | apply blk_drewN | apply blk_drew | apply blk_alloc)); exact BK134.out⟩, ⟨by (with_reducible repeat (first | apply blk_drewN | apply blk_drew | apply blk_alloc)); exact BK135.out⟩, ⟨by (with_reducible repeat (first | apply blk_drewN | apply blk_drew | apply blk_alloc)); exact BK136.out⟩, ⟨by (with_reducible repeat (first | apply blk_drewN | apply blk_drew | apply blk_alloc)); exact BK137.out⟩, ⟨by (with_reducible repeat (first | apply blk_drewN | apply blk_drew | apply blk_alloc)); exact BK138.out⟩, ⟨by (with_reducible repeat (first | apply blk_drewN | apply blk_drew | apply blk_alloc)); exact BK151.out⟩, ⟨by repeat (first | (with_reducible first | exact HB.out | apply below_alloc | apply pw_below_drewN | apply below_drew1 | refine below_set ?_ GE134.out | refine below_set ?_ GE135.out | refine below_set ?_ GE136.out | refine below_set ?_ GE137.out | refine below_set ?_ GE138.out | refine below_set ?_ GE151.out) | exact HB.out)⟩⟩
      ·replace c33 := Bool.eq_false_iff.mpr c33
       subst c33
       have H1 : (clip_piece.j1 k1 false t153 x15_1 (!t153) t139 t140 t141 t142 t143 t144 t145 t146 t147 t148 t149 t150 x135000_1 x135001_1 x136000_1 x136001_1 ((ix_63 (⟨(⟨t139, t140, t141⟩ : S62), (⟨t142, t143, t144⟩ : S62), (⟨t145, t146, t147⟩ : S62), (⟨t148, t149, t150⟩ : S62)⟩ : S63) x15_1).f0) ((ix_63 (⟨(⟨t139, t140, t141⟩ : S62), (⟨t142, t143, t144⟩ : S62), (⟨t145, t146, t147⟩ : S62), (⟨t148, t149, t150⟩ : S62)⟩ : S63) x15_1).f1) ((ix_63 (⟨(⟨t139, t140, t141⟩ : S62), (⟨t142, t143, t144⟩ : S62), (⟨t145, t146, t147⟩ : S62), (⟨t148, t149, t150⟩ : S62)⟩ : S63) x15_1).f2)) = some (r1, r2, r3, r4, r5) := by rw [if_neg (show ¬ (false = true) by decide)] at H; exact H
       clear H
       have H := H1
       clear H1
       have H' := Aside0.mk H
       clear H
       go_wp2
       go_meet
       case rel => exact ⟨_, (!t153), (by first | rfl | (simp; done) | (simp [*]; done)), H', ⟨by have := HK1.out; first | omega | exact Nat.le_refl _⟩, ⟨by (with_reducible repeat (first | apply blk_drewN | apply blk_drew | apply blk_alloc)); exact BK134.out⟩, ⟨by (with_reducible repeat (first | apply blk_drewN | apply blk_drew | apply blk_alloc)); exact BK135.out⟩, ⟨by (with_reducible repeat (first | apply blk_drewN | apply blk_drew | apply blk_alloc)); exact BK136.out⟩, ⟨by (with_reducible repeat (first | apply blk_drewN | apply blk_drew | apply blk_alloc)); exact BK137.out⟩, ⟨by (with_reducible repeat (first | apply blk_drewN | apply blk_drew | apply blk_alloc)); exact BK138.out⟩, ⟨by (with_reducible repeat (first | apply blk_drewN | apply blk_drew | apply blk_alloc)); exact BK151.out⟩, ⟨by repeat (first | (with_reducible first | exact HB.out | apply below_alloc | apply pw_below_drewN | apply below_drew1 | refine below_set ?_ GE134.out | refine below_set ?_ GE135.out | refine below_set ?_ GE136.out | refine below_set ?_ GE137.out | refine below_set ?_ GE138.out | refine below_set ?_ GE151.out) | exact HB.out)⟩⟩
     case rest =>
      clear HC21
      try clear c1
      try clear p1
      try clear q1
      try clear c2
      try clear p2
      try clear c3
      try clear c4
      try clear c5
      try clear c10
      try clear c11
      try clear c12
      try clear c13
      try clear c16
      try clear c16b0
      try clear c17
      try clear c17b0
      try clear p18
      try clear q18
      try clear c23
      try clear c24
      try clear c25
      try clear c26
      try clear c27
      try clear c33
      try clear hcz14_0
      try clear hcz14_1
      try clear hcz14_2
      try clear hcz14_3
      try clear hcz28_0
      try clear hcz28_1
      try clear hcz28_2
      try clear hfz14_0
      try clear hfz14_1
      try clear hfz14_2
      try clear hfz14_3
      try clear hfz28_0
      try clear hfz28_1
      try clear hfz28_2
      try clear p18
      try clear p2
      try clear q18
      obtain ⟨kq, x24_20, rfl, HA, HJ20, BK134, BK135, BK136, BK137, BK138, BK151, HB⟩ := hcut
      cases kq with
      | zero => exact absurd HA.out (by simp [clip_piece.j1])
      | succ kj20 =>
       have H := HA.out
       clear HA
       simp only [clip_piece.j1] at H
       by_cases c34 : x24_20 = true
       ·subst c34
        have H1 : (some (0, 0, 0, 0, false)) = some (r1, r2, r3, r4, r5) := by rw [if_pos rfl] at H; exact H
        clear H
        have H := H1
        clear H1
        simp only [Option.some.injEq, Prod.mk.injEq] at H
        obtain ⟨rfl, rfl, rfl, rfl, rfl⟩ := H
        have hnb35 := NB137_134.out
        have hnc35 := NB134_137.out
        have hnb36 := NB137_135.out
        have hnc36 := NB135_137.out
        have hnb37 := NB137_136.out
        have hnc37 := NB136_137.out
        have hnb38 := NB137_138.out
        have hnc38 := NB138_137.out
        have hnb39 := NB137_151.out
        have hnc39 := NB151_137.out
        have hcz40_0 : wc.cell? ⟨gb137, 0, none⟩ = some (.int .i64 x138000_1) := (blk_cell BK137.out 0).trans rfl
        have hcz40_1 : wc.cell? ⟨gb137, 1, none⟩ = some (.int .i64 x138001_1) := (blk_cell BK137.out 1).trans rfl
        have hfz40_0 := blk_frozen BK137.out 0
        have hfz40_1 := blk_frozen BK137.out 1
        have hnb41 := NB138_134.out
        have hnc41 := NB134_138.out
        have hnb42 := NB138_135.out
        have hnc42 := NB135_138.out
        have hnb43 := NB138_136.out
        have hnc43 := NB136_138.out
        have hnb44 := NB138_151.out
        have hnc44 := NB151_138.out
        have hcz45_0 : wc.cell? ⟨gb138, 0, none⟩ = some (.int .i64 x139000_1) := (blk_cell BK138.out 0).trans rfl
        have hcz45_1 : wc.cell? ⟨gb138, 1, none⟩ = some (.int .i64 x139001_1) := (blk_cell BK138.out 1).trans rfl
        have hfz45_0 := blk_frozen BK138.out 0
        have hfz45_1 := blk_frozen BK138.out 1
        go_wp2
        refine bodyPost_ret (results_list (rs := [.cell 6 25, .cell 7 25, .tmp 8]) rfl (by simp) (.cell gb137 25 #[.int .i64 0, .int .i64 0] (0, 0) _ rfl (by (with_reducible repeat (first | apply blk_drewN | apply blk_drew | apply blk_alloc)); refine blk_far ?_ NB137_138.out _; (with_reducible repeat (first | apply blk_drewN | apply blk_drew | apply blk_alloc)); refine blk_far ?_ NB137_138.out _; (with_reducible repeat (first | apply blk_drewN | apply blk_drew | apply blk_alloc)); refine blk_put (cs := #[.int .i64 0, .int .i64 x138001_1]) ?_ 1 _ rfl; (with_reducible repeat (first | apply blk_drewN | apply blk_drew | apply blk_alloc)); refine blk_put (cs := #[.int .i64 x138000_1, .int .i64 x138001_1]) ?_ 0 _ rfl; (with_reducible repeat (first | apply blk_drewN | apply blk_drew | apply blk_alloc)); exact BK137.out) Try.underlying25 rfl (by kernel_rfl) (.cell gb138 25 #[.int .i64 0, .int .i64 0] (0, 0) _ rfl (by (with_reducible repeat (first | apply blk_drewN | apply blk_drew | apply blk_alloc)); refine blk_put (cs := #[.int .i64 0, .int .i64 x139001_1]) ?_ 1 _ rfl; (with_reducible repeat (first | apply blk_drewN | apply blk_drew | apply blk_alloc)); refine blk_put (cs := #[.int .i64 x139000_1, .int .i64 x139001_1]) ?_ 0 _ rfl; (with_reducible repeat (first | apply blk_drewN | apply blk_drew | apply blk_alloc)); refine blk_far ?_ NB138_137.out _; (with_reducible repeat (first | apply blk_drewN | apply blk_drew | apply blk_alloc)); refine blk_far ?_ NB138_137.out _; (with_reducible repeat (first | apply blk_drewN | apply blk_drew | apply blk_alloc)); exact BK138.out) Try.underlying25 rfl (by kernel_rfl) (.tmp .nil)))) rfl ?_
        exact ⟨by first | rfl | (simp [errW_none, errW_some] <;> rfl) | (simp [*, errW_none, errW_some] <;> rfl), by repeat (first | (with_reducible first | exact HB.out | apply below_alloc | apply pw_below_drewN | apply below_drew1 | refine below_set ?_ GE134.out | refine below_set ?_ GE135.out | refine below_set ?_ GE136.out | refine below_set ?_ GE137.out | refine below_set ?_ GE138.out | refine below_set ?_ GE151.out) | exact HB.out)⟩
       ·replace c34 := Bool.eq_false_iff.mpr c34
        subst c34
        have H1 : (if t152 = true then (if t153 = true then (clip_piece.l0 kj20 (wrap64 (x15_1 + 1)) t139 t140 t141 t142 t143 t144 t145 t146 t147 t148 t149 t150 x135000_1 x135001_1 x136000_1 x136001_1) else ((clip_half_border.f kj20 ((ix_63 (⟨(⟨t139, t140, t141⟩ : S62), (⟨t142, t143, t144⟩ : S62), (⟨t145, t146, t147⟩ : S62), (⟨t148, t149, t150⟩ : S62)⟩ : S63) x15_1).f0) ((ix_63 (⟨(⟨t139, t140, t141⟩ : S62), (⟨t142, t143, t144⟩ : S62), (⟨t145, t146, t147⟩ : S62), (⟨t148, t149, t150⟩ : S62)⟩ : S63) x15_1).f1) ((ix_63 (⟨(⟨t139, t140, t141⟩ : S62), (⟨t142, t143, t144⟩ : S62), (⟨t145, t146, t147⟩ : S62), (⟨t148, t149, t150⟩ : S62)⟩ : S63) x15_1).f2) x135000_1 x135001_1 x136000_1 x136001_1).bind fun bt154 => (clip_piece.l0 kj20 (wrap64 (x15_1 + 1)) t139 t140 t141 t142 t143 t144 t145 t146 t147 t148 t149 t150 x135000_1 x135001_1 bt154.1 bt154.2))) else ((clip_half_border.f kj20 ((ix_63 (⟨(⟨t139, t140, t141⟩ : S62), (⟨t142, t143, t144⟩ : S62), (⟨t145, t146, t147⟩ : S62), (⟨t148, t149, t150⟩ : S62)⟩ : S63) x15_1).f0) ((ix_63 (⟨(⟨t139, t140, t141⟩ : S62), (⟨t142, t143, t144⟩ : S62), (⟨t145, t146, t147⟩ : S62), (⟨t148, t149, t150⟩ : S62)⟩ : S63) x15_1).f1) ((ix_63 (⟨(⟨t139, t140, t141⟩ : S62), (⟨t142, t143, t144⟩ : S62), (⟨t145, t146, t147⟩ : S62), (⟨t148, t149, t150⟩ : S62)⟩ : S63) x15_1).f2) x135000_1 x135001_1 x136000_1 x136001_1).bind fun bt156 => (clip_piece.l0 kj20 (wrap64 (x15_1 + 1)) t139 t140 t141 t142 t143 t144 t145 t146 t147 t148 t149 t150 bt156.1 bt156.2 x136000_1 x136001_1))) = some (r1, r2, r3, r4, r5) := by rw [if_neg (show ¬ (false = true) by decide)] at H; exact H
        clear H
        have H := H1
        clear H1
        by_cases c46 : t152 = true
        ·subst c46
         have H1 : (if t153 = true then (clip_piece.l0 kj20 (wrap64 (x15_1 + 1)) t139 t140 t141 t142 t143 t144 t145 t146 t147 t148 t149 t150 x135000_1 x135001_1 x136000_1 x136001_1) else ((clip_half_border.f kj20 ((ix_63 (⟨(⟨t139, t140, t141⟩ : S62), (⟨t142, t143, t144⟩ : S62), (⟨t145, t146, t147⟩ : S62), (⟨t148, t149, t150⟩ : S62)⟩ : S63) x15_1).f0) ((ix_63 (⟨(⟨t139, t140, t141⟩ : S62), (⟨t142, t143, t144⟩ : S62), (⟨t145, t146, t147⟩ : S62), (⟨t148, t149, t150⟩ : S62)⟩ : S63) x15_1).f1) ((ix_63 (⟨(⟨t139, t140, t141⟩ : S62), (⟨t142, t143, t144⟩ : S62), (⟨t145, t146, t147⟩ : S62), (⟨t148, t149, t150⟩ : S62)⟩ : S63) x15_1).f2) x135000_1 x135001_1 x136000_1 x136001_1).bind fun bt154 => (clip_piece.l0 kj20 (wrap64 (x15_1 + 1)) t139 t140 t141 t142 t143 t144 t145 t146 t147 t148 t149 t150 x135000_1 x135001_1 bt154.1 bt154.2))) = some (r1, r2, r3, r4, r5) := by rw [if_pos rfl] at H; exact H
         clear H
         have H := H1
         clear H1
         by_cases c47 : t153 = true
         ·subst c47
          have H1 : (clip_piece.l0 kj20 (wrap64 (x15_1 + 1)) t139 t140 t141 t142 t143 t144 t145 t146 t147 t148 t149 t150 x135000_1 x135001_1 x136000_1 x136001_1) = some (r1, r2, r3, r4, r5) := by rw [if_pos rfl] at H; exact H
          clear H
          have H := H1
          clear H1
          have H' := Aside0.mk H
          clear H
          go_wp2
          go_roundg kj20
          case measure => have := HK1.out; have := HJ20.out; omega
          case rel => exact ⟨(wrap64 (x15_1 + 1)), (x135000_1), (x135001_1), (x136000_1), (x136001_1), (x138000_1), (x138001_1), (x139000_1), (x139001_1), (by first | rfl | (simp; done) | (simp [*]; done)), H', ⟨by have := HK1.out; have := HJ20.out; omega⟩, ⟨by (with_reducible repeat (first | apply blk_drewN | apply blk_drew | apply blk_alloc)); exact BK134.out⟩, ⟨by (with_reducible repeat (first | apply blk_drewN | apply blk_drew | apply blk_alloc)); exact BK135.out⟩, ⟨by (with_reducible repeat (first | apply blk_drewN | apply blk_drew | apply blk_alloc)); exact BK136.out⟩, ⟨by (with_reducible repeat (first | apply blk_drewN | apply blk_drew | apply blk_alloc)); exact BK137.out⟩, ⟨by (with_reducible repeat (first | apply blk_drewN | apply blk_drew | apply blk_alloc)); exact BK138.out⟩, ⟨by repeat (first | (with_reducible first | exact HB.out | apply below_alloc | apply pw_below_drewN | apply below_drew1 | refine below_set ?_ GE134.out | refine below_set ?_ GE135.out | refine below_set ?_ GE136.out | refine below_set ?_ GE137.out | refine below_set ?_ GE138.out | refine below_set ?_ GE151.out) | exact HB.out)⟩⟩
         ·replace c47 := Bool.eq_false_iff.mpr c47
          subst c47
          have H1 : ((clip_half_border.f kj20 ((ix_63 (⟨(⟨t139, t140, t141⟩ : S62), (⟨t142, t143, t144⟩ : S62), (⟨t145, t146, t147⟩ : S62), (⟨t148, t149, t150⟩ : S62)⟩ : S63) x15_1).f0) ((ix_63 (⟨(⟨t139, t140, t141⟩ : S62), (⟨t142, t143, t144⟩ : S62), (⟨t145, t146, t147⟩ : S62), (⟨t148, t149, t150⟩ : S62)⟩ : S63) x15_1).f1) ((ix_63 (⟨(⟨t139, t140, t141⟩ : S62), (⟨t142, t143, t144⟩ : S62), (⟨t145, t146, t147⟩ : S62), (⟨t148, t149, t150⟩ : S62)⟩ : S63) x15_1).f2) x135000_1 x135001_1 x136000_1 x136001_1).bind fun bt154 => (clip_piece.l0 kj20 (wrap64 (x15_1 + 1)) t139 t140 t141 t142 t143 t144 t145 t146 t147 t148 t149 t150 x135000_1 x135001_1 bt154.1 bt154.2)) = some (r1, r2, r3, r4, r5) := by rw [if_neg (show ¬ (false = true) by decide)] at H; exact H
          clear H
          have H := H1
          clear H1
          replace H := Option.bind_eq_some_iff.mp H
          obtain ⟨⟨t154, t155⟩, A480, H⟩ := H
          replace H : (clip_piece.l0 kj20 (wrap64 (x15_1 + 1)) t139 t140 t141 t142 t143 t144 t145 t146 t147 t148 t149 t150 x135000_1 x135001_1 t154 t155) = some (r1, r2, r3, r4, r5) := H
          have A48 := Aside0.mk A480
          clear A480
          have H' := Aside0.mk H
          clear H
          have hnb49 := NB151_134.out
          have hnc49 := NB134_151.out
          have hnb50 := NB151_135.out
          have hnc50 := NB135_151.out
          have hnb51 := NB151_136.out
          have hnc51 := NB136_151.out
          have hnb52 := NB151_137.out
          have hnc52 := NB137_151.out
          have hnb53 := NB151_138.out
          have hnc53 := NB138_151.out
          have hcz54_0 : wc.cell? ⟨gb151, 0, none⟩ = some (.bool ((ix_63 (⟨(⟨t139, t140, t141⟩ : S62), (⟨t142, t143, t144⟩ : S62), (⟨t145, t146, t147⟩ : S62), (⟨t148, t149, t150⟩ : S62)⟩ : S63) x15_1).f0)) := (blk_cell BK151.out 0).trans rfl
          have hcz54_1 : wc.cell? ⟨gb151, 1, none⟩ = some (.bool ((ix_63 (⟨(⟨t139, t140, t141⟩ : S62), (⟨t142, t143, t144⟩ : S62), (⟨t145, t146, t147⟩ : S62), (⟨t148, t149, t150⟩ : S62)⟩ : S63) x15_1).f1)) := (blk_cell BK151.out 1).trans rfl
          have hcz54_2 : wc.cell? ⟨gb151, 2, none⟩ = some (.int .i64 ((ix_63 (⟨(⟨t139, t140, t141⟩ : S62), (⟨t142, t143, t144⟩ : S62), (⟨t145, t146, t147⟩ : S62), (⟨t148, t149, t150⟩ : S62)⟩ : S63) x15_1).f2)) := (blk_cell BK151.out 2).trans rfl
          have hfz54_0 := blk_frozen BK151.out 0
          have hfz54_1 := blk_frozen BK151.out 1
          have hfz54_2 := blk_frozen BK151.out 2
          have hnb55 := NB134_135.out
          have hnc55 := NB135_134.out
          have hnb56 := NB134_136.out
          have hnc56 := NB136_134.out
          have hnb57 := NB134_137.out
          have hnc57 := NB137_134.out
          have hnb58 := NB134_138.out
          have hnc58 := NB138_134.out
          have hcz59_0 : wc.cell? ⟨gb134, 0, none⟩ = some (.int .i64 x135000_1) := (blk_cell BK134.out 0).trans rfl
          have hcz59_1 : wc.cell? ⟨gb134, 1, none⟩ = some (.int .i64 x135001_1) := (blk_cell BK134.out 1).trans rfl
          have hfz59_0 := blk_frozen BK134.out 0
          have hfz59_1 := blk_frozen BK134.out 1
          have hnb60 := NB135_136.out
          have hnc60 := NB136_135.out
          have hnb61 := NB135_137.out
          have hnc61 := NB137_135.out
          have hnb62 := NB135_138.out
          have hnc62 := NB138_135.out
          have hcz63_0 : wc.cell? ⟨gb135, 0, none⟩ = some (.int .i64 x136000_1) := (blk_cell BK135.out 0).trans rfl
          have hcz63_1 : wc.cell? ⟨gb135, 1, none⟩ = some (.int .i64 x136001_1) := (blk_cell BK135.out 1).trans rfl
          have hfz63_0 := blk_frozen BK135.out 0
          have hfz63_1 := blk_frozen BK135.out 1
          go_wp2_with (first | ((with_reducible refine gate_callee (f := 52) rfl ?_); refine goesL_ (some 46) rfl rfl Try.func52 (by kernel_rfl) rfl #[.agg #[.bool ((ix_63 (⟨(⟨t139, t140, t141⟩ : S62), (⟨t142, t143, t144⟩ : S62), (⟨t145, t146, t147⟩ : S62), (⟨t148, t149, t150⟩ : S62)⟩ : S63) x15_1).f0), .bool ((ix_63 (⟨(⟨t139, t140, t141⟩ : S62), (⟨t142, t143, t144⟩ : S62), (⟨t145, t146, t147⟩ : S62), (⟨t148, t149, t150⟩ : S62)⟩ : S63) x15_1).f1), .int .i64 ((ix_63 (⟨(⟨t139, t140, t141⟩ : S62), (⟨t142, t143, t144⟩ : S62), (⟨t145, t146, t147⟩ : S62), (⟨t148, t149, t150⟩ : S62)⟩ : S63) x15_1).f2)], .agg #[.int .i64 x135000_1, .int .i64 x135001_1], .agg #[.int .i64 x136000_1, .int .i64 x136001_1]] rfl (by (try simp only [List.map_toArray, List.map_cons, List.map_nil]); first | done | rfl | (simp only [List.length_drop, List.length_take]; rfl)) ?_; (with_reducible refine (clip_half_border.calls kj20 ((ix_63 (⟨(⟨t139, t140, t141⟩ : S62), (⟨t142, t143, t144⟩ : S62), (⟨t145, t146, t147⟩ : S62), (⟨t148, t149, t150⟩ : S62)⟩ : S63) x15_1).f0) ((ix_63 (⟨(⟨t139, t140, t141⟩ : S62), (⟨t142, t143, t144⟩ : S62), (⟨t145, t146, t147⟩ : S62), (⟨t148, t149, t150⟩ : S62)⟩ : S63) x15_1).f1) ((ix_63 (⟨(⟨t139, t140, t141⟩ : S62), (⟨t142, t143, t144⟩ : S62), (⟨t145, t146, t147⟩ : S62), (⟨t148, t149, t150⟩ : S62)⟩ : S63) x15_1).f2) x135000_1 x135001_1 x136000_1 x136001_1 t154 t155 _ A48.out).mono ?_); rintro e w64 ⟨rfl, hb⟩; refine ⟨_, rfl, ?_⟩; have n0_ := Aside0.mk (blk_below (g := gb134) (o := .cells #[.int .i64 x135000_1, .int .i64 x135001_1] 25 (0, 0)) (by (with_reducible repeat (first | apply blk_drewN | apply blk_drew | apply blk_alloc)); exact BK134.out) hb); have n1_ := Aside0.mk (blk_below (g := gb135) (o := .cells #[.int .i64 x136000_1, .int .i64 x136001_1] 25 (0, 0)) (by (with_reducible repeat (first | apply blk_drewN | apply blk_drew | apply blk_alloc)); exact BK135.out) hb); have n2_ := Aside0.mk (blk_below (g := gb136) (o := .cells #[.int .i64 a2_0, .int .i64 a2_1, .int .i64 a2_2, .int .i64 a2_3] 40 (0, 0)) (by (with_reducible repeat (first | apply blk_drewN | apply blk_drew | apply blk_alloc)); exact BK136.out) hb); have n3_ := Aside0.mk (blk_below (g := gb137) (o := .cells #[.int .i64 x138000_1, .int .i64 x138001_1] 25 (0, 0)) (by (with_reducible repeat (first | apply blk_drewN | apply blk_drew | apply blk_alloc)); exact BK137.out) hb); have n4_ := Aside0.mk (blk_below (g := gb138) (o := .cells #[.int .i64 x139000_1, .int .i64 x139001_1] 25 (0, 0)) (by (with_reducible repeat (first | apply blk_drewN | apply blk_drew | apply blk_alloc)); exact BK138.out) hb); have n5_ := Aside0.mk (blk_below (g := gb151) (o := .cells #[.bool ((ix_63 (⟨(⟨t139, t140, t141⟩ : S62), (⟨t142, t143, t144⟩ : S62), (⟨t145, t146, t147⟩ : S62), (⟨t148, t149, t150⟩ : S62)⟩ : S63) x15_1).f0), .bool ((ix_63 (⟨(⟨t139, t140, t141⟩ : S62), (⟨t142, t143, t144⟩ : S62), (⟨t145, t146, t147⟩ : S62), (⟨t148, t149, t150⟩ : S62)⟩ : S63) x15_1).f1), .int .i64 ((ix_63 (⟨(⟨t139, t140, t141⟩ : S62), (⟨t142, t143, t144⟩ : S62), (⟨t145, t146, t147⟩ : S62), (⟨t148, t149, t150⟩ : S62)⟩ : S63) x15_1).f2)] 62 (0, 0)) (by (with_reducible repeat (first | apply blk_drewN | apply blk_drew | apply blk_alloc)); exact BK151.out) hb); have n6_ := Aside0.mk (below_step (by repeat (first | (with_reducible first | exact HB.out | apply below_alloc | apply pw_below_drewN | apply below_drew1 | refine below_set ?_ GE134.out | refine below_set ?_ GE135.out | refine below_set ?_ GE136.out | refine below_set ?_ GE137.out | refine below_set ?_ GE138.out | refine below_set ?_ GE151.out) | exact HB.out)) hb); clear BK134; clear BK135; clear BK136; clear BK137; clear BK138; clear BK151; clear HB; have BK134 := n0_; have BK135 := n1_; have BK136 := n2_; have BK137 := n3_; have BK138 := n4_; have BK151 := n5_; have HB := n6_; clear n0_ n1_ n2_ n3_ n4_ n5_ n6_; (try clear hb); (try clear hb2); (try clear hk); (try clear hi); have hcz65_0 : w64.cell? ⟨gb135, 0, none⟩ = some (.int .i64 x136000_1) := (blk_cell BK135.out 0).trans rfl; have hcz65_1 : w64.cell? ⟨gb135, 1, none⟩ = some (.int .i64 x136001_1) := (blk_cell BK135.out 1).trans rfl; have hfz65_0 := blk_frozen BK135.out 0; have hfz65_1 := blk_frozen BK135.out 1))
          go_roundg kj20
          case measure => have := HK1.out; have := HJ20.out; omega
          case rel => exact ⟨(wrap64 (x15_1 + 1)), (x135000_1), (x135001_1), (t154), (t155), (x138000_1), (x138001_1), (x139000_1), (x139001_1), (by first | rfl | (simp; done) | (simp [*]; done)), H', ⟨by have := HK1.out; have := HJ20.out; omega⟩, ⟨by (with_reducible repeat (first | apply blk_drewN | apply blk_drew | apply blk_alloc)); refine blk_far ?_ NB134_135.out _; (with_reducible repeat (first | apply blk_drewN | apply blk_drew | apply blk_alloc)); refine blk_far ?_ NB134_135.out _; (with_reducible repeat (first | apply blk_drewN | apply blk_drew | apply blk_alloc)); exact BK134.out⟩, ⟨by (with_reducible repeat (first | apply blk_drewN | apply blk_drew | apply blk_alloc)); refine blk_put (cs := #[.int .i64 t154, .int .i64 x136001_1]) ?_ 1 _ rfl; (with_reducible repeat (first | apply blk_drewN | apply blk_drew | apply blk_alloc)); refine blk_put (cs := #[.int .i64 x136000_1, .int .i64 x136001_1]) ?_ 0 _ rfl; (with_reducible repeat (first | apply blk_drewN | apply blk_drew | apply blk_alloc)); exact BK135.out⟩, ⟨by (with_reducible repeat (first | apply blk_drewN | apply blk_drew | apply blk_alloc)); refine blk_far ?_ NB136_135.out _; (with_reducible repeat (first | apply blk_drewN | apply blk_drew | apply blk_alloc)); refine blk_far ?_ NB136_135.out _; (with_reducible repeat (first | apply blk_drewN | apply blk_drew | apply blk_alloc)); exact BK136.out⟩, ⟨by (with_reducible repeat (first | apply blk_drewN | apply blk_drew | apply blk_alloc)); refine blk_far ?_ NB137_135.out _; (with_reducible repeat (first | apply blk_drewN | apply blk_drew | apply blk_alloc)); refine blk_far ?_ NB137_135.out _; (with_reducible repeat (first | apply blk_drewN | apply blk_drew | apply blk_alloc)); exact BK137.out⟩, ⟨by (with_reducible repeat (first | apply blk_drewN | apply blk_drew | apply blk_alloc)); refine blk_far ?_ NB138_135.out _; (with_reducible repeat (first | apply blk_drewN | apply blk_drew | apply blk_alloc)); refine blk_far ?_ NB138_135.out _; (with_reducible repeat (first | apply blk_drewN | apply blk_drew | apply blk_alloc)); exact BK138.out⟩, ⟨by repeat (first | (with_reducible first | exact HB.out | apply below_alloc | apply pw_below_drewN | apply below_drew1 | refine below_set ?_ GE134.out | refine below_set ?_ GE135.out | refine below_set ?_ GE136.out | refine below_set ?_ GE137.out | refine below_set ?_ GE138.out | refine below_set ?_ GE151.out) | exact HB.out)⟩⟩
        ·replace c46 := Bool.eq_false_iff.mpr c46
         subst c46
         have H1 : ((clip_half_border.f kj20 ((ix_63 (⟨(⟨t139, t140, t141⟩ : S62), (⟨t142, t143, t144⟩ : S62), (⟨t145, t146, t147⟩ : S62), (⟨t148, t149, t150⟩ : S62)⟩ : S63) x15_1).f0) ((ix_63 (⟨(⟨t139, t140, t141⟩ : S62), (⟨t142, t143, t144⟩ : S62), (⟨t145, t146, t147⟩ : S62), (⟨t148, t149, t150⟩ : S62)⟩ : S63) x15_1).f1) ((ix_63 (⟨(⟨t139, t140, t141⟩ : S62), (⟨t142, t143, t144⟩ : S62), (⟨t145, t146, t147⟩ : S62), (⟨t148, t149, t150⟩ : S62)⟩ : S63) x15_1).f2) x135000_1 x135001_1 x136000_1 x136001_1).bind fun bt156 => (clip_piece.l0 kj20 (wrap64 (x15_1 + 1)) t139 t140 t141 t142 t143 t144 t145 t146 t147 t148 t149 t150 bt156.1 bt156.2 x136000_1 x136001_1)) = some (r1, r2, r3, r4, r5) := by rw [if_neg (show ¬ (false = true) by decide)] at H; exact H
         clear H
         have H := H1
         clear H1
         replace H := Option.bind_eq_some_iff.mp H
         obtain ⟨⟨t156, t157⟩, A660, H⟩ := H
         replace H : (clip_piece.l0 kj20 (wrap64 (x15_1 + 1)) t139 t140 t141 t142 t143 t144 t145 t146 t147 t148 t149 t150 t156 t157 x136000_1 x136001_1) = some (r1, r2, r3, r4, r5) := H
         have A66 := Aside0.mk A660
         clear A660
         have H' := Aside0.mk H
         clear H
         have hnb67 := NB151_134.out
         have hnc67 := NB134_151.out
         have hnb68 := NB151_135.out
         have hnc68 := NB135_151.out
         have hnb69 := NB151_136.out
         have hnc69 := NB136_151.out
         have hnb70 := NB151_137.out
         have hnc70 := NB137_151.out
         have hnb71 := NB151_138.out
         have hnc71 := NB138_151.out
         have hcz72_0 : wc.cell? ⟨gb151, 0, none⟩ = some (.bool ((ix_63 (⟨(⟨t139, t140, t141⟩ : S62), (⟨t142, t143, t144⟩ : S62), (⟨t145, t146, t147⟩ : S62), (⟨t148, t149, t150⟩ : S62)⟩ : S63) x15_1).f0)) := (blk_cell BK151.out 0).trans rfl
         have hcz72_1 : wc.cell? ⟨gb151, 1, none⟩ = some (.bool ((ix_63 (⟨(⟨t139, t140, t141⟩ : S62), (⟨t142, t143, t144⟩ : S62), (⟨t145, t146, t147⟩ : S62), (⟨t148, t149, t150⟩ : S62)⟩ : S63) x15_1).f1)) := (blk_cell BK151.out 1).trans rfl
         have hcz72_2 : wc.cell? ⟨gb151, 2, none⟩ = some (.int .i64 ((ix_63 (⟨(⟨t139, t140, t141⟩ : S62), (⟨t142, t143, t144⟩ : S62), (⟨t145, t146, t147⟩ : S62), (⟨t148, t149, t150⟩ : S62)⟩ : S63) x15_1).f2)) := (blk_cell BK151.out 2).trans rfl
         have hfz72_0 := blk_frozen BK151.out 0
         have hfz72_1 := blk_frozen BK151.out 1
         have hfz72_2 := blk_frozen BK151.out 2
         have hnb73 := NB134_135.out
         have hnc73 := NB135_134.out
         have hnb74 := NB134_136.out
         have hnc74 := NB136_134.out
         have hnb75 := NB134_137.out
         have hnc75 := NB137_134.out
         have hnb76 := NB134_138.out
         have hnc76 := NB138_134.out
         have hcz77_0 : wc.cell? ⟨gb134, 0, none⟩ = some (.int .i64 x135000_1) := (blk_cell BK134.out 0).trans rfl
         have hcz77_1 : wc.cell? ⟨gb134, 1, none⟩ = some (.int .i64 x135001_1) := (blk_cell BK134.out 1).trans rfl
         have hfz77_0 := blk_frozen BK134.out 0
         have hfz77_1 := blk_frozen BK134.out 1
         have hnb78 := NB135_136.out
         have hnc78 := NB136_135.out
         have hnb79 := NB135_137.out
         have hnc79 := NB137_135.out
         have hnb80 := NB135_138.out
         have hnc80 := NB138_135.out
         have hcz81_0 : wc.cell? ⟨gb135, 0, none⟩ = some (.int .i64 x136000_1) := (blk_cell BK135.out 0).trans rfl
         have hcz81_1 : wc.cell? ⟨gb135, 1, none⟩ = some (.int .i64 x136001_1) := (blk_cell BK135.out 1).trans rfl
         have hfz81_0 := blk_frozen BK135.out 0
         have hfz81_1 := blk_frozen BK135.out 1
         go_wp2_with (first | ((with_reducible refine gate_callee (f := 52) rfl ?_); refine goesL_ (some 39) rfl rfl Try.func52 (by kernel_rfl) rfl #[.agg #[.bool ((ix_63 (⟨(⟨t139, t140, t141⟩ : S62), (⟨t142, t143, t144⟩ : S62), (⟨t145, t146, t147⟩ : S62), (⟨t148, t149, t150⟩ : S62)⟩ : S63) x15_1).f0), .bool ((ix_63 (⟨(⟨t139, t140, t141⟩ : S62), (⟨t142, t143, t144⟩ : S62), (⟨t145, t146, t147⟩ : S62), (⟨t148, t149, t150⟩ : S62)⟩ : S63) x15_1).f1), .int .i64 ((ix_63 (⟨(⟨t139, t140, t141⟩ : S62), (⟨t142, t143, t144⟩ : S62), (⟨t145, t146, t147⟩ : S62), (⟨t148, t149, t150⟩ : S62)⟩ : S63) x15_1).f2)], .agg #[.int .i64 x135000_1, .int .i64 x135001_1], .agg #[.int .i64 x136000_1, .int .i64 x136001_1]] rfl (by (try simp only [List.map_toArray, List.map_cons, List.map_nil]); first | done | rfl | (simp only [List.length_drop, List.length_take]; rfl)) ?_; (with_reducible refine (clip_half_border.calls kj20 ((ix_63 (⟨(⟨t139, t140, t141⟩ : S62), (⟨t142, t143, t144⟩ : S62), (⟨t145, t146, t147⟩ : S62), (⟨t148, t149, t150⟩ : S62)⟩ : S63) x15_1).f0) ((ix_63 (⟨(⟨t139, t140, t141⟩ : S62), (⟨t142, t143, t144⟩ : S62), (⟨t145, t146, t147⟩ : S62), (⟨t148, t149, t150⟩ : S62)⟩ : S63) x15_1).f1) ((ix_63 (⟨(⟨t139, t140, t141⟩ : S62), (⟨t142, t143, t144⟩ : S62), (⟨t145, t146, t147⟩ : S62), (⟨t148, t149, t150⟩ : S62)⟩ : S63) x15_1).f2) x135000_1 x135001_1 x136000_1 x136001_1 t156 t157 _ A66.out).mono ?_); rintro e w82 ⟨rfl, hb⟩; refine ⟨_, rfl, ?_⟩; have n0_ := Aside0.mk (blk_below (g := gb134) (o := .cells #[.int .i64 x135000_1, .int .i64 x135001_1] 25 (0, 0)) (by (with_reducible repeat (first | apply blk_drewN | apply blk_drew | apply blk_alloc)); exact BK134.out) hb); have n1_ := Aside0.mk (blk_below (g := gb135) (o := .cells #[.int .i64 x136000_1, .int .i64 x136001_1] 25 (0, 0)) (by (with_reducible repeat (first | apply blk_drewN | apply blk_drew | apply blk_alloc)); exact BK135.out) hb); have n2_ := Aside0.mk (blk_below (g := gb136) (o := .cells #[.int .i64 a2_0, .int .i64 a2_1, .int .i64 a2_2, .int .i64 a2_3] 40 (0, 0)) (by (with_reducible repeat (first | apply blk_drewN | apply blk_drew | apply blk_alloc)); exact BK136.out) hb); have n3_ := Aside0.mk (blk_below (g := gb137) (o := .cells #[.int .i64 x138000_1, .int .i64 x138001_1] 25 (0, 0)) (by (with_reducible repeat (first | apply blk_drewN | apply blk_drew | apply blk_alloc)); exact BK137.out) hb); have n4_ := Aside0.mk (blk_below (g := gb138) (o := .cells #[.int .i64 x139000_1, .int .i64 x139001_1] 25 (0, 0)) (by (with_reducible repeat (first | apply blk_drewN | apply blk_drew | apply blk_alloc)); exact BK138.out) hb); have n5_ := Aside0.mk (blk_below (g := gb151) (o := .cells #[.bool ((ix_63 (⟨(⟨t139, t140, t141⟩ : S62), (⟨t142, t143, t144⟩ : S62), (⟨t145, t146, t147⟩ : S62), (⟨t148, t149, t150⟩ : S62)⟩ : S63) x15_1).f0), .bool ((ix_63 (⟨(⟨t139, t140, t141⟩ : S62), (⟨t142, t143, t144⟩ : S62), (⟨t145, t146, t147⟩ : S62), (⟨t148, t149, t150⟩ : S62)⟩ : S63) x15_1).f1), .int .i64 ((ix_63 (⟨(⟨t139, t140, t141⟩ : S62), (⟨t142, t143, t144⟩ : S62), (⟨t145, t146, t147⟩ : S62), (⟨t148, t149, t150⟩ : S62)⟩ : S63) x15_1).f2)] 62 (0, 0)) (by (with_reducible repeat (first | apply blk_drewN | apply blk_drew | apply blk_alloc)); exact BK151.out) hb); have n6_ := Aside0.mk (below_step (by repeat (first | (with_reducible first | exact HB.out | apply below_alloc | apply pw_below_drewN | apply below_drew1 | refine below_set ?_ GE134.out | refine below_set ?_ GE135.out | refine below_set ?_ GE136.out | refine below_set ?_ GE137.out | refine below_set ?_ GE138.out | refine below_set ?_ GE151.out) | exact HB.out)) hb); clear BK134; clear BK135; clear BK136; clear BK137; clear BK138; clear BK151; clear HB; have BK134 := n0_; have BK135 := n1_; have BK136 := n2_; have BK137 := n3_; have BK138 := n4_; have BK151 := n5_; have HB := n6_; clear n0_ n1_ n2_ n3_ n4_ n5_ n6_; (try clear hb); (try clear hb2); (try clear hk); (try clear hi); have hcz83_0 : w82.cell? ⟨gb134, 0, none⟩ = some (.int .i64 x135000_1) := (blk_cell BK134.out 0).trans rfl; have hcz83_1 : w82.cell? ⟨gb134, 1, none⟩ = some (.int .i64 x135001_1) := (blk_cell BK134.out 1).trans rfl; have hfz83_0 := blk_frozen BK134.out 0; have hfz83_1 := blk_frozen BK134.out 1))
         go_roundg kj20
         case measure => have := HK1.out; have := HJ20.out; omega
         case rel => exact ⟨(wrap64 (x15_1 + 1)), (t156), (t157), (x136000_1), (x136001_1), (x138000_1), (x138001_1), (x139000_1), (x139001_1), (by first | rfl | (simp; done) | (simp [*]; done)), H', ⟨by have := HK1.out; have := HJ20.out; omega⟩, ⟨by (with_reducible repeat (first | apply blk_drewN | apply blk_drew | apply blk_alloc)); refine blk_put (cs := #[.int .i64 t156, .int .i64 x135001_1]) ?_ 1 _ rfl; (with_reducible repeat (first | apply blk_drewN | apply blk_drew | apply blk_alloc)); refine blk_put (cs := #[.int .i64 x135000_1, .int .i64 x135001_1]) ?_ 0 _ rfl; (with_reducible repeat (first | apply blk_drewN | apply blk_drew | apply blk_alloc)); exact BK134.out⟩, ⟨by (with_reducible repeat (first | apply blk_drewN | apply blk_drew | apply blk_alloc)); refine blk_far ?_ NB135_134.out _; (with_reducible repeat (first | apply blk_drewN | apply blk_drew | apply blk_alloc)); refine blk_far ?_ NB135_134.out _; (with_reducible repeat (first | apply blk_drewN | apply blk_drew | apply blk_alloc)); exact BK135.out⟩, ⟨by (with_reducible repeat (first | apply blk_drewN | apply blk_drew | apply blk_alloc)); refine blk_far ?_ NB136_134.out _; (with_reducible repeat (first | apply blk_drewN | apply blk_drew | apply blk_alloc)); refine blk_far ?_ NB136_134.out _; (with_reducible repeat (first | apply blk_drewN | apply blk_drew | apply blk_alloc)); exact BK136.out⟩, ⟨by (with_reducible repeat (first | apply blk_drewN | apply blk_drew | apply blk_alloc)); refine blk_far ?_ NB137_134.out _; (with_reducible repeat (first | apply blk_drewN | apply blk_drew | apply blk_alloc)); refine blk_far ?_ NB137_134.out _; (with_reducible repeat (first | apply blk_drewN | apply blk_drew | apply blk_alloc)); exact BK137.out⟩, ⟨by (with_reducible repeat (first | apply blk_drewN | apply blk_drew | apply blk_alloc)); refine blk_far ?_ NB138_134.out _; (with_reducible repeat (first | apply blk_drewN | apply blk_drew | apply blk_alloc)); refine blk_far ?_ NB138_134.out _; (with_reducible repeat (first | apply blk_drewN | apply blk_drew | apply blk_alloc)); exact BK138.out⟩, ⟨by repeat (first | (with_reducible first | exact HB.out | apply below_alloc | apply pw_below_drewN | apply below_drew1 | refine below_set ?_ GE134.out | refine below_set ?_ GE135.out | refine below_set ?_ GE136.out | refine below_set ?_ GE137.out | refine below_set ?_ GE138.out | refine below_set ?_ GE151.out) | exact HB.out)⟩⟩
    ·rw [if_neg c17] at H
     exact absurd H (by simp)
   ·rw [if_neg c16] at H
    have c16b0 : decide (x15_1 < 4) = false := decide_eq_false c16
    clear c16
    simp only [Option.some.injEq, Prod.mk.injEq] at H
    obtain ⟨rfl, rfl, rfl, rfl, rfl⟩ := H
    try go_wp2
    have n0_ := Aside0.mk (blk_drew BK134.out)
    have n1_ := Aside0.mk (blk_drew BK135.out)
    have n2_ := Aside0.mk (blk_drew BK136.out)
    have n3_ := Aside0.mk (blk_drew BK137.out)
    have n4_ := Aside0.mk (blk_drew BK138.out)
    have n5_ := Aside0.mk (below_drew1 HB.out)
    clear BK134
    clear BK135
    clear BK136
    clear BK137
    clear BK138
    clear HB
    have BK134 := n0_
    have BK135 := n1_
    have BK136 := n2_
    have BK137 := n3_
    have BK138 := n4_
    have HB := n5_
    clear n0_ n1_ n2_ n3_ n4_ n5_
    refine start_ (n := 8) (S := fun w' => w'.cell? ⟨gb134, 0, none⟩ = some (.int .i64 x135000_1) ∧ w'.cell? ⟨gb134, 1, none⟩ = some (.int .i64 x135001_1) ∧ w'.cell? ⟨gb135, 0, none⟩ = some (.int .i64 x136000_1) ∧ w'.cell? ⟨gb135, 1, none⟩ = some (.int .i64 x136001_1)) (ds := []) #[false, false, false, false, false, false, false, false] (by kernel_rfl) rfl rfl ⟨(blk_cell BK134.out 0).trans rfl, (blk_cell BK134.out 1).trans rfl, (blk_cell BK135.out 0).trans rfl, (blk_cell BK135.out 1).trans rfl⟩ (fun hHeld => ?_); refine with_tabW clip_piece.tab12 clip_piece.bits12 (fun HT_ HW_ => ?_)
    generalize wr.drew = w84 at BK134 BK135 BK136 BK137 BK138 HB hHeld ⊢
    refine take_ (i := 0) (N := some 48) (v := ?_) (a' := ?_) #[true, false, false, false, false, false, false, false] rfl rfl (take_ofW HT_.out HW_.out (by kernel_rfl)) (fun _ _ _ h => h) (Or.inl ⟨by rfl, ?_⟩) hHeld ?_ ?_
    rotate_left
    ·rintro w' ⟨s0, s1, s2, s3⟩
     go_simp
     with_reducible rfl
    rotate_left
    ·simp only [Act.put, List.setIfInBounds_toArray, List.set_cons_zero, List.set_cons_succ, i64_w, i32_w]
     rfl
    refine take_ (i := 1) (N := some 49) (v := ?_) (a' := ?_) #[true, true, false, false, false, false, false, false] rfl rfl (take_ofW HT_.out HW_.out (by kernel_rfl)) (fun _ _ _ h => h) (Or.inl ⟨by rfl, ?_⟩) hHeld ?_ ?_
    rotate_left
    ·rintro w' ⟨s0, s1, s2, s3⟩
     go_simp
     with_reducible rfl
    rotate_left
    ·simp only [Act.put, List.setIfInBounds_toArray, List.set_cons_zero, List.set_cons_succ, i64_w, i32_w]
     rfl
    refine take_ (i := 2) (N := some 50) (v := ?_) (a' := ?_) #[true, true, true, false, false, false, false, false] rfl rfl (take_ofW HT_.out HW_.out (by kernel_rfl)) (fun _ _ _ h => h) (Or.inl ⟨by rfl, ?_⟩) hHeld ?_ ?_
    rotate_left
    ·rintro w' ⟨s0, s1, s2, s3⟩
     go_simp
     with_reducible rfl
    rotate_left
    ·simp only [Act.put, List.setIfInBounds_toArray, List.set_cons_zero, List.set_cons_succ, i64_w, i32_w]
     rfl
    refine take_ (i := 3) (N := some 51) (v := ?_) (a' := ?_) #[true, true, true, true, false, false, false, false] rfl rfl (take_ofW HT_.out HW_.out (by kernel_rfl)) (fun _ _ _ h => h) (Or.inl ⟨by rfl, ?_⟩) hHeld ?_ ?_
    rotate_left
    ·rintro w' ⟨s0, s1, s2, s3⟩
     go_simp
     with_reducible rfl
    rotate_left
    ·simp only [Act.put, List.setIfInBounds_toArray, List.set_cons_zero, List.set_cons_succ, i64_w, i32_w]
     rfl
    refine pure_ (i := 4) (N := some 52) (v := ?_) (a' := ?_) #[true, true, true, true, true, false, false, false] rfl rfl (any_of HT_.out (by kernel_rfl)) (fun _ _ _ h => h) (Or.inl ⟨by rfl, ?_⟩) ?_ ?_
    rotate_left
    ·intro w'
     go_simp
     with_reducible rfl
    rotate_left
    ·simp only [Act.put, List.setIfInBounds_toArray, List.set_cons_zero, List.set_cons_succ, i64_w, i32_w]
     rfl
    refine one_ (i := 5) (N := none) #[true, true, true, true, true, true, false, false] rfl rfl (one_of HT_.out (by kernel_rfl)) (by decide) (fun K hK => ?_)
    have hs85 : w84.cell? ⟨gb137, 0, none⟩ = some (.int .i64 x138000_1) := (blk_cell BK137.out 0).trans rfl
    have hfs85 := blk_frozen BK137.out 0
    have hns85_0 := NB134_137.out
    have hns85_1 := NB135_137.out
    have hns85_2 := NB136_137.out
    have hns85_4 := NB138_137.out
    have hms85_0 := NB137_134.out
    have hms85_1 := NB137_135.out
    have hms85_2 := NB137_136.out
    have hms85_4 := NB137_138.out
    have hs86 : w84.cell? ⟨gb137, 1, none⟩ = some (.int .i64 x138001_1) := (blk_cell BK137.out 1).trans rfl
    have hfs86 := blk_frozen BK137.out 1
    have hns86_0 := NB134_137.out
    have hns86_1 := NB135_137.out
    have hns86_2 := NB136_137.out
    have hns86_4 := NB138_137.out
    have hms86_0 := NB137_134.out
    have hms86_1 := NB137_135.out
    have hms86_2 := NB137_136.out
    have hms86_4 := NB137_138.out
    refine skip_ (w1 := ?_) (by rfl) rfl ?_ ?_
    rotate_left
    ·go_simp
     rfl
    refine hK.out _ _ ⟨((cell_far (p := ⟨gb137, _, none⟩) NB134_137.out _).trans (((cell_far (p := ⟨gb137, _, none⟩) NB134_137.out _).trans (hHeld.1)))), ((cell_far (p := ⟨gb137, _, none⟩) NB134_137.out _).trans (((cell_far (p := ⟨gb137, _, none⟩) NB134_137.out _).trans (hHeld.2.1)))), ((cell_far (p := ⟨gb137, _, none⟩) NB135_137.out _).trans (((cell_far (p := ⟨gb137, _, none⟩) NB135_137.out _).trans (hHeld.2.2.1)))), ((cell_far (p := ⟨gb137, _, none⟩) NB135_137.out _).trans (((cell_far (p := ⟨gb137, _, none⟩) NB135_137.out _).trans (hHeld.2.2.2))))⟩ (fun hHeld => ?_)
    clear hK K
    refine one_ (i := 6) (N := none) #[true, true, true, true, true, true, true, false] rfl rfl (one_of HT_.out (by kernel_rfl)) (by decide) (fun K hK => ?_)
    have hs87 : w84.cell? ⟨gb138, 0, none⟩ = some (.int .i64 x139000_1) := (blk_cell BK138.out 0).trans rfl
    have hfs87 := blk_frozen BK138.out 0
    have hns87_0 := NB134_138.out
    have hns87_1 := NB135_138.out
    have hns87_2 := NB136_138.out
    have hns87_3 := NB137_138.out
    have hms87_0 := NB138_134.out
    have hms87_1 := NB138_135.out
    have hms87_2 := NB138_136.out
    have hms87_3 := NB138_137.out
    have hs88 : w84.cell? ⟨gb138, 1, none⟩ = some (.int .i64 x139001_1) := (blk_cell BK138.out 1).trans rfl
    have hfs88 := blk_frozen BK138.out 1
    have hns88_0 := NB134_138.out
    have hns88_1 := NB135_138.out
    have hns88_2 := NB136_138.out
    have hns88_3 := NB137_138.out
    have hms88_0 := NB138_134.out
    have hms88_1 := NB138_135.out
    have hms88_2 := NB138_136.out
    have hms88_3 := NB138_137.out
    refine skip_ (w1 := ?_) (by rfl) rfl ?_ ?_
    rotate_left
    ·go_simp
     rfl
    refine hK.out _ _ ⟨((cell_far (p := ⟨gb138, _, none⟩) NB134_138.out _).trans (((cell_far (p := ⟨gb138, _, none⟩) NB134_138.out _).trans (hHeld.1)))), ((cell_far (p := ⟨gb138, _, none⟩) NB134_138.out _).trans (((cell_far (p := ⟨gb138, _, none⟩) NB134_138.out _).trans (hHeld.2.1)))), ((cell_far (p := ⟨gb138, _, none⟩) NB135_138.out _).trans (((cell_far (p := ⟨gb138, _, none⟩) NB135_138.out _).trans (hHeld.2.2.1)))), ((cell_far (p := ⟨gb138, _, none⟩) NB135_138.out _).trans (((cell_far (p := ⟨gb138, _, none⟩) NB135_138.out _).trans (hHeld.2.2.2))))⟩ (fun hHeld => ?_)
    clear hK K
    refine pure_ (i := 7) (N := some 8) (v := ?_) (a' := ?_) #[true, true, true, true, true, true, true, true] rfl rfl (any_of HT_.out (by kernel_rfl)) (fun _ _ _ h => h) (Or.inl ⟨by rfl, ?_⟩) ?_ ?_
    rotate_left
    ·intro w'
     go_simp
     with_reducible rfl
    rotate_left
    ·simp only [Act.put, List.setIfInBounds_toArray, List.set_cons_zero, List.set_cons_succ, i64_w, i32_w]
     rfl
    refine done_ (done_of HT_.out (by kernel_rfl)) ?_
    try go_wp2
    refine bodyPost_ret (results_list (rs := [.cell 6 25, .cell 7 25, .tmp 8]) rfl (by simp) (.cell gb137 25 #[.int .i64 x135000_1, .int .i64 x135001_1] (0, 0) _ rfl (by (with_reducible repeat (first | apply blk_drewN | apply blk_drew | apply blk_alloc)); refine blk_far ?_ NB137_138.out _; (with_reducible repeat (first | apply blk_drewN | apply blk_drew | apply blk_alloc)); refine blk_far ?_ NB137_138.out _; (with_reducible repeat (first | apply blk_drewN | apply blk_drew | apply blk_alloc)); refine blk_put (cs := #[.int .i64 x135000_1, .int .i64 x138001_1]) ?_ 1 _ rfl; (with_reducible repeat (first | apply blk_drewN | apply blk_drew | apply blk_alloc)); refine blk_put (cs := #[.int .i64 x138000_1, .int .i64 x138001_1]) ?_ 0 _ rfl; (with_reducible repeat (first | apply blk_drewN | apply blk_drew | apply blk_alloc)); exact BK137.out) Try.underlying25 rfl (by kernel_rfl) (.cell gb138 25 #[.int .i64 x136000_1, .int .i64 x136001_1] (0, 0) _ rfl (by (with_reducible repeat (first | apply blk_drewN | apply blk_drew | apply blk_alloc)); refine blk_put (cs := #[.int .i64 x136000_1, .int .i64 x139001_1]) ?_ 1 _ rfl; (with_reducible repeat (first | apply blk_drewN | apply blk_drew | apply blk_alloc)); refine blk_put (cs := #[.int .i64 x139000_1, .int .i64 x139001_1]) ?_ 0 _ rfl; (with_reducible repeat (first | apply blk_drewN | apply blk_drew | apply blk_alloc)); refine blk_far ?_ NB138_137.out _; (with_reducible repeat (first | apply blk_drewN | apply blk_drew | apply blk_alloc)); refine blk_far ?_ NB138_137.out _; (with_reducible repeat (first | apply blk_drewN | apply blk_drew | apply blk_alloc)); exact BK138.out) Try.underlying25 rfl (by kernel_rfl) (.tmp .nil)))) rfl ?_
    exact ⟨by first | rfl | (simp [errW_none, errW_some] <;> rfl) | (simp [*, errW_none, errW_some] <;> rfl), by repeat (first | (with_reducible first | exact HB.out | apply below_alloc | apply pw_below_drewN | apply below_drew1 | refine below_set ?_ GE134.out | refine below_set ?_ GE135.out | refine below_set ?_ GE136.out | refine below_set ?_ GE137.out | refine below_set ?_ GE138.out) | exact HB.out)⟩

end Go.Proofs.Ytdkegdnfbpobnaa.PARS
