-- Laid by a program of this work (wip/gen): out of the translation, with texts of our own.
import Derived.Test.YtdkegdnfbpobnaaPARSx0
import Derived.Test.YtdkegdnfbpobnaaPARSx2
import Derived.Test.YtdkegdnfbpobnaaPARSx3
import Derived.Test.YtdkegdnfbpobnaaPARSx7
namespace Go.Proofs.Ytdkegdnfbpobnaa.PARS
open Go.RowKit Go.Proofs.YtdkegdnfbpobnaaW.PrintWords Go.Proofs.YtdkegdnfbpobnaaW.PrintLast Go.Proofs.YtdkegdnfbpobnaaW.PrintMore Go.Proofs.YtdkegdnfbpobnaaW.SepW
attribute [local go_sem] max2_int min2_int max_two min_two max_three min_three max_four min_four   -- for this text's walks alone
set_option linter.unusedVariables false
set_option linter.unusedSimpArgs false

/-! ### quant_points: function 28 -/
def quant_points.l0 : Nat → List (S25) → List (S25) → Int → Int → Int → Int → Int → Option ((List (S25)))
 | 0, _, _, _, _, _, _, _ => none
 | k + 1, x5, x10, x11, x12, x159000, x159001, x159002 => if x12 < x11 then (if 0 ≤ x12 then (if x12 < (x10.length : Int) then ((quant_Point.f x159000 x159001 x159002 ((rd_T25 x10 x12).f0) ((rd_T25 x10 x12).f1)).bind fun bt161 => (if x5.length < 8796093022208 then (quant_points.l0 k (x5 ++ [(⟨bt161.1, bt161.2.1⟩ : S25)]) x10 x11 (wrap64 (x12 + 1)) x159000 x159001 x159002) else (none))) else (none)) else (none)) else (some x5)
def quant_points.f (k : Nat) (a0_0 : Int) (a0_1 : Int) (a0_2 : Int) (l1 : List (S25)) : Option ((List (S25))) := quant_points.l0 k ([] : List (S25)) l1 (l1.length : Int) 0 a0_0 a0_1 a0_2
theorem quant_points.mono_l : ∀ k, (∀ y0 y1 y2 y3 y4 y5 y6, LeO (quant_points.l0 k y0 y1 y2 y3 y4 y5 y6) (quant_points.l0 (k + 1) y0 y1 y2 y3 y4 y5 y6))
 | 0 => fun _ _ _ _ _ _ _ r h => by simp [quant_points.l0] at h
 | k + 1 => by
  have ih0 := quant_points.mono_l k
  ·intro y0 y1 y2 y3 y4 y5 y6
   unfold quant_points.l0
   repeat' first
   | (with_reducible exact ih0 _ _ _ _ _ _ _)
   | (with_reducible exact LeO.refl _)
   | (with_reducible exact LeO.none _)
   | (with_reducible refine LeO.ite ?_ ?_)
   | (with_reducible refine LeO.bind ?_ (fun _ => ?_))
   | exact ih0 _ _ _ _ _ _ _
   | exact LeO.none _
   | refine LeO.ite ?_ ?_
   | refine LeO.bind ?_ (fun _ => ?_)
theorem quant_points.mono : ∀ a0 a1 a2 a3 k, LeO (quant_points.f k a0 a1 a2 a3) (quant_points.f (k + 1) a0 a1 a2 a3) := by
 intro a0 a1 a2 a3 k
 have ih0 := quant_points.mono_l k
 unfold quant_points.f
 repeat' first
   | (with_reducible exact ih0 _ _ _ _ _ _ _)
   | (with_reducible exact LeO.refl _)
   | (with_reducible exact LeO.none _)
   | (with_reducible refine LeO.ite ?_ ?_)
   | (with_reducible refine LeO.bind ?_ (fun _ => ?_))
   | exact ih0 _ _ _ _ _ _ _
   | exact LeO.none _
   | refine LeO.ite ?_ ?_
   | refine LeO.bind ?_ (fun _ => ?_)
set_option maxHeartbeats 8000000 in
set_option maxRecDepth 100000 in
theorem quant_points.calls (k : Nat) (a0_0 : Int) (a0_1 : Int) (a0_2 : Int) (A1 : Option Addr) (c1 : Nat) (l1 : List (S25)) (r : List (S25)) (w : World) (hr1 : Kd.C k25 w A1 l1.length l1) (hc1 : l1.length ≤ c1) (h : quant_points.f k a0_0 a0_1 a0_2 l1 = some r) :
  Calls Try.prog 28 #[.agg #[.int .i64 a0_0, .int .i64 a0_1, .int .i64 a0_2], .slice A1 l1.length c1] w fun e w' => ∃ v0_ : Value, e = .returned (v0_) ∧ Kd.R k25 25 w' w.heap.size (fun _ => True) v0_ r ∧ Below w.heap.size w w' := by
 have hu23 := Try.underlying23
 have hu25 := Try.underlying25
 have HR1 := Aside0.mk hr1
 have HC1 := Aside0.mk hc1
 clear hr1 hc1
 have HB := Aside0.mk (Below.refl w.heap.size w)
 have H : (quant_points.l0 k ([] : List (S25)) l1 (l1.length : Int) 0 a0_0 a0_1 a0_2) = some r := h
 clear h
 have H' := Aside0.mk H
 clear H
 go_enter Try.func28, Try.ntmps28
 go_wp2_with (first | ((with_reducible refine gate_dst (N := 2) rfl ?_); refine box_event ?hg (N := 2) ?hd (cs := #[.int .i64 a0_0, .int .i64 a0_1, .int .i64 a0_2]) (t := 23) ?hr ?_; (case hd => rfl); (case hg => rfl); (case hr => first | (go_simp; done) | (go_simp; rfl)); intro gb158 hg w3 hbox hb; have n0_ := Aside0.mk (below_step (by repeat (first | (with_reducible first | exact HB.out | apply below_alloc | apply pw_below_drewN | apply below_drew1) | exact HB.out)) hb); have n1_ := Aside0.mk (hbox); have n2_ := Aside0.mk ((by rw [hg]; exact (below_size (by repeat (first | (with_reducible first | exact HB.out | apply below_alloc | apply pw_below_drewN | apply below_drew1) | exact HB.out))) : w.heap.size ≤ gb158)); have n3_ := Aside0.mk ((by rw [hg]; exact (below_size (by repeat (first | (with_reducible first | exact HB.out | apply below_alloc | apply pw_below_drewN | apply below_drew1) | exact HB.out))) : w.heap.size ≤ gb158)); clear HB; have HB := n0_; have BK158 := n1_; have GW158 := n2_; have GE158 := n3_; clear n0_ n1_ n2_ n3_; clear hb hbox hg))
 go_loopg [5, 12] k (fun kq v5 v12 w' => ∃ (x5_1 : List (S25)) (x12_1 : Int), v12 = .int .i64 x12_1 ∧ Aside0 (quant_points.l0 kq x5_1 l1 (l1.length : Int) x12_1 a0_0 a0_1 a0_2 = some r) ∧ Aside0 (kq ≤ k) ∧ Aside0 (Kd.R k25 25 w' w.heap.size (fun _ => True) v5 x5_1) ∧ Aside0 (w'.heap[gb158]? = some (.cells #[.int .i64 a0_0, .int .i64 a0_1, .int .i64 a0_2] 23 (0, 0))) ∧ Aside0 (Below w.heap.size w w'))
 case atStart => exact ⟨(([] : List (S25))), (0), (by first | rfl | (simp; done) | (simp [*]; done)), H', ⟨Nat.le_refl _⟩, ⟨by first | exact Kd.R_nil _ _ _ _ _ | exact Kd.N_nil _ _ _ _ _ | exact Kd.V_nil _ _ _ _ _ | exact Kd.Q_nil _ _ _ _ _ | exact Kd.S_nil _ _ _ _ _⟩, ⟨by (with_reducible repeat (first | apply blk_drewN | apply blk_drew | apply blk_alloc)); exact BK158.out⟩, ⟨by repeat (first | (with_reducible first | exact HB.out | apply below_alloc | apply pw_below_drewN | apply below_drew1 | refine below_set ?_ GE158.out) | exact HB.out)⟩⟩
 case round =>
  clear H'
  try clear c1
  try clear c2
  try clear p2
  obtain ⟨x5_1, x12_1, rfl, HA, HK1, HO_5, BK158, HB⟩ := hrel
  cases gk with
  | zero => exact absurd HA.out (by simp [quant_points.l0])
  | succ k1 =>
   have H := HA.out
   clear HA
   simp only [quant_points.l0] at H
   by_cases c4 : x12_1 < (l1.length : Int)
   ·rw [if_pos c4] at H
    have c4b0 : decide (x12_1 < (l1.length : Int)) = true := decide_eq_true c4
    clear c4
    by_cases c5 : 0 ≤ x12_1
    ·rw [if_pos c5] at H
     have c5b0 : decide (0 ≤ x12_1) = true := decide_eq_true c5
     clear c5
     by_cases c6 : x12_1 < (l1.length : Int)
     ·rw [if_pos c6] at H
      have c6b0 : decide (x12_1 < (l1.length : Int)) = true := decide_eq_true c6
      clear c6
      replace H := Option.bind_eq_some_iff.mp H
      obtain ⟨⟨t161, t162, t163⟩, A70, H⟩ := H
      replace H : (if x5_1.length < 8796093022208 then (quant_points.l0 k1 (x5_1 ++ [(⟨t161, t162⟩ : S25)]) l1 (l1.length : Int) (wrap64 (x12_1 + 1)) a0_0 a0_1 a0_2) else (none)) = some r := H
      have A7 := Aside0.mk A70
      clear A70
      by_cases c8 : x5_1.length < 8796093022208
      ·rw [if_pos c8] at H
       have LMc8 := Aside0.mk c8
       clear c8
       obtain ⟨y165, hy165⟩ : ∃ y_ : List (S25), y_ = (x5_1 ++ [(⟨t161, t162⟩ : S25)]) := ⟨_, rfl⟩
       replace H : (quant_points.l0 k1 y165 l1 (l1.length : Int) (wrap64 (x12_1 + 1)) a0_0 a0_1 a0_2) = some r := by first | (rw [hy165]; with_reducible exact H) | (have H2_ := (Option.bind_some _ _).symm.trans H; rw [hy165]; with_reducible exact H2_) | (have H2_ := (Option.bind_some _ _).symm.trans H; with_reducible exact H2_) | with_reducible exact H | (rw [hy165]; exact H) | exact H
       have Ny165 := Aside0.mk hy165
       clear hy165
       have H' := Aside0.mk H
       clear H
       have p159 : 0 ≤ (x12_1 : Int) := of_decide_eq_true (by first | (with_reducible assumption) | assumption)
       have q159 : x12_1 < (l1.length : Int) := of_decide_eq_true (by first | (with_reducible assumption) | assumption)
       obtain ⟨ad159, e159, hx159_0, hx159_1⟩ := at_T25 HR1.out x12_1 p159 q159
       cases e159
       replace hx159_0 := (HB.out.cell (World.block_lt_of_cell? w _ hx159_0)).trans hx159_0
       replace hx159_1 := (HB.out.cell (World.block_lt_of_cell? w _ hx159_1)).trans hx159_1
       replace p159 := eq_true p159
       replace q159 := eq_true q159
       go_wp2_with (first | ((with_reducible refine gate_dst (N := 7) rfl ?_); refine box_event ?hg (N := 7) ?hd (cs := #[.int .i64 0, .int .i64 0]) (t := 25) ?hr ?_; (case hd => rfl); (case hg => rfl); (case hr => first | (go_simp; done) | (go_simp; rfl)); intro gb160 hg w9 hbox hb; have n0_ := Aside0.mk (Kd.R_below (Kd.R_elderB (by (with_reducible repeat (first | apply Kd.R_alloc | apply Kd.R_drewN | apply Kd.R_drew)); exact HO_5.out) gb160 (Nat.le_of_eq hg.symm)) hb); have n1_ := Aside0.mk (blk_below (g := gb158) (o := .cells #[.int .i64 a0_0, .int .i64 a0_1, .int .i64 a0_2] 23 (0, 0)) (by (with_reducible repeat (first | apply blk_drewN | apply blk_drew | apply blk_alloc)); exact BK158.out) hb); have n2_ := Aside0.mk (below_step (by repeat (first | (with_reducible first | exact HB.out | apply below_alloc | apply pw_below_drewN | apply below_drew1 | refine below_set ?_ GE158.out) | exact HB.out)) hb); have n3_ := Aside0.mk (hbox); have n4_ := Aside0.mk ((by rw [hg]; exact (below_size (by repeat (first | (with_reducible first | exact HB.out | apply below_alloc | apply pw_below_drewN | apply below_drew1 | refine below_set ?_ GE158.out) | exact HB.out))) : w.heap.size ≤ gb160)); have n5_ := Aside0.mk ((by rw [hg]; exact (below_size (by repeat (first | (with_reducible first | exact HB.out | apply below_alloc | apply pw_below_drewN | apply below_drew1 | refine below_set ?_ GE158.out) | exact HB.out))) : w.heap.size ≤ gb160)); have n6_ := Aside0.mk ((by rw [hg]; exact Nat.ne_of_lt (blk_lt (g := gb158) (o := .cells #[.int .i64 a0_0, .int .i64 a0_1, .int .i64 a0_2] 23 (0, 0)) (by (with_reducible repeat (first | apply blk_drewN | apply blk_drew | apply blk_alloc)); exact BK158.out)) : gb158 ≠ gb160)); have n7_ := Aside0.mk ((by rw [hg]; exact Nat.ne_of_gt (blk_lt (g := gb158) (o := .cells #[.int .i64 a0_0, .int .i64 a0_1, .int .i64 a0_2] 23 (0, 0)) (by (with_reducible repeat (first | apply blk_drewN | apply blk_drew | apply blk_alloc)); exact BK158.out)) : gb160 ≠ gb158)); clear HO_5; clear BK158; clear HB; have HO_5 := n0_; have BK158 := n1_; have HB := n2_; have BK160 := n3_; have GW160 := n4_; have GE160 := n5_; have NB158_160 := n6_; have NB160_158 := n7_; clear n0_ n1_ n2_ n3_ n4_ n5_ n6_ n7_; clear hb hbox hg; have hnb10 := NB160_158.out; have hnc10 := NB158_160.out; have hcz11_0 : w9.cell? ⟨gb160, 0, none⟩ = some (.int .i64 0) := (blk_cell BK160.out 0).trans rfl; have hcz11_1 : w9.cell? ⟨gb160, 1, none⟩ = some (.int .i64 0) := (blk_cell BK160.out 1).trans rfl; have hfz11_0 := blk_frozen BK160.out 0; have hfz11_1 := blk_frozen BK160.out 1; have hcz12_0 : w9.cell? ⟨gb158, 0, none⟩ = some (.int .i64 a0_0) := (blk_cell BK158.out 0).trans rfl; have hcz12_1 : w9.cell? ⟨gb158, 1, none⟩ = some (.int .i64 a0_1) := (blk_cell BK158.out 1).trans rfl; have hcz12_2 : w9.cell? ⟨gb158, 2, none⟩ = some (.int .i64 a0_2) := (blk_cell BK158.out 2).trans rfl; have hfz12_0 := blk_frozen BK158.out 0; have hfz12_1 := blk_frozen BK158.out 1; have hfz12_2 := blk_frozen BK158.out 2) | ((with_reducible refine gate_callee (f := 8) rfl ?_); refine goesL_ (some 19) rfl rfl Try.func8 (by kernel_rfl) rfl #[.agg #[.int .i64 a0_0, .int .i64 a0_1, .int .i64 a0_2], .agg #[.int .i64 ((rd_T25 l1 x12_1).f0), .int .i64 ((rd_T25 l1 x12_1).f1)]] rfl (by (try simp only [List.map_toArray, List.map_cons, List.map_nil]); first | done | rfl | (simp only [List.length_drop, List.length_take]; rfl)) ?_; (with_reducible refine (quant_Point.calls a0_0 a0_1 a0_2 ((rd_T25 l1 x12_1).f0) ((rd_T25 l1 x12_1).f1) t161 t162 t163 _ A7.out).mono ?_); rintro e w13 ⟨rfl, hb⟩; refine ⟨_, rfl, ?_⟩; have n0_ := Aside0.mk (Kd.R_below (by (with_reducible repeat (first | apply Kd.R_alloc | apply Kd.R_drewN | apply Kd.R_drew)); exact (Kd.R_mono (Kd.R_far (p := ⟨gb160, 1, none⟩) (Kd.R_far (p := ⟨gb160, 0, none⟩) (Kd.R_mono HO_5.out (fun k_ hk => (⟨hk, hk.2⟩ : _ ∧ k_ ≠ gb160))) (fun _ hk => hk.2) (.int .i64 ((rd_T25 l1 x12_1).f0))) (fun _ hk => hk.2) (.int .i64 ((rd_T25 l1 x12_1).f1))) (fun _ h_ => h_.1))) hb); have n1_ := Aside0.mk (blk_below (g := gb158) (o := .cells #[.int .i64 a0_0, .int .i64 a0_1, .int .i64 a0_2] 23 (0, 0)) (by (with_reducible repeat (first | apply blk_drewN | apply blk_drew | apply blk_alloc)); refine blk_far ?_ NB158_160.out _; (with_reducible repeat (first | apply blk_drewN | apply blk_drew | apply blk_alloc)); refine blk_far ?_ NB158_160.out _; (with_reducible repeat (first | apply blk_drewN | apply blk_drew | apply blk_alloc)); exact BK158.out) hb); have n2_ := Aside0.mk (blk_below (g := gb160) (o := .cells #[.int .i64 ((rd_T25 l1 x12_1).f0), .int .i64 ((rd_T25 l1 x12_1).f1)] 25 (0, 0)) (by (with_reducible repeat (first | apply blk_drewN | apply blk_drew | apply blk_alloc)); refine blk_put (cs := #[.int .i64 ((rd_T25 l1 x12_1).f0), .int .i64 0]) ?_ 1 _ rfl; (with_reducible repeat (first | apply blk_drewN | apply blk_drew | apply blk_alloc)); refine blk_put (cs := #[.int .i64 0, .int .i64 0]) ?_ 0 _ rfl; (with_reducible repeat (first | apply blk_drewN | apply blk_drew | apply blk_alloc)); exact BK160.out) hb); have n3_ := Aside0.mk (below_step (by repeat (first | (with_reducible first | exact HB.out | apply below_alloc | apply pw_below_drewN | apply below_drew1 | refine below_set ?_ GE158.out | refine below_set ?_ GE160.out) | exact HB.out)) hb); clear HO_5; clear BK158; clear BK160; clear HB; have HO_5 := n0_; have BK158 := n1_; have BK160 := n2_; have HB := n3_; clear n0_ n1_ n2_ n3_; (try clear hb); (try clear hb2); (try clear hk); (try clear hi)) | ((with_reducible refine gate_dst (N := 8) rfl ?_); refine box_event ?hg (N := 8) ?hd (cs := #[.int .i64 0, .int .i64 0]) (t := 25) ?hr ?_; (case hd => rfl); (case hg => rfl); (case hr => first | (go_simp; done) | (go_simp; rfl)); intro gb164 hg w14 hbox hb; have n0_ := Aside0.mk (Kd.R_below (Kd.R_elderB (by (with_reducible repeat (first | apply Kd.R_alloc | apply Kd.R_drewN | apply Kd.R_drew)); exact HO_5.out) gb164 (Nat.le_of_eq hg.symm)) hb); have n1_ := Aside0.mk (blk_below (g := gb158) (o := .cells #[.int .i64 a0_0, .int .i64 a0_1, .int .i64 a0_2] 23 (0, 0)) (by (with_reducible repeat (first | apply blk_drewN | apply blk_drew | apply blk_alloc)); exact BK158.out) hb); have n2_ := Aside0.mk (blk_below (g := gb160) (o := .cells #[.int .i64 ((rd_T25 l1 x12_1).f0), .int .i64 ((rd_T25 l1 x12_1).f1)] 25 (0, 0)) (by (with_reducible repeat (first | apply blk_drewN | apply blk_drew | apply blk_alloc)); exact BK160.out) hb); have n3_ := Aside0.mk (below_step (by repeat (first | (with_reducible first | exact HB.out | apply below_alloc | apply pw_below_drewN | apply below_drew1 | refine below_set ?_ GE158.out | refine below_set ?_ GE160.out) | exact HB.out)) hb); have n4_ := Aside0.mk (hbox); have n5_ := Aside0.mk ((by rw [hg]; exact (below_size (by repeat (first | (with_reducible first | exact HB.out | apply below_alloc | apply pw_below_drewN | apply below_drew1 | refine below_set ?_ GE158.out | refine below_set ?_ GE160.out) | exact HB.out))) : w.heap.size ≤ gb164)); have n6_ := Aside0.mk ((by rw [hg]; exact (below_size (by repeat (first | (with_reducible first | exact HB.out | apply below_alloc | apply pw_below_drewN | apply below_drew1 | refine below_set ?_ GE158.out | refine below_set ?_ GE160.out) | exact HB.out))) : w.heap.size ≤ gb164)); have n7_ := Aside0.mk ((by rw [hg]; exact Nat.ne_of_lt (blk_lt (g := gb158) (o := .cells #[.int .i64 a0_0, .int .i64 a0_1, .int .i64 a0_2] 23 (0, 0)) (by (with_reducible repeat (first | apply blk_drewN | apply blk_drew | apply blk_alloc)); exact BK158.out)) : gb158 ≠ gb164)); have n8_ := Aside0.mk ((by rw [hg]; exact Nat.ne_of_gt (blk_lt (g := gb158) (o := .cells #[.int .i64 a0_0, .int .i64 a0_1, .int .i64 a0_2] 23 (0, 0)) (by (with_reducible repeat (first | apply blk_drewN | apply blk_drew | apply blk_alloc)); exact BK158.out)) : gb164 ≠ gb158)); have n9_ := Aside0.mk ((by rw [hg]; exact Nat.ne_of_lt (blk_lt (g := gb160) (o := .cells #[.int .i64 ((rd_T25 l1 x12_1).f0), .int .i64 ((rd_T25 l1 x12_1).f1)] 25 (0, 0)) (by (with_reducible repeat (first | apply blk_drewN | apply blk_drew | apply blk_alloc)); exact BK160.out)) : gb160 ≠ gb164)); have n10_ := Aside0.mk ((by rw [hg]; exact Nat.ne_of_gt (blk_lt (g := gb160) (o := .cells #[.int .i64 ((rd_T25 l1 x12_1).f0), .int .i64 ((rd_T25 l1 x12_1).f1)] 25 (0, 0)) (by (with_reducible repeat (first | apply blk_drewN | apply blk_drew | apply blk_alloc)); exact BK160.out)) : gb164 ≠ gb160)); clear HO_5; clear BK158; clear BK160; clear HB; have HO_5 := n0_; have BK158 := n1_; have BK160 := n2_; have HB := n3_; have BK164 := n4_; have GW164 := n5_; have GE164 := n6_; have NB158_164 := n7_; have NB164_158 := n8_; have NB160_164 := n9_; have NB164_160 := n10_; clear n0_ n1_ n2_ n3_ n4_ n5_ n6_ n7_ n8_ n9_ n10_; clear hb hbox hg; have hnb15 := NB164_158.out; have hnc15 := NB158_164.out; have hnb16 := NB164_160.out; have hnc16 := NB160_164.out; have hcz17_0 : w14.cell? ⟨gb164, 0, none⟩ = some (.int .i64 0) := (blk_cell BK164.out 0).trans rfl; have hcz17_1 : w14.cell? ⟨gb164, 1, none⟩ = some (.int .i64 0) := (blk_cell BK164.out 1).trans rfl; have hfz17_0 := blk_frozen BK164.out 0; have hfz17_1 := blk_frozen BK164.out 1) | ((with_reducible refine gate_builtin (b := .append) (xs := #[.tmp 22, .tmp 24]) rfl ?_); at_builtin; refine Kd.R_append k25 (w0 := w) w.heap.size rfl (.tmp 22) (.tmp 24) 30 25 (.agg #[(.int .i64 0), (.int .i64 0)]) 16 rfl Try.underlying30 info25 rfl (by decide) (by omega) u5 x5_1 (⟨t161, t162⟩ : S25) [.int .i64 t161, .int .i64 t162] (fun k_ => k_ ≠ gb160 ∧ k_ ≠ gb164) (fun _ => False) rfl (by first | (go_simp; done) | (go_simp; rfl)) ?aP (fun _ hk => hk.elim) ?aF ?aO ?aB ?aS ?aL ?_; (case aP => exact k25_mkM _ _ _ (⟨t161, t162⟩ : S25)); (case aB => exact (by repeat (first | (with_reducible first | exact HB.out | apply below_alloc | apply pw_below_drewN | apply below_drew1 | refine below_set ?_ GE158.out | refine below_set ?_ GE160.out | refine below_set ?_ GE164.out) | exact HB.out))); (case aF => exact (fun k_ hk => ⟨Kd.freshB (g := gb160) (o := .cells #[.int .i64 ((rd_T25 l1 x12_1).f0), .int .i64 ((rd_T25 l1 x12_1).f1)] 25 (0, 0)) (by (with_reducible repeat (first | apply blk_drewN | apply blk_drew | apply blk_alloc)); refine blk_far ?_ NB160_164.out _; (with_reducible repeat (first | apply blk_drewN | apply blk_drew | apply blk_alloc)); refine blk_far ?_ NB160_164.out _; (with_reducible repeat (first | apply blk_drewN | apply blk_drew | apply blk_alloc)); exact BK160.out) k_ hk, Kd.freshB (g := gb164) (o := .cells #[.int .i64 t161, .int .i64 t162] 25 (0, 0)) (by (with_reducible repeat (first | apply blk_drewN | apply blk_drew | apply blk_alloc)); refine blk_put (cs := #[.int .i64 t161, .int .i64 0]) ?_ 1 _ rfl; (with_reducible repeat (first | apply blk_drewN | apply blk_drew | apply blk_alloc)); refine blk_put (cs := #[.int .i64 0, .int .i64 0]) ?_ 0 _ rfl; (with_reducible repeat (first | apply blk_drewN | apply blk_drew | apply blk_alloc)); exact BK164.out) k_ hk⟩)); (case aO => exact (by (with_reducible repeat (first | apply Kd.R_alloc | apply Kd.R_drewN | apply Kd.R_drew)); exact Kd.R_mono (Kd.R_far (p := ⟨gb164, 1, none⟩) (Kd.R_far (p := ⟨gb164, 0, none⟩) (Kd.R_mono HO_5.out (fun k_ hk => (⟨hk, hk.2⟩ : _ ∧ k_ ≠ gb164))) (fun _ hk => hk.2) (.int .i64 t161)) (fun _ hk => hk.2) (.int .i64 t162)) (fun _ hk => ⟨hk.1.1.2, hk.1.2⟩))); (case aS => exact (below_size (by repeat (first | (with_reducible first | exact HB.out | apply below_alloc | apply pw_below_drewN | apply below_drew1 | refine below_set ?_ GE158.out | refine below_set ?_ GE160.out | refine below_set ?_ GE164.out) | exact HB.out)))); (case aL => have := LMc8.out; omega); intro v166 w18 ho hb hg hat; rw [← Ny165.out] at ho; have n0_ := Aside0.mk (blk_grown (g := gb158) (o := .cells #[.int .i64 a0_0, .int .i64 a0_1, .int .i64 a0_2] 23 (0, 0)) (by (with_reducible repeat (first | apply blk_drewN | apply blk_drew | apply blk_alloc)); refine blk_far ?_ NB158_164.out _; (with_reducible repeat (first | apply blk_drewN | apply blk_drew | apply blk_alloc)); refine blk_far ?_ NB158_164.out _; (with_reducible repeat (first | apply blk_drewN | apply blk_drew | apply blk_alloc)); exact BK158.out) hg (Kd.R_ne HO_5.out BK158.out (by decide))); have n1_ := Aside0.mk (blk_grown (g := gb160) (o := .cells #[.int .i64 ((rd_T25 l1 x12_1).f0), .int .i64 ((rd_T25 l1 x12_1).f1)] 25 (0, 0)) (by (with_reducible repeat (first | apply blk_drewN | apply blk_drew | apply blk_alloc)); refine blk_far ?_ NB160_164.out _; (with_reducible repeat (first | apply blk_drewN | apply blk_drew | apply blk_alloc)); refine blk_far ?_ NB160_164.out _; (with_reducible repeat (first | apply blk_drewN | apply blk_drew | apply blk_alloc)); exact BK160.out) hg (Kd.R_away HO_5.out (fun _ hk => hk.1.2))); have n2_ := Aside0.mk (blk_grown (g := gb164) (o := .cells #[.int .i64 t161, .int .i64 t162] 25 (0, 0)) (by (with_reducible repeat (first | apply blk_drewN | apply blk_drew | apply blk_alloc)); refine blk_put (cs := #[.int .i64 t161, .int .i64 0]) ?_ 1 _ rfl; (with_reducible repeat (first | apply blk_drewN | apply blk_drew | apply blk_alloc)); refine blk_put (cs := #[.int .i64 0, .int .i64 0]) ?_ 0 _ rfl; (with_reducible repeat (first | apply blk_drewN | apply blk_drew | apply blk_alloc)); exact BK164.out) hg (Kd.R_away HO_5.out (fun _ hk => hk.2))); have n3_ := Aside0.mk (hb); have n4_ := Aside0.mk (ho); clear BK158; clear BK160; clear BK164; clear HB; clear HO_5; have BK158 := n0_; have BK160 := n1_; have BK164 := n2_; have HB := n3_; have HO167 := n4_; clear n0_ n1_ n2_ n3_ n4_; clear ho hb hg hat))
       go_roundg k1
       case measure => have := HK1.out; omega
       case rel => exact ⟨(y165), (wrap64 (x12_1 + 1)), (by first | rfl | (simp; done) | (simp [*]; done)), H', ⟨by have := HK1.out; omega⟩, ⟨by (with_reducible repeat (first | apply Kd.R_alloc | apply Kd.R_drewN | apply Kd.R_drew)); exact Kd.R_mono HO167.out (fun _ hk => trivial)⟩, ⟨by (with_reducible repeat (first | apply blk_drewN | apply blk_drew | apply blk_alloc)); exact BK158.out⟩, ⟨by repeat (first | (with_reducible first | exact HB.out | apply below_alloc | apply pw_below_drewN | apply below_drew1 | refine below_set ?_ GE158.out | refine below_set ?_ GE160.out | refine below_set ?_ GE164.out) | exact HB.out)⟩⟩
      ·rw [if_neg c8] at H
       exact absurd H (by simp)
     ·rw [if_neg c6] at H
      exact absurd H (by simp)
    ·rw [if_neg c5] at H
     exact absurd H (by simp)
   ·rw [if_neg c4] at H
    have c4b0 : decide (x12_1 < (l1.length : Int)) = false := decide_eq_false c4
    clear c4
    obtain rfl := Option.some.inj H
    go_wp2
    go_ret
    exact ⟨_, by first | rfl | (simp [errW_none, errW_some] <;> rfl) | (simp [*, errW_none, errW_some] <;> rfl), by (with_reducible repeat (first | apply Kd.R_alloc | apply Kd.R_drewN | apply Kd.R_drew)); exact HO_5.out, by repeat (first | (with_reducible first | exact HB.out | apply below_alloc | apply pw_below_drewN | apply below_drew1 | refine below_set ?_ GE158.out) | exact HB.out)⟩

/-! by hand -/
/-! ### quant_Line: function 14 -/

theorem at_row {α : Type} {e : Nat} {d : Kd α} {w : World} {A : Option Addr} {n : Nat} {xs : List (List α)} (h : (Kd.slice e d).C w A n xs) (i : Nat) (hi : i < n) :
  ∃ ad A' c', A = some ad ∧ w.cell? (ad.add i) = some (.slice A' (xs.getD i []).length c') ∧ (xs.getD i []).length ≤ c' ∧ d.C w A' (xs.getD i []).length (xs.getD i []) := by
 obtain ⟨ad, c, e1, hs, ⟨A', c', hR, hl, hC⟩, hc⟩ := ReadsRow.get_ h [] (i : Int) (by omega) (by omega)
 subst hR
 have h0 := hc 0 _ rfl
 rw [Int.toNat_natCast] at h0 hC hl
 refine ⟨ad, A', c', e1, ?_, hl, hC⟩
 simpa [Kd.slice] using h0
set_option maxHeartbeats 400000 in
set_option maxRecDepth 100000 in
theorem quant_Line_1.calls {w0 w : World} {L : List (Thing w0.heap.size)} (A : Option Addr) (c : Nat) (q : List S25) (g : Nat) (v : Value) (vs : List Value) (n m : Nat) (S : Sep w0 w L) (hn : L[n]? = some (Box _ g 32 #[v])) (hm : L[m]? = some (Hdr _ 30 v vs)) (hne : n ≠ m) (h2 : 2 ≤ q.length) (hl : vs.length < 1099511627776) :
  Calls Try.prog 25 #[.slice A q.length c, .pointer (some ⟨g, 0, none⟩)] w fun e w' => e = .returned (.tuple #[]) ∧ ∃ v', Sep w0 w' ((L.set m (Hdr _ 30 v' (vs ++ [.slice A q.length c]))).set n (Box _ g 32 #[v'])) := by
 have Hn := Aside0.mk hn
 have Hm := Aside0.mk hm
 clear hn hm
 have c1 := blk_cell (S.at_box n Hn.out) 0
 have f1 := blk_frozen (S.at_box n Hn.out) 0
 simp only [List.getElem?_toArray, List.getElem?_cons_zero, List.getElem?_cons_succ] at c1
 have k2 : decide ((q.length : Int) ≥ 2) = true := decide_eq_true (by omega)
 have k3 : decide (2 ≤ (q.length : Int)) = true := decide_eq_true (by omega)
 go_enter Try.func25, Try.ntmps25
 go_wp2_with (first | ((with_reducible refine gate_builtin (b := .append) (xs := #[.tmp 6, .tmp 8]) rfl ?_); at_builtin; obtain ⟨ho, hup⟩ := S.hdr_append m Hm.out; refine print_append_cells (w0 := w0) w0.heap.size rfl (.tmp 6) (.tmp 8) 32 30 (.slice none 0 0) 1 24 rfl Try.underlying32 info30 rfl (by decide) (by omega) _ _ vs [.slice A q.length c] rfl rfl rfl (by simp [Value.oneCell']) ho S.below S.size (by omega) ?_; intro v5 w5_ hown hb hg hat; have hown' := Aside0.mk hown; replace S := hup v5 w5_ (vs ++ [.slice A q.length c]) (by rw [show (vs ++ [Value.slice A q.length c]).length = vs.length + 1 from (by rw [List.length_append]; rfl)]; exact hown'.out) hb hg hat; clear ho hup hown hown' hb hg hat; have hn2 := Aside0.mk (show (L.set m (Hdr _ 30 v5 (vs ++ [Value.slice A q.length c])))[n]? = some (Box _ g 32 #[v]) by rw [List.getElem?_set_ne (by omega)]; exact Hn.out); obtain ⟨A5, c5, ev5⟩ := S.hdr_form m (by rw [List.getElem?_set_self (by have := List.getElem?_eq_some_iff.1 Hm.out; exact this.1)]); subst ev5; have c4 := blk_cell (S.at_box n hn2.out) 0; have f4 := blk_frozen (S.at_box n hn2.out) 0; simp only [List.getElem?_toArray, List.getElem?_cons_zero, List.getElem?_cons_succ] at c4))
 go_end0
 refine ⟨rfl, .slice A5 (vs.length + 1) c5, ?_⟩
 have h5 := S.set n hn2.out 0 (.slice A5 (vs.length + 1) c5)
 simp only [List.length_append, List.length_singleton] at h5
 exact h5
set_option maxRecDepth 100000 in
theorem quant_Line_1.short (A : Option Addr) (c : Nat) (q : List S25) (p : Addr) (w : World) (h2 : ¬ 2 ≤ q.length) :
  Calls Try.prog 25 #[.slice A q.length c, .pointer (some p)] w fun e w' => e = .returned (.tuple #[]) ∧ w' = w := by
 have k2 : decide ((q.length : Int) ≥ 2) = false := decide_eq_false (by omega)
 have k3 : decide (2 ≤ (q.length : Int)) = false := decide_eq_false (by omega)
 go_enter Try.func25, Try.ntmps25
 go_wp2
 go_end0
 exact ⟨rfl, rfl⟩
/-- Part after part. -/
def quant_Line.go (z x y : Int) : Nat → List (List S25) → Nat → List (List S25) → Option (List (List S25))
 | 0, _, _, _ => none
 | k + 1, ps, i, done =>
  if i < ps.length then
   if done.length < 1099511627776 then
    (quant_points.f k z x y (ps.getD i [])).bind fun q0 => (clip_Tidy.f k q0).bind fun q => quant_Line.go z x y k ps (i + 1) (if 2 ≤ q.length then done ++ [q] else done)
   else none
  else some done
def quant_Line.f (k : Nat) (z x y : Int) (l1 : List S25) : Option (List (List S25)) :=
 (tilegrid_Box.f z x y).bind fun b => if b.2.2.2.2 = 0 then (clip_Line.f k l1 b.1 b.2.1 b.2.2.1 b.2.2.2.1).bind fun ps => quant_Line.go z x y k ps 0 [] else some []
set_option maxHeartbeats 1000000 in
set_option maxRecDepth 100000 in
theorem quant_Line.calls (k : Nat) (z x y : Int) (A1 : Option Addr) (c1 : Nat) (l1 : List S25) (r : List (List S25)) (w : World) (hr1 : Kd.C k25 w A1 l1.length l1) (hc1 : l1.length ≤ c1) (h : quant_Line.f k z x y l1 = some r) :
  Calls Try.prog 14 #[.agg #[.int .i64 z, .int .i64 x, .int .i64 y], .slice A1 l1.length c1] w fun e w' => ∃ v0_ : Value, e = .returned (v0_) ∧ Kd.S (Kd.slice 25 k25) 30 w' w.heap.size (fun _ => True) v0_ r ∧ Below w.heap.size w w' := by
 have hu23 := Try.underlying23
 have hu25 := Try.underlying25
 have hu40 := Try.underlying40
 have hmf : ∀ (fn : Fn) (first cap : Array Value) (w : World), (Instr.makeFunc fn first cap).run Try.prog w = .ok (.func fn first cap) w := fun _ _ _ _ => rfl
 have HR := Aside0.mk hr1
 have HC := Aside0.mk hc1
 clear hr1 hc1
 unfold quant_Line.f at h
 obtain ⟨⟨b0, b1, b2, b3, be⟩, hb, h⟩ := Option.bind_eq_some_iff.mp h
 have HBX := Aside0.mk hb
 clear hb
 dsimp only at h
 have S := Sep.start w
 by_cases he : be = 0
 ·rw [if_pos he] at h
  subst he
  obtain ⟨ps, hp, h⟩ := Option.bind_eq_some_iff.mp h
  have HP := Aside0.mk hp
  have H' := Aside0.mk h
  clear h hp
  go_enter Try.func14, Try.ntmps14
  go_wp2_with (first | ((with_reducible refine gate_dst (N := 2) rfl ?_); refine box_event ?hg (N := 2) ?hd (cs := #[.int .i64 z, .int .i64 x, .int .i64 y]) (t := 23) ?hr ?_; (case hd => rfl); (case hg => rfl); (case hr => first | (go_simp; done) | (go_simp; rfl)); intro g2 hg wg2 hbox hb; replace S := (S).box hg hbox hb; clear hbox hb hg; have ct_0 := blk_cell (S.at_box 0 rfl) 0; have ct_1 := blk_cell (S.at_box 0 rfl) 1; have ct_2 := blk_cell (S.at_box 0 rfl) 2; simp only [List.getElem?_toArray, List.getElem?_cons_zero, List.getElem?_cons_succ] at ct_0 ct_1 ct_2) | (go_at_call 20; (with_reducible refine (tilegrid_Box.calls z x y b0 b1 b2 b3 0 _ HBX.out).mono ?_); rintro e w20 ⟨rfl, hb⟩; replace S := S.step hb; clear hb; clear ct_0 ct_1 ct_2) | ((with_reducible refine gate_dst (N := 5) rfl ?_); refine box_event ?hg (N := 5) ?hd (cs := #[.int .i64 0, .int .i64 0, .int .i64 0, .int .i64 0]) (t := 40) ?hr ?_; (case hd => rfl); (case hg => rfl); (case hr => first | (go_simp; done) | (go_simp; rfl)); intro g5 hg wg5 hbox hb; replace S := (S).box hg hbox hb; clear hbox hb hg; have cb_0 := blk_cell (S.at_box 0 rfl) 0; have cb_1 := blk_cell (S.at_box 0 rfl) 1; have cb_2 := blk_cell (S.at_box 0 rfl) 2; have cb_3 := blk_cell (S.at_box 0 rfl) 3; have fb_0 := blk_frozen (S.at_box 0 rfl) 0; have fb_1 := blk_frozen (S.at_box 0 rfl) 1; have fb_2 := blk_frozen (S.at_box 0 rfl) 2; have fb_3 := blk_frozen (S.at_box 0 rfl) 3; simp only [List.getElem?_toArray, List.getElem?_cons_zero, List.getElem?_cons_succ] at cb_0 cb_1 cb_2 cb_3) | ((with_reducible refine gate_dst (N := 7) rfl ?_); refine box_event ?hg (N := 7) ?hd (cs := #[.slice none 0 0]) (t := 32) ?hr ?_; (case hd => rfl); (case hg => rfl); (case hr => first | (go_simp; done) | (go_simp; rfl)); intro g7 hg wg7 hbox hb; replace S : Sep w _ [Box _ g5 40 #[.int .i64 b0, .int .i64 b1, .int .i64 b2, .int .i64 b3], Box _ g2 23 #[.int .i64 z, .int .i64 x, .int .i64 y]] := (((S.set 0 rfl 0 (.int .i64 b0)).set 0 rfl 1 (.int .i64 b1)).set 0 rfl 2 (.int .i64 b2)).set 0 rfl 3 (.int .i64 b3); clear cb_0 cb_1 cb_2 cb_3 fb_0 fb_1 fb_2 fb_3; replace S := (S).box hg hbox hb; clear hbox hb hg; have cb_0 := blk_cell (S.at_box 1 rfl) 0; have cb_1 := blk_cell (S.at_box 1 rfl) 1; have cb_2 := blk_cell (S.at_box 1 rfl) 2; have cb_3 := blk_cell (S.at_box 1 rfl) 3; simp only [List.getElem?_toArray, List.getElem?_cons_zero, List.getElem?_cons_succ] at cb_0 cb_1 cb_2 cb_3) | (go_at_call 26; (with_reducible refine (clip_Line.calls k _ _ l1 b0 b1 b2 b3 ps _ (Kd.C_below HR.out S.below) HC.out HP.out).mono ?_); rintro e w26 ⟨vp, rfl, ho, hb⟩; replace S := S.own (Kd.S_R ho) hb; clear ho hb; clear cb_0 cb_1 cb_2 cb_3; obtain ⟨Ap, np, cp, evp⟩ := R_form (S.at_own 0 rfl); have hlen : np = ps.length := (by obtain ⟨_, _, h_, _⟩ := (S.own_reads 0 rfl); rw [evp] at h_; injection h_); subst evp; subst hlen))
  have hlen : ps.length ≤ 9223372036854775807 := (S.own_C 0 rfl).2.1
  go_loopg [10, 23] k (fun kq v10 v23 w' => ∃ (i : Nat) (done : List (List S25)) (vs : List Value) (v : Value), v23 = .int .i64 (i : Int) ∧ kq ≤ k ∧ Aside0 (quant_Line.go z x y kq ps i done = some r) ∧ Sep w w' [Hdr _ 30 v vs, RowsB _ k25 25 vs done, Own _ (Kd.slice 25 k25) 30 (.slice Ap ps.length cp) ps, Box _ g7 32 #[v], Box _ g5 40 #[.int .i64 b0, .int .i64 b1, .int .i64 b2, .int .i64 b3], Box _ g2 23 #[.int .i64 z, .int .i64 x, .int .i64 y]])
  case atStart => exact ⟨0, [], [], .slice none 0 0, rfl, Nat.le_refl _, H', (S.rowsB_nil k25 25).hdr_nil 30⟩
  case round =>
   clear H' S
   obtain ⟨i, done, vs, v, rfl, hkk, H, S⟩ := hrel
   obtain ⟨Av, cv, ev⟩ := S.hdr_form 0 rfl
   subst ev
   cases gk with
   | zero => exact absurd H.out (by simp [quant_Line.go])
   | succ kk =>
    have h := H.out
    rw [quant_Line.go] at h
    by_cases hlt : i < ps.length
    ·rw [if_pos hlt] at h
     by_cases hlim : done.length < 1099511627776
     ·rw [if_pos hlim] at h
      obtain ⟨q0, hq0, h⟩ := Option.bind_eq_some_iff.mp h
      obtain ⟨q, hq, h⟩ := Option.bind_eq_some_iff.mp h
      obtain ⟨ad, A', c', e1, hcell, hle, hC⟩ := at_row (S.own_C 2 rfl) i hlt
      generalize ps.getD i [] = pi at hq0 hcell hle hC
      have HQ0 := Aside0.mk hq0
      have HQ := Aside0.mk hq
      cases e1
      have hvl : vs.length < 1099511627776 := by have := S.rowsB_len 1 rfl; omega
      have H2 := Aside0.mk h
      clear h hq0 hq H
      have HCE := Aside0.mk hC
      have HLE := Aside0.mk hle
      clear hC hle
      have ct_0 := blk_cell (S.at_box 5 rfl) 0
      have ct_1 := blk_cell (S.at_box 5 rfl) 1
      have ct_2 := blk_cell (S.at_box 5 rfl) 2
      simp only [List.getElem?_toArray, List.getElem?_cons_zero, List.getElem?_cons_succ] at ct_0 ct_1 ct_2
      have hii : (i : Int) < (ps.length : Int) := by omega
      have hi0 : (0 : Int) ≤ (i : Int) := by omega
      by_cases h2 : 2 ≤ q.length
      ·go_wp2_with (first | (go_at_call 28; (with_reducible refine (quant_points.calls kk z x y _ _ pi q0 _ HCE.out HLE.out HQ0.out).mono ?_); rintro e w28 ⟨v28, rfl, ho, hb⟩; replace S := S.own ho hb; clear ho hb; obtain ⟨Aq0, nq0, cq0, evq0⟩ := R_form (S.at_own 0 rfl); have hlq0 : nq0 = q0.length := (by obtain ⟨_, _, h_, _⟩ := (S.own_reads 0 rfl); rw [evq0] at h_; injection h_); subst evq0; subst hlq0; have hlq0 : q0.length ≤ cq0 := (by obtain ⟨_, _, h_, h2_, _⟩ := (S.own_reads 0 rfl); injection h_ with _ _ h3_; omega); have HLQ0 := Aside0.mk hlq0; clear hlq0; clear ct_0 ct_1 ct_2) | (go_at_call 27; (with_reducible refine (clip_Tidy.calls kk _ _ q0 q _ (S.own_C 0 rfl) HLQ0.out HQ.out).mono ?_); rintro e w27 ⟨v27, rfl, ho, hb⟩; replace S := S.own ho hb; clear ho hb; obtain ⟨Aq, nq, cq, evq⟩ := R_form (S.at_own 0 rfl); have hlq : nq = q.length := (by obtain ⟨_, _, h_, _⟩ := (S.own_reads 0 rfl); rw [evq] at h_; injection h_); subst evq; subst hlq) | (go_at_call 25; (with_reducible refine (quant_Line_1.calls _ _ q g7 _ vs 5 2 S rfl rfl (by omega) h2 hvl).mono ?_); rintro e w25 ⟨rfl, v', S2⟩; have S3 : Sep w _ [Own _ k25 25 (.slice Aq q.length cq) q, Own _ k25 25 (.slice Aq0 q0.length cq0) q0, Hdr _ 30 v' (vs ++ [.slice Aq q.length cq]), RowsB _ k25 25 vs done, Own _ (Kd.slice 25 k25) 30 (.slice (some ad) ps.length cp) ps, Box _ g7 32 #[v'], Box _ g5 40 #[.int .i64 b0, .int .i64 b1, .int .i64 b2, .int .i64 b3], Box _ g2 23 #[.int .i64 z, .int .i64 x, .int .i64 y]] := S2; clear S2))
       have H3 : Aside0 (quant_Line.go z x y kk ps (i + 1) (done ++ [q]) = some r) := ⟨by have h := H2.out; rwa [if_pos h2] at h⟩
       go_roundg kk
       case measure => omega
       case rel => exact ⟨i + 1, done ++ [q], vs ++ [.slice Aq q.length cq], v', by go_num, by omega, H3, ((S3.drop 1).swap).rows1⟩
      ·go_wp2_with (first | (go_at_call 28; (with_reducible refine (quant_points.calls kk z x y _ _ pi q0 _ HCE.out HLE.out HQ0.out).mono ?_); rintro e w28 ⟨v28, rfl, ho, hb⟩; replace S := S.own ho hb; clear ho hb; obtain ⟨Aq0, nq0, cq0, evq0⟩ := R_form (S.at_own 0 rfl); have hlq0 : nq0 = q0.length := (by obtain ⟨_, _, h_, _⟩ := (S.own_reads 0 rfl); rw [evq0] at h_; injection h_); subst evq0; subst hlq0; have hlq0 : q0.length ≤ cq0 := (by obtain ⟨_, _, h_, h2_, _⟩ := (S.own_reads 0 rfl); injection h_ with _ _ h3_; omega); have HLQ0 := Aside0.mk hlq0; clear hlq0; clear ct_0 ct_1 ct_2) | (go_at_call 27; (with_reducible refine (clip_Tidy.calls kk _ _ q0 q _ (S.own_C 0 rfl) HLQ0.out HQ.out).mono ?_); rintro e w27 ⟨v27, rfl, ho, hb⟩; replace S := S.own ho hb; clear ho hb; obtain ⟨Aq, nq, cq, evq⟩ := R_form (S.at_own 0 rfl); have hlq : nq = q.length := (by obtain ⟨_, _, h_, _⟩ := (S.own_reads 0 rfl); rw [evq] at h_; injection h_); subst evq; subst hlq) | (go_at_call 25; (with_reducible refine (quant_Line_1.short _ _ q _ _ h2).mono ?_); rintro e w25 ⟨rfl, rfl⟩))
       have H3 : Aside0 (quant_Line.go z x y kk ps (i + 1) done = some r) := ⟨by have h := H2.out; rwa [if_neg h2] at h⟩
       go_roundg kk
       case measure => omega
       case rel => exact ⟨i + 1, done, vs, _, by go_num, by omega, H3, (S.drop 0).drop 0⟩
     ·rw [if_neg hlim] at h
      exact absurd h (by simp)
    ·rw [if_neg hlt] at h
     obtain rfl := Option.some.inj h
     have hii : ¬ ((i : Int) < (ps.length : Int)) := by omega
     have c7 := blk_cell (S.at_box 3 rfl) 0
     simp only [List.getElem?_toArray, List.getElem?_cons_zero, List.getElem?_cons_succ] at c7
     go_wp2
     go_ret
     exact ⟨_, rfl, S.joinedS, S.below⟩
 ·rw [if_neg he] at h
  obtain rfl := Option.some.inj h
  have e0 : (be == 0) = false := by simpa using he
  have e1 : (be != 0) = true := by simpa using he
  clear h
  go_enter Try.func14, Try.ntmps14
  go_wp2_with (first | ((with_reducible refine gate_dst (N := 2) rfl ?_); refine box_event ?hg (N := 2) ?hd (cs := #[.int .i64 z, .int .i64 x, .int .i64 y]) (t := 23) ?hr ?_; (case hd => rfl); (case hg => rfl); (case hr => first | (go_simp; done) | (go_simp; rfl)); intro g2 hg wg2 hbox hb; replace S := (S).box hg hbox hb; clear hbox hb hg; have ct_0 := blk_cell (S.at_box 0 rfl) 0; have ct_1 := blk_cell (S.at_box 0 rfl) 1; have ct_2 := blk_cell (S.at_box 0 rfl) 2; simp only [List.getElem?_toArray, List.getElem?_cons_zero, List.getElem?_cons_succ] at ct_0 ct_1 ct_2) | (go_at_call 20; (with_reducible refine (tilegrid_Box.calls z x y b0 b1 b2 b3 be _ HBX.out).mono ?_); rintro e w20 ⟨rfl, hb⟩; replace S := S.step hb; clear hb; clear ct_0 ct_1 ct_2) | ((with_reducible refine gate_dst (N := 5) rfl ?_); refine box_event ?hg (N := 5) ?hd (cs := #[.int .i64 0, .int .i64 0, .int .i64 0, .int .i64 0]) (t := 40) ?hr ?_; (case hd => rfl); (case hg => rfl); (case hr => first | (go_simp; done) | (go_simp; rfl)); intro g5 hg wg5 hbox hb; replace S := (S).box hg hbox hb; clear hbox hb hg; have cb_0 := blk_cell (S.at_box 0 rfl) 0; have cb_1 := blk_cell (S.at_box 0 rfl) 1; have cb_2 := blk_cell (S.at_box 0 rfl) 2; have cb_3 := blk_cell (S.at_box 0 rfl) 3; have fb_0 := blk_frozen (S.at_box 0 rfl) 0; have fb_1 := blk_frozen (S.at_box 0 rfl) 1; have fb_2 := blk_frozen (S.at_box 0 rfl) 2; have fb_3 := blk_frozen (S.at_box 0 rfl) 3; simp only [List.getElem?_toArray, List.getElem?_cons_zero, List.getElem?_cons_succ] at cb_0 cb_1 cb_2 cb_3))
  go_ret
  exact ⟨_, rfl, Kd.S_nil _ _ _ _ _, ((((S.set 0 rfl 0 _).set 0 rfl 1 _).set 0 rfl 2 _).set 0 rfl 3 _).below⟩
theorem quant_Line.go_mono (z x y : Int) : ∀ k ps i done, LeO (quant_Line.go z x y k ps i done) (quant_Line.go z x y (k + 1) ps i done)
 | 0, _, _, _ => fun r h => by simp [quant_Line.go] at h
 | k + 1, ps, i, done => by
  have ih := quant_Line.go_mono z x y k
  unfold quant_Line.go
  repeat' first
   | exact ih _ _ _
   | exact quant_points.mono _ _ _ _ _
   | exact clip_Tidy.mono _ _
   | exact LeO.refl _
   | exact LeO.none _
   | refine LeO.ite ?_ ?_
   | refine LeO.bind ?_ (fun _ => ?_)
theorem quant_Line.mono : ∀ a0 a1 a2 a3 k, LeO (quant_Line.f k a0 a1 a2 a3) (quant_Line.f (k + 1) a0 a1 a2 a3) := by
 intro a0 a1 a2 a3 k
 unfold quant_Line.f
 exact LeO.bind (LeO.refl _) (fun _ => LeO.ite (LeO.bind (clip_Line.mono _ _ _ _ _ _) (fun _ => quant_Line.go_mono _ _ _ _ _ _ _)) (LeO.refl _))


/-! by hand -/
/-! ### mapmakerlaw29_lives: function 12 -/


end Go.Proofs.Ytdkegdnfbpobnaa.PARS
