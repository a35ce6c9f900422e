-- Laid by a program of this work (wip/gen): out of the translation, with texts of our own.
import Derived.Test.YtdkegdnfbpobnaaPARSx0
import Derived.Test.YtdkegdnfbpobnaaPARSx3
namespace Go.Proofs.Ytdkegdnfbpobnaa.PARS
open Go.RowKit Go.Proofs.YtdkegdnfbpobnaaW.PrintWords Go.Proofs.YtdkegdnfbpobnaaW.PrintLast Go.Proofs.YtdkegdnfbpobnaaW.PrintMore Go.Proofs.YtdkegdnfbpobnaaW.SepW
attribute [local go_sem] max2_int min2_int max_two min_two max_three min_three max_four min_four   -- for this text's walks alone
set_option linter.unusedVariables false
set_option linter.unusedSimpArgs false

/-! ### quant_sign: function 34 -/
def quant_sign.l0 : Nat → List (S25) → Int → List (S25) → Int → Int → Option (Int)
 | 0, _, _, _, _, _ => none
 | k + 1, x0, x3, x7, x8, x9 => if x9 < x8 then (if 0 ≤ x9 then (if x9 < (x7.length : Int) then (if (x0.length : Int) = 0 then (none) else (if 0 ≤ (Int.tmod (wrap64 (x9 + 1)) (x0.length : Int)) then (if (Int.tmod (wrap64 (x9 + 1)) (x0.length : Int)) < (x0.length : Int) then (quant_sign.l0 k x0 (wrap64 (x3 + (wrap64 ((wrap64 (((rd_T25 x7 x9).f0) * ((rd_T25 x0 (Int.tmod (wrap64 (x9 + 1)) (x0.length : Int))).f1))) - (wrap64 (((rd_T25 x7 x9).f1) * ((rd_T25 x0 (Int.tmod (wrap64 (x9 + 1)) (x0.length : Int))).f0))))))) x7 x8 (wrap64 (x9 + 1))) else (none)) else (none))) else (none)) else (none)) else (some (mn (mx x3 (-1)) 1))
def quant_sign.f (k : Nat) (l0 : List (S25)) : Option (Int) := quant_sign.l0 k l0 0 l0 (l0.length : Int) 0
theorem quant_sign.mono_l : ∀ k, (∀ y0 y1 y2 y3 y4, LeO (quant_sign.l0 k y0 y1 y2 y3 y4) (quant_sign.l0 (k + 1) y0 y1 y2 y3 y4))
 | 0 => fun _ _ _ _ _ r h => by simp [quant_sign.l0] at h
 | k + 1 => by
  have ih0 := quant_sign.mono_l k
  ·intro y0 y1 y2 y3 y4
   unfold quant_sign.l0
   repeat' first
   | (with_reducible exact ih0 _ _ _ _ _)
   | (with_reducible exact LeO.refl _)
   | (with_reducible exact LeO.none _)
   | (with_reducible refine LeO.ite ?_ ?_)
   | (with_reducible refine LeO.bind ?_ (fun _ => ?_))
   | exact ih0 _ _ _ _ _
   | exact LeO.none _
   | refine LeO.ite ?_ ?_
   | refine LeO.bind ?_ (fun _ => ?_)
theorem quant_sign.mono : ∀ a0 k, LeO (quant_sign.f k a0) (quant_sign.f (k + 1) a0) := by
 intro a0 k
 have ih0 := quant_sign.mono_l k
 unfold quant_sign.f
 repeat' first
   | (with_reducible exact ih0 _ _ _ _ _)
   | (with_reducible exact LeO.refl _)
   | (with_reducible exact LeO.none _)
   | (with_reducible refine LeO.ite ?_ ?_)
   | (with_reducible refine LeO.bind ?_ (fun _ => ?_))
   | exact ih0 _ _ _ _ _
   | exact LeO.none _
   | refine LeO.ite ?_ ?_
   | refine LeO.bind ?_ (fun _ => ?_)
set_option maxHeartbeats 8000000 in
set_option maxRecDepth 100000 in
theorem quant_sign.calls (k : Nat) (A0 : Option Addr) (c0 : Nat) (l0 : List (S25)) (r : Int) (w : World) (hr0 : Kd.C k25 w A0 l0.length l0) (hc0 : l0.length ≤ c0) (h : quant_sign.f k l0 = some r) :
  Calls Try.prog 34 #[.slice A0 l0.length c0] w fun e w' => e = .returned (.int .i64 r) ∧ Below w.heap.size w w' := by
 have hu25 := Try.underlying25
 have HR0 := Aside0.mk hr0
 have HC0 := Aside0.mk hc0
 clear hr0 hc0
 have HB := Aside0.mk (Below.refl w.heap.size w)
 have H : (quant_sign.l0 k l0 0 l0 (l0.length : Int) 0) = some r := h
 clear h
 have H' := Aside0.mk H
 clear H
 go_enter Try.func34, Try.ntmps34
 go_wp2
 go_loopg [3, 9] k (fun kq v3 v9 w' => ∃ (x3_1 : Int) (x9_1 : Int), v3 = .int .i64 x3_1 ∧ v9 = .int .i64 x9_1 ∧ Aside0 (quant_sign.l0 kq l0 x3_1 l0 (l0.length : Int) x9_1 = some r) ∧ Aside0 (kq ≤ k) ∧ Aside0 (Below w.heap.size w w'))
 case atStart => exact ⟨(0), (0), (by first | rfl | (simp; done) | (simp [*]; done)), (by first | rfl | (simp; done) | (simp [*]; done)), H', ⟨Nat.le_refl _⟩, ⟨by repeat (first | (with_reducible first | exact HB.out | apply below_alloc | apply pw_below_drewN | apply below_drew1) | exact HB.out)⟩⟩
 case round =>
  clear H'
  obtain ⟨x3_1, x9_1, rfl, rfl, HA, HK1, HB⟩ := hrel
  cases gk with
  | zero => exact absurd HA.out (by simp [quant_sign.l0])
  | succ k1 =>
   have H := HA.out
   clear HA
   simp only [quant_sign.l0] at H
   by_cases c2 : x9_1 < (l0.length : Int)
   ·rw [if_pos c2] at H
    have c2b0 : decide (x9_1 < (l0.length : Int)) = true := decide_eq_true c2
    clear c2
    by_cases c3 : 0 ≤ x9_1
    ·rw [if_pos c3] at H
     have c3b0 : decide (0 ≤ x9_1) = true := decide_eq_true c3
     clear c3
     by_cases c4 : x9_1 < (l0.length : Int)
     ·rw [if_pos c4] at H
      have c4b0 : decide (x9_1 < (l0.length : Int)) = true := decide_eq_true c4
      clear c4
      by_cases c5 : (l0.length : Int) = 0
      ·rw [if_pos c5] at H
       exact absurd H (by simp)
      ·rw [if_neg c5] at H
       have c5b0 : ((l0.length : Int) == 0) = false := beq_eq_false_iff_ne.mpr c5
       have c5b1 : ((l0.length : Int) != 0) = true := bne_iff_ne.mpr c5
       have c5b2 : ¬ (l0 = []) := fun h_ => c5 (by rw [h_]; rfl)
       obtain ⟨ji6, hji6⟩ : ∃ j_ : Int, (Int.tmod (wrap64 (x9_1 + 1)) (l0.length : Int)) = j_ := ⟨_, rfl⟩
       replace H : (if 0 ≤ (ji6) then (if (ji6) < (l0.length : Int) then (quant_sign.l0 k1 l0 (wrap64 (x3_1 + (wrap64 ((wrap64 (((rd_T25 l0 x9_1).f0) * ((rd_T25 l0 (ji6)).f1))) - (wrap64 (((rd_T25 l0 x9_1).f1) * ((rd_T25 l0 (ji6)).f0))))))) l0 (l0.length : Int) (wrap64 (x9_1 + 1))) else (none)) else (none)) = some r := by first | (rw [hji6] at H; exact H) | (simp only [hji6] at H ⊢; exact H)
       by_cases c7 : 0 ≤ (ji6)
       ·rw [if_pos c7] at H
        have c7b0 : decide (0 ≤ (ji6)) = true := decide_eq_true c7
        clear c7
        by_cases c8 : (ji6) < (l0.length : Int)
        ·rw [if_pos c8] at H
         have c8b0 : decide ((ji6) < (l0.length : Int)) = true := decide_eq_true c8
         clear c8
         have H' := Aside0.mk H
         clear H
         have p186 : 0 ≤ (x9_1 : Int) := of_decide_eq_true (by first | (with_reducible assumption) | assumption)
         have q186 : x9_1 < (l0.length : Int) := of_decide_eq_true (by first | (with_reducible assumption) | assumption)
         obtain ⟨ad186, e186, hx186_0, hx186_1⟩ := at_T25 HR0.out x9_1 p186 q186
         cases e186
         replace hx186_0 := (HB.out.cell (World.block_lt_of_cell? w _ hx186_0)).trans hx186_0
         replace hx186_1 := (HB.out.cell (World.block_lt_of_cell? w _ hx186_1)).trans hx186_1
         replace p186 := eq_true p186
         replace q186 := eq_true q186
         go_wp2_with (first | ((with_reducible refine gate_dst (N := 5) rfl ?_); refine box_event ?hg (N := 5) ?hd (cs := #[.int .i64 0, .int .i64 0]) (t := 25) ?hr ?_; (case hd => rfl); (case hg => rfl); (case hr => first | (go_simp; done) | (go_simp; rfl)); intro gb187 hg w9 hbox hb; have n0_ := Aside0.mk (below_step (by repeat (first | (with_reducible first | exact HB.out | apply below_alloc | apply pw_below_drewN | apply below_drew1) | exact HB.out)) hb); have n1_ := Aside0.mk (hbox); have n2_ := Aside0.mk ((by rw [hg]; exact (below_size (by repeat (first | (with_reducible first | exact HB.out | apply below_alloc | apply pw_below_drewN | apply below_drew1) | exact HB.out))) : w.heap.size ≤ gb187)); have n3_ := Aside0.mk ((by rw [hg]; exact (below_size (by repeat (first | (with_reducible first | exact HB.out | apply below_alloc | apply pw_below_drewN | apply below_drew1) | exact HB.out))) : w.heap.size ≤ gb187)); clear HB; have HB := n0_; have BK187 := n1_; have GW187 := n2_; have GE187 := n3_; clear n0_ n1_ n2_ n3_; clear hb hbox hg; have hcz10_0 : w9.cell? ⟨gb187, 0, none⟩ = some (.int .i64 0) := (blk_cell BK187.out 0).trans rfl; have hcz10_1 : w9.cell? ⟨gb187, 1, none⟩ = some (.int .i64 0) := (blk_cell BK187.out 1).trans rfl; have hfz10_0 := blk_frozen BK187.out 0; have hfz10_1 := blk_frozen BK187.out 1; have p188 : 0 ≤ ((ji6) : Int) := of_decide_eq_true (by first | (with_reducible assumption) | assumption); have q188 : (ji6) < (l0.length : Int) := of_decide_eq_true (by first | (with_reducible assumption) | assumption); obtain ⟨ad188, e188, hx188_0, hx188_1⟩ := at_T25 HR0.out (ji6) p188 q188; obtain rfl : ad186 = ad188 := (by injection e188); have hn188_0 : ad186.block ≠ gb187 := Nat.ne_of_lt (Nat.lt_of_lt_of_le (by have := World.block_lt_of_cell? _ _ hx188_0; first | rwa [add_block] at this | exact this) GW187.out); have hn188_1 : ad186.block ≠ gb187 := Nat.ne_of_lt (Nat.lt_of_lt_of_le (by have := World.block_lt_of_cell? _ _ hx188_0; first | rwa [add_block] at this | exact this) GW187.out); replace hx188_0 := (HB.out.cell (World.block_lt_of_cell? w _ hx188_0)).trans hx188_0; replace hx188_1 := (HB.out.cell (World.block_lt_of_cell? w _ hx188_1)).trans hx188_1; replace hx188_0 := (cell_far (p := ⟨gb187, 0, none⟩) (by first | (rw [add_block]; exact hn188_0) | (show (Addr.add _ _).block ≠ _; rw [add_block]; exact hn188_0) | exact hn188_0) (.int .i64 ((rd_T25 l0 x9_1).f0))).trans hx188_0; replace hx188_1 := (cell_far (p := ⟨gb187, 0, none⟩) (by first | (rw [add_block]; exact hn188_0) | (show (Addr.add _ _).block ≠ _; rw [add_block]; exact hn188_0) | exact hn188_0) (.int .i64 ((rd_T25 l0 x9_1).f0))).trans hx188_1; replace hx188_0 := (cell_far (p := ⟨gb187, 1, none⟩) (by first | (rw [add_block]; exact hn188_1) | (show (Addr.add _ _).block ≠ _; rw [add_block]; exact hn188_1) | exact hn188_1) (.int .i64 ((rd_T25 l0 x9_1).f1))).trans hx188_0; replace hx188_1 := (cell_far (p := ⟨gb187, 1, none⟩) (by first | (rw [add_block]; exact hn188_1) | (show (Addr.add _ _).block ≠ _; rw [add_block]; exact hn188_1) | exact hn188_1) (.int .i64 ((rd_T25 l0 x9_1).f1))).trans hx188_1; clear hn188_0; clear hn188_1; replace p188 := eq_true p188; replace q188 := eq_true q188) | ((with_reducible refine gate_dst (N := 6) rfl ?_); refine box_event ?hg (N := 6) ?hd (cs := #[.int .i64 0, .int .i64 0]) (t := 25) ?hr ?_; (case hd => rfl); (case hg => rfl); (case hr => first | (go_simp; done) | (go_simp; rfl)); intro gb189 hg w11 hbox hb; have n0_ := Aside0.mk (blk_below (g := gb187) (o := .cells #[.int .i64 ((rd_T25 l0 x9_1).f0), .int .i64 ((rd_T25 l0 x9_1).f1)] 25 (0, 0)) (by (with_reducible repeat (first | apply blk_drewN | apply blk_drew | apply blk_alloc)); refine blk_put (cs := #[.int .i64 ((rd_T25 l0 x9_1).f0), .int .i64 0]) ?_ 1 _ rfl; (with_reducible repeat (first | apply blk_drewN | apply blk_drew | apply blk_alloc)); refine blk_put (cs := #[.int .i64 0, .int .i64 0]) ?_ 0 _ rfl; (with_reducible repeat (first | apply blk_drewN | apply blk_drew | apply blk_alloc)); exact BK187.out) hb); have n1_ := Aside0.mk (below_step (by repeat (first | (with_reducible first | exact HB.out | apply below_alloc | apply pw_below_drewN | apply below_drew1 | refine below_set ?_ GE187.out) | exact HB.out)) hb); have n2_ := Aside0.mk (hbox); have n3_ := Aside0.mk ((by rw [hg]; exact (below_size (by repeat (first | (with_reducible first | exact HB.out | apply below_alloc | apply pw_below_drewN | apply below_drew1 | refine below_set ?_ GE187.out) | exact HB.out))) : w.heap.size ≤ gb189)); have n4_ := Aside0.mk ((by rw [hg]; exact (below_size (by repeat (first | (with_reducible first | exact HB.out | apply below_alloc | apply pw_below_drewN | apply below_drew1 | refine below_set ?_ GE187.out) | exact HB.out))) : w.heap.size ≤ gb189)); have n5_ := Aside0.mk ((by rw [hg]; exact Nat.ne_of_lt (blk_lt (g := gb187) (o := .cells #[.int .i64 ((rd_T25 l0 x9_1).f0), .int .i64 ((rd_T25 l0 x9_1).f1)] 25 (0, 0)) (by (with_reducible repeat (first | apply blk_drewN | apply blk_drew | apply blk_alloc)); refine blk_put (cs := #[.int .i64 ((rd_T25 l0 x9_1).f0), .int .i64 0]) ?_ 1 _ rfl; (with_reducible repeat (first | apply blk_drewN | apply blk_drew | apply blk_alloc)); refine blk_put (cs := #[.int .i64 0, .int .i64 0]) ?_ 0 _ rfl; (with_reducible repeat (first | apply blk_drewN | apply blk_drew | apply blk_alloc)); exact BK187.out)) : gb187 ≠ gb189)); have n6_ := Aside0.mk ((by rw [hg]; exact Nat.ne_of_gt (blk_lt (g := gb187) (o := .cells #[.int .i64 ((rd_T25 l0 x9_1).f0), .int .i64 ((rd_T25 l0 x9_1).f1)] 25 (0, 0)) (by (with_reducible repeat (first | apply blk_drewN | apply blk_drew | apply blk_alloc)); refine blk_put (cs := #[.int .i64 ((rd_T25 l0 x9_1).f0), .int .i64 0]) ?_ 1 _ rfl; (with_reducible repeat (first | apply blk_drewN | apply blk_drew | apply blk_alloc)); refine blk_put (cs := #[.int .i64 0, .int .i64 0]) ?_ 0 _ rfl; (with_reducible repeat (first | apply blk_drewN | apply blk_drew | apply blk_alloc)); exact BK187.out)) : gb189 ≠ gb187)); clear BK187; clear HB; have BK187 := n0_; have HB := n1_; have BK189 := n2_; have GW189 := n3_; have GE189 := n4_; have NB187_189 := n5_; have NB189_187 := n6_; clear n0_ n1_ n2_ n3_ n4_ n5_ n6_; clear hb hbox hg; have hnb12 := NB189_187.out; have hnc12 := NB187_189.out; have hcz13_0 : w11.cell? ⟨gb189, 0, none⟩ = some (.int .i64 0) := (blk_cell BK189.out 0).trans rfl; have hcz13_1 : w11.cell? ⟨gb189, 1, none⟩ = some (.int .i64 0) := (blk_cell BK189.out 1).trans rfl; have hfz13_0 := blk_frozen BK189.out 0; have hfz13_1 := blk_frozen BK189.out 1; have hcz14_0 : w11.cell? ⟨gb187, 0, none⟩ = some (.int .i64 ((rd_T25 l0 x9_1).f0)) := (blk_cell BK187.out 0).trans rfl; have hcz14_1 : w11.cell? ⟨gb187, 1, none⟩ = some (.int .i64 ((rd_T25 l0 x9_1).f1)) := (blk_cell BK187.out 1).trans rfl; have hfz14_0 := blk_frozen BK187.out 0; have hfz14_1 := blk_frozen BK187.out 1))
         go_roundg k1
         case measure => have := HK1.out; omega
         case rel => exact ⟨(wrap64 (x3_1 + (wrap64 ((wrap64 (((rd_T25 l0 x9_1).f0) * ((rd_T25 l0 (ji6)).f1))) - (wrap64 (((rd_T25 l0 x9_1).f1) * ((rd_T25 l0 (ji6)).f0))))))), (wrap64 (x9_1 + 1)), (by first | rfl | (simp; done) | (simp only [← hji6] <;> (first | rfl | simp)) | (simp [*]; done)), (by first | rfl | (simp; done) | (simp [*]; done)), H', ⟨by have := HK1.out; omega⟩, ⟨by repeat (first | (with_reducible first | exact HB.out | apply below_alloc | apply pw_below_drewN | apply below_drew1 | refine below_set ?_ GE187.out | refine below_set ?_ GE189.out) | exact HB.out)⟩⟩
        ·rw [if_neg c8] at H
         exact absurd H (by simp)
       ·rw [if_neg c7] at H
        exact absurd H (by simp)
     ·rw [if_neg c4] at H
      exact absurd H (by simp)
    ·rw [if_neg c3] at H
     exact absurd H (by simp)
   ·rw [if_neg c2] at H
    have c2b0 : decide (x9_1 < (l0.length : Int)) = false := decide_eq_false c2
    clear c2
    obtain ⟨ji15, hji15⟩ : ∃ j_ : Int, (mx x3_1 (-1)) = j_ := ⟨_, rfl⟩
    replace H : (some (mn (ji15) 1)) = some r := by first | (rw [hji15] at H; exact H) | (simp only [hji15] at H ⊢; exact H)
    have hji15_ : (if x3_1 < (-1) then (-1) else x3_1) = ji15 := hji15
    obtain ⟨ji16, hji16⟩ : ∃ j_ : Int, (mn (ji15) 1) = j_ := ⟨_, rfl⟩
    replace H : (some ji16) = some r := by first | (rw [hji16] at H; exact H) | (simp only [hji16] at H ⊢; exact H)
    have hji16_ : (if 1 < (ji15) then 1 else (ji15)) = ji16 := hji16
    obtain rfl := Option.some.inj H
    go_wp2
    go_ret
    exact ⟨by first | rfl | (simp [errW_none, errW_some] <;> rfl) | (simp only [← hji15, ← hji16]; first | rfl | (simp [errW_none, errW_some] <;> rfl)) | (simp [*, errW_none, errW_some] <;> rfl), by repeat (first | (with_reducible first | exact HB.out | apply below_alloc | apply pw_below_drewN | apply below_drew1) | exact HB.out)⟩

/-! by hand -/
/-! ### poly_Area2: function 35 -/

/-- Is a point a grid point. -/
def gv (p : S25) : Bool := decide (p.f0 ≥ 0) && decide (p.f0 < 32768) && decide (p.f1 ≥ 0) && decide (p.f1 < 32768)
theorem gv_f (p : S25) : grid_Valid.f p.f0 p.f1 = some (gv p) := by
 unfold grid_Valid.f gv
 repeat' split
 all_goals simp [*]
set_option maxRecDepth 100000 in
theorem poly_valid_1.calls (p : S25) (w : World) :
  Calls Try.prog 67 #[.agg #[.int .i64 p.f0, .int .i64 p.f1]] w fun e w' => e = .returned (.bool (!gv p)) ∧ Below w.heap.size w w' := by
 have hu25 := Try.underlying25
 have HV := Aside0.mk (gv_f p)
 have S := Sep.start w
 go_enter Try.func67, Try.ntmps67
 go_wp2_with (first | ((with_reducible refine gate_dst (N := 1) rfl ?_); refine box_event ?hg (N := 1) ?hd (cs := #[.int .i64 p.f0, .int .i64 p.f1]) (t := 25) ?hr ?_; (case hd => rfl); (case hg => rfl); (case hr => first | (go_simp; done) | (go_simp; rfl)); intro g1 hg w1 hbox hb; replace S := (S).box hg hbox hb; clear hbox hb hg; have c_0 := blk_cell (S.at_box 0 rfl) 0; have c_1 := blk_cell (S.at_box 0 rfl) 1; simp only [List.getElem?_toArray, List.getElem?_cons_zero, List.getElem?_cons_succ] at c_0 c_1) | (go_at_call 60; (with_reducible refine (grid_Valid.calls p.f0 p.f1 (gv p) _ HV.out).mono ?_); rintro e w2 ⟨rfl, hb⟩; replace S := S.step hb; clear hb))
 go_ret
 exact ⟨rfl, S.below⟩
set_option maxRecDepth 100000 in
theorem indexFunc_calls (A : Option Addr) (c : Nat) (l : List S25) (w : World) (hr : Kd.C k25 w A l.length l) (hll : l.length ≤ 4398046511104) :
  Calls Try.prog 72 #[.slice A l.length c, .func (.func 67) #[] #[]] w fun e w' => ∃ r, e = .returned (.int .i64 r) ∧ decide (r ≥ 0) = !(l.all gv) ∧ Below w.heap.size w w' := by
 have hu25 := Try.underlying25
 have HR := Aside0.mk hr
 clear hr
 go_enter Try.func72, Try.ntmps72
 go_wp2
 go_loopg [8] l.length (fun kq v8 w' => ∃ (i : Nat), v8 = .int .i64 (i : Int) ∧ Aside0 (i + kq = l.length) ∧ Aside0 ((l.drop i).all gv = l.all gv) ∧ Aside0 (Below w.heap.size w w'))
 case atStart => exact ⟨0, rfl, ⟨by omega⟩, ⟨rfl⟩, ⟨Below.refl _ _⟩⟩
 case round =>
  obtain ⟨i, rfl, HK, HA, HB⟩ := hrel
  cases gk with
  | zero =>
   have hi : ¬ ((i : Int) < (l.length : Int)) := by have := HK.out; omega
   have ha := HA.out
   rw [List.drop_eq_nil_of_le (by have := HK.out; omega)] at ha
   have HA2 := Aside0.mk ha
   clear ha
   go_wp2
   go_ret
   exact ⟨-1, rfl, by rw [← HA2.out]; decide, HB.out⟩
  | succ n =>
   have hin : i < l.length := by have := HK.out; omega
   have hi : (i : Int) < (l.length : Int) := by omega
   have p0 : 0 ≤ (i : Int) := by omega
   have ha := HA.out
   rw [List.drop_eq_getElem_cons hin, List.all_cons] at ha
   have eg : rd_T25 l (i : Int) = l[i] := by simp [rd_T25, hin]
   obtain ⟨ad, ea, hc0, hc1⟩ := at_T25 (Kd.C_below HR.out HB.out) (i : Int) p0 hi
   cases ea
   simp only [eg, Int.toNat_natCast] at hc0 hc1
   obtain ⟨x, hxx⟩ : ∃ x, x = l[i] := ⟨_, rfl⟩
   rw [← hxx] at ha hc0 hc1
   clear hxx eg
   by_cases hv : gv x = true
   ·rw [hv, Bool.true_and] at ha
    have HA2 := Aside0.mk ha
    clear ha
    go_wp2_with (first | (go_at_call 67; (with_reducible refine (poly_valid_1.calls x _).mono ?_); rintro e w1 ⟨rfl, hb1⟩; rw [hv]; have HB1 := Aside0.mk (below_step HB.out hb1); clear hb1))
    go_roundg n
    case measure => omega
    case rel => exact ⟨i + 1, by go_num, ⟨by have := HK.out; omega⟩, HA2, HB1⟩
   ·have hv' : gv x = false := by simpa using hv
    rw [hv', Bool.false_and] at ha
    have HA2 := Aside0.mk ha
    clear ha
    go_wp2_with (first | (go_at_call 67; (with_reducible refine (poly_valid_1.calls x _).mono ?_); rintro e w1 ⟨rfl, hb1⟩; rw [hv']; have HB1 := Aside0.mk (below_step HB.out hb1); clear hb1))
    go_ret
    exact ⟨_, rfl, by rw [← HA2.out]; first | (simp; done) | (simpa using p0), HB1.out⟩
set_option maxRecDepth 100000 in
theorem containsFunc_calls (A : Option Addr) (c : Nat) (l : List S25) (w : World) (hr : Kd.C k25 w A l.length l) (hll : l.length ≤ 4398046511104) :
  Calls Try.prog 66 #[.slice A l.length c, .func (.func 67) #[] #[]] w fun e w' => e = .returned (.bool (!(l.all gv))) ∧ Below w.heap.size w w' := by
 have HR := Aside0.mk hr
 clear hr
 obtain ⟨bo, hbo⟩ : ∃ b, b = !(l.all gv) := ⟨_, rfl⟩
 rw [← hbo]
 have HBO := Aside0.mk hbo
 clear hbo
 go_enter Try.func66, Try.ntmps66
 go_wp2_with (first | (go_at_call 72; (with_reducible refine (indexFunc_calls _ _ l _ HR.out hll).mono ?_); rintro e w1 ⟨r1, rfl, hd1, hb1⟩; rw [← HBO.out] at hd1; have hd2 : decide (0 ≤ r1) = bo := hd1; have HB1 := Aside0.mk hb1; clear hb1))
 go_ret
 exact ⟨rfl, HB1.out⟩
set_option maxRecDepth 100000 in
theorem valid_calls (A : Option Addr) (c : Nat) (l : List S25) (w : World) (hr : Kd.C k25 w A l.length l) (hll : l.length ≤ 4398046511104) :
  Calls Try.prog 54 #[.slice A l.length c] w fun e w' => e = .returned (.bool (l.all gv)) ∧ Below w.heap.size w w' := by
 have HR := Aside0.mk hr
 clear hr
 obtain ⟨bo, hbo⟩ : ∃ b, b = l.all gv := ⟨_, rfl⟩
 rw [← hbo]
 have HBO := Aside0.mk hbo
 clear hbo
 go_enter Try.func54, Try.ntmps54
 go_wp2_with (first | (go_at_call 66; (with_reducible refine (containsFunc_calls _ _ l _ HR.out hll).mono ?_); rintro e w1 ⟨rfl, hb1⟩; rw [← HBO.out]; have HB1 := Aside0.mk hb1; clear hb1))
 go_ret
 exact ⟨by simp, HB1.out⟩
/-- One step of the sum. -/
def areaStep (s : Int) (p q : S25) : Int := wrap64 (s + wrap64 (wrap64 (p.f0 * q.f1) - wrap64 (p.f1 * q.f0)))
set_option maxRecDepth 100000 in
theorem poly_Area2_1.calls {w0 w : World} {L : List (Thing w0.heap.size)} (p q : S25) (g : Nat) (s : Int) (n : Nat) (S : Sep w0 w L) (hn : L[n]? = some (Box _ g 3 #[.int .i64 s])) :
  Calls Try.prog 56 #[.agg #[.int .i64 p.f0, .int .i64 p.f1], .agg #[.int .i64 q.f0, .int .i64 q.f1], .pointer (some ⟨g, 0, none⟩)] w fun e w' => e = .returned (.bool true) ∧ Sep w0 w' (L.set n (Box _ g 3 #[.int .i64 (areaStep s p q)])) := by
 have hu25 := Try.underlying25
 have Hn := Aside0.mk hn
 clear hn
 go_enter Try.func56, Try.ntmps56
 go_wp2_with (first | ((with_reducible refine gate_dst (N := 3) rfl ?_); refine box_event ?hg (N := 3) ?hd (cs := #[.int .i64 p.f0, .int .i64 p.f1]) (t := 25) ?hr ?_; (case hd => rfl); (case hg => rfl); (case hr => first | (go_simp; done) | (go_simp; rfl)); intro gp hg wgp hbox hb; replace S := (S).box hg hbox hb; clear hbox hb hg) | ((with_reducible refine gate_dst (N := 4) rfl ?_); refine box_event ?hg (N := 4) ?hd (cs := #[.int .i64 q.f0, .int .i64 q.f1]) (t := 25) ?hr ?_; (case hd => rfl); (case hg => rfl); (case hr => first | (go_simp; done) | (go_simp; rfl)); intro gq hg wgq hbox hb; replace S := (S).box hg hbox hb; clear hbox hb hg; have cq_0 := blk_cell (S.at_box 0 rfl) 0; have cq_1 := blk_cell (S.at_box 0 rfl) 1; have cp_0 := blk_cell (S.at_box 1 rfl) 0; have cp_1 := blk_cell (S.at_box 1 rfl) 1; have cg := blk_cell (S.at_box (n + 2) Hn.out) 0; have fg := blk_frozen (S.at_box (n + 2) Hn.out) 0; simp only [List.getElem?_toArray, List.getElem?_cons_zero, List.getElem?_cons_succ] at cq_0 cq_1 cp_0 cp_1 cg))
 go_ret
 exact ⟨rfl, ((S.set (n + 2) Hn.out 0 (.int .i64 (areaStep s p q))).drop 0).drop 0⟩
/-- The sum from point i on. -/
def areaS (l : List S25) : Nat → Nat → Int → Int
 | 0, _, s => s
 | n + 1, i, s => areaS l n (i + 1) (areaStep s (rd_T25 l (i : Int)) (rd_T25 l (((i + 1) % l.length : Nat) : Int)))
set_option maxRecDepth 100000 in
theorem visit_calls {w0 w : World} (A : Option Addr) (c : Nat) (l : List S25) (g : Nat) (S : Sep w0 w [Box _ g 3 #[.int .i64 0]]) (hr : Kd.C k25 w0 A l.length l) (hll : l.length ≤ 4398046511104) :
  Calls Try.prog 55 #[.slice A l.length c, .func (.func 56) #[] #[.pointer (some ⟨g, 0, none⟩)]] w fun e w' => e = .returned (.tuple #[]) ∧ Sep w0 w' [Box _ g 3 #[.int .i64 (areaS l l.length 0 0)]] := by
 have hu25 := Try.underlying25
 have HR := Aside0.mk hr
 clear hr
 obtain ⟨R, hR⟩ : ∃ r, r = areaS l l.length 0 0 := ⟨_, rfl⟩
 rw [← hR]
 have HAR := Aside0.mk hR
 clear hR
 go_enter Try.func55, Try.ntmps55
 go_wp2
 go_loopg [7] l.length (fun kq v7 w' => ∃ (i : Nat) (s : Int), v7 = .int .i64 (i : Int) ∧ Aside0 (i + kq = l.length) ∧ Aside0 (areaS l kq i s = R) ∧ Sep w0 w' [Box _ g 3 #[.int .i64 s]])
 case atStart => exact ⟨0, 0, rfl, ⟨by omega⟩, ⟨HAR.out.symm⟩, S⟩
 case round =>
  clear S
  obtain ⟨i, s, rfl, HK, HA, S⟩ := hrel
  cases gk with
  | zero =>
   have hi : ¬ ((i : Int) < (l.length : Int)) := by have := HK.out; omega
   have e : s = R := HA.out
   subst e
   go_wp2
   go_end0
   exact ⟨rfl, S⟩
  | succ n =>
   have hin : i < l.length := by have := HK.out; omega
   have hi : (i : Int) < (l.length : Int) := by omega
   have p0 : 0 ≤ (i : Int) := by omega
   have hq : (i + 1) % l.length < l.length := Nat.mod_lt _ (by omega)
   have hjq : ((i : Int) + 1) % (l.length : Int) = (((i + 1) % l.length : Nat) : Int) := by simp
   have HQ := Aside0.mk (show 0 ≤ ((i : Int) + 1) % (l.length : Int) ∧ ((i : Int) + 1) % (l.length : Int) < (l.length : Int) ∧ (((i : Int) + 1) % (l.length : Int)).toNat = (i + 1) % l.length by rw [hjq]; omega)
   have p2 := HQ.out.1
   have q2 := HQ.out.2.1
   have HA2 := Aside0.mk (show areaS l n (i + 1) (areaStep s (rd_T25 l (i : Int)) (rd_T25 l (((i : Int) + 1) % (l.length : Int)))) = R by rw [hjq]; exact HA.out)
   clear hjq HA
   obtain ⟨ad, ea, k0, k1⟩ := at_T25 HR.out (i : Int) p0 hi
   cases ea
   obtain ⟨ad2, ea2, m0, m1⟩ := at_T25 HR.out (((i : Int) + 1) % (l.length : Int)) p2 q2
   obtain rfl := Option.some.inj ea2
   simp only [Int.toNat_natCast] at k0 k1
   generalize rd_T25 l (i : Int) = P at k0 k1 HA2
   generalize rd_T25 l (((i : Int) + 1) % (l.length : Int)) = Q at m0 m1 HA2
   have keep : ∀ (w9 : World), Below w0.heap.size w0 w9 → w9.cell? (ad.add (i * 2)) = some (.int .i64 P.f0) ∧ w9.cell? { block := (ad.add (i * 2)).block, off := (ad.add (i * 2)).off + 1 } = some (.int .i64 P.f1) ∧ w9.cell? (ad.add ((((i : Int) + 1) % (l.length : Int)).toNat * 2)) = some (.int .i64 Q.f0) ∧ w9.cell? { block := (ad.add ((((i : Int) + 1) % (l.length : Int)).toNat * 2)).block, off := (ad.add ((((i : Int) + 1) % (l.length : Int)).toNat * 2)).off + 1 } = some (.int .i64 Q.f1) := fun w9 hb => ⟨(hb.cell (World.block_lt_of_cell? _ _ k0)).trans k0, (hb.cell (World.block_lt_of_cell? _ _ k1)).trans k1, (hb.cell (World.block_lt_of_cell? _ _ m0)).trans m0, (hb.cell (World.block_lt_of_cell? _ _ m1)).trans m1⟩
   have KEEP := Aside0.mk keep
   obtain ⟨hc0, hc1, hd0, hd1⟩ := keep _ S.below
   clear k0 k1 m0 m1 keep
   have w1_ : IntKind.i64.wrap ((i : Int) + 1) = (i : Int) + 1 := IntWalk.i64_in _ (by omega)
   have tm : Int.tmod ((i : Int) + 1) (l.length : Int) = ((i : Int) + 1) % (l.length : Int) := Int.tmod_eq_emod_of_nonneg (by omega)
   have nz2 : ¬ l = [] := by intro e; rw [e] at hin; simp at hin
   have nz : ((l.length : Int) == 0) = false := by simpa using nz2
   go_wp2_with fail
   go_region_held3 (fun w' => w'.cell? (ad.add (i * 2)) = some (.int .i64 P.f0) ∧ w'.cell? { block := (ad.add (i * 2)).block, off := (ad.add (i * 2)).off + 1 } = some (.int .i64 P.f1) ∧ w'.cell? (ad.add ((((i : Int) + 1) % (l.length : Int)).toNat * 2)) = some (.int .i64 Q.f0) ∧ w'.cell? { block := (ad.add ((((i : Int) + 1) % (l.length : Int)).toNat * 2)).block, off := (ad.add ((((i : Int) + 1) % (l.length : Int)).toNat * 2)).off + 1 } = some (.int .i64 Q.f1)) (first | assumption | go_keep) (first | (go_at_call 56; (with_reducible refine (poly_Area2_1.calls P Q g s 0 S.drew rfl).mono ?_); rintro e w9 ⟨rfl, S9⟩; have S10 : Sep w0 w9 [Box _ g 3 #[.int .i64 (areaStep s P Q)]] := S9; have hS9 := KEEP.out w9 S10.below; clear S9))
   go_wp2_with fail
   go_roundg n
   case measure => omega
   case rel => exact ⟨i + 1, areaStep s P Q, by go_num, ⟨by have := HK.out; omega⟩, HA2, S10⟩
def poly_Area2.f (l0 : List S25) : Option Int := if l0.length ≤ 4398046511104 then some (if l0.all gv = true then areaS l0 l0.length 0 0 else 0) else none
set_option maxRecDepth 100000 in
theorem poly_Area2.calls (A0 : Option Addr) (c0 : Nat) (l0 : List S25) (r : Int) (w : World) (hr0 : Kd.C k25 w A0 l0.length l0) (hc0 : l0.length ≤ c0) (h : poly_Area2.f l0 = some r) :
  Calls Try.prog 35 #[.slice A0 l0.length c0] w fun e w' => e = .returned (.int .i64 r) ∧ Below w.heap.size w w' := by
 have hmf : ∀ (fn : Fn) (first cap : Array Value) (w : World), (Instr.makeFunc fn first cap).run Try.prog w = .ok (.func fn first cap) w := fun _ _ _ _ => rfl
 unfold poly_Area2.f at h
 split at h
 case isFalse => exact absurd h (by simp)
 case isTrue hll =>
 have HR := Aside0.mk hr0
 clear hr0 hc0
 have S := Sep.start w
 by_cases hv : l0.all gv = true
 ·rw [if_pos hv] at h
  obtain rfl := Option.some.inj h
  obtain ⟨R, hR⟩ : ∃ r, r = areaS l0 l0.length 0 0 := ⟨_, rfl⟩
  rw [← hR]
  have HAR := Aside0.mk hR
  clear hR h
  go_enter Try.func35, Try.ntmps35
  go_wp2_with (first | (go_at_call 54; (with_reducible refine (valid_calls _ _ l0 _ HR.out hll).mono ?_); rintro e w1 ⟨rfl, hb1⟩; rw [hv]; replace S := S.step hb1; clear hb1) | (go_at_call 55; (with_reducible refine (visit_calls _ _ l0 _ (S.alloc #[.int .i64 0] 3) HR.out hll).mono ?_); rintro e w5 ⟨rfl, S5⟩; rw [← HAR.out] at S5; have c5 := blk_cell (S5.at_box 0 rfl) 0; simp only [List.getElem?_toArray, List.getElem?_cons_zero, List.getElem?_cons_succ] at c5))
  go_ret
  exact ⟨rfl, S5.below⟩
 ·rw [if_neg hv] at h
  obtain rfl := Option.some.inj h
  have hv' : l0.all gv = false := by simpa using hv
  clear h
  go_enter Try.func35, Try.ntmps35
  go_wp2_with (first | (go_at_call 54; (with_reducible refine (valid_calls _ _ l0 _ HR.out hll).mono ?_); rintro e w1 ⟨rfl, hb1⟩; rw [hv']; replace S := S.step hb1; clear hb1))
  go_ret
  exact ⟨rfl, S.below⟩


/-! by hand -/
/-! ### quant_Area: function 17 -/


end Go.Proofs.Ytdkegdnfbpobnaa.PARS
