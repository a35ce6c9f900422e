-- Laid by a program of this work (wip/gen): out of the translation, with texts of our own.
import Derived.Test.YtdkegdnfbpobnaaPARSx0
import Derived.Test.YtdkegdnfbpobnaaPARSx4
import Derived.Test.YtdkegdnfbpobnaaPARSx5
import Derived.Test.YtdkegdnfbpobnaaPARSx10
namespace Go.Proofs.Ytdkegdnfbpobnaa.PARS
open Go.RowKit Go.Proofs.YtdkegdnfbpobnaaW.PrintWords Go.Proofs.YtdkegdnfbpobnaaW.PrintLast Go.Proofs.YtdkegdnfbpobnaaW.PrintMore Go.Proofs.YtdkegdnfbpobnaaW.SepW
attribute [local go_sem] max2_int min2_int max_two min_two max_three min_three max_four min_four   -- for this text's walks alone
set_option linter.unusedVariables false
set_option linter.unusedSimpArgs false

/-! ### clip_area2: function 53 -/
def clip_area2.l0 : Nat → List (S25) → Int → List (S25) → Int → Int → Option (Int)
 | 0, _, _, _, _, _ => none
 | k + 1, x0, x3, x7, x8, x9 => if x9 < x8 then (if 0 ≤ x9 then (if x9 < (x7.length : Int) then (if (x0.length : Int) = 0 then (none) else (if 0 ≤ (Int.tmod (wrap64 (x9 + 1)) (x0.length : Int)) then (if (Int.tmod (wrap64 (x9 + 1)) (x0.length : Int)) < (x0.length : Int) then (clip_area2.l0 k x0 (wrap64 (x3 + (wrap64 ((wrap64 (((rd_T25 x7 x9).f0) * ((rd_T25 x0 (Int.tmod (wrap64 (x9 + 1)) (x0.length : Int))).f1))) - (wrap64 (((rd_T25 x7 x9).f1) * ((rd_T25 x0 (Int.tmod (wrap64 (x9 + 1)) (x0.length : Int))).f0))))))) x7 x8 (wrap64 (x9 + 1))) else (none)) else (none))) else (none)) else (none)) else (some x3)
def clip_area2.f (k : Nat) (l0 : List (S25)) : Option (Int) := clip_area2.l0 k l0 0 l0 (l0.length : Int) 0
theorem clip_area2.mono_l : ∀ k, (∀ y0 y1 y2 y3 y4, LeO (clip_area2.l0 k y0 y1 y2 y3 y4) (clip_area2.l0 (k + 1) y0 y1 y2 y3 y4))
 | 0 => fun _ _ _ _ _ r h => by simp [clip_area2.l0] at h
 | k + 1 => by
  have ih0 := clip_area2.mono_l k
  ·intro y0 y1 y2 y3 y4
   unfold clip_area2.l0
   repeat' first
   | (with_reducible exact ih0 _ _ _ _ _)
   | (with_reducible exact LeO.refl _)
   | (with_reducible exact LeO.none _)
   | (with_reducible refine LeO.ite ?_ ?_)
   | (with_reducible refine LeO.bind ?_ (fun _ => ?_))
   | exact ih0 _ _ _ _ _
   | exact LeO.none _
   | refine LeO.ite ?_ ?_
   | refine LeO.bind ?_ (fun _ => ?_)
theorem clip_area2.mono : ∀ a0 k, LeO (clip_area2.f k a0) (clip_area2.f (k + 1) a0) := by
 intro a0 k
 have ih0 := clip_area2.mono_l k
 unfold clip_area2.f
 repeat' first
   | (with_reducible exact ih0 _ _ _ _ _)
   | (with_reducible exact LeO.refl _)
   | (with_reducible exact LeO.none _)
   | (with_reducible refine LeO.ite ?_ ?_)
   | (with_reducible refine LeO.bind ?_ (fun _ => ?_))
   | exact ih0 _ _ _ _ _
   | exact LeO.none _
   | refine LeO.ite ?_ ?_
   | refine LeO.bind ?_ (fun _ => ?_)
set_option maxHeartbeats 8000000 in
set_option maxRecDepth 100000 in
theorem clip_area2.calls (k : Nat) (A0 : Option Addr) (c0 : Nat) (l0 : List (S25)) (r : Int) (w : World) (hr0 : Kd.C k25 w A0 l0.length l0) (hc0 : l0.length ≤ c0) (h : clip_area2.f k l0 = some r) :
  Calls Try.prog 53 #[.slice A0 l0.length c0] w fun e w' => e = .returned (.int .i64 r) ∧ Below w.heap.size w w' := by
 have hu25 := Try.underlying25
 have HR0 := Aside0.mk hr0
 have HC0 := Aside0.mk hc0
 clear hr0 hc0
 have HB := Aside0.mk (Below.refl w.heap.size w)
 have H : (clip_area2.l0 k l0 0 l0 (l0.length : Int) 0) = some r := h
 clear h
 have H' := Aside0.mk H
 clear H
 go_enter Try.func53, Try.ntmps53
 go_wp2
 go_loopg [3, 9] k (fun kq v3 v9 w' => ∃ (x3_1 : Int) (x9_1 : Int), v3 = .int .i64 x3_1 ∧ v9 = .int .i64 x9_1 ∧ Aside0 (clip_area2.l0 kq l0 x3_1 l0 (l0.length : Int) x9_1 = some r) ∧ Aside0 (kq ≤ k) ∧ Aside0 (Below w.heap.size w w'))
 case atStart => exact ⟨(0), (0), (by first | rfl | (simp; done) | (simp [*]; done)), (by first | rfl | (simp; done) | (simp [*]; done)), H', ⟨Nat.le_refl _⟩, ⟨by repeat (first | (with_reducible first | exact HB.out | apply below_alloc | apply pw_below_drewN | apply below_drew1) | exact HB.out)⟩⟩
 case round =>
  clear H'
  obtain ⟨x3_1, x9_1, rfl, rfl, HA, HK1, HB⟩ := hrel
  cases gk with
  | zero => exact absurd HA.out (by simp [clip_area2.l0])
  | succ k1 =>
   have H := HA.out
   clear HA
   simp only [clip_area2.l0] at H
   by_cases c2 : x9_1 < (l0.length : Int)
   ·rw [if_pos c2] at H
    have c2b0 : decide (x9_1 < (l0.length : Int)) = true := decide_eq_true c2
    clear c2
    by_cases c3 : 0 ≤ x9_1
    ·rw [if_pos c3] at H
     have c3b0 : decide (0 ≤ x9_1) = true := decide_eq_true c3
     clear c3
     by_cases c4 : x9_1 < (l0.length : Int)
     ·rw [if_pos c4] at H
      have c4b0 : decide (x9_1 < (l0.length : Int)) = true := decide_eq_true c4
      clear c4
      by_cases c5 : (l0.length : Int) = 0
      ·rw [if_pos c5] at H
       exact absurd H (by simp)
      ·rw [if_neg c5] at H
       have c5b0 : ((l0.length : Int) == 0) = false := beq_eq_false_iff_ne.mpr c5
       have c5b1 : ((l0.length : Int) != 0) = true := bne_iff_ne.mpr c5
       have c5b2 : ¬ (l0 = []) := fun h_ => c5 (by rw [h_]; rfl)
       obtain ⟨ji6, hji6⟩ : ∃ j_ : Int, (Int.tmod (wrap64 (x9_1 + 1)) (l0.length : Int)) = j_ := ⟨_, rfl⟩
       replace H : (if 0 ≤ (ji6) then (if (ji6) < (l0.length : Int) then (clip_area2.l0 k1 l0 (wrap64 (x3_1 + (wrap64 ((wrap64 (((rd_T25 l0 x9_1).f0) * ((rd_T25 l0 (ji6)).f1))) - (wrap64 (((rd_T25 l0 x9_1).f1) * ((rd_T25 l0 (ji6)).f0))))))) l0 (l0.length : Int) (wrap64 (x9_1 + 1))) else (none)) else (none)) = some r := by first | (rw [hji6] at H; exact H) | (simp only [hji6] at H ⊢; exact H)
       by_cases c7 : 0 ≤ (ji6)
       ·rw [if_pos c7] at H
        have c7b0 : decide (0 ≤ (ji6)) = true := decide_eq_true c7
        clear c7
        by_cases c8 : (ji6) < (l0.length : Int)
        ·rw [if_pos c8] at H
         have c8b0 : decide ((ji6) < (l0.length : Int)) = true := decide_eq_true c8
         clear c8
         have H' := Aside0.mk H
         clear H
         have p182 : 0 ≤ (x9_1 : Int) := of_decide_eq_true (by first | (with_reducible assumption) | assumption)
         have q182 : x9_1 < (l0.length : Int) := of_decide_eq_true (by first | (with_reducible assumption) | assumption)
         obtain ⟨ad182, e182, hx182_0, hx182_1⟩ := at_T25 HR0.out x9_1 p182 q182
         cases e182
         replace hx182_0 := (HB.out.cell (World.block_lt_of_cell? w _ hx182_0)).trans hx182_0
         replace hx182_1 := (HB.out.cell (World.block_lt_of_cell? w _ hx182_1)).trans hx182_1
         replace p182 := eq_true p182
         replace q182 := eq_true q182
         go_wp2_with (first | ((with_reducible refine gate_dst (N := 5) rfl ?_); refine box_event ?hg (N := 5) ?hd (cs := #[.int .i64 0, .int .i64 0]) (t := 25) ?hr ?_; (case hd => rfl); (case hg => rfl); (case hr => first | (go_simp; done) | (go_simp; rfl)); intro gb183 hg w9 hbox hb; have n0_ := Aside0.mk (below_step (by repeat (first | (with_reducible first | exact HB.out | apply below_alloc | apply pw_below_drewN | apply below_drew1) | exact HB.out)) hb); have n1_ := Aside0.mk (hbox); have n2_ := Aside0.mk ((by rw [hg]; exact (below_size (by repeat (first | (with_reducible first | exact HB.out | apply below_alloc | apply pw_below_drewN | apply below_drew1) | exact HB.out))) : w.heap.size ≤ gb183)); have n3_ := Aside0.mk ((by rw [hg]; exact (below_size (by repeat (first | (with_reducible first | exact HB.out | apply below_alloc | apply pw_below_drewN | apply below_drew1) | exact HB.out))) : w.heap.size ≤ gb183)); clear HB; have HB := n0_; have BK183 := n1_; have GW183 := n2_; have GE183 := n3_; clear n0_ n1_ n2_ n3_; clear hb hbox hg; have hcz10_0 : w9.cell? ⟨gb183, 0, none⟩ = some (.int .i64 0) := (blk_cell BK183.out 0).trans rfl; have hcz10_1 : w9.cell? ⟨gb183, 1, none⟩ = some (.int .i64 0) := (blk_cell BK183.out 1).trans rfl; have hfz10_0 := blk_frozen BK183.out 0; have hfz10_1 := blk_frozen BK183.out 1; have p184 : 0 ≤ ((ji6) : Int) := of_decide_eq_true (by first | (with_reducible assumption) | assumption); have q184 : (ji6) < (l0.length : Int) := of_decide_eq_true (by first | (with_reducible assumption) | assumption); obtain ⟨ad184, e184, hx184_0, hx184_1⟩ := at_T25 HR0.out (ji6) p184 q184; obtain rfl : ad182 = ad184 := (by injection e184); have hn184_0 : ad182.block ≠ gb183 := Nat.ne_of_lt (Nat.lt_of_lt_of_le (by have := World.block_lt_of_cell? _ _ hx184_0; first | rwa [add_block] at this | exact this) GW183.out); have hn184_1 : ad182.block ≠ gb183 := Nat.ne_of_lt (Nat.lt_of_lt_of_le (by have := World.block_lt_of_cell? _ _ hx184_0; first | rwa [add_block] at this | exact this) GW183.out); replace hx184_0 := (HB.out.cell (World.block_lt_of_cell? w _ hx184_0)).trans hx184_0; replace hx184_1 := (HB.out.cell (World.block_lt_of_cell? w _ hx184_1)).trans hx184_1; replace hx184_0 := (cell_far (p := ⟨gb183, 0, none⟩) (by first | (rw [add_block]; exact hn184_0) | (show (Addr.add _ _).block ≠ _; rw [add_block]; exact hn184_0) | exact hn184_0) (.int .i64 ((rd_T25 l0 x9_1).f0))).trans hx184_0; replace hx184_1 := (cell_far (p := ⟨gb183, 0, none⟩) (by first | (rw [add_block]; exact hn184_0) | (show (Addr.add _ _).block ≠ _; rw [add_block]; exact hn184_0) | exact hn184_0) (.int .i64 ((rd_T25 l0 x9_1).f0))).trans hx184_1; replace hx184_0 := (cell_far (p := ⟨gb183, 1, none⟩) (by first | (rw [add_block]; exact hn184_1) | (show (Addr.add _ _).block ≠ _; rw [add_block]; exact hn184_1) | exact hn184_1) (.int .i64 ((rd_T25 l0 x9_1).f1))).trans hx184_0; replace hx184_1 := (cell_far (p := ⟨gb183, 1, none⟩) (by first | (rw [add_block]; exact hn184_1) | (show (Addr.add _ _).block ≠ _; rw [add_block]; exact hn184_1) | exact hn184_1) (.int .i64 ((rd_T25 l0 x9_1).f1))).trans hx184_1; clear hn184_0; clear hn184_1; replace p184 := eq_true p184; replace q184 := eq_true q184) | ((with_reducible refine gate_dst (N := 6) rfl ?_); refine box_event ?hg (N := 6) ?hd (cs := #[.int .i64 0, .int .i64 0]) (t := 25) ?hr ?_; (case hd => rfl); (case hg => rfl); (case hr => first | (go_simp; done) | (go_simp; rfl)); intro gb185 hg w11 hbox hb; have n0_ := Aside0.mk (blk_below (g := gb183) (o := .cells #[.int .i64 ((rd_T25 l0 x9_1).f0), .int .i64 ((rd_T25 l0 x9_1).f1)] 25 (0, 0)) (by (with_reducible repeat (first | apply blk_drewN | apply blk_drew | apply blk_alloc)); refine blk_put (cs := #[.int .i64 ((rd_T25 l0 x9_1).f0), .int .i64 0]) ?_ 1 _ rfl; (with_reducible repeat (first | apply blk_drewN | apply blk_drew | apply blk_alloc)); refine blk_put (cs := #[.int .i64 0, .int .i64 0]) ?_ 0 _ rfl; (with_reducible repeat (first | apply blk_drewN | apply blk_drew | apply blk_alloc)); exact BK183.out) hb); have n1_ := Aside0.mk (below_step (by repeat (first | (with_reducible first | exact HB.out | apply below_alloc | apply pw_below_drewN | apply below_drew1 | refine below_set ?_ GE183.out) | exact HB.out)) hb); have n2_ := Aside0.mk (hbox); have n3_ := Aside0.mk ((by rw [hg]; exact (below_size (by repeat (first | (with_reducible first | exact HB.out | apply below_alloc | apply pw_below_drewN | apply below_drew1 | refine below_set ?_ GE183.out) | exact HB.out))) : w.heap.size ≤ gb185)); have n4_ := Aside0.mk ((by rw [hg]; exact (below_size (by repeat (first | (with_reducible first | exact HB.out | apply below_alloc | apply pw_below_drewN | apply below_drew1 | refine below_set ?_ GE183.out) | exact HB.out))) : w.heap.size ≤ gb185)); have n5_ := Aside0.mk ((by rw [hg]; exact Nat.ne_of_lt (blk_lt (g := gb183) (o := .cells #[.int .i64 ((rd_T25 l0 x9_1).f0), .int .i64 ((rd_T25 l0 x9_1).f1)] 25 (0, 0)) (by (with_reducible repeat (first | apply blk_drewN | apply blk_drew | apply blk_alloc)); refine blk_put (cs := #[.int .i64 ((rd_T25 l0 x9_1).f0), .int .i64 0]) ?_ 1 _ rfl; (with_reducible repeat (first | apply blk_drewN | apply blk_drew | apply blk_alloc)); refine blk_put (cs := #[.int .i64 0, .int .i64 0]) ?_ 0 _ rfl; (with_reducible repeat (first | apply blk_drewN | apply blk_drew | apply blk_alloc)); exact BK183.out)) : gb183 ≠ gb185)); have n6_ := Aside0.mk ((by rw [hg]; exact Nat.ne_of_gt (blk_lt (g := gb183) (o := .cells #[.int .i64 ((rd_T25 l0 x9_1).f0), .int .i64 ((rd_T25 l0 x9_1).f1)] 25 (0, 0)) (by (with_reducible repeat (first | apply blk_drewN | apply blk_drew | apply blk_alloc)); refine blk_put (cs := #[.int .i64 ((rd_T25 l0 x9_1).f0), .int .i64 0]) ?_ 1 _ rfl; (with_reducible repeat (first | apply blk_drewN | apply blk_drew | apply blk_alloc)); refine blk_put (cs := #[.int .i64 0, .int .i64 0]) ?_ 0 _ rfl; (with_reducible repeat (first | apply blk_drewN | apply blk_drew | apply blk_alloc)); exact BK183.out)) : gb185 ≠ gb183)); clear BK183; clear HB; have BK183 := n0_; have HB := n1_; have BK185 := n2_; have GW185 := n3_; have GE185 := n4_; have NB183_185 := n5_; have NB185_183 := n6_; clear n0_ n1_ n2_ n3_ n4_ n5_ n6_; clear hb hbox hg; have hnb12 := NB185_183.out; have hnc12 := NB183_185.out; have hcz13_0 : w11.cell? ⟨gb185, 0, none⟩ = some (.int .i64 0) := (blk_cell BK185.out 0).trans rfl; have hcz13_1 : w11.cell? ⟨gb185, 1, none⟩ = some (.int .i64 0) := (blk_cell BK185.out 1).trans rfl; have hfz13_0 := blk_frozen BK185.out 0; have hfz13_1 := blk_frozen BK185.out 1; have hcz14_0 : w11.cell? ⟨gb183, 0, none⟩ = some (.int .i64 ((rd_T25 l0 x9_1).f0)) := (blk_cell BK183.out 0).trans rfl; have hcz14_1 : w11.cell? ⟨gb183, 1, none⟩ = some (.int .i64 ((rd_T25 l0 x9_1).f1)) := (blk_cell BK183.out 1).trans rfl; have hfz14_0 := blk_frozen BK183.out 0; have hfz14_1 := blk_frozen BK183.out 1))
         go_roundg k1
         case measure => have := HK1.out; omega
         case rel => exact ⟨(wrap64 (x3_1 + (wrap64 ((wrap64 (((rd_T25 l0 x9_1).f0) * ((rd_T25 l0 (ji6)).f1))) - (wrap64 (((rd_T25 l0 x9_1).f1) * ((rd_T25 l0 (ji6)).f0))))))), (wrap64 (x9_1 + 1)), (by first | rfl | (simp; done) | (simp only [← hji6] <;> (first | rfl | simp)) | (simp [*]; done)), (by first | rfl | (simp; done) | (simp [*]; done)), H', ⟨by have := HK1.out; omega⟩, ⟨by repeat (first | (with_reducible first | exact HB.out | apply below_alloc | apply pw_below_drewN | apply below_drew1 | refine below_set ?_ GE183.out | refine below_set ?_ GE185.out) | exact HB.out)⟩⟩
        ·rw [if_neg c8] at H
         exact absurd H (by simp)
       ·rw [if_neg c7] at H
        exact absurd H (by simp)
     ·rw [if_neg c4] at H
      exact absurd H (by simp)
    ·rw [if_neg c3] at H
     exact absurd H (by simp)
   ·rw [if_neg c2] at H
    have c2b0 : decide (x9_1 < (l0.length : Int)) = false := decide_eq_false c2
    clear c2
    obtain rfl := Option.some.inj H
    go_wp2
    go_ret
    exact ⟨by first | rfl | (simp [errW_none, errW_some] <;> rfl) | (simp [*, errW_none, errW_some] <;> rfl), by repeat (first | (with_reducible first | exact HB.out | apply below_alloc | apply pw_below_drewN | apply below_drew1) | exact HB.out)⟩

/-! by hand -/
/-! ### clip_Ring: function 33 -/

set_option maxHeartbeats 400000 in
set_option maxRecDepth 100000 in
theorem clip_Ring_1.calls {w0 w : World} {L : List (Thing w0.heap.size)} (x y : Int) (g : Nat) (v : Value) (xs : List S25) (n m : Nat) (S : Sep w0 w L) (hn : L[n]? = some (Box _ g 30 #[v])) (hm : L[m]? = some (Own _ k25 25 v xs)) (hne : n ≠ m) (hl : xs.length < 8796093022208) :
  Calls Try.prog 50 #[.agg #[.int .i64 x, .int .i64 y], .pointer (some ⟨g, 0, none⟩)] w fun e w' => e = .returned (.tuple #[]) ∧ ∃ v', Sep w0 w' ((L.set m (Own _ k25 25 v' (xs ++ [⟨x, y⟩]))).set n (Box _ g 30 #[v'])) := by
 have hu22 := Try.underlying30
 have hu37 := Try.underlying25
 have Hn := Aside0.mk hn
 have Hm := Aside0.mk hm
 clear hn hm
 go_enter Try.func50, Try.ntmps50
 go_wp2_with (first | ((with_reducible refine gate_dst (N := 2) rfl ?_); refine box_event ?hg (N := 2) ?hd (cs := #[.int .i64 x, .int .i64 y]) (t := 25) ?hr ?_; (case hd => rfl); (case hg => rfl); (case hr => first | (go_simp; done) | (go_simp; rfl)); intro g2 hg w2 hbox hb; replace S := (S).box hg hbox hb; clear hbox hb hg; have c1 := blk_cell (S.at_box (n + 1) (by simpa using Hn.out)) 0; have c2 := blk_cell (S.at_box 0 rfl) 0; have c3 := blk_cell (S.at_box 0 rfl) 1; replace S := S.drop 0; simp only [List.getElem?_toArray, List.getElem?_cons_zero, List.getElem?_cons_succ] at c1 c2 c3) | ((with_reducible refine gate_builtin (b := .append) (xs := #[.tmp 3, .tmp 5]) rfl ?_); at_builtin; obtain ⟨ok, hR, hnew, hup⟩ := S.append m Hm.out; refine Kd.R_append k25 (w0 := w0) w0.heap.size rfl (.tmp 3) (.tmp 5) 30 25 (.agg #[(.int .i64 0), (.int .i64 0)]) 16 rfl Try.underlying30 info25 rfl (by decide) (by omega) v xs ⟨x, y⟩ [.int .i64 x, .int .i64 y] ok (fun _ => False) rfl rfl (k25_mkM _ _ _ _) (fun _ h => h.elim) hnew hR S.below S.size (by omega) ?_; intro v3 w3 ho hb hg hat; obtain ⟨A3, n3, c3_, ev3⟩ := R_form ho; subst ev3; replace S := hup _ w3 _ ho hb hg; clear hup hR hnew ho hb hg hat; have hn2 := Aside0.mk (show (L.set m (Own _ k25 25 (.slice A3 n3 c3_) (xs ++ [⟨x, y⟩])))[n]? = some (Box _ g 30 #[v]) by rw [List.getElem?_set_ne (by omega)]; exact Hn.out); have c4 := blk_cell (S.at_box n hn2.out) 0; have f4 := blk_frozen (S.at_box n hn2.out) 0; simp only [List.getElem?_toArray, List.getElem?_cons_zero, List.getElem?_cons_succ] at c4))
 go_end0
 exact ⟨rfl, _, S.set n hn2.out 0 _⟩

/-- The half planes of a box, by number. -/
def clip_hs (b0 b1 b2 b3 : Int) (i : Nat) : Bool × Bool × Int := if i = 0 then (false, false, b0) else if i = 1 then (false, true, b2) else if i = 2 then (true, false, b1) else (true, true, b3)
theorem clip_hs_index (b0 b1 b2 b3 : Int) (i : Nat) (h : i < 4) : ∀ W : World, (Instr.index 63 (.agg #[.bool false, .bool false, .int .i64 b0, .bool false, .bool true, .int .i64 b2, .bool true, .bool false, .int .i64 b1, .bool true, .bool true, .int .i64 b3]) (.int .i64 (i : Int))).run Try.prog W = .ok (.agg #[.bool (clip_hs b0 b1 b2 b3 i).1, .bool (clip_hs b0 b1 b2 b3 i).2.1, .int .i64 (clip_hs b0 b1 b2 b3 i).2.2]) W := by
 have h : i = 0 ∨ i = 1 ∨ i = 2 ∨ i = 3 := by omega
 rcases h with rfl | rfl | rfl | rfl <;> (intro W; kernel_rfl)
/-- One half plane: from point i on. -/
def clip_Ring.side : Nat → Bool × Bool × Int → List S25 → Nat → List S25 → Option (List S25)
 | 0, _, _, _, _ => none
 | k + 1, h, l, i, acc =>
  if i < l.length then
   if acc.length < 8796093022200 then
    (clip_half_has.f h.1 h.2.1 h.2.2 (rd_T25 l i).f0 (rd_T25 l i).f1).bind fun a =>
    (clip_half_has.f h.1 h.2.1 h.2.2 (rd_T25 l (((i : Int) + 1) % (l.length : Int))).f0 (rd_T25 l (((i : Int) + 1) % (l.length : Int))).f1).bind fun c =>
     if a = c then clip_Ring.side k h l (i + 1) (if a = true then acc ++ [⟨(rd_T25 l i).f0, (rd_T25 l i).f1⟩] else acc)
     else (clip_half_border.f k h.1 h.2.1 h.2.2 (rd_T25 l i).f0 (rd_T25 l i).f1 (rd_T25 l (((i : Int) + 1) % (l.length : Int))).f0 (rd_T25 l (((i : Int) + 1) % (l.length : Int))).f1).bind fun b =>
      clip_Ring.side k h l (i + 1) ((if a = true then acc ++ [⟨(rd_T25 l i).f0, (rd_T25 l i).f1⟩] else acc) ++ [⟨b.1, b.2⟩])
   else none
  else some acc
/-- What follows when n half planes are left. -/
def clip_Ring.rest (k : Nat) (b0 b1 b2 b3 : Int) : Nat → List S25 → Option (List S25)
 | 0, l => (clip_TidyRing.f k l).bind fun t => (clip_area2.f k t).bind fun s => if s = 0 then some [] else some t
 | n + 1, l => (clip_Ring.side k (clip_hs b0 b1 b2 b3 (3 - n)) l 0 []).bind fun l' => clip_Ring.rest k b0 b1 b2 b3 n l'
def clip_Ring.f (k : Nat) (l0 : List S25) (b0 b1 b2 b3 : Int) : Option (List S25) := (clip_permitted.f k l0 b0 b1 b2 b3).bind fun ok => if ok = true then clip_Ring.rest k b0 b1 b2 b3 4 l0 else some []

set_option maxHeartbeats 1000000 in
set_option maxRecDepth 100000 in
theorem clip_Ring.calls (k : Nat) (A0 : Option Addr) (c0 : Nat) (l0 : List S25) (b0 b1 b2 b3 : Int) (r : List S25) (w : World) (hr0 : Kd.C k25 w A0 l0.length l0) (hc0 : l0.length ≤ c0) (h : clip_Ring.f k l0 b0 b1 b2 b3 = some r) :
  Calls Try.prog 33 #[.slice A0 l0.length c0, .agg #[.int .i64 b0, .int .i64 b1, .int .i64 b2, .int .i64 b3]] w fun e w' => ∃ v0_ : Value, e = .returned (v0_) ∧ Kd.R k25 25 w' w.heap.size (fun _ => True) v0_ r ∧ Below w.heap.size w w' := by
 have hu22 := Try.underlying30
 have hu28 := Try.underlying40
 have hu37 := Try.underlying25
 have hu39 := Try.underlying62
 have hu40 := Try.underlying63
 have hmf : ∀ (fn : Fn) (first cap : Array Value) (w : World), (Instr.makeFunc fn first cap).run Try.prog w = .ok (.func fn first cap) w := fun _ _ _ _ => rfl
 have HR := Aside0.mk hr0
 have HC := Aside0.mk hc0
 clear hr0 hc0
 unfold clip_Ring.f at h
 obtain ⟨ok, hp, h⟩ := Option.bind_eq_some_iff.mp h
 have HP := Aside0.mk hp
 have S := Sep.start w
 clear hp
 cases ok with
 | false =>
  have H := Aside0.mk (show some [] = some r from by simpa using h)
  clear h
  go_enter Try.func33, Try.ntmps33
  go_wp2_with (first | ((with_reducible refine gate_dst (N := 3) rfl ?_); refine box_event ?hg (N := 3) ?hd (cs := #[.int .i64 b0, .int .i64 b1, .int .i64 b2, .int .i64 b3]) (t := 40) ?hr ?_; (case hd => rfl); (case hg => rfl); (case hr => first | (go_simp; done) | (go_simp; rfl)); intro g3 hg w3 hbox hb; replace S := (S).box hg hbox hb; clear hbox hb hg; have cb_0 := blk_cell (S.at_box 0 rfl) 0; have cb_1 := blk_cell (S.at_box 0 rfl) 1; have cb_2 := blk_cell (S.at_box 0 rfl) 2; have cb_3 := blk_cell (S.at_box 0 rfl) 3; simp only [List.getElem?_toArray, List.getElem?_cons_zero, List.getElem?_cons_succ] at cb_0 cb_1 cb_2 cb_3) | (go_at_call 44; (with_reducible refine (clip_permitted.calls k _ _ l0 b0 b1 b2 b3 _ _ (Kd.C_below HR.out S.below) HC.out HP.out).mono ?_); rintro e w4 ⟨rfl, hb⟩; replace S := S.step hb; clear hb; have cB_0 := blk_cell (S.at_box 0 rfl) 0; have cB_1 := blk_cell (S.at_box 0 rfl) 1; have cB_2 := blk_cell (S.at_box 0 rfl) 2; have cB_3 := blk_cell (S.at_box 0 rfl) 3; simp only [List.getElem?_toArray, List.getElem?_cons_zero, List.getElem?_cons_succ] at cB_0 cB_1 cB_2 cB_3))
  go_ret
  obtain rfl := Option.some.inj H.out
  exact ⟨_, rfl, Kd.R_nil _ _ _ _ _, S.below⟩
 | true =>
  have H := Aside0.mk (show clip_Ring.rest k b0 b1 b2 b3 4 l0 = some r from by simpa using h)
  clear h
  go_enter Try.func33, Try.ntmps33
  go_wp2_with (first | ((with_reducible refine gate_dst (N := 3) rfl ?_); refine box_event ?hg (N := 3) ?hd (cs := #[.int .i64 b0, .int .i64 b1, .int .i64 b2, .int .i64 b3]) (t := 40) ?hr ?_; (case hd => rfl); (case hg => rfl); (case hr => first | (go_simp; done) | (go_simp; rfl)); intro g3 hg w3 hbox hb; replace S := (S).box hg hbox hb; clear hbox hb hg; have cb_0 := blk_cell (S.at_box 0 rfl) 0; have cb_1 := blk_cell (S.at_box 0 rfl) 1; have cb_2 := blk_cell (S.at_box 0 rfl) 2; have cb_3 := blk_cell (S.at_box 0 rfl) 3; simp only [List.getElem?_toArray, List.getElem?_cons_zero, List.getElem?_cons_succ] at cb_0 cb_1 cb_2 cb_3) | (go_at_call 44; (with_reducible refine (clip_permitted.calls k _ _ l0 b0 b1 b2 b3 _ _ (Kd.C_below HR.out S.below) HC.out HP.out).mono ?_); rintro e w4 ⟨rfl, hb⟩; replace S := S.step hb; clear hb; have cB_0 := blk_cell (S.at_box 0 rfl) 0; have cB_1 := blk_cell (S.at_box 0 rfl) 1; have cB_2 := blk_cell (S.at_box 0 rfl) 2; have cB_3 := blk_cell (S.at_box 0 rfl) 3; simp only [List.getElem?_toArray, List.getElem?_cons_zero, List.getElem?_cons_succ] at cB_0 cB_1 cB_2 cB_3) | (go_at_call 49; (with_reducible refine (clip_halves.calls b0 b1 b2 b3 _ _ _ _ _ _ _ _ _ _ _ _ _ rfl).mono ?_); rintro e w5 ⟨rfl, hb⟩; replace S := S.step hb; clear hb))
  clear cb_0 cb_1 cb_2 cb_3 cB_0 cB_1 cB_2 cB_3
  replace S := (S.drop 0).src 25 HR.out HC.out
  have H' := Aside0.mk H.out
  clear H
  go_loopg [5, 22] 4 (fun kq v5 v22 w' => ∃ (i : Nat) (l : List S25), v22 = .int .i64 (i : Int) ∧ i + kq ≤ 4 ∧ 4 ≤ i + kq ∧ Aside0 (clip_Ring.rest k b0 b1 b2 b3 kq l = some r) ∧ Sep w w' [Src w k25 25 v5 l])
  case atStart => exact ⟨0, l0, rfl, by omega, by omega, H', S⟩
  case round =>
   clear H'
   obtain ⟨i, l, rfl, hi1, hi2, H, S⟩ := hrel
   cases gk with
   | zero =>
    have hi : ¬ ((i : Int) < 4) := by omega
    obtain ⟨t, ht, H2⟩ := Option.bind_eq_some_iff.mp (show ((clip_TidyRing.f k l).bind fun t => (clip_area2.f k t).bind fun s => if s = 0 then some [] else some t) = some r from H.out)
    obtain ⟨s, hs, H3⟩ := Option.bind_eq_some_iff.mp H2
    have HT := Aside0.mk ht
    have HS := Aside0.mk hs
    have H4 := Aside0.mk H3
    clear ht hs H2 H3 H
    obtain ⟨A5, c5, hv5, hc5, hC5⟩ := S.src_reads 0 rfl
    have HC5 := Aside0.mk hC5
    have Hc5 := Aside0.mk hc5
    clear hC5 hc5
    subst hv5
    by_cases h0 : s = 0
    ·have e0 : (s == 0) = true := by simpa using h0
     go_wp2_with (first | (go_at_call 32; (with_reducible refine (clip_TidyRing.calls k _ _ l t _ HC5.out Hc5.out HT.out).mono ?_); rintro e w6 ⟨v6, rfl, ho, hb⟩; replace S := S.own ho hb; clear ho hb; obtain ⟨A6, c6, hv6, hc6, hC6⟩ := S.own_reads 0 rfl; have HC6 := Aside0.mk hC6; have Hc6 := Aside0.mk hc6; clear hC6 hc6; subst hv6) | (go_at_call 53; (with_reducible refine (clip_area2.calls k _ _ t s _ HC6.out Hc6.out HS.out).mono ?_); rintro e w7 ⟨rfl, hb⟩; replace S := S.step hb; clear hb))
     go_ret
     have h5 := H4.out
     rw [if_pos h0] at h5
     obtain rfl := Option.some.inj h5
     exact ⟨_, rfl, Kd.R_nil _ _ _ _ _, S.below⟩
    ·have e0 : (s == 0) = false := by simpa using h0
     go_wp2_with (first | (go_at_call 32; (with_reducible refine (clip_TidyRing.calls k _ _ l t _ HC5.out Hc5.out HT.out).mono ?_); rintro e w6 ⟨v6, rfl, ho, hb⟩; replace S := S.own ho hb; clear ho hb; obtain ⟨A6, c6, hv6, hc6, hC6⟩ := S.own_reads 0 rfl; have HC6 := Aside0.mk hC6; have Hc6 := Aside0.mk hc6; clear hC6 hc6; subst hv6) | (go_at_call 53; (with_reducible refine (clip_area2.calls k _ _ t s _ HC6.out Hc6.out HS.out).mono ?_); rintro e w7 ⟨rfl, hb⟩; replace S := S.step hb; clear hb))
     go_ret
     have h5 := H4.out
     rw [if_neg h0] at h5
     obtain rfl := Option.some.inj h5
     exact ⟨_, rfl, S.at_own 0 rfl, S.below⟩
   | succ n =>
    have hi : (i : Int) < 4 := by omega
    have hix := clip_hs_index b0 b1 b2 b3 i (by omega)
    obtain ⟨A5, c5, hv5, hc5, hC5⟩ := S.src_reads 0 rfl
    have HC5 := Aside0.mk hC5
    have Hc5 := Aside0.mk hc5
    have hlen : l.length ≤ 9223372036854775807 := hC5.2.1
    clear hC5 hc5
    subst hv5
    have H1 := Aside0.mk (show (clip_Ring.side k (clip_hs b0 b1 b2 b3 i) l 0 []).bind (fun l' => clip_Ring.rest k b0 b1 b2 b3 n l') = some r by
     have h := H.out
     rw [show i = 3 - n by omega]
     exact h)
    clear H
    go_wp2_with (first | ((with_reducible refine gate_dst (N := 7) rfl ?_); refine box_event ?hg (N := 7) ?hd (cs := #[.bool false, .bool false, .int .i64 0]) (t := 62) ?hr ?_; (case hd => rfl); (case hg => rfl); (case hr => first | (go_simp; done) | (go_simp; rfl)); intro g7 hg w7 hbox hb; replace S := (S).box hg hbox hb; clear hbox hb hg; have cg7_0 := blk_cell (S.at_box 0 rfl) 0; have fg7_0 := blk_frozen (S.at_box 0 rfl) 0; have cg7_1 := blk_cell (S.at_box 0 rfl) 1; have fg7_1 := blk_frozen (S.at_box 0 rfl) 1; have cg7_2 := blk_cell (S.at_box 0 rfl) 2; have fg7_2 := blk_frozen (S.at_box 0 rfl) 2; simp only [List.getElem?_toArray, List.getElem?_cons_zero, List.getElem?_cons_succ] at cg7_0 cg7_1 cg7_2) | ((with_reducible refine gate_dst (N := 8) rfl ?_); refine box_event ?hg (N := 8) ?hd (cs := #[.slice none 0 0]) (t := 30) ?hr ?_; (case hd => rfl); (case hg => rfl); (case hr => first | (go_simp; done) | (go_simp; rfl)); intro g8 hg w8 hbox hb; replace S := (((S.set 0 rfl 0 (.bool (clip_hs b0 b1 b2 b3 i).1)).set 0 rfl 1 (.bool (clip_hs b0 b1 b2 b3 i).2.1)).set 0 rfl 2 (.int .i64 (clip_hs b0 b1 b2 b3 i).2.2)).box hg hbox hb; clear hbox hb hg; replace S : Sep w w8 [Box _ g8 30 #[.slice none 0 0], Box _ g7 62 #[.bool (clip_hs b0 b1 b2 b3 i).1, .bool (clip_hs b0 b1 b2 b3 i).2.1, .int .i64 (clip_hs b0 b1 b2 b3 i).2.2], Src w k25 25 (.slice A5 l.length c5) l] := S))
    clear cg7_0 cg7_1 cg7_2 fg7_0 fg7_1 fg7_2
    go_loopg [28] k (fun kq v28 w' => ∃ (j : Nat) (acc : List S25) (v8 : Value), v28 = .int .i64 (j : Int) ∧ kq ≤ k ∧ Aside0 ((clip_Ring.side kq (clip_hs b0 b1 b2 b3 i) l j acc).bind (fun l' => clip_Ring.rest k b0 b1 b2 b3 n l') = some r) ∧ Sep w w' [Own _ k25 25 v8 acc, Box _ g8 30 #[v8], Box _ g7 62 #[.bool (clip_hs b0 b1 b2 b3 i).1, .bool (clip_hs b0 b1 b2 b3 i).2.1, .int .i64 (clip_hs b0 b1 b2 b3 i).2.2], Src w k25 25 (.slice A5 l.length c5) l])
    case atStart => exact ⟨0, [], .slice none 0 0, rfl, Nat.le_refl _, H1, S.nil k25 25⟩
    case round =>
     clear H1 S
     obtain ⟨j, acc, v8, rfl, hkk, H, S⟩ := hrel
     cases gk with
     | zero => exact absurd H.out (by simp [clip_Ring.side])
     | succ kk =>
      by_cases hj : j < l.length
      ·have hq : (j + 1) % l.length < l.length := Nat.mod_lt _ (by omega)
       have hjq : ((j : Int) + 1) % (l.length : Int) = (((j + 1) % l.length : Nat) : Int) := by simp
       have HQ := Aside0.mk (show 0 ≤ ((j : Int) + 1) % (l.length : Int) ∧ ((j : Int) + 1) % (l.length : Int) < (l.length : Int) ∧ (((j : Int) + 1) % (l.length : Int)).toNat = (j + 1) % l.length by rw [hjq]; omega)
       clear hjq
       have p2 := HQ.out.1
       have q2 := HQ.out.2.1
       have h := H.out
       rw [clip_Ring.side, if_pos hj] at h
       by_cases hacc : acc.length < 8796093022200
       ·rw [if_pos hacc] at h
        obtain ⟨l', h, hrest⟩ := Option.bind_eq_some_iff.mp h
        obtain ⟨a, ha, h⟩ := Option.bind_eq_some_iff.mp h
        obtain ⟨c, hc, h⟩ := Option.bind_eq_some_iff.mp h
        have HA := Aside0.mk ha
        have HCC := Aside0.mk hc
        have HREST := Aside0.mk hrest
        have HH := Aside0.mk h
        clear ha hc h hrest H
        obtain ⟨ad1, e1, hx1_0, hx1_1⟩ := at_T25 (S.src_C 3 rfl) (j : Int) (by omega) (by omega)
        cases e1
        simp only [Int.toNat_natCast] at hx1_0 hx1_1
        cases a <;> cases c
        ·-- false false
         have HH2 := Aside0.mk (show clip_Ring.side kk (clip_hs b0 b1 b2 b3 i) l (j + 1) acc = some l' from by simpa using HH.out)
         clear HH
         go_wp2_with (first | ((with_reducible refine gate_dst (N := 11) rfl ?_); refine box_event ?hg (N := 11) ?hd (cs := #[.int .i64 0, .int .i64 0]) (t := 25) ?hr ?_; (case hd => rfl); (case hg => rfl); (case hr => first | (go_simp; done) | (go_simp; rfl)); intro g11 hg w11 hbox hb; replace S := (S).box hg hbox hb; clear hbox hb hg; have cz0 := blk_cell (S.at_box 0 rfl) 0; have fz0 := blk_frozen (S.at_box 0 rfl) 0; have cz1 := blk_cell (S.at_box 0 rfl) 1; have fz1 := blk_frozen (S.at_box 0 rfl) 1; simp only [List.getElem?_toArray, List.getElem?_cons_zero, List.getElem?_cons_succ] at cz0 cz1; replace S : Sep w ((w11.setCell ⟨g11, 0, none⟩ (.int .i64 (rd_T25 l (j : Int)).f0)).setCell ⟨g11, 1, none⟩ (.int .i64 (rd_T25 l (j : Int)).f1)) [Box _ g11 25 #[.int .i64 (rd_T25 l (j : Int)).f0, .int .i64 (rd_T25 l (j : Int)).f1], Own _ k25 25 v8 acc, Box _ g8 30 #[v8], Box _ g7 62 #[.bool (clip_hs b0 b1 b2 b3 i).1, .bool (clip_hs b0 b1 b2 b3 i).2.1, .int .i64 (clip_hs b0 b1 b2 b3 i).2.2], Src w k25 25 (.slice (some ad1) l.length c5) l] := ((S).set 0 rfl 0 (.int .i64 (rd_T25 l (j : Int)).f0)).set 0 rfl 1 (.int .i64 (rd_T25 l (j : Int)).f1); obtain ⟨ad2, e2, hx2_0, hx2_1⟩ := at_T25 (S.src_C 4 rfl) (((j : Int) + 1) % (l.length : Int)) HQ.out.1 HQ.out.2.1; obtain rfl := Option.some.inj e2; rw [HQ.out.2.2] at hx2_0 hx2_1) | ((with_reducible refine gate_dst (N := 12) rfl ?_); refine box_event ?hg (N := 12) ?hd (cs := #[.int .i64 0, .int .i64 0]) (t := 25) ?hr ?_; (case hd => rfl); (case hg => rfl); (case hr => first | (go_simp; done) | (go_simp; rfl)); intro g12 hg w12 hbox hb; replace S := (S).box hg hbox hb; clear hbox hb hg; have cz0 := blk_cell (S.at_box 0 rfl) 0; have fz0 := blk_frozen (S.at_box 0 rfl) 0; have cz1 := blk_cell (S.at_box 0 rfl) 1; have fz1 := blk_frozen (S.at_box 0 rfl) 1; simp only [List.getElem?_toArray, List.getElem?_cons_zero, List.getElem?_cons_succ] at cz0 cz1; replace S : Sep w ((w12.setCell ⟨g12, 0, none⟩ (.int .i64 (rd_T25 l (((j : Int) + 1) % (l.length : Int))).f0)).setCell ⟨g12, 1, none⟩ (.int .i64 (rd_T25 l (((j : Int) + 1) % (l.length : Int))).f1)) [Box _ g12 25 #[.int .i64 (rd_T25 l (((j : Int) + 1) % (l.length : Int))).f0, .int .i64 (rd_T25 l (((j : Int) + 1) % (l.length : Int))).f1], Box _ g11 25 #[.int .i64 (rd_T25 l (j : Int)).f0, .int .i64 (rd_T25 l (j : Int)).f1], Own _ k25 25 v8 acc, Box _ g8 30 #[v8], Box _ g7 62 #[.bool (clip_hs b0 b1 b2 b3 i).1, .bool (clip_hs b0 b1 b2 b3 i).2.1, .int .i64 (clip_hs b0 b1 b2 b3 i).2.2], Src w k25 25 (.slice (some ad1) l.length c5) l] := ((S).set 0 rfl 0 (.int .i64 (rd_T25 l (((j : Int) + 1) % (l.length : Int))).f0)).set 0 rfl 1 (.int .i64 (rd_T25 l (((j : Int) + 1) % (l.length : Int))).f1); have cg7_0 := blk_cell (S.at_box 4 rfl) 0; have cg7_1 := blk_cell (S.at_box 4 rfl) 1; have cg7_2 := blk_cell (S.at_box 4 rfl) 2; have cg11_0 := blk_cell (S.at_box 1 rfl) 0; have cg11_1 := blk_cell (S.at_box 1 rfl) 1; simp only [List.getElem?_toArray, List.getElem?_cons_zero, List.getElem?_cons_succ] at cg7_0 cg7_1 cg7_2 cg11_0 cg11_1) | (go_at_call 51; (with_reducible refine (clip_half_has.calls (clip_hs b0 b1 b2 b3 i).1 (clip_hs b0 b1 b2 b3 i).2.1 (clip_hs b0 b1 b2 b3 i).2.2 (rd_T25 l (j : Int)).f0 (rd_T25 l (j : Int)).f1 _ _ HA.out).mono ?_); rintro e w13 ⟨rfl, hb⟩; replace S := S.step hb; clear hb; have cG7_0 := blk_cell (S.at_box 4 rfl) 0; have cG7_1 := blk_cell (S.at_box 4 rfl) 1; have cG7_2 := blk_cell (S.at_box 4 rfl) 2; have cG11_0 := blk_cell (S.at_box 1 rfl) 0; have cG11_1 := blk_cell (S.at_box 1 rfl) 1; have cG12_0 := blk_cell (S.at_box 0 rfl) 0; have cG12_1 := blk_cell (S.at_box 0 rfl) 1; simp only [List.getElem?_toArray, List.getElem?_cons_zero, List.getElem?_cons_succ] at cG7_0 cG7_1 cG7_2 cG11_0 cG11_1 cG12_0 cG12_1) | (go_at_call 51; (with_reducible refine (clip_half_has.calls (clip_hs b0 b1 b2 b3 i).1 (clip_hs b0 b1 b2 b3 i).2.1 (clip_hs b0 b1 b2 b3 i).2.2 (rd_T25 l (((j : Int) + 1) % (l.length : Int))).f0 (rd_T25 l (((j : Int) + 1) % (l.length : Int))).f1 _ _ HCC.out).mono ?_); rintro e w16 ⟨rfl, hb⟩; replace S := S.step hb; clear hb; have cG7_0 := blk_cell (S.at_box 4 rfl) 0; have cG7_1 := blk_cell (S.at_box 4 rfl) 1; have cG7_2 := blk_cell (S.at_box 4 rfl) 2; have cG11_0 := blk_cell (S.at_box 1 rfl) 0; have cG11_1 := blk_cell (S.at_box 1 rfl) 1; have cG12_0 := blk_cell (S.at_box 0 rfl) 0; have cG12_1 := blk_cell (S.at_box 0 rfl) 1; simp only [List.getElem?_toArray, List.getElem?_cons_zero, List.getElem?_cons_succ] at cG7_0 cG7_1 cG7_2 cG11_0 cG11_1 cG12_0 cG12_1))
         go_roundg kk
         case measure => omega
         case rel => exact ⟨j + 1, _, _, by go_num, by omega, ⟨Option.bind_eq_some_iff.mpr ⟨l', HH2.out, HREST.out⟩⟩, (S.drop 0).drop 0⟩
        ·-- false true
         obtain ⟨⟨r1, r2⟩, hbd, hh⟩ := Option.bind_eq_some_iff.mp (by simpa using HH.out)
         have HBD := Aside0.mk hbd
         have HH2 := Aside0.mk (show clip_Ring.side kk (clip_hs b0 b1 b2 b3 i) l (j + 1) (acc ++ [⟨r1, r2⟩]) = some l' from by simpa using hh)
         clear hbd hh HH
         go_wp2_with (first | ((with_reducible refine gate_dst (N := 11) rfl ?_); refine box_event ?hg (N := 11) ?hd (cs := #[.int .i64 0, .int .i64 0]) (t := 25) ?hr ?_; (case hd => rfl); (case hg => rfl); (case hr => first | (go_simp; done) | (go_simp; rfl)); intro g11 hg w11 hbox hb; replace S := (S).box hg hbox hb; clear hbox hb hg; have cz0 := blk_cell (S.at_box 0 rfl) 0; have fz0 := blk_frozen (S.at_box 0 rfl) 0; have cz1 := blk_cell (S.at_box 0 rfl) 1; have fz1 := blk_frozen (S.at_box 0 rfl) 1; simp only [List.getElem?_toArray, List.getElem?_cons_zero, List.getElem?_cons_succ] at cz0 cz1; replace S : Sep w ((w11.setCell ⟨g11, 0, none⟩ (.int .i64 (rd_T25 l (j : Int)).f0)).setCell ⟨g11, 1, none⟩ (.int .i64 (rd_T25 l (j : Int)).f1)) [Box _ g11 25 #[.int .i64 (rd_T25 l (j : Int)).f0, .int .i64 (rd_T25 l (j : Int)).f1], Own _ k25 25 v8 acc, Box _ g8 30 #[v8], Box _ g7 62 #[.bool (clip_hs b0 b1 b2 b3 i).1, .bool (clip_hs b0 b1 b2 b3 i).2.1, .int .i64 (clip_hs b0 b1 b2 b3 i).2.2], Src w k25 25 (.slice (some ad1) l.length c5) l] := ((S).set 0 rfl 0 (.int .i64 (rd_T25 l (j : Int)).f0)).set 0 rfl 1 (.int .i64 (rd_T25 l (j : Int)).f1); obtain ⟨ad2, e2, hx2_0, hx2_1⟩ := at_T25 (S.src_C 4 rfl) (((j : Int) + 1) % (l.length : Int)) HQ.out.1 HQ.out.2.1; obtain rfl := Option.some.inj e2; rw [HQ.out.2.2] at hx2_0 hx2_1) | ((with_reducible refine gate_dst (N := 12) rfl ?_); refine box_event ?hg (N := 12) ?hd (cs := #[.int .i64 0, .int .i64 0]) (t := 25) ?hr ?_; (case hd => rfl); (case hg => rfl); (case hr => first | (go_simp; done) | (go_simp; rfl)); intro g12 hg w12 hbox hb; replace S := (S).box hg hbox hb; clear hbox hb hg; have cz0 := blk_cell (S.at_box 0 rfl) 0; have fz0 := blk_frozen (S.at_box 0 rfl) 0; have cz1 := blk_cell (S.at_box 0 rfl) 1; have fz1 := blk_frozen (S.at_box 0 rfl) 1; simp only [List.getElem?_toArray, List.getElem?_cons_zero, List.getElem?_cons_succ] at cz0 cz1; replace S : Sep w ((w12.setCell ⟨g12, 0, none⟩ (.int .i64 (rd_T25 l (((j : Int) + 1) % (l.length : Int))).f0)).setCell ⟨g12, 1, none⟩ (.int .i64 (rd_T25 l (((j : Int) + 1) % (l.length : Int))).f1)) [Box _ g12 25 #[.int .i64 (rd_T25 l (((j : Int) + 1) % (l.length : Int))).f0, .int .i64 (rd_T25 l (((j : Int) + 1) % (l.length : Int))).f1], Box _ g11 25 #[.int .i64 (rd_T25 l (j : Int)).f0, .int .i64 (rd_T25 l (j : Int)).f1], Own _ k25 25 v8 acc, Box _ g8 30 #[v8], Box _ g7 62 #[.bool (clip_hs b0 b1 b2 b3 i).1, .bool (clip_hs b0 b1 b2 b3 i).2.1, .int .i64 (clip_hs b0 b1 b2 b3 i).2.2], Src w k25 25 (.slice (some ad1) l.length c5) l] := ((S).set 0 rfl 0 (.int .i64 (rd_T25 l (((j : Int) + 1) % (l.length : Int))).f0)).set 0 rfl 1 (.int .i64 (rd_T25 l (((j : Int) + 1) % (l.length : Int))).f1); have cg7_0 := blk_cell (S.at_box 4 rfl) 0; have cg7_1 := blk_cell (S.at_box 4 rfl) 1; have cg7_2 := blk_cell (S.at_box 4 rfl) 2; have cg11_0 := blk_cell (S.at_box 1 rfl) 0; have cg11_1 := blk_cell (S.at_box 1 rfl) 1; simp only [List.getElem?_toArray, List.getElem?_cons_zero, List.getElem?_cons_succ] at cg7_0 cg7_1 cg7_2 cg11_0 cg11_1) | (go_at_call 51; (with_reducible refine (clip_half_has.calls (clip_hs b0 b1 b2 b3 i).1 (clip_hs b0 b1 b2 b3 i).2.1 (clip_hs b0 b1 b2 b3 i).2.2 (rd_T25 l (j : Int)).f0 (rd_T25 l (j : Int)).f1 _ _ HA.out).mono ?_); rintro e w13 ⟨rfl, hb⟩; replace S := S.step hb; clear hb; have cG7_0 := blk_cell (S.at_box 4 rfl) 0; have cG7_1 := blk_cell (S.at_box 4 rfl) 1; have cG7_2 := blk_cell (S.at_box 4 rfl) 2; have cG11_0 := blk_cell (S.at_box 1 rfl) 0; have cG11_1 := blk_cell (S.at_box 1 rfl) 1; have cG12_0 := blk_cell (S.at_box 0 rfl) 0; have cG12_1 := blk_cell (S.at_box 0 rfl) 1; simp only [List.getElem?_toArray, List.getElem?_cons_zero, List.getElem?_cons_succ] at cG7_0 cG7_1 cG7_2 cG11_0 cG11_1 cG12_0 cG12_1) | (go_at_call 51; (with_reducible refine (clip_half_has.calls (clip_hs b0 b1 b2 b3 i).1 (clip_hs b0 b1 b2 b3 i).2.1 (clip_hs b0 b1 b2 b3 i).2.2 (rd_T25 l (((j : Int) + 1) % (l.length : Int))).f0 (rd_T25 l (((j : Int) + 1) % (l.length : Int))).f1 _ _ HCC.out).mono ?_); rintro e w16 ⟨rfl, hb⟩; replace S := S.step hb; clear hb; have cG7_0 := blk_cell (S.at_box 4 rfl) 0; have cG7_1 := blk_cell (S.at_box 4 rfl) 1; have cG7_2 := blk_cell (S.at_box 4 rfl) 2; have cG11_0 := blk_cell (S.at_box 1 rfl) 0; have cG11_1 := blk_cell (S.at_box 1 rfl) 1; have cG12_0 := blk_cell (S.at_box 0 rfl) 0; have cG12_1 := blk_cell (S.at_box 0 rfl) 1; simp only [List.getElem?_toArray, List.getElem?_cons_zero, List.getElem?_cons_succ] at cG7_0 cG7_1 cG7_2 cG11_0 cG11_1 cG12_0 cG12_1) | (go_at_call 52; (with_reducible refine (clip_half_border.calls kk (clip_hs b0 b1 b2 b3 i).1 (clip_hs b0 b1 b2 b3 i).2.1 (clip_hs b0 b1 b2 b3 i).2.2 (rd_T25 l (j : Int)).f0 (rd_T25 l (j : Int)).f1 (rd_T25 l (((j : Int) + 1) % (l.length : Int))).f0 (rd_T25 l (((j : Int) + 1) % (l.length : Int))).f1 r1 r2 _ HBD.out).mono ?_); rintro e w17 ⟨rfl, hb⟩; replace S := S.step hb; clear hb) | (go_at_call 50; (with_reducible refine (clip_Ring_1.calls r1 r2 g8 v8 acc 3 2 S rfl rfl (by decide) ?hl).mono ?_); (case hl => first | omega | (simp; omega)); rintro e w18 ⟨rfl, v18, hS⟩; replace S : Sep w w18 [Box _ g12 25 #[.int .i64 (rd_T25 l (((j : Int) + 1) % (l.length : Int))).f0, .int .i64 (rd_T25 l (((j : Int) + 1) % (l.length : Int))).f1], Box _ g11 25 #[.int .i64 (rd_T25 l (j : Int)).f0, .int .i64 (rd_T25 l (j : Int)).f1], Own _ k25 25 v18 (acc ++ [⟨r1, r2⟩]), Box _ g8 30 #[v18], Box _ g7 62 #[.bool (clip_hs b0 b1 b2 b3 i).1, .bool (clip_hs b0 b1 b2 b3 i).2.1, .int .i64 (clip_hs b0 b1 b2 b3 i).2.2], Src w k25 25 (.slice (some ad1) l.length c5) l] := hS; clear hS; have cG7_0 := blk_cell (S.at_box 4 rfl) 0; have cG7_1 := blk_cell (S.at_box 4 rfl) 1; have cG7_2 := blk_cell (S.at_box 4 rfl) 2; have cG11_0 := blk_cell (S.at_box 1 rfl) 0; have cG11_1 := blk_cell (S.at_box 1 rfl) 1; have cG12_0 := blk_cell (S.at_box 0 rfl) 0; have cG12_1 := blk_cell (S.at_box 0 rfl) 1; simp only [List.getElem?_toArray, List.getElem?_cons_zero, List.getElem?_cons_succ] at cG7_0 cG7_1 cG7_2 cG11_0 cG11_1 cG12_0 cG12_1))
         go_roundg kk
         case measure => omega
         case rel => exact ⟨j + 1, _, _, by go_num, by omega, ⟨Option.bind_eq_some_iff.mpr ⟨l', HH2.out, HREST.out⟩⟩, (S.drop 0).drop 0⟩
        ·-- true false
         obtain ⟨⟨r1, r2⟩, hbd, hh⟩ := Option.bind_eq_some_iff.mp (by simpa using HH.out)
         have HBD := Aside0.mk hbd
         have HH2 := Aside0.mk (show clip_Ring.side kk (clip_hs b0 b1 b2 b3 i) l (j + 1) ((acc ++ [⟨(rd_T25 l (j : Int)).f0, (rd_T25 l (j : Int)).f1⟩]) ++ [⟨r1, r2⟩]) = some l' from by simpa using hh)
         clear hbd hh HH
         go_wp2_with (first | ((with_reducible refine gate_dst (N := 11) rfl ?_); refine box_event ?hg (N := 11) ?hd (cs := #[.int .i64 0, .int .i64 0]) (t := 25) ?hr ?_; (case hd => rfl); (case hg => rfl); (case hr => first | (go_simp; done) | (go_simp; rfl)); intro g11 hg w11 hbox hb; replace S := (S).box hg hbox hb; clear hbox hb hg; have cz0 := blk_cell (S.at_box 0 rfl) 0; have fz0 := blk_frozen (S.at_box 0 rfl) 0; have cz1 := blk_cell (S.at_box 0 rfl) 1; have fz1 := blk_frozen (S.at_box 0 rfl) 1; simp only [List.getElem?_toArray, List.getElem?_cons_zero, List.getElem?_cons_succ] at cz0 cz1; replace S : Sep w ((w11.setCell ⟨g11, 0, none⟩ (.int .i64 (rd_T25 l (j : Int)).f0)).setCell ⟨g11, 1, none⟩ (.int .i64 (rd_T25 l (j : Int)).f1)) [Box _ g11 25 #[.int .i64 (rd_T25 l (j : Int)).f0, .int .i64 (rd_T25 l (j : Int)).f1], Own _ k25 25 v8 acc, Box _ g8 30 #[v8], Box _ g7 62 #[.bool (clip_hs b0 b1 b2 b3 i).1, .bool (clip_hs b0 b1 b2 b3 i).2.1, .int .i64 (clip_hs b0 b1 b2 b3 i).2.2], Src w k25 25 (.slice (some ad1) l.length c5) l] := ((S).set 0 rfl 0 (.int .i64 (rd_T25 l (j : Int)).f0)).set 0 rfl 1 (.int .i64 (rd_T25 l (j : Int)).f1); obtain ⟨ad2, e2, hx2_0, hx2_1⟩ := at_T25 (S.src_C 4 rfl) (((j : Int) + 1) % (l.length : Int)) HQ.out.1 HQ.out.2.1; obtain rfl := Option.some.inj e2; rw [HQ.out.2.2] at hx2_0 hx2_1) | ((with_reducible refine gate_dst (N := 12) rfl ?_); refine box_event ?hg (N := 12) ?hd (cs := #[.int .i64 0, .int .i64 0]) (t := 25) ?hr ?_; (case hd => rfl); (case hg => rfl); (case hr => first | (go_simp; done) | (go_simp; rfl)); intro g12 hg w12 hbox hb; replace S := (S).box hg hbox hb; clear hbox hb hg; have cz0 := blk_cell (S.at_box 0 rfl) 0; have fz0 := blk_frozen (S.at_box 0 rfl) 0; have cz1 := blk_cell (S.at_box 0 rfl) 1; have fz1 := blk_frozen (S.at_box 0 rfl) 1; simp only [List.getElem?_toArray, List.getElem?_cons_zero, List.getElem?_cons_succ] at cz0 cz1; replace S : Sep w ((w12.setCell ⟨g12, 0, none⟩ (.int .i64 (rd_T25 l (((j : Int) + 1) % (l.length : Int))).f0)).setCell ⟨g12, 1, none⟩ (.int .i64 (rd_T25 l (((j : Int) + 1) % (l.length : Int))).f1)) [Box _ g12 25 #[.int .i64 (rd_T25 l (((j : Int) + 1) % (l.length : Int))).f0, .int .i64 (rd_T25 l (((j : Int) + 1) % (l.length : Int))).f1], Box _ g11 25 #[.int .i64 (rd_T25 l (j : Int)).f0, .int .i64 (rd_T25 l (j : Int)).f1], Own _ k25 25 v8 acc, Box _ g8 30 #[v8], Box _ g7 62 #[.bool (clip_hs b0 b1 b2 b3 i).1, .bool (clip_hs b0 b1 b2 b3 i).2.1, .int .i64 (clip_hs b0 b1 b2 b3 i).2.2], Src w k25 25 (.slice (some ad1) l.length c5) l] := ((S).set 0 rfl 0 (.int .i64 (rd_T25 l (((j : Int) + 1) % (l.length : Int))).f0)).set 0 rfl 1 (.int .i64 (rd_T25 l (((j : Int) + 1) % (l.length : Int))).f1); have cg7_0 := blk_cell (S.at_box 4 rfl) 0; have cg7_1 := blk_cell (S.at_box 4 rfl) 1; have cg7_2 := blk_cell (S.at_box 4 rfl) 2; have cg11_0 := blk_cell (S.at_box 1 rfl) 0; have cg11_1 := blk_cell (S.at_box 1 rfl) 1; simp only [List.getElem?_toArray, List.getElem?_cons_zero, List.getElem?_cons_succ] at cg7_0 cg7_1 cg7_2 cg11_0 cg11_1) | (go_at_call 51; (with_reducible refine (clip_half_has.calls (clip_hs b0 b1 b2 b3 i).1 (clip_hs b0 b1 b2 b3 i).2.1 (clip_hs b0 b1 b2 b3 i).2.2 (rd_T25 l (j : Int)).f0 (rd_T25 l (j : Int)).f1 _ _ HA.out).mono ?_); rintro e w13 ⟨rfl, hb⟩; replace S := S.step hb; clear hb; have cG7_0 := blk_cell (S.at_box 4 rfl) 0; have cG7_1 := blk_cell (S.at_box 4 rfl) 1; have cG7_2 := blk_cell (S.at_box 4 rfl) 2; have cG11_0 := blk_cell (S.at_box 1 rfl) 0; have cG11_1 := blk_cell (S.at_box 1 rfl) 1; have cG12_0 := blk_cell (S.at_box 0 rfl) 0; have cG12_1 := blk_cell (S.at_box 0 rfl) 1; simp only [List.getElem?_toArray, List.getElem?_cons_zero, List.getElem?_cons_succ] at cG7_0 cG7_1 cG7_2 cG11_0 cG11_1 cG12_0 cG12_1) | (go_at_call 50; (with_reducible refine (clip_Ring_1.calls (rd_T25 l (j : Int)).f0 (rd_T25 l (j : Int)).f1 g8 v8 acc 3 2 S rfl rfl (by decide) ?hl).mono ?_); (case hl => first | omega | (simp; omega)); rintro e w15 ⟨rfl, v15, hS⟩; replace S : Sep w w15 [Box _ g12 25 #[.int .i64 (rd_T25 l (((j : Int) + 1) % (l.length : Int))).f0, .int .i64 (rd_T25 l (((j : Int) + 1) % (l.length : Int))).f1], Box _ g11 25 #[.int .i64 (rd_T25 l (j : Int)).f0, .int .i64 (rd_T25 l (j : Int)).f1], Own _ k25 25 v15 (acc ++ [⟨(rd_T25 l (j : Int)).f0, (rd_T25 l (j : Int)).f1⟩]), Box _ g8 30 #[v15], Box _ g7 62 #[.bool (clip_hs b0 b1 b2 b3 i).1, .bool (clip_hs b0 b1 b2 b3 i).2.1, .int .i64 (clip_hs b0 b1 b2 b3 i).2.2], Src w k25 25 (.slice (some ad1) l.length c5) l] := hS; clear hS; have cG7_0 := blk_cell (S.at_box 4 rfl) 0; have cG7_1 := blk_cell (S.at_box 4 rfl) 1; have cG7_2 := blk_cell (S.at_box 4 rfl) 2; have cG11_0 := blk_cell (S.at_box 1 rfl) 0; have cG11_1 := blk_cell (S.at_box 1 rfl) 1; have cG12_0 := blk_cell (S.at_box 0 rfl) 0; have cG12_1 := blk_cell (S.at_box 0 rfl) 1; simp only [List.getElem?_toArray, List.getElem?_cons_zero, List.getElem?_cons_succ] at cG7_0 cG7_1 cG7_2 cG11_0 cG11_1 cG12_0 cG12_1) | (go_at_call 51; (with_reducible refine (clip_half_has.calls (clip_hs b0 b1 b2 b3 i).1 (clip_hs b0 b1 b2 b3 i).2.1 (clip_hs b0 b1 b2 b3 i).2.2 (rd_T25 l (((j : Int) + 1) % (l.length : Int))).f0 (rd_T25 l (((j : Int) + 1) % (l.length : Int))).f1 _ _ HCC.out).mono ?_); rintro e w16 ⟨rfl, hb⟩; replace S := S.step hb; clear hb; have cG7_0 := blk_cell (S.at_box 4 rfl) 0; have cG7_1 := blk_cell (S.at_box 4 rfl) 1; have cG7_2 := blk_cell (S.at_box 4 rfl) 2; have cG11_0 := blk_cell (S.at_box 1 rfl) 0; have cG11_1 := blk_cell (S.at_box 1 rfl) 1; have cG12_0 := blk_cell (S.at_box 0 rfl) 0; have cG12_1 := blk_cell (S.at_box 0 rfl) 1; simp only [List.getElem?_toArray, List.getElem?_cons_zero, List.getElem?_cons_succ] at cG7_0 cG7_1 cG7_2 cG11_0 cG11_1 cG12_0 cG12_1) | (go_at_call 52; (with_reducible refine (clip_half_border.calls kk (clip_hs b0 b1 b2 b3 i).1 (clip_hs b0 b1 b2 b3 i).2.1 (clip_hs b0 b1 b2 b3 i).2.2 (rd_T25 l (j : Int)).f0 (rd_T25 l (j : Int)).f1 (rd_T25 l (((j : Int) + 1) % (l.length : Int))).f0 (rd_T25 l (((j : Int) + 1) % (l.length : Int))).f1 r1 r2 _ HBD.out).mono ?_); rintro e w17 ⟨rfl, hb⟩; replace S := S.step hb; clear hb) | (go_at_call 50; (with_reducible refine (clip_Ring_1.calls r1 r2 g8 v15 (acc ++ [⟨(rd_T25 l (j : Int)).f0, (rd_T25 l (j : Int)).f1⟩]) 3 2 S rfl rfl (by decide) ?hl).mono ?_); (case hl => first | omega | (simp; omega)); rintro e w18 ⟨rfl, v18, hS⟩; replace S : Sep w w18 [Box _ g12 25 #[.int .i64 (rd_T25 l (((j : Int) + 1) % (l.length : Int))).f0, .int .i64 (rd_T25 l (((j : Int) + 1) % (l.length : Int))).f1], Box _ g11 25 #[.int .i64 (rd_T25 l (j : Int)).f0, .int .i64 (rd_T25 l (j : Int)).f1], Own _ k25 25 v18 ((acc ++ [⟨(rd_T25 l (j : Int)).f0, (rd_T25 l (j : Int)).f1⟩]) ++ [⟨r1, r2⟩]), Box _ g8 30 #[v18], Box _ g7 62 #[.bool (clip_hs b0 b1 b2 b3 i).1, .bool (clip_hs b0 b1 b2 b3 i).2.1, .int .i64 (clip_hs b0 b1 b2 b3 i).2.2], Src w k25 25 (.slice (some ad1) l.length c5) l] := hS; clear hS; have cG7_0 := blk_cell (S.at_box 4 rfl) 0; have cG7_1 := blk_cell (S.at_box 4 rfl) 1; have cG7_2 := blk_cell (S.at_box 4 rfl) 2; have cG11_0 := blk_cell (S.at_box 1 rfl) 0; have cG11_1 := blk_cell (S.at_box 1 rfl) 1; have cG12_0 := blk_cell (S.at_box 0 rfl) 0; have cG12_1 := blk_cell (S.at_box 0 rfl) 1; simp only [List.getElem?_toArray, List.getElem?_cons_zero, List.getElem?_cons_succ] at cG7_0 cG7_1 cG7_2 cG11_0 cG11_1 cG12_0 cG12_1))
         go_roundg kk
         case measure => omega
         case rel => exact ⟨j + 1, _, _, by go_num, by omega, ⟨Option.bind_eq_some_iff.mpr ⟨l', HH2.out, HREST.out⟩⟩, (S.drop 0).drop 0⟩
        ·-- true true
         have HH2 := Aside0.mk (show clip_Ring.side kk (clip_hs b0 b1 b2 b3 i) l (j + 1) (acc ++ [⟨(rd_T25 l (j : Int)).f0, (rd_T25 l (j : Int)).f1⟩]) = some l' from by simpa using HH.out)
         clear HH
         go_wp2_with (first | ((with_reducible refine gate_dst (N := 11) rfl ?_); refine box_event ?hg (N := 11) ?hd (cs := #[.int .i64 0, .int .i64 0]) (t := 25) ?hr ?_; (case hd => rfl); (case hg => rfl); (case hr => first | (go_simp; done) | (go_simp; rfl)); intro g11 hg w11 hbox hb; replace S := (S).box hg hbox hb; clear hbox hb hg; have cz0 := blk_cell (S.at_box 0 rfl) 0; have fz0 := blk_frozen (S.at_box 0 rfl) 0; have cz1 := blk_cell (S.at_box 0 rfl) 1; have fz1 := blk_frozen (S.at_box 0 rfl) 1; simp only [List.getElem?_toArray, List.getElem?_cons_zero, List.getElem?_cons_succ] at cz0 cz1; replace S : Sep w ((w11.setCell ⟨g11, 0, none⟩ (.int .i64 (rd_T25 l (j : Int)).f0)).setCell ⟨g11, 1, none⟩ (.int .i64 (rd_T25 l (j : Int)).f1)) [Box _ g11 25 #[.int .i64 (rd_T25 l (j : Int)).f0, .int .i64 (rd_T25 l (j : Int)).f1], Own _ k25 25 v8 acc, Box _ g8 30 #[v8], Box _ g7 62 #[.bool (clip_hs b0 b1 b2 b3 i).1, .bool (clip_hs b0 b1 b2 b3 i).2.1, .int .i64 (clip_hs b0 b1 b2 b3 i).2.2], Src w k25 25 (.slice (some ad1) l.length c5) l] := ((S).set 0 rfl 0 (.int .i64 (rd_T25 l (j : Int)).f0)).set 0 rfl 1 (.int .i64 (rd_T25 l (j : Int)).f1); obtain ⟨ad2, e2, hx2_0, hx2_1⟩ := at_T25 (S.src_C 4 rfl) (((j : Int) + 1) % (l.length : Int)) HQ.out.1 HQ.out.2.1; obtain rfl := Option.some.inj e2; rw [HQ.out.2.2] at hx2_0 hx2_1) | ((with_reducible refine gate_dst (N := 12) rfl ?_); refine box_event ?hg (N := 12) ?hd (cs := #[.int .i64 0, .int .i64 0]) (t := 25) ?hr ?_; (case hd => rfl); (case hg => rfl); (case hr => first | (go_simp; done) | (go_simp; rfl)); intro g12 hg w12 hbox hb; replace S := (S).box hg hbox hb; clear hbox hb hg; have cz0 := blk_cell (S.at_box 0 rfl) 0; have fz0 := blk_frozen (S.at_box 0 rfl) 0; have cz1 := blk_cell (S.at_box 0 rfl) 1; have fz1 := blk_frozen (S.at_box 0 rfl) 1; simp only [List.getElem?_toArray, List.getElem?_cons_zero, List.getElem?_cons_succ] at cz0 cz1; replace S : Sep w ((w12.setCell ⟨g12, 0, none⟩ (.int .i64 (rd_T25 l (((j : Int) + 1) % (l.length : Int))).f0)).setCell ⟨g12, 1, none⟩ (.int .i64 (rd_T25 l (((j : Int) + 1) % (l.length : Int))).f1)) [Box _ g12 25 #[.int .i64 (rd_T25 l (((j : Int) + 1) % (l.length : Int))).f0, .int .i64 (rd_T25 l (((j : Int) + 1) % (l.length : Int))).f1], Box _ g11 25 #[.int .i64 (rd_T25 l (j : Int)).f0, .int .i64 (rd_T25 l (j : Int)).f1], Own _ k25 25 v8 acc, Box _ g8 30 #[v8], Box _ g7 62 #[.bool (clip_hs b0 b1 b2 b3 i).1, .bool (clip_hs b0 b1 b2 b3 i).2.1, .int .i64 (clip_hs b0 b1 b2 b3 i).2.2], Src w k25 25 (.slice (some ad1) l.length c5) l] := ((S).set 0 rfl 0 (.int .i64 (rd_T25 l (((j : Int) + 1) % (l.length : Int))).f0)).set 0 rfl 1 (.int .i64 (rd_T25 l (((j : Int) + 1) % (l.length : Int))).f1); have cg7_0 := blk_cell (S.at_box 4 rfl) 0; have cg7_1 := blk_cell (S.at_box 4 rfl) 1; have cg7_2 := blk_cell (S.at_box 4 rfl) 2; have cg11_0 := blk_cell (S.at_box 1 rfl) 0; have cg11_1 := blk_cell (S.at_box 1 rfl) 1; simp only [List.getElem?_toArray, List.getElem?_cons_zero, List.getElem?_cons_succ] at cg7_0 cg7_1 cg7_2 cg11_0 cg11_1) | (go_at_call 51; (with_reducible refine (clip_half_has.calls (clip_hs b0 b1 b2 b3 i).1 (clip_hs b0 b1 b2 b3 i).2.1 (clip_hs b0 b1 b2 b3 i).2.2 (rd_T25 l (j : Int)).f0 (rd_T25 l (j : Int)).f1 _ _ HA.out).mono ?_); rintro e w13 ⟨rfl, hb⟩; replace S := S.step hb; clear hb; have cG7_0 := blk_cell (S.at_box 4 rfl) 0; have cG7_1 := blk_cell (S.at_box 4 rfl) 1; have cG7_2 := blk_cell (S.at_box 4 rfl) 2; have cG11_0 := blk_cell (S.at_box 1 rfl) 0; have cG11_1 := blk_cell (S.at_box 1 rfl) 1; have cG12_0 := blk_cell (S.at_box 0 rfl) 0; have cG12_1 := blk_cell (S.at_box 0 rfl) 1; simp only [List.getElem?_toArray, List.getElem?_cons_zero, List.getElem?_cons_succ] at cG7_0 cG7_1 cG7_2 cG11_0 cG11_1 cG12_0 cG12_1) | (go_at_call 50; (with_reducible refine (clip_Ring_1.calls (rd_T25 l (j : Int)).f0 (rd_T25 l (j : Int)).f1 g8 v8 acc 3 2 S rfl rfl (by decide) ?hl).mono ?_); (case hl => first | omega | (simp; omega)); rintro e w15 ⟨rfl, v15, hS⟩; replace S : Sep w w15 [Box _ g12 25 #[.int .i64 (rd_T25 l (((j : Int) + 1) % (l.length : Int))).f0, .int .i64 (rd_T25 l (((j : Int) + 1) % (l.length : Int))).f1], Box _ g11 25 #[.int .i64 (rd_T25 l (j : Int)).f0, .int .i64 (rd_T25 l (j : Int)).f1], Own _ k25 25 v15 (acc ++ [⟨(rd_T25 l (j : Int)).f0, (rd_T25 l (j : Int)).f1⟩]), Box _ g8 30 #[v15], Box _ g7 62 #[.bool (clip_hs b0 b1 b2 b3 i).1, .bool (clip_hs b0 b1 b2 b3 i).2.1, .int .i64 (clip_hs b0 b1 b2 b3 i).2.2], Src w k25 25 (.slice (some ad1) l.length c5) l] := hS; clear hS; have cG7_0 := blk_cell (S.at_box 4 rfl) 0; have cG7_1 := blk_cell (S.at_box 4 rfl) 1; have cG7_2 := blk_cell (S.at_box 4 rfl) 2; have cG11_0 := blk_cell (S.at_box 1 rfl) 0; have cG11_1 := blk_cell (S.at_box 1 rfl) 1; have cG12_0 := blk_cell (S.at_box 0 rfl) 0; have cG12_1 := blk_cell (S.at_box 0 rfl) 1; simp only [List.getElem?_toArray, List.getElem?_cons_zero, List.getElem?_cons_succ] at cG7_0 cG7_1 cG7_2 cG11_0 cG11_1 cG12_0 cG12_1) | (go_at_call 51; (with_reducible refine (clip_half_has.calls (clip_hs b0 b1 b2 b3 i).1 (clip_hs b0 b1 b2 b3 i).2.1 (clip_hs b0 b1 b2 b3 i).2.2 (rd_T25 l (((j : Int) + 1) % (l.length : Int))).f0 (rd_T25 l (((j : Int) + 1) % (l.length : Int))).f1 _ _ HCC.out).mono ?_); rintro e w16 ⟨rfl, hb⟩; replace S := S.step hb; clear hb; have cG7_0 := blk_cell (S.at_box 4 rfl) 0; have cG7_1 := blk_cell (S.at_box 4 rfl) 1; have cG7_2 := blk_cell (S.at_box 4 rfl) 2; have cG11_0 := blk_cell (S.at_box 1 rfl) 0; have cG11_1 := blk_cell (S.at_box 1 rfl) 1; have cG12_0 := blk_cell (S.at_box 0 rfl) 0; have cG12_1 := blk_cell (S.at_box 0 rfl) 1; simp only [List.getElem?_toArray, List.getElem?_cons_zero, List.getElem?_cons_succ] at cG7_0 cG7_1 cG7_2 cG11_0 cG11_1 cG12_0 cG12_1))
         go_roundg kk
         case measure => omega
         case rel => exact ⟨j + 1, _, _, by go_num, by omega, ⟨Option.bind_eq_some_iff.mpr ⟨l', HH2.out, HREST.out⟩⟩, (S.drop 0).drop 0⟩
       ·rw [if_neg hacc] at h
        exact absurd h (by simp)
      ·have H2 := Aside0.mk (show clip_Ring.rest k b0 b1 b2 b3 n acc = some r by
        have h := H.out
        rw [clip_Ring.side, if_neg hj] at h
        exact h)
       clear H
       have c8 := blk_cell (S.at_box 1 rfl) 0
       simp only [List.getElem?_toArray, List.getElem?_cons_zero] at c8
       go_wp2
       go_roundg n
       case measure => omega
       case rel => exact ⟨i + 1, acc, by go_num, by omega, by omega, H2, (((S.to_src 0 rfl).drop 1).drop 1).drop 1⟩

theorem clip_Ring.side_mono : ∀ k h l i acc, LeO (clip_Ring.side k h l i acc) (clip_Ring.side (k + 1) h l i acc)
 | 0, _, _, _, _ => fun r h => by simp [clip_Ring.side] at h
 | k + 1, h, l, i, acc => by
  have ih := clip_Ring.side_mono k
  unfold clip_Ring.side
  repeat' first
   | exact ih _ _ _ _
   | exact clip_half_border.mono _ _ _ _ _ _ _ _
   | exact LeO.refl _
   | exact LeO.none _
   | refine LeO.ite ?_ ?_
   | refine LeO.bind ?_ (fun _ => ?_)
theorem clip_Ring.rest_mono (b0 b1 b2 b3 : Int) : ∀ n l k, LeO (clip_Ring.rest k b0 b1 b2 b3 n l) (clip_Ring.rest (k + 1) b0 b1 b2 b3 n l)
 | 0, l, k => by
  unfold clip_Ring.rest
  exact LeO.bind (clip_TidyRing.mono _ _) (fun _ => LeO.bind (clip_area2.mono _ _) (fun _ => LeO.refl _))
 | n + 1, l, k => by
  unfold clip_Ring.rest
  exact LeO.bind (clip_Ring.side_mono _ _ _ _ _) (fun _ => clip_Ring.rest_mono b0 b1 b2 b3 n _ _)
theorem clip_Ring.mono : ∀ a0 a1 a2 a3 a4 k, LeO (clip_Ring.f k a0 a1 a2 a3 a4) (clip_Ring.f (k + 1) a0 a1 a2 a3 a4) := by
 intro a0 a1 a2 a3 a4 k
 unfold clip_Ring.f
 refine LeO.bind (clip_permitted.mono _ _ _ _ _ _) (fun _ => LeO.ite (clip_Ring.rest_mono _ _ _ _ _ _ _) (LeO.refl _))


end Go.Proofs.Ytdkegdnfbpobnaa.PARS
