-- Out of the translation and of texts of our own, merged (wip/gen/pack.py): what the row names and no more.
import Derived.Sort.Grow
import Derived.Shelf.SlSortCmp.QuietGrown
import Derived.WalkMore
import Derived.ScopeJumps
import Derived.Lib.SliceRun
import Derived.Shelf.Small.Bits
import Derived.Ground.SlgnProg
import Derived.Shelf.SlicesE.Clone
import Derived.Ground.SlsfProg
import Derived.Shelf.SlSortCmp.WholeK
import Derived.Shelf.SlSortCmp.NoneTotal
import Derived.Test.YtjpkkdnilfoafaaProg
import Derived.Test.YtjpkkdnilfoafaaFaP1
import Derived.Test.YtjpkkdnilfoafaaFaP2
section
namespace Go.Proofs.Ytjpkkdnilfoafaa.Hand
open Go.RowKit Go.Proofs.YtjpkkdnilfoafaaW.PrintWords Go.Proofs.YtjpkkdnilfoafaaW.PrintLast Go.Proofs.YtjpkkdnilfoafaaW.PrintMore Go.Proofs.YtjpkkdnilfoafaaW.SepW Go.Proofs.Ytjpkkdnilfoafaa.PALL
set_option linter.unusedVariables false
set_option linter.unusedSimpArgs false
/-- A world grown by draws and by blocks of its own. -/
theorem info57 : (Try.prog.info? 57).map (fun i => (i.zero, i.size, i.bytes)) = some (some (.agg #[(.int .i64 0), (.int .i64 0), (.int .i64 0), (.int .i64 0)]), 4, 32) := by kernel_rfl
theorem info61 : (Try.prog.info? 61).map (fun i => (i.zero, i.size, i.bytes)) = some (some (.agg #[(.int .i64 0), (.int .i64 0), (.int .i64 0), (.int .i64 0), (.int .i64 0), (.int .i64 0)]), 6, 48) := by kernel_rfl
theorem info85 : (Try.prog.info? 85).map (fun i => (i.zero, i.size, i.bytes)) = some (some (.slice none 0 0), 1, 24) := by kernel_rfl
def Gr (w w' : World) : Prop := ∃ q os, w' = Go.Sort.grow (w.drewN q) os
theorem Gr.refl (w : World) : Gr w w := ⟨0, #[], by rw [Go.Sort.grow_empty]; rfl⟩
theorem Gr.trans {a b c : World} (h : Gr a b) (k : Gr b c) : Gr a c := by
  obtain ⟨q, os, rfl⟩ := h
  obtain ⟨q', os', rfl⟩ := k
  exact ⟨q + q', os ++ os', by show Go.Sort.grow (Go.Sort.grow ((a.drewN q).drewN q') os) os' = _; rw [Go.Sort.grow_grow, World.drewN_drewN]⟩
theorem Gr.alloc {a b : World} (h : Gr a b) (o : Obj) : Gr a (b.alloc o) := h.trans ⟨0, #[o], by rw [Go.Sort.alloc_eq_grow]; rfl⟩
theorem Gr.drewN {a b : World} (h : Gr a b) (n : Nat) : Gr a (b.drewN n) := h.trans ⟨n, #[], by rw [Go.Sort.grow_empty]⟩
theorem Gr.drew {a b : World} (h : Gr a b) : Gr a b.drew := h.drewN 1
theorem Gr.below {a b : World} (h : Gr a b) : Below a.heap.size a b := by
  obtain ⟨q, os, rfl⟩ := h
  exact ⟨rfl, rfl, rfl, by simp, fun k hk => Go.Sort.heap_grow_old _ _ hk⟩
set_option maxHeartbeats 4000000 in
set_option maxRecDepth 100000 in
theorem valid_gr (x y : Int) (w : World) :
    Calls Try.prog 28 #[.agg #[.int .i64 x, .int .i64 y]] w fun e w' => e = .returned (.bool (decide (0 ≤ x ∧ x < 32768 ∧ 0 ≤ y ∧ y < 32768))) ∧ Gr w w' := by
  have hu84 := Try.underlying29
  have hG : ∀ n : Nat, Gr w ((w.alloc (.cells #[.int .i64 x, .int .i64 y] 29)).drewN n) := fun n => ((Gr.refl w).alloc _).drewN n
  by_cases h0 : 0 ≤ x
  · have e0 : decide (0 ≤ x) = true := decide_eq_true h0
    by_cases h1 : x < 32768
    · have e1 : decide (x < 32768) = true := decide_eq_true h1
      by_cases h2 : 0 ≤ y
      · have e2 : decide (0 ≤ y) = true := decide_eq_true h2
        by_cases h3 : y < 32768
        · have e3 : decide (y < 32768) = true := decide_eq_true h3
          go_enter Try.func28, Try.ntmps28
          go_wp2
          go_ret
          exact ⟨by rw [decide_eq_true (show 0 ≤ x ∧ x < 32768 ∧ 0 ≤ y ∧ y < 32768 from ⟨h0, h1, h2, h3⟩)]; rfl, (Gr.refl w).alloc _⟩
        · have e3 : decide (y < 32768) = false := decide_eq_false h3
          have en : decide (0 ≤ x ∧ x < 32768 ∧ 0 ≤ y ∧ y < 32768) = false := decide_eq_false (fun h => h3 h.2.2.2)
          rw [en]
          clear en
          go_enter Try.func28, Try.ntmps28
          go_wp2
          go_ret
          exact ⟨rfl, (Gr.refl w).alloc _⟩
      · have e2 : decide (0 ≤ y) = false := decide_eq_false h2
        have en : decide (0 ≤ x ∧ x < 32768 ∧ 0 ≤ y ∧ y < 32768) = false := decide_eq_false (fun h => h2 h.2.2.1)
        rw [en]
        clear en
        go_enter Try.func28, Try.ntmps28
        go_wp2
        go_ret
        exact ⟨rfl, (Gr.refl w).alloc _⟩
    · have e1 : decide (x < 32768) = false := decide_eq_false h1
      have en : decide (0 ≤ x ∧ x < 32768 ∧ 0 ≤ y ∧ y < 32768) = false := decide_eq_false (fun h => h1 h.2.1)
      rw [en]
      clear en
      go_enter Try.func28, Try.ntmps28
      go_wp2
      go_ret
      exact ⟨rfl, (Gr.refl w).alloc _⟩
  · have e0 : decide (0 ≤ x) = false := decide_eq_false h0
    have en : decide (0 ≤ x ∧ x < 32768 ∧ 0 ≤ y ∧ y < 32768) = false := decide_eq_false (fun h => h0 h.1)
    rw [en]
    clear en
    go_enter Try.func28, Try.ntmps28
    go_wp2
    go_ret
    exact ⟨rfl, (Gr.refl w).alloc _⟩
set_option maxHeartbeats 4000000 in
set_option maxRecDepth 100000 in
theorem isNaN_ct (x : Int) (w : World) : Calls Try.prog 61 #[.int .i64 x] w fun e w' => e = .returned (.bool false) ∧ w' = w := by
  have h : (x != x) = false := by simp
  go_enter Try.func61, Try.ntmps61
  go_wp2
  go_ret
  exact ⟨rfl, rfl⟩
/-- cmp.Compare at two integers. -/
def cmpI (x y : Int) : Int := if x < y then -1 else if y < x then 1 else 0
set_option maxHeartbeats 4000000 in
set_option maxRecDepth 100000 in
theorem cmp_ct (x y : Int) (w : World) : Calls Try.prog 45 #[.int .i64 x, .int .i64 y] w fun e w' => e = .returned (.int .i64 (cmpI x y)) ∧ w' = w := by
  unfold cmpI
  by_cases h1 : x < y
  · rw [if_pos h1]
    have e1 : decide (x < y) = true := decide_eq_true h1
    go_enter Try.func45, Try.ntmps45
    go_wp2_with (go_at_call 61; refine (isNaN_ct _ _).mono ?_; rintro e_ w_ ⟨rfl, rfl⟩)
    go_ret
    exact ⟨rfl, rfl⟩
  · rw [if_neg h1]
    have e1 : decide (x < y) = false := decide_eq_false h1
    by_cases h2 : y < x
    · rw [if_pos h2]
      have e2 : decide (y < x) = true := decide_eq_true h2
      go_enter Try.func45, Try.ntmps45
      go_wp2_with (go_at_call 61; refine (isNaN_ct _ _).mono ?_; rintro e_ w_ ⟨rfl, rfl⟩)
      go_ret
      exact ⟨rfl, rfl⟩
    · rw [if_neg h2]
      have e2 : decide (y < x) = false := decide_eq_false h2
      go_enter Try.func45, Try.ntmps45
      go_wp2_with (go_at_call 61; refine (isNaN_ct _ _).mono ?_; rintro e_ w_ ⟨rfl, rfl⟩)
      go_ret
      exact ⟨rfl, rfl⟩
/-- cmp.Or of two. -/
def orI (a b : Int) : Int := if a = 0 then b else a
set_option maxHeartbeats 4000000 in
set_option maxRecDepth 100000 in
theorem or_ct (a b : Int) (g : Nat) (w : World) (h0 : w.cell? ⟨g, 0, none⟩ = some (.int .i64 a)) (h1 : w.cell? ⟨g, 1, none⟩ = some (.int .i64 b)) :
    Calls Try.prog 44 #[.slice (some ⟨g, 0, none⟩) 2 2] w fun e w' => e = .returned (.int .i64 (orI a b)) ∧ w' = w := by
  unfold orI
  by_cases ha : a = 0
  · rw [if_pos ha]
    subst ha
    by_cases hb : b = 0
    · subst hb
      go_enter Try.func44, Try.ntmps44
      go_wp2
      refine wp_loop_rounds 3 ?_
      rw [rounds_succ]
      go_wp2
      rw [rounds_succ]
      go_wp2
      rw [rounds_succ]
      go_wp2
      go_ret
      exact ⟨rfl, rfl⟩
    · have e1 : (b != 0) = true := by simpa using hb
      go_enter Try.func44, Try.ntmps44
      go_wp2
      refine wp_loop_rounds 2 ?_
      rw [rounds_succ]
      go_wp2
      rw [rounds_succ]
      go_wp2
      go_ret
      exact ⟨rfl, rfl⟩
  · rw [if_neg ha]
    have e1 : (a != 0) = true := by simpa using ha
    go_enter Try.func44, Try.ntmps44
    go_wp2
    refine wp_loop_rounds 1 ?_
    rw [rounds_succ]
    go_wp2
    go_ret
    exact ⟨rfl, rfl⟩
theorem wp_gr {c : Code} {Q : Exit → Act → World → Prop} {a : Act} {w0 w : World} (F : World → Prop) (G : Gr w0 w) (hF : F w) (h : ∀ W, Gr w0 W → F W → c.wp Try.prog Q a W) : c.wp Try.prog Q a w := h w G hF
/-- rtree.compare. -/
def cmpR (a b : S23) : Int := orI (cmpI a.f0 b.f0) (cmpI a.f1 b.f1)
theorem cell_old {w : World} {a : Addr} {v : Value} (o : Obj) (h : w.cell? a = some v) (hlt : a.block < w.heap.size) : (w.alloc o).cell? a = some v := by rw [← h]; exact World.cell?_alloc_lt _ _ _ hlt
theorem two_cells (w : World) (t : TypeId) (c d : Value) : (w.alloc (.cells #[c, d] t)).cell? ⟨w.heap.size, 0, none⟩ = some c ∧ (w.alloc (.cells #[c, d] t)).cell? ⟨w.heap.size, 1, none⟩ = some d :=
  ⟨(blk_cell (blk_new w _) 0).trans rfl, (blk_cell (blk_new w _) 1).trans rfl⟩
set_option maxHeartbeats 4000000 in
set_option maxRecDepth 100000 in
theorem compare_gr (a b : S23) (w : World) :
    Calls Try.prog 40 #[.agg #[.int .i64 a.f0, .int .i64 a.f1], .agg #[.int .i64 b.f0, .int .i64 b.f1]] w fun e w' => e = .returned (.int .i64 (cmpR a b)) ∧ Gr w w' := by
  have hu49 := Try.underlying23
  obtain ⟨a0, a1⟩ := a
  obtain ⟨b0, b1⟩ := b
  unfold cmpR
  dsimp only
  go_enter Try.func40, Try.ntmps40
  go_upto_region 1 with fail
  have t0 := two_cells w 23 (.int .i64 a0) (.int .i64 a1)
  have t1 := two_cells (w.alloc (.cells #[.int .i64 a0, .int .i64 a1] 23)) 23 (.int .i64 b0) (.int .i64 b1)
  rw [World.size_alloc] at t1
  refine wp_gr (fun W => W.cell? ⟨w.heap.size, 0, none⟩ = some (.int .i64 a0) ∧ W.cell? ⟨w.heap.size, 1, none⟩ = some (.int .i64 a1) ∧ W.cell? ⟨w.heap.size + 1, 0, none⟩ = some (.int .i64 b0) ∧ W.cell? ⟨w.heap.size + 1, 1, none⟩ = some (.int .i64 b1)) (((Gr.refl w).alloc _).alloc _) ⟨cell_old _ t0.1 (by simp), cell_old _ t0.2 (by simp), t1.1, t1.2⟩ (fun W G hF => ?_)
  clear t0 t1
  generalize w.heap.size = g at hF ⊢
  obtain ⟨k0, k1, k2, k3⟩ := hF
  go_region_held3 (fun w' => w'.cell? ⟨g, 0, none⟩ = some (.int .i64 a0) ∧ w'.cell? ⟨g, 1, none⟩ = some (.int .i64 a1) ∧ w'.cell? ⟨g + 1, 0, none⟩ = some (.int .i64 b0) ∧ w'.cell? ⟨g + 1, 1, none⟩ = some (.int .i64 b1)) (first | assumption | go_keep) (first | (go_at_call 45; have X_ := cmp_ct a0 b0 W.drew; (with_reducible refine X_.mono ?_); clear X_; rintro e_ w_ ⟨rfl, rfl⟩) | (go_at_call 45; have X_ := cmp_ct a1 b1 W.drew; (with_reducible refine X_.mono ?_); clear X_; rintro e_ w_ ⟨rfl, rfl⟩) | (go_at_call 44; have tt_ := two_cells W 3 (.int .i64 (cmpI a0 b0)) (.int .i64 (cmpI a1 b1)); have X_ := or_ct (cmpI a0 b0) (cmpI a1 b1) W.heap.size (W.alloc (.cells #[.int .i64 (cmpI a0 b0), .int .i64 (cmpI a1 b1)] 3)).drew tt_.1 tt_.2; (with_reducible refine X_.mono ?_); clear X_ tt_; rintro e_ w_ ⟨rfl, rfl⟩))
  all_goals go_wp2
  all_goals go_ret
  all_goals exact ⟨rfl, (G.alloc _).drew⟩
/-- The Hilbert index, from half 2^k on. -/
def hil : Nat → Int → Int → Int → Int
  | 0, _, _, c => c
  | k + 1, x, y, c => if x < 2 ^ k then (if y < 2 ^ k then hil k y x (4 * c) else hil k x (y - 2 ^ k) (4 * c + 1)) else (if y < 2 ^ k then hil k (2 ^ k - 1 - y) (2 * 2 ^ k - 1 - x) (4 * c + 3) else hil k (x - 2 ^ k) (y - 2 ^ k) (4 * c + 2))
def hilI (x y : Int) : Int := if 0 ≤ x ∧ x < 32768 ∧ 0 ≤ y ∧ y < 32768 then hil 15 x y 0 else -1
theorem hil_ff {k : Nat} {x y c : Int} (hx : x < 2 ^ k) (hy : y < 2 ^ k) : hil (k + 1) x y c = hil k y x (4 * c) := by rw [hil, if_pos hx, if_pos hy]
theorem hil_ft {k : Nat} {x y c : Int} (hx : x < 2 ^ k) (hy : ¬ y < 2 ^ k) : hil (k + 1) x y c = hil k x (y - 2 ^ k) (4 * c + 1) := by rw [hil, if_pos hx, if_neg hy]
theorem hil_tf {k : Nat} {x y c : Int} (hx : ¬ x < 2 ^ k) (hy : y < 2 ^ k) : hil (k + 1) x y c = hil k (2 ^ k - 1 - y) (2 * 2 ^ k - 1 - x) (4 * c + 3) := by rw [hil, if_neg hx, if_pos hy]
theorem hil_tt {k : Nat} {x y c : Int} (hx : ¬ x < 2 ^ k) (hy : ¬ y < 2 ^ k) : hil (k + 1) x y c = hil k (x - 2 ^ k) (y - 2 ^ k) (4 * c + 2) := by rw [hil, if_neg hx, if_neg hy]
theorem four_le : ∀ k ≤ 14, (4 : Int) ^ (14 - k) ≤ 268435456 := by decide
theorem two_le : ∀ m ≤ 13, (2 : Int) ^ m ≤ 8192 := by decide
theorem four_step {m : Nat} (h : m + 1 ≤ 14) : (4 : Int) ^ (14 - m) = 4 ^ (14 - (m + 1)) * 4 := by rw [show 14 - m = (14 - (m + 1)) + 1 by omega, Int.pow_succ]
theorem w_in (n : Int) (h : -4611686018427387904 ≤ n ∧ n ≤ 4611686018427387904) : Aside0 (wrap64 n = n) := ⟨IntWalk.wrap64_in n (by omega)⟩
theorem div_one_of {x h : Int} (h1 : h ≤ x) (h2 : x < 2 * h) : x / h = 1 := by
  rw [show x = h * 1 + (x - h) by omega, Int.mul_add_ediv_left _ _ (by omega), Int.ediv_eq_zero_of_lt (by omega) (by omega)]; rfl
theorem quarter_ct (a b : Bool) (w : World) : Calls Try.prog 87 #[.int .i64 (if a then 1 else 0), .int .i64 (if b then 1 else 0)] w fun e w' => e = .returned (.int .i64 (if a then (if b then 2 else 3) else (if b then 1 else 0))) ∧ ∃ n, w' = w.drewN n :=
  (hilbert_quarter.calls _ _ _ w (by cases a <;> cases b <;> rfl)).mono fun _ _ h => ⟨h.1, h.2.out⟩
/-- At the label. -/
def JH (w0 : World) (x0 y0 : Int) (a : Act) (w : World) : Prop := ∃ (k : Nat) (x y at' h : Int) (p1 r2 q7 j8 j9 j10 j11 j12 j13 j14 j15 j16 j17 j18 j19 j20 j21 j22 j23 j24 j25 j26 j27 j28 j29 j30 j31 j32 j33 j34 j35 j36 j37 j38 j39 j40 j41 j42 j43 j44 j45 j46 j47 j48 j49 j50 j51 j52 j53 j54 j55 j56 j57 j58 j59 : Value), Aside0 (Gr w0 w) ∧ Aside0 (h = 2 ^ k ∧ k ≤ 14 ∧ 0 ≤ x ∧ x < 2 * h ∧ 0 ≤ y ∧ y < 2 * h ∧ 0 ≤ at' ∧ at' < 4 ^ (14 - k) ∧ hil (k + 1) x y at' = hil 15 x0 y0 0) ∧ a = { tmps := #[.agg #[.int .i64 x0, .int .i64 y0], p1, r2, .int .i64 x, .int .i64 y, .int .i64 at', .int .i64 h, q7, j8, j9, j10, j11, j12, j13, j14, j15, j16, j17, j18, j19, j20, j21, j22, j23, j24, j25, j26, j27, j28, j29, j30, j31, j32, j33, j34, j35, j36, j37, j38, j39, j40, j41, j42, j43, j44, j45, j46, j47, j48, j49, j50, j51, j52, j53, j54, j55, j56, j57, j58, j59], defers := [] }
def MH (a : Act) (w : World) : Nat := intOf (a.tmps.getD 6 undef) |>.toNat
set_option maxHeartbeats 4000000 in
set_option maxRecDepth 100000 in
theorem index_gr (x0 y0 : Int) (w : World) :
    Calls Try.prog 62 #[.agg #[.int .i64 x0, .int .i64 y0]] w fun e w' => e = .returned (.int .i64 (hilI x0 y0)) ∧ Gr w w' := by
  have hu84 := Try.underlying29
  unfold hilI
  by_cases hv : 0 ≤ x0 ∧ x0 < 32768 ∧ 0 ≤ y0 ∧ y0 < 32768
  · rw [if_pos hv]
    have ev : decide (0 ≤ x0 ∧ x0 < 32768 ∧ 0 ≤ y0 ∧ y0 < 32768) = true := decide_eq_true hv
    have HV := Aside0.mk hv
    have hval := fun W => valid_gr x0 y0 W
    simp only [ev] at hval
    have HVAL := Aside0.mk hval
    clear hval ev hv
    go_enter Try.func62, Try.ntmps62
    go_wp2
    refine wp_scope_jumps 0 (JH w x0 y0) MH rfl ?_ ?_
    · go_upto_region 3 with (first | (go_at_call 28; refine (HVAL.out _).mono ?_; rintro e_ w_ ⟨rfl, hg⟩; have HG := Aside0.mk (((Gr.refl w).alloc _).trans hg); have tt_ := two_cells w 29 (.int .i64 x0) (.int .i64 y0); have k0 := (hg.below.cell (p := ⟨w.heap.size, 0, none⟩) (by simp)).trans tt_.1; have k1 := (hg.below.cell (p := ⟨w.heap.size, 1, none⟩) (by simp)).trans tt_.2; clear hg tt_) | fail)
      go_quiet (fail)
      go_wp2
      go_step3
      have w0 : IntKind.i64.wrap 0 = 0 := by decide
      have w1 : IntKind.i64.wrap 1 = 1 := by decide
      have HX := HV
      by_cases hx : x0 < 16384
      · have e0 : x0.tdiv 16384 = 0 := by have HX := HX.out; rw [Int.tdiv_eq_ediv_of_nonneg (by omega)]; omega
        by_cases hy : y0 < 16384
        · have e1 : y0.tdiv 16384 = 0 := by have HX := HX.out; rw [Int.tdiv_eq_ediv_of_nonneg (by omega)]; omega
          go_wp2
          refine wp_gr (fun _ => True) (HG.out.drewN nq) trivial (fun W HG1 _ => ?_)
          clear HG
          have HG := Aside0.mk HG1
          clear HG1
          clear k0 k1
          go_quiet ((go_at_call 87; exact Calls.quiet_of (quarter_ct false false _)))
          go_wp2
          go_step3
          refine ⟨rfl, 13, _, _, _, _, _, _, _, _, _, _, _, _, _, _, _, _, _, _, _, _, _, _, _, _, _, _, _, _, _, _, _, _, _, _, _, _, _, _, _, _, _, _, _, _, _, _, _, _, _, _, _, _, _, _, _, _, _, _, _, ⟨HG.out.drewN nq⟩, ⟨?_⟩, rfl⟩
          skip
          have := HX.out
          refine ⟨by decide, by decide, by omega, by omega, by omega, by omega, by decide, by decide, ?_⟩
          exact (hil_ff (k := 14) (c := 0) (by omega) (by omega)).symm
        · have e1 : y0.tdiv 16384 = 1 := by have HX := HX.out; rw [Int.tdiv_eq_ediv_of_nonneg (by omega)]; omega
          have v0 := w_in (y0 - 16384) (by have := HX.out; omega)
          have u0 := v0.out
          go_wp2
          refine wp_gr (fun _ => True) (HG.out.drewN nq) trivial (fun W HG1 _ => ?_)
          clear HG
          have HG := Aside0.mk HG1
          clear HG1
          clear k0 k1
          go_quiet ((go_at_call 87; exact Calls.quiet_of (quarter_ct false true _)))
          go_wp2
          clear u0
          go_step3
          refine ⟨rfl, 13, _, _, _, _, _, _, _, _, _, _, _, _, _, _, _, _, _, _, _, _, _, _, _, _, _, _, _, _, _, _, _, _, _, _, _, _, _, _, _, _, _, _, _, _, _, _, _, _, _, _, _, _, _, _, _, _, _, _, _, ⟨HG.out.drewN nq⟩, ⟨?_⟩, rfl⟩
          skip
          have := HX.out
          refine ⟨by decide, by decide, by omega, by omega, by omega, by omega, by decide, by decide, ?_⟩
          exact (hil_ft (k := 14) (c := 0) (by omega) (by omega)).symm
      · have e0 : x0.tdiv 16384 = 1 := by have HX := HX.out; rw [Int.tdiv_eq_ediv_of_nonneg (by omega)]; omega
        by_cases hy : y0 < 16384
        · have e1 : y0.tdiv 16384 = 0 := by have HX := HX.out; rw [Int.tdiv_eq_ediv_of_nonneg (by omega)]; omega
          have v0 := w_in (16383 - y0) (by have := HX.out; omega)
          have v1 := w_in (32767 - x0) (by have := HX.out; omega)
          have u0 := v0.out
          have u1 := v1.out
          go_wp2
          refine wp_gr (fun _ => True) (HG.out.drewN nq) trivial (fun W HG1 _ => ?_)
          clear HG
          have HG := Aside0.mk HG1
          clear HG1
          clear k0 k1
          go_quiet ((go_at_call 87; exact Calls.quiet_of (quarter_ct true false _)))
          go_wp2
          clear u0 u1
          go_step3
          refine ⟨rfl, 13, _, _, _, _, _, _, _, _, _, _, _, _, _, _, _, _, _, _, _, _, _, _, _, _, _, _, _, _, _, _, _, _, _, _, _, _, _, _, _, _, _, _, _, _, _, _, _, _, _, _, _, _, _, _, _, _, _, _, _, ⟨HG.out.drewN nq⟩, ⟨?_⟩, rfl⟩
          skip
          have := HX.out
          refine ⟨by decide, by decide, by omega, by omega, by omega, by omega, by decide, by decide, ?_⟩
          exact (hil_tf (k := 14) (c := 0) (by omega) (by omega)).symm
        · have e1 : y0.tdiv 16384 = 1 := by have HX := HX.out; rw [Int.tdiv_eq_ediv_of_nonneg (by omega)]; omega
          have v0 := w_in (x0 - 16384) (by have := HX.out; omega)
          have v1 := w_in (y0 - 16384) (by have := HX.out; omega)
          have u0 := v0.out
          have u1 := v1.out
          go_wp2
          refine wp_gr (fun _ => True) (HG.out.drewN nq) trivial (fun W HG1 _ => ?_)
          clear HG
          have HG := Aside0.mk HG1
          clear HG1
          clear k0 k1
          go_quiet ((go_at_call 87; exact Calls.quiet_of (quarter_ct true true _)))
          go_wp2
          clear u0 u1
          go_step3
          refine ⟨rfl, 13, _, _, _, _, _, _, _, _, _, _, _, _, _, _, _, _, _, _, _, _, _, _, _, _, _, _, _, _, _, _, _, _, _, _, _, _, _, _, _, _, _, _, _, _, _, _, _, _, _, _, _, _, _, _, _, _, _, _, _, ⟨HG.out.drewN nq⟩, ⟨?_⟩, rfl⟩
          try rw [v0.out, v1.out]
          have := HX.out
          refine ⟨by decide, by decide, by omega, by omega, by omega, by omega, by decide, by decide, ?_⟩
          exact (hil_tt (k := 14) (c := 0) (by omega) (by omega)).symm
    · rintro a_ wr_ ⟨k, x, y, at', h, p1, r2, q7, j8, j9, j10, j11, j12, j13, j14, j15, j16, j17, j18, j19, j20, j21, j22, j23, j24, j25, j26, j27, j28, j29, j30, j31, j32, j33, j34, j35, j36, j37, j38, j39, j40, j41, j42, j43, j44, j45, j46, j47, j48, j49, j50, j51, j52, j53, j54, j55, j56, j57, j58, j59, HG, HJ, rfl⟩
      have w0 : IntKind.i64.wrap 0 = 0 := by decide
      have w1 : IntKind.i64.wrap 1 = 1 := by decide
      cases k with
      | zero =>
        obtain rfl : h = 1 := HJ.out.1
        have HX := HJ
        have HB := Aside0.mk (four_le 0 (by omega))
        by_cases hx : x < 1
        · have e0 : x.tdiv 1 = 0 := by have HX := HX.out; rw [Int.tdiv_eq_ediv_of_nonneg (by omega)]; omega
          by_cases hy : y < 1
          · have e1 : y.tdiv 1 = 0 := by have HX := HX.out; rw [Int.tdiv_eq_ediv_of_nonneg (by omega)]; omega
            have v0 := w_in (4 * at') (by have := HX.out; have := HB.out; omega)
            have u0 := v0.out
            go_upto_region 4 with fail
            refine wp_gr (fun _ => True) (HG.out) trivial (fun W HG1 _ => ?_)
            clear HG
            have HG := Aside0.mk HG1
            clear HG1
            go_quiet ((go_at_call 87; exact Calls.quiet_of (quarter_ct false false _)))
            go_wp2
            clear u0
            simp only [Exit.jump]
            go_ret
            skip
            have h1 := HX.out
            exact ⟨by rw [← h1.2.2.2.2.2.2.2.2, hil_ff (k := 0) (by omega) (by omega)]; rfl, HG.out.drewN nq⟩
          · have e1 : y.tdiv 1 = 1 := by have HX := HX.out; rw [Int.tdiv_eq_ediv_of_nonneg (by omega)]; omega
            have v0 := w_in (4 * at') (by have := HX.out; have := HB.out; omega)
            have v1 := w_in (4 * at' + 1) (by have := HX.out; have := HB.out; omega)
            have v2 := w_in (y - 1) (by have := HX.out; have := HB.out; omega)
            have u0 := v0.out
            have u1 := v1.out
            have u2 := v2.out
            go_upto_region 4 with fail
            refine wp_gr (fun _ => True) (HG.out) trivial (fun W HG1 _ => ?_)
            clear HG
            have HG := Aside0.mk HG1
            clear HG1
            go_quiet ((go_at_call 87; exact Calls.quiet_of (quarter_ct false true _)))
            go_wp2
            clear u0 u1 u2
            simp only [Exit.jump]
            go_ret
            skip
            have h1 := HX.out
            exact ⟨by rw [← h1.2.2.2.2.2.2.2.2, hil_ft (k := 0) (by omega) (by omega)]; rfl, HG.out.drewN nq⟩
        · have e0 : x.tdiv 1 = 1 := by have HX := HX.out; rw [Int.tdiv_eq_ediv_of_nonneg (by omega)]; omega
          by_cases hy : y < 1
          · have e1 : y.tdiv 1 = 0 := by have HX := HX.out; rw [Int.tdiv_eq_ediv_of_nonneg (by omega)]; omega
            have v0 := w_in (4 * at') (by have := HX.out; have := HB.out; omega)
            have v1 := w_in (4 * at' + 3) (by have := HX.out; have := HB.out; omega)
            have v2 := w_in (-y) (by have := HX.out; have := HB.out; omega)
            have v3 := w_in (1 - x) (by have := HX.out; have := HB.out; omega)
            have u0 := v0.out
            have u1 := v1.out
            have u2 := v2.out
            have u3 := v3.out
            go_upto_region 4 with fail
            refine wp_gr (fun _ => True) (HG.out) trivial (fun W HG1 _ => ?_)
            clear HG
            have HG := Aside0.mk HG1
            clear HG1
            go_quiet ((go_at_call 87; exact Calls.quiet_of (quarter_ct true false _)))
            go_wp2
            clear u0 u1 u2 u3
            simp only [Exit.jump]
            go_ret
            skip
            have h1 := HX.out
            exact ⟨by rw [← h1.2.2.2.2.2.2.2.2, hil_tf (k := 0) (by omega) (by omega)]; rfl, HG.out.drewN nq⟩
          · have e1 : y.tdiv 1 = 1 := by have HX := HX.out; rw [Int.tdiv_eq_ediv_of_nonneg (by omega)]; omega
            have v0 := w_in (4 * at') (by have := HX.out; have := HB.out; omega)
            have v1 := w_in (4 * at' + 2) (by have := HX.out; have := HB.out; omega)
            have v2 := w_in (x - 1) (by have := HX.out; have := HB.out; omega)
            have v3 := w_in (y - 1) (by have := HX.out; have := HB.out; omega)
            have u0 := v0.out
            have u1 := v1.out
            have u2 := v2.out
            have u3 := v3.out
            go_upto_region 4 with fail
            refine wp_gr (fun _ => True) (HG.out) trivial (fun W HG1 _ => ?_)
            clear HG
            have HG := Aside0.mk HG1
            clear HG1
            go_quiet ((go_at_call 87; exact Calls.quiet_of (quarter_ct true true _)))
            go_wp2
            clear u0 u1 u2 u3
            simp only [Exit.jump]
            go_ret
            try rw [v2.out, v3.out]
            have h1 := HX.out
            exact ⟨by rw [← h1.2.2.2.2.2.2.2.2, hil_tt (k := 0) (by omega) (by omega)]; rfl, HG.out.drewN nq⟩
      | succ m =>
        have hh := HJ.out.1
        rw [Int.pow_succ] at hh
        obtain ⟨H, hH⟩ : ∃ H : Int, H = 2 ^ m := ⟨_, rfl⟩
        rw [← hH] at hh
        have hpos : 1 ≤ H := by rw [hH]; exact Int.pow_pos (by decide)
        obtain rfl : h = 2 * H := by omega
        have HX := HJ
        have HB : Aside0 ((4 : Int) ^ (14 - (m + 1)) ≤ 268435456 ∧ H ≤ 8192) := ⟨four_le (m + 1) HJ.out.2.1, by rw [hH]; exact two_le m (by have := HJ.out.2.1; omega)⟩
        have HM := Aside0.mk hH
        clear hH hh
        by_cases hx : x < (2 * H)
        · have e0 : x.tdiv (2 * H) = 0 := by have HX := HX.out; rw [Int.tdiv_eq_ediv_of_nonneg (by omega)]; exact Int.ediv_eq_zero_of_lt (by omega) hx
          by_cases hy : y < (2 * H)
          · have e1 : y.tdiv (2 * H) = 0 := by have HX := HX.out; rw [Int.tdiv_eq_ediv_of_nonneg (by omega)]; exact Int.ediv_eq_zero_of_lt (by omega) hy
            have v0 := w_in (4 * at') (by have := HX.out; have := HB.out; omega)
            have v1 := w_in (H) (by have := HX.out; have := HB.out; omega)
            have u0 := v0.out
            have u1 := v1.out
            go_upto_region 4 with fail
            refine wp_gr (fun _ => True) (HG.out) trivial (fun W HG1 _ => ?_)
            clear HG
            have HG := Aside0.mk HG1
            clear HG1
            have z0 : (2 * H == 0) = false := by simp; omega
            have z1 : (2 * H).tdiv 2 = H := by rw [Int.tdiv_eq_ediv_of_nonneg (by omega)]; omega
            have z2 : decide (0 < H) = true := decide_eq_true (by omega)
            go_quiet ((go_at_call 87; exact Calls.quiet_of (quarter_ct false false _)))
            go_wp2
            clear u0 u1
            go_step3
            refine ⟨rfl, ⟨m, _, _, _, _, _, _, _, _, _, _, _, _, _, _, _, _, _, _, _, _, _, _, _, _, _, _, _, _, _, _, _, _, _, _, _, _, _, _, _, _, _, _, _, _, _, _, _, _, _, _, _, _, _, _, _, _, _, _, _, ⟨HG.out.drewN nq⟩, ⟨?_⟩, rfl⟩, ?_⟩
            · skip
              have h1 := HX.out
              have h2 := HM.out
              have h3 := four_step h1.2.1
              have h4 : (2 : Int) ^ (m + 1) = 2 * H := h1.1.symm
              refine ⟨h2, by omega, by omega, by omega, by omega, by omega, by omega, by omega, ?_⟩
              rw [← h1.2.2.2.2.2.2.2.2]
              have h5 := hil_ff (k := m + 1) (x := x) (y := y) (c := at') (by omega) (by omega)
              skip
              exact h5.symm
            · show H.toNat < (2 * H).toNat
              omega
          · have e1 : y.tdiv (2 * H) = 1 := by have HX := HX.out; rw [Int.tdiv_eq_ediv_of_nonneg (by omega)]; exact div_one_of (by omega) (by omega)
            have v0 := w_in (4 * at') (by have := HX.out; have := HB.out; omega)
            have v1 := w_in (4 * at' + 1) (by have := HX.out; have := HB.out; omega)
            have v2 := w_in (y - 2 * H) (by have := HX.out; have := HB.out; omega)
            have v3 := w_in (H) (by have := HX.out; have := HB.out; omega)
            have u0 := v0.out
            have u1 := v1.out
            have u2 := v2.out
            have u3 := v3.out
            go_upto_region 4 with fail
            refine wp_gr (fun _ => True) (HG.out) trivial (fun W HG1 _ => ?_)
            clear HG
            have HG := Aside0.mk HG1
            clear HG1
            have z0 : (2 * H == 0) = false := by simp; omega
            have z1 : (2 * H).tdiv 2 = H := by rw [Int.tdiv_eq_ediv_of_nonneg (by omega)]; omega
            have z2 : decide (0 < H) = true := decide_eq_true (by omega)
            go_quiet ((go_at_call 87; exact Calls.quiet_of (quarter_ct false true _)))
            go_wp2
            clear u0 u1 u2 u3
            go_step3
            refine ⟨rfl, ⟨m, _, _, _, _, _, _, _, _, _, _, _, _, _, _, _, _, _, _, _, _, _, _, _, _, _, _, _, _, _, _, _, _, _, _, _, _, _, _, _, _, _, _, _, _, _, _, _, _, _, _, _, _, _, _, _, _, _, _, _, ⟨HG.out.drewN nq⟩, ⟨?_⟩, rfl⟩, ?_⟩
            · skip
              have h1 := HX.out
              have h2 := HM.out
              have h3 := four_step h1.2.1
              have h4 : (2 : Int) ^ (m + 1) = 2 * H := h1.1.symm
              refine ⟨h2, by omega, by omega, by omega, by omega, by omega, by omega, by omega, ?_⟩
              rw [← h1.2.2.2.2.2.2.2.2]
              have h5 := hil_ft (k := m + 1) (x := x) (y := y) (c := at') (by omega) (by omega)
              rw [h4] at h5
              exact h5.symm
            · show H.toNat < (2 * H).toNat
              omega
        · have e0 : x.tdiv (2 * H) = 1 := by have HX := HX.out; rw [Int.tdiv_eq_ediv_of_nonneg (by omega)]; exact div_one_of (by omega) (by omega)
          by_cases hy : y < (2 * H)
          · have e1 : y.tdiv (2 * H) = 0 := by have HX := HX.out; rw [Int.tdiv_eq_ediv_of_nonneg (by omega)]; exact Int.ediv_eq_zero_of_lt (by omega) hy
            have v0 := w_in (4 * at') (by have := HX.out; have := HB.out; omega)
            have v1 := w_in (4 * at' + 3) (by have := HX.out; have := HB.out; omega)
            have v2 := w_in (2 * H - 1) (by have := HX.out; have := HB.out; omega)
            have v3 := w_in (2 * H - 1 - y) (by have := HX.out; have := HB.out; omega)
            have v4 := w_in (2 * (2 * H)) (by have := HX.out; have := HB.out; omega)
            have v5 := w_in (2 * (2 * H) - 1) (by have := HX.out; have := HB.out; omega)
            have v6 := w_in (2 * (2 * H) - 1 - x) (by have := HX.out; have := HB.out; omega)
            have v7 := w_in (H) (by have := HX.out; have := HB.out; omega)
            have u0 := v0.out
            have u1 := v1.out
            have u2 := v2.out
            have u3 := v3.out
            have u4 := v4.out
            have u5 := v5.out
            have u6 := v6.out
            have u7 := v7.out
            go_upto_region 4 with fail
            refine wp_gr (fun _ => True) (HG.out) trivial (fun W HG1 _ => ?_)
            clear HG
            have HG := Aside0.mk HG1
            clear HG1
            have z0 : (2 * H == 0) = false := by simp; omega
            have z1 : (2 * H).tdiv 2 = H := by rw [Int.tdiv_eq_ediv_of_nonneg (by omega)]; omega
            have z2 : decide (0 < H) = true := decide_eq_true (by omega)
            go_quiet ((go_at_call 87; exact Calls.quiet_of (quarter_ct true false _)))
            go_wp2
            clear u0 u1 u2 u3 u4 u5 u6 u7
            go_step3
            refine ⟨rfl, ⟨m, _, _, _, _, _, _, _, _, _, _, _, _, _, _, _, _, _, _, _, _, _, _, _, _, _, _, _, _, _, _, _, _, _, _, _, _, _, _, _, _, _, _, _, _, _, _, _, _, _, _, _, _, _, _, _, _, _, _, _, ⟨HG.out.drewN nq⟩, ⟨?_⟩, rfl⟩, ?_⟩
            · skip
              have h1 := HX.out
              have h2 := HM.out
              have h3 := four_step h1.2.1
              have h4 : (2 : Int) ^ (m + 1) = 2 * H := h1.1.symm
              refine ⟨h2, by omega, by omega, by omega, by omega, by omega, by omega, by omega, ?_⟩
              rw [← h1.2.2.2.2.2.2.2.2]
              have h5 := hil_tf (k := m + 1) (x := x) (y := y) (c := at') (by omega) (by omega)
              rw [h4] at h5
              exact h5.symm
            · show H.toNat < (2 * H).toNat
              omega
          · have e1 : y.tdiv (2 * H) = 1 := by have HX := HX.out; rw [Int.tdiv_eq_ediv_of_nonneg (by omega)]; exact div_one_of (by omega) (by omega)
            have v0 := w_in (4 * at') (by have := HX.out; have := HB.out; omega)
            have v1 := w_in (4 * at' + 2) (by have := HX.out; have := HB.out; omega)
            have v2 := w_in (x - 2 * H) (by have := HX.out; have := HB.out; omega)
            have v3 := w_in (y - 2 * H) (by have := HX.out; have := HB.out; omega)
            have v4 := w_in (H) (by have := HX.out; have := HB.out; omega)
            have u0 := v0.out
            have u1 := v1.out
            have u2 := v2.out
            have u3 := v3.out
            have u4 := v4.out
            go_upto_region 4 with fail
            refine wp_gr (fun _ => True) (HG.out) trivial (fun W HG1 _ => ?_)
            clear HG
            have HG := Aside0.mk HG1
            clear HG1
            have z0 : (2 * H == 0) = false := by simp; omega
            have z1 : (2 * H).tdiv 2 = H := by rw [Int.tdiv_eq_ediv_of_nonneg (by omega)]; omega
            have z2 : decide (0 < H) = true := decide_eq_true (by omega)
            go_quiet ((go_at_call 87; exact Calls.quiet_of (quarter_ct true true _)))
            go_wp2
            clear u0 u1 u2 u3 u4
            go_step3
            refine ⟨rfl, ⟨m, _, _, _, _, _, _, _, _, _, _, _, _, _, _, _, _, _, _, _, _, _, _, _, _, _, _, _, _, _, _, _, _, _, _, _, _, _, _, _, _, _, _, _, _, _, _, _, _, _, _, _, _, _, _, _, _, _, _, _, ⟨HG.out.drewN nq⟩, ⟨?_⟩, rfl⟩, ?_⟩
            · try rw [v2.out, v3.out]
              have h1 := HX.out
              have h2 := HM.out
              have h3 := four_step h1.2.1
              have h4 : (2 : Int) ^ (m + 1) = 2 * H := h1.1.symm
              refine ⟨h2, by omega, by omega, by omega, by omega, by omega, by omega, by omega, ?_⟩
              rw [← h1.2.2.2.2.2.2.2.2]
              have h5 := hil_tt (k := m + 1) (x := x) (y := y) (c := at') (by omega) (by omega)
              rw [h4] at h5
              exact h5.symm
            · show H.toNat < (2 * H).toNat
              omega
  · rw [if_neg hv]
    have ev : decide (0 ≤ x0 ∧ x0 < 32768 ∧ 0 ≤ y0 ∧ y0 < 32768) = false := decide_eq_false hv
    have hval := fun W => valid_gr x0 y0 W
    simp only [ev] at hval
    have HVAL := Aside0.mk hval
    clear hval ev hv
    go_enter Try.func62, Try.ntmps62
    go_wp2
    go_step3
    go_wp2_with (first | (go_at_call 28; refine (HVAL.out _).mono ?_; rintro e_ w_ ⟨rfl, hg⟩; have HG := Aside0.mk (((Gr.refl w).alloc _).trans hg); have tt_ := two_cells w 29 (.int .i64 x0) (.int .i64 y0); have k0 := (hg.below.cell (p := ⟨w.heap.size, 0, none⟩) (by simp)).trans tt_.1; have k1 := (hg.below.cell (p := ⟨w.heap.size, 1, none⟩) (by simp)).trans tt_.2; clear hg tt_) | fail)
    simp only [Exit.noGoto_ret]
    go_ret
    exact ⟨rfl, HG.out⟩
attribute [local go_sem] max2_int min2_int max_two min_two max_three min_three max_four min_four
def m2 (z : Int) : Int := if 32767 < z then 32767 else z
/-- rtree.place. -/
def placeI (b : S57) : Int := hilI (m2 (wrap64 ((wrap64 (b.f0 + b.f2)).tdiv 2))) (m2 (wrap64 ((wrap64 (b.f1 + b.f3)).tdiv 2)))
set_option maxHeartbeats 4000000 in
set_option maxRecDepth 100000 in
theorem place_gr (b : S57) (w : World) :
    Calls Try.prog 46 #[.agg #[.int .i64 b.f0, .int .i64 b.f1, .int .i64 b.f2, .int .i64 b.f3]] w fun e w' => e = .returned (.int .i64 (placeI b)) ∧ Gr w w' := by
  have hu24 := Try.underlying57
  obtain ⟨a0, a1, a2, a3⟩ := b
  unfold placeI m2
  dsimp only
  split <;> split
  all_goals
    go_enter Try.func46, Try.ntmps46
    go_wp2_with (first | (go_at_call 62; refine (index_gr _ _ _).mono ?_; rintro e_ w_ ⟨rfl, hg⟩; have HG := Aside0.mk (((Gr.refl w).alloc _).trans hg); clear hg) | fail)
    go_ret
    exact ⟨rfl, HG.out⟩
/-- The order of the items (rtree.New's closure). -/
def cmpT (a b : S61) : Int := orI (cmpI (placeI a.f1) (placeI b.f1)) (cmpR a.f0 b.f0)
theorem six_cells (w : World) (t : TypeId) (a b c d e f : Value) : ∀ i u, [a, b, c, d, e, f][i]? = some u → (w.alloc (.cells #[a, b, c, d, e, f] t)).cell? ⟨w.heap.size, i, none⟩ = some u :=
  fun i u h => (blk_cell (blk_new w _) i).trans (by simpa using h)
theorem keep12 {W W' : World} {g : Nat} {a0 a1 a2 a3 a4 a5 b0 b1 b2 b3 b4 b5 : Int} (hb : Gr W W') (hs : g + 1 < W.heap.size) (h : W.cell? ⟨g, 0, none⟩ = some (.int .i64 a0) ∧ W.cell? ⟨g, 1, none⟩ = some (.int .i64 a1) ∧ W.cell? ⟨g, 2, none⟩ = some (.int .i64 a2) ∧ W.cell? ⟨g, 3, none⟩ = some (.int .i64 a3) ∧ W.cell? ⟨g, 4, none⟩ = some (.int .i64 a4) ∧ W.cell? ⟨g, 5, none⟩ = some (.int .i64 a5) ∧ W.cell? ⟨g + 1, 0, none⟩ = some (.int .i64 b0) ∧ W.cell? ⟨g + 1, 1, none⟩ = some (.int .i64 b1) ∧ W.cell? ⟨g + 1, 2, none⟩ = some (.int .i64 b2) ∧ W.cell? ⟨g + 1, 3, none⟩ = some (.int .i64 b3) ∧ W.cell? ⟨g + 1, 4, none⟩ = some (.int .i64 b4) ∧ W.cell? ⟨g + 1, 5, none⟩ = some (.int .i64 b5)) : W'.cell? ⟨g, 0, none⟩ = some (.int .i64 a0) ∧ W'.cell? ⟨g, 1, none⟩ = some (.int .i64 a1) ∧ W'.cell? ⟨g, 2, none⟩ = some (.int .i64 a2) ∧ W'.cell? ⟨g, 3, none⟩ = some (.int .i64 a3) ∧ W'.cell? ⟨g, 4, none⟩ = some (.int .i64 a4) ∧ W'.cell? ⟨g, 5, none⟩ = some (.int .i64 a5) ∧ W'.cell? ⟨g + 1, 0, none⟩ = some (.int .i64 b0) ∧ W'.cell? ⟨g + 1, 1, none⟩ = some (.int .i64 b1) ∧ W'.cell? ⟨g + 1, 2, none⟩ = some (.int .i64 b2) ∧ W'.cell? ⟨g + 1, 3, none⟩ = some (.int .i64 b3) ∧ W'.cell? ⟨g + 1, 4, none⟩ = some (.int .i64 b4) ∧ W'.cell? ⟨g + 1, 5, none⟩ = some (.int .i64 b5) := by
  obtain ⟨k0, k1, k2, k3, k4, k5, k6, k7, k8, k9, k10, k11⟩ := h
  exact ⟨(hb.below.cell (p := ⟨g, 0, none⟩) (by show g < W.heap.size; omega)).trans k0, (hb.below.cell (p := ⟨g, 1, none⟩) (by show g < W.heap.size; omega)).trans k1, (hb.below.cell (p := ⟨g, 2, none⟩) (by show g < W.heap.size; omega)).trans k2, (hb.below.cell (p := ⟨g, 3, none⟩) (by show g < W.heap.size; omega)).trans k3, (hb.below.cell (p := ⟨g, 4, none⟩) (by show g < W.heap.size; omega)).trans k4, (hb.below.cell (p := ⟨g, 5, none⟩) (by show g < W.heap.size; omega)).trans k5, (hb.below.cell (p := ⟨g + 1, 0, none⟩) (by show g + 1 < W.heap.size; omega)).trans k6, (hb.below.cell (p := ⟨g + 1, 1, none⟩) (by show g + 1 < W.heap.size; omega)).trans k7, (hb.below.cell (p := ⟨g + 1, 2, none⟩) (by show g + 1 < W.heap.size; omega)).trans k8, (hb.below.cell (p := ⟨g + 1, 3, none⟩) (by show g + 1 < W.heap.size; omega)).trans k9, (hb.below.cell (p := ⟨g + 1, 4, none⟩) (by show g + 1 < W.heap.size; omega)).trans k10, (hb.below.cell (p := ⟨g + 1, 5, none⟩) (by show g + 1 < W.heap.size; omega)).trans k11⟩
set_option maxHeartbeats 4000000 in
set_option maxRecDepth 100000 in
theorem new1_gr (a b : S61) (w : World) :
    Calls Try.prog 43 #[.agg #[.int .i64 a.f0.f0, .int .i64 a.f0.f1, .int .i64 a.f1.f0, .int .i64 a.f1.f1, .int .i64 a.f1.f2, .int .i64 a.f1.f3], .agg #[.int .i64 b.f0.f0, .int .i64 b.f0.f1, .int .i64 b.f1.f0, .int .i64 b.f1.f1, .int .i64 b.f1.f2, .int .i64 b.f1.f3]] w fun e w' => e = .returned (.int .i64 (cmpT a b)) ∧ Gr w w' := by
  have hu51 := Try.underlying61
  have hu24 := Try.underlying57
  have hu49 := Try.underlying23
  obtain ⟨⟨a0, a1⟩, ⟨a2, a3, a4, a5⟩⟩ := a
  obtain ⟨⟨b0, b1⟩, ⟨b2, b3, b4, b5⟩⟩ := b
  unfold cmpT
  dsimp only
  go_enter Try.func43, Try.ntmps43
  go_upto_region 1 with fail
  have t0 := six_cells w 61 (.int .i64 a0) (.int .i64 a1) (.int .i64 a2) (.int .i64 a3) (.int .i64 a4) (.int .i64 a5)
  have t1 := six_cells (w.alloc (.cells #[.int .i64 a0, .int .i64 a1, .int .i64 a2, .int .i64 a3, .int .i64 a4, .int .i64 a5] 61)) 61 (.int .i64 b0) (.int .i64 b1) (.int .i64 b2) (.int .i64 b3) (.int .i64 b4) (.int .i64 b5)
  rw [World.size_alloc] at t1
  refine wp_gr (fun W => w.heap.size + 1 < W.heap.size ∧ W.cell? ⟨w.heap.size, 0, none⟩ = some (.int .i64 a0) ∧ W.cell? ⟨w.heap.size, 1, none⟩ = some (.int .i64 a1) ∧ W.cell? ⟨w.heap.size, 2, none⟩ = some (.int .i64 a2) ∧ W.cell? ⟨w.heap.size, 3, none⟩ = some (.int .i64 a3) ∧ W.cell? ⟨w.heap.size, 4, none⟩ = some (.int .i64 a4) ∧ W.cell? ⟨w.heap.size, 5, none⟩ = some (.int .i64 a5) ∧ W.cell? ⟨w.heap.size + 1, 0, none⟩ = some (.int .i64 b0) ∧ W.cell? ⟨w.heap.size + 1, 1, none⟩ = some (.int .i64 b1) ∧ W.cell? ⟨w.heap.size + 1, 2, none⟩ = some (.int .i64 b2) ∧ W.cell? ⟨w.heap.size + 1, 3, none⟩ = some (.int .i64 b3) ∧ W.cell? ⟨w.heap.size + 1, 4, none⟩ = some (.int .i64 b4) ∧ W.cell? ⟨w.heap.size + 1, 5, none⟩ = some (.int .i64 b5)) (((Gr.refl w).alloc _).alloc _) ⟨by simp, cell_old _ (t0 0 _ rfl) (by simp), cell_old _ (t0 1 _ rfl) (by simp), cell_old _ (t0 2 _ rfl) (by simp), cell_old _ (t0 3 _ rfl) (by simp), cell_old _ (t0 4 _ rfl) (by simp), cell_old _ (t0 5 _ rfl) (by simp), t1 0 _ rfl, t1 1 _ rfl, t1 2 _ rfl, t1 3 _ rfl, t1 4 _ rfl, t1 5 _ rfl⟩ (fun W G hF => ?_)
  clear t0 t1
  generalize w.heap.size = g at hF ⊢
  have HF := Aside0.mk hF
  have HG := Aside0.mk G
  clear G
  obtain ⟨hsz, k0, k1, k2, k3, k4, k5, k6, k7, k8, k9, k10, k11⟩ := hF
  have HS := Aside0.mk hsz
  clear hsz
  have hS0 := HF.out.2
  go_region_held3 (fun w' => w'.cell? ⟨g, 0, none⟩ = some (.int .i64 a0) ∧ w'.cell? ⟨g, 1, none⟩ = some (.int .i64 a1) ∧ w'.cell? ⟨g, 2, none⟩ = some (.int .i64 a2) ∧ w'.cell? ⟨g, 3, none⟩ = some (.int .i64 a3) ∧ w'.cell? ⟨g, 4, none⟩ = some (.int .i64 a4) ∧ w'.cell? ⟨g, 5, none⟩ = some (.int .i64 a5) ∧ w'.cell? ⟨g + 1, 0, none⟩ = some (.int .i64 b0) ∧ w'.cell? ⟨g + 1, 1, none⟩ = some (.int .i64 b1) ∧ w'.cell? ⟨g + 1, 2, none⟩ = some (.int .i64 b2) ∧ w'.cell? ⟨g + 1, 3, none⟩ = some (.int .i64 b3) ∧ w'.cell? ⟨g + 1, 4, none⟩ = some (.int .i64 b4) ∧ w'.cell? ⟨g + 1, 5, none⟩ = some (.int .i64 b5)) (first | assumption | go_keep) (first | (go_at_call 46; have X_ := place_gr ⟨a2, a3, a4, a5⟩ W.drew; dsimp only at X_; (with_reducible refine X_.mono ?_); clear X_; rintro e_ w1 ⟨rfl, hg⟩; have hS1 := keep12 ((Gr.refl W).drew.trans hg) HS.out HF.out.2; have HG1 := Aside0.mk ((Gr.refl W).drew.trans hg); clear hg) | (go_at_call 46; have X_ := place_gr ⟨b2, b3, b4, b5⟩ w1; dsimp only at X_; (with_reducible refine X_.mono ?_); clear X_; rintro e_ w2 ⟨rfl, hg⟩; have hS2 := keep12 (HG1.out.trans hg) HS.out HF.out.2; have HG2 := Aside0.mk (HG1.out.trans hg); clear hg) | (go_at_call 45; have X_ := cmp_ct (placeI ⟨a2, a3, a4, a5⟩) (placeI ⟨b2, b3, b4, b5⟩) w2; (with_reducible refine X_.mono ?_); clear X_; rintro e_ w_ ⟨rfl, hw_⟩; obtain rfl := hw_.symm) | (go_at_call 40; have X_ := compare_gr ⟨a0, a1⟩ ⟨b0, b1⟩ w2; dsimp only at X_; (with_reducible refine X_.mono ?_); clear X_; rintro e_ w3 ⟨rfl, hg⟩; have hS3 := keep12 (HG2.out.trans hg) HS.out HF.out.2; have HG3 := Aside0.mk (HG2.out.trans hg); clear hg) | (go_at_call 44; have tt_ := two_cells w3 3 (.int .i64 (cmpI (placeI ⟨a2, a3, a4, a5⟩) (placeI ⟨b2, b3, b4, b5⟩))) (.int .i64 (cmpR ⟨a0, a1⟩ ⟨b0, b1⟩)); have X_ := or_ct (cmpI (placeI ⟨a2, a3, a4, a5⟩) (placeI ⟨b2, b3, b4, b5⟩)) (cmpR ⟨a0, a1⟩ ⟨b0, b1⟩) w3.heap.size (w3.alloc (.cells #[.int .i64 (cmpI (placeI ⟨a2, a3, a4, a5⟩) (placeI ⟨b2, b3, b4, b5⟩)), .int .i64 (cmpR ⟨a0, a1⟩ ⟨b0, b1⟩)] 3)) tt_.1 tt_.2; (with_reducible refine X_.mono ?_); clear X_ tt_; rintro e_ w_ ⟨rfl, rfl⟩))
  all_goals go_wp2
  all_goals go_ret
  all_goals exact ⟨rfl, (HG.out.trans HG3.out).alloc _⟩
end Go.Proofs.Ytjpkkdnilfoafaa.Hand
end
section
namespace Go.Proofs.Ytjpkkdnilfoafaa.Hand
open Go.Proofs.YtjpkkdnilfoafaaW Go.RowKit Go.Proofs.YtjpkkdnilfoafaaW.PrintWords Go.Proofs.YtjpkkdnilfoafaaW.PrintLast Go.Proofs.YtjpkkdnilfoafaaW.PrintMore Go.Proofs.YtjpkkdnilfoafaaW.SepW Go.Proofs.Ytjpkkdnilfoafaa.PALL
set_option linter.unusedVariables false
set_option linter.unusedSimpArgs false
theorem own_empty_k (k : Nat) (W : World) (base : Nat) (e : TypeId) (hb : base ≤ W.heap.size) : (W.alloc (.cells #[] e (0, 0))).ownsRow base e k (.slice (some ⟨W.heap.size, 0, none⟩) 0 0) 0 [] :=
  ⟨by simp, .inr ⟨W.heap.size, 0, #[], rfl, hb, blk_new W _, Nat.le_refl _, by decide, by simp, by simp⟩⟩
theorem C_none {α : Type} {d : Kd α} {w : World} {l : List α} (h : d.C w none l.length l) : l = [] := by
  rcases l with _ | ⟨a, t⟩
  · rfl
  · obtain ⟨ad, he, _⟩ := h.2.2 (by simp)
    cases he
set_option maxHeartbeats 4000000 in
set_option maxRecDepth 100000 in
theorem clone_item_nil (c : Nat) (w : World) : Calls Try.prog 41 #[.slice none 0 c] w fun e w' => e = .returned (.slice none 0 0) ∧ w' = w := by
  have he := fun W => Go.Lib.run_eql_slice_nil (P := Try.prog) W 51 61 none 0 c 0 0 Try.underlying51
  go_enter Try.func41, Try.ntmps41
  go_wp2
  go_ret
  exact ⟨rfl, rfl⟩
set_option maxHeartbeats 4000000 in
set_option maxRecDepth 100000 in
theorem clone_item_some (ad : Addr) (c : Nat) (l : List S61) (w : World) (hC : k61.C w (some ad) l.length l) (hc : l.length ≤ c) (hl : l.length ≤ 1000000) : Calls Try.prog 41 #[.slice (some ad) l.length c] w fun e w' => ∃ v, e = .returned v ∧ k61.R 61 w' w.heap.size (fun _ => True) v l ∧ Below w.heap.size w w' := by
  have he := fun W => Go.Lib.run_eql_slice_nil (P := Try.prog) W 51 61 (some ad) l.length c 0 0 Try.underlying51
  have hu := Try.underlying51
  have HC := Aside0.mk hC
  have HL := Aside0.mk hl
  clear hC hl
  go_enter Try.func41, Try.ntmps41
  have S := Aside0.mk ((Sep.start w).own (d := k61) (e := 61) (xs := []) (v := .slice (some ⟨w.heap.size, 0, none⟩) 0 0) ⟨fun _ _ => trivial, [], own_empty_k 6 w _ 61 (Nat.le_refl _), Reps.none _ _⟩ (below_alloc (Below.refl _ _) (.cells #[] 61 (0, 0))))
  go_wp2_with (first | ((with_reducible refine gate_builtin (b := .append) (xs := #[.tmp 5, .tmp 6]) rfl ?_); at_builtin; obtain ⟨ok, hR, hnew, hup⟩ := S.out.append 0 rfl; go_loud (refine Kd.R_append_rows k61 (w0 := w) w.heap.size rfl (.tmp 5) (.tmp 6) 51 61 (.agg #[.int .i64 0, .int .i64 0, .int .i64 0, .int .i64 0, .int .i64 0, .int .i64 0]) 48 rfl Try.underlying51 info61 rfl (by decide) (by omega) (.slice (some ⟨w.heap.size, 0, none⟩) 0 0) [] l _ _ _ ok (fun _ => False) rfl rfl hR ?aR (fun _ _ h => h) (fun _ h => h.elim) hnew S.out.below S.out.size ?aL ?_; (case aR => exact Kd.C_below HC.out (below_alloc (Below.refl _ _) _)); (case aL => (have := HL.out; simp only [List.length_nil]; omega)); intro v7 w7 ho hb hg hat; replace S := Aside0.mk (hup _ w7 _ ho hb hg); clear hup hR hnew ho hb hg hat)))
  go_ret
  exact ⟨_, rfl, S.out.at_own 0 rfl, S.out.below⟩
theorem clone_item (A : Option Addr) (c : Nat) (l : List S61) (w : World) (hC : k61.C w A l.length l) (hc : l.length ≤ c) (hl : l.length ≤ 1000000) : Calls Try.prog 41 #[.slice A l.length c] w fun e w' => ∃ v, e = .returned v ∧ k61.R 61 w' w.heap.size (fun _ => True) v l ∧ Below w.heap.size w w' := by
  cases A with
  | none =>
    obtain rfl := C_none hC
    refine (clone_item_nil c w).mono ?_
    rintro e w' ⟨rfl, rfl⟩
    exact ⟨_, rfl, ⟨fun _ _ => trivial, [], World.ownsRow_nil _ _ _ 6, Reps.none _ _⟩, Below.refl _ _⟩
  | some ad => exact clone_item_some ad c l w hC hc hl
end Go.Proofs.Ytjpkkdnilfoafaa.Hand
end
section
namespace Go.Proofs
open Go.Shelf
open Go.RowKit Go.Lib in
def Try.laysSlF06_f26_ren : Go.Shelf.Ren := ⟨fun | 6 => 39 | 15 => 59 | 14 => 58 | 28 => 77 | 29 => 78 | 20 => 69 | 21 => 70 | 22 => 71 | 23 => 72 | 24 => 73 | 25 => 74 | 26 => 75 | 27 => 76 | 46 => 89 | 47 => 90 | 48 => 91 | 49 => 92 | 50 => 93 | 57 => 97 | n => n, fun | 22 => 43 | 24 => 23 | 25 => 75 | 3 => 3 | 39 => 101 | 0 => 0 | 53 => 122 | 55 => 124 | 4 => 4 | 46 => 115 | 45 => 114 | 50 => 119 | 5 => 5 | 9 => 9 | 66 => 131 | 70 => 90 | 76 => 140 | 77 => 141 | n => n, fun | n => n⟩
theorem Try.laysSlF06_f39 : Go.Proofs.SlLaysF0.n6 Try.prog Try.laysSlF06_f26_ren := {
  mixed := by kernel_rfl
  f6 := ⟨Try.f39.name, by decide, Try.func39.trans (congrArg some (by kernel_rfl))⟩
  f14 := ⟨Try.f58.name, by decide, Try.func58.trans (congrArg some (by kernel_rfl))⟩
  f15 := Try.func59.trans (congrArg some (by kernel_rfl))
  f20 := ⟨Try.f69.name, by decide, Try.func69.trans (congrArg some (by kernel_rfl))⟩
  f21 := ⟨Try.f70.name, by decide, Try.func70.trans (congrArg some (by kernel_rfl))⟩
  f22 := ⟨Try.f71.name, by decide, Try.func71.trans (congrArg some (by kernel_rfl))⟩
  f23 := ⟨Try.f72.name, by decide, Try.func72.trans (congrArg some (by kernel_rfl))⟩
  f24 := ⟨Try.f73.name, by decide, Try.func73.trans (congrArg some (by kernel_rfl))⟩
  f25 := ⟨Try.f74.name, by decide, Try.func74.trans (congrArg some (by kernel_rfl))⟩
  f26 := ⟨Try.f75.name, by decide, Try.func75.trans (congrArg some (by kernel_rfl))⟩
  f27 := ⟨Try.f76.name, by decide, Try.func76.trans (congrArg some (by kernel_rfl))⟩
  f28 := Try.func77.trans (congrArg some (by kernel_rfl))
  f29 := Try.func78.trans (congrArg some (by kernel_rfl))
  f46 := ⟨Try.f89.name, by decide, Try.func89.trans (congrArg some (by kernel_rfl))⟩
  f47 := Try.func90.trans (congrArg some (by kernel_rfl))
  f48 := Try.func91.trans (congrArg some (by kernel_rfl))
  f49 := ⟨Try.f92.name, by decide, Try.func92.trans (congrArg some (by kernel_rfl))⟩
  f50 := ⟨Try.f93.name, by decide, Try.func93.trans (congrArg some (by kernel_rfl))⟩
  f57 := ⟨Try.f97.name, by decide, Try.func97.trans (congrArg some (by kernel_rfl))⟩
  t0 := Try.underlying0
  a0 := Try.isAgg0
  z0 := Try.sizeOf0
  v0 := Try.zeroValue0
  t3 := Try.underlying3
  a3 := Try.isAgg3
  z3 := Try.sizeOf3
  v3 := Try.zeroValue3
  t4 := Try.underlying4
  a4 := Try.isAgg4
  z4 := Try.sizeOf4
  v4 := Try.zeroValue4
  t5 := Try.underlying5
  a5 := Try.isAgg5
  z5 := Try.sizeOf5
  v5 := Try.zeroValue5
  t9 := Try.underlying9
  a9 := Try.isAgg9
  z9 := Try.sizeOf9
  v9 := Try.zeroValue9
  t22 := Try.underlying43
  a22 := Try.isAgg43
  z22 := Try.sizeOf43
  v22 := Try.zeroValue43
  t25 := Try.underlying75
  a25 := Try.isAgg75
  z25 := Try.sizeOf75
  v25 := Try.zeroValue75
  t39 := Try.underlying101
  a39 := Try.isAgg101
  z39 := Try.sizeOf101
  v39 := Try.zeroValue101
  t45 := Try.underlying114
  a45 := Try.isAgg114
  z45 := Try.sizeOf114
  v45 := Try.zeroValue114
  t46 := Try.underlying115
  a46 := Try.isAgg115
  z46 := Try.sizeOf115
  v46 := Try.zeroValue115
  t50 := Try.underlying119
  a50 := Try.isAgg119
  z50 := Try.sizeOf119
  v50 := Try.zeroValue119
  t53 := Try.underlying122
  a53 := Try.isAgg122
  z53 := Try.sizeOf122
  v53 := Try.zeroValue122
  t55 := Try.underlying124
  a55 := Try.isAgg124
  z55 := Try.sizeOf124
  v55 := Try.zeroValue124
  t66 := Try.underlying131
  a66 := Try.isAgg131
  z66 := Try.sizeOf131
  v66 := Try.zeroValue131
  t70 := Try.underlying90
  a70 := Try.isAgg90
  z70 := Try.sizeOf90
  v70 := Try.zeroValue90
  t76 := Try.underlying140
  a76 := Try.isAgg140
  z76 := Try.sizeOf140
  v76 := Try.zeroValue140
  t77 := Try.underlying141
  a77 := Try.isAgg141
  z77 := Try.sizeOf141
  v77 := Try.zeroValue141 }
def Try.laysSlF06_f29_ren : Go.Shelf.Ren := ⟨fun | 6 => 42 | 15 => 59 | 14 => 60 | 28 => 77 | 29 => 78 | 20 => 79 | 21 => 80 | 22 => 81 | 23 => 82 | 24 => 83 | 25 => 84 | 26 => 85 | 27 => 86 | 46 => 94 | 47 => 90 | 48 => 91 | 49 => 95 | 50 => 96 | 57 => 98 | n => n, fun | 22 => 51 | 24 => 61 | 25 => 84 | 3 => 3 | 39 => 101 | 0 => 0 | 53 => 122 | 55 => 124 | 4 => 4 | 46 => 115 | 45 => 114 | 50 => 119 | 5 => 5 | 9 => 9 | 66 => 131 | 70 => 90 | 76 => 140 | 77 => 141 | n => n, fun | n => n⟩
theorem Try.laysSlF06_f42 : Go.Proofs.SlLaysF0.n6 Try.prog Try.laysSlF06_f29_ren := {
  mixed := by kernel_rfl
  f6 := ⟨Try.f42.name, by decide, Try.func42.trans (congrArg some (by kernel_rfl))⟩
  f14 := ⟨Try.f60.name, by decide, Try.func60.trans (congrArg some (by kernel_rfl))⟩
  f15 := Try.func59.trans (congrArg some (by kernel_rfl))
  f20 := ⟨Try.f79.name, by decide, Try.func79.trans (congrArg some (by kernel_rfl))⟩
  f21 := ⟨Try.f80.name, by decide, Try.func80.trans (congrArg some (by kernel_rfl))⟩
  f22 := ⟨Try.f81.name, by decide, Try.func81.trans (congrArg some (by kernel_rfl))⟩
  f23 := ⟨Try.f82.name, by decide, Try.func82.trans (congrArg some (by kernel_rfl))⟩
  f24 := ⟨Try.f83.name, by decide, Try.func83.trans (congrArg some (by kernel_rfl))⟩
  f25 := ⟨Try.f84.name, by decide, Try.func84.trans (congrArg some (by kernel_rfl))⟩
  f26 := ⟨Try.f85.name, by decide, Try.func85.trans (congrArg some (by kernel_rfl))⟩
  f27 := ⟨Try.f86.name, by decide, Try.func86.trans (congrArg some (by kernel_rfl))⟩
  f28 := Try.func77.trans (congrArg some (by kernel_rfl))
  f29 := Try.func78.trans (congrArg some (by kernel_rfl))
  f46 := ⟨Try.f94.name, by decide, Try.func94.trans (congrArg some (by kernel_rfl))⟩
  f47 := Try.func90.trans (congrArg some (by kernel_rfl))
  f48 := Try.func91.trans (congrArg some (by kernel_rfl))
  f49 := ⟨Try.f95.name, by decide, Try.func95.trans (congrArg some (by kernel_rfl))⟩
  f50 := ⟨Try.f96.name, by decide, Try.func96.trans (congrArg some (by kernel_rfl))⟩
  f57 := ⟨Try.f98.name, by decide, Try.func98.trans (congrArg some (by kernel_rfl))⟩
  t0 := Try.underlying0
  a0 := Try.isAgg0
  z0 := Try.sizeOf0
  v0 := Try.zeroValue0
  t3 := Try.underlying3
  a3 := Try.isAgg3
  z3 := Try.sizeOf3
  v3 := Try.zeroValue3
  t4 := Try.underlying4
  a4 := Try.isAgg4
  z4 := Try.sizeOf4
  v4 := Try.zeroValue4
  t5 := Try.underlying5
  a5 := Try.isAgg5
  z5 := Try.sizeOf5
  v5 := Try.zeroValue5
  t9 := Try.underlying9
  a9 := Try.isAgg9
  z9 := Try.sizeOf9
  v9 := Try.zeroValue9
  t22 := Try.underlying51
  a22 := Try.isAgg51
  z22 := Try.sizeOf51
  v22 := Try.zeroValue51
  t25 := Try.underlying84
  a25 := Try.isAgg84
  z25 := Try.sizeOf84
  v25 := Try.zeroValue84
  t39 := Try.underlying101
  a39 := Try.isAgg101
  z39 := Try.sizeOf101
  v39 := Try.zeroValue101
  t45 := Try.underlying114
  a45 := Try.isAgg114
  z45 := Try.sizeOf114
  v45 := Try.zeroValue114
  t46 := Try.underlying115
  a46 := Try.isAgg115
  z46 := Try.sizeOf115
  v46 := Try.zeroValue115
  t50 := Try.underlying119
  a50 := Try.isAgg119
  z50 := Try.sizeOf119
  v50 := Try.zeroValue119
  t53 := Try.underlying122
  a53 := Try.isAgg122
  z53 := Try.sizeOf122
  v53 := Try.zeroValue122
  t55 := Try.underlying124
  a55 := Try.isAgg124
  z55 := Try.sizeOf124
  v55 := Try.zeroValue124
  t66 := Try.underlying131
  a66 := Try.isAgg131
  z66 := Try.sizeOf131
  v66 := Try.zeroValue131
  t70 := Try.underlying90
  a70 := Try.isAgg90
  z70 := Try.sizeOf90
  v70 := Try.zeroValue90
  t76 := Try.underlying140
  a76 := Try.isAgg140
  z76 := Try.sizeOf140
  v76 := Try.zeroValue140
  t77 := Try.underlying141
  a77 := Try.isAgg141
  z77 := Try.sizeOf141
  v77 := Try.zeroValue141 }
open Go.RowKit Go.Lib Go.Sort in
/-- **slices.SortFunc, IN THE DOCUMENTATION's OWN TERMS: A PERMUTATION OF WHAT THE ROW HELD, SORTED BY 'cmp(a, b) < 0'.** Which of two equals comes first is left open ("The sort is not guaranteed to be stable"). (LAID AT THE INSTANCE 'slices.SortFunc[[]api.Ref,api.Ref]': no walk: one application.) -/
theorem Try.slices_SortFunc_f39 {α : Type} [Inhabited α] (k : Nat) (aE : ∀ w, (isAgg 23).run Try.prog w = .ok true w) (zE : ∀ w, (Go.sizeOf 23).run Try.prog w = .ok k w) (enc : α → List Value) (hk : ∀ x, (enc x).length = k) (h1 : ∀ x, ∀ v ∈ enc x, v.oneCell' = true) (cf : α → α → Int) (hO : SWO (ltOf cf)) (g : Nat) (cb : Array Value) (blk off cap : Nat) (d : Array α) (w : World) (eg : ∀ args w, (callFunc g args).run Try.prog w = .ok (.enter g args) w) (hcmp : CmpLays Try.prog g cb enc k cf blk off d.size w) (hH : HoldsK enc k w blk off d) (hblk : blk < w.heap.size) (hsz : d.size < 4611686018427387904) :
    Calls Try.prog 39 #[.slice (some ⟨blk, off, none⟩) d.size cap, .func (.func g) #[] cb] w fun e w' =>
      e = .returned (.tuple #[]) ∧ ∃ d' n os, PermIn 0 d.size d d' ∧ SortedIn (ltOf cf) 0 d.size d' ∧ w' = sortWorldK enc k w blk off n d' os := AnyQ.slices_SortFunc Try.laysSlF06_f39 k aE zE enc hk h1 cf hO g cb blk off cap d w eg hcmp hH hblk hsz
open Go.RowKit Go.Lib Go.Sort in
/-- **slices.SortFunc, IN THE DOCUMENTATION's OWN TERMS: A PERMUTATION OF WHAT THE ROW HELD, SORTED BY 'cmp(a, b) < 0'.** Which of two equals comes first is left open ("The sort is not guaranteed to be stable"). (LAID AT THE INSTANCE 'slices.SortFunc[[]api.Item,api.Item]': no walk: one application.) -/
theorem Try.slices_SortFunc_f42 {α : Type} [Inhabited α] (k : Nat) (aE : ∀ w, (isAgg 61).run Try.prog w = .ok true w) (zE : ∀ w, (Go.sizeOf 61).run Try.prog w = .ok k w) (enc : α → List Value) (hk : ∀ x, (enc x).length = k) (h1 : ∀ x, ∀ v ∈ enc x, v.oneCell' = true) (cf : α → α → Int) (hO : SWO (ltOf cf)) (g : Nat) (cb : Array Value) (blk off cap : Nat) (d : Array α) (w : World) (eg : ∀ args w, (callFunc g args).run Try.prog w = .ok (.enter g args) w) (hcmp : CmpLays Try.prog g cb enc k cf blk off d.size w) (hH : HoldsK enc k w blk off d) (hblk : blk < w.heap.size) (hsz : d.size < 4611686018427387904) :
    Calls Try.prog 42 #[.slice (some ⟨blk, off, none⟩) d.size cap, .func (.func g) #[] cb] w fun e w' =>
      e = .returned (.tuple #[]) ∧ ∃ d' n os, PermIn 0 d.size d d' ∧ SortedIn (ltOf cf) 0 d.size d' ∧ w' = sortWorldK enc k w blk off n d' os := AnyQ.slices_SortFunc Try.laysSlF06_f42 k aE zE enc hk h1 cf hO g cb blk off cap d w eg hcmp hH hblk hsz
open Go.RowKit Go.Lib Go.Sort in
/-- **slices.SortFunc AT NO ELEMENT, A nil SLICE TOO: nothing turns.** (LAID AT THE INSTANCE 'slices.SortFunc[[]api.Ref,api.Ref]': no walk: one application.) -/
theorem Try.slices_SortFunc_none_f39 {α : Type} [Inhabited α] (p : Option Addr) (cap : Nat) (fv : Value) (w : World) :
    Calls Try.prog 39 #[.slice p 0 cap, fv] w fun e w' => e = .returned (.tuple #[]) ∧ w' = w := AnyF.slices_SortFunc_none Try.laysSlF06_f39 p cap fv w
open Go.RowKit Go.Lib Go.Sort in
/-- **slices.SortFunc AT NO ELEMENT, A nil SLICE TOO: nothing turns.** (LAID AT THE INSTANCE 'slices.SortFunc[[]api.Item,api.Item]': no walk: one application.) -/
theorem Try.slices_SortFunc_none_f42 {α : Type} [Inhabited α] (p : Option Addr) (cap : Nat) (fv : Value) (w : World) :
    Calls Try.prog 42 #[.slice p 0 cap, fv] w fun e w' => e = .returned (.tuple #[]) ∧ w' = w := AnyF.slices_SortFunc_none Try.laysSlF06_f42 p cap fv w
end Go.Proofs
end
section
namespace Go.Proofs.Ytjpkkdnilfoafaa.Hand
open Go.Proofs.YtjpkkdnilfoafaaW Go.RowKit Go.Proofs.YtjpkkdnilfoafaaW.PrintWords Go.Proofs.YtjpkkdnilfoafaaW.PrintLast Go.Proofs.YtjpkkdnilfoafaaW.PrintMore Go.Proofs.YtjpkkdnilfoafaaW.SepW Go.Proofs.Ytjpkkdnilfoafaa.PALL Go.Sort
set_option linter.unusedVariables false
set_option linter.unusedSimpArgs false
set_option linter.unusedSectionVars false
section
variable {α : Type} [Inhabited α] {enc : α → List Value} {k : Nat}
theorem flat_len (hk : ∀ x, (enc x).length = k) : ∀ l : List α, (l.flatMap enc).length = l.length * k
  | [] => by simp
  | x :: l => by rw [List.flatMap_cons, List.length_append, flat_len hk l, hk, List.length_cons, Nat.add_mul]; omega
theorem flat_get (hk : ∀ x, (enc x).length = k) (k0 : 0 < k) : ∀ (l : List α) (t : Nat), t < l.length * k → (l.flatMap enc)[t]? = some (enc l[t / k]!)[t % k]!
  | [], t, h => by simp at h
  | x :: l, t, h => by
    rw [List.flatMap_cons]
    by_cases ht : t < k
    · rw [List.getElem?_append_left (by rw [hk]; exact ht), Nat.div_eq_of_lt ht, Nat.mod_eq_of_lt ht, List.getElem?_eq_getElem (by rw [hk]; exact ht)]
      have : (x :: l)[0]! = x := rfl
      rw [this, getElem!_pos _ _ (by rw [hk]; exact ht)]
    · have h2 : t - k < l.length * k := by rw [List.length_cons, Nat.add_mul] at h; omega
      rw [List.getElem?_append_right (by rw [hk]; omega), hk, flat_get hk k0 l (t - k) h2]
      have e1 : t / k = (t - k) / k + 1 := by
        conv => lhs; rw [show t = (t - k) + k by omega]
        exact Nat.add_div_right _ k0
      have e2 : t % k = (t - k) % k := by
        conv => lhs; rw [show t = (t - k) + k by omega]
        exact Nat.add_mod_right _ _
      rw [e1, e2]
      rfl
theorem flatK_list (hk : ∀ x, (enc x).length = k) (k0 : 0 < k) (l : List α) : (flatK enc k l.toArray).toList = l.flatMap enc := by
  apply List.ext_getElem?
  intro t
  by_cases h : t < l.length * k
  · rw [flat_get hk k0 l t h]
    simp [flatK, h]
  · rw [List.getElem?_eq_none (by simp; omega), List.getElem?_eq_none (by rw [flat_len hk]; omega)]
theorem reps_flat {R : α → List Value → Prop} (hk : ∀ x, (enc x).length = k) (hR : ∀ x cs, R x cs → cs = enc x) : ∀ {l : List α} {cs : List Value}, Reps R k l cs → cs = l.flatMap enc
  | [], cs, h => by
    have := h.1
    simp at this
    simp [this]
  | x :: l, cs, h => by
    have h0 := hR _ _ (h.2 0 x rfl)
    simp only [Nat.zero_mul, List.drop_zero] at h0
    have h1 : Reps R k l (cs.drop k) := by
      refine ⟨by rw [List.length_drop, h.1, List.length_cons, Nat.add_mul]; omega, fun j p hp => ?_⟩
      have := h.2 (j + 1) p hp
      rwa [List.drop_drop, show k + j * k = (j + 1) * k by rw [Nat.add_mul]; omega]
    rw [List.flatMap_cons, ← h0, ← reps_flat hk hR h1, List.take_append_drop]
theorem flat_reps {R : α → List Value → Prop} (hk : ∀ x, (enc x).length = k) (hR : ∀ x, R x (enc x)) : ∀ (b a : List α) (ca : List Value), Reps R k a ca → Reps R k (a ++ b) (ca ++ b.flatMap enc)
  | [], a, ca, h => by simpa using h
  | p :: b, a, ca, h => by
    have := flat_reps hk hR b (a ++ [p]) (ca ++ enc p) (h.snoc (hR p) (hk p))
    simpa [List.flatMap_cons, List.append_assoc] using this
theorem put_take (hk : ∀ x, (enc x).length = k) (k0 : 0 < k) (l : List α) (cur : Array Value) (h : l.length * k ≤ cur.size) : (putCells id 0 (flatK enc k l.toArray) cur).toList.take (l.length * k) = l.flatMap enc := by
  rw [← flatK_list hk k0 l]
  apply List.ext_getElem?
  intro t
  by_cases ht : t < l.length * k
  · rw [List.getElem?_take, if_pos ht]
    have hs : t < (flatK enc k l.toArray).size := by simpa using ht
    simp only [Array.getElem?_toList, putCells, Array.getElem?_mapIdx]
    rw [Array.getElem?_eq_getElem (by omega)]
    simp only [Option.map_some]
    rw [if_pos ⟨Nat.zero_le _, by simpa using ht⟩, Array.getElem?_eq_getElem hs]
    simp only [Nat.sub_zero, id]
    rw [getElem!_pos (flatK enc k l.toArray) t hs]
  · rw [List.getElem?_eq_none (by simp; omega), List.getElem?_eq_none (by simp; omega)]
theorem sw_heap (w : World) (g n : Nat) (d : Array α) (os : Array Obj) {cur : Array Value} {e : TypeId} {fr : Nat × Nat} (h : w.heap[g]? = some (.cells cur e fr)) :
    (sortWorldK enc k w g 0 n d os).heap[g]? = some (.cells (putCells id 0 (flatK enc k d) cur) e fr) ∧ ∀ j, j ≠ g → j < w.heap.size → (sortWorldK enc k w g 0 n d os).heap[j]? = w.heap[j]? := by
  have hg : g < w.heap.size := blk_lt h
  unfold sortWorldK
  constructor
  · rw [heap_grow_old _ _ (by rw [size_putRowK]; exact hg)]
    show (w.heap.modify g _)[g]? = _
    rw [Array.getElem?_modify, if_pos rfl, h]
    rfl
  · intro j hj hl
    rw [heap_grow_old _ _ (by rw [size_putRowK]; exact hl)]
    show (w.heap.modify g _)[j]? = _
    rw [Array.getElem?_modify, if_neg (Ne.symm hj)]
theorem sw_below (w : World) (g n b : Nat) (d : Array α) (os : Array Obj) {cur : Array Value} {e : TypeId} {fr : Nat × Nat} (h : w.heap[g]? = some (.cells cur e fr)) (hb : b ≤ g) : Below b w (sortWorldK enc k w g 0 n d os) :=
  ⟨rfl, rfl, rfl, size_sortWorldK_c _ _ _ _ _ _ _ _, fun j hj => (sw_heap w g n d os h).2 j (by omega) (by have := blk_lt h; omega)⟩
/-- A row of one's own as the sort takes it, and as it gives it back. -/
theorem own_sort {d : Kd α} {e : Nat} (hs : d.sz = k) (k0 : 0 < k) (hk : ∀ x, (enc x).length = k) (hO : ∀ {w base ok x cs}, d.M w base ok x cs → cs = enc x) (hM : ∀ w base ok x, d.M w base ok x (enc x)) {w0 w : World} {L : List (Thing w0.heap.size)} (S : Sep w0 w L) (n : Nat) {v : Value} {xs : List α} (h : L[n]? = some (Own _ d e v xs)) :
    (v = .slice none 0 0 ∧ xs = []) ∨ ∃ g cap, v = .slice (some ⟨g, 0, none⟩) xs.length cap ∧ HoldsK enc k w g 0 xs.toArray ∧ g < w.heap.size ∧ ∀ (ys : List α) (m : Nat) (os : Array Obj), ys.length = xs.length → Sep w0 (sortWorldK enc k w g 0 m ys.toArray os) (L.set n (Own _ d e v ys)) := by
  obtain ⟨ok, h1, hp, hu⟩ := SepI.upd n S.items h
  obtain ⟨hb, inner, ho, hr⟩ : d.R e w w0.heap.size ok v xs := hp
  obtain ⟨hl, ho⟩ := ho
  subst hs
  have hfl := reps_flat hk (fun x cs hx => hO hx) hr
  rcases ho with ⟨rfl, h0⟩ | ⟨g, cap, cur, rfl, hg, hh, hc1, hc2, hc3, hc4⟩
  · exact .inl ⟨rfl, List.length_eq_zero_iff.1 h0⟩
  · refine .inr ⟨g, cap, rfl, ?_, blk_lt hh, fun ys m os hy => ?_⟩
    · intro j hj
      have hj' : j < xs.length * d.sz := by simpa using hj
      rw [Nat.zero_add]
      refine ⟨?_, blk_frozen hh j⟩
      rw [blk_cell hh j, ← Array.getElem?_toList]
      have : (cur.toList.take (xs.length * d.sz))[j]? = (xs.flatMap enc)[j]? := by rw [hc4, hfl]
      rw [List.getElem?_take, if_pos hj'] at this
      rw [this, ← flatK_list hk k0 xs, Array.getElem?_toList, Array.getElem?_eq_getElem hj]
      rw [getElem!_pos (flatK enc d.sz xs.toArray) j hj]
      rfl
    · have hcs : ys.length * d.sz ≤ cur.size := by rw [hy, hc3]; exact Nat.mul_le_mul_right _ hc1
      obtain ⟨e1, e2⟩ := sw_heap (enc := enc) (k := d.sz) w g m ys.toArray os hh
      refine ⟨S.below.trans (sw_below w g m _ _ os hh hg), hu _ _ (size_sortWorldK_c _ _ _ _ _ _ _ _) (fun j h2 h3 h4 => e2 j (fun e => h4 (e ▸ hb g (by simp [Value.ownBlock]))) h3) (fun _ _ => trivial) ?_⟩
      show d.R e _ _ _ _ ys
      refine ⟨fun j hj => .inl (hb j hj), ys.flatMap enc, ⟨by rw [flat_len hk], .inr ⟨g, cap, _, by rw [hy], hg, e1, by rw [hy]; exact hc1, hc2, by simp [putCells, hc3], put_take hk k0 ys cur hcs⟩⟩, ?_⟩
      simpa using flat_reps hk (fun x => hM _ _ _ x) ys [] [] (Reps.none _ _)
end
end Go.Proofs.Ytjpkkdnilfoafaa.Hand
end
section
namespace Go.Proofs.Ytjpkkdnilfoafaa.Hand
open Go.Proofs.YtjpkkdnilfoafaaW Go.RowKit Go.Proofs.YtjpkkdnilfoafaaW.PrintWords Go.Proofs.YtjpkkdnilfoafaaW.PrintLast Go.Proofs.YtjpkkdnilfoafaaW.PrintMore Go.Proofs.YtjpkkdnilfoafaaW.SepW Go.Proofs.Ytjpkkdnilfoafaa.PALL Go.Sort
set_option linter.unusedVariables false
set_option linter.unusedSimpArgs false
instance : Inhabited S23 := ⟨z23⟩
instance : Inhabited S57 := ⟨z57⟩
instance : Inhabited S61 := ⟨z61⟩
def e49 (x : S23) : List Value := [.int .i64 x.f0, .int .i64 x.f1]
def e51 (x : S61) : List Value := [.int .i64 x.f0.f0, .int .i64 x.f0.f1, .int .i64 x.f1.f0, .int .i64 x.f1.f1, .int .i64 x.f1.f2, .int .i64 x.f1.f3]
/-- The order of references. -/
def ltR (a b : S23) : Bool := decide (a.f0 < b.f0 ∨ a.f0 = b.f0 ∧ a.f1 < b.f1)
/-- The order of items. -/
def ltT (a b : S61) : Bool := decide (placeI a.f1 < placeI b.f1) || (decide (placeI a.f1 = placeI b.f1) && ltR a.f0 b.f0)
theorem orI_lt (a b : Int) : orI a b < 0 ↔ a < 0 ∨ a = 0 ∧ b < 0 := by unfold orI; split <;> omega
theorem cmpI_lt (x y : Int) : cmpI x y < 0 ↔ x < y := by unfold cmpI; split <;> (try split) <;> omega
theorem cmpI_eq (x y : Int) : cmpI x y = 0 ↔ x = y := by unfold cmpI; split <;> (try split) <;> omega
theorem ltOf_R : ltOf cmpR = ltR := by
  funext x y
  unfold ltOf ltR cmpR
  simp only [orI_lt, cmpI_lt, cmpI_eq]
theorem ltOf_T : ltOf cmpT = ltT := by
  funext x y
  unfold ltOf ltT cmpT
  rw [Bool.eq_iff_iff]
  simp only [decide_eq_true_eq, orI_lt, cmpI_lt, cmpI_eq, Bool.or_eq_true, Bool.and_eq_true]
  have := congrFun (congrFun ltOf_R x.f0) y.f0
  unfold ltOf at this
  rw [← this, decide_eq_true_eq]
theorem ltR_iff (a b : S23) : ltR a b = true ↔ a.f0 < b.f0 ∨ a.f0 = b.f0 ∧ a.f1 < b.f1 := by unfold ltR; rw [decide_eq_true_eq]
theorem ltR_no (a b : S23) : ltR a b = false ↔ ¬ (a.f0 < b.f0 ∨ a.f0 = b.f0 ∧ a.f1 < b.f1) := by unfold ltR; rw [decide_eq_false_iff_not]
theorem ltT_iff (a b : S61) : ltT a b = true ↔ placeI a.f1 < placeI b.f1 ∨ placeI a.f1 = placeI b.f1 ∧ ltR a.f0 b.f0 = true := by unfold ltT; simp
theorem ltT_no (a b : S61) : ltT a b = false ↔ ¬ (placeI a.f1 < placeI b.f1 ∨ placeI a.f1 = placeI b.f1 ∧ ltR a.f0 b.f0 = true) := by rw [← ltT_iff]; simp
theorem swoR : SWO ltR where
  irrefl x := by rw [ltR_no]; omega
  trans x y z h1 h2 := by rw [ltR_iff] at *; omega
  ntrans x y z h1 h2 := by rw [ltR_no] at *; omega
theorem swoT : SWO ltT where
  irrefl x := by rw [ltT_no, ltR_iff]; omega
  trans x y z h1 h2 := by rw [ltT_iff, ltR_iff] at *; omega
  ntrans x y z h1 h2 := by rw [ltT_no, ltR_iff] at *; omega
theorem ltR_total (x y : S23) (h1 : ltR x y = false) (h2 : ltR y x = false) : x = y := by
  rw [ltR_no] at h1 h2
  cases x; cases y
  simp only [S23.mk.injEq]
  dsimp only at h1 h2
  omega
theorem perm_list {α : Type} [Inhabited α] {xs : List α} {d' : Array α} (h : PermIn 0 xs.toArray.size xs.toArray d') : d'.toList.Perm xs := by
  obtain ⟨h1, _, h3⟩ := h
  have e1 : (d'.extract 0 xs.toArray.size).toList = d'.toList := by rw [← h1]; simp
  have e2 : (xs.toArray.extract 0 xs.toArray.size).toList = xs := by simp
  rwa [e1, e2] at h3
theorem sorted_list {α : Type} [Inhabited α] {lt : α → α → Bool} {xs : List α} {d' : Array α} (hp : PermIn 0 xs.toArray.size xs.toArray d') (h : SortedIn lt 0 xs.toArray.size d') : d'.toList.Pairwise (fun a b => lt b a = false) := by
  rw [List.pairwise_iff_getElem]
  intro i j hi hj hij
  have hs : d'.size = xs.length := by have := hp.1; simpa using this
  have := h i j (Nat.zero_le _) hij (by simp at hj ⊢; omega)
  rw [getElem!_pos d' j (by simpa using hj), getElem!_pos d' i (by simpa using hi)] at this
  simpa using this
theorem set_same {α : Type} {l : List α} {n : Nat} {a : α} (h : l[n]? = some a) : l.set n a = l := by
  apply List.ext_getElem?
  intro i
  rw [List.getElem?_set]
  split
  · subst_vars
    have := (List.getElem?_eq_some_iff.1 h).1
    rw [if_pos this, h]
  · rfl
/-- slices.SortFunc at references. -/
theorem sort_refs {w0 w : World} {L : List (Thing w0.heap.size)} (S : Sep w0 w L) (n : Nat) {v : Value} {xs : List S23} (h : L[n]? = some (Own _ k23 23 v xs)) (hl : xs.length ≤ 1000000) :
    Calls Try.prog 39 #[v, .func (.func 40) #[] #[]] w fun e w' => e = .returned (.tuple #[]) ∧ ∃ ys : List S23, ys.Perm xs ∧ ys.Pairwise (fun a b => ltR b a = false) ∧ Sep w0 w' (L.set n (Own _ k23 23 v ys)) := by
  rcases own_sort (α := S23) (d := k23) (enc := e49) (k := 2) rfl (by decide) (fun _ => rfl) (fun hx => k23_openM hx) (fun w b ok x => k23_mkM w b ok x) S n h with ⟨rfl, rfl⟩ | ⟨g, cap, rfl, hH, hg, hS⟩
  · refine (Try.slices_SortFunc_none_f39 (α := S23) none 0 _ w).mono ?_
    rintro e w' ⟨rfl, rfl⟩
    exact ⟨rfl, [], .refl _, .nil, by rwa [set_same h]⟩
  · have hO : SWO (ltOf cmpR) := by rw [ltOf_R]; exact swoR
    have hc := Try.slices_SortFunc_f39 (α := S23) 2 Try.isAgg23 Try.sizeOf23 e49 (fun _ => rfl) (fun x u hu => by simp [e49] at hu; rcases hu with rfl | rfl <;> rfl) cmpR hO 40 #[] g 0 cap xs.toArray w (enters_of Try.func40 (by kernel_rfl) rfl) (fun m os dk hs x y => (compare_gr x y _).mono fun _ _ h => ⟨h.1, h.2⟩) hH hg (by simp; omega)
    refine Calls.mono hc ?_
    rintro e w' ⟨rfl, d', m, os, hp, hs, rfl⟩
    rw [ltOf_R] at hs
    refine ⟨rfl, d'.toList, perm_list hp, sorted_list hp hs, ?_⟩
    have := hS d'.toList m os (perm_list hp).length_eq
    simpa using this
/-- slices.SortFunc at items. -/
theorem sort_items {w0 w : World} {L : List (Thing w0.heap.size)} (S : Sep w0 w L) (n : Nat) {v : Value} {xs : List S61} (h : L[n]? = some (Own _ k61 61 v xs)) (hl : xs.length ≤ 1000000) :
    Calls Try.prog 42 #[v, .func (.func 43) #[] #[]] w fun e w' => e = .returned (.tuple #[]) ∧ ∃ ys : List S61, ys.Perm xs ∧ ys.Pairwise (fun a b => ltT b a = false) ∧ Sep w0 w' (L.set n (Own _ k61 61 v ys)) := by
  rcases own_sort (α := S61) (d := k61) (enc := e51) (k := 6) rfl (by decide) (fun _ => rfl) (fun hx => k61_openM hx) (fun w b ok x => k61_mkM w b ok x) S n h with ⟨rfl, rfl⟩ | ⟨g, cap, rfl, hH, hg, hS⟩
  · refine (Try.slices_SortFunc_none_f42 (α := S61) none 0 _ w).mono ?_
    rintro e w' ⟨rfl, rfl⟩
    exact ⟨rfl, [], .refl _, .nil, by rwa [set_same h]⟩
  · have hO : SWO (ltOf cmpT) := by rw [ltOf_T]; exact swoT
    have hc := Try.slices_SortFunc_f42 (α := S61) 6 Try.isAgg61 Try.sizeOf61 e51 (fun _ => rfl) (fun x u hu => by simp [e51] at hu; rcases hu with rfl | rfl | rfl | rfl | rfl | rfl <;> rfl) cmpT hO 43 #[] g 0 cap xs.toArray w (enters_of Try.func43 (by kernel_rfl) rfl) (fun m os dk hs x y => (new1_gr x y _).mono fun _ _ h => ⟨h.1, h.2⟩) hH hg (by simp; omega)
    refine Calls.mono hc ?_
    rintro e w' ⟨rfl, d', m, os, hp, hs, rfl⟩
    rw [ltOf_T] at hs
    refine ⟨rfl, d'.toList, perm_list hp, sorted_list hp hs, ?_⟩
    have := hS d'.toList m os (perm_list hp).length_eq
    simpa using this
end Go.Proofs.Ytjpkkdnilfoafaa.Hand
end
