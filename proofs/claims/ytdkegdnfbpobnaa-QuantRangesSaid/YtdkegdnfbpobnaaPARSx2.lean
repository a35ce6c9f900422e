-- Laid by a program of this work (wip/gen): out of the translation, with texts of our own.
import Derived.Test.YtdkegdnfbpobnaaPARSx0
namespace Go.Proofs.Ytdkegdnfbpobnaa.PARS
open Go.RowKit Go.Proofs.YtdkegdnfbpobnaaW.PrintWords Go.Proofs.YtdkegdnfbpobnaaW.PrintLast Go.Proofs.YtdkegdnfbpobnaaW.PrintMore Go.Proofs.YtdkegdnfbpobnaaW.SepW
attribute [local go_sem] max2_int min2_int max_two min_two max_three min_three max_four min_four   -- for this text's walks alone
set_option linter.unusedVariables false
set_option linter.unusedSimpArgs false

/-! ### tilegrid_side: function 41 -/
def tilegrid_side.f (a0 : Int) : Option (Int) := if 0 ≤ a0 then (some (shl .i64 1 a0)) else (none)
set_option maxHeartbeats 8000000 in
set_option maxRecDepth 100000 in
theorem tilegrid_side.calls (a0 : Int) (r : Int) (w : World) (h : tilegrid_side.f a0 = some r) :
  Calls Try.prog 41 #[.int .i64 a0] w fun e w' => e = .returned (.int .i64 r) ∧ Drawn0 w w' := by
 have H : (if 0 ≤ a0 then (some (shl .i64 1 a0)) else (none)) = some r := h
 clear h
 by_cases c2 : 0 ≤ a0
 ·rw [if_pos c2] at H
  have c2b0 := eq_true c2
  have c2b1 : decide (0 ≤ a0) = true := decide_eq_true c2
  clear c2
  obtain ⟨ji3, hji3⟩ : ∃ j_ : Int, (shl .i64 1 a0) = j_ := ⟨_, rfl⟩
  replace H : (some ji3) = some r := by first | (rw [hji3] at H; exact H) | (simp only [hji3] at H ⊢; exact H)
  have hji3_ : (IntKind.i64.wrap (1 * 2 ^ min a0.toNat 64)) = ji3 := hji3
  have hji3z : a0 ≤ 64 → (IntKind.i64.wrap (1 * 2 ^ a0.toNat)) = ji3 := shl_small hji3
  have hji3u : (IntKind.i64.wrap (2 ^ min a0.toNat 64)) = ji3 := by have h_ := hji3_; rw [Int.one_mul] at h_; exact h_
  have hji3v : a0 ≤ 64 → (IntKind.i64.wrap (2 ^ a0.toNat)) = ji3 := fun hle_ => by have h_ := hji3z hle_; rw [Int.one_mul] at h_; exact h_
  have hji3y : (wrap64 (1 * 2 ^ min a0.toNat 64)) = ji3 := (i64_w _).symm.trans hji3_
  have hji3x : a0 ≤ 64 → (wrap64 (1 * 2 ^ a0.toNat)) = ji3 := fun h_ => (i64_w _).symm.trans (hji3z h_)
  obtain rfl := Option.some.inj H
  go_enter Try.func41, Try.ntmps41
  go_wp2
  go_ret
  exact ⟨by first | rfl | (simp; done) | (simp only [← hji3] <;> (first | rfl | simp)) | (simp [*]; done), by repeat (first | exact Drawn0.refl _ | apply Drawn0.step)⟩
 ·rw [if_neg c2] at H
  exact absurd H (by simp)

/-! ### tilegrid_Size: function 21 -/
def tilegrid_Size.f (a0 : Int) : Option (Int) := if a0 < 0 then (some 0) else (if a0 > 7 then (some 0) else ((tilegrid_side.f a0).bind fun t101 => (if t101 = 0 then (none) else (some (wrap64 ((32768 : Int) / t101))))))
set_option maxHeartbeats 8000000 in
set_option maxRecDepth 100000 in
theorem tilegrid_Size.calls (a0 : Int) (r : Int) (w : World) (h : tilegrid_Size.f a0 = some r) :
  Calls Try.prog 21 #[.int .i64 a0] w fun e w' => e = .returned (.int .i64 r) ∧ Drawn0 w w' := by
 have H : (if a0 < 0 then (some 0) else (if a0 > 7 then (some 0) else ((tilegrid_side.f a0).bind fun t101 => (if t101 = 0 then (none) else (some (wrap64 ((32768 : Int) / t101))))))) = some r := h
 clear h
 by_cases c2 : a0 < 0
 ·rw [if_pos c2] at H
  have c2b0 : decide (a0 < 0) = true := decide_eq_true c2
  clear c2
  obtain rfl := Option.some.inj H
  go_enter Try.func21, Try.ntmps21
  go_wp2
  go_ret
  exact ⟨by first | rfl | (simp; done) | (simp [Int.tdiv_eq_ediv_of_nonneg]; done) | (simp [*]; done), by repeat (first | exact Drawn0.refl _ | apply Drawn0.step)⟩
 ·rw [if_neg c2] at H
  have c2b0 : decide (a0 < 0) = false := decide_eq_false c2
  clear c2
  by_cases c3 : a0 > 7
  ·rw [if_pos c3] at H
   have c3b0 : decide (7 < a0) = true := decide_eq_true c3
   clear c3
   obtain rfl := Option.some.inj H
   go_enter Try.func21, Try.ntmps21
   go_wp2
   go_ret
   exact ⟨by first | rfl | (simp; done) | (simp [Int.tdiv_eq_ediv_of_nonneg]; done) | (simp [*]; done), by repeat (first | exact Drawn0.refl _ | apply Drawn0.step)⟩
  ·rw [if_neg c3] at H
   have c3b0 : decide (7 < a0) = false := decide_eq_false c3
   clear c3
   replace H := Option.bind_eq_some_iff.mp H
   obtain ⟨t101, A40, H⟩ := H
   replace H : (if t101 = 0 then (none) else (some (wrap64 ((32768 : Int) / t101)))) = some r := H
   have A4 := Aside0.mk A40
   clear A40
   by_cases c5 : t101 = 0
   ·rw [if_pos c5] at H
    exact absurd H (by simp)
   ·rw [if_neg c5] at H
    have c5b0 : (t101 == 0) = false := beq_eq_false_iff_ne.mpr c5
    have c5b1 : (t101 != 0) = true := bne_iff_ne.mpr c5
    obtain rfl := Option.some.inj H
    go_enter Try.func21, Try.ntmps21
    go_wp2_with (first | ((with_reducible refine gate_callee (f := 41) rfl ?_); refine goesL_ (some 10) rfl rfl Try.func41 (by kernel_rfl) rfl #[.int .i64 a0] rfl (by (try simp only [List.map_toArray, List.map_cons, List.map_nil]); first | done | rfl | (simp only [List.length_drop, List.length_take]; rfl)) ?_; (with_reducible refine (tilegrid_side.calls a0 t101 _ A4.out).mono ?_); rintro e w' ⟨rfl, ⟨nd, rfl⟩⟩; refine ⟨_, rfl, ?_⟩))
    go_ret
    exact ⟨by first | rfl | (simp; done) | (simp [Int.tdiv_eq_ediv_of_nonneg]; done) | (simp [*]; done), by repeat (first | exact Drawn0.refl _ | apply Drawn0.step)⟩

/-! by hand -/
/-! ### tilegrid_Check: function 40 -/

def tilegrid_Check.f (a0_0 : Int) (a0_1 : Int) (a0_2 : Int) : Option (Int) := if a0_0 < 0 then (some 16) else (if a0_0 > 7 then (some 16) else (if a0_1 < 0 then (some 16) else ((tilegrid_side.f a0_0).bind fun t103 => (if a0_1 ≥ t103 then (some 16) else (if a0_2 < 0 then (some 16) else ((tilegrid_side.f a0_0).bind fun t104 => (if a0_2 ≥ t104 then (some 16) else (some 0))))))))
set_option maxHeartbeats 1000000 in
set_option maxRecDepth 100000 in
theorem tilegrid_Check.calls (z x y r : Int) (w : World) (h : tilegrid_Check.f z x y = some r) :
  Calls Try.prog 40 #[.agg #[.int .i64 z, .int .i64 x, .int .i64 y]] w fun e w' => e = .returned (.int .i64 r) ∧ Below w.heap.size w w' := by
 have hu23 := Try.underlying23
 have S := Sep.start w
 unfold tilegrid_Check.f at h
 by_cases cz0 : z < 0
 ·rw [if_pos cz0] at h
  have dz0 : decide (z < 0) = true := decide_eq_true cz0
  obtain rfl := Option.some.inj h
  clear h cz0
  go_enter Try.func40, Try.ntmps40
  go_wp2_with (first | ((with_reducible refine gate_dst (N := 1) rfl ?_); refine box_event ?hg (N := 1) ?hd (cs := #[.int .i64 z, .int .i64 x, .int .i64 y]) (t := 23) ?hr ?_; (case hd => rfl); (case hg => rfl); (case hr => first | (go_simp; done) | (go_simp; rfl)); intro g1 hg w1 hbox hb; replace S := (S).box hg hbox hb; clear hbox hb hg; have c_0 := blk_cell (S.at_box 0 rfl) 0; have c_1 := blk_cell (S.at_box 0 rfl) 1; have c_2 := blk_cell (S.at_box 0 rfl) 2; simp only [List.getElem?_toArray, List.getElem?_cons_zero, List.getElem?_cons_succ] at c_0 c_1 c_2))
  go_quiet (fail)
  go_wp2
  go_ret
  exact ⟨rfl, pw_below_drewN S.below _⟩
 rw [if_neg cz0] at h
 have dz0 : decide (z < 0) = false := decide_eq_false cz0
 clear cz0
 by_cases cz7 : z > 7
 ·rw [if_pos cz7] at h
  have dz7 : decide (7 < z) = true := decide_eq_true cz7
  obtain rfl := Option.some.inj h
  clear h cz7
  go_enter Try.func40, Try.ntmps40
  go_wp2_with (first | ((with_reducible refine gate_dst (N := 1) rfl ?_); refine box_event ?hg (N := 1) ?hd (cs := #[.int .i64 z, .int .i64 x, .int .i64 y]) (t := 23) ?hr ?_; (case hd => rfl); (case hg => rfl); (case hr => first | (go_simp; done) | (go_simp; rfl)); intro g1 hg w1 hbox hb; replace S := (S).box hg hbox hb; clear hbox hb hg; have c_0 := blk_cell (S.at_box 0 rfl) 0; have c_1 := blk_cell (S.at_box 0 rfl) 1; have c_2 := blk_cell (S.at_box 0 rfl) 2; simp only [List.getElem?_toArray, List.getElem?_cons_zero, List.getElem?_cons_succ] at c_0 c_1 c_2))
  go_quiet (fail)
  go_wp2
  go_ret
  exact ⟨rfl, pw_below_drewN S.below _⟩
 rw [if_neg cz7] at h
 have dz7 : decide (7 < z) = false := decide_eq_false cz7
 clear cz7
 by_cases cx0 : x < 0
 ·rw [if_pos cx0] at h
  have dx0 : decide (x < 0) = true := decide_eq_true cx0
  obtain rfl := Option.some.inj h
  clear h cx0
  go_enter Try.func40, Try.ntmps40
  go_wp2_with (first | ((with_reducible refine gate_dst (N := 1) rfl ?_); refine box_event ?hg (N := 1) ?hd (cs := #[.int .i64 z, .int .i64 x, .int .i64 y]) (t := 23) ?hr ?_; (case hd => rfl); (case hg => rfl); (case hr => first | (go_simp; done) | (go_simp; rfl)); intro g1 hg w1 hbox hb; replace S := (S).box hg hbox hb; clear hbox hb hg; have c_0 := blk_cell (S.at_box 0 rfl) 0; have c_1 := blk_cell (S.at_box 0 rfl) 1; have c_2 := blk_cell (S.at_box 0 rfl) 2; simp only [List.getElem?_toArray, List.getElem?_cons_zero, List.getElem?_cons_succ] at c_0 c_1 c_2))
  go_quiet (fail)
  go_wp2
  go_ret
  exact ⟨rfl, pw_below_drewN S.below _⟩
 rw [if_neg cx0] at h
 have dx0 : decide (x < 0) = false := decide_eq_false cx0
 clear cx0
 obtain ⟨sd, hs, h⟩ := Option.bind_eq_some_iff.mp h
 have HS := Aside0.mk hs
 clear hs
 by_cases cxs : x ≥ sd
 ·rw [if_pos cxs] at h
  have dxs : decide (sd ≤ x) = true := decide_eq_true cxs
  obtain rfl := Option.some.inj h
  clear h cxs
  go_enter Try.func40, Try.ntmps40
  go_wp2_with (first | ((with_reducible refine gate_dst (N := 1) rfl ?_); refine box_event ?hg (N := 1) ?hd (cs := #[.int .i64 z, .int .i64 x, .int .i64 y]) (t := 23) ?hr ?_; (case hd => rfl); (case hg => rfl); (case hr => first | (go_simp; done) | (go_simp; rfl)); intro g1 hg w1 hbox hb; replace S := (S).box hg hbox hb; clear hbox hb hg; have c_0 := blk_cell (S.at_box 0 rfl) 0; have c_1 := blk_cell (S.at_box 0 rfl) 1; have c_2 := blk_cell (S.at_box 0 rfl) 2; simp only [List.getElem?_toArray, List.getElem?_cons_zero, List.getElem?_cons_succ] at c_0 c_1 c_2))
  go_quiet (exact Calls.quiet_of ((tilegrid_side.calls z sd _ HS.out).mono (fun _ _ h => ⟨h.1, h.2.out⟩)))
  go_wp2
  go_ret
  exact ⟨rfl, pw_below_drewN S.below _⟩
 rw [if_neg cxs] at h
 have dxs : decide (sd ≤ x) = false := decide_eq_false cxs
 clear cxs
 by_cases cy0 : y < 0
 ·rw [if_pos cy0] at h
  have dy0 : decide (y < 0) = true := decide_eq_true cy0
  obtain rfl := Option.some.inj h
  clear h cy0
  go_enter Try.func40, Try.ntmps40
  go_wp2_with (first | ((with_reducible refine gate_dst (N := 1) rfl ?_); refine box_event ?hg (N := 1) ?hd (cs := #[.int .i64 z, .int .i64 x, .int .i64 y]) (t := 23) ?hr ?_; (case hd => rfl); (case hg => rfl); (case hr => first | (go_simp; done) | (go_simp; rfl)); intro g1 hg w1 hbox hb; replace S := (S).box hg hbox hb; clear hbox hb hg; have c_0 := blk_cell (S.at_box 0 rfl) 0; have c_1 := blk_cell (S.at_box 0 rfl) 1; have c_2 := blk_cell (S.at_box 0 rfl) 2; simp only [List.getElem?_toArray, List.getElem?_cons_zero, List.getElem?_cons_succ] at c_0 c_1 c_2))
  go_quiet (exact Calls.quiet_of ((tilegrid_side.calls z sd _ HS.out).mono (fun _ _ h => ⟨h.1, h.2.out⟩)))
  go_wp2
  go_ret
  exact ⟨rfl, pw_below_drewN S.below _⟩
 rw [if_neg cy0] at h
 have dy0 : decide (y < 0) = false := decide_eq_false cy0
 clear cy0
 obtain ⟨sd2, hs2, h⟩ := Option.bind_eq_some_iff.mp h
 obtain rfl : sd = sd2 := Option.some.inj (HS.out.symm.trans hs2)
 clear hs2
 by_cases cys : y ≥ sd
 ·rw [if_pos cys] at h
  have dys : decide (sd ≤ y) = true := decide_eq_true cys
  obtain rfl := Option.some.inj h
  clear h cys
  go_enter Try.func40, Try.ntmps40
  go_wp2_with (first | ((with_reducible refine gate_dst (N := 1) rfl ?_); refine box_event ?hg (N := 1) ?hd (cs := #[.int .i64 z, .int .i64 x, .int .i64 y]) (t := 23) ?hr ?_; (case hd => rfl); (case hg => rfl); (case hr => first | (go_simp; done) | (go_simp; rfl)); intro g1 hg w1 hbox hb; replace S := (S).box hg hbox hb; clear hbox hb hg; have c_0 := blk_cell (S.at_box 0 rfl) 0; have c_1 := blk_cell (S.at_box 0 rfl) 1; have c_2 := blk_cell (S.at_box 0 rfl) 2; simp only [List.getElem?_toArray, List.getElem?_cons_zero, List.getElem?_cons_succ] at c_0 c_1 c_2))
  go_quiet (exact Calls.quiet_of ((tilegrid_side.calls z sd _ HS.out).mono (fun _ _ h => ⟨h.1, h.2.out⟩)))
  go_wp2
  go_ret
  exact ⟨rfl, pw_below_drewN S.below _⟩
 rw [if_neg cys] at h
 have dys : decide (sd ≤ y) = false := decide_eq_false cys
 clear cys
 obtain rfl := Option.some.inj h
 clear h
 go_enter Try.func40, Try.ntmps40
 go_wp2_with (first | ((with_reducible refine gate_dst (N := 1) rfl ?_); refine box_event ?hg (N := 1) ?hd (cs := #[.int .i64 z, .int .i64 x, .int .i64 y]) (t := 23) ?hr ?_; (case hd => rfl); (case hg => rfl); (case hr => first | (go_simp; done) | (go_simp; rfl)); intro g1 hg w1 hbox hb; replace S := (S).box hg hbox hb; clear hbox hb hg; have c_0 := blk_cell (S.at_box 0 rfl) 0; have c_1 := blk_cell (S.at_box 0 rfl) 1; have c_2 := blk_cell (S.at_box 0 rfl) 2; simp only [List.getElem?_toArray, List.getElem?_cons_zero, List.getElem?_cons_succ] at c_0 c_1 c_2))
 go_quiet (exact Calls.quiet_of ((tilegrid_side.calls z sd _ HS.out).mono (fun _ _ h => ⟨h.1, h.2.out⟩)))
 go_wp2
 go_ret
 exact ⟨rfl, pw_below_drewN S.below _⟩


/-! ### tilegrid_Box: function 20 -/
def tilegrid_Box.f (a0_0 : Int) (a0_1 : Int) (a0_2 : Int) : Option (Int × Int × Int × Int × Int) := (tilegrid_Check.f a0_0 a0_1 a0_2).bind fun t104 => (if t104 = 0 then ((tilegrid_Size.f a0_0).bind fun t105 => (some (wrap64 (a0_1 * t105), wrap64 (a0_2 * t105), wrap64 ((wrap64 (a0_1 + 1)) * t105), wrap64 ((wrap64 (a0_2 + 1)) * t105), 0))) else (some (0, 0, 0, 0, t104)))
set_option maxHeartbeats 8000000 in
set_option maxRecDepth 100000 in
theorem tilegrid_Box.calls (a0_0 : Int) (a0_1 : Int) (a0_2 : Int) (r1 : Int) (r2 : Int) (r3 : Int) (r4 : Int) (r5 : Int) (w : World) (h : tilegrid_Box.f a0_0 a0_1 a0_2 = some (r1, r2, r3, r4, r5)) :
  Calls Try.prog 20 #[.agg #[.int .i64 a0_0, .int .i64 a0_1, .int .i64 a0_2]] w fun e w' => e = .returned (.tuple #[.agg #[.int .i64 r1, .int .i64 r2, .int .i64 r3, .int .i64 r4], .int .i64 r5]) ∧ Below w.heap.size w w' := by
 have hu23 := Try.underlying23
 have hu40 := Try.underlying40
 have HB := Aside0.mk (Below.refl w.heap.size w)
 have H : ((tilegrid_Check.f a0_0 a0_1 a0_2).bind fun t104 => (if t104 = 0 then ((tilegrid_Size.f a0_0).bind fun t105 => (some (wrap64 (a0_1 * t105), wrap64 (a0_2 * t105), wrap64 ((wrap64 (a0_1 + 1)) * t105), wrap64 ((wrap64 (a0_2 + 1)) * t105), 0))) else (some (0, 0, 0, 0, t104)))) = some (r1, r2, r3, r4, r5) := h
 clear h
 replace H := Option.bind_eq_some_iff.mp H
 obtain ⟨t104, A20, H⟩ := H
 replace H : (if t104 = 0 then ((tilegrid_Size.f a0_0).bind fun t105 => (some (wrap64 (a0_1 * t105), wrap64 (a0_2 * t105), wrap64 ((wrap64 (a0_1 + 1)) * t105), wrap64 ((wrap64 (a0_2 + 1)) * t105), 0))) else (some (0, 0, 0, 0, t104))) = some (r1, r2, r3, r4, r5) := H
 have A2 := Aside0.mk A20
 clear A20
 by_cases c3 : t104 = 0
 ·rw [if_pos c3] at H
  have c3b0 : (t104 == 0) = true := beq_iff_eq.mpr c3
  have c3b1 : (t104 != 0) = false := bne_eq_false_iff_eq.mpr c3
  clear c3
  replace H := Option.bind_eq_some_iff.mp H
  obtain ⟨t105, A40, H⟩ := H
  replace H : (some (wrap64 (a0_1 * t105), wrap64 (a0_2 * t105), wrap64 ((wrap64 (a0_1 + 1)) * t105), wrap64 ((wrap64 (a0_2 + 1)) * t105), 0)) = some (r1, r2, r3, r4, r5) := H
  have A4 := Aside0.mk A40
  clear A40
  simp only [Option.some.injEq, Prod.mk.injEq] at H
  obtain ⟨rfl, rfl, rfl, rfl, rfl⟩ := H
  go_enter Try.func20, Try.ntmps20
  go_wp2_with (first | ((with_reducible refine gate_dst (N := 1) rfl ?_); refine box_event ?hg (N := 1) ?hd (cs := #[.int .i64 a0_0, .int .i64 a0_1, .int .i64 a0_2]) (t := 23) ?hr ?_; (case hd => rfl); (case hg => rfl); (case hr => first | (go_simp; done) | (go_simp; rfl)); intro gb102 hg w5 hbox hb; have n0_ := Aside0.mk (below_step (by repeat (first | (with_reducible first | exact HB.out | apply below_alloc | apply pw_below_drewN | apply below_drew1) | exact HB.out)) hb); have n1_ := Aside0.mk (hbox); have n2_ := Aside0.mk ((by rw [hg]; exact (below_size (by repeat (first | (with_reducible first | exact HB.out | apply below_alloc | apply pw_below_drewN | apply below_drew1) | exact HB.out))) : w.heap.size ≤ gb102)); have n3_ := Aside0.mk ((by rw [hg]; exact (below_size (by repeat (first | (with_reducible first | exact HB.out | apply below_alloc | apply pw_below_drewN | apply below_drew1) | exact HB.out))) : w.heap.size ≤ gb102)); clear HB; have HB := n0_; have BK102 := n1_; have GW102 := n2_; have GE102 := n3_; clear n0_ n1_ n2_ n3_; clear hb hbox hg) | ((with_reducible refine gate_dst (N := 2) rfl ?_); refine box_event ?hg (N := 2) ?hd (cs := #[.int .i64 0, .int .i64 0, .int .i64 0, .int .i64 0]) (t := 40) ?hr ?_; (case hd => rfl); (case hg => rfl); (case hr => first | (go_simp; done) | (go_simp; rfl)); intro gb103 hg w6 hbox hb; have n0_ := Aside0.mk (blk_below (g := gb102) (o := .cells #[.int .i64 a0_0, .int .i64 a0_1, .int .i64 a0_2] 23 (0, 0)) (by (with_reducible repeat (first | apply blk_drewN | apply blk_drew | apply blk_alloc)); exact BK102.out) hb); have n1_ := Aside0.mk (below_step (by repeat (first | (with_reducible first | exact HB.out | apply below_alloc | apply pw_below_drewN | apply below_drew1 | refine below_set ?_ GE102.out) | exact HB.out)) hb); have n2_ := Aside0.mk (hbox); have n3_ := Aside0.mk ((by rw [hg]; exact (below_size (by repeat (first | (with_reducible first | exact HB.out | apply below_alloc | apply pw_below_drewN | apply below_drew1 | refine below_set ?_ GE102.out) | exact HB.out))) : w.heap.size ≤ gb103)); have n4_ := Aside0.mk ((by rw [hg]; exact (below_size (by repeat (first | (with_reducible first | exact HB.out | apply below_alloc | apply pw_below_drewN | apply below_drew1 | refine below_set ?_ GE102.out) | exact HB.out))) : w.heap.size ≤ gb103)); have n5_ := Aside0.mk ((by rw [hg]; exact Nat.ne_of_lt (blk_lt (g := gb102) (o := .cells #[.int .i64 a0_0, .int .i64 a0_1, .int .i64 a0_2] 23 (0, 0)) (by (with_reducible repeat (first | apply blk_drewN | apply blk_drew | apply blk_alloc)); exact BK102.out)) : gb102 ≠ gb103)); have n6_ := Aside0.mk ((by rw [hg]; exact Nat.ne_of_gt (blk_lt (g := gb102) (o := .cells #[.int .i64 a0_0, .int .i64 a0_1, .int .i64 a0_2] 23 (0, 0)) (by (with_reducible repeat (first | apply blk_drewN | apply blk_drew | apply blk_alloc)); exact BK102.out)) : gb103 ≠ gb102)); clear BK102; clear HB; have BK102 := n0_; have HB := n1_; have BK103 := n2_; have GW103 := n3_; have GE103 := n4_; have NB102_103 := n5_; have NB103_102 := n6_; clear n0_ n1_ n2_ n3_ n4_ n5_ n6_; clear hb hbox hg; have hnb7 := NB102_103.out; have hnc7 := NB103_102.out; have hcz8_0 : w6.cell? ⟨gb102, 0, none⟩ = some (.int .i64 a0_0) := (blk_cell BK102.out 0).trans rfl; have hcz8_1 : w6.cell? ⟨gb102, 1, none⟩ = some (.int .i64 a0_1) := (blk_cell BK102.out 1).trans rfl; have hcz8_2 : w6.cell? ⟨gb102, 2, none⟩ = some (.int .i64 a0_2) := (blk_cell BK102.out 2).trans rfl; have hfz8_0 := blk_frozen BK102.out 0; have hfz8_1 := blk_frozen BK102.out 1; have hfz8_2 := blk_frozen BK102.out 2) | ((with_reducible refine gate_callee (f := 40) rfl ?_); refine goesL_ (some 7) rfl rfl Try.func40 (by kernel_rfl) rfl #[.agg #[.int .i64 a0_0, .int .i64 a0_1, .int .i64 a0_2]] rfl (by (try simp only [List.map_toArray, List.map_cons, List.map_nil]); first | done | rfl | (simp only [List.length_drop, List.length_take]; rfl)) ?_; (with_reducible refine (tilegrid_Check.calls a0_0 a0_1 a0_2 t104 _ A2.out).mono ?_); rintro e w9 ⟨rfl, hb⟩; refine ⟨_, rfl, ?_⟩; have n0_ := Aside0.mk (blk_below (g := gb102) (o := .cells #[.int .i64 a0_0, .int .i64 a0_1, .int .i64 a0_2] 23 (0, 0)) (by (with_reducible repeat (first | apply blk_drewN | apply blk_drew | apply blk_alloc)); exact BK102.out) hb); have n1_ := Aside0.mk (blk_below (g := gb103) (o := .cells #[.int .i64 0, .int .i64 0, .int .i64 0, .int .i64 0] 40 (0, 0)) (by (with_reducible repeat (first | apply blk_drewN | apply blk_drew | apply blk_alloc)); exact BK103.out) hb); have n2_ := Aside0.mk (below_step (by repeat (first | (with_reducible first | exact HB.out | apply below_alloc | apply pw_below_drewN | apply below_drew1 | refine below_set ?_ GE102.out | refine below_set ?_ GE103.out) | exact HB.out)) hb); clear BK102; clear BK103; clear HB; have BK102 := n0_; have BK103 := n1_; have HB := n2_; clear n0_ n1_ n2_; (try clear hb); (try clear hb2); (try clear hk); (try clear hi); have hcz10_0 : w9.cell? ⟨gb102, 0, none⟩ = some (.int .i64 a0_0) := (blk_cell BK102.out 0).trans rfl; have hcz10_1 : w9.cell? ⟨gb102, 1, none⟩ = some (.int .i64 a0_1) := (blk_cell BK102.out 1).trans rfl; have hcz10_2 : w9.cell? ⟨gb102, 2, none⟩ = some (.int .i64 a0_2) := (blk_cell BK102.out 2).trans rfl; have hfz10_0 := blk_frozen BK102.out 0; have hfz10_1 := blk_frozen BK102.out 1; have hfz10_2 := blk_frozen BK102.out 2) | ((with_reducible refine gate_callee (f := 21) rfl ?_); refine goesL_ (some 14) rfl rfl Try.func21 (by kernel_rfl) rfl #[.int .i64 a0_0] rfl (by (try simp only [List.map_toArray, List.map_cons, List.map_nil]); first | done | rfl | (simp only [List.length_drop, List.length_take]; rfl)) ?_; (with_reducible refine (tilegrid_Size.calls a0_0 t105 _ A4.out).mono ?_); rintro e w' ⟨rfl, ⟨nd, rfl⟩⟩; refine ⟨_, rfl, ?_⟩; (try (rw [drewN_self w9]; generalize hq_ : World.drewN w9 _ = w9; have n0_ : Aside0 (w9.heap[gb102]? = some (.cells #[.int .i64 a0_0, .int .i64 a0_1, .int .i64 a0_2] 23 (0, 0))) := ⟨by rw [← hq_]; exact (by (with_reducible repeat (first | apply blk_drewN | apply blk_drew | apply blk_alloc)); exact BK102.out)⟩; have n1_ : Aside0 (w9.heap[gb103]? = some (.cells #[.int .i64 0, .int .i64 0, .int .i64 0, .int .i64 0] 40 (0, 0))) := ⟨by rw [← hq_]; exact (by (with_reducible repeat (first | apply blk_drewN | apply blk_drew | apply blk_alloc)); exact BK103.out)⟩; have n2_ : Aside0 (Below w.heap.size w w9) := ⟨by rw [← hq_]; exact (by repeat (first | (with_reducible first | exact HB.out | apply below_alloc | apply pw_below_drewN | apply below_drew1 | refine below_set ?_ GE102.out | refine below_set ?_ GE103.out) | exact HB.out))⟩; clear BK102 BK103 HB hq_; have BK102 := n0_; have BK103 := n1_; have HB := n2_; clear n0_ n1_ n2_)); (try (have hcq102_0 : w9.cell? ⟨gb102, 0, none⟩ = some (.int .i64 a0_0) := (blk_cell BK102.out 0).trans rfl)); (try (have hcq102_1 : w9.cell? ⟨gb102, 1, none⟩ = some (.int .i64 a0_1) := (blk_cell BK102.out 1).trans rfl)); (try (have hcq102_2 : w9.cell? ⟨gb102, 2, none⟩ = some (.int .i64 a0_2) := (blk_cell BK102.out 2).trans rfl)); (try (have hcq103_0 : w9.cell? ⟨gb103, 0, none⟩ = some (.int .i64 0) := (blk_cell BK103.out 0).trans rfl)); (try (have hcq103_1 : w9.cell? ⟨gb103, 1, none⟩ = some (.int .i64 0) := (blk_cell BK103.out 1).trans rfl)); (try (have hcq103_2 : w9.cell? ⟨gb103, 2, none⟩ = some (.int .i64 0) := (blk_cell BK103.out 2).trans rfl)); (try (have hcq103_3 : w9.cell? ⟨gb103, 3, none⟩ = some (.int .i64 0) := (blk_cell BK103.out 3).trans rfl)); have hcz11_0 : w9.cell? ⟨gb103, 0, none⟩ = some (.int .i64 0) := (blk_cell BK103.out 0).trans rfl; have hcz11_1 : w9.cell? ⟨gb103, 1, none⟩ = some (.int .i64 0) := (blk_cell BK103.out 1).trans rfl; have hcz11_2 : w9.cell? ⟨gb103, 2, none⟩ = some (.int .i64 0) := (blk_cell BK103.out 2).trans rfl; have hcz11_3 : w9.cell? ⟨gb103, 3, none⟩ = some (.int .i64 0) := (blk_cell BK103.out 3).trans rfl; have hfz11_0 := blk_frozen BK103.out 0; have hfz11_1 := blk_frozen BK103.out 1; have hfz11_2 := blk_frozen BK103.out 2; have hfz11_3 := blk_frozen BK103.out 3))
  refine bodyPost_ret (results_ct rfl _ _ gb103 40 #[.int .i64 (wrap64 (a0_1 * t105)), .int .i64 (wrap64 (a0_2 * t105)), .int .i64 (wrap64 ((wrap64 (a0_1 + 1)) * t105)), .int .i64 (wrap64 ((wrap64 (a0_2 + 1)) * t105))] (0, 0) _ rfl (by (with_reducible repeat (first | apply blk_drewN | apply blk_drew | apply blk_alloc)); refine blk_put (cs := #[.int .i64 (wrap64 (a0_1 * t105)), .int .i64 (wrap64 (a0_2 * t105)), .int .i64 (wrap64 ((wrap64 (a0_1 + 1)) * t105)), .int .i64 0]) ?_ 3 _ rfl; (with_reducible repeat (first | apply blk_drewN | apply blk_drew | apply blk_alloc)); refine blk_put (cs := #[.int .i64 (wrap64 (a0_1 * t105)), .int .i64 (wrap64 (a0_2 * t105)), .int .i64 0, .int .i64 0]) ?_ 2 _ rfl; (with_reducible repeat (first | apply blk_drewN | apply blk_drew | apply blk_alloc)); refine blk_put (cs := #[.int .i64 (wrap64 (a0_1 * t105)), .int .i64 0, .int .i64 0, .int .i64 0]) ?_ 1 _ rfl; (with_reducible repeat (first | apply blk_drewN | apply blk_drew | apply blk_alloc)); refine blk_put (cs := #[.int .i64 0, .int .i64 0, .int .i64 0, .int .i64 0]) ?_ 0 _ rfl; (with_reducible repeat (first | apply blk_drewN | apply blk_drew | apply blk_alloc)); exact BK103.out) Try.underlying40 rfl (by kernel_rfl)) rfl ?_
  exact ⟨by first | rfl | (simp [errW_none, errW_some] <;> rfl) | (simp [*, errW_none, errW_some] <;> rfl), by repeat (first | (with_reducible first | exact HB.out | apply below_alloc | apply pw_below_drewN | apply below_drew1 | refine below_set ?_ GE102.out | refine below_set ?_ GE103.out) | exact HB.out)⟩
 ·rw [if_neg c3] at H
  have c3b0 : (t104 == 0) = false := beq_eq_false_iff_ne.mpr c3
  have c3b1 : (t104 != 0) = true := bne_iff_ne.mpr c3
  simp only [Option.some.injEq, Prod.mk.injEq] at H
  obtain ⟨rfl, rfl, rfl, rfl, rfl⟩ := H
  go_enter Try.func20, Try.ntmps20
  go_wp2_with (first | ((with_reducible refine gate_dst (N := 1) rfl ?_); refine box_event ?hg (N := 1) ?hd (cs := #[.int .i64 a0_0, .int .i64 a0_1, .int .i64 a0_2]) (t := 23) ?hr ?_; (case hd => rfl); (case hg => rfl); (case hr => first | (go_simp; done) | (go_simp; rfl)); intro gb102 hg w12 hbox hb; have n0_ := Aside0.mk (below_step (by repeat (first | (with_reducible first | exact HB.out | apply below_alloc | apply pw_below_drewN | apply below_drew1) | exact HB.out)) hb); have n1_ := Aside0.mk (hbox); have n2_ := Aside0.mk ((by rw [hg]; exact (below_size (by repeat (first | (with_reducible first | exact HB.out | apply below_alloc | apply pw_below_drewN | apply below_drew1) | exact HB.out))) : w.heap.size ≤ gb102)); have n3_ := Aside0.mk ((by rw [hg]; exact (below_size (by repeat (first | (with_reducible first | exact HB.out | apply below_alloc | apply pw_below_drewN | apply below_drew1) | exact HB.out))) : w.heap.size ≤ gb102)); clear HB; have HB := n0_; have BK102 := n1_; have GW102 := n2_; have GE102 := n3_; clear n0_ n1_ n2_ n3_; clear hb hbox hg) | ((with_reducible refine gate_dst (N := 2) rfl ?_); refine box_event ?hg (N := 2) ?hd (cs := #[.int .i64 0, .int .i64 0, .int .i64 0, .int .i64 0]) (t := 40) ?hr ?_; (case hd => rfl); (case hg => rfl); (case hr => first | (go_simp; done) | (go_simp; rfl)); intro gb103 hg w13 hbox hb; have n0_ := Aside0.mk (blk_below (g := gb102) (o := .cells #[.int .i64 a0_0, .int .i64 a0_1, .int .i64 a0_2] 23 (0, 0)) (by (with_reducible repeat (first | apply blk_drewN | apply blk_drew | apply blk_alloc)); exact BK102.out) hb); have n1_ := Aside0.mk (below_step (by repeat (first | (with_reducible first | exact HB.out | apply below_alloc | apply pw_below_drewN | apply below_drew1 | refine below_set ?_ GE102.out) | exact HB.out)) hb); have n2_ := Aside0.mk (hbox); have n3_ := Aside0.mk ((by rw [hg]; exact (below_size (by repeat (first | (with_reducible first | exact HB.out | apply below_alloc | apply pw_below_drewN | apply below_drew1 | refine below_set ?_ GE102.out) | exact HB.out))) : w.heap.size ≤ gb103)); have n4_ := Aside0.mk ((by rw [hg]; exact (below_size (by repeat (first | (with_reducible first | exact HB.out | apply below_alloc | apply pw_below_drewN | apply below_drew1 | refine below_set ?_ GE102.out) | exact HB.out))) : w.heap.size ≤ gb103)); have n5_ := Aside0.mk ((by rw [hg]; exact Nat.ne_of_lt (blk_lt (g := gb102) (o := .cells #[.int .i64 a0_0, .int .i64 a0_1, .int .i64 a0_2] 23 (0, 0)) (by (with_reducible repeat (first | apply blk_drewN | apply blk_drew | apply blk_alloc)); exact BK102.out)) : gb102 ≠ gb103)); have n6_ := Aside0.mk ((by rw [hg]; exact Nat.ne_of_gt (blk_lt (g := gb102) (o := .cells #[.int .i64 a0_0, .int .i64 a0_1, .int .i64 a0_2] 23 (0, 0)) (by (with_reducible repeat (first | apply blk_drewN | apply blk_drew | apply blk_alloc)); exact BK102.out)) : gb103 ≠ gb102)); clear BK102; clear HB; have BK102 := n0_; have HB := n1_; have BK103 := n2_; have GW103 := n3_; have GE103 := n4_; have NB102_103 := n5_; have NB103_102 := n6_; clear n0_ n1_ n2_ n3_ n4_ n5_ n6_; clear hb hbox hg; have hnb14 := NB102_103.out; have hnc14 := NB103_102.out; have hcz15_0 : w13.cell? ⟨gb102, 0, none⟩ = some (.int .i64 a0_0) := (blk_cell BK102.out 0).trans rfl; have hcz15_1 : w13.cell? ⟨gb102, 1, none⟩ = some (.int .i64 a0_1) := (blk_cell BK102.out 1).trans rfl; have hcz15_2 : w13.cell? ⟨gb102, 2, none⟩ = some (.int .i64 a0_2) := (blk_cell BK102.out 2).trans rfl; have hfz15_0 := blk_frozen BK102.out 0; have hfz15_1 := blk_frozen BK102.out 1; have hfz15_2 := blk_frozen BK102.out 2) | ((with_reducible refine gate_callee (f := 40) rfl ?_); refine goesL_ (some 7) rfl rfl Try.func40 (by kernel_rfl) rfl #[.agg #[.int .i64 a0_0, .int .i64 a0_1, .int .i64 a0_2]] rfl (by (try simp only [List.map_toArray, List.map_cons, List.map_nil]); first | done | rfl | (simp only [List.length_drop, List.length_take]; rfl)) ?_; (with_reducible refine (tilegrid_Check.calls a0_0 a0_1 a0_2 t104 _ A2.out).mono ?_); rintro e w16 ⟨rfl, hb⟩; refine ⟨_, rfl, ?_⟩; have n0_ := Aside0.mk (blk_below (g := gb102) (o := .cells #[.int .i64 a0_0, .int .i64 a0_1, .int .i64 a0_2] 23 (0, 0)) (by (with_reducible repeat (first | apply blk_drewN | apply blk_drew | apply blk_alloc)); exact BK102.out) hb); have n1_ := Aside0.mk (blk_below (g := gb103) (o := .cells #[.int .i64 0, .int .i64 0, .int .i64 0, .int .i64 0] 40 (0, 0)) (by (with_reducible repeat (first | apply blk_drewN | apply blk_drew | apply blk_alloc)); exact BK103.out) hb); have n2_ := Aside0.mk (below_step (by repeat (first | (with_reducible first | exact HB.out | apply below_alloc | apply pw_below_drewN | apply below_drew1 | refine below_set ?_ GE102.out | refine below_set ?_ GE103.out) | exact HB.out)) hb); clear BK102; clear BK103; clear HB; have BK102 := n0_; have BK103 := n1_; have HB := n2_; clear n0_ n1_ n2_; (try clear hb); (try clear hb2); (try clear hk); (try clear hi); have hcz17_0 : w16.cell? ⟨gb103, 0, none⟩ = some (.int .i64 0) := (blk_cell BK103.out 0).trans rfl; have hcz17_1 : w16.cell? ⟨gb103, 1, none⟩ = some (.int .i64 0) := (blk_cell BK103.out 1).trans rfl; have hcz17_2 : w16.cell? ⟨gb103, 2, none⟩ = some (.int .i64 0) := (blk_cell BK103.out 2).trans rfl; have hcz17_3 : w16.cell? ⟨gb103, 3, none⟩ = some (.int .i64 0) := (blk_cell BK103.out 3).trans rfl; have hfz17_0 := blk_frozen BK103.out 0; have hfz17_1 := blk_frozen BK103.out 1; have hfz17_2 := blk_frozen BK103.out 2; have hfz17_3 := blk_frozen BK103.out 3))
  refine bodyPost_ret (results_ct rfl _ _ gb103 40 #[.int .i64 0, .int .i64 0, .int .i64 0, .int .i64 0] (0, 0) _ rfl (by (with_reducible repeat (first | apply blk_drewN | apply blk_drew | apply blk_alloc)); refine blk_put (cs := #[.int .i64 0, .int .i64 0, .int .i64 0, .int .i64 0]) ?_ 3 _ rfl; (with_reducible repeat (first | apply blk_drewN | apply blk_drew | apply blk_alloc)); refine blk_put (cs := #[.int .i64 0, .int .i64 0, .int .i64 0, .int .i64 0]) ?_ 2 _ rfl; (with_reducible repeat (first | apply blk_drewN | apply blk_drew | apply blk_alloc)); refine blk_put (cs := #[.int .i64 0, .int .i64 0, .int .i64 0, .int .i64 0]) ?_ 1 _ rfl; (with_reducible repeat (first | apply blk_drewN | apply blk_drew | apply blk_alloc)); refine blk_put (cs := #[.int .i64 0, .int .i64 0, .int .i64 0, .int .i64 0]) ?_ 0 _ rfl; (with_reducible repeat (first | apply blk_drewN | apply blk_drew | apply blk_alloc)); exact BK103.out) Try.underlying40 rfl (by kernel_rfl)) rfl ?_
  exact ⟨by first | rfl | (simp [errW_none, errW_some] <;> rfl) | (simp [*, errW_none, errW_some] <;> rfl), by repeat (first | (with_reducible first | exact HB.out | apply below_alloc | apply pw_below_drewN | apply below_drew1 | refine below_set ?_ GE102.out | refine below_set ?_ GE103.out) | exact HB.out)⟩

/-! by hand -/
/-! ### quant_Point: function 8 -/

def quant_Point.f (a0_0 : Int) (a0_1 : Int) (a0_2 : Int) (a1_0 : Int) (a1_1 : Int) : Option (Int × Int × Bool) := (tilegrid_Box.f a0_0 a0_1 a0_2).bind fun bt112 => (if bt112.2.2.2.2 = 0 then (if a1_0 < bt112.1 then (some (0, 0, false)) else (if a1_0 > bt112.2.2.1 then (some (0, 0, false)) else (if a1_1 < bt112.2.1 then (some (0, 0, false)) else (if a1_1 > bt112.2.2.2.1 then (some (0, 0, false)) else ((tilegrid_Size.f a0_0).bind fun t118 => (if t118 = 0 then (none) else (some (wrap64 (Int.tdiv (wrap64 ((wrap64 (a1_0 - bt112.1)) * 256)) t118), wrap64 (Int.tdiv (wrap64 ((wrap64 (a1_1 - bt112.2.1)) * 256)) t118), true)))))))) else (some (0, 0, false)))
set_option maxHeartbeats 1000000 in
set_option maxRecDepth 100000 in
theorem quant_Point.calls (z x y p q r1 r2 : Int) (r3 : Bool) (w : World) (h : quant_Point.f z x y p q = some (r1, r2, r3)) :
  Calls Try.prog 8 #[.agg #[.int .i64 z, .int .i64 x, .int .i64 y], .agg #[.int .i64 p, .int .i64 q]] w fun e w' => e = .returned (.tuple #[.agg #[.int .i64 r1, .int .i64 r2], .bool r3]) ∧ Below w.heap.size w w' := by
 have hu23 := Try.underlying23
 have hu25 := Try.underlying25
 have hu40 := Try.underlying40
 unfold quant_Point.f at h
 obtain ⟨⟨b0, b1, b2, b3, be⟩, hb, h⟩ := Option.bind_eq_some_iff.mp h
 have HBX := Aside0.mk hb
 clear hb
 dsimp only at h
 have S := Sep.start w
 by_cases c0 : be = 0
 ·rw [if_pos c0] at h
  have e0 : (be == 0) = true := by simpa using c0
  have e1 : (be != 0) = false := by simpa using c0
  clear c0
  by_cases c1 : p < b0
  ·rw [if_pos c1] at h
   have dc1 : decide (p < b0) = true := decide_eq_true c1
   obtain ⟨rfl, rfl, rfl⟩ : r1 = 0 ∧ r2 = 0 ∧ r3 = false := by simpa [eq_comm] using h
   clear h c1
   go_enter Try.func8, Try.ntmps8
   go_wp2_with (first | ((with_reducible refine gate_dst (N := 2) rfl ?_); refine box_event ?hg (N := 2) ?hd (cs := #[.int .i64 z, .int .i64 x, .int .i64 y]) (t := 23) ?hr ?_; (case hd => rfl); (case hg => rfl); (case hr => first | (go_simp; done) | (go_simp; rfl)); intro g2 hg wg2 hbox hb; replace S := (S).box hg hbox hb; clear hbox hb hg) | ((with_reducible refine gate_dst (N := 3) rfl ?_); refine box_event ?hg (N := 3) ?hd (cs := #[.int .i64 p, .int .i64 q]) (t := 25) ?hr ?_; (case hd => rfl); (case hg => rfl); (case hr => first | (go_simp; done) | (go_simp; rfl)); intro g3 hg wg3 hbox hb; replace S := (S).box hg hbox hb; clear hbox hb hg) | ((with_reducible refine gate_dst (N := 4) rfl ?_); refine box_event ?hg (N := 4) ?hd (cs := #[.int .i64 0, .int .i64 0]) (t := 25) ?hr ?_; (case hd => rfl); (case hg => rfl); (case hr => first | (go_simp; done) | (go_simp; rfl)); intro g4 hg wg4 hbox hb; replace S := (S).box hg hbox hb; clear hbox hb hg; have ct_0 := blk_cell (S.at_box 2 rfl) 0; have ct_1 := blk_cell (S.at_box 2 rfl) 1; have ct_2 := blk_cell (S.at_box 2 rfl) 2; simp only [List.getElem?_toArray, List.getElem?_cons_zero, List.getElem?_cons_succ] at ct_0 ct_1 ct_2) | (go_at_call 20; (with_reducible refine (tilegrid_Box.calls z x y b0 b1 b2 b3 be _ HBX.out).mono ?_); rintro e w20 ⟨rfl, hb⟩; replace S := S.step hb; clear hb; clear ct_0 ct_1 ct_2) | ((with_reducible refine gate_dst (N := 6) rfl ?_); refine box_event ?hg (N := 6) ?hd (cs := #[.int .i64 0, .int .i64 0, .int .i64 0, .int .i64 0]) (t := 40) ?hr ?_; (case hd => rfl); (case hg => rfl); (case hr => first | (go_simp; done) | (go_simp; rfl)); intro g6 hg wg6 hbox hb; replace S := (S).box hg hbox hb; clear hbox hb hg; have cb_0 := blk_cell (S.at_box 0 rfl) 0; have fcb_0 := blk_frozen (S.at_box 0 rfl) 0; have cb_1 := blk_cell (S.at_box 0 rfl) 1; have fcb_1 := blk_frozen (S.at_box 0 rfl) 1; have cb_2 := blk_cell (S.at_box 0 rfl) 2; have fcb_2 := blk_frozen (S.at_box 0 rfl) 2; have cb_3 := blk_cell (S.at_box 0 rfl) 3; have fcb_3 := blk_frozen (S.at_box 0 rfl) 3; simp only [List.getElem?_toArray, List.getElem?_cons_zero, List.getElem?_cons_succ] at cb_0 cb_1 cb_2 cb_3; have cq_0 := blk_cell (S.at_box 1 rfl) 0; have fcq_0 := blk_frozen (S.at_box 1 rfl) 0; have cq_1 := blk_cell (S.at_box 1 rfl) 1; have fcq_1 := blk_frozen (S.at_box 1 rfl) 1; simp only [List.getElem?_toArray, List.getElem?_cons_zero, List.getElem?_cons_succ] at cq_0 cq_1; have cp_0 := blk_cell (S.at_box 2 rfl) 0; have cp_1 := blk_cell (S.at_box 2 rfl) 1; simp only [List.getElem?_toArray, List.getElem?_cons_zero, List.getElem?_cons_succ] at cp_0 cp_1; have cz_0 := blk_cell (S.at_box 3 rfl) 0; have cz_1 := blk_cell (S.at_box 3 rfl) 1; have cz_2 := blk_cell (S.at_box 3 rfl) 2; simp only [List.getElem?_toArray, List.getElem?_cons_zero, List.getElem?_cons_succ] at cz_0 cz_1 cz_2; have n36 : g3 ≠ g6 := S.box_ne 2 0 rfl rfl (by omega); have n63 : g6 ≠ g3 := S.box_ne 0 2 rfl rfl (by omega); have n46 : g4 ≠ g6 := S.box_ne 1 0 rfl rfl (by omega); have n64 : g6 ≠ g4 := S.box_ne 0 1 rfl rfl (by omega); have n26 : g2 ≠ g6 := S.box_ne 3 0 rfl rfl (by omega); have n62 : g6 ≠ g2 := S.box_ne 0 3 rfl rfl (by omega); replace S : Sep w _ [Box _ g6 40 #[.int .i64 b0, .int .i64 b1, .int .i64 b2, .int .i64 b3], Box _ g4 25 #[.int .i64 0, .int .i64 0], Box _ g3 25 #[.int .i64 p, .int .i64 q], Box _ g2 23 #[.int .i64 z, .int .i64 x, .int .i64 y]] := (((S.set 0 rfl 0 (.int .i64 b0)).set 0 rfl 1 (.int .i64 b1)).set 0 rfl 2 (.int .i64 b2)).set 0 rfl 3 (.int .i64 b3)))
   refine bodyPost_ret (results_ct rfl _ _ g4 25 #[.int .i64 0, .int .i64 0] (0, 0) _ rfl (((S.set 1 rfl 0 (.int .i64 0)).set 1 rfl 1 (.int .i64 0)).at_box 1 rfl) Try.underlying25 rfl (by kernel_rfl)) rfl ?_
   exact ⟨rfl, ((S.set 1 rfl 0 (.int .i64 0)).set 1 rfl 1 (.int .i64 0)).below⟩
  rw [if_neg c1] at h
  have dc1 : decide (p < b0) = false := decide_eq_false c1
  clear c1
  by_cases c2 : p > b2
  ·rw [if_pos c2] at h
   have dc2 : decide (b2 < p) = true := decide_eq_true c2
   obtain ⟨rfl, rfl, rfl⟩ : r1 = 0 ∧ r2 = 0 ∧ r3 = false := by simpa [eq_comm] using h
   clear h c2
   go_enter Try.func8, Try.ntmps8
   go_wp2_with (first | ((with_reducible refine gate_dst (N := 2) rfl ?_); refine box_event ?hg (N := 2) ?hd (cs := #[.int .i64 z, .int .i64 x, .int .i64 y]) (t := 23) ?hr ?_; (case hd => rfl); (case hg => rfl); (case hr => first | (go_simp; done) | (go_simp; rfl)); intro g2 hg wg2 hbox hb; replace S := (S).box hg hbox hb; clear hbox hb hg) | ((with_reducible refine gate_dst (N := 3) rfl ?_); refine box_event ?hg (N := 3) ?hd (cs := #[.int .i64 p, .int .i64 q]) (t := 25) ?hr ?_; (case hd => rfl); (case hg => rfl); (case hr => first | (go_simp; done) | (go_simp; rfl)); intro g3 hg wg3 hbox hb; replace S := (S).box hg hbox hb; clear hbox hb hg) | ((with_reducible refine gate_dst (N := 4) rfl ?_); refine box_event ?hg (N := 4) ?hd (cs := #[.int .i64 0, .int .i64 0]) (t := 25) ?hr ?_; (case hd => rfl); (case hg => rfl); (case hr => first | (go_simp; done) | (go_simp; rfl)); intro g4 hg wg4 hbox hb; replace S := (S).box hg hbox hb; clear hbox hb hg; have ct_0 := blk_cell (S.at_box 2 rfl) 0; have ct_1 := blk_cell (S.at_box 2 rfl) 1; have ct_2 := blk_cell (S.at_box 2 rfl) 2; simp only [List.getElem?_toArray, List.getElem?_cons_zero, List.getElem?_cons_succ] at ct_0 ct_1 ct_2) | (go_at_call 20; (with_reducible refine (tilegrid_Box.calls z x y b0 b1 b2 b3 be _ HBX.out).mono ?_); rintro e w20 ⟨rfl, hb⟩; replace S := S.step hb; clear hb; clear ct_0 ct_1 ct_2) | ((with_reducible refine gate_dst (N := 6) rfl ?_); refine box_event ?hg (N := 6) ?hd (cs := #[.int .i64 0, .int .i64 0, .int .i64 0, .int .i64 0]) (t := 40) ?hr ?_; (case hd => rfl); (case hg => rfl); (case hr => first | (go_simp; done) | (go_simp; rfl)); intro g6 hg wg6 hbox hb; replace S := (S).box hg hbox hb; clear hbox hb hg; have cb_0 := blk_cell (S.at_box 0 rfl) 0; have fcb_0 := blk_frozen (S.at_box 0 rfl) 0; have cb_1 := blk_cell (S.at_box 0 rfl) 1; have fcb_1 := blk_frozen (S.at_box 0 rfl) 1; have cb_2 := blk_cell (S.at_box 0 rfl) 2; have fcb_2 := blk_frozen (S.at_box 0 rfl) 2; have cb_3 := blk_cell (S.at_box 0 rfl) 3; have fcb_3 := blk_frozen (S.at_box 0 rfl) 3; simp only [List.getElem?_toArray, List.getElem?_cons_zero, List.getElem?_cons_succ] at cb_0 cb_1 cb_2 cb_3; have cq_0 := blk_cell (S.at_box 1 rfl) 0; have fcq_0 := blk_frozen (S.at_box 1 rfl) 0; have cq_1 := blk_cell (S.at_box 1 rfl) 1; have fcq_1 := blk_frozen (S.at_box 1 rfl) 1; simp only [List.getElem?_toArray, List.getElem?_cons_zero, List.getElem?_cons_succ] at cq_0 cq_1; have cp_0 := blk_cell (S.at_box 2 rfl) 0; have cp_1 := blk_cell (S.at_box 2 rfl) 1; simp only [List.getElem?_toArray, List.getElem?_cons_zero, List.getElem?_cons_succ] at cp_0 cp_1; have cz_0 := blk_cell (S.at_box 3 rfl) 0; have cz_1 := blk_cell (S.at_box 3 rfl) 1; have cz_2 := blk_cell (S.at_box 3 rfl) 2; simp only [List.getElem?_toArray, List.getElem?_cons_zero, List.getElem?_cons_succ] at cz_0 cz_1 cz_2; have n36 : g3 ≠ g6 := S.box_ne 2 0 rfl rfl (by omega); have n63 : g6 ≠ g3 := S.box_ne 0 2 rfl rfl (by omega); have n46 : g4 ≠ g6 := S.box_ne 1 0 rfl rfl (by omega); have n64 : g6 ≠ g4 := S.box_ne 0 1 rfl rfl (by omega); have n26 : g2 ≠ g6 := S.box_ne 3 0 rfl rfl (by omega); have n62 : g6 ≠ g2 := S.box_ne 0 3 rfl rfl (by omega); replace S : Sep w _ [Box _ g6 40 #[.int .i64 b0, .int .i64 b1, .int .i64 b2, .int .i64 b3], Box _ g4 25 #[.int .i64 0, .int .i64 0], Box _ g3 25 #[.int .i64 p, .int .i64 q], Box _ g2 23 #[.int .i64 z, .int .i64 x, .int .i64 y]] := (((S.set 0 rfl 0 (.int .i64 b0)).set 0 rfl 1 (.int .i64 b1)).set 0 rfl 2 (.int .i64 b2)).set 0 rfl 3 (.int .i64 b3)))
   refine bodyPost_ret (results_ct rfl _ _ g4 25 #[.int .i64 0, .int .i64 0] (0, 0) _ rfl (((S.set 1 rfl 0 (.int .i64 0)).set 1 rfl 1 (.int .i64 0)).at_box 1 rfl) Try.underlying25 rfl (by kernel_rfl)) rfl ?_
   exact ⟨rfl, ((S.set 1 rfl 0 (.int .i64 0)).set 1 rfl 1 (.int .i64 0)).below⟩
  rw [if_neg c2] at h
  have dc2 : decide (b2 < p) = false := decide_eq_false c2
  clear c2
  by_cases c3 : q < b1
  ·rw [if_pos c3] at h
   have dc3 : decide (q < b1) = true := decide_eq_true c3
   obtain ⟨rfl, rfl, rfl⟩ : r1 = 0 ∧ r2 = 0 ∧ r3 = false := by simpa [eq_comm] using h
   clear h c3
   go_enter Try.func8, Try.ntmps8
   go_wp2_with (first | ((with_reducible refine gate_dst (N := 2) rfl ?_); refine box_event ?hg (N := 2) ?hd (cs := #[.int .i64 z, .int .i64 x, .int .i64 y]) (t := 23) ?hr ?_; (case hd => rfl); (case hg => rfl); (case hr => first | (go_simp; done) | (go_simp; rfl)); intro g2 hg wg2 hbox hb; replace S := (S).box hg hbox hb; clear hbox hb hg) | ((with_reducible refine gate_dst (N := 3) rfl ?_); refine box_event ?hg (N := 3) ?hd (cs := #[.int .i64 p, .int .i64 q]) (t := 25) ?hr ?_; (case hd => rfl); (case hg => rfl); (case hr => first | (go_simp; done) | (go_simp; rfl)); intro g3 hg wg3 hbox hb; replace S := (S).box hg hbox hb; clear hbox hb hg) | ((with_reducible refine gate_dst (N := 4) rfl ?_); refine box_event ?hg (N := 4) ?hd (cs := #[.int .i64 0, .int .i64 0]) (t := 25) ?hr ?_; (case hd => rfl); (case hg => rfl); (case hr => first | (go_simp; done) | (go_simp; rfl)); intro g4 hg wg4 hbox hb; replace S := (S).box hg hbox hb; clear hbox hb hg; have ct_0 := blk_cell (S.at_box 2 rfl) 0; have ct_1 := blk_cell (S.at_box 2 rfl) 1; have ct_2 := blk_cell (S.at_box 2 rfl) 2; simp only [List.getElem?_toArray, List.getElem?_cons_zero, List.getElem?_cons_succ] at ct_0 ct_1 ct_2) | (go_at_call 20; (with_reducible refine (tilegrid_Box.calls z x y b0 b1 b2 b3 be _ HBX.out).mono ?_); rintro e w20 ⟨rfl, hb⟩; replace S := S.step hb; clear hb; clear ct_0 ct_1 ct_2) | ((with_reducible refine gate_dst (N := 6) rfl ?_); refine box_event ?hg (N := 6) ?hd (cs := #[.int .i64 0, .int .i64 0, .int .i64 0, .int .i64 0]) (t := 40) ?hr ?_; (case hd => rfl); (case hg => rfl); (case hr => first | (go_simp; done) | (go_simp; rfl)); intro g6 hg wg6 hbox hb; replace S := (S).box hg hbox hb; clear hbox hb hg; have cb_0 := blk_cell (S.at_box 0 rfl) 0; have fcb_0 := blk_frozen (S.at_box 0 rfl) 0; have cb_1 := blk_cell (S.at_box 0 rfl) 1; have fcb_1 := blk_frozen (S.at_box 0 rfl) 1; have cb_2 := blk_cell (S.at_box 0 rfl) 2; have fcb_2 := blk_frozen (S.at_box 0 rfl) 2; have cb_3 := blk_cell (S.at_box 0 rfl) 3; have fcb_3 := blk_frozen (S.at_box 0 rfl) 3; simp only [List.getElem?_toArray, List.getElem?_cons_zero, List.getElem?_cons_succ] at cb_0 cb_1 cb_2 cb_3; have cq_0 := blk_cell (S.at_box 1 rfl) 0; have fcq_0 := blk_frozen (S.at_box 1 rfl) 0; have cq_1 := blk_cell (S.at_box 1 rfl) 1; have fcq_1 := blk_frozen (S.at_box 1 rfl) 1; simp only [List.getElem?_toArray, List.getElem?_cons_zero, List.getElem?_cons_succ] at cq_0 cq_1; have cp_0 := blk_cell (S.at_box 2 rfl) 0; have cp_1 := blk_cell (S.at_box 2 rfl) 1; simp only [List.getElem?_toArray, List.getElem?_cons_zero, List.getElem?_cons_succ] at cp_0 cp_1; have cz_0 := blk_cell (S.at_box 3 rfl) 0; have cz_1 := blk_cell (S.at_box 3 rfl) 1; have cz_2 := blk_cell (S.at_box 3 rfl) 2; simp only [List.getElem?_toArray, List.getElem?_cons_zero, List.getElem?_cons_succ] at cz_0 cz_1 cz_2; have n36 : g3 ≠ g6 := S.box_ne 2 0 rfl rfl (by omega); have n63 : g6 ≠ g3 := S.box_ne 0 2 rfl rfl (by omega); have n46 : g4 ≠ g6 := S.box_ne 1 0 rfl rfl (by omega); have n64 : g6 ≠ g4 := S.box_ne 0 1 rfl rfl (by omega); have n26 : g2 ≠ g6 := S.box_ne 3 0 rfl rfl (by omega); have n62 : g6 ≠ g2 := S.box_ne 0 3 rfl rfl (by omega); replace S : Sep w _ [Box _ g6 40 #[.int .i64 b0, .int .i64 b1, .int .i64 b2, .int .i64 b3], Box _ g4 25 #[.int .i64 0, .int .i64 0], Box _ g3 25 #[.int .i64 p, .int .i64 q], Box _ g2 23 #[.int .i64 z, .int .i64 x, .int .i64 y]] := (((S.set 0 rfl 0 (.int .i64 b0)).set 0 rfl 1 (.int .i64 b1)).set 0 rfl 2 (.int .i64 b2)).set 0 rfl 3 (.int .i64 b3)))
   refine bodyPost_ret (results_ct rfl _ _ g4 25 #[.int .i64 0, .int .i64 0] (0, 0) _ rfl (((S.set 1 rfl 0 (.int .i64 0)).set 1 rfl 1 (.int .i64 0)).at_box 1 rfl) Try.underlying25 rfl (by kernel_rfl)) rfl ?_
   exact ⟨rfl, ((S.set 1 rfl 0 (.int .i64 0)).set 1 rfl 1 (.int .i64 0)).below⟩
  rw [if_neg c3] at h
  have dc3 : decide (q < b1) = false := decide_eq_false c3
  clear c3
  by_cases c4 : q > b3
  ·rw [if_pos c4] at h
   have dc4 : decide (b3 < q) = true := decide_eq_true c4
   obtain ⟨rfl, rfl, rfl⟩ : r1 = 0 ∧ r2 = 0 ∧ r3 = false := by simpa [eq_comm] using h
   clear h c4
   go_enter Try.func8, Try.ntmps8
   go_wp2_with (first | ((with_reducible refine gate_dst (N := 2) rfl ?_); refine box_event ?hg (N := 2) ?hd (cs := #[.int .i64 z, .int .i64 x, .int .i64 y]) (t := 23) ?hr ?_; (case hd => rfl); (case hg => rfl); (case hr => first | (go_simp; done) | (go_simp; rfl)); intro g2 hg wg2 hbox hb; replace S := (S).box hg hbox hb; clear hbox hb hg) | ((with_reducible refine gate_dst (N := 3) rfl ?_); refine box_event ?hg (N := 3) ?hd (cs := #[.int .i64 p, .int .i64 q]) (t := 25) ?hr ?_; (case hd => rfl); (case hg => rfl); (case hr => first | (go_simp; done) | (go_simp; rfl)); intro g3 hg wg3 hbox hb; replace S := (S).box hg hbox hb; clear hbox hb hg) | ((with_reducible refine gate_dst (N := 4) rfl ?_); refine box_event ?hg (N := 4) ?hd (cs := #[.int .i64 0, .int .i64 0]) (t := 25) ?hr ?_; (case hd => rfl); (case hg => rfl); (case hr => first | (go_simp; done) | (go_simp; rfl)); intro g4 hg wg4 hbox hb; replace S := (S).box hg hbox hb; clear hbox hb hg; have ct_0 := blk_cell (S.at_box 2 rfl) 0; have ct_1 := blk_cell (S.at_box 2 rfl) 1; have ct_2 := blk_cell (S.at_box 2 rfl) 2; simp only [List.getElem?_toArray, List.getElem?_cons_zero, List.getElem?_cons_succ] at ct_0 ct_1 ct_2) | (go_at_call 20; (with_reducible refine (tilegrid_Box.calls z x y b0 b1 b2 b3 be _ HBX.out).mono ?_); rintro e w20 ⟨rfl, hb⟩; replace S := S.step hb; clear hb; clear ct_0 ct_1 ct_2) | ((with_reducible refine gate_dst (N := 6) rfl ?_); refine box_event ?hg (N := 6) ?hd (cs := #[.int .i64 0, .int .i64 0, .int .i64 0, .int .i64 0]) (t := 40) ?hr ?_; (case hd => rfl); (case hg => rfl); (case hr => first | (go_simp; done) | (go_simp; rfl)); intro g6 hg wg6 hbox hb; replace S := (S).box hg hbox hb; clear hbox hb hg; have cb_0 := blk_cell (S.at_box 0 rfl) 0; have fcb_0 := blk_frozen (S.at_box 0 rfl) 0; have cb_1 := blk_cell (S.at_box 0 rfl) 1; have fcb_1 := blk_frozen (S.at_box 0 rfl) 1; have cb_2 := blk_cell (S.at_box 0 rfl) 2; have fcb_2 := blk_frozen (S.at_box 0 rfl) 2; have cb_3 := blk_cell (S.at_box 0 rfl) 3; have fcb_3 := blk_frozen (S.at_box 0 rfl) 3; simp only [List.getElem?_toArray, List.getElem?_cons_zero, List.getElem?_cons_succ] at cb_0 cb_1 cb_2 cb_3; have cq_0 := blk_cell (S.at_box 1 rfl) 0; have fcq_0 := blk_frozen (S.at_box 1 rfl) 0; have cq_1 := blk_cell (S.at_box 1 rfl) 1; have fcq_1 := blk_frozen (S.at_box 1 rfl) 1; simp only [List.getElem?_toArray, List.getElem?_cons_zero, List.getElem?_cons_succ] at cq_0 cq_1; have cp_0 := blk_cell (S.at_box 2 rfl) 0; have cp_1 := blk_cell (S.at_box 2 rfl) 1; simp only [List.getElem?_toArray, List.getElem?_cons_zero, List.getElem?_cons_succ] at cp_0 cp_1; have cz_0 := blk_cell (S.at_box 3 rfl) 0; have cz_1 := blk_cell (S.at_box 3 rfl) 1; have cz_2 := blk_cell (S.at_box 3 rfl) 2; simp only [List.getElem?_toArray, List.getElem?_cons_zero, List.getElem?_cons_succ] at cz_0 cz_1 cz_2; have n36 : g3 ≠ g6 := S.box_ne 2 0 rfl rfl (by omega); have n63 : g6 ≠ g3 := S.box_ne 0 2 rfl rfl (by omega); have n46 : g4 ≠ g6 := S.box_ne 1 0 rfl rfl (by omega); have n64 : g6 ≠ g4 := S.box_ne 0 1 rfl rfl (by omega); have n26 : g2 ≠ g6 := S.box_ne 3 0 rfl rfl (by omega); have n62 : g6 ≠ g2 := S.box_ne 0 3 rfl rfl (by omega); replace S : Sep w _ [Box _ g6 40 #[.int .i64 b0, .int .i64 b1, .int .i64 b2, .int .i64 b3], Box _ g4 25 #[.int .i64 0, .int .i64 0], Box _ g3 25 #[.int .i64 p, .int .i64 q], Box _ g2 23 #[.int .i64 z, .int .i64 x, .int .i64 y]] := (((S.set 0 rfl 0 (.int .i64 b0)).set 0 rfl 1 (.int .i64 b1)).set 0 rfl 2 (.int .i64 b2)).set 0 rfl 3 (.int .i64 b3)))
   refine bodyPost_ret (results_ct rfl _ _ g4 25 #[.int .i64 0, .int .i64 0] (0, 0) _ rfl (((S.set 1 rfl 0 (.int .i64 0)).set 1 rfl 1 (.int .i64 0)).at_box 1 rfl) Try.underlying25 rfl (by kernel_rfl)) rfl ?_
   exact ⟨rfl, ((S.set 1 rfl 0 (.int .i64 0)).set 1 rfl 1 (.int .i64 0)).below⟩
  rw [if_neg c4] at h
  have dc4 : decide (b3 < q) = false := decide_eq_false c4
  clear c4
  obtain ⟨t, ht, h⟩ := Option.bind_eq_some_iff.mp h
  have HT := Aside0.mk ht
  clear ht
  by_cases c5 : t = 0
  ·rw [if_pos c5] at h; exact absurd h (by simp)
  rw [if_neg c5] at h
  have t0 : (t == 0) = false := by simpa using c5
  simp only [Option.some.injEq, Prod.mk.injEq] at h
  obtain ⟨rfl, rfl, rfl⟩ := h
  go_enter Try.func8, Try.ntmps8
  go_wp2_with (first | ((with_reducible refine gate_dst (N := 2) rfl ?_); refine box_event ?hg (N := 2) ?hd (cs := #[.int .i64 z, .int .i64 x, .int .i64 y]) (t := 23) ?hr ?_; (case hd => rfl); (case hg => rfl); (case hr => first | (go_simp; done) | (go_simp; rfl)); intro g2 hg wg2 hbox hb; replace S := (S).box hg hbox hb; clear hbox hb hg) | ((with_reducible refine gate_dst (N := 3) rfl ?_); refine box_event ?hg (N := 3) ?hd (cs := #[.int .i64 p, .int .i64 q]) (t := 25) ?hr ?_; (case hd => rfl); (case hg => rfl); (case hr => first | (go_simp; done) | (go_simp; rfl)); intro g3 hg wg3 hbox hb; replace S := (S).box hg hbox hb; clear hbox hb hg) | ((with_reducible refine gate_dst (N := 4) rfl ?_); refine box_event ?hg (N := 4) ?hd (cs := #[.int .i64 0, .int .i64 0]) (t := 25) ?hr ?_; (case hd => rfl); (case hg => rfl); (case hr => first | (go_simp; done) | (go_simp; rfl)); intro g4 hg wg4 hbox hb; replace S := (S).box hg hbox hb; clear hbox hb hg; have ct_0 := blk_cell (S.at_box 2 rfl) 0; have ct_1 := blk_cell (S.at_box 2 rfl) 1; have ct_2 := blk_cell (S.at_box 2 rfl) 2; simp only [List.getElem?_toArray, List.getElem?_cons_zero, List.getElem?_cons_succ] at ct_0 ct_1 ct_2) | (go_at_call 20; (with_reducible refine (tilegrid_Box.calls z x y b0 b1 b2 b3 be _ HBX.out).mono ?_); rintro e w20 ⟨rfl, hb⟩; replace S := S.step hb; clear hb; clear ct_0 ct_1 ct_2) | ((with_reducible refine gate_dst (N := 6) rfl ?_); refine box_event ?hg (N := 6) ?hd (cs := #[.int .i64 0, .int .i64 0, .int .i64 0, .int .i64 0]) (t := 40) ?hr ?_; (case hd => rfl); (case hg => rfl); (case hr => first | (go_simp; done) | (go_simp; rfl)); intro g6 hg wg6 hbox hb; replace S := (S).box hg hbox hb; clear hbox hb hg; have cb_0 := blk_cell (S.at_box 0 rfl) 0; have fcb_0 := blk_frozen (S.at_box 0 rfl) 0; have cb_1 := blk_cell (S.at_box 0 rfl) 1; have fcb_1 := blk_frozen (S.at_box 0 rfl) 1; have cb_2 := blk_cell (S.at_box 0 rfl) 2; have fcb_2 := blk_frozen (S.at_box 0 rfl) 2; have cb_3 := blk_cell (S.at_box 0 rfl) 3; have fcb_3 := blk_frozen (S.at_box 0 rfl) 3; simp only [List.getElem?_toArray, List.getElem?_cons_zero, List.getElem?_cons_succ] at cb_0 cb_1 cb_2 cb_3; have cq_0 := blk_cell (S.at_box 1 rfl) 0; have fcq_0 := blk_frozen (S.at_box 1 rfl) 0; have cq_1 := blk_cell (S.at_box 1 rfl) 1; have fcq_1 := blk_frozen (S.at_box 1 rfl) 1; simp only [List.getElem?_toArray, List.getElem?_cons_zero, List.getElem?_cons_succ] at cq_0 cq_1; have cp_0 := blk_cell (S.at_box 2 rfl) 0; have cp_1 := blk_cell (S.at_box 2 rfl) 1; simp only [List.getElem?_toArray, List.getElem?_cons_zero, List.getElem?_cons_succ] at cp_0 cp_1; have cz_0 := blk_cell (S.at_box 3 rfl) 0; have cz_1 := blk_cell (S.at_box 3 rfl) 1; have cz_2 := blk_cell (S.at_box 3 rfl) 2; simp only [List.getElem?_toArray, List.getElem?_cons_zero, List.getElem?_cons_succ] at cz_0 cz_1 cz_2; have n36 : g3 ≠ g6 := S.box_ne 2 0 rfl rfl (by omega); have n63 : g6 ≠ g3 := S.box_ne 0 2 rfl rfl (by omega); have n46 : g4 ≠ g6 := S.box_ne 1 0 rfl rfl (by omega); have n64 : g6 ≠ g4 := S.box_ne 0 1 rfl rfl (by omega); have n26 : g2 ≠ g6 := S.box_ne 3 0 rfl rfl (by omega); have n62 : g6 ≠ g2 := S.box_ne 0 3 rfl rfl (by omega); replace S : Sep w _ [Box _ g6 40 #[.int .i64 b0, .int .i64 b1, .int .i64 b2, .int .i64 b3], Box _ g4 25 #[.int .i64 0, .int .i64 0], Box _ g3 25 #[.int .i64 p, .int .i64 q], Box _ g2 23 #[.int .i64 z, .int .i64 x, .int .i64 y]] := (((S.set 0 rfl 0 (.int .i64 b0)).set 0 rfl 1 (.int .i64 b1)).set 0 rfl 2 (.int .i64 b2)).set 0 rfl 3 (.int .i64 b3)) | (go_at_call 21; (with_reducible refine (tilegrid_Size.calls z t _ HT.out).mono ?_); rintro e w21 ⟨rfl, hd⟩; replace S := S.step (pw_drawn_below hd); clear hd; have cb_0 := blk_cell (S.at_box 0 rfl) 0; have cb_1 := blk_cell (S.at_box 0 rfl) 1; have cb_2 := blk_cell (S.at_box 0 rfl) 2; have cb_3 := blk_cell (S.at_box 0 rfl) 3; simp only [List.getElem?_toArray, List.getElem?_cons_zero, List.getElem?_cons_succ] at cb_0 cb_1 cb_2 cb_3; have cq_0 := blk_cell (S.at_box 1 rfl) 0; have fcq_0 := blk_frozen (S.at_box 1 rfl) 0; have cq_1 := blk_cell (S.at_box 1 rfl) 1; have fcq_1 := blk_frozen (S.at_box 1 rfl) 1; simp only [List.getElem?_toArray, List.getElem?_cons_zero, List.getElem?_cons_succ] at cq_0 cq_1; have cp_0 := blk_cell (S.at_box 2 rfl) 0; have cp_1 := blk_cell (S.at_box 2 rfl) 1; simp only [List.getElem?_toArray, List.getElem?_cons_zero, List.getElem?_cons_succ] at cp_0 cp_1; clear n36 n63 n46 n64 n26 n62))
  have n34 : g3 ≠ g4 := S.box_ne 2 1 rfl rfl (by omega)
  have n43 : g4 ≠ g3 := S.box_ne 1 2 rfl rfl (by omega)
  have n46 : g4 ≠ g6 := S.box_ne 1 0 rfl rfl (by omega)
  have n64 : g6 ≠ g4 := S.box_ne 0 1 rfl rfl (by omega)
  go_region_held3 (fun w' => w'.cell? ⟨g3, 0, none⟩ = some (.int .i64 p) ∧ w'.cell? ⟨g3, 1, none⟩ = some (.int .i64 q) ∧ w'.cell? ⟨g6, 0, none⟩ = some (.int .i64 b0) ∧ w'.cell? ⟨g6, 1, none⟩ = some (.int .i64 b1)) (first | assumption | go_keep) (first | fail)
  go_wp2_with fail
  simp only [i64_w]
  have S1 := ((S.set 1 rfl 0 (.int .i64 (wrap64 (Int.tdiv (wrap64 ((wrap64 (p - b0)) * 256)) t)))).set 1 rfl 1 (.int .i64 (wrap64 (Int.tdiv (wrap64 ((wrap64 (q - b1)) * 256)) t)))).drew
  refine bodyPost_ret (results_ct rfl _ _ g4 25 #[.int .i64 (wrap64 (Int.tdiv (wrap64 ((wrap64 (p - b0)) * 256)) t)), .int .i64 (wrap64 (Int.tdiv (wrap64 ((wrap64 (q - b1)) * 256)) t))] (0, 0) _ rfl (S1.at_box 1 rfl) Try.underlying25 rfl (by kernel_rfl)) rfl ?_
  exact ⟨rfl, S1.below⟩
 ·rw [if_neg c0] at h
  obtain ⟨rfl, rfl, rfl⟩ : r1 = 0 ∧ r2 = 0 ∧ r3 = false := by simpa [eq_comm] using h
  have e0 : (be == 0) = false := by simpa using c0
  have e1 : (be != 0) = true := by simpa using c0
  clear h c0
  go_enter Try.func8, Try.ntmps8
  go_wp2_with (first | ((with_reducible refine gate_dst (N := 2) rfl ?_); refine box_event ?hg (N := 2) ?hd (cs := #[.int .i64 z, .int .i64 x, .int .i64 y]) (t := 23) ?hr ?_; (case hd => rfl); (case hg => rfl); (case hr => first | (go_simp; done) | (go_simp; rfl)); intro g2 hg wg2 hbox hb; replace S := (S).box hg hbox hb; clear hbox hb hg) | ((with_reducible refine gate_dst (N := 3) rfl ?_); refine box_event ?hg (N := 3) ?hd (cs := #[.int .i64 p, .int .i64 q]) (t := 25) ?hr ?_; (case hd => rfl); (case hg => rfl); (case hr => first | (go_simp; done) | (go_simp; rfl)); intro g3 hg wg3 hbox hb; replace S := (S).box hg hbox hb; clear hbox hb hg) | ((with_reducible refine gate_dst (N := 4) rfl ?_); refine box_event ?hg (N := 4) ?hd (cs := #[.int .i64 0, .int .i64 0]) (t := 25) ?hr ?_; (case hd => rfl); (case hg => rfl); (case hr => first | (go_simp; done) | (go_simp; rfl)); intro g4 hg wg4 hbox hb; replace S := (S).box hg hbox hb; clear hbox hb hg; have ct_0 := blk_cell (S.at_box 2 rfl) 0; have ct_1 := blk_cell (S.at_box 2 rfl) 1; have ct_2 := blk_cell (S.at_box 2 rfl) 2; simp only [List.getElem?_toArray, List.getElem?_cons_zero, List.getElem?_cons_succ] at ct_0 ct_1 ct_2) | (go_at_call 20; (with_reducible refine (tilegrid_Box.calls z x y b0 b1 b2 b3 be _ HBX.out).mono ?_); rintro e w20 ⟨rfl, hb⟩; replace S := S.step hb; clear hb; clear ct_0 ct_1 ct_2) | ((with_reducible refine gate_dst (N := 6) rfl ?_); refine box_event ?hg (N := 6) ?hd (cs := #[.int .i64 0, .int .i64 0, .int .i64 0, .int .i64 0]) (t := 40) ?hr ?_; (case hd => rfl); (case hg => rfl); (case hr => first | (go_simp; done) | (go_simp; rfl)); intro g6 hg wg6 hbox hb; replace S := (S).box hg hbox hb; clear hbox hb hg; have cb_0 := blk_cell (S.at_box 0 rfl) 0; have fcb_0 := blk_frozen (S.at_box 0 rfl) 0; have cb_1 := blk_cell (S.at_box 0 rfl) 1; have fcb_1 := blk_frozen (S.at_box 0 rfl) 1; have cb_2 := blk_cell (S.at_box 0 rfl) 2; have fcb_2 := blk_frozen (S.at_box 0 rfl) 2; have cb_3 := blk_cell (S.at_box 0 rfl) 3; have fcb_3 := blk_frozen (S.at_box 0 rfl) 3; simp only [List.getElem?_toArray, List.getElem?_cons_zero, List.getElem?_cons_succ] at cb_0 cb_1 cb_2 cb_3; have cq_0 := blk_cell (S.at_box 1 rfl) 0; have fcq_0 := blk_frozen (S.at_box 1 rfl) 0; have cq_1 := blk_cell (S.at_box 1 rfl) 1; have fcq_1 := blk_frozen (S.at_box 1 rfl) 1; simp only [List.getElem?_toArray, List.getElem?_cons_zero, List.getElem?_cons_succ] at cq_0 cq_1; have cp_0 := blk_cell (S.at_box 2 rfl) 0; have cp_1 := blk_cell (S.at_box 2 rfl) 1; simp only [List.getElem?_toArray, List.getElem?_cons_zero, List.getElem?_cons_succ] at cp_0 cp_1; have cz_0 := blk_cell (S.at_box 3 rfl) 0; have cz_1 := blk_cell (S.at_box 3 rfl) 1; have cz_2 := blk_cell (S.at_box 3 rfl) 2; simp only [List.getElem?_toArray, List.getElem?_cons_zero, List.getElem?_cons_succ] at cz_0 cz_1 cz_2; have n36 : g3 ≠ g6 := S.box_ne 2 0 rfl rfl (by omega); have n63 : g6 ≠ g3 := S.box_ne 0 2 rfl rfl (by omega); have n46 : g4 ≠ g6 := S.box_ne 1 0 rfl rfl (by omega); have n64 : g6 ≠ g4 := S.box_ne 0 1 rfl rfl (by omega); have n26 : g2 ≠ g6 := S.box_ne 3 0 rfl rfl (by omega); have n62 : g6 ≠ g2 := S.box_ne 0 3 rfl rfl (by omega); replace S : Sep w _ [Box _ g6 40 #[.int .i64 b0, .int .i64 b1, .int .i64 b2, .int .i64 b3], Box _ g4 25 #[.int .i64 0, .int .i64 0], Box _ g3 25 #[.int .i64 p, .int .i64 q], Box _ g2 23 #[.int .i64 z, .int .i64 x, .int .i64 y]] := (((S.set 0 rfl 0 (.int .i64 b0)).set 0 rfl 1 (.int .i64 b1)).set 0 rfl 2 (.int .i64 b2)).set 0 rfl 3 (.int .i64 b3)))
  refine bodyPost_ret (results_ct rfl _ _ g4 25 #[.int .i64 0, .int .i64 0] (0, 0) _ rfl (((S.set 1 rfl 0 (.int .i64 0)).set 1 rfl 1 (.int .i64 0)).at_box 1 rfl) Try.underlying25 rfl (by kernel_rfl)) rfl ?_
  exact ⟨rfl, ((S.set 1 rfl 0 (.int .i64 0)).set 1 rfl 1 (.int .i64 0)).below⟩


end Go.Proofs.Ytdkegdnfbpobnaa.PARS
