-- Laid by a program of this work (wip/gen): out of the translation, with texts of our own.
import Derived.Test.YtdkegdnfbpobnaaPARSx0
import Derived.Test.YtdkegdnfbpobnaaPARSx4
namespace Go.Proofs.Ytdkegdnfbpobnaa.PARS
open Go.RowKit Go.Proofs.YtdkegdnfbpobnaaW.PrintWords Go.Proofs.YtdkegdnfbpobnaaW.PrintLast Go.Proofs.YtdkegdnfbpobnaaW.PrintMore Go.Proofs.YtdkegdnfbpobnaaW.SepW
attribute [local go_sem] max2_int min2_int max_two min_two max_three min_three max_four min_four   -- for this text's walks alone
set_option linter.unusedVariables false
set_option linter.unusedSimpArgs false

/-! ### num_RoundDiv: function 71 -/
def num_RoundDiv.j0 : Nat → Int → Int → Int → Option (Int)
 | 0, _, _, _ => none
 | k + 1, x0, x1, x5 => if x5 ≥ (wrap64 (x1 - x5)) then ((num_FloorDiv.f x0 x1).bind fun t130 => (some (wrap64 (t130 + 1)))) else ((num_FloorDiv.f x0 x1).bind fun t131 => (some t131))
def num_RoundDiv.f (k : Nat) (a0 : Int) (a1 : Int) : Option (Int) := if a1 ≤ 0 then (some 0) else (if a1 = 0 then (none) else (if (Int.tmod a0 a1) < 0 then (num_RoundDiv.j0 k a0 a1 (wrap64 ((Int.tmod a0 a1) + a1))) else (num_RoundDiv.j0 k a0 a1 (Int.tmod a0 a1))))
theorem num_RoundDiv.mono_l : ∀ k, (∀ y0 y1 y2, LeO (num_RoundDiv.j0 k y0 y1 y2) (num_RoundDiv.j0 (k + 1) y0 y1 y2))
 | 0 => fun _ _ _ r h => by simp [num_RoundDiv.j0] at h
 | k + 1 => by
  have ih0 := num_RoundDiv.mono_l k
  ·intro y0 y1 y2
   unfold num_RoundDiv.j0
   repeat' first
   | (with_reducible exact ih0 _ _ _)
   | (with_reducible exact LeO.refl _)
   | (with_reducible exact LeO.none _)
   | (with_reducible refine LeO.ite ?_ ?_)
   | (with_reducible refine LeO.bind ?_ (fun _ => ?_))
   | exact ih0 _ _ _
   | exact LeO.none _
   | refine LeO.ite ?_ ?_
   | refine LeO.bind ?_ (fun _ => ?_)
theorem num_RoundDiv.mono : ∀ a0 a1 k, LeO (num_RoundDiv.f k a0 a1) (num_RoundDiv.f (k + 1) a0 a1) := by
 intro a0 a1 k
 have ih0 := num_RoundDiv.mono_l k
 unfold num_RoundDiv.f
 repeat' first
   | (with_reducible exact ih0 _ _ _)
   | (with_reducible exact LeO.refl _)
   | (with_reducible exact LeO.none _)
   | (with_reducible refine LeO.ite ?_ ?_)
   | (with_reducible refine LeO.bind ?_ (fun _ => ?_))
   | exact ih0 _ _ _
   | exact LeO.none _
   | refine LeO.ite ?_ ?_
   | refine LeO.bind ?_ (fun _ => ?_)
set_option maxHeartbeats 8000000 in
set_option maxRecDepth 100000 in
theorem num_RoundDiv.calls (k : Nat) (a0 : Int) (a1 : Int) (r : Int) (w : World) (h : num_RoundDiv.f k a0 a1 = some r) :
  Calls Try.prog 71 #[.int .i64 a0, .int .i64 a1] w fun e w' => e = .returned (.int .i64 r) ∧ Drawn0 w w' := by
 have H : (if a1 ≤ 0 then (some 0) else (if a1 = 0 then (none) else (if (Int.tmod a0 a1) < 0 then (num_RoundDiv.j0 k a0 a1 (wrap64 ((Int.tmod a0 a1) + a1))) else (num_RoundDiv.j0 k a0 a1 (Int.tmod a0 a1))))) = some r := h
 clear h
 by_cases c3 : a1 ≤ 0
 ·rw [if_pos c3] at H
  have c3b0 : decide (a1 ≤ 0) = true := decide_eq_true c3
  clear c3
  obtain rfl := Option.some.inj H
  go_enter Try.func71, Try.ntmps71
  go_wp2
  go_ret
  exact ⟨by first | rfl | (simp; done) | (simp [*]; done), by repeat (first | exact Drawn0.refl _ | apply Drawn0.step)⟩
 ·rw [if_neg c3] at H
  have c3b0 : decide (a1 ≤ 0) = false := decide_eq_false c3
  clear c3
  by_cases c4 : a1 = 0
  ·rw [if_pos c4] at H
   exact absurd H (by simp)
  ·rw [if_neg c4] at H
   have c4b0 : (a1 == 0) = false := beq_eq_false_iff_ne.mpr c4
   have c4b1 : (a1 != 0) = true := bne_iff_ne.mpr c4
   have HC5 := Aside0.mk H
   clear H
   go_enter Try.func71, Try.ntmps71
   go_upto_if 12 with (fail)
   go_cut [5] (fun v5 wc => ∃ (kq : Nat) (x5_4 : Int), v5 = .int .i64 x5_4 ∧ Aside0 (num_RoundDiv.j0 kq a0 a1 x5_4 = some r) ∧ Aside0 (kq ≤ k) ∧ Drawn0 w wc)
   case first =>
    have H := HC5.out
    clear HC5
    by_cases c6 : (Int.tmod a0 a1) < 0
    ·rw [if_pos c6] at H
     have c6b0 : decide ((Int.tmod a0 a1) < 0) = true := decide_eq_true c6
     clear c6
     (first | rw [c6b0] | (simp only [i64_w, i32_w]; rw [c6b0]) | skip)
     have H' := Aside0.mk H
     clear H
     go_wp2
     go_meet
     case rel => exact ⟨_, (wrap64 ((Int.tmod a0 a1) + a1)), (by first | rfl | (simp; done) | (simp [*]; done)), H', ⟨by first | omega | exact Nat.le_refl _⟩, by repeat (first | exact Drawn0.refl _ | apply Drawn0.step)⟩
    ·rw [if_neg c6] at H
     have c6b0 : decide ((Int.tmod a0 a1) < 0) = false := decide_eq_false c6
     clear c6
     (first | rw [c6b0] | (simp only [i64_w, i32_w]; rw [c6b0]) | skip)
     have H' := Aside0.mk H
     clear H
     go_wp2
     go_meet
     case rel => exact ⟨_, (Int.tmod a0 a1), (by first | rfl | (simp; done) | (simp [*]; done)), H', ⟨by first | omega | exact Nat.le_refl _⟩, by repeat (first | exact Drawn0.refl _ | apply Drawn0.step)⟩
   case rest =>
    clear HC5
    try clear p2
    try clear c3
    try clear c3b0
    try clear c4
    try clear c4b0
    try clear c4b1
    try clear c6
    try clear c6b0
    try clear p6
    obtain ⟨kq, x5_4, rfl, HA, HJ4, ⟨mc4, rfl⟩⟩ := hcut
    cases kq with
    | zero => exact absurd HA.out (by simp [num_RoundDiv.j0])
    | succ kj4 =>
     have H := HA.out
     clear HA
     simp only [num_RoundDiv.j0] at H
     by_cases c7 : x5_4 ≥ (wrap64 (a1 - x5_4))
     ·rw [if_pos c7] at H
      have c7b0 : decide ((wrap64 (a1 - x5_4)) ≤ x5_4) = true := decide_eq_true c7
      clear c7
      replace H := Option.bind_eq_some_iff.mp H
      obtain ⟨t130, A80, H⟩ := H
      replace H : (some (wrap64 (t130 + 1))) = some r := H
      have A8 := Aside0.mk A80
      clear A80
      obtain rfl := Option.some.inj H
      go_wp2_with (first | ((with_reducible refine gate_callee (f := 74) rfl ?_); refine goesL_ (some 23) rfl rfl Try.func74 (by kernel_rfl) rfl #[.int .i64 a0, .int .i64 a1] rfl (by (try simp only [List.map_toArray, List.map_cons, List.map_nil]); first | done | rfl | (simp only [List.length_drop, List.length_take]; rfl)) ?_; (with_reducible refine (num_FloorDiv.calls a0 a1 t130 _ A8.out).mono ?_); rintro e w' ⟨rfl, ⟨nd, rfl⟩⟩; refine ⟨_, rfl, ?_⟩))
      go_ret
      exact ⟨by first | rfl | (simp; done) | (simp [*]; done), by repeat (first | exact Drawn0.refl _ | apply Drawn0.step)⟩
     ·rw [if_neg c7] at H
      have c7b0 : decide ((wrap64 (a1 - x5_4)) ≤ x5_4) = false := decide_eq_false c7
      clear c7
      replace H := Option.bind_eq_some_iff.mp H
      obtain ⟨t131, A90, H⟩ := H
      replace H : (some t131) = some r := H
      have A9 := Aside0.mk A90
      clear A90
      obtain rfl := Option.some.inj H
      go_wp2_with (first | ((with_reducible refine gate_callee (f := 74) rfl ?_); refine goesL_ (some 27) rfl rfl Try.func74 (by kernel_rfl) rfl #[.int .i64 a0, .int .i64 a1] rfl (by (try simp only [List.map_toArray, List.map_cons, List.map_nil]); first | done | rfl | (simp only [List.length_drop, List.length_take]; rfl)) ?_; (with_reducible refine (num_FloorDiv.calls a0 a1 t131 _ A9.out).mono ?_); rintro e w' ⟨rfl, ⟨nd, rfl⟩⟩; refine ⟨_, rfl, ?_⟩))
      go_ret
      exact ⟨by first | rfl | (simp; done) | (simp [*]; done), by repeat (first | exact Drawn0.refl _ | apply Drawn0.step)⟩

/-! ### clip_ratio: function 65 -/
def clip_ratio.f (k : Nat) (a0 : Int) (a1 : Int) (a2 : Int) : Option (Int) := if a2 < 0 then ((num_RoundDiv.f k (wrap64 ((wrap64 (-a0)) * a1)) (wrap64 (-a2))).bind fun t132 => (some t132)) else ((num_RoundDiv.f k (wrap64 (a0 * a1)) a2).bind fun t133 => (some t133))
theorem clip_ratio.mono : ∀ a0 a1 a2 k, LeO (clip_ratio.f k a0 a1 a2) (clip_ratio.f (k + 1) a0 a1 a2) := by
 intro a0 a1 a2 k
 unfold clip_ratio.f
 repeat' first
   | (with_reducible exact num_RoundDiv.mono _ _ _)
   | (with_reducible exact LeO.refl _)
   | (with_reducible exact LeO.none _)
   | (with_reducible refine LeO.ite ?_ ?_)
   | (with_reducible refine LeO.bind ?_ (fun _ => ?_))
   | exact num_RoundDiv.mono _ _ _
   | exact LeO.none _
   | refine LeO.ite ?_ ?_
   | refine LeO.bind ?_ (fun _ => ?_)
set_option maxHeartbeats 8000000 in
set_option maxRecDepth 100000 in
theorem clip_ratio.calls (k : Nat) (a0 : Int) (a1 : Int) (a2 : Int) (r : Int) (w : World) (h : clip_ratio.f k a0 a1 a2 = some r) :
  Calls Try.prog 65 #[.int .i64 a0, .int .i64 a1, .int .i64 a2] w fun e w' => e = .returned (.int .i64 r) ∧ Drawn0 w w' := by
 have H : (if a2 < 0 then ((num_RoundDiv.f k (wrap64 ((wrap64 (-a0)) * a1)) (wrap64 (-a2))).bind fun t132 => (some t132)) else ((num_RoundDiv.f k (wrap64 (a0 * a1)) a2).bind fun t133 => (some t133))) = some r := h
 clear h
 by_cases c4 : a2 < 0
 ·rw [if_pos c4] at H
  have c4b0 : decide (a2 < 0) = true := decide_eq_true c4
  clear c4
  replace H := Option.bind_eq_some_iff.mp H
  obtain ⟨t132, A50, H⟩ := H
  replace H : (some t132) = some r := H
  have A5 := Aside0.mk A50
  clear A50
  obtain rfl := Option.some.inj H
  go_enter Try.func65, Try.ntmps65
  go_wp2_with (first | ((with_reducible refine gate_callee (f := 71) rfl ?_); refine goesL_ (some 15) rfl rfl Try.func71 (by kernel_rfl) rfl #[.int .i64 (wrap64 ((wrap64 (-a0)) * a1)), .int .i64 (wrap64 (-a2))] rfl (by (try simp only [List.map_toArray, List.map_cons, List.map_nil]); first | done | rfl | (simp only [List.length_drop, List.length_take]; rfl)) ?_; (with_reducible refine (num_RoundDiv.calls k (wrap64 ((wrap64 (-a0)) * a1)) (wrap64 (-a2)) t132 _ A5.out).mono ?_); rintro e w' ⟨rfl, ⟨nd, rfl⟩⟩; refine ⟨_, rfl, ?_⟩))
  go_ret
  exact ⟨by first | rfl | (simp; done) | (simp [*]; done), by repeat (first | exact Drawn0.refl _ | apply Drawn0.step)⟩
 ·rw [if_neg c4] at H
  have c4b0 : decide (a2 < 0) = false := decide_eq_false c4
  clear c4
  replace H := Option.bind_eq_some_iff.mp H
  obtain ⟨t133, A60, H⟩ := H
  replace H : (some t133) = some r := H
  have A6 := Aside0.mk A60
  clear A60
  obtain rfl := Option.some.inj H
  go_enter Try.func65, Try.ntmps65
  go_wp2_with (first | ((with_reducible refine gate_callee (f := 71) rfl ?_); refine goesL_ (some 20) rfl rfl Try.func71 (by kernel_rfl) rfl #[.int .i64 (wrap64 (a0 * a1)), .int .i64 a2] rfl (by (try simp only [List.map_toArray, List.map_cons, List.map_nil]); first | done | rfl | (simp only [List.length_drop, List.length_take]; rfl)) ?_; (with_reducible refine (num_RoundDiv.calls k (wrap64 (a0 * a1)) a2 t133 _ A6.out).mono ?_); rintro e w' ⟨rfl, ⟨nd, rfl⟩⟩; refine ⟨_, rfl, ?_⟩))
  go_ret
  exact ⟨by first | rfl | (simp; done) | (simp [*]; done), by repeat (first | exact Drawn0.refl _ | apply Drawn0.step)⟩

/-! by hand -/
/-! ### clip_half_border: function 52 -/

/-- The point on the border, the end that is less first. -/
def clip_half_border.one (k : Nat) (byY : Bool) (at_ a0 a1 c0 c1 : Int) : Option (Int × Int) :=
 if byY = true then (clip_ratio.f k (wrap64 (at_ - a1)) (wrap64 (c0 - a0)) (wrap64 (c1 - a1))).bind fun t => some (wrap64 (a0 + t), at_)
 else (clip_ratio.f k (wrap64 (at_ - a0)) (wrap64 (c1 - a1)) (wrap64 (c0 - a0))).bind fun t => some (at_, wrap64 (a1 + t))
def clip_half_border.f (k : Nat) (byY most : Bool) (at_ p0 p1 q0 q1 : Int) : Option (Int × Int) :=
 (grid_Less.f q0 q1 p0 p1).bind fun t => clip_half_border.one k byY at_ (if t = true then q0 else p0) (if t = true then q1 else p1) (if t = true then p0 else q0) (if t = true then p1 else q1)

set_option maxHeartbeats 1000000 in
set_option maxRecDepth 100000 in
theorem clip_half_border.calls (k : Nat) (byY most : Bool) (at_ p0 p1 q0 q1 r1 r2 : Int) (w : World) (h : clip_half_border.f k byY most at_ p0 p1 q0 q1 = some (r1, r2)) :
  Calls Try.prog 52 #[.agg #[.bool byY, .bool most, .int .i64 at_], .agg #[.int .i64 p0, .int .i64 p1], .agg #[.int .i64 q0, .int .i64 q1]] w fun e w' => e = .returned (.agg #[.int .i64 r1, .int .i64 r2]) ∧ Below w.heap.size w w' := by
 have huP_ := Try.underlying25
 have huH_ := Try.underlying62
 obtain ⟨t, hl, h⟩ := Option.bind_eq_some_iff.mp h
 have HL := Aside0.mk hl
 have H := Aside0.mk h
 have S := Sep.start w
 clear hl h
 go_enter Try.func52, Try.ntmps52
 go_wp2_with (first | ((with_reducible refine gate_dst (N := 3) rfl ?_); refine box_event ?hg (N := 3) ?hd (cs := #[.bool byY, .bool most, .int .i64 at_]) (t := 62) ?hr ?_; (case hd => rfl); (case hg => rfl); (case hr => first | (go_simp; done) | (go_simp; rfl)); intro g3 hg w3 hbox hb; replace S := (S).box hg hbox hb; clear hbox hb hg) | ((with_reducible refine gate_dst (N := 4) rfl ?_); refine box_event ?hg (N := 4) ?hd (cs := #[.int .i64 p0, .int .i64 p1]) (t := 25) ?hr ?_; (case hd => rfl); (case hg => rfl); (case hr => first | (go_simp; done) | (go_simp; rfl)); intro g4 hg w4 hbox hb; replace S := (S).box hg hbox hb; clear hbox hb hg) | ((with_reducible refine gate_dst (N := 5) rfl ?_); refine box_event ?hg (N := 5) ?hd (cs := #[.int .i64 q0, .int .i64 q1]) (t := 25) ?hr ?_; (case hd => rfl); (case hg => rfl); (case hr => first | (go_simp; done) | (go_simp; rfl)); intro g5 hg w5 hbox hb; replace S := (S).box hg hbox hb; clear hbox hb hg) | ((with_reducible refine gate_dst (N := 6) rfl ?_); refine box_event ?hg (N := 6) ?hd (cs := #[.int .i64 0, .int .i64 0]) (t := 25) ?hr ?_; (case hd => rfl); (case hg => rfl); (case hr => first | (go_simp; done) | (go_simp; rfl)); intro g6 hg w6 hbox hb; replace S := (S).box hg hbox hb; clear hbox hb hg; have cq_0 := blk_cell (S.at_box 1 rfl) 0; have cq_1 := blk_cell (S.at_box 1 rfl) 1; have cp_0 := blk_cell (S.at_box 2 rfl) 0; have cp_1 := blk_cell (S.at_box 2 rfl) 1; simp only [List.getElem?_toArray, List.getElem?_cons_zero, List.getElem?_cons_succ] at cq_0 cq_1 cp_0 cp_1))
 simp only [Act.put, List.setIfInBounds_toArray, List.set_cons_zero, List.set_cons_succ]
 go_cut [7, 8] (fun v7 v8 w' => ∃ g7 g8 : Nat, v7 = .pointer (some ⟨g7, 0, none⟩) ∧ v8 = .pointer (some ⟨g8, 0, none⟩) ∧ Sep w w' [Box _ g7 25 #[.int .i64 p0, .int .i64 p1], Box _ g8 25 #[.int .i64 q0, .int .i64 q1], Box _ g6 25 #[.int .i64 0, .int .i64 0], Box _ g5 25 #[.int .i64 q0, .int .i64 q1], Box _ g4 25 #[.int .i64 p0, .int .i64 p1], Box _ g3 62 #[.bool byY, .bool most, .int .i64 at_]])
 case first =>
  have nn4 := World.new_ne _ _ cp_0
  have nn5 := World.new_ne _ _ cq_0
  have nm4 : w6.heap.size + 1 ≠ g4 := Nat.ne_of_gt (Nat.lt_succ_of_lt (World.block_lt_of_cell? _ _ cp_0))
  have nm5 : w6.heap.size + 1 ≠ g5 := Nat.ne_of_gt (Nat.lt_succ_of_lt (World.block_lt_of_cell? _ _ cq_0))
  go_region_held3 (fun w' => w'.cell? ⟨g4, 0, none⟩ = some (.int .i64 p0) ∧ w'.cell? ⟨g4, 1, none⟩ = some (.int .i64 p1) ∧ w'.cell? ⟨g5, 0, none⟩ = some (.int .i64 q0) ∧ w'.cell? ⟨g5, 1, none⟩ = some (.int .i64 q1)) (go_keep) (first | fail)
  ·go_wp2_with fail
   go_meet
   case rel => exact ⟨w6.heap.size, w6.heap.size + 1, rfl, rfl, ((S.alloc _ 25).alloc' _ 25 (by simp)).drew.swap⟩
  ·go_wp2_with fail
   go_meet
   case rel => exact ⟨w6.heap.size + 1, w6.heap.size, rfl, rfl, ((S.alloc _ 25).alloc' _ 25 (by simp)).drew⟩
 case rest =>
  clear S cp_0 cp_1 cq_0 cq_1
  obtain ⟨g7, g8, rfl, rfl, S⟩ := hcut
  have cp_0 := blk_cell (S.at_box 4 rfl) 0
  have cp_1 := blk_cell (S.at_box 4 rfl) 1
  have cq_0 := blk_cell (S.at_box 3 rfl) 0
  have cq_1 := blk_cell (S.at_box 3 rfl) 1
  simp only [List.getElem?_toArray, List.getElem?_cons_zero, List.getElem?_cons_succ] at cp_0 cp_1 cq_0 cq_1
  cases t with
  | false =>
   replace H := Aside0.mk (show clip_half_border.one k byY at_ p0 p1 q0 q1 = some (r1, r2) by simpa using H.out)
   have n6_7 := S.box_ne 2 0 rfl rfl (by decide)
   have n6_8 := S.box_ne 2 1 rfl rfl (by decide)
   have n6_3 := S.box_ne 2 5 rfl rfl (by decide)
   cases byY with
   | true =>
    obtain ⟨r_, hr, h2⟩ := Option.bind_eq_some_iff.mp (show (clip_ratio.f k (wrap64 (at_ - p1)) (wrap64 (q0 - p0)) (wrap64 (q1 - p1))).bind (fun t => some (wrap64 (p0 + t), at_)) = some (r1, r2) by simpa [clip_half_border.one] using H.out)
    have HR := Aside0.mk hr
    have H2 := Aside0.mk h2
    clear h2 hr H
    go_wp2_with (first | (go_at_call 64; (with_reducible refine (grid_Less.calls _ _ _ _ _ _ HL.out).mono ?_); rintro e w7 ⟨rfl, hb⟩; replace S := S.step hb; clear hb; clear cp_0 cp_1 cq_0 cq_1; have cp_0 := blk_cell (S.at_box 4 rfl) 0; have cp_1 := blk_cell (S.at_box 4 rfl) 1; have cq_0 := blk_cell (S.at_box 3 rfl) 0; have cq_1 := blk_cell (S.at_box 3 rfl) 1; have c3_0 := blk_cell (S.at_box 5 rfl) 0; have c3_1 := blk_cell (S.at_box 5 rfl) 1; have c3_2 := blk_cell (S.at_box 5 rfl) 2; simp only [List.getElem?_toArray, List.getElem?_cons_zero, List.getElem?_cons_succ] at cp_0 cp_1 cq_0 cq_1 c3_0 c3_1 c3_2))
    have c7_0 := blk_cell (S.at_box 0 rfl) 0
    have c7_1 := blk_cell (S.at_box 0 rfl) 1
    have c8_0 := blk_cell (S.at_box 1 rfl) 0
    have c8_1 := blk_cell (S.at_box 1 rfl) 1
    have c6_0 := blk_cell (S.at_box 2 rfl) 0
    have fc6_0 := blk_frozen (S.at_box 2 rfl) 0
    have c6_1 := blk_cell (S.at_box 2 rfl) 1
    have fc6_1 := blk_frozen (S.at_box 2 rfl) 1
    simp only [List.getElem?_toArray, List.getElem?_cons_zero, List.getElem?_cons_succ] at c7_0 c7_1 c8_0 c8_1 c6_0 c6_1
    have hwA : ∀ n : Int, IntKind.i64.wrap n = wrap64 n := IntWalk.i64_left
    go_region_held3 (fun w' => w'.cell? ⟨g3, 2, none⟩ = some (.int .i64 at_) ∧ w'.cell? ⟨g7, 0, none⟩ = some (.int .i64 p0) ∧ w'.cell? ⟨g7, 1, none⟩ = some (.int .i64 p1) ∧ w'.cell? ⟨g8, 0, none⟩ = some (.int .i64 q0) ∧ w'.cell? ⟨g8, 1, none⟩ = some (.int .i64 q1)) (first | assumption | go_keep) (first | (go_at_call 65; (with_reducible refine (clip_ratio.calls k _ _ _ r_ _ HR.out).mono ?_); rintro e w9 ⟨rfl, hd⟩; have hb := pw_drawn_below hd; replace S := S.drew.step hb; have k6_0 := blk_cell (S.at_box 2 rfl) 0; have fk6_0 := blk_frozen (S.at_box 2 rfl) 0; have k6_1 := blk_cell (S.at_box 2 rfl) 1; have fk6_1 := blk_frozen (S.at_box 2 rfl) 1; simp only [List.getElem?_toArray, List.getElem?_cons_zero, List.getElem?_cons_succ] at k6_0 k6_1; have hS9 : w9.cell? ⟨g3, 2, none⟩ = some (.int .i64 at_) ∧ w9.cell? ⟨g7, 0, none⟩ = some (.int .i64 p0) ∧ w9.cell? ⟨g7, 1, none⟩ = some (.int .i64 p1) ∧ w9.cell? ⟨g8, 0, none⟩ = some (.int .i64 q0) ∧ w9.cell? ⟨g8, 1, none⟩ = some (.int .i64 q1) := ⟨pw_cell_below hb (by go_keep), pw_cell_below hb (by go_keep), pw_cell_below hb (by go_keep), pw_cell_below hb (by go_keep), pw_cell_below hb (by go_keep)⟩))
    go_wp2_with fail
    have S3 := (S.set 2 rfl 0 (.int .i64 (wrap64 (p0 + r_)))).set 2 rfl 1 (.int .i64 at_)
    refine bodyPost_ret (results_cell_row rfl _ _ g6 25 #[(.int .i64 (wrap64 (p0 + r_))), (.int .i64 at_)] (0, 0) _ rfl (S3.at_box 2 rfl) Try.underlying25 rfl (by kernel_rfl)) rfl ?_
    obtain ⟨e1, e2⟩ : wrap64 (p0 + r_) = r1 ∧ at_ = r2 := by simpa using H2.out
    exact ⟨by rw [← e1, ← e2], S3.below⟩
   | false =>
    obtain ⟨r_, hr, h2⟩ := Option.bind_eq_some_iff.mp (show (clip_ratio.f k (wrap64 (at_ - p0)) (wrap64 (q1 - p1)) (wrap64 (q0 - p0))).bind (fun t => some (at_, wrap64 (p1 + t))) = some (r1, r2) by simpa [clip_half_border.one] using H.out)
    have HR := Aside0.mk hr
    have H2 := Aside0.mk h2
    clear h2 hr H
    go_wp2_with (first | (go_at_call 64; (with_reducible refine (grid_Less.calls _ _ _ _ _ _ HL.out).mono ?_); rintro e w7 ⟨rfl, hb⟩; replace S := S.step hb; clear hb; clear cp_0 cp_1 cq_0 cq_1; have cp_0 := blk_cell (S.at_box 4 rfl) 0; have cp_1 := blk_cell (S.at_box 4 rfl) 1; have cq_0 := blk_cell (S.at_box 3 rfl) 0; have cq_1 := blk_cell (S.at_box 3 rfl) 1; have c3_0 := blk_cell (S.at_box 5 rfl) 0; have c3_1 := blk_cell (S.at_box 5 rfl) 1; have c3_2 := blk_cell (S.at_box 5 rfl) 2; simp only [List.getElem?_toArray, List.getElem?_cons_zero, List.getElem?_cons_succ] at cp_0 cp_1 cq_0 cq_1 c3_0 c3_1 c3_2))
    have c7_0 := blk_cell (S.at_box 0 rfl) 0
    have c7_1 := blk_cell (S.at_box 0 rfl) 1
    have c8_0 := blk_cell (S.at_box 1 rfl) 0
    have c8_1 := blk_cell (S.at_box 1 rfl) 1
    have c6_0 := blk_cell (S.at_box 2 rfl) 0
    have fc6_0 := blk_frozen (S.at_box 2 rfl) 0
    have c6_1 := blk_cell (S.at_box 2 rfl) 1
    have fc6_1 := blk_frozen (S.at_box 2 rfl) 1
    simp only [List.getElem?_toArray, List.getElem?_cons_zero, List.getElem?_cons_succ] at c7_0 c7_1 c8_0 c8_1 c6_0 c6_1
    have hwA : ∀ n : Int, IntKind.i64.wrap n = wrap64 n := IntWalk.i64_left
    go_region_held3 (fun w' => w'.cell? ⟨g3, 2, none⟩ = some (.int .i64 at_) ∧ w'.cell? ⟨g7, 0, none⟩ = some (.int .i64 p0) ∧ w'.cell? ⟨g7, 1, none⟩ = some (.int .i64 p1) ∧ w'.cell? ⟨g8, 0, none⟩ = some (.int .i64 q0) ∧ w'.cell? ⟨g8, 1, none⟩ = some (.int .i64 q1)) (first | assumption | go_keep) (first | (go_at_call 65; (with_reducible refine (clip_ratio.calls k _ _ _ r_ _ HR.out).mono ?_); rintro e w9 ⟨rfl, hd⟩; have hb := pw_drawn_below hd; replace S := S.drew.step hb; have k6_0 := blk_cell (S.at_box 2 rfl) 0; have fk6_0 := blk_frozen (S.at_box 2 rfl) 0; have k6_1 := blk_cell (S.at_box 2 rfl) 1; have fk6_1 := blk_frozen (S.at_box 2 rfl) 1; simp only [List.getElem?_toArray, List.getElem?_cons_zero, List.getElem?_cons_succ] at k6_0 k6_1; have hS9 : w9.cell? ⟨g3, 2, none⟩ = some (.int .i64 at_) ∧ w9.cell? ⟨g7, 0, none⟩ = some (.int .i64 p0) ∧ w9.cell? ⟨g7, 1, none⟩ = some (.int .i64 p1) ∧ w9.cell? ⟨g8, 0, none⟩ = some (.int .i64 q0) ∧ w9.cell? ⟨g8, 1, none⟩ = some (.int .i64 q1) := ⟨pw_cell_below hb (by go_keep), pw_cell_below hb (by go_keep), pw_cell_below hb (by go_keep), pw_cell_below hb (by go_keep), pw_cell_below hb (by go_keep)⟩))
    go_wp2_with fail
    have S3 := (S.set 2 rfl 0 (.int .i64 at_)).set 2 rfl 1 (.int .i64 (wrap64 (p1 + r_)))
    refine bodyPost_ret (results_cell_row rfl _ _ g6 25 #[(.int .i64 at_), (.int .i64 (wrap64 (p1 + r_)))] (0, 0) _ rfl (S3.at_box 2 rfl) Try.underlying25 rfl (by kernel_rfl)) rfl ?_
    obtain ⟨e1, e2⟩ : at_ = r1 ∧ wrap64 (p1 + r_) = r2 := by simpa using H2.out
    exact ⟨by rw [← e1, ← e2], S3.below⟩
  | true =>
   replace H := Aside0.mk (show clip_half_border.one k byY at_ q0 q1 p0 p1 = some (r1, r2) by simpa using H.out)
   have n57 := S.box_ne 3 0 rfl rfl (by decide)
   have n58 := S.box_ne 3 1 rfl rfl (by decide)
   have n47 := S.box_ne 4 0 rfl rfl (by decide)
   have n48 := S.box_ne 4 1 rfl rfl (by decide)
   have n78 := S.box_ne 0 1 rfl rfl (by decide)
   have n75 := n57.symm
   have n85 := n58.symm
   have n74 := n47.symm
   have n84 := n48.symm
   have n87 := n78.symm
   go_wp2_with (first | (go_at_call 64; (with_reducible refine (grid_Less.calls _ _ _ _ _ _ HL.out).mono ?_); rintro e w7 ⟨rfl, hb⟩; replace S := S.step hb; clear hb; clear cp_0 cp_1 cq_0 cq_1; have cp_0 := blk_cell (S.at_box 4 rfl) 0; have cp_1 := blk_cell (S.at_box 4 rfl) 1; have cq_0 := blk_cell (S.at_box 3 rfl) 0; have cq_1 := blk_cell (S.at_box 3 rfl) 1; have c3_0 := blk_cell (S.at_box 5 rfl) 0; have c3_1 := blk_cell (S.at_box 5 rfl) 1; have c3_2 := blk_cell (S.at_box 5 rfl) 2; simp only [List.getElem?_toArray, List.getElem?_cons_zero, List.getElem?_cons_succ] at cp_0 cp_1 cq_0 cq_1 c3_0 c3_1 c3_2; have c7_0 := blk_cell (S.at_box 0 rfl) 0; have fc7_0 := blk_frozen (S.at_box 0 rfl) 0; have c7_1 := blk_cell (S.at_box 0 rfl) 1; have fc7_1 := blk_frozen (S.at_box 0 rfl) 1; have c8_0 := blk_cell (S.at_box 1 rfl) 0; have fc8_0 := blk_frozen (S.at_box 1 rfl) 0; have c8_1 := blk_cell (S.at_box 1 rfl) 1; have fc8_1 := blk_frozen (S.at_box 1 rfl) 1; simp only [List.getElem?_toArray, List.getElem?_cons_zero, List.getElem?_cons_succ] at c7_0 c7_1 c8_0 c8_1))
   go_cut [14, 15] (fun v14 v15 w' => Sep w w' [Box _ g7 25 #[.int .i64 q0, .int .i64 q1], Box _ g8 25 #[.int .i64 p0, .int .i64 p1], Box _ g6 25 #[.int .i64 0, .int .i64 0], Box _ g5 25 #[.int .i64 q0, .int .i64 q1], Box _ g4 25 #[.int .i64 p0, .int .i64 p1], Box _ g3 62 #[.bool byY, .bool most, .int .i64 at_]])
   case first =>
    go_region_held3 (fun w' => w'.cell? ⟨g4, 0, none⟩ = some (.int .i64 p0) ∧ w'.cell? ⟨g4, 1, none⟩ = some (.int .i64 p1) ∧ w'.cell? ⟨g5, 0, none⟩ = some (.int .i64 q0) ∧ w'.cell? ⟨g5, 1, none⟩ = some (.int .i64 q1)) (go_keep) (first | fail)
    go_wp2_with fail
    go_meet
    case rel => exact (((S.drew.set 0 rfl 0 (.int .i64 q0)).set 0 rfl 1 (.int .i64 q1)).set 1 rfl 0 (.int .i64 p0)).set 1 rfl 1 (.int .i64 p1)
   case rest =>
    clear S cp_0 cp_1 cq_0 cq_1 c3_0 c3_1 c3_2 c7_0 c7_1 c8_0 c8_1 fc7_0 fc7_1 fc8_0 fc8_1
    have S := hcut
    clear hcut
    have c3_0 := blk_cell (S.at_box 5 rfl) 0
    have c3_1 := blk_cell (S.at_box 5 rfl) 1
    have c3_2 := blk_cell (S.at_box 5 rfl) 2
    simp only [List.getElem?_toArray, List.getElem?_cons_zero, List.getElem?_cons_succ] at c3_0 c3_1 c3_2
    have n6_7 := S.box_ne 2 0 rfl rfl (by decide)
    have n6_8 := S.box_ne 2 1 rfl rfl (by decide)
    have n6_3 := S.box_ne 2 5 rfl rfl (by decide)
    cases byY with
    | true =>
     obtain ⟨r_, hr, h2⟩ := Option.bind_eq_some_iff.mp (show (clip_ratio.f k (wrap64 (at_ - q1)) (wrap64 (p0 - q0)) (wrap64 (p1 - q1))).bind (fun t => some (wrap64 (q0 + t), at_)) = some (r1, r2) by simpa [clip_half_border.one] using H.out)
     have HR := Aside0.mk hr
     have H2 := Aside0.mk h2
     clear h2 hr H
     go_wp2_with (first | fail)
     have c7_0 := blk_cell (S.at_box 0 rfl) 0
     have c7_1 := blk_cell (S.at_box 0 rfl) 1
     have c8_0 := blk_cell (S.at_box 1 rfl) 0
     have c8_1 := blk_cell (S.at_box 1 rfl) 1
     have c6_0 := blk_cell (S.at_box 2 rfl) 0
     have fc6_0 := blk_frozen (S.at_box 2 rfl) 0
     have c6_1 := blk_cell (S.at_box 2 rfl) 1
     have fc6_1 := blk_frozen (S.at_box 2 rfl) 1
     simp only [List.getElem?_toArray, List.getElem?_cons_zero, List.getElem?_cons_succ] at c7_0 c7_1 c8_0 c8_1 c6_0 c6_1
     have hwA : ∀ n : Int, IntKind.i64.wrap n = wrap64 n := IntWalk.i64_left
     go_region_held3 (fun w' => w'.cell? ⟨g3, 2, none⟩ = some (.int .i64 at_) ∧ w'.cell? ⟨g7, 0, none⟩ = some (.int .i64 q0) ∧ w'.cell? ⟨g7, 1, none⟩ = some (.int .i64 q1) ∧ w'.cell? ⟨g8, 0, none⟩ = some (.int .i64 p0) ∧ w'.cell? ⟨g8, 1, none⟩ = some (.int .i64 p1)) (first | assumption | go_keep) (first | (go_at_call 65; (with_reducible refine (clip_ratio.calls k _ _ _ r_ _ HR.out).mono ?_); rintro e w9 ⟨rfl, hd⟩; have hb := pw_drawn_below hd; replace S := S.drew.step hb; have k6_0 := blk_cell (S.at_box 2 rfl) 0; have fk6_0 := blk_frozen (S.at_box 2 rfl) 0; have k6_1 := blk_cell (S.at_box 2 rfl) 1; have fk6_1 := blk_frozen (S.at_box 2 rfl) 1; simp only [List.getElem?_toArray, List.getElem?_cons_zero, List.getElem?_cons_succ] at k6_0 k6_1; have hS9 : w9.cell? ⟨g3, 2, none⟩ = some (.int .i64 at_) ∧ w9.cell? ⟨g7, 0, none⟩ = some (.int .i64 q0) ∧ w9.cell? ⟨g7, 1, none⟩ = some (.int .i64 q1) ∧ w9.cell? ⟨g8, 0, none⟩ = some (.int .i64 p0) ∧ w9.cell? ⟨g8, 1, none⟩ = some (.int .i64 p1) := ⟨pw_cell_below hb (by go_keep), pw_cell_below hb (by go_keep), pw_cell_below hb (by go_keep), pw_cell_below hb (by go_keep), pw_cell_below hb (by go_keep)⟩))
     go_wp2_with fail
     have S3 := (S.set 2 rfl 0 (.int .i64 (wrap64 (q0 + r_)))).set 2 rfl 1 (.int .i64 at_)
     refine bodyPost_ret (results_cell_row rfl _ _ g6 25 #[(.int .i64 (wrap64 (q0 + r_))), (.int .i64 at_)] (0, 0) _ rfl (S3.at_box 2 rfl) Try.underlying25 rfl (by kernel_rfl)) rfl ?_
     obtain ⟨e1, e2⟩ : wrap64 (q0 + r_) = r1 ∧ at_ = r2 := by simpa using H2.out
     exact ⟨by rw [← e1, ← e2], S3.below⟩
    | false =>
     obtain ⟨r_, hr, h2⟩ := Option.bind_eq_some_iff.mp (show (clip_ratio.f k (wrap64 (at_ - q0)) (wrap64 (p1 - q1)) (wrap64 (p0 - q0))).bind (fun t => some (at_, wrap64 (q1 + t))) = some (r1, r2) by simpa [clip_half_border.one] using H.out)
     have HR := Aside0.mk hr
     have H2 := Aside0.mk h2
     clear h2 hr H
     go_wp2_with (first | fail)
     have c7_0 := blk_cell (S.at_box 0 rfl) 0
     have c7_1 := blk_cell (S.at_box 0 rfl) 1
     have c8_0 := blk_cell (S.at_box 1 rfl) 0
     have c8_1 := blk_cell (S.at_box 1 rfl) 1
     have c6_0 := blk_cell (S.at_box 2 rfl) 0
     have fc6_0 := blk_frozen (S.at_box 2 rfl) 0
     have c6_1 := blk_cell (S.at_box 2 rfl) 1
     have fc6_1 := blk_frozen (S.at_box 2 rfl) 1
     simp only [List.getElem?_toArray, List.getElem?_cons_zero, List.getElem?_cons_succ] at c7_0 c7_1 c8_0 c8_1 c6_0 c6_1
     have hwA : ∀ n : Int, IntKind.i64.wrap n = wrap64 n := IntWalk.i64_left
     go_region_held3 (fun w' => w'.cell? ⟨g3, 2, none⟩ = some (.int .i64 at_) ∧ w'.cell? ⟨g7, 0, none⟩ = some (.int .i64 q0) ∧ w'.cell? ⟨g7, 1, none⟩ = some (.int .i64 q1) ∧ w'.cell? ⟨g8, 0, none⟩ = some (.int .i64 p0) ∧ w'.cell? ⟨g8, 1, none⟩ = some (.int .i64 p1)) (first | assumption | go_keep) (first | (go_at_call 65; (with_reducible refine (clip_ratio.calls k _ _ _ r_ _ HR.out).mono ?_); rintro e w9 ⟨rfl, hd⟩; have hb := pw_drawn_below hd; replace S := S.drew.step hb; have k6_0 := blk_cell (S.at_box 2 rfl) 0; have fk6_0 := blk_frozen (S.at_box 2 rfl) 0; have k6_1 := blk_cell (S.at_box 2 rfl) 1; have fk6_1 := blk_frozen (S.at_box 2 rfl) 1; simp only [List.getElem?_toArray, List.getElem?_cons_zero, List.getElem?_cons_succ] at k6_0 k6_1; have hS9 : w9.cell? ⟨g3, 2, none⟩ = some (.int .i64 at_) ∧ w9.cell? ⟨g7, 0, none⟩ = some (.int .i64 q0) ∧ w9.cell? ⟨g7, 1, none⟩ = some (.int .i64 q1) ∧ w9.cell? ⟨g8, 0, none⟩ = some (.int .i64 p0) ∧ w9.cell? ⟨g8, 1, none⟩ = some (.int .i64 p1) := ⟨pw_cell_below hb (by go_keep), pw_cell_below hb (by go_keep), pw_cell_below hb (by go_keep), pw_cell_below hb (by go_keep), pw_cell_below hb (by go_keep)⟩))
     go_wp2_with fail
     have S3 := (S.set 2 rfl 0 (.int .i64 at_)).set 2 rfl 1 (.int .i64 (wrap64 (q1 + r_)))
     refine bodyPost_ret (results_cell_row rfl _ _ g6 25 #[(.int .i64 at_), (.int .i64 (wrap64 (q1 + r_)))] (0, 0) _ rfl (S3.at_box 2 rfl) Try.underlying25 rfl (by kernel_rfl)) rfl ?_
     obtain ⟨e1, e2⟩ : at_ = r1 ∧ wrap64 (q1 + r_) = r2 := by simpa using H2.out
     exact ⟨by rw [← e1, ← e2], S3.below⟩
theorem clip_half_border.one_mono (k : Nat) (byY : Bool) (at_ a0 a1 c0 c1 : Int) : LeO (clip_half_border.one k byY at_ a0 a1 c0 c1) (clip_half_border.one (k + 1) byY at_ a0 a1 c0 c1) := by
 unfold clip_half_border.one
 exact LeO.ite (LeO.bind (clip_ratio.mono _ _ _ _) (fun _ => LeO.refl _)) (LeO.bind (clip_ratio.mono _ _ _ _) (fun _ => LeO.refl _))
theorem clip_half_border.mono : ∀ a0 a1 a2 a3 a4 a5 a6 k, LeO (clip_half_border.f k a0 a1 a2 a3 a4 a5 a6) (clip_half_border.f (k + 1) a0 a1 a2 a3 a4 a5 a6) := by
 intro a0 a1 a2 a3 a4 a5 a6 k
 unfold clip_half_border.f
 exact LeO.bind (LeO.refl _) (fun _ => clip_half_border.one_mono _ _ _ _ _ _ _)


end Go.Proofs.Ytdkegdnfbpobnaa.PARS
