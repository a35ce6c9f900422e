-- Laid by a program of this work (wip/gen): out of the translation, with texts of our own.
import Derived.Test.YtdkegdnfbpobnaaPARSx0
import Derived.Test.YtdkegdnfbpobnaaPARSx18
import Derived.Test.YtdkegdnfbpobnaaPARSx19
namespace Go.Proofs.Ytdkegdnfbpobnaa.PARS
open Go.RowKit Go.Proofs.YtdkegdnfbpobnaaW.PrintWords Go.Proofs.YtdkegdnfbpobnaaW.PrintLast Go.Proofs.YtdkegdnfbpobnaaW.PrintMore Go.Proofs.YtdkegdnfbpobnaaW.SepW
attribute [local go_sem] max2_int min2_int max_two min_two max_three min_three max_four min_four   -- for this text's walks alone
set_option linter.unusedVariables false
set_option linter.unusedSimpArgs false

/-! by hand -/
/-! ### mapmakerref12_border: function 58 -/

/-- The point on the border, the end that is less first. -/
def mapmakerref12_border.one (k : Nat) (s b0 b1 b2 b3 a0 a1 c0 c1 : Int) : Option (Int × Int) :=
 if s < 2 then (mapmakerref12_quotient.f k (wrap64 (wrap64 ((if s = 1 then b2 else b0) - a0) * wrap64 (c1 - a1))) (wrap64 (c0 - a0))).bind fun t => some ((if s = 1 then b2 else b0), wrap64 (a1 + t))
 else (mapmakerref12_quotient.f k (wrap64 (wrap64 ((if s = 3 then b3 else b1) - a1) * wrap64 (c0 - a0))) (wrap64 (c1 - a1))).bind fun t => some (wrap64 (a0 + t), (if s = 3 then b3 else b1))
def mapmakerref12_border.f (k : Nat) (p0 p1 q0 q1 b0 b1 b2 b3 s : Int) : Option (Int × Int) :=
 (mapmakerref08_Less.f q0 q1 p0 p1).bind fun t => mapmakerref12_border.one k s b0 b1 b2 b3 (if t = true then q0 else p0) (if t = true then q1 else p1) (if t = true then p0 else q0) (if t = true then p1 else q1)

set_option maxHeartbeats 4000000 in
set_option maxRecDepth 100000 in
theorem mapmakerref12_border.calls (k : Nat) (p0 p1 q0 q1 b0 b1 b2 b3 s r1 r2 : Int) (w : World) (h : mapmakerref12_border.f k p0 p1 q0 q1 b0 b1 b2 b3 s = some (r1, r2)) :
  Calls Try.prog 58 #[.agg #[.int .i64 p0, .int .i64 p1], .agg #[.int .i64 q0, .int .i64 q1], .agg #[.int .i64 b0, .int .i64 b1, .int .i64 b2, .int .i64 b3], .int .i64 s] w fun e w' => e = .returned (.agg #[.int .i64 r1, .int .i64 r2]) ∧ Below w.heap.size w w' := by
 have huP_ := Try.underlying25
 have huB_ := Try.underlying40
 obtain ⟨t, hl, h⟩ := Option.bind_eq_some_iff.mp h
 have HL := Aside0.mk hl
 have H := Aside0.mk h
 have S := Sep.start w
 clear hl h
 go_enter Try.func58, Try.ntmps58
 go_wp2_with (first | ((with_reducible refine gate_dst (N := 4) rfl ?_); refine box_event ?hg (N := 4) ?hd (cs := #[.int .i64 p0, .int .i64 p1]) (t := 25) ?hr ?_; (case hd => rfl); (case hg => rfl); (case hr => first | (go_simp; done) | (go_simp; rfl)); intro g4 hg w4 hbox hb; replace S := (S).box hg hbox hb; clear hbox hb hg) | ((with_reducible refine gate_dst (N := 5) rfl ?_); refine box_event ?hg (N := 5) ?hd (cs := #[.int .i64 q0, .int .i64 q1]) (t := 25) ?hr ?_; (case hd => rfl); (case hg => rfl); (case hr => first | (go_simp; done) | (go_simp; rfl)); intro g5 hg w5 hbox hb; replace S := (S).box hg hbox hb; clear hbox hb hg) | ((with_reducible refine gate_dst (N := 6) rfl ?_); refine box_event ?hg (N := 6) ?hd (cs := #[.int .i64 b0, .int .i64 b1, .int .i64 b2, .int .i64 b3]) (t := 40) ?hr ?_; (case hd => rfl); (case hg => rfl); (case hr => first | (go_simp; done) | (go_simp; rfl)); intro g6 hg w6_ hbox hb; replace S := (S).box hg hbox hb; clear hbox hb hg) | ((with_reducible refine gate_dst (N := 8) rfl ?_); refine box_event ?hg (N := 8) ?hd (cs := #[.int .i64 0, .int .i64 0]) (t := 25) ?hr ?_; (case hd => rfl); (case hg => rfl); (case hr => first | (go_simp; done) | (go_simp; rfl)); intro g8 hg w6 hbox hb; replace S := (S).box hg hbox hb; clear hbox hb hg; have cq_0 := blk_cell (S.at_box 2 rfl) 0; have cq_1 := blk_cell (S.at_box 2 rfl) 1; have cp_0 := blk_cell (S.at_box 3 rfl) 0; have cp_1 := blk_cell (S.at_box 3 rfl) 1; simp only [List.getElem?_toArray, List.getElem?_cons_zero, List.getElem?_cons_succ] at cq_0 cq_1 cp_0 cp_1))
 simp only [Act.put, List.setIfInBounds_toArray, List.set_cons_zero, List.set_cons_succ]
 go_cut [9, 10] (fun v9 v10 w' => ∃ g9 g10 : Nat, v9 = .pointer (some ⟨g9, 0, none⟩) ∧ v10 = .pointer (some ⟨g10, 0, none⟩) ∧ Sep w w' [Box _ g9 25 #[.int .i64 p0, .int .i64 p1], Box _ g10 25 #[.int .i64 q0, .int .i64 q1], Box _ g8 25 #[.int .i64 0, .int .i64 0], Box _ g6 40 #[.int .i64 b0, .int .i64 b1, .int .i64 b2, .int .i64 b3], Box _ g5 25 #[.int .i64 q0, .int .i64 q1], Box _ g4 25 #[.int .i64 p0, .int .i64 p1]])
 case first =>
  have nn4 := World.new_ne _ _ cp_0
  have nn5 := World.new_ne _ _ cq_0
  have nm4 : w6.heap.size + 1 ≠ g4 := Nat.ne_of_gt (Nat.lt_succ_of_lt (World.block_lt_of_cell? _ _ cp_0))
  have nm5 : w6.heap.size + 1 ≠ g5 := Nat.ne_of_gt (Nat.lt_succ_of_lt (World.block_lt_of_cell? _ _ cq_0))
  go_region_held3 (fun w' => w'.cell? ⟨g4, 0, none⟩ = some (.int .i64 p0) ∧ w'.cell? ⟨g4, 1, none⟩ = some (.int .i64 p1) ∧ w'.cell? ⟨g5, 0, none⟩ = some (.int .i64 q0) ∧ w'.cell? ⟨g5, 1, none⟩ = some (.int .i64 q1)) (go_keep) (first | fail)
  ·go_wp2_with fail
   go_meet
   case rel => exact ⟨w6.heap.size, w6.heap.size + 1, rfl, rfl, ((S.alloc _ 25).alloc' _ 25 (by simp)).drew.swap⟩
  ·go_wp2_with fail
   go_meet
   case rel => exact ⟨w6.heap.size + 1, w6.heap.size, rfl, rfl, ((S.alloc _ 25).alloc' _ 25 (by simp)).drew⟩
 case rest =>
  clear S cp_0 cp_1 cq_0 cq_1
  obtain ⟨g9, g10, rfl, rfl, S⟩ := hcut
  have cp_0 := blk_cell (S.at_box 5 rfl) 0
  have cp_1 := blk_cell (S.at_box 5 rfl) 1
  have cq_0 := blk_cell (S.at_box 4 rfl) 0
  have cq_1 := blk_cell (S.at_box 4 rfl) 1
  simp only [List.getElem?_toArray, List.getElem?_cons_zero, List.getElem?_cons_succ] at cp_0 cp_1 cq_0 cq_1
  cases t with
  | false =>
   replace H := Aside0.mk (show mapmakerref12_border.one k s b0 b1 b2 b3 p0 p1 q0 q1 = some (r1, r2) by simpa using H.out)
   have n8_9 := S.box_ne 2 0 rfl rfl (by decide)
   have n8_10 := S.box_ne 2 1 rfl rfl (by decide)
   by_cases h1 : s < 2
   ·by_cases h2 : s = 1
    ·obtain ⟨r_, hr, h2⟩ := Option.bind_eq_some_iff.mp (show (mapmakerref12_quotient.f k (wrap64 (wrap64 (b2 - p0) * wrap64 (q1 - p1))) (wrap64 (q0 - p0))).bind (fun t => some (b2, wrap64 (p1 + t))) = some (r1, r2) by simpa [mapmakerref12_border.one, h1, h2] using H.out)
     have HR := Aside0.mk hr
     have H2 := Aside0.mk h2
     clear h2 hr H
     go_wp2_with (first | (go_at_call 68; (with_reducible refine (mapmakerref08_Less.calls _ _ _ _ _ _ HL.out).mono ?_); rintro e w7 ⟨rfl, hb⟩; replace S := S.step hb; clear hb; clear cp_0 cp_1 cq_0 cq_1; have cp_0 := blk_cell (S.at_box 5 rfl) 0; have cp_1 := blk_cell (S.at_box 5 rfl) 1; have cq_0 := blk_cell (S.at_box 4 rfl) 0; have cq_1 := blk_cell (S.at_box 4 rfl) 1; have c6_0 := blk_cell (S.at_box 3 rfl) 0; have c6_1 := blk_cell (S.at_box 3 rfl) 1; have c6_2 := blk_cell (S.at_box 3 rfl) 2; have c6_3 := blk_cell (S.at_box 3 rfl) 3; simp only [List.getElem?_toArray, List.getElem?_cons_zero, List.getElem?_cons_succ] at cp_0 cp_1 cq_0 cq_1 c6_0 c6_1 c6_2 c6_3))
     have c9_0 := blk_cell (S.at_box 0 rfl) 0
     have c9_1 := blk_cell (S.at_box 0 rfl) 1
     have c10_0 := blk_cell (S.at_box 1 rfl) 0
     have c10_1 := blk_cell (S.at_box 1 rfl) 1
     have c8_0 := blk_cell (S.at_box 2 rfl) 0
     have fc8_0 := blk_frozen (S.at_box 2 rfl) 0
     have c8_1 := blk_cell (S.at_box 2 rfl) 1
     have fc8_1 := blk_frozen (S.at_box 2 rfl) 1
     simp only [List.getElem?_toArray, List.getElem?_cons_zero, List.getElem?_cons_succ] at c9_0 c9_1 c10_0 c10_1 c8_0 c8_1
     have hwA : ∀ n : Int, IntKind.i64.wrap n = wrap64 n := IntWalk.i64_left
     go_region_held3 (fun w' => w'.cell? ⟨g9, 0, none⟩ = some (.int .i64 p0) ∧ w'.cell? ⟨g9, 1, none⟩ = some (.int .i64 p1) ∧ w'.cell? ⟨g10, 0, none⟩ = some (.int .i64 q0) ∧ w'.cell? ⟨g10, 1, none⟩ = some (.int .i64 q1)) (first | assumption | go_keep) (first | (go_at_call 69; (with_reducible refine (mapmakerref12_quotient.calls k _ _ r_ _ HR.out).mono ?_); rintro e w9 ⟨rfl, hd⟩; have hb := pw_drawn_below hd; replace S := S.drew.step hb; have k8_0 := blk_cell (S.at_box 2 rfl) 0; have fk8_0 := blk_frozen (S.at_box 2 rfl) 0; have k8_1 := blk_cell (S.at_box 2 rfl) 1; have fk8_1 := blk_frozen (S.at_box 2 rfl) 1; simp only [List.getElem?_toArray, List.getElem?_cons_zero, List.getElem?_cons_succ] at k8_0 k8_1; have hS9 : w9.cell? ⟨g9, 0, none⟩ = some (.int .i64 p0) ∧ w9.cell? ⟨g9, 1, none⟩ = some (.int .i64 p1) ∧ w9.cell? ⟨g10, 0, none⟩ = some (.int .i64 q0) ∧ w9.cell? ⟨g10, 1, none⟩ = some (.int .i64 q1) := ⟨pw_cell_below hb (by go_keep), pw_cell_below hb (by go_keep), pw_cell_below hb (by go_keep), pw_cell_below hb (by go_keep)⟩))
     go_wp2_with fail
     have S3 := (S.set 2 rfl 0 (.int .i64 b2)).set 2 rfl 1 (.int .i64 (wrap64 (p1 + r_)))
     refine bodyPost_ret (results_cell_row rfl _ _ g8 25 #[(.int .i64 b2), (.int .i64 (wrap64 (p1 + r_)))] (0, 0) _ rfl (S3.at_box 2 rfl) Try.underlying25 rfl (by kernel_rfl)) rfl ?_
     obtain ⟨e1, e2⟩ : b2 = r1 ∧ wrap64 (p1 + r_) = r2 := by simpa using H2.out
     exact ⟨by rw [← e1, ← e2], S3.below⟩
    ·obtain ⟨r_, hr, h2⟩ := Option.bind_eq_some_iff.mp (show (mapmakerref12_quotient.f k (wrap64 (wrap64 (b0 - p0) * wrap64 (q1 - p1))) (wrap64 (q0 - p0))).bind (fun t => some (b0, wrap64 (p1 + t))) = some (r1, r2) by simpa [mapmakerref12_border.one, h1, h2] using H.out)
     have HR := Aside0.mk hr
     have H2 := Aside0.mk h2
     clear h2 hr H
     go_wp2_with (first | (go_at_call 68; (with_reducible refine (mapmakerref08_Less.calls _ _ _ _ _ _ HL.out).mono ?_); rintro e w7 ⟨rfl, hb⟩; replace S := S.step hb; clear hb; clear cp_0 cp_1 cq_0 cq_1; have cp_0 := blk_cell (S.at_box 5 rfl) 0; have cp_1 := blk_cell (S.at_box 5 rfl) 1; have cq_0 := blk_cell (S.at_box 4 rfl) 0; have cq_1 := blk_cell (S.at_box 4 rfl) 1; have c6_0 := blk_cell (S.at_box 3 rfl) 0; have c6_1 := blk_cell (S.at_box 3 rfl) 1; have c6_2 := blk_cell (S.at_box 3 rfl) 2; have c6_3 := blk_cell (S.at_box 3 rfl) 3; simp only [List.getElem?_toArray, List.getElem?_cons_zero, List.getElem?_cons_succ] at cp_0 cp_1 cq_0 cq_1 c6_0 c6_1 c6_2 c6_3))
     have c9_0 := blk_cell (S.at_box 0 rfl) 0
     have c9_1 := blk_cell (S.at_box 0 rfl) 1
     have c10_0 := blk_cell (S.at_box 1 rfl) 0
     have c10_1 := blk_cell (S.at_box 1 rfl) 1
     have c8_0 := blk_cell (S.at_box 2 rfl) 0
     have fc8_0 := blk_frozen (S.at_box 2 rfl) 0
     have c8_1 := blk_cell (S.at_box 2 rfl) 1
     have fc8_1 := blk_frozen (S.at_box 2 rfl) 1
     simp only [List.getElem?_toArray, List.getElem?_cons_zero, List.getElem?_cons_succ] at c9_0 c9_1 c10_0 c10_1 c8_0 c8_1
     have hwA : ∀ n : Int, IntKind.i64.wrap n = wrap64 n := IntWalk.i64_left
     go_region_held3 (fun w' => w'.cell? ⟨g9, 0, none⟩ = some (.int .i64 p0) ∧ w'.cell? ⟨g9, 1, none⟩ = some (.int .i64 p1) ∧ w'.cell? ⟨g10, 0, none⟩ = some (.int .i64 q0) ∧ w'.cell? ⟨g10, 1, none⟩ = some (.int .i64 q1)) (first | assumption | go_keep) (first | (go_at_call 69; (with_reducible refine (mapmakerref12_quotient.calls k _ _ r_ _ HR.out).mono ?_); rintro e w9 ⟨rfl, hd⟩; have hb := pw_drawn_below hd; replace S := S.drew.step hb; have k8_0 := blk_cell (S.at_box 2 rfl) 0; have fk8_0 := blk_frozen (S.at_box 2 rfl) 0; have k8_1 := blk_cell (S.at_box 2 rfl) 1; have fk8_1 := blk_frozen (S.at_box 2 rfl) 1; simp only [List.getElem?_toArray, List.getElem?_cons_zero, List.getElem?_cons_succ] at k8_0 k8_1; have hS9 : w9.cell? ⟨g9, 0, none⟩ = some (.int .i64 p0) ∧ w9.cell? ⟨g9, 1, none⟩ = some (.int .i64 p1) ∧ w9.cell? ⟨g10, 0, none⟩ = some (.int .i64 q0) ∧ w9.cell? ⟨g10, 1, none⟩ = some (.int .i64 q1) := ⟨pw_cell_below hb (by go_keep), pw_cell_below hb (by go_keep), pw_cell_below hb (by go_keep), pw_cell_below hb (by go_keep)⟩))
     go_wp2_with fail
     have S3 := (S.set 2 rfl 0 (.int .i64 b0)).set 2 rfl 1 (.int .i64 (wrap64 (p1 + r_)))
     refine bodyPost_ret (results_cell_row rfl _ _ g8 25 #[(.int .i64 b0), (.int .i64 (wrap64 (p1 + r_)))] (0, 0) _ rfl (S3.at_box 2 rfl) Try.underlying25 rfl (by kernel_rfl)) rfl ?_
     obtain ⟨e1, e2⟩ : b0 = r1 ∧ wrap64 (p1 + r_) = r2 := by simpa using H2.out
     exact ⟨by rw [← e1, ← e2], S3.below⟩
   ·by_cases h2 : s = 3
    ·obtain ⟨r_, hr, h2⟩ := Option.bind_eq_some_iff.mp (show (mapmakerref12_quotient.f k (wrap64 (wrap64 (b3 - p1) * wrap64 (q0 - p0))) (wrap64 (q1 - p1))).bind (fun t => some (wrap64 (p0 + t), b3)) = some (r1, r2) by simpa [mapmakerref12_border.one, h1, h2] using H.out)
     have HR := Aside0.mk hr
     have H2 := Aside0.mk h2
     clear h2 hr H
     go_wp2_with (first | (go_at_call 68; (with_reducible refine (mapmakerref08_Less.calls _ _ _ _ _ _ HL.out).mono ?_); rintro e w7 ⟨rfl, hb⟩; replace S := S.step hb; clear hb; clear cp_0 cp_1 cq_0 cq_1; have cp_0 := blk_cell (S.at_box 5 rfl) 0; have cp_1 := blk_cell (S.at_box 5 rfl) 1; have cq_0 := blk_cell (S.at_box 4 rfl) 0; have cq_1 := blk_cell (S.at_box 4 rfl) 1; have c6_0 := blk_cell (S.at_box 3 rfl) 0; have c6_1 := blk_cell (S.at_box 3 rfl) 1; have c6_2 := blk_cell (S.at_box 3 rfl) 2; have c6_3 := blk_cell (S.at_box 3 rfl) 3; simp only [List.getElem?_toArray, List.getElem?_cons_zero, List.getElem?_cons_succ] at cp_0 cp_1 cq_0 cq_1 c6_0 c6_1 c6_2 c6_3))
     have c9_0 := blk_cell (S.at_box 0 rfl) 0
     have c9_1 := blk_cell (S.at_box 0 rfl) 1
     have c10_0 := blk_cell (S.at_box 1 rfl) 0
     have c10_1 := blk_cell (S.at_box 1 rfl) 1
     have c8_0 := blk_cell (S.at_box 2 rfl) 0
     have fc8_0 := blk_frozen (S.at_box 2 rfl) 0
     have c8_1 := blk_cell (S.at_box 2 rfl) 1
     have fc8_1 := blk_frozen (S.at_box 2 rfl) 1
     simp only [List.getElem?_toArray, List.getElem?_cons_zero, List.getElem?_cons_succ] at c9_0 c9_1 c10_0 c10_1 c8_0 c8_1
     have hwA : ∀ n : Int, IntKind.i64.wrap n = wrap64 n := IntWalk.i64_left
     go_region_held3 (fun w' => w'.cell? ⟨g9, 0, none⟩ = some (.int .i64 p0) ∧ w'.cell? ⟨g9, 1, none⟩ = some (.int .i64 p1) ∧ w'.cell? ⟨g10, 0, none⟩ = some (.int .i64 q0) ∧ w'.cell? ⟨g10, 1, none⟩ = some (.int .i64 q1)) (first | assumption | go_keep) (first | (go_at_call 69; (with_reducible refine (mapmakerref12_quotient.calls k _ _ r_ _ HR.out).mono ?_); rintro e w9 ⟨rfl, hd⟩; have hb := pw_drawn_below hd; replace S := S.drew.step hb; have k8_0 := blk_cell (S.at_box 2 rfl) 0; have fk8_0 := blk_frozen (S.at_box 2 rfl) 0; have k8_1 := blk_cell (S.at_box 2 rfl) 1; have fk8_1 := blk_frozen (S.at_box 2 rfl) 1; simp only [List.getElem?_toArray, List.getElem?_cons_zero, List.getElem?_cons_succ] at k8_0 k8_1; have hS9 : w9.cell? ⟨g9, 0, none⟩ = some (.int .i64 p0) ∧ w9.cell? ⟨g9, 1, none⟩ = some (.int .i64 p1) ∧ w9.cell? ⟨g10, 0, none⟩ = some (.int .i64 q0) ∧ w9.cell? ⟨g10, 1, none⟩ = some (.int .i64 q1) := ⟨pw_cell_below hb (by go_keep), pw_cell_below hb (by go_keep), pw_cell_below hb (by go_keep), pw_cell_below hb (by go_keep)⟩))
     go_wp2_with fail
     have S3 := (S.set 2 rfl 0 (.int .i64 (wrap64 (p0 + r_)))).set 2 rfl 1 (.int .i64 b3)
     refine bodyPost_ret (results_cell_row rfl _ _ g8 25 #[(.int .i64 (wrap64 (p0 + r_))), (.int .i64 b3)] (0, 0) _ rfl (S3.at_box 2 rfl) Try.underlying25 rfl (by kernel_rfl)) rfl ?_
     obtain ⟨e1, e2⟩ : wrap64 (p0 + r_) = r1 ∧ b3 = r2 := by simpa using H2.out
     exact ⟨by rw [← e1, ← e2], S3.below⟩
    ·obtain ⟨r_, hr, h2⟩ := Option.bind_eq_some_iff.mp (show (mapmakerref12_quotient.f k (wrap64 (wrap64 (b1 - p1) * wrap64 (q0 - p0))) (wrap64 (q1 - p1))).bind (fun t => some (wrap64 (p0 + t), b1)) = some (r1, r2) by simpa [mapmakerref12_border.one, h1, h2] using H.out)
     have HR := Aside0.mk hr
     have H2 := Aside0.mk h2
     clear h2 hr H
     go_wp2_with (first | (go_at_call 68; (with_reducible refine (mapmakerref08_Less.calls _ _ _ _ _ _ HL.out).mono ?_); rintro e w7 ⟨rfl, hb⟩; replace S := S.step hb; clear hb; clear cp_0 cp_1 cq_0 cq_1; have cp_0 := blk_cell (S.at_box 5 rfl) 0; have cp_1 := blk_cell (S.at_box 5 rfl) 1; have cq_0 := blk_cell (S.at_box 4 rfl) 0; have cq_1 := blk_cell (S.at_box 4 rfl) 1; have c6_0 := blk_cell (S.at_box 3 rfl) 0; have c6_1 := blk_cell (S.at_box 3 rfl) 1; have c6_2 := blk_cell (S.at_box 3 rfl) 2; have c6_3 := blk_cell (S.at_box 3 rfl) 3; simp only [List.getElem?_toArray, List.getElem?_cons_zero, List.getElem?_cons_succ] at cp_0 cp_1 cq_0 cq_1 c6_0 c6_1 c6_2 c6_3))
     have c9_0 := blk_cell (S.at_box 0 rfl) 0
     have c9_1 := blk_cell (S.at_box 0 rfl) 1
     have c10_0 := blk_cell (S.at_box 1 rfl) 0
     have c10_1 := blk_cell (S.at_box 1 rfl) 1
     have c8_0 := blk_cell (S.at_box 2 rfl) 0
     have fc8_0 := blk_frozen (S.at_box 2 rfl) 0
     have c8_1 := blk_cell (S.at_box 2 rfl) 1
     have fc8_1 := blk_frozen (S.at_box 2 rfl) 1
     simp only [List.getElem?_toArray, List.getElem?_cons_zero, List.getElem?_cons_succ] at c9_0 c9_1 c10_0 c10_1 c8_0 c8_1
     have hwA : ∀ n : Int, IntKind.i64.wrap n = wrap64 n := IntWalk.i64_left
     go_region_held3 (fun w' => w'.cell? ⟨g9, 0, none⟩ = some (.int .i64 p0) ∧ w'.cell? ⟨g9, 1, none⟩ = some (.int .i64 p1) ∧ w'.cell? ⟨g10, 0, none⟩ = some (.int .i64 q0) ∧ w'.cell? ⟨g10, 1, none⟩ = some (.int .i64 q1)) (first | assumption | go_keep) (first | (go_at_call 69; (with_reducible refine (mapmakerref12_quotient.calls k _ _ r_ _ HR.out).mono ?_); rintro e w9 ⟨rfl, hd⟩; have hb := pw_drawn_below hd; replace S := S.drew.step hb; have k8_0 := blk_cell (S.at_box 2 rfl) 0; have fk8_0 := blk_frozen (S.at_box 2 rfl) 0; have k8_1 := blk_cell (S.at_box 2 rfl) 1; have fk8_1 := blk_frozen (S.at_box 2 rfl) 1; simp only [List.getElem?_toArray, List.getElem?_cons_zero, List.getElem?_cons_succ] at k8_0 k8_1; have hS9 : w9.cell? ⟨g9, 0, none⟩ = some (.int .i64 p0) ∧ w9.cell? ⟨g9, 1, none⟩ = some (.int .i64 p1) ∧ w9.cell? ⟨g10, 0, none⟩ = some (.int .i64 q0) ∧ w9.cell? ⟨g10, 1, none⟩ = some (.int .i64 q1) := ⟨pw_cell_below hb (by go_keep), pw_cell_below hb (by go_keep), pw_cell_below hb (by go_keep), pw_cell_below hb (by go_keep)⟩))
     go_wp2_with fail
     have S3 := (S.set 2 rfl 0 (.int .i64 (wrap64 (p0 + r_)))).set 2 rfl 1 (.int .i64 b1)
     refine bodyPost_ret (results_cell_row rfl _ _ g8 25 #[(.int .i64 (wrap64 (p0 + r_))), (.int .i64 b1)] (0, 0) _ rfl (S3.at_box 2 rfl) Try.underlying25 rfl (by kernel_rfl)) rfl ?_
     obtain ⟨e1, e2⟩ : wrap64 (p0 + r_) = r1 ∧ b1 = r2 := by simpa using H2.out
     exact ⟨by rw [← e1, ← e2], S3.below⟩
  | true =>
   replace H := Aside0.mk (show mapmakerref12_border.one k s b0 b1 b2 b3 q0 q1 p0 p1 = some (r1, r2) by simpa using H.out)
   have n57 := S.box_ne 4 0 rfl rfl (by decide)
   have n58 := S.box_ne 4 1 rfl rfl (by decide)
   have n47 := S.box_ne 5 0 rfl rfl (by decide)
   have n48 := S.box_ne 5 1 rfl rfl (by decide)
   have n78 := S.box_ne 0 1 rfl rfl (by decide)
   have n75 := n57.symm
   have n85 := n58.symm
   have n74 := n47.symm
   have n84 := n48.symm
   have n87 := n78.symm
   go_wp2_with (first | (go_at_call 68; (with_reducible refine (mapmakerref08_Less.calls _ _ _ _ _ _ HL.out).mono ?_); rintro e w7 ⟨rfl, hb⟩; replace S := S.step hb; clear hb; clear cp_0 cp_1 cq_0 cq_1; have cp_0 := blk_cell (S.at_box 5 rfl) 0; have cp_1 := blk_cell (S.at_box 5 rfl) 1; have cq_0 := blk_cell (S.at_box 4 rfl) 0; have cq_1 := blk_cell (S.at_box 4 rfl) 1; have c6_0 := blk_cell (S.at_box 3 rfl) 0; have c6_1 := blk_cell (S.at_box 3 rfl) 1; have c6_2 := blk_cell (S.at_box 3 rfl) 2; have c6_3 := blk_cell (S.at_box 3 rfl) 3; simp only [List.getElem?_toArray, List.getElem?_cons_zero, List.getElem?_cons_succ] at cp_0 cp_1 cq_0 cq_1 c6_0 c6_1 c6_2 c6_3; have c9_0 := blk_cell (S.at_box 0 rfl) 0; have fc9_0 := blk_frozen (S.at_box 0 rfl) 0; have c9_1 := blk_cell (S.at_box 0 rfl) 1; have fc9_1 := blk_frozen (S.at_box 0 rfl) 1; have c10_0 := blk_cell (S.at_box 1 rfl) 0; have fc10_0 := blk_frozen (S.at_box 1 rfl) 0; have c10_1 := blk_cell (S.at_box 1 rfl) 1; have fc10_1 := blk_frozen (S.at_box 1 rfl) 1; simp only [List.getElem?_toArray, List.getElem?_cons_zero, List.getElem?_cons_succ] at c9_0 c9_1 c10_0 c10_1))
   go_cut [18, 19] (fun v18 v19 w' => Sep w w' [Box _ g9 25 #[.int .i64 q0, .int .i64 q1], Box _ g10 25 #[.int .i64 p0, .int .i64 p1], Box _ g8 25 #[.int .i64 0, .int .i64 0], Box _ g6 40 #[.int .i64 b0, .int .i64 b1, .int .i64 b2, .int .i64 b3], Box _ g5 25 #[.int .i64 q0, .int .i64 q1], Box _ g4 25 #[.int .i64 p0, .int .i64 p1]])
   case first =>
    go_region_held3 (fun w' => w'.cell? ⟨g4, 0, none⟩ = some (.int .i64 p0) ∧ w'.cell? ⟨g4, 1, none⟩ = some (.int .i64 p1) ∧ w'.cell? ⟨g5, 0, none⟩ = some (.int .i64 q0) ∧ w'.cell? ⟨g5, 1, none⟩ = some (.int .i64 q1)) (go_keep) (first | fail)
    go_wp2_with fail
    go_meet
    case rel => exact (((S.drew.set 0 rfl 0 (.int .i64 q0)).set 0 rfl 1 (.int .i64 q1)).set 1 rfl 0 (.int .i64 p0)).set 1 rfl 1 (.int .i64 p1)
   case rest =>
    clear S cp_0 cp_1 cq_0 cq_1 c6_0 c6_1 c6_2 c6_3 c9_0 c9_1 c10_0 c10_1 fc9_0 fc9_1 fc10_0 fc10_1
    have S := hcut
    clear hcut
    have c6_0 := blk_cell (S.at_box 3 rfl) 0
    have c6_1 := blk_cell (S.at_box 3 rfl) 1
    have c6_2 := blk_cell (S.at_box 3 rfl) 2
    have c6_3 := blk_cell (S.at_box 3 rfl) 3
    simp only [List.getElem?_toArray, List.getElem?_cons_zero, List.getElem?_cons_succ] at c6_0 c6_1 c6_2 c6_3
    have n8_9 := S.box_ne 2 0 rfl rfl (by decide)
    have n8_10 := S.box_ne 2 1 rfl rfl (by decide)
    by_cases h1 : s < 2
    ·by_cases h2 : s = 1
     ·obtain ⟨r_, hr, h2⟩ := Option.bind_eq_some_iff.mp (show (mapmakerref12_quotient.f k (wrap64 (wrap64 (b2 - q0) * wrap64 (p1 - q1))) (wrap64 (p0 - q0))).bind (fun t => some (b2, wrap64 (q1 + t))) = some (r1, r2) by simpa [mapmakerref12_border.one, h1, h2] using H.out)
      have HR := Aside0.mk hr
      have H2 := Aside0.mk h2
      clear h2 hr H
      go_wp2_with (first | fail)
      have c9_0 := blk_cell (S.at_box 0 rfl) 0
      have c9_1 := blk_cell (S.at_box 0 rfl) 1
      have c10_0 := blk_cell (S.at_box 1 rfl) 0
      have c10_1 := blk_cell (S.at_box 1 rfl) 1
      have c8_0 := blk_cell (S.at_box 2 rfl) 0
      have fc8_0 := blk_frozen (S.at_box 2 rfl) 0
      have c8_1 := blk_cell (S.at_box 2 rfl) 1
      have fc8_1 := blk_frozen (S.at_box 2 rfl) 1
      simp only [List.getElem?_toArray, List.getElem?_cons_zero, List.getElem?_cons_succ] at c9_0 c9_1 c10_0 c10_1 c8_0 c8_1
      have hwA : ∀ n : Int, IntKind.i64.wrap n = wrap64 n := IntWalk.i64_left
      go_region_held3 (fun w' => w'.cell? ⟨g9, 0, none⟩ = some (.int .i64 q0) ∧ w'.cell? ⟨g9, 1, none⟩ = some (.int .i64 q1) ∧ w'.cell? ⟨g10, 0, none⟩ = some (.int .i64 p0) ∧ w'.cell? ⟨g10, 1, none⟩ = some (.int .i64 p1)) (first | assumption | go_keep) (first | (go_at_call 69; (with_reducible refine (mapmakerref12_quotient.calls k _ _ r_ _ HR.out).mono ?_); rintro e w9 ⟨rfl, hd⟩; have hb := pw_drawn_below hd; replace S := S.drew.step hb; have k8_0 := blk_cell (S.at_box 2 rfl) 0; have fk8_0 := blk_frozen (S.at_box 2 rfl) 0; have k8_1 := blk_cell (S.at_box 2 rfl) 1; have fk8_1 := blk_frozen (S.at_box 2 rfl) 1; simp only [List.getElem?_toArray, List.getElem?_cons_zero, List.getElem?_cons_succ] at k8_0 k8_1; have hS9 : w9.cell? ⟨g9, 0, none⟩ = some (.int .i64 q0) ∧ w9.cell? ⟨g9, 1, none⟩ = some (.int .i64 q1) ∧ w9.cell? ⟨g10, 0, none⟩ = some (.int .i64 p0) ∧ w9.cell? ⟨g10, 1, none⟩ = some (.int .i64 p1) := ⟨pw_cell_below hb (by go_keep), pw_cell_below hb (by go_keep), pw_cell_below hb (by go_keep), pw_cell_below hb (by go_keep)⟩))
      go_wp2_with fail
      have S3 := (S.set 2 rfl 0 (.int .i64 b2)).set 2 rfl 1 (.int .i64 (wrap64 (q1 + r_)))
      refine bodyPost_ret (results_cell_row rfl _ _ g8 25 #[(.int .i64 b2), (.int .i64 (wrap64 (q1 + r_)))] (0, 0) _ rfl (S3.at_box 2 rfl) Try.underlying25 rfl (by kernel_rfl)) rfl ?_
      obtain ⟨e1, e2⟩ : b2 = r1 ∧ wrap64 (q1 + r_) = r2 := by simpa using H2.out
      exact ⟨by rw [← e1, ← e2], S3.below⟩
     ·obtain ⟨r_, hr, h2⟩ := Option.bind_eq_some_iff.mp (show (mapmakerref12_quotient.f k (wrap64 (wrap64 (b0 - q0) * wrap64 (p1 - q1))) (wrap64 (p0 - q0))).bind (fun t => some (b0, wrap64 (q1 + t))) = some (r1, r2) by simpa [mapmakerref12_border.one, h1, h2] using H.out)
      have HR := Aside0.mk hr
      have H2 := Aside0.mk h2
      clear h2 hr H
      go_wp2_with (first | fail)
      have c9_0 := blk_cell (S.at_box 0 rfl) 0
      have c9_1 := blk_cell (S.at_box 0 rfl) 1
      have c10_0 := blk_cell (S.at_box 1 rfl) 0
      have c10_1 := blk_cell (S.at_box 1 rfl) 1
      have c8_0 := blk_cell (S.at_box 2 rfl) 0
      have fc8_0 := blk_frozen (S.at_box 2 rfl) 0
      have c8_1 := blk_cell (S.at_box 2 rfl) 1
      have fc8_1 := blk_frozen (S.at_box 2 rfl) 1
      simp only [List.getElem?_toArray, List.getElem?_cons_zero, List.getElem?_cons_succ] at c9_0 c9_1 c10_0 c10_1 c8_0 c8_1
      have hwA : ∀ n : Int, IntKind.i64.wrap n = wrap64 n := IntWalk.i64_left
      go_region_held3 (fun w' => w'.cell? ⟨g9, 0, none⟩ = some (.int .i64 q0) ∧ w'.cell? ⟨g9, 1, none⟩ = some (.int .i64 q1) ∧ w'.cell? ⟨g10, 0, none⟩ = some (.int .i64 p0) ∧ w'.cell? ⟨g10, 1, none⟩ = some (.int .i64 p1)) (first | assumption | go_keep) (first | (go_at_call 69; (with_reducible refine (mapmakerref12_quotient.calls k _ _ r_ _ HR.out).mono ?_); rintro e w9 ⟨rfl, hd⟩; have hb := pw_drawn_below hd; replace S := S.drew.step hb; have k8_0 := blk_cell (S.at_box 2 rfl) 0; have fk8_0 := blk_frozen (S.at_box 2 rfl) 0; have k8_1 := blk_cell (S.at_box 2 rfl) 1; have fk8_1 := blk_frozen (S.at_box 2 rfl) 1; simp only [List.getElem?_toArray, List.getElem?_cons_zero, List.getElem?_cons_succ] at k8_0 k8_1; have hS9 : w9.cell? ⟨g9, 0, none⟩ = some (.int .i64 q0) ∧ w9.cell? ⟨g9, 1, none⟩ = some (.int .i64 q1) ∧ w9.cell? ⟨g10, 0, none⟩ = some (.int .i64 p0) ∧ w9.cell? ⟨g10, 1, none⟩ = some (.int .i64 p1) := ⟨pw_cell_below hb (by go_keep), pw_cell_below hb (by go_keep), pw_cell_below hb (by go_keep), pw_cell_below hb (by go_keep)⟩))
      go_wp2_with fail
      have S3 := (S.set 2 rfl 0 (.int .i64 b0)).set 2 rfl 1 (.int .i64 (wrap64 (q1 + r_)))
      refine bodyPost_ret (results_cell_row rfl _ _ g8 25 #[(.int .i64 b0), (.int .i64 (wrap64 (q1 + r_)))] (0, 0) _ rfl (S3.at_box 2 rfl) Try.underlying25 rfl (by kernel_rfl)) rfl ?_
      obtain ⟨e1, e2⟩ : b0 = r1 ∧ wrap64 (q1 + r_) = r2 := by simpa using H2.out
      exact ⟨by rw [← e1, ← e2], S3.below⟩
    ·by_cases h2 : s = 3
     ·obtain ⟨r_, hr, h2⟩ := Option.bind_eq_some_iff.mp (show (mapmakerref12_quotient.f k (wrap64 (wrap64 (b3 - q1) * wrap64 (p0 - q0))) (wrap64 (p1 - q1))).bind (fun t => some (wrap64 (q0 + t), b3)) = some (r1, r2) by simpa [mapmakerref12_border.one, h1, h2] using H.out)
      have HR := Aside0.mk hr
      have H2 := Aside0.mk h2
      clear h2 hr H
      go_wp2_with (first | fail)
      have c9_0 := blk_cell (S.at_box 0 rfl) 0
      have c9_1 := blk_cell (S.at_box 0 rfl) 1
      have c10_0 := blk_cell (S.at_box 1 rfl) 0
      have c10_1 := blk_cell (S.at_box 1 rfl) 1
      have c8_0 := blk_cell (S.at_box 2 rfl) 0
      have fc8_0 := blk_frozen (S.at_box 2 rfl) 0
      have c8_1 := blk_cell (S.at_box 2 rfl) 1
      have fc8_1 := blk_frozen (S.at_box 2 rfl) 1
      simp only [List.getElem?_toArray, List.getElem?_cons_zero, List.getElem?_cons_succ] at c9_0 c9_1 c10_0 c10_1 c8_0 c8_1
      have hwA : ∀ n : Int, IntKind.i64.wrap n = wrap64 n := IntWalk.i64_left
      go_region_held3 (fun w' => w'.cell? ⟨g9, 0, none⟩ = some (.int .i64 q0) ∧ w'.cell? ⟨g9, 1, none⟩ = some (.int .i64 q1) ∧ w'.cell? ⟨g10, 0, none⟩ = some (.int .i64 p0) ∧ w'.cell? ⟨g10, 1, none⟩ = some (.int .i64 p1)) (first | assumption | go_keep) (first | (go_at_call 69; (with_reducible refine (mapmakerref12_quotient.calls k _ _ r_ _ HR.out).mono ?_); rintro e w9 ⟨rfl, hd⟩; have hb := pw_drawn_below hd; replace S := S.drew.step hb; have k8_0 := blk_cell (S.at_box 2 rfl) 0; have fk8_0 := blk_frozen (S.at_box 2 rfl) 0; have k8_1 := blk_cell (S.at_box 2 rfl) 1; have fk8_1 := blk_frozen (S.at_box 2 rfl) 1; simp only [List.getElem?_toArray, List.getElem?_cons_zero, List.getElem?_cons_succ] at k8_0 k8_1; have hS9 : w9.cell? ⟨g9, 0, none⟩ = some (.int .i64 q0) ∧ w9.cell? ⟨g9, 1, none⟩ = some (.int .i64 q1) ∧ w9.cell? ⟨g10, 0, none⟩ = some (.int .i64 p0) ∧ w9.cell? ⟨g10, 1, none⟩ = some (.int .i64 p1) := ⟨pw_cell_below hb (by go_keep), pw_cell_below hb (by go_keep), pw_cell_below hb (by go_keep), pw_cell_below hb (by go_keep)⟩))
      go_wp2_with fail
      have S3 := (S.set 2 rfl 0 (.int .i64 (wrap64 (q0 + r_)))).set 2 rfl 1 (.int .i64 b3)
      refine bodyPost_ret (results_cell_row rfl _ _ g8 25 #[(.int .i64 (wrap64 (q0 + r_))), (.int .i64 b3)] (0, 0) _ rfl (S3.at_box 2 rfl) Try.underlying25 rfl (by kernel_rfl)) rfl ?_
      obtain ⟨e1, e2⟩ : wrap64 (q0 + r_) = r1 ∧ b3 = r2 := by simpa using H2.out
      exact ⟨by rw [← e1, ← e2], S3.below⟩
     ·obtain ⟨r_, hr, h2⟩ := Option.bind_eq_some_iff.mp (show (mapmakerref12_quotient.f k (wrap64 (wrap64 (b1 - q1) * wrap64 (p0 - q0))) (wrap64 (p1 - q1))).bind (fun t => some (wrap64 (q0 + t), b1)) = some (r1, r2) by simpa [mapmakerref12_border.one, h1, h2] using H.out)
      have HR := Aside0.mk hr
      have H2 := Aside0.mk h2
      clear h2 hr H
      go_wp2_with (first | fail)
      have c9_0 := blk_cell (S.at_box 0 rfl) 0
      have c9_1 := blk_cell (S.at_box 0 rfl) 1
      have c10_0 := blk_cell (S.at_box 1 rfl) 0
      have c10_1 := blk_cell (S.at_box 1 rfl) 1
      have c8_0 := blk_cell (S.at_box 2 rfl) 0
      have fc8_0 := blk_frozen (S.at_box 2 rfl) 0
      have c8_1 := blk_cell (S.at_box 2 rfl) 1
      have fc8_1 := blk_frozen (S.at_box 2 rfl) 1
      simp only [List.getElem?_toArray, List.getElem?_cons_zero, List.getElem?_cons_succ] at c9_0 c9_1 c10_0 c10_1 c8_0 c8_1
      have hwA : ∀ n : Int, IntKind.i64.wrap n = wrap64 n := IntWalk.i64_left
      go_region_held3 (fun w' => w'.cell? ⟨g9, 0, none⟩ = some (.int .i64 q0) ∧ w'.cell? ⟨g9, 1, none⟩ = some (.int .i64 q1) ∧ w'.cell? ⟨g10, 0, none⟩ = some (.int .i64 p0) ∧ w'.cell? ⟨g10, 1, none⟩ = some (.int .i64 p1)) (first | assumption | go_keep) (first | (go_at_call 69; (with_reducible refine (mapmakerref12_quotient.calls k _ _ r_ _ HR.out).mono ?_); rintro e w9 ⟨rfl, hd⟩; have hb := pw_drawn_below hd; replace S := S.drew.step hb; have k8_0 := blk_cell (S.at_box 2 rfl) 0; have fk8_0 := blk_frozen (S.at_box 2 rfl) 0; have k8_1 := blk_cell (S.at_box 2 rfl) 1; have fk8_1 := blk_frozen (S.at_box 2 rfl) 1; simp only [List.getElem?_toArray, List.getElem?_cons_zero, List.getElem?_cons_succ] at k8_0 k8_1; have hS9 : w9.cell? ⟨g9, 0, none⟩ = some (.int .i64 q0) ∧ w9.cell? ⟨g9, 1, none⟩ = some (.int .i64 q1) ∧ w9.cell? ⟨g10, 0, none⟩ = some (.int .i64 p0) ∧ w9.cell? ⟨g10, 1, none⟩ = some (.int .i64 p1) := ⟨pw_cell_below hb (by go_keep), pw_cell_below hb (by go_keep), pw_cell_below hb (by go_keep), pw_cell_below hb (by go_keep)⟩))
      go_wp2_with fail
      have S3 := (S.set 2 rfl 0 (.int .i64 (wrap64 (q0 + r_)))).set 2 rfl 1 (.int .i64 b1)
      refine bodyPost_ret (results_cell_row rfl _ _ g8 25 #[(.int .i64 (wrap64 (q0 + r_))), (.int .i64 b1)] (0, 0) _ rfl (S3.at_box 2 rfl) Try.underlying25 rfl (by kernel_rfl)) rfl ?_
      obtain ⟨e1, e2⟩ : wrap64 (q0 + r_) = r1 ∧ b1 = r2 := by simpa using H2.out
      exact ⟨by rw [← e1, ← e2], S3.below⟩
theorem mapmakerref12_border.one_mono (k : Nat) (s b0 b1 b2 b3 a0 a1 c0 c1 : Int) : LeO (mapmakerref12_border.one k s b0 b1 b2 b3 a0 a1 c0 c1) (mapmakerref12_border.one (k + 1) s b0 b1 b2 b3 a0 a1 c0 c1) := by
 unfold mapmakerref12_border.one
 exact LeO.ite (LeO.bind (mapmakerref12_quotient.mono _ _ _) (fun _ => LeO.refl _)) (LeO.bind (mapmakerref12_quotient.mono _ _ _) (fun _ => LeO.refl _))
theorem mapmakerref12_border.mono : ∀ a0 a1 a2 a3 a4 a5 a6 a7 a8 k, LeO (mapmakerref12_border.f k a0 a1 a2 a3 a4 a5 a6 a7 a8) (mapmakerref12_border.f (k + 1) a0 a1 a2 a3 a4 a5 a6 a7 a8) := by
 intro a0 a1 a2 a3 a4 a5 a6 a7 a8 k
 unfold mapmakerref12_border.f
 exact LeO.bind (LeO.refl _) (fun _ => mapmakerref12_border.one_mono _ _ _ _ _ _ _ _ _ _)


end Go.Proofs.Ytdkegdnfbpobnaa.PARS
