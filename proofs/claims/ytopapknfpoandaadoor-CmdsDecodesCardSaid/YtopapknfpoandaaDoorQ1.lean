import Derived.Test.YtopapknfpoandaaDoorL1
import Derived.Test.YtopapknfpoandaaDoorPALLx9
namespace Go.Proofs.YtopapknfpoandaaDoor.Hand
open Go.Proofs.YtopapknfpoandaaDoorW Go.RowKit Go.Proofs.YtopapknfpoandaaDoorW.PrintWords Go.Proofs.YtopapknfpoandaaDoorW.PrintLast Go.Proofs.YtopapknfpoandaaDoorW.PrintMore Go.Proofs.YtopapknfpoandaaDoorW.SepW Go.Proofs.YtopapknfpoandaaDoor.PALL
set_option linter.unusedVariables false
set_option linter.unusedSimpArgs false
/-! # The reference's reader -/
def badR : RS := ⟨[], 0, 0, true⟩
def nextR (r : RS) : RS × Int := match r.l with
  | [] => (badR, 0)
  | z :: t => if z < 0 ∨ 100000 < z then (badR, 0) else ({ r with l := t }, z)
/-- The reader as a value; v: its row. -/
abbrev RV (v : Value) (r : RS) : Value := .agg #[v, .int .i64 r.x, .int .i64 r.y, .bool r.b]
theorem size61 : (Tryd.prog.info? 61).map (·.size) = some 4 := by kernel_rfl
set_option maxHeartbeats 4000000 in
set_option maxRecDepth 100000 in
theorem rnext_nil (x y : Int) (b : Bool) (A : Option Addr) (c : Nat) (w : World) :
    Calls Tryd.prog 25 #[.agg #[.slice A 0 c, .int .i64 x, .int .i64 y, .bool b]] w fun e w' => e = .returned (.tuple #[.agg #[.slice none 0 0, .int .i64 0, .int .i64 0, .bool true], .int .i64 0]) ∧ Below w.heap.size w w' := by
  have S := Aside0.mk (Sep.start w)
  have hu61 := Tryd.underlying61
  have hu44 := Tryd.underlying44
  go_enter Tryd.func25, Tryd.ntmps25
  go_wp2_with (first | ((with_reducible refine gate_dst (N := 1) rfl ?_); refine box_event ?hg (N := 1) ?hd (cs := #[.slice A 0 c, .int .i64 x, .int .i64 y, .bool b]) (t := 61) ?hr ?_; (case hd => rfl); (case hg => rfl); (case hr => first | (go_simp; done) | (go_simp; rfl)); intro g1 hg w1 hbox hb; replace S := Aside0.mk (S.out.box hg hbox hb); have k1_0 := blk_cell hbox 0; have k1_1 := blk_cell hbox 1; have k1_2 := blk_cell hbox 2; have k1_3 := blk_cell hbox 3; simp only [List.getElem?_toArray, List.getElem?_cons_zero, List.getElem?_cons_succ] at k1_0 k1_1 k1_2 k1_3; clear hbox hb hg) | ((with_reducible refine gate_dst (N := 2) rfl ?_); refine box_event ?hg (N := 2) ?hd (cs := #[.slice none 0 0, .int .i64 0, .int .i64 0, .bool false]) (t := 61) ?hr ?_; (case hd => rfl); (case hg => rfl); (case hr => first | (go_simp; done) | (go_simp; rfl)); intro g2 hg w2 hbox hb; replace S := Aside0.mk (S.out.box hg hbox hb); have k2_0 := blk_cell hbox 0; have f2_0 := blk_frozen hbox 0; have k2_1 := blk_cell hbox 1; have f2_1 := blk_frozen hbox 1; have k2_2 := blk_cell hbox 2; have f2_2 := blk_frozen hbox 2; have k2_3 := blk_cell hbox 3; have f2_3 := blk_frozen hbox 3; simp only [List.getElem?_toArray, List.getElem?_cons_zero, List.getElem?_cons_succ] at k2_0 k2_1 k2_2 k2_3; clear hbox hb hg; have hne : g2 ≠ g1 := S.out.box_ne 0 1 rfl rfl (by decide); have hne2 : g1 ≠ g2 := S.out.box_ne 1 0 rfl rfl (by decide); have hge : w.heap.size ≤ g2 := S.out.box_ge 0 rfl; clear k1_0 k1_1 k1_2 k1_3; have k1_0 := blk_cell (S.out.at_box 1 rfl) 0; have k1_1 := blk_cell (S.out.at_box 1 rfl) 1; have k1_2 := blk_cell (S.out.at_box 1 rfl) 2; have k1_3 := blk_cell (S.out.at_box 1 rfl) 3; simp only [List.getElem?_toArray, List.getElem?_cons_zero, List.getElem?_cons_succ] at k1_0 k1_1 k1_2 k1_3))
  replace S := Aside0.mk (show Sep _ _ (Box _ g2 61 #[.slice none 0 0, .int .i64 0, .int .i64 0, .bool true] :: _) from ((((S.out).set 0 rfl 0 (.slice none 0 0)).set 0 rfl 1 (.int .i64 0)).set 0 rfl 2 (.int .i64 0)).set 0 rfl 3 (.bool true))
  (try simp only [Exit.inBlock, Exit.then]); refine bodyPost_ret (results_row_tmp rfl _ _ g2 61 #[.slice none 0 0, .int .i64 0, .int .i64 0, .bool true] (0, 0) _ rfl (by exact S.out.at_box 0 rfl) (by exact hu61) rfl (by exact size61)) rfl ?_
  exact ⟨rfl, S.out.below⟩
set_option maxHeartbeats 4000000 in
set_option maxRecDepth 100000 in
theorem rnext_neg (w : World) (x y : Int) (b : Bool) (ad : Addr) (n c : Nat) (z : Int) (hn : 0 < n) (hz : w.cell? ad = some (.int .i64 z)) (h : z < 0) :
    Calls Tryd.prog 25 #[.agg #[.slice (some ad) n c, .int .i64 x, .int .i64 y, .bool b]] w fun e w' => e = .returned (.tuple #[.agg #[.slice none 0 0, .int .i64 0, .int .i64 0, .bool true], .int .i64 0]) ∧ Below w.heap.size w w' := by
  have S := Aside0.mk (Sep.start w)
  have hu61 := Tryd.underlying61
  have hu44 := Tryd.underlying44
  have dn : ((n : Int) == 0) = false := beq_eq_false_iff_ne.2 (by omega)
  have e1 : (0 : Int) < (n : Int) := by omega
  have e2 := hn
  have d := decide_eq_true h
  go_enter Tryd.func25, Tryd.ntmps25
  go_wp2_with (first | ((with_reducible refine gate_dst (N := 1) rfl ?_); refine box_event ?hg (N := 1) ?hd (cs := #[.slice (some ad) n c, .int .i64 x, .int .i64 y, .bool b]) (t := 61) ?hr ?_; (case hd => rfl); (case hg => rfl); (case hr => first | (go_simp; done) | (go_simp; rfl)); intro g1 hg w1 hbox hb; replace S := Aside0.mk (S.out.box hg hbox hb); have k1_0 := blk_cell hbox 0; have k1_1 := blk_cell hbox 1; have k1_2 := blk_cell hbox 2; have k1_3 := blk_cell hbox 3; simp only [List.getElem?_toArray, List.getElem?_cons_zero, List.getElem?_cons_succ] at k1_0 k1_1 k1_2 k1_3; clear hbox hb hg) | ((with_reducible refine gate_dst (N := 2) rfl ?_); refine box_event ?hg (N := 2) ?hd (cs := #[.slice none 0 0, .int .i64 0, .int .i64 0, .bool false]) (t := 61) ?hr ?_; (case hd => rfl); (case hg => rfl); (case hr => first | (go_simp; done) | (go_simp; rfl)); intro g2 hg w2 hbox hb; replace S := Aside0.mk (S.out.box hg hbox hb); have k2_0 := blk_cell hbox 0; have f2_0 := blk_frozen hbox 0; have k2_1 := blk_cell hbox 1; have f2_1 := blk_frozen hbox 1; have k2_2 := blk_cell hbox 2; have f2_2 := blk_frozen hbox 2; have k2_3 := blk_cell hbox 3; have f2_3 := blk_frozen hbox 3; simp only [List.getElem?_toArray, List.getElem?_cons_zero, List.getElem?_cons_succ] at k2_0 k2_1 k2_2 k2_3; clear hbox hb hg; have hne : g2 ≠ g1 := S.out.box_ne 0 1 rfl rfl (by decide); have hne2 : g1 ≠ g2 := S.out.box_ne 1 0 rfl rfl (by decide); have hge : w.heap.size ≤ g2 := S.out.box_ge 0 rfl; clear k1_0 k1_1 k1_2 k1_3; have k1_0 := blk_cell (S.out.at_box 1 rfl) 0; have k1_1 := blk_cell (S.out.at_box 1 rfl) 1; have k1_2 := blk_cell (S.out.at_box 1 rfl) 2; have k1_3 := blk_cell (S.out.at_box 1 rfl) 3; simp only [List.getElem?_toArray, List.getElem?_cons_zero, List.getElem?_cons_succ] at k1_0 k1_1 k1_2 k1_3; have hz9 : w2.cell? ad = some (.int .i64 z) := pw_cell_below S.out.below hz))
  replace S := Aside0.mk (show Sep _ _ (Box _ g2 61 #[.slice none 0 0, .int .i64 0, .int .i64 0, .bool true] :: _) from ((((S.out).set 0 rfl 0 (.slice none 0 0)).set 0 rfl 1 (.int .i64 0)).set 0 rfl 2 (.int .i64 0)).set 0 rfl 3 (.bool true))
  (try simp only [Exit.inBlock, Exit.then]); refine bodyPost_ret (results_row_tmp rfl _ _ g2 61 #[.slice none 0 0, .int .i64 0, .int .i64 0, .bool true] (0, 0) _ rfl (by exact S.out.at_box 0 rfl) (by exact hu61) rfl (by exact size61)) rfl ?_
  exact ⟨rfl, S.out.below⟩
set_option maxHeartbeats 4000000 in
set_option maxRecDepth 100000 in
theorem rnext_big (w : World) (x y : Int) (b : Bool) (ad : Addr) (n c : Nat) (z : Int) (hn : 0 < n) (hz : w.cell? ad = some (.int .i64 z)) (h0 : ¬ z < 0) (h : 100000 < z) :
    Calls Tryd.prog 25 #[.agg #[.slice (some ad) n c, .int .i64 x, .int .i64 y, .bool b]] w fun e w' => e = .returned (.tuple #[.agg #[.slice none 0 0, .int .i64 0, .int .i64 0, .bool true], .int .i64 0]) ∧ Below w.heap.size w w' := by
  have S := Aside0.mk (Sep.start w)
  have hu61 := Tryd.underlying61
  have hu44 := Tryd.underlying44
  have dn : ((n : Int) == 0) = false := beq_eq_false_iff_ne.2 (by omega)
  have e1 : (0 : Int) < (n : Int) := by omega
  have e2 := hn
  have d0 := decide_eq_false h0
  have d := decide_eq_true h
  go_enter Tryd.func25, Tryd.ntmps25
  go_wp2_with (first | ((with_reducible refine gate_dst (N := 1) rfl ?_); refine box_event ?hg (N := 1) ?hd (cs := #[.slice (some ad) n c, .int .i64 x, .int .i64 y, .bool b]) (t := 61) ?hr ?_; (case hd => rfl); (case hg => rfl); (case hr => first | (go_simp; done) | (go_simp; rfl)); intro g1 hg w1 hbox hb; replace S := Aside0.mk (S.out.box hg hbox hb); have k1_0 := blk_cell hbox 0; have k1_1 := blk_cell hbox 1; have k1_2 := blk_cell hbox 2; have k1_3 := blk_cell hbox 3; simp only [List.getElem?_toArray, List.getElem?_cons_zero, List.getElem?_cons_succ] at k1_0 k1_1 k1_2 k1_3; clear hbox hb hg) | ((with_reducible refine gate_dst (N := 2) rfl ?_); refine box_event ?hg (N := 2) ?hd (cs := #[.slice none 0 0, .int .i64 0, .int .i64 0, .bool false]) (t := 61) ?hr ?_; (case hd => rfl); (case hg => rfl); (case hr => first | (go_simp; done) | (go_simp; rfl)); intro g2 hg w2 hbox hb; replace S := Aside0.mk (S.out.box hg hbox hb); have k2_0 := blk_cell hbox 0; have f2_0 := blk_frozen hbox 0; have k2_1 := blk_cell hbox 1; have f2_1 := blk_frozen hbox 1; have k2_2 := blk_cell hbox 2; have f2_2 := blk_frozen hbox 2; have k2_3 := blk_cell hbox 3; have f2_3 := blk_frozen hbox 3; simp only [List.getElem?_toArray, List.getElem?_cons_zero, List.getElem?_cons_succ] at k2_0 k2_1 k2_2 k2_3; clear hbox hb hg; have hne : g2 ≠ g1 := S.out.box_ne 0 1 rfl rfl (by decide); have hne2 : g1 ≠ g2 := S.out.box_ne 1 0 rfl rfl (by decide); have hge : w.heap.size ≤ g2 := S.out.box_ge 0 rfl; clear k1_0 k1_1 k1_2 k1_3; have k1_0 := blk_cell (S.out.at_box 1 rfl) 0; have k1_1 := blk_cell (S.out.at_box 1 rfl) 1; have k1_2 := blk_cell (S.out.at_box 1 rfl) 2; have k1_3 := blk_cell (S.out.at_box 1 rfl) 3; simp only [List.getElem?_toArray, List.getElem?_cons_zero, List.getElem?_cons_succ] at k1_0 k1_1 k1_2 k1_3; have hz9 : w2.cell? ad = some (.int .i64 z) := pw_cell_below S.out.below hz))
  replace S := Aside0.mk (show Sep _ _ (Box _ g2 61 #[.slice none 0 0, .int .i64 0, .int .i64 0, .bool true] :: _) from ((((S.out).set 0 rfl 0 (.slice none 0 0)).set 0 rfl 1 (.int .i64 0)).set 0 rfl 2 (.int .i64 0)).set 0 rfl 3 (.bool true))
  (try simp only [Exit.inBlock, Exit.then]); refine bodyPost_ret (results_row_tmp rfl _ _ g2 61 #[.slice none 0 0, .int .i64 0, .int .i64 0, .bool true] (0, 0) _ rfl (by exact S.out.at_box 0 rfl) (by exact hu61) rfl (by exact size61)) rfl ?_
  exact ⟨rfl, S.out.below⟩
set_option maxHeartbeats 4000000 in
set_option maxRecDepth 100000 in
theorem rnext_one (w : World) (x y : Int) (b : Bool) (ad : Addr) (z : Int) (hz : w.cell? ad = some (.int .i64 z)) (hna : ad.block < w.heap.size) (h0 : ¬ z < 0) (h : ¬ 100000 < z) :
    Calls Tryd.prog 25 #[.agg #[.slice (some ad) 1 1, .int .i64 x, .int .i64 y, .bool b]] w fun e w' => e = .returned (.tuple #[.agg #[.slice (some ad) 0 0, .int .i64 x, .int .i64 y, .bool b], .int .i64 z]) ∧ Below w.heap.size w w' := by
  have S := Aside0.mk (Sep.start w)
  have hu61 := Tryd.underlying61
  have hu44 := Tryd.underlying44
  have d0 := decide_eq_false h0
  have d := decide_eq_false h
  have q3 : (1 : Int) ≤ ((1 : Nat) : Int) := by decide
  go_enter Tryd.func25, Tryd.ntmps25
  go_upto_region 3 with (first | ((with_reducible refine gate_dst (N := 1) rfl ?_); refine box_event ?hg (N := 1) ?hd (cs := #[.slice (some ad) 1 1, .int .i64 x, .int .i64 y, .bool b]) (t := 61) ?hr ?_; (case hd => rfl); (case hg => rfl); (case hr => first | (go_simp; done) | (go_simp; rfl)); intro g1 hg w1 hbox hb; replace S := Aside0.mk (S.out.box hg hbox hb); have k1_0 := blk_cell hbox 0; have k1_1 := blk_cell hbox 1; have k1_2 := blk_cell hbox 2; have k1_3 := blk_cell hbox 3; simp only [List.getElem?_toArray, List.getElem?_cons_zero, List.getElem?_cons_succ] at k1_0 k1_1 k1_2 k1_3; clear hbox hb hg) | ((with_reducible refine gate_dst (N := 2) rfl ?_); refine box_event ?hg (N := 2) ?hd (cs := #[.slice none 0 0, .int .i64 0, .int .i64 0, .bool false]) (t := 61) ?hr ?_; (case hd => rfl); (case hg => rfl); (case hr => first | (go_simp; done) | (go_simp; rfl)); intro g2 hg w2 hbox hb; replace S := Aside0.mk (S.out.box hg hbox hb); have k2_0 := blk_cell hbox 0; have f2_0 := blk_frozen hbox 0; have k2_1 := blk_cell hbox 1; have f2_1 := blk_frozen hbox 1; have k2_2 := blk_cell hbox 2; have f2_2 := blk_frozen hbox 2; have k2_3 := blk_cell hbox 3; have f2_3 := blk_frozen hbox 3; simp only [List.getElem?_toArray, List.getElem?_cons_zero, List.getElem?_cons_succ] at k2_0 k2_1 k2_2 k2_3; clear hbox hb hg; have hne : g2 ≠ g1 := S.out.box_ne 0 1 rfl rfl (by decide); have hne2 : g1 ≠ g2 := S.out.box_ne 1 0 rfl rfl (by decide); have hge : w.heap.size ≤ g2 := S.out.box_ge 0 rfl; clear k1_0 k1_1 k1_2 k1_3; have k1_0 := blk_cell (S.out.at_box 1 rfl) 0; have k1_1 := blk_cell (S.out.at_box 1 rfl) 1; have k1_2 := blk_cell (S.out.at_box 1 rfl) 2; have k1_3 := blk_cell (S.out.at_box 1 rfl) 3; simp only [List.getElem?_toArray, List.getElem?_cons_zero, List.getElem?_cons_succ] at k1_0 k1_1 k1_2 k1_3; have hz9 : w2.cell? ad = some (.int .i64 z) := pw_cell_below S.out.below hz))
  have hnb : ad.block ≠ g2 := by omega
  have hnb2 : g2 ≠ ad.block := by omega
  go_region_held3 (fun w' => w'.cell? ad = some (.int .i64 z) ∧ w'.cell? ⟨g1, 0, none⟩ = some (.slice (some ad) 1 1) ∧ w'.cell? ⟨g1, 1, none⟩ = some (.int .i64 x) ∧ w'.cell? ⟨g1, 2, none⟩ = some (.int .i64 y) ∧ w'.cell? ⟨g1, 3, none⟩ = some (.bool b)) (first | assumption | go_keep) (first | fail)
  go_wp2_with fail
  replace S := Aside0.mk (show Sep _ _ (Box _ g2 61 #[.slice (some ad) 0 0, .int .i64 x, .int .i64 y, .bool b] :: _) from ((((S.out).set 0 rfl 0 (.slice (some ad) 0 0)).set 0 rfl 1 (.int .i64 x)).set 0 rfl 2 (.int .i64 y)).set 0 rfl 3 (.bool b))
  (try simp only [Exit.inBlock, Exit.then]); refine bodyPost_ret (results_row_tmp rfl _ _ g2 61 #[.slice (some ad) 0 0, .int .i64 x, .int .i64 y, .bool b] (0, 0) _ rfl (by exact S.out.at_box 0 rfl) (by exact hu61) rfl (by exact size61)) rfl ?_
  exact ⟨rfl, S.out.drew.below⟩
set_option maxHeartbeats 4000000 in
set_option maxRecDepth 100000 in
theorem rnext_more (w : World) (x y : Int) (b : Bool) (ad : Addr) (n c : Nat) (z : Int) (hn : 0 < n) (hz : w.cell? ad = some (.int .i64 z)) (hna : ad.block < w.heap.size) (hnc : n ≤ c) (hc : c ≠ 1) (h0 : ¬ z < 0) (h : ¬ 100000 < z) :
    Calls Tryd.prog 25 #[.agg #[.slice (some ad) n c, .int .i64 x, .int .i64 y, .bool b]] w fun e w' => e = .returned (.tuple #[.agg #[.slice (some ⟨ad.block, ad.off + 1, none⟩) (n - 1) (c - 1), .int .i64 x, .int .i64 y, .bool b], .int .i64 z]) ∧ Below w.heap.size w w' := by
  have S := Aside0.mk (Sep.start w)
  have hu61 := Tryd.underlying61
  have hu44 := Tryd.underlying44
  have dn : ((n : Int) == 0) = false := beq_eq_false_iff_ne.2 (by omega)
  have e1 : (0 : Int) < (n : Int) := by omega
  have e2 := hn
  have d0 := decide_eq_false h0
  have d := decide_eq_false h
  have q3 : (1 : Int) ≤ (n : Int) := by omega
  have q1 : (1 : Int) ≤ (c : Int) := by omega
  go_enter Tryd.func25, Tryd.ntmps25
  go_upto_region 3 with (first | ((with_reducible refine gate_dst (N := 1) rfl ?_); refine box_event ?hg (N := 1) ?hd (cs := #[.slice (some ad) n c, .int .i64 x, .int .i64 y, .bool b]) (t := 61) ?hr ?_; (case hd => rfl); (case hg => rfl); (case hr => first | (go_simp; done) | (go_simp; rfl)); intro g1 hg w1 hbox hb; replace S := Aside0.mk (S.out.box hg hbox hb); have k1_0 := blk_cell hbox 0; have k1_1 := blk_cell hbox 1; have k1_2 := blk_cell hbox 2; have k1_3 := blk_cell hbox 3; simp only [List.getElem?_toArray, List.getElem?_cons_zero, List.getElem?_cons_succ] at k1_0 k1_1 k1_2 k1_3; clear hbox hb hg) | ((with_reducible refine gate_dst (N := 2) rfl ?_); refine box_event ?hg (N := 2) ?hd (cs := #[.slice none 0 0, .int .i64 0, .int .i64 0, .bool false]) (t := 61) ?hr ?_; (case hd => rfl); (case hg => rfl); (case hr => first | (go_simp; done) | (go_simp; rfl)); intro g2 hg w2 hbox hb; replace S := Aside0.mk (S.out.box hg hbox hb); have k2_0 := blk_cell hbox 0; have f2_0 := blk_frozen hbox 0; have k2_1 := blk_cell hbox 1; have f2_1 := blk_frozen hbox 1; have k2_2 := blk_cell hbox 2; have f2_2 := blk_frozen hbox 2; have k2_3 := blk_cell hbox 3; have f2_3 := blk_frozen hbox 3; simp only [List.getElem?_toArray, List.getElem?_cons_zero, List.getElem?_cons_succ] at k2_0 k2_1 k2_2 k2_3; clear hbox hb hg; have hne : g2 ≠ g1 := S.out.box_ne 0 1 rfl rfl (by decide); have hne2 : g1 ≠ g2 := S.out.box_ne 1 0 rfl rfl (by decide); have hge : w.heap.size ≤ g2 := S.out.box_ge 0 rfl; clear k1_0 k1_1 k1_2 k1_3; have k1_0 := blk_cell (S.out.at_box 1 rfl) 0; have k1_1 := blk_cell (S.out.at_box 1 rfl) 1; have k1_2 := blk_cell (S.out.at_box 1 rfl) 2; have k1_3 := blk_cell (S.out.at_box 1 rfl) 3; simp only [List.getElem?_toArray, List.getElem?_cons_zero, List.getElem?_cons_succ] at k1_0 k1_1 k1_2 k1_3; have hz9 : w2.cell? ad = some (.int .i64 z) := pw_cell_below S.out.below hz))
  have hnb : ad.block ≠ g2 := by omega
  have hnb2 : g2 ≠ ad.block := by omega
  go_region_held3 (fun w' => w'.cell? ad = some (.int .i64 z) ∧ w'.cell? ⟨g1, 0, none⟩ = some (.slice (some ad) n c) ∧ w'.cell? ⟨g1, 1, none⟩ = some (.int .i64 x) ∧ w'.cell? ⟨g1, 2, none⟩ = some (.int .i64 y) ∧ w'.cell? ⟨g1, 3, none⟩ = some (.bool b)) (first | assumption | go_keep) (first | fail)
  go_wp2_with fail
  replace S := Aside0.mk (show Sep _ _ (Box _ g2 61 #[.slice (some ⟨ad.block, ad.off + 1, none⟩) (n - 1) (c - 1), .int .i64 x, .int .i64 y, .bool b] :: _) from ((((S.out).set 0 rfl 0 (.slice (some ⟨ad.block, ad.off + 1, none⟩) (n - 1) (c - 1))).set 0 rfl 1 (.int .i64 x)).set 0 rfl 2 (.int .i64 y)).set 0 rfl 3 (.bool b))
  (try simp only [Exit.inBlock, Exit.then]); refine bodyPost_ret (results_row_tmp rfl _ _ g2 61 #[.slice (some ⟨ad.block, ad.off + 1, none⟩) (n - 1) (c - 1), .int .i64 x, .int .i64 y, .bool b] (0, 0) _ rfl (by exact S.out.at_box 0 rfl) (by exact hu61) rfl (by exact size61)) rfl ?_
  exact ⟨rfl, S.out.drew.below⟩
theorem rnext_s (r : RS) (v : Value) (w0 w : World) (hb : Below w0.heap.size w0 w) (h : Seen kI w0 v r.l) :
    Calls Tryd.prog 25 #[RV v r] w fun e w' => ∃ u, e = .returned (.tuple #[RV u (nextR r).1, .int .i64 (nextR r).2]) ∧ Seen kI w0 u (nextR r).1.l ∧ Below w.heap.size w w' := by
  obtain ⟨l, x, y, b⟩ := r
  obtain ⟨A, c, rfl, hc, hr⟩ := h
  cases l with
  | nil => exact (rnext_nil x y b A c w).mono fun e w' H => ⟨_, H.1, seen_nil _ _, H.2⟩
  | cons z t =>
    obtain ⟨ad, rfl, hx⟩ := Kd.at_int hr 0 (by decide) (by simp)
    replace hx : w0.cell? ad = some (.int .i64 z) := hx
    have hl : 0 < (z :: t).length := Nat.succ_pos _
    have hna : ad.block < w0.heap.size := by
      unfold World.cell? at hx
      split at hx
      · rename_i hb; exact blk_lt hb
      · cases hx
    have hna' : ad.block < w.heap.size := Nat.lt_of_lt_of_le hna hb.size
    replace hx := pw_cell_below hb hx
    by_cases h0 : z < 0
    · have e1 : nextR ⟨z :: t, x, y, b⟩ = (badR, 0) := by unfold nextR; exact if_pos (.inl h0)
      rw [e1]
      exact (rnext_neg w x y b ad _ c z hl hx h0).mono fun e w' H => ⟨_, H.1, seen_nil _ _, H.2⟩
    · by_cases h1 : 100000 < z
      · have e1 : nextR ⟨z :: t, x, y, b⟩ = (badR, 0) := by unfold nextR; exact if_pos (.inr h1)
        rw [e1]
        exact (rnext_big w x y b ad _ c z hl hx h0 h1).mono fun e w' H => ⟨_, H.1, seen_nil _ _, H.2⟩
      · have e1 : nextR ⟨z :: t, x, y, b⟩ = (⟨t, x, y, b⟩, z) := by unfold nextR; exact if_neg (fun h => h.elim h0 h1)
        rw [e1]
        have hd := Kd.C_drop hr (m := 1) (by simp) hc
        by_cases hc1 : c = 1
        · subst hc1
          obtain rfl : t = [] := by
            have : t.length = 0 := by simp only [List.length_cons] at hc; omega
            exact List.length_eq_zero_iff.1 this
          exact (rnext_one w x y b ad z hx hna' h0 h1).mono fun e w' H => ⟨.slice (some ad) 0 0, H.1, ⟨some ad, 0, rfl, Nat.le_refl _, rfl, by simp, fun h => absurd h (Nat.lt_irrefl 0)⟩, H.2⟩
        · rw [if_neg hc1] at hd
          exact (rnext_more w x y b ad _ c z hl hx hna' hc hc1 h0 h1).mono fun e w' H => ⟨_, H.1, ⟨some ⟨ad.block, ad.off + 1, none⟩, c - 1, rfl, by simp only [List.length_cons] at hc ⊢; omega, hd⟩, H.2⟩
end Go.Proofs.YtopapknfpoandaaDoor.Hand
