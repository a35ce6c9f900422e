import Derived.Test.YtopapknfpoandaaDoorL2
import Derived.Test.YtopapknfpoandaaDoorV2
namespace Go.Proofs.YtopapknfpoandaaDoor.Hand
open Go.Proofs.YtopapknfpoandaaDoorW Go.RowKit Go.Proofs.YtopapknfpoandaaDoorW.PrintWords Go.Proofs.YtopapknfpoandaaDoorW.PrintLast Go.Proofs.YtopapknfpoandaaDoorW.PrintMore Go.Proofs.YtopapknfpoandaaDoorW.SepW Go.Proofs.YtopapknfpoandaaDoor.PALL
set_option linter.unusedVariables false
set_option linter.unusedSimpArgs false
set_option maxHeartbeats 4000000 in
set_option maxRecDepth 100000 in
theorem encodes_many (a : Int) (ps : List (List S44)) (A : Option Addr) (c : Nat) (w : World) (hG : Least w) (h : Seen kL w (.slice A ps.length c) ps) (hf : Fit ps) (HF : Aside0 (¬ total ps ≤ 9000)) :
    Calls Tryd.prog 3 #[.agg #[.int .i64 a, .slice A ps.length c]] w fun e w' => e = .returned (.bool true) ∧ Below w.heap.size w w' := by
  have S := Aside0.mk (Sep.start w)
  have HR := Aside0.mk h
  clear h
  have hu24 := Tryd.underlying24
  go_enter Tryd.func3, Tryd.ntmps3
  go_wp2_with (first | ((with_reducible refine gate_dst (N := 1) rfl ?_); refine box_event ?hg (N := 1) ?hd (cs := #[.int .i64 a, .slice A ps.length c]) (t := 24) ?hr ?_; (case hd => rfl); (case hg => rfl); (case hr => first | (go_simp; done) | (go_simp; rfl)); intro g1 hg w1 hbox hb; replace S := Aside0.mk (S.out.box hg hbox hb); have k10 := blk_cell hbox 0; have k11 := blk_cell hbox 1; simp only [List.getElem?_toArray, List.getElem?_cons_zero, List.getElem?_cons_succ] at  k10 k11; clear hbox hb hg) | (go_at_call 7; have X_ := few_s a ps _ _ (HR.out.step S.out.below) hf; rw [decide_eq_false HF.out] at X_; (with_reducible refine X_.mono ?_); clear X_; rintro e_ w10 ⟨rfl, hb⟩; replace S := Aside0.mk (S.out.step hb); clear hb k10 k11; have k10 := blk_cell (S.out.at_box 0 rfl) 0; have k11 := blk_cell (S.out.at_box 0 rfl) 1; simp only [List.getElem?_toArray, List.getElem?_cons_zero, List.getElem?_cons_succ] at k10 k11) | (go_at_call 8; have X_ := lives_c _ (hG.step S.out.below); (with_reducible refine X_.mono ?_); clear X_; rintro e_ wL ⟨rfl, hb⟩; replace S := Aside0.mk (S.out.step hb); clear hb))
  go_ret
  exact ⟨rfl, S.out.below⟩
set_option maxHeartbeats 4000000 in
set_option maxRecDepth 100000 in
theorem encodes_few (a : Int) (ps : List (List S44)) (A : Option Addr) (c : Nat) (w : World) (hG : Least w) (h : Seen kL w (.slice A ps.length c) ps) (hf : Fit ps) (HF : Aside0 (total ps ≤ 9000)) :
    Calls Tryd.prog 3 #[.agg #[.int .i64 a, .slice A ps.length c]] w fun e w' => e = .returned (.bool true) ∧ Below w.heap.size w w' := by
  have S := Aside0.mk (Sep.start w)
  have HR := Aside0.mk h
  clear h
  have hu24 := Tryd.underlying24
  have HN := Aside0.mk (show total ps ≤ 1000000 by have := HF.out; omega)
  obtain ⟨ck, hk⟩ : ∃ ck, checkS a ps = ck := ⟨_, rfl⟩
  obtain ⟨l, he⟩ : ∃ l, encS a ps = l := ⟨_, rfl⟩
  have hl : l.length ≤ 140737488351232 := by
    rw [← he]
    by_cases hc : checkS a ps = 0
    · have := enc_small hc HF.out; omega
    · unfold encS; rw [if_neg hc]; simp
  have HK := Aside0.mk hk
  have HE := Aside0.mk he
  have HL := Aside0.mk hl
  have d : (ck == ck) = true := beq_self_eq_true ck
  clear hk he hl
  go_enter Tryd.func3, Tryd.ntmps3
  go_upto_region 5 with (first | ((with_reducible refine gate_dst (N := 1) rfl ?_); refine box_event ?hg (N := 1) ?hd (cs := #[.int .i64 a, .slice A ps.length c]) (t := 24) ?hr ?_; (case hd => rfl); (case hg => rfl); (case hr => first | (go_simp; done) | (go_simp; rfl)); intro g1 hg w1 hbox hb; replace S := Aside0.mk (S.out.box hg hbox hb); have k10 := blk_cell hbox 0; have k11 := blk_cell hbox 1; simp only [List.getElem?_toArray, List.getElem?_cons_zero, List.getElem?_cons_succ] at  k10 k11; clear hbox hb hg) | (go_at_call 7; have X_ := few_s a ps _ _ (HR.out.step S.out.below) hf; rw [decide_eq_true HF.out] at X_; (with_reducible refine X_.mono ?_); clear X_; rintro e_ w10 ⟨rfl, hb⟩; replace S := Aside0.mk (S.out.step hb); clear hb k10 k11; have k10 := blk_cell (S.out.at_box 0 rfl) 0; have k11 := blk_cell (S.out.at_box 0 rfl) 1; simp only [List.getElem?_toArray, List.getElem?_cons_zero, List.getElem?_cons_succ] at k10 k11) | (go_at_call 9; have X_ := encode_s a ps _ _ (hG.step S.out.below) (HR.out.step S.out.below) HN.out; rw [HK.out, HE.out] at X_; (with_reducible refine X_.mono ?_); clear X_; rintro e_ w20 ⟨v20, rfl, ho, hb⟩; obtain ⟨A20, n20, c20, e20⟩ := R_form ho; subst e20; replace S := Aside0.mk (S.out.own ho hb); clear ho; clear hb k10 k11; have k10 := blk_cell (S.out.at_box 1 rfl) 0; have k11 := blk_cell (S.out.at_box 1 rfl) 1; simp only [List.getElem?_toArray, List.getElem?_cons_zero, List.getElem?_cons_succ] at k10 k11) | (go_at_call 10; have X_ := rencode_s a ps _ _ (HR.out.step S.out.below) hf HF.out; rw [HK.out, HE.out] at X_; (with_reducible refine X_.mono ?_); clear X_; rintro e_ w21 ⟨v21, rfl, ho, hb⟩; obtain ⟨A21, n21, c21, e21⟩ := R_form ho; subst e21; replace S := Aside0.mk (S.out.own ho hb); clear ho; clear hb k10 k11; have k10 := blk_cell (S.out.at_box 2 rfl) 0; have k11 := blk_cell (S.out.at_box 2 rfl) 1; simp only [List.getElem?_toArray, List.getElem?_cons_zero, List.getElem?_cons_succ] at k10 k11))
  go_region_held3 (fun w' => w'.cell? ⟨g1, 0, none⟩ = some (.int .i64 a) ∧ w'.cell? ⟨g1, 1, none⟩ = some (.slice A ps.length c)) (first | assumption | go_keep) (first | (go_at_call 11; have X_ := check_s a ps _ _ (hG.step S.out.drew.below) (HR.out.step S.out.drew.below) hf.1; rw [HK.out] at X_; (with_reducible refine X_.mono ?_); clear X_; rintro e_ w30 ⟨rfl, hb⟩; replace S := Aside0.mk (S.out.drew.step hb); clear hb k10 k11; have k10 := blk_cell (S.out.at_box 2 rfl) 0; have k11 := blk_cell (S.out.at_box 2 rfl) 1; simp only [List.getElem?_toArray, List.getElem?_cons_zero, List.getElem?_cons_succ] at k10 k11; have hSw30 : w30.cell? ⟨g1, 0, none⟩ = some (.int .i64 a) ∧ w30.cell? ⟨g1, 1, none⟩ = some (.slice A ps.length c) := ⟨k10, k11⟩) | (go_at_call 12; have X_ := rcheck_s a ps _ _ (HR.out.step S.out.below) hf; rw [HK.out] at X_; (with_reducible refine X_.mono ?_); clear X_; rintro e_ w31 ⟨rfl, hb⟩; replace S := Aside0.mk (S.out.step hb); clear hb k10 k11; have k10 := blk_cell (S.out.at_box 2 rfl) 0; have k11 := blk_cell (S.out.at_box 2 rfl) 1; simp only [List.getElem?_toArray, List.getElem?_cons_zero, List.getElem?_cons_succ] at k10 k11; have hSw31 : w31.cell? ⟨g1, 0, none⟩ = some (.int .i64 a) ∧ w31.cell? ⟨g1, 1, none⟩ = some (.slice A ps.length c) := ⟨k10, k11⟩) | (go_at_call 13; have X_ := equal_s l l _ _ _ (S.out.own_reads 1 rfl) (S.out.own_reads 0 rfl) HL.out; rw [decide_eq_true (rfl : l = l)] at X_; (with_reducible refine X_.mono ?_); clear X_; rintro e_ w32 ⟨rfl, hb⟩; replace S := Aside0.mk (S.out.step hb); clear hb k10 k11; have k10 := blk_cell (S.out.at_box 2 rfl) 0; have k11 := blk_cell (S.out.at_box 2 rfl) 1; simp only [List.getElem?_toArray, List.getElem?_cons_zero, List.getElem?_cons_succ] at k10 k11; have hSw32 : w32.cell? ⟨g1, 0, none⟩ = some (.int .i64 a) ∧ w32.cell? ⟨g1, 1, none⟩ = some (.slice A ps.length c) := ⟨k10, k11⟩) | (go_at_call 8; have X_ := lives_c _ (hG.step S.out.below); (with_reducible refine X_.mono ?_); clear X_; rintro e_ w33 ⟨rfl, hb⟩; replace S := Aside0.mk (S.out.step hb); clear hb k10 k11; have k10 := blk_cell (S.out.at_box 2 rfl) 0; have k11 := blk_cell (S.out.at_box 2 rfl) 1; simp only [List.getElem?_toArray, List.getElem?_cons_zero, List.getElem?_cons_succ] at k10 k11; have hSw33 : w33.cell? ⟨g1, 0, none⟩ = some (.int .i64 a) ∧ w33.cell? ⟨g1, 1, none⟩ = some (.slice A ps.length c) := ⟨k10, k11⟩))
  go_wp2_with fail
  go_ret
  exact ⟨rfl, S.out.below⟩
theorem encodes_c (a : Int) (ps : List (List S44)) (v : Value) (w : World) (hG : Least w) (h : Seen kL w v ps) (hf : Fit ps) :
    Calls Tryd.prog 3 #[.agg #[.int .i64 a, v]] w fun e w' => e = .returned (.bool true) ∧ Below w.heap.size w w' := by
  obtain ⟨A, c, rfl, h2, h3⟩ := h
  have hs : Seen kL w (.slice A ps.length c) ps := ⟨A, c, rfl, h2, h3⟩
  by_cases h1 : total ps ≤ 9000
  · exact encodes_few a ps A c w hG hs hf ⟨h1⟩
  · exact encodes_many a ps A c w hG hs hf ⟨h1⟩
end Go.Proofs.YtopapknfpoandaaDoor.Hand
