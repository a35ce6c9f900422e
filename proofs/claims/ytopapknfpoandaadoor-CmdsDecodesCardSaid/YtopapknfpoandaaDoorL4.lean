import Derived.Test.YtopapknfpoandaaDoorV3
namespace Go.Proofs.YtopapknfpoandaaDoor.Hand
open Go.Proofs.YtopapknfpoandaaDoorW Go.RowKit Go.Proofs.YtopapknfpoandaaDoorW.PrintWords Go.Proofs.YtopapknfpoandaaDoorW.PrintLast Go.Proofs.YtopapknfpoandaaDoorW.PrintMore Go.Proofs.YtopapknfpoandaaDoorW.SepW Go.Proofs.YtopapknfpoandaaDoor.PALL
set_option linter.unusedVariables false
set_option linter.unusedSimpArgs false
theorem decS_fit {kind : Int} {l : List Int} (hn : Num l) (hl : l.length ≤ 2000) : Fit (decS kind l).2.1 := by
  rw [← decodes_eq hn hl]
  unfold outR
  split
  · exact ⟨Nat.zero_le _, fun p hp => by cases hp⟩
  · split
    · exact ⟨Nat.zero_le _, fun p hp => by cases hp⟩
    · exact decR_fit kind l (by omega)
set_option maxHeartbeats 4000000 in
set_option maxRecDepth 100000 in
theorem decodes_many (kd : Int) (l : List Int) (A : Option Addr) (c : Nat) (w : World) (hG : Least w) (h : Seen kI w (.slice A l.length c) l) (hb : l.length ≤ 140737488351232) (hn : Num l) (hm : ¬ l.length ≤ 2000) :
    Calls Tryd.prog 4 #[.int .i64 kd, .slice A l.length c] w fun e w' => e = .returned (.bool true) ∧ Below w.heap.size w w' := by
  have S := Aside0.mk (Sep.start w)
  have hu24 := Tryd.underlying24
  have HR := Aside0.mk h
  have HN := Aside0.mk hn
  clear h hn
  have d : decide (2000 < (l.length : Int)) = true := decide_eq_true (by omega)
  clear hm hb
  go_enter Tryd.func4, Tryd.ntmps4
  go_wp2_with (first | (go_at_call 8; have X_ := lives_c _ (hG.step S.out.below); (with_reducible refine X_.mono ?_); clear X_; rintro e_ wL ⟨rfl, hb⟩; replace S := Aside0.mk (S.out.step hb); clear hb))
  go_ret
  exact ⟨rfl, S.out.below⟩
set_option maxHeartbeats 4000000 in
set_option maxRecDepth 100000 in
theorem decodes_few (kd : Int) (l : List Int) (A : Option Addr) (c : Nat) (w : World) (hG : Least w) (h : Seen kI w (.slice A l.length c) l) (hb : l.length ≤ 140737488351232) (hn : Num l) (hm : l.length ≤ 2000) :
    Calls Tryd.prog 4 #[.int .i64 kd, .slice A l.length c] w fun e w' => e = .returned (.bool true) ∧ Below w.heap.size w w' := by
  have S := Aside0.mk (Sep.start w)
  have hu24 := Tryd.underlying24
  have HR := Aside0.mk h
  have HN := Aside0.mk hn
  clear h hn
  have d : decide (2000 < (l.length : Int)) = false := decide_eq_false (by omega)
  have HL := Aside0.mk (show l.length ≤ 1000000 by omega)
  have he := decodes_eq (kind := kd) HN.out hm
  have hf := decS_fit (kind := kd) HN.out hm
  obtain ⟨r, hr⟩ : ∃ r, decS kd l = r := ⟨_, rfl⟩
  rw [hr] at he hf
  obtain ⟨k, ps, e⟩ := r
  have HD := Aside0.mk hr
  have HE := Aside0.mk he
  have HF : Aside0 (Fit ps) := ⟨hf⟩
  have de : (e == e) = true := beq_self_eq_true e
  clear hr he hf hm hb
  go_enter Tryd.func4, Tryd.ntmps4
  go_wp2_with (first | (go_at_call 14; have X_ := decode_s kd l (.slice A l.length c) _ (hG.step S.out.below) (HR.out.step S.out.below) HL.out HN.out; rw [HD.out] at X_; (with_reducible refine X_.mono ?_); clear X_; rintro e_ w16 ⟨v16, rfl, ho, hb⟩; obtain ⟨A16, n16, c16, e16⟩ := R_form ho; subst e16; replace S := Aside0.mk (S.out.own ho hb); clear ho hb) | ((with_reducible refine gate_dst (N := 5) rfl ?_); refine box_event ?hg (N := 5) ?hd (cs := #[.int .i64 0, .slice none 0 0]) (t := 24) ?hr ?_; (case hd => rfl); (case hg => rfl); (case hr => first | (go_simp; done) | (go_simp; rfl)); intro g5 hg w5 hbox hb; replace S := Aside0.mk (show Sep _ _ (Box _ g5 24 #[.int .i64 k, .slice A16 n16 c16] :: _) from ((S.out.box hg hbox hb).set 0 rfl 0 (.int .i64 k)).set 0 rfl 1 (.slice A16 n16 c16)); have z5_0 := blk_cell hbox 0; have y5_0 := blk_frozen hbox 0; have z5_1 := blk_cell hbox 1; have y5_1 := blk_frozen hbox 1; simp only [List.getElem?_toArray, List.getElem?_cons_zero, List.getElem?_cons_succ] at z5_0 z5_1; clear hbox hb hg) | (go_at_call 15; have X_ := rDecode_s kd l (.slice A l.length c) _ (HR.out.step S.out.below) HL.out; rw [HE.out] at X_; (with_reducible refine X_.mono ?_); clear X_; rintro e_ w22 ⟨v22, rfl, ho, hb⟩; obtain ⟨A22, n22, c22, e22⟩ := R_form ho; subst e22; replace S := Aside0.mk (S.out.own ho hb); clear ho hb) | ((with_reducible refine gate_dst (N := 7) rfl ?_); refine box_event ?hg (N := 7) ?hd (cs := #[.int .i64 0, .slice none 0 0]) (t := 24) ?hr ?_; (case hd => rfl); (case hg => rfl); (case hr => first | (go_simp; done) | (go_simp; rfl)); intro g7 hg w7 hbox hb; replace S := Aside0.mk (show Sep _ _ (Box _ g7 24 #[.int .i64 k, .slice A22 n22 c22] :: _) from ((S.out.box hg hbox hb).set 0 rfl 0 (.int .i64 k)).set 0 rfl 1 (.slice A22 n22 c22)); have z7_0 := blk_cell hbox 0; have y7_0 := blk_frozen hbox 0; have z7_1 := blk_cell hbox 1; have y7_1 := blk_frozen hbox 1; simp only [List.getElem?_toArray, List.getElem?_cons_zero, List.getElem?_cons_succ] at z7_0 z7_1; clear hbox hb hg; have k7_0 := blk_cell (S.out.at_box 0 rfl) 0; have k7_1 := blk_cell (S.out.at_box 0 rfl) 1; have k5_0 := blk_cell (S.out.at_box 2 rfl) 0; have k5_1 := blk_cell (S.out.at_box 2 rfl) 1; simp only [List.getElem?_toArray, List.getElem?_cons_zero, List.getElem?_cons_succ] at k7_0 k7_1 k5_0 k5_1) | (go_at_call 16; have X_ := same_s k k ps ps (.slice A16 n16 c16) (.slice A22 n22 c22) _ (S.out.own_reads 3 rfl) (S.out.own_reads 1 rfl) HF.out; rw [decide_eq_true (show k = k ∧ ps = ps from ⟨rfl, rfl⟩)] at X_; (with_reducible refine X_.mono ?_); clear X_; rintro e_ w27 ⟨rfl, hb⟩; replace S := Aside0.mk (S.out.step hb); clear hb) | (go_at_call 8; have X_ := lives_c _ (hG.step S.out.below); (with_reducible refine X_.mono ?_); clear X_; rintro e_ wL ⟨rfl, hb⟩; replace S := Aside0.mk (S.out.step hb); clear hb))
  go_ret
  exact ⟨rfl, S.out.below⟩
theorem decodes_c (a : Int) (l : List Int) (v : Value) (w : World) (hG : Least w) (h : Seen kI w v l) (hb : l.length ≤ 140737488351232) (hn : Num l) :
    Calls Tryd.prog 4 #[.int .i64 a, v] w fun e w' => e = .returned (.bool true) ∧ Below w.heap.size w w' := by
  obtain ⟨A, c, rfl, h2, h3⟩ := h
  have hs : Seen kI w (.slice A l.length c) l := ⟨A, c, rfl, h2, h3⟩
  by_cases h1 : l.length ≤ 2000
  · exact decodes_few a l A c w hG hs hb hn h1
  · exact decodes_many a l A c w hG hs hb hn h1
end Go.Proofs.YtopapknfpoandaaDoor.Hand
