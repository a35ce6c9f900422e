import Derived.Test.YtopapknfpoandaaDoorQ4
namespace Go.Proofs.YtopapknfpoandaaDoor.Hand
open Go.Proofs.YtopapknfpoandaaDoorW Go.RowKit Go.Proofs.YtopapknfpoandaaDoorW.PrintWords Go.Proofs.YtopapknfpoandaaDoorW.PrintLast Go.Proofs.YtopapknfpoandaaDoorW.PrintMore Go.Proofs.YtopapknfpoandaaDoorW.SepW Go.Proofs.YtopapknfpoandaaDoor.PALL
set_option linter.unusedVariables false
set_option linter.unusedSimpArgs false
/-- What the reference's Decode answers. -/
def outR (kind : Int) (l : List Int) : Int × List (List S44) × Int :=
  if kind < 1 ∨ 3 < kind then (0, [], 1) else if (decR kind l).2 = false ∨ checkS kind (decR kind l).1 ≠ 0 then (0, [], 4) else (kind, (decR kind l).1, 0)
theorem decLR_fit (k3 : Bool) (B : Nat) : ∀ (n : Nat) (r : RS) (acc : List (List S44)), acc.length + r.l.length ≤ B → (∀ p ∈ acc, p.length ≤ 100001) → (decLR k3 n r acc).1.length ≤ B ∧ ∀ p ∈ (decLR k3 n r acc).1, p.length ≤ 100001
  | 0, r, acc, h, ha => ⟨by show acc.length ≤ B; omega, ha⟩
  | n + 1, r, acc, h, ha => by
    rw [decLR]
    split
    · exact ⟨by show acc.length ≤ B; omega, ha⟩
    · rename_i hq
      have hl := partR_len k3 r (fun e => hq (.inl e))
      refine decLR_fit k3 B n _ _ (by rw [List.length_append, List.length_singleton]; omega) (fun p hp => ?_)
      rcases List.mem_append.1 hp with hp | hp
      · exact ha p hp
      · obtain rfl := List.mem_singleton.1 hp
        exact partR_cnt k3 r
theorem decR_fit (kind : Int) (l : List Int) (hl : l.length ≤ 1000000) : Fit (decR kind l).1 := by
  unfold decR
  split
  · split
    · exact ⟨Nat.zero_le _, fun p hp => by cases hp⟩
    · have h1 := nextR_z (r0 l)
      have h2 := ptsR_len ((nextR (r0 l)).2 / 8).toNat (nextR (r0 l)).1
      refine ⟨by rw [List.length_map]; omega, fun p hp => ?_⟩
      obtain ⟨q, _, rfl⟩ := List.mem_map.1 hp
      exact (by decide : 1 ≤ 140737488351232)
  · have h := decLR_fit (decide (kind = 3)) 1000000 (l.length + 1) (r0 l) [] (by rw [List.length_nil, Nat.zero_add]; exact hl) (fun p hp => by cases hp)
    exact ⟨Nat.le_trans h.1 (by decide), fun p hp => Nat.le_trans (h.2 p hp) (by decide)⟩
set_option maxHeartbeats 4000000 in
set_option maxRecDepth 100000 in
theorem rDecode_low (kd : Int) (l : List Int) (A : Option Addr) (c : Nat) (w : World) (h : Seen kI w (.slice A l.length c) l) (hl : l.length ≤ 1000000) (h1 : kd < 1) :
    Calls Tryd.prog 15 #[.int .i64 kd, .slice A l.length c] w fun e w' => ∃ u, e = .returned (.tuple #[.agg #[.int .i64 (outR kd l).1, u], .int .i64 (outR kd l).2.2]) ∧ Kd.R kL 42 w' w.heap.size (fun _ => True) u (outR kd l).2.1 ∧ Below w.heap.size w w' := by
  have S := Aside0.mk (Sep.start w)
  have hu24 := Tryd.underlying24
  have HR := Aside0.mk h
  clear h
  have d := decide_eq_true h1
  have HP : Aside0 (outR kd l = (0, [], 1)) := ⟨by unfold outR; exact if_pos (.inl h1)⟩
  go_enter Tryd.func15, Tryd.ntmps15
  go_wp2_with (first | ((with_reducible refine gate_dst (N := 4) rfl ?_); refine box_event ?hg (N := 4) ?hd (cs := #[.int .i64 0, .slice none 0 0]) (t := 24) ?hr ?_; (case hd => rfl); (case hg => rfl); (case hr => first | (go_simp; done) | (go_simp; rfl)); intro g4 hg w4 hbox hb; replace S := Aside0.mk (S.out.box hg hbox hb); have k4_0 := blk_cell hbox 0; have f4_0 := blk_frozen hbox 0; have k4_1 := blk_cell hbox 1; have f4_1 := blk_frozen hbox 1; simp only [List.getElem?_toArray, List.getElem?_cons_zero, List.getElem?_cons_succ] at k4_0 k4_1; clear hbox hb hg))
  replace S := Aside0.mk (((S.out).set 0 rfl 0 (.int .i64 0)).set 0 rfl 1 (.slice none 0 0))
  (try simp only [Exit.inBlock, Exit.then]); refine bodyPost_ret (results_row_tmp rfl _ _ g4 24 #[.int .i64 0, .slice none 0 0] (0, 0) _ rfl (by exact S.out.at_box 0 rfl) (by exact hu24) rfl (by exact size24)) rfl ?_
  rw [HP.out]
  exact ⟨_, rfl, Kd.R_nil _ _ _ _ _, S.out.below⟩
set_option maxHeartbeats 4000000 in
set_option maxRecDepth 100000 in
theorem rDecode_high (kd : Int) (l : List Int) (A : Option Addr) (c : Nat) (w : World) (h : Seen kI w (.slice A l.length c) l) (hl : l.length ≤ 1000000) (h0 : ¬ kd < 1) (h1 : 3 < kd) :
    Calls Tryd.prog 15 #[.int .i64 kd, .slice A l.length c] w fun e w' => ∃ u, e = .returned (.tuple #[.agg #[.int .i64 (outR kd l).1, u], .int .i64 (outR kd l).2.2]) ∧ Kd.R kL 42 w' w.heap.size (fun _ => True) u (outR kd l).2.1 ∧ Below w.heap.size w w' := by
  have S := Aside0.mk (Sep.start w)
  have hu24 := Tryd.underlying24
  have HR := Aside0.mk h
  clear h
  have d0 := decide_eq_false h0
  have d := decide_eq_true h1
  have HP : Aside0 (outR kd l = (0, [], 1)) := ⟨by unfold outR; exact if_pos (.inr h1)⟩
  go_enter Tryd.func15, Tryd.ntmps15
  go_wp2_with (first | ((with_reducible refine gate_dst (N := 4) rfl ?_); refine box_event ?hg (N := 4) ?hd (cs := #[.int .i64 0, .slice none 0 0]) (t := 24) ?hr ?_; (case hd => rfl); (case hg => rfl); (case hr => first | (go_simp; done) | (go_simp; rfl)); intro g4 hg w4 hbox hb; replace S := Aside0.mk (S.out.box hg hbox hb); have k4_0 := blk_cell hbox 0; have f4_0 := blk_frozen hbox 0; have k4_1 := blk_cell hbox 1; have f4_1 := blk_frozen hbox 1; simp only [List.getElem?_toArray, List.getElem?_cons_zero, List.getElem?_cons_succ] at k4_0 k4_1; clear hbox hb hg))
  replace S := Aside0.mk (((S.out).set 0 rfl 0 (.int .i64 0)).set 0 rfl 1 (.slice none 0 0))
  (try simp only [Exit.inBlock, Exit.then]); refine bodyPost_ret (results_row_tmp rfl _ _ g4 24 #[.int .i64 0, .slice none 0 0] (0, 0) _ rfl (by exact S.out.at_box 0 rfl) (by exact hu24) rfl (by exact size24)) rfl ?_
  rw [HP.out]
  exact ⟨_, rfl, Kd.R_nil _ _ _ _ _, S.out.below⟩
set_option maxHeartbeats 4000000 in
set_option maxRecDepth 100000 in
theorem rDecode_no (kd : Int) (l : List Int) (A : Option Addr) (c : Nat) (w : World) (h : Seen kI w (.slice A l.length c) l) (hl : l.length ≤ 1000000) (h0 : ¬ kd < 1) (h1 : ¬ 3 < kd) (hb : (decR kd l).2 = false) :
    Calls Tryd.prog 15 #[.int .i64 kd, .slice A l.length c] w fun e w' => ∃ u, e = .returned (.tuple #[.agg #[.int .i64 (outR kd l).1, u], .int .i64 (outR kd l).2.2]) ∧ Kd.R kL 42 w' w.heap.size (fun _ => True) u (outR kd l).2.1 ∧ Below w.heap.size w w' := by
  have S := Aside0.mk (Sep.start w)
  have hu24 := Tryd.underlying24
  have HR := Aside0.mk h
  clear h
  have d0 := decide_eq_false h0
  have d1 := decide_eq_false h1
  have HF := Aside0.mk (decR_fit kd l hl)
  have HO : Aside0 (outR kd l = if (decR kd l).2 = false ∨ checkS kd (decR kd l).1 ≠ 0 then (0, [], 4) else (kd, (decR kd l).1, 0)) := ⟨by unfold outR; exact if_neg (by omega)⟩
  obtain ⟨ps, b, e1⟩ : ∃ ps b, decR kd l = (ps, b) := ⟨_, _, rfl⟩
  have E1 := Aside0.mk e1
  rw [e1] at HO HF
  rw [e1] at hb
  obtain rfl : b = false := hb
  have HP : Aside0 (outR kd l = (0, [], 4)) := ⟨HO.out.trans (if_pos (.inl rfl))⟩
  clear e1
  go_enter Tryd.func15, Tryd.ntmps15
  go_wp2_with (first | ((with_reducible refine gate_dst (N := 4) rfl ?_); refine box_event ?hg (N := 4) ?hd (cs := #[.int .i64 0, .slice none 0 0]) (t := 24) ?hr ?_; (case hd => rfl); (case hg => rfl); (case hr => first | (go_simp; done) | (go_simp; rfl)); intro g4 hg w4 hbox hb; replace S := Aside0.mk (S.out.box hg hbox hb); have k4_0 := blk_cell hbox 0; have f4_0 := blk_frozen hbox 0; have k4_1 := blk_cell hbox 1; have f4_1 := blk_frozen hbox 1; simp only [List.getElem?_toArray, List.getElem?_cons_zero, List.getElem?_cons_succ] at k4_0 k4_1; clear hbox hb hg) | (go_at_call 20; have X_ := rdecode_s kd l (.slice A l.length c) _ (HR.out.step S.out.below) hl; rw [E1.out] at X_; (with_reducible refine X_.mono ?_); clear X_; rintro e_ w19 ⟨v19, rfl, ho, hb⟩; obtain ⟨A19, c19, e19⟩ := Kd.R_slice ho; subst e19; replace S := Aside0.mk (S.out.own ho hb); clear ho hb; clear k4_0 k4_1 f4_0 f4_1) | ((with_reducible refine gate_dst (N := 8) rfl ?_); refine box_event ?hg (N := 8) ?hd (cs := #[.int .i64 0, .slice none 0 0]) (t := 24) ?hr ?_; (case hd => rfl); (case hg => rfl); (case hr => first | (go_simp; done) | (go_simp; rfl)); intro g8 hg w8 hbox hb; replace S := Aside0.mk (show Sep _ _ (Box _ g8 24 #[.int .i64 kd, .slice A19 ps.length c19] :: _) from ((S.out.box hg hbox hb).set 0 rfl 0 (.int .i64 kd)).set 0 rfl 1 (.slice A19 ps.length c19)); have z8_0 := blk_cell hbox 0; have y8_0 := blk_frozen hbox 0; have z8_1 := blk_cell hbox 1; have y8_1 := blk_frozen hbox 1; simp only [List.getElem?_toArray, List.getElem?_cons_zero, List.getElem?_cons_succ] at z8_0 z8_1; clear hbox hb hg; have k8_0 := blk_cell (S.out.at_box 0 rfl) 0; have k8_1 := blk_cell (S.out.at_box 0 rfl) 1; have k4_0 := blk_cell (S.out.at_box 2 rfl) 0; have f4_0 := blk_frozen (S.out.at_box 2 rfl) 0; have k4_1 := blk_cell (S.out.at_box 2 rfl) 1; have f4_1 := blk_frozen (S.out.at_box 2 rfl) 1; simp only [List.getElem?_toArray, List.getElem?_cons_zero, List.getElem?_cons_succ] at k8_0 k8_1 k4_0 k4_1))
  replace S := Aside0.mk (((S.out).set 2 rfl 0 (.int .i64 0)).set 2 rfl 1 (.slice none 0 0))
  (try simp only [Exit.inBlock, Exit.then]); refine bodyPost_ret (results_row_tmp rfl _ _ g4 24 #[.int .i64 0, .slice none 0 0] (0, 0) _ rfl (by exact S.out.at_box 2 rfl) (by exact hu24) rfl (by exact size24)) rfl ?_
  rw [HP.out]
  exact ⟨_, rfl, Kd.R_nil _ _ _ _ _, S.out.below⟩
set_option maxHeartbeats 4000000 in
set_option maxRecDepth 100000 in
theorem rDecode_bad (kd : Int) (l : List Int) (A : Option Addr) (c : Nat) (w : World) (h : Seen kI w (.slice A l.length c) l) (hl : l.length ≤ 1000000) (h0 : ¬ kd < 1) (h1 : ¬ 3 < kd) (hb : (decR kd l).2 = true) (hc : checkS kd (decR kd l).1 ≠ 0) :
    Calls Tryd.prog 15 #[.int .i64 kd, .slice A l.length c] w fun e w' => ∃ u, e = .returned (.tuple #[.agg #[.int .i64 (outR kd l).1, u], .int .i64 (outR kd l).2.2]) ∧ Kd.R kL 42 w' w.heap.size (fun _ => True) u (outR kd l).2.1 ∧ Below w.heap.size w w' := by
  have S := Aside0.mk (Sep.start w)
  have hu24 := Tryd.underlying24
  have HR := Aside0.mk h
  clear h
  have d0 := decide_eq_false h0
  have d1 := decide_eq_false h1
  have HF := Aside0.mk (decR_fit kd l hl)
  have HO : Aside0 (outR kd l = if (decR kd l).2 = false ∨ checkS kd (decR kd l).1 ≠ 0 then (0, [], 4) else (kd, (decR kd l).1, 0)) := ⟨by unfold outR; exact if_neg (by omega)⟩
  obtain ⟨ps, b, e1⟩ : ∃ ps b, decR kd l = (ps, b) := ⟨_, _, rfl⟩
  have E1 := Aside0.mk e1
  rw [e1] at HO HF
  rw [e1] at hb hc
  obtain rfl : b = true := hb
  have HP : Aside0 (outR kd l = (0, [], 4)) := ⟨HO.out.trans (if_pos (.inr hc))⟩
  obtain ⟨ck, hk⟩ : ∃ ck, checkS kd ps = ck := ⟨_, rfl⟩
  have HC := Aside0.mk hk
  have d2 : (ck != 0) = true := bne_iff_ne.2 (by rw [← hk]; exact hc)
  clear e1 hc hk
  go_enter Tryd.func15, Tryd.ntmps15
  go_wp2_with (first | ((with_reducible refine gate_dst (N := 4) rfl ?_); refine box_event ?hg (N := 4) ?hd (cs := #[.int .i64 0, .slice none 0 0]) (t := 24) ?hr ?_; (case hd => rfl); (case hg => rfl); (case hr => first | (go_simp; done) | (go_simp; rfl)); intro g4 hg w4 hbox hb; replace S := Aside0.mk (S.out.box hg hbox hb); have k4_0 := blk_cell hbox 0; have f4_0 := blk_frozen hbox 0; have k4_1 := blk_cell hbox 1; have f4_1 := blk_frozen hbox 1; simp only [List.getElem?_toArray, List.getElem?_cons_zero, List.getElem?_cons_succ] at k4_0 k4_1; clear hbox hb hg) | (go_at_call 20; have X_ := rdecode_s kd l (.slice A l.length c) _ (HR.out.step S.out.below) hl; rw [E1.out] at X_; (with_reducible refine X_.mono ?_); clear X_; rintro e_ w19 ⟨v19, rfl, ho, hb⟩; obtain ⟨A19, c19, e19⟩ := Kd.R_slice ho; subst e19; replace S := Aside0.mk (S.out.own ho hb); clear ho hb; clear k4_0 k4_1 f4_0 f4_1) | ((with_reducible refine gate_dst (N := 8) rfl ?_); refine box_event ?hg (N := 8) ?hd (cs := #[.int .i64 0, .slice none 0 0]) (t := 24) ?hr ?_; (case hd => rfl); (case hg => rfl); (case hr => first | (go_simp; done) | (go_simp; rfl)); intro g8 hg w8 hbox hb; replace S := Aside0.mk (show Sep _ _ (Box _ g8 24 #[.int .i64 kd, .slice A19 ps.length c19] :: _) from ((S.out.box hg hbox hb).set 0 rfl 0 (.int .i64 kd)).set 0 rfl 1 (.slice A19 ps.length c19)); have z8_0 := blk_cell hbox 0; have y8_0 := blk_frozen hbox 0; have z8_1 := blk_cell hbox 1; have y8_1 := blk_frozen hbox 1; simp only [List.getElem?_toArray, List.getElem?_cons_zero, List.getElem?_cons_succ] at z8_0 z8_1; clear hbox hb hg; have k8_0 := blk_cell (S.out.at_box 0 rfl) 0; have k8_1 := blk_cell (S.out.at_box 0 rfl) 1; have k4_0 := blk_cell (S.out.at_box 2 rfl) 0; have f4_0 := blk_frozen (S.out.at_box 2 rfl) 0; have k4_1 := blk_cell (S.out.at_box 2 rfl) 1; have f4_1 := blk_frozen (S.out.at_box 2 rfl) 1; simp only [List.getElem?_toArray, List.getElem?_cons_zero, List.getElem?_cons_succ] at k8_0 k8_1 k4_0 k4_1) | (go_at_call 12; have X_ := rcheck_s kd ps (.slice A19 ps.length c19) _ (S.out.own_reads 1 rfl) HF.out; rw [HC.out] at X_; (with_reducible refine X_.mono ?_); clear X_; rintro e_ w29 ⟨rfl, hb⟩; replace S := Aside0.mk (S.out.step hb); clear hb; clear k8_0 k8_1 k4_0 k4_1 f4_0 f4_1; have k8_0 := blk_cell (S.out.at_box 0 rfl) 0; have k8_1 := blk_cell (S.out.at_box 0 rfl) 1; have k4_0 := blk_cell (S.out.at_box 2 rfl) 0; have f4_0 := blk_frozen (S.out.at_box 2 rfl) 0; have k4_1 := blk_cell (S.out.at_box 2 rfl) 1; have f4_1 := blk_frozen (S.out.at_box 2 rfl) 1; simp only [List.getElem?_toArray, List.getElem?_cons_zero, List.getElem?_cons_succ] at k8_0 k8_1 k4_0 k4_1))
  replace S := Aside0.mk (((S.out).set 2 rfl 0 (.int .i64 0)).set 2 rfl 1 (.slice none 0 0))
  (try simp only [Exit.inBlock, Exit.then]); refine bodyPost_ret (results_row_tmp rfl _ _ g4 24 #[.int .i64 0, .slice none 0 0] (0, 0) _ rfl (by exact S.out.at_box 2 rfl) (by exact hu24) rfl (by exact size24)) rfl ?_
  rw [HP.out]
  exact ⟨_, rfl, Kd.R_nil _ _ _ _ _, S.out.below⟩
set_option maxHeartbeats 4000000 in
set_option maxRecDepth 100000 in
theorem rDecode_good (kd : Int) (l : List Int) (A : Option Addr) (c : Nat) (w : World) (h : Seen kI w (.slice A l.length c) l) (hl : l.length ≤ 1000000) (h0 : ¬ kd < 1) (h1 : ¬ 3 < kd) (hb : (decR kd l).2 = true) (hc : checkS kd (decR kd l).1 = 0) :
    Calls Tryd.prog 15 #[.int .i64 kd, .slice A l.length c] w fun e w' => ∃ u, e = .returned (.tuple #[.agg #[.int .i64 (outR kd l).1, u], .int .i64 (outR kd l).2.2]) ∧ Kd.R kL 42 w' w.heap.size (fun _ => True) u (outR kd l).2.1 ∧ Below w.heap.size w w' := by
  have S := Aside0.mk (Sep.start w)
  have hu24 := Tryd.underlying24
  have HR := Aside0.mk h
  clear h
  have d0 := decide_eq_false h0
  have d1 := decide_eq_false h1
  have HF := Aside0.mk (decR_fit kd l hl)
  have HO : Aside0 (outR kd l = if (decR kd l).2 = false ∨ checkS kd (decR kd l).1 ≠ 0 then (0, [], 4) else (kd, (decR kd l).1, 0)) := ⟨by unfold outR; exact if_neg (by omega)⟩
  obtain ⟨ps, b, e1⟩ : ∃ ps b, decR kd l = (ps, b) := ⟨_, _, rfl⟩
  have E1 := Aside0.mk e1
  rw [e1] at HO HF
  rw [e1] at hb hc
  obtain rfl : b = true := hb
  have HP : Aside0 (outR kd l = (kd, ps, 0)) := ⟨HO.out.trans (if_neg (fun h => h.elim (fun h => Bool.noConfusion h) (fun h => h hc)))⟩
  have HC := Aside0.mk hc
  clear e1 hc
  go_enter Tryd.func15, Tryd.ntmps15
  go_wp2_with (first | ((with_reducible refine gate_dst (N := 4) rfl ?_); refine box_event ?hg (N := 4) ?hd (cs := #[.int .i64 0, .slice none 0 0]) (t := 24) ?hr ?_; (case hd => rfl); (case hg => rfl); (case hr => first | (go_simp; done) | (go_simp; rfl)); intro g4 hg w4 hbox hb; replace S := Aside0.mk (S.out.box hg hbox hb); have k4_0 := blk_cell hbox 0; have f4_0 := blk_frozen hbox 0; have k4_1 := blk_cell hbox 1; have f4_1 := blk_frozen hbox 1; simp only [List.getElem?_toArray, List.getElem?_cons_zero, List.getElem?_cons_succ] at k4_0 k4_1; clear hbox hb hg) | (go_at_call 20; have X_ := rdecode_s kd l (.slice A l.length c) _ (HR.out.step S.out.below) hl; rw [E1.out] at X_; (with_reducible refine X_.mono ?_); clear X_; rintro e_ w19 ⟨v19, rfl, ho, hb⟩; obtain ⟨A19, c19, e19⟩ := Kd.R_slice ho; subst e19; replace S := Aside0.mk (S.out.own ho hb); clear ho hb; clear k4_0 k4_1 f4_0 f4_1) | ((with_reducible refine gate_dst (N := 8) rfl ?_); refine box_event ?hg (N := 8) ?hd (cs := #[.int .i64 0, .slice none 0 0]) (t := 24) ?hr ?_; (case hd => rfl); (case hg => rfl); (case hr => first | (go_simp; done) | (go_simp; rfl)); intro g8 hg w8 hbox hb; replace S := Aside0.mk (show Sep _ _ (Box _ g8 24 #[.int .i64 kd, .slice A19 ps.length c19] :: _) from ((S.out.box hg hbox hb).set 0 rfl 0 (.int .i64 kd)).set 0 rfl 1 (.slice A19 ps.length c19)); have z8_0 := blk_cell hbox 0; have y8_0 := blk_frozen hbox 0; have z8_1 := blk_cell hbox 1; have y8_1 := blk_frozen hbox 1; simp only [List.getElem?_toArray, List.getElem?_cons_zero, List.getElem?_cons_succ] at z8_0 z8_1; clear hbox hb hg; have k8_0 := blk_cell (S.out.at_box 0 rfl) 0; have k8_1 := blk_cell (S.out.at_box 0 rfl) 1; have k4_0 := blk_cell (S.out.at_box 2 rfl) 0; have f4_0 := blk_frozen (S.out.at_box 2 rfl) 0; have k4_1 := blk_cell (S.out.at_box 2 rfl) 1; have f4_1 := blk_frozen (S.out.at_box 2 rfl) 1; simp only [List.getElem?_toArray, List.getElem?_cons_zero, List.getElem?_cons_succ] at k8_0 k8_1 k4_0 k4_1) | (go_at_call 12; have X_ := rcheck_s kd ps (.slice A19 ps.length c19) _ (S.out.own_reads 1 rfl) HF.out; rw [HC.out] at X_; (with_reducible refine X_.mono ?_); clear X_; rintro e_ w29 ⟨rfl, hb⟩; replace S := Aside0.mk (S.out.step hb); clear hb; clear k8_0 k8_1 k4_0 k4_1 f4_0 f4_1; have k8_0 := blk_cell (S.out.at_box 0 rfl) 0; have k8_1 := blk_cell (S.out.at_box 0 rfl) 1; have k4_0 := blk_cell (S.out.at_box 2 rfl) 0; have f4_0 := blk_frozen (S.out.at_box 2 rfl) 0; have k4_1 := blk_cell (S.out.at_box 2 rfl) 1; have f4_1 := blk_frozen (S.out.at_box 2 rfl) 1; simp only [List.getElem?_toArray, List.getElem?_cons_zero, List.getElem?_cons_succ] at k8_0 k8_1 k4_0 k4_1))
  replace S := Aside0.mk (((S.out).set 2 rfl 0 (.int .i64 kd)).set 2 rfl 1 (.slice A19 ps.length c19))
  (try simp only [Exit.inBlock, Exit.then]); refine bodyPost_ret (results_row_tmp rfl _ _ g4 24 #[.int .i64 kd, .slice A19 ps.length c19] (0, 0) _ rfl (by exact S.out.at_box 2 rfl) (by exact hu24) rfl (by exact size24)) rfl ?_
  rw [HP.out]
  exact ⟨_, rfl, S.out.at_own 1 rfl, S.out.below⟩
theorem rDecode_s (kd : Int) (l : List Int) (v : Value) (w : World) (h : Seen kI w v l) (hl : l.length ≤ 1000000) :
    Calls Tryd.prog 15 #[.int .i64 kd, v] w fun e w' => ∃ u, e = .returned (.tuple #[.agg #[.int .i64 (outR kd l).1, u], .int .i64 (outR kd l).2.2]) ∧ Kd.R kL 42 w' w.heap.size (fun _ => True) u (outR kd l).2.1 ∧ Below w.heap.size w w' := by
  obtain ⟨A, c, rfl, h2, h3⟩ := h
  have hs : Seen kI w (.slice A l.length c) l := ⟨A, c, rfl, h2, h3⟩
  by_cases h0 : kd < 1
  · exact rDecode_low kd l A c w hs hl h0
  · by_cases h1 : 3 < kd
    · exact rDecode_high kd l A c w hs hl h0 h1
    · cases hb : (decR kd l).2 with
      | false => exact rDecode_no kd l A c w hs hl h0 h1 hb
      | true =>
        by_cases hc : checkS kd (decR kd l).1 = 0
        · exact rDecode_good kd l A c w hs hl h0 h1 hb hc
        · exact rDecode_bad kd l A c w hs hl h0 h1 hb hc
end Go.Proofs.YtopapknfpoandaaDoor.Hand
