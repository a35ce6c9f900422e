import Derived.Test.YtopapknfpoandaaDoorQ3
import Derived.Test.YtopapknfpoandaaDoorV2a
namespace Go.Proofs.YtopapknfpoandaaDoor.Hand
open Go.Proofs.YtopapknfpoandaaDoorW Go.RowKit Go.Proofs.YtopapknfpoandaaDoorW.PrintWords Go.Proofs.YtopapknfpoandaaDoorW.PrintLast Go.Proofs.YtopapknfpoandaaDoorW.PrintMore Go.Proofs.YtopapknfpoandaaDoorW.SepW Go.Proofs.YtopapknfpoandaaDoor.PALL
set_option linter.unusedVariables false
set_option linter.unusedSimpArgs false
def decLR (k3 : Bool) : Nat → RS → List (List S44) → List (List S44) × RS
  | 0, r, acc => (acc, r)
  | n + 1, r, acc => if r.l = [] ∨ r.b = true then (acc, r) else decLR k3 n (partR k3 r).1 (acc ++ [(partR k3 r).2])
/-- The parts, by the reference. -/
def decR (kind : Int) (l : List Int) : List (List S44) × Bool :=
  if kind = 1 then
    (if (nextR (r0 l)).2 % 8 ≠ 1 then ([], false)
     else ((ptsR ((nextR (r0 l)).2 / 8).toNat (nextR (r0 l)).1).1.map (fun p => [p]), !(ptsR ((nextR (r0 l)).2 / 8).toNat (nextR (r0 l)).1).2.b && decide ((ptsR ((nextR (r0 l)).2 / 8).toNat (nextR (r0 l)).1).2.l.length = 0)))
  else ((decLR (decide (kind = 3)) (l.length + 1) (r0 l) []).1, !(decLR (decide (kind = 3)) (l.length + 1) (r0 l) []).2.b)
theorem nextR_len (r : RS) (h : r.l ≠ []) : (nextR r).1.l.length < r.l.length := by
  obtain ⟨l, x, y, b⟩ := r
  cases l with
  | nil => exact absurd rfl h
  | cons z t =>
    unfold nextR
    dsimp only
    split
    · exact Nat.succ_pos _
    · exact Nat.lt_succ_self _
theorem nextR_le (r : RS) : (nextR r).1.l.length ≤ r.l.length := by
  by_cases h : r.l = []
  · obtain ⟨l, x, y, b⟩ := r
    obtain rfl : l = [] := h
    exact Nat.le_refl _
  · exact Nat.le_of_lt (nextR_len r h)
theorem ptsR_le : ∀ (m : Nat) (r : RS), (ptsR m r).2.l.length ≤ r.l.length
  | 0, r => Nat.le_refl _
  | m + 1, r => by
    rw [ptsR]
    split
    · exact Nat.le_refl _
    · have h1 := ptsR_le m (pointR r)
      have h2 : (pointR r).l.length ≤ r.l.length := Nat.le_trans (nextR_le (nextR r).1) (nextR_le r)
      exact Nat.le_trans h1 h2
theorem partR_len (k3 : Bool) (r : RS) (h : r.l ≠ []) : (partR k3 r).1.l.length < r.l.length := by
  have h1 := nextR_len r h
  have h2 := ptsR_le 1 (nextR r).1
  have h3 := nextR_le (ptsR 1 (nextR r).1).2
  have h4 := ptsR_le ((nextR (ptsR 1 (nextR r).1).2).2 / 8).toNat (nextR (ptsR 1 (nextR r).1).2).1
  have h5 := nextR_le (ptsR ((nextR (ptsR 1 (nextR r).1).2).2 / 8).toNat (nextR (ptsR 1 (nextR r).1).2).1).2
  have h6 : badR.l.length < r.l.length := List.length_pos_iff.2 h
  unfold partR
  split
  · exact h6
  · split
    · split
      · exact h6
      · dsimp only; omega
    · dsimp only; omega
theorem partR_cnt (k3 : Bool) (r : RS) : (partR k3 r).2.length ≤ 100001 := by
  have h1 := ptsR_len 1 (nextR r).1
  have h2 := nextR_z (ptsR 1 (nextR r).1).2
  have h3 := ptsR_len ((nextR (ptsR 1 (nextR r).1).2).2 / 8).toNat (nextR (ptsR 1 (nextR r).1).2).1
  unfold partR
  split
  · exact Nat.zero_le _
  · split
    · split
      · exact Nat.zero_le _
      · rw [List.length_append]; omega
    · rw [List.length_append]; omega
set_option maxHeartbeats 4000000 in
set_option maxRecDepth 100000 in
theorem rdecode_odd  (l : List Int) (A : Option Addr) (c : Nat) (w : World) (h : Seen kI w (.slice A l.length c) l) (hl : l.length ≤ 1000000) (h8 : (nextR (r0 l)).2 % 8 ≠ 1) :
    Calls Tryd.prog 20 #[.int .i64 1, .slice A l.length c] w fun e w' => ∃ u, e = .returned (.tuple #[u, .bool (decR 1 l).2]) ∧ Kd.R kL 42 w' w.heap.size (fun _ => True) u (decR 1 l).1 ∧ Below w.heap.size w w' := by
  have S := Aside0.mk (Sep.start w)
  have hu61 := Tryd.underlying61
  have hu44 := Tryd.underlying44
  have hu42 := Tryd.underlying42
  have hu22 := Tryd.underlying22
  have HR : Aside0 (Seen kI w (.slice A (r0 l).l.length c) (r0 l).l) := ⟨h⟩
  clear h
  obtain ⟨a, z, e1⟩ : ∃ a z, nextR (r0 l) = (a, z) := ⟨_, _, rfl⟩
  have E1 := Aside0.mk e1
  have zr := nextR_z (r0 l)
  rw [e1] at zr
  dsimp only at zr
  have hm : Int.tmod z 8 = z % 8 := Int.tmod_eq_emod_of_nonneg zr.1
  have hq : Int.tdiv z 8 = z / 8 := Int.tdiv_eq_ediv_of_nonneg zr.1
  rw [e1] at h8
  have h8 : z % 8 ≠ 1 := h8
  have d := bne_iff_ne.2 h8
  have HP : Aside0 (decR 1 l = ([], false)) := ⟨by unfold decR; rw [if_pos rfl, e1]; exact if_pos h8⟩
  clear e1 h8
  go_enter Tryd.func20, Tryd.ntmps20
  go_wp2_with (first | ((with_reducible refine gate_dst (N := 6) rfl ?_); refine box_event ?hg (N := 6) ?hd (cs := #[.slice none 0 0, .int .i64 0, .int .i64 0, .bool false]) (t := 61) ?hr ?_; (case hd => rfl); (case hg => rfl); (case hr => first | (go_simp; done) | (go_simp; rfl)); intro g6 hg w6 hbox hb; replace S := Aside0.mk (show Sep _ _ (Box _ g6 61 #[.slice A l.length c, .int .i64 0, .int .i64 0, .bool false] :: _) from ((((S.out.box hg hbox hb).set 0 rfl 0 (.slice A l.length c)).set 0 rfl 1 (.int .i64 0)).set 0 rfl 2 (.int .i64 0)).set 0 rfl 3 (.bool false)); have z6_0 := blk_cell hbox 0; have y6_0 := blk_frozen hbox 0; have z6_1 := blk_cell hbox 1; have y6_1 := blk_frozen hbox 1; have z6_2 := blk_cell hbox 2; have y6_2 := blk_frozen hbox 2; have z6_3 := blk_cell hbox 3; have y6_3 := blk_frozen hbox 3; simp only [List.getElem?_toArray, List.getElem?_cons_zero, List.getElem?_cons_succ] at z6_0 z6_1 z6_2 z6_3; clear hbox hb hg; have k6_0 := blk_cell (S.out.at_box 0 rfl) 0; have k6_1 := blk_cell (S.out.at_box 0 rfl) 1; have k6_2 := blk_cell (S.out.at_box 0 rfl) 2; have k6_3 := blk_cell (S.out.at_box 0 rfl) 3; simp only [List.getElem?_toArray, List.getElem?_cons_zero, List.getElem?_cons_succ] at k6_0 k6_1 k6_2 k6_3) | (go_at_call 25; have X_ := rnext_s (r0 l) (.slice A l.length c) w _ S.out.below HR.out; rw [show RV (.slice A l.length c) (r0 l) = .agg #[.slice A l.length c, .int .i64 0, .int .i64 0, .bool false] from rfl, E1.out] at X_; (with_reducible refine X_.mono ?_); clear X_; rintro e_ w21 ⟨ua, rfl, hs, hb⟩; have Ha := Aside0.mk hs; obtain ⟨Aa, ca, eua, _, _⟩ := hs; subst eua; replace S := Aside0.mk (S.out.step hb); clear hb; clear k6_0 k6_1 k6_2 k6_3 z6_0 y6_0 z6_1 y6_1 z6_2 y6_2 z6_3 y6_3) | ((with_reducible refine gate_dst (N := 8) rfl ?_); refine box_event ?hg (N := 8) ?hd (cs := #[.slice none 0 0, .int .i64 0, .int .i64 0, .bool false]) (t := 61) ?hr ?_; (case hd => rfl); (case hg => rfl); (case hr => first | (go_simp; done) | (go_simp; rfl)); intro g8 hg w8 hbox hb; replace S := Aside0.mk (show Sep _ _ (Box _ g8 61 #[.slice Aa a.l.length ca, .int .i64 a.x, .int .i64 a.y, .bool a.b] :: _) from ((((S.out.box hg hbox hb).set 0 rfl 0 (.slice Aa a.l.length ca)).set 0 rfl 1 (.int .i64 a.x)).set 0 rfl 2 (.int .i64 a.y)).set 0 rfl 3 (.bool a.b)); have z8_0 := blk_cell hbox 0; have y8_0 := blk_frozen hbox 0; have z8_1 := blk_cell hbox 1; have y8_1 := blk_frozen hbox 1; have z8_2 := blk_cell hbox 2; have y8_2 := blk_frozen hbox 2; have z8_3 := blk_cell hbox 3; have y8_3 := blk_frozen hbox 3; simp only [List.getElem?_toArray, List.getElem?_cons_zero, List.getElem?_cons_succ] at z8_0 z8_1 z8_2 z8_3; clear hbox hb hg; have k8_0 := blk_cell (S.out.at_box 0 rfl) 0; have k8_1 := blk_cell (S.out.at_box 0 rfl) 1; have k8_2 := blk_cell (S.out.at_box 0 rfl) 2; have k8_3 := blk_cell (S.out.at_box 0 rfl) 3; simp only [List.getElem?_toArray, List.getElem?_cons_zero, List.getElem?_cons_succ] at k8_0 k8_1 k8_2 k8_3))
  go_ret2
  rw [HP.out]
  exact ⟨_, rfl, Kd.R_nil _ _ _ _ _, S.out.below⟩
set_option maxHeartbeats 4000000 in
set_option maxRecDepth 100000 in
theorem rdecode_pts  (l : List Int) (A : Option Addr) (c : Nat) (w : World) (h : Seen kI w (.slice A l.length c) l) (hl : l.length ≤ 1000000) (h8 : (nextR (r0 l)).2 % 8 = 1) :
    Calls Tryd.prog 20 #[.int .i64 1, .slice A l.length c] w fun e w' => ∃ u, e = .returned (.tuple #[u, .bool (decR 1 l).2]) ∧ Kd.R kL 42 w' w.heap.size (fun _ => True) u (decR 1 l).1 ∧ Below w.heap.size w w' := by
  have S := Aside0.mk (Sep.start w)
  have hu61 := Tryd.underlying61
  have hu44 := Tryd.underlying44
  have hu42 := Tryd.underlying42
  have hu22 := Tryd.underlying22
  have HR : Aside0 (Seen kI w (.slice A (r0 l).l.length c) (r0 l).l) := ⟨h⟩
  clear h
  obtain ⟨a, z, e1⟩ : ∃ a z, nextR (r0 l) = (a, z) := ⟨_, _, rfl⟩
  have E1 := Aside0.mk e1
  have zr := nextR_z (r0 l)
  rw [e1] at zr
  dsimp only at zr
  have hm : Int.tmod z 8 = z % 8 := Int.tmod_eq_emod_of_nonneg zr.1
  have hq : Int.tdiv z 8 = z / 8 := Int.tdiv_eq_ediv_of_nonneg zr.1
  rw [e1] at h8
  have h8 : z % 8 = 1 := h8
  have d := bne_eq_false_iff_eq.2 h8
  obtain ⟨m, hM⟩ := Int.eq_ofNat_of_zero_le (show 0 ≤ z / 8 by omega)
  have hm1 : m ≤ 100000 := by omega
  have HM := Aside0.mk hm1
  obtain ⟨pts, b, e2⟩ : ∃ pts b, ptsR m a = (pts, b) := ⟨_, _, rfl⟩
  have E2 := Aside0.mk e2
  have e5 : (z / 8).toNat = m := by omega
  have hpl : pts.length ≤ 100000 := by have := ptsR_len m a; rw [e2] at this; exact Nat.le_trans this hm1
  have HP : Aside0 (decR 1 l = (pts.map (fun p => [p]), !b.b && decide (b.l.length = 0))) := ⟨by unfold decR; rw [if_pos rfl, e1]; dsimp only; rw [if_neg (fun h => h h8), e5, e2]⟩
  clear e1 e2 e5 h8
  go_enter Tryd.func20, Tryd.ntmps20
  go_wp2_with (first | ((with_reducible refine gate_dst (N := 6) rfl ?_); refine box_event ?hg (N := 6) ?hd (cs := #[.slice none 0 0, .int .i64 0, .int .i64 0, .bool false]) (t := 61) ?hr ?_; (case hd => rfl); (case hg => rfl); (case hr => first | (go_simp; done) | (go_simp; rfl)); intro g6 hg w6 hbox hb; replace S := Aside0.mk (show Sep _ _ (Box _ g6 61 #[.slice A l.length c, .int .i64 0, .int .i64 0, .bool false] :: _) from ((((S.out.box hg hbox hb).set 0 rfl 0 (.slice A l.length c)).set 0 rfl 1 (.int .i64 0)).set 0 rfl 2 (.int .i64 0)).set 0 rfl 3 (.bool false)); have z6_0 := blk_cell hbox 0; have y6_0 := blk_frozen hbox 0; have z6_1 := blk_cell hbox 1; have y6_1 := blk_frozen hbox 1; have z6_2 := blk_cell hbox 2; have y6_2 := blk_frozen hbox 2; have z6_3 := blk_cell hbox 3; have y6_3 := blk_frozen hbox 3; simp only [List.getElem?_toArray, List.getElem?_cons_zero, List.getElem?_cons_succ] at z6_0 z6_1 z6_2 z6_3; clear hbox hb hg; have k6_0 := blk_cell (S.out.at_box 0 rfl) 0; have k6_1 := blk_cell (S.out.at_box 0 rfl) 1; have k6_2 := blk_cell (S.out.at_box 0 rfl) 2; have k6_3 := blk_cell (S.out.at_box 0 rfl) 3; simp only [List.getElem?_toArray, List.getElem?_cons_zero, List.getElem?_cons_succ] at k6_0 k6_1 k6_2 k6_3) | (go_at_call 25; have X_ := rnext_s (r0 l) (.slice A l.length c) w _ S.out.below HR.out; rw [show RV (.slice A l.length c) (r0 l) = .agg #[.slice A l.length c, .int .i64 0, .int .i64 0, .bool false] from rfl, E1.out] at X_; (with_reducible refine X_.mono ?_); clear X_; rintro e_ w21 ⟨ua, rfl, hs, hb⟩; have Ha := Aside0.mk hs; obtain ⟨Aa, ca, eua, _, _⟩ := hs; subst eua; replace S := Aside0.mk (S.out.step hb); clear hb; clear k6_0 k6_1 k6_2 k6_3 z6_0 y6_0 z6_1 y6_1 z6_2 y6_2 z6_3 y6_3) | ((with_reducible refine gate_dst (N := 8) rfl ?_); refine box_event ?hg (N := 8) ?hd (cs := #[.slice none 0 0, .int .i64 0, .int .i64 0, .bool false]) (t := 61) ?hr ?_; (case hd => rfl); (case hg => rfl); (case hr => first | (go_simp; done) | (go_simp; rfl)); intro g8 hg w8 hbox hb; replace S := Aside0.mk (show Sep _ _ (Box _ g8 61 #[.slice Aa a.l.length ca, .int .i64 a.x, .int .i64 a.y, .bool a.b] :: _) from ((((S.out.box hg hbox hb).set 0 rfl 0 (.slice Aa a.l.length ca)).set 0 rfl 1 (.int .i64 a.x)).set 0 rfl 2 (.int .i64 a.y)).set 0 rfl 3 (.bool a.b)); have z8_0 := blk_cell hbox 0; have y8_0 := blk_frozen hbox 0; have z8_1 := blk_cell hbox 1; have y8_1 := blk_frozen hbox 1; have z8_2 := blk_cell hbox 2; have y8_2 := blk_frozen hbox 2; have z8_3 := blk_cell hbox 3; have y8_3 := blk_frozen hbox 3; simp only [List.getElem?_toArray, List.getElem?_cons_zero, List.getElem?_cons_succ] at z8_0 z8_1 z8_2 z8_3; clear hbox hb hg; have k8_0 := blk_cell (S.out.at_box 0 rfl) 0; have k8_1 := blk_cell (S.out.at_box 0 rfl) 1; have k8_2 := blk_cell (S.out.at_box 0 rfl) 2; have k8_3 := blk_cell (S.out.at_box 0 rfl) 3; simp only [List.getElem?_toArray, List.getElem?_cons_zero, List.getElem?_cons_succ] at k8_0 k8_1 k8_2 k8_3) | (go_at_call 26; have X_ := rpoints_s m HM.out a (.slice Aa a.l.length ca) w _ S.out.below Ha.out; rw [E2.out] at X_; (with_reducible refine X_.mono ?_); clear X_; rintro e_ w31 ⟨ub, v31, rfl, hs, ho, hb⟩; have Hb := Aside0.mk hs; obtain ⟨Ab, cb, eub, _, _⟩ := hs; subst eub; obtain ⟨A31, c31, e31⟩ := Kd.R_slice ho; subst e31; replace S := Aside0.mk (S.out.own ho hb); clear ho hb; clear k8_0 k8_1 k8_2 k8_3 z8_0 y8_0 z8_1 y8_1 z8_2 y8_2 z8_3 y8_3) | ((with_reducible refine gate_dst (N := 10) rfl ?_); refine box_event ?hg (N := 10) ?hd (cs := #[.slice none 0 0, .int .i64 0, .int .i64 0, .bool false]) (t := 61) ?hr ?_; (case hd => rfl); (case hg => rfl); (case hr => first | (go_simp; done) | (go_simp; rfl)); intro g10 hg w10 hbox hb; replace S := Aside0.mk (show Sep _ _ (Box _ g10 61 #[.slice Ab b.l.length cb, .int .i64 b.x, .int .i64 b.y, .bool b.b] :: _) from ((((S.out.box hg hbox hb).set 0 rfl 0 (.slice Ab b.l.length cb)).set 0 rfl 1 (.int .i64 b.x)).set 0 rfl 2 (.int .i64 b.y)).set 0 rfl 3 (.bool b.b)); have z10_0 := blk_cell hbox 0; have y10_0 := blk_frozen hbox 0; have z10_1 := blk_cell hbox 1; have y10_1 := blk_frozen hbox 1; have z10_2 := blk_cell hbox 2; have y10_2 := blk_frozen hbox 2; have z10_3 := blk_cell hbox 3; have y10_3 := blk_frozen hbox 3; simp only [List.getElem?_toArray, List.getElem?_cons_zero, List.getElem?_cons_succ] at z10_0 z10_1 z10_2 z10_3; clear hbox hb hg; replace S := Aside0.mk (show Sep w _ [Box _ g10 61 #[.slice Ab b.l.length cb, .int .i64 b.x, .int .i64 b.y, .bool b.b], Own _ k44 44 (.slice A31 pts.length c31) pts] from ((S.out.drop 2).drop 2))))
  clear hm1 z10_0 y10_0 z10_1 y10_1 z10_2 y10_2 z10_3 y10_3
  go_loopg [7, 12] (pts.length + 1) (fun kq v7 v12 w' => ∃ (i : Nat) (j : Int) (vs : List Value), v12 = .int .i64 j ∧ Aside0 (j = i) ∧ Aside0 (kq + i = pts.length + 1) ∧ Aside0 (i ≤ pts.length) ∧ Aside0 (vs.length = i) ∧ Aside0 (Sep w w' [Hdr _ 42 v7 vs, SepW.Rows _ k44 44 vs ((pts.take i).map (fun p => [p])), Src w k44 44 (.slice A31 pts.length c31) pts, Box _ g10 61 #[.slice Ab b.l.length cb, .int .i64 b.x, .int .i64 b.y, .bool b.b]]))
  case atStart => exact ⟨0, 0, [], rfl, ⟨rfl⟩, ⟨rfl⟩, ⟨Nat.zero_le _⟩, ⟨rfl⟩, ⟨((((S.out.to_src 1 rfl).swap).rows_nil k44 44).hdr_nil 42)⟩⟩
  case round =>
    clear S
    obtain ⟨i, j, vs, rfl, J, K, IL, VL, S⟩ := hrel
    cases gk with
    | zero => exact absurd K.out (by have := IL.out; omega)
    | succ k1 =>
    by_cases hi : i < pts.length
    · have hj0 : 0 ≤ j := by rw [J.out]; omega
      have hj1 : j < (pts.length : Int) := by rw [J.out]; omega
      have dj := decide_eq_true hj1
      obtain ⟨ad, rfl, hp0, hp1⟩ := at_T44 (S.out.src_C 2 rfl) j hj0 hj1
      obtain ⟨p, hpp⟩ : ∃ p, rd_T44 pts j = p := ⟨_, rfl⟩
      rw [hpp] at hp0 hp1
      have HP0 : Aside0 (p = pts[i]) := ⟨by rw [← hpp, J.out, part_at hi]⟩
      clear hpp
      obtain ⟨Av, cv, ev⟩ := S.out.hdr_form 0 rfl
      subst ev
      have hvl : vs.length ≤ 1000001 := by rw [VL.out]; have := HM.out; omega
      replace hj0 := eq_true hj0
      replace hj1 := eq_true hj1
      go_wp2_with (first | ((with_reducible refine gate_dst (N := 45) rfl ?_); refine Kd.R_lit k44 _ 44 ?hg (N := 45) ?hd (xs := [p]) (inner := [.int .i64 p.f0, .int .i64 p.f1]) (ok := fun _ => True) (okp := fun _ => True) ?hr ?hp (fun _ _ => trivial) trivial (Below.refl _ _) (Nat.le_refl _) (by simp) ?_; (case hd => rfl); (case hg => rfl); (case hr => first | (go_simp; done) | (go_simp; rfl)); (case hp => exact (Reps.c2 (show Kd.M k44 _ _ _ p [.int .i64 p.f0, .int .i64 p.f1] from k44_mkM _ _ _ _) (Reps.none _ _))); intro v45 w45 ho hb hg_ hat; obtain ⟨A45, c45, e45⟩ := Kd.R_slice ho; subst e45; replace S := Aside0.mk (S.out.own ho hb); clear ho hb hg_ hat) | ((with_reducible refine gate_builtin (b := .append) (xs := #[.tmp 40, .tmp 46]) rfl ?_); at_builtin; obtain ⟨ho, hup⟩ := S.out.hdr_append 1 rfl; refine print_append_cells (w0 := w) w.heap.size rfl (.tmp 40) (.tmp 46) 22 42 (.slice none 0 0) 1 24 rfl hu22 info42 rfl (by decide) (by omega) (.slice Av vs.length cv) vs.length vs [Value.slice A45 [p].length c45] rfl rfl rfl (by simp [Value.oneCell']) ho S.out.below S.out.size (by omega) ?_; intro v47 w47 hown hb hg hat; replace S := Aside0.mk (hup v47 w47 (vs ++ [Value.slice A45 [p].length c45]) (by rw [show (vs ++ [Value.slice A45 [p].length c45]).length = vs.length + 1 from (by rw [List.length_append]; rfl)]; exact hown) hb hg hat); clear ho hup hown hb hg hat; obtain ⟨A47, c47, e47⟩ := S.out.hdr_form 1 rfl; subst e47))
      go_roundg k1
      case measure => omega
      case rel =>
        have S2 := (sep_pull 2 S.out rfl).rows_take.swap
        rw [show (vs ++ [Value.slice A45 [p].length c45]).length = vs.length + 1 from (by rw [List.length_append]; rfl)] at S2
        refine ⟨i + 1, wrap64 (j + 1), vs ++ [.slice A45 [p].length c45], rfl, ⟨wrap_next j i J.out (by omega)⟩, ⟨by have := K.out; omega⟩, ⟨by omega⟩, ⟨by rw [List.length_append, List.length_singleton, VL.out]⟩, ⟨?_⟩⟩
        rw [List.take_succ_eq_append_getElem hi, List.map_append, List.map_singleton, ← HP0.out]
        exact S2
    · have dj := decide_eq_false (show ¬ j < (pts.length : Int) by rw [J.out]; omega)
      obtain rfl : i = pts.length := by have := IL.out; omega
      rw [List.take_length] at S
      obtain ⟨ps, hps⟩ : ∃ ps, pts.map (fun p => [p]) = ps := ⟨_, rfl⟩
      rw [hps] at S HP
      have k10_0 := blk_cell (S.out.at_box 3 rfl) 0; have k10_1 := blk_cell (S.out.at_box 3 rfl) 1; have k10_2 := blk_cell (S.out.at_box 3 rfl) 2; have k10_3 := blk_cell (S.out.at_box 3 rfl) 3; simp only [List.getElem?_toArray, List.getElem?_cons_zero, List.getElem?_cons_succ] at k10_0 k10_1 k10_2 k10_3
      by_cases hb : b.b = true
      · rw [hb] at k10_3
        have HP2 : Aside0 (decR 1 l = (ps, false)) := ⟨by rw [HP.out, hb]; rfl⟩
        go_upto_region 12 with (first | fail)
        go_quiet (fail)
        go_wp2
        go_ret2
        rw [HP2.out]
        exact ⟨_, rfl, (S.out.drewN _).joined, (S.out.drewN _).below⟩
      · have hb : b.b = false := by simpa using hb
        rw [hb] at k10_3
        by_cases hl0 : b.l.length = 0
        · have d0 : ((b.l.length : Int) == 0) = true := beq_iff_eq.2 (by omega)
          have HP2 : Aside0 (decR 1 l = (ps, true)) := ⟨by rw [HP.out, hb, decide_eq_true hl0]; rfl⟩
          go_upto_region 12 with (first | fail)
          go_quiet (fail)
          go_wp2
          go_ret2
          rw [HP2.out]
          exact ⟨_, rfl, (S.out.drewN _).joined, (S.out.drewN _).below⟩
        · have d0 : ((b.l.length : Int) == 0) = false := beq_eq_false_iff_ne.2 (by omega)
          have HP2 : Aside0 (decR 1 l = (ps, false)) := ⟨by rw [HP.out, hb, decide_eq_false hl0]; rfl⟩
          go_upto_region 12 with (first | fail)
          go_quiet (fail)
          go_wp2
          go_ret2
          rw [HP2.out]
          exact ⟨_, rfl, (S.out.drewN _).joined, (S.out.drewN _).below⟩
set_option maxHeartbeats 4000000 in
set_option maxRecDepth 100000 in
theorem rdecode_more (kd : Int) (l : List Int) (A : Option Addr) (c : Nat) (w : World) (h : Seen kI w (.slice A l.length c) l) (hl : l.length ≤ 1000000) (hk : kd ≠ 1) :
    Calls Tryd.prog 20 #[.int .i64 kd, .slice A l.length c] w fun e w' => ∃ u, e = .returned (.tuple #[u, .bool (decR kd l).2]) ∧ Kd.R kL 42 w' w.heap.size (fun _ => True) u (decR kd l).1 ∧ Below w.heap.size w w' := by
  have S := Aside0.mk (Sep.start w)
  have hu61 := Tryd.underlying61
  have hu44 := Tryd.underlying44
  have hu42 := Tryd.underlying42
  have hu22 := Tryd.underlying22
  have HR : Aside0 (Seen kI w (.slice A (r0 l).l.length c) (r0 l).l) := ⟨h⟩
  clear h
  have HK := Aside0.mk hk
  have dk : (kd == 1) = false := beq_eq_false_iff_ne.2 hk
  clear hk
  go_enter Tryd.func20, Tryd.ntmps20
  go_wp2_with (first | ((with_reducible refine gate_dst (N := 6) rfl ?_); refine box_event ?hg (N := 6) ?hd (cs := #[.slice none 0 0, .int .i64 0, .int .i64 0, .bool false]) (t := 61) ?hr ?_; (case hd => rfl); (case hg => rfl); (case hr => first | (go_simp; done) | (go_simp; rfl)); intro g6 hg w6 hbox hb; replace S := Aside0.mk (show Sep _ _ (Box _ g6 61 #[.slice A l.length c, .int .i64 0, .int .i64 0, .bool false] :: _) from ((((S.out.box hg hbox hb).set 0 rfl 0 (.slice A l.length c)).set 0 rfl 1 (.int .i64 0)).set 0 rfl 2 (.int .i64 0)).set 0 rfl 3 (.bool false)); have z6_0 := blk_cell hbox 0; have y6_0 := blk_frozen hbox 0; have z6_1 := blk_cell hbox 1; have y6_1 := blk_frozen hbox 1; have z6_2 := blk_cell hbox 2; have y6_2 := blk_frozen hbox 2; have z6_3 := blk_cell hbox 3; have y6_3 := blk_frozen hbox 3; simp only [List.getElem?_toArray, List.getElem?_cons_zero, List.getElem?_cons_succ] at z6_0 z6_1 z6_2 z6_3; clear hbox hb hg; have k6_0 := blk_cell (S.out.at_box 0 rfl) 0; have k6_1 := blk_cell (S.out.at_box 0 rfl) 1; have k6_2 := blk_cell (S.out.at_box 0 rfl) 2; have k6_3 := blk_cell (S.out.at_box 0 rfl) 3; simp only [List.getElem?_toArray, List.getElem?_cons_zero, List.getElem?_cons_succ] at k6_0 k6_1 k6_2 k6_3))
  clear k6_0 k6_1 k6_2 k6_3 z6_0 y6_0 z6_1 y6_1 z6_2 y6_2 z6_3 y6_3
  go_loopg [7] (l.length + 1) (fun kq v7 w' => ∃ (q : RS) (u : Value) (acc : List (List S44)) (vs : List Value), Aside0 (decLR (decide (kd = 3)) (l.length + 1) (r0 l) [] = decLR (decide (kd = 3)) kq q acc) ∧ Aside0 (q.l.length < kq) ∧ Aside0 (vs.length = acc.length) ∧ Aside0 (acc.length + q.l.length ≤ l.length) ∧ Aside0 (Seen kI w u q.l) ∧ Aside0 (Sep w w' [Hdr _ 42 v7 vs, SepW.Rows _ k44 44 vs acc, Box _ g6 61 #[u, .int .i64 q.x, .int .i64 q.y, .bool q.b]]))
  case atStart => exact ⟨r0 l, .slice A l.length c, [], [], ⟨rfl⟩, ⟨Nat.lt_succ_self _⟩, ⟨rfl⟩, ⟨by rw [List.length_nil, Nat.zero_add]; exact Nat.le_refl _⟩, HR, ⟨(S.out.rows_nil k44 44).hdr_nil 42⟩⟩
  case round =>
    clear S HR
    obtain ⟨q, u, acc, vs, DL, QL, VL, AL, Hq, S⟩ := hrel
    obtain ⟨Aq, cq, eq_, _, _⟩ := Hq.out
    subst eq_
    cases gk with
    | zero => exact absurd QL.out (Nat.not_lt_zero _)
    | succ k1 =>
    obtain ⟨Av, cv, ev⟩ := S.out.hdr_form 0 rfl
    subst ev
    have hvl : vs.length ≤ 1000000 := by rw [VL.out]; have := AL.out; omega
    have k6_0 := blk_cell (S.out.at_box 2 rfl) 0; have k6_1 := blk_cell (S.out.at_box 2 rfl) 1; have k6_2 := blk_cell (S.out.at_box 2 rfl) 2; have k6_3 := blk_cell (S.out.at_box 2 rfl) 3; simp only [List.getElem?_toArray, List.getElem?_cons_zero, List.getElem?_cons_succ] at k6_0 k6_1 k6_2 k6_3
    by_cases hq : q.l = [] ∨ q.b = true
    · have HP : Aside0 (decR kd l = (acc, !q.b)) := ⟨by unfold decR; rw [if_neg HK.out, DL.out, decLR, if_pos hq]⟩
      by_cases hl : q.l.length = 0
      · have d0 : decide ((0 : Int) < (q.l.length : Int)) = false := decide_eq_false (by omega)
        clear hq
        go_upto_region 17 with (first | fail)
        go_quiet (fail)
        go_wp2
        go_ret2
        rw [HP.out]
        exact ⟨_, rfl, (S.out.drewN _).joined, (S.out.drewN _).below⟩
      · have d0 : decide ((0 : Int) < (q.l.length : Int)) = true := decide_eq_true (by omega)
        have hb : q.b = true := hq.elim (fun h => absurd (by rw [h]; rfl) hl) id
        rw [hb] at k6_3 HP
        clear hq
        go_upto_region 17 with (first | fail)
        go_quiet (fail)
        go_wp2
        go_ret2
        rw [HP.out]
        exact ⟨_, rfl, (S.out.drewN _).joined, (S.out.drewN _).below⟩
    · have hl : q.l ≠ [] := fun h => hq (.inl h)
      have hln : 0 < q.l.length := List.length_pos_iff.2 hl
      have d0 : decide ((0 : Int) < (q.l.length : Int)) = true := decide_eq_true (by omega)
      have hb : q.b = false := by
        cases h : q.b with
        | true => exact absurd (.inr h) hq
        | false => rfl
      have HB := Aside0.mk hb
      rw [hb] at k6_3
      have hless := partR_len (decide (kd = 3)) q hl
      have hcnt := partR_cnt (decide (kd = 3)) q
      rcases e1 : partR (decide (kd = 3)) q with ⟨r, p⟩
      rw [e1] at hless hcnt
      dsimp only at hless hcnt
      have E1 := Aside0.mk e1
      have DL2 := Aside0.mk (DL.out.trans (by rw [decLR, if_neg hq, e1]))
      clear hq e1 hb hl
      go_upto_region 16 with (first | (go_at_call 27; have X_ := rpart_s kd (decide (kd = 3)) rfl q (.slice Aq q.l.length cq) w _ S.out.below Hq.out; rw [show RV (.slice Aq q.l.length cq) q = .agg #[.slice Aq q.l.length cq, .int .i64 q.x, .int .i64 q.y, .bool false] by rw [← HB.out], E1.out] at X_; (with_reducible refine X_.mono ?_); clear X_; rintro e_ w70 ⟨uq, v70, rfl, hs, ho, hb⟩; have Hr := Aside0.mk hs; obtain ⟨Ar, cr, eur, _, _⟩ := hs; subst eur; obtain ⟨A70, c70, e70⟩ := Kd.R_slice ho; subst e70; replace S := Aside0.mk (S.out.own ho hb); clear ho hb; clear k6_0 k6_1 k6_2 k6_3; have k6_0 := blk_cell (S.out.at_box 3 rfl) 0; have f6_0 := blk_frozen (S.out.at_box 3 rfl) 0; have k6_1 := blk_cell (S.out.at_box 3 rfl) 1; have f6_1 := blk_frozen (S.out.at_box 3 rfl) 1; have k6_2 := blk_cell (S.out.at_box 3 rfl) 2; have f6_2 := blk_frozen (S.out.at_box 3 rfl) 2; have k6_3 := blk_cell (S.out.at_box 3 rfl) 3; have f6_3 := blk_frozen (S.out.at_box 3 rfl) 3; simp only [List.getElem?_toArray, List.getElem?_cons_zero, List.getElem?_cons_succ] at k6_0 k6_1 k6_2 k6_3) | ((with_reducible refine gate_dst (N := 13) rfl ?_); refine box_event ?hg (N := 13) ?hd (cs := #[.slice none 0 0, .int .i64 0, .int .i64 0, .bool false]) (t := 61) ?hr ?_; (case hd => rfl); (case hg => rfl); (case hr => first | (go_simp; done) | (go_simp; rfl)); intro g13 hg w13 hbox hb; replace S := Aside0.mk (show Sep _ _ (Box _ g13 61 #[.slice Ar r.l.length cr, .int .i64 r.x, .int .i64 r.y, .bool r.b] :: _) from ((((S.out.box hg hbox hb).set 0 rfl 0 (.slice Ar r.l.length cr)).set 0 rfl 1 (.int .i64 r.x)).set 0 rfl 2 (.int .i64 r.y)).set 0 rfl 3 (.bool r.b)); have z13_0 := blk_cell hbox 0; have y13_0 := blk_frozen hbox 0; have z13_1 := blk_cell hbox 1; have y13_1 := blk_frozen hbox 1; have z13_2 := blk_cell hbox 2; have y13_2 := blk_frozen hbox 2; have z13_3 := blk_cell hbox 3; have y13_3 := blk_frozen hbox 3; simp only [List.getElem?_toArray, List.getElem?_cons_zero, List.getElem?_cons_succ] at z13_0 z13_1 z13_2 z13_3; clear hbox hb hg k6_0 k6_1 k6_2 k6_3 f6_0 f6_1 f6_2 f6_3; have k13_0 := blk_cell (S.out.at_box 0 rfl) 0; have k13_1 := blk_cell (S.out.at_box 0 rfl) 1; have k13_2 := blk_cell (S.out.at_box 0 rfl) 2; have k13_3 := blk_cell (S.out.at_box 0 rfl) 3; simp only [List.getElem?_toArray, List.getElem?_cons_zero, List.getElem?_cons_succ] at k13_0 k13_1 k13_2 k13_3; have k6_0 := blk_cell (S.out.at_box 4 rfl) 0; have f6_0 := blk_frozen (S.out.at_box 4 rfl) 0; have k6_1 := blk_cell (S.out.at_box 4 rfl) 1; have f6_1 := blk_frozen (S.out.at_box 4 rfl) 1; have k6_2 := blk_cell (S.out.at_box 4 rfl) 2; have f6_2 := blk_frozen (S.out.at_box 4 rfl) 2; have k6_3 := blk_cell (S.out.at_box 4 rfl) 3; have f6_3 := blk_frozen (S.out.at_box 4 rfl) 3; simp only [List.getElem?_toArray, List.getElem?_cons_zero, List.getElem?_cons_succ] at k6_0 k6_1 k6_2 k6_3))
      replace S := Aside0.mk (show Sep w _ [Box _ g13 61 #[.slice Ar r.l.length cr, .int .i64 r.x, .int .i64 r.y, .bool r.b], Own _ k44 44 (.slice A70 p.length c70) p, Hdr _ 42 (.slice Av vs.length cv) vs, SepW.Rows _ k44 44 vs acc, Box _ g6 61 #[.slice Ar r.l.length cr, .int .i64 r.x, .int .i64 r.y, .bool r.b]] from ((((S.out.set 4 rfl 0 (.slice Ar r.l.length cr)).set 4 rfl 1 (.int .i64 r.x)).set 4 rfl 2 (.int .i64 r.y)).set 4 rfl 3 (.bool r.b)))
      clear k6_0 k6_1 k6_2 k6_3 f6_0 f6_1 f6_2 f6_3 k13_0 k13_1 k13_2 k13_3 z13_0 y13_0 z13_1 y13_1 z13_2 y13_2 z13_3 y13_3
      refine wp_gen S (fun W S => ?_)
      go_wp2_with (first | ((with_reducible refine gate_builtin (b := .append) (xs := #[.tmp 74, .tmp 76]) rfl ?_); at_builtin; obtain ⟨ho, hup⟩ := S.out.hdr_append 2 rfl; refine print_append_cells (w0 := w) w.heap.size rfl (.tmp 74) (.tmp 76) 22 42 (.slice none 0 0) 1 24 rfl hu22 info42 rfl (by decide) (by omega) (.slice Av vs.length cv) vs.length vs [Value.slice A70 p.length c70] rfl rfl rfl (by simp [Value.oneCell']) ho S.out.below S.out.size (by omega) ?_; intro v77 w77 hown hb hg hat; replace S := Aside0.mk (hup v77 w77 (vs ++ [Value.slice A70 p.length c70]) (by rw [show (vs ++ [Value.slice A70 p.length c70]).length = vs.length + 1 from (by rw [List.length_append]; rfl)]; exact hown) hb hg hat); clear ho hup hown hb hg hat; obtain ⟨A77, c77, e77⟩ := S.out.hdr_form 2 rfl; subst e77))
      go_roundg k1
      case measure => omega
      case rel =>
        have S2 := (sep_pull 2 (S.out.drop 0) rfl).rows_take.swap
        rw [show (vs ++ [Value.slice A70 p.length c70]).length = vs.length + 1 from (by rw [List.length_append]; rfl)] at S2
        refine ⟨r, .slice Ar r.l.length cr, acc ++ [p], vs ++ [.slice A70 p.length c70], DL2, ⟨by have := QL.out; omega⟩, ⟨by rw [List.length_append, List.length_singleton, VL.out, List.length_append, List.length_singleton]⟩, ⟨by have := AL.out; rw [List.length_append, List.length_singleton]; omega⟩, Hr, ⟨S2⟩⟩
theorem rdecode_s (kd : Int) (l : List Int) (v : Value) (w : World) (h : Seen kI w v l) (hl : l.length ≤ 1000000) :
    Calls Tryd.prog 20 #[.int .i64 kd, v] w fun e w' => ∃ u, e = .returned (.tuple #[u, .bool (decR kd l).2]) ∧ Kd.R kL 42 w' w.heap.size (fun _ => True) u (decR kd l).1 ∧ Below w.heap.size w w' := by
  obtain ⟨A, c, rfl, h2, h3⟩ := h
  have hs : Seen kI w (.slice A l.length c) l := ⟨A, c, rfl, h2, h3⟩
  by_cases hk : kd = 1
  · subst hk
    by_cases h8 : (nextR (r0 l)).2 % 8 = 1
    · exact rdecode_pts l A c w hs hl h8
    · exact rdecode_odd l A c w hs hl h8
  · exact rdecode_more kd l A c w hs hl hk
end Go.Proofs.YtopapknfpoandaaDoor.Hand
