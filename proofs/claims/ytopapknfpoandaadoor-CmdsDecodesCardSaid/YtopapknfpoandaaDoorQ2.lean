import Derived.Test.YtopapknfpoandaaDoorQ1
namespace Go.Proofs.YtopapknfpoandaaDoor.Hand
open Go.Proofs.YtopapknfpoandaaDoorW Go.RowKit Go.Proofs.YtopapknfpoandaaDoorW.PrintWords Go.Proofs.YtopapknfpoandaaDoorW.PrintLast Go.Proofs.YtopapknfpoandaaDoorW.PrintMore Go.Proofs.YtopapknfpoandaaDoorW.SepW Go.Proofs.YtopapknfpoandaaDoor.PALL
set_option linter.unusedVariables false
set_option linter.unusedSimpArgs false
def unz (n : Int) : Int := if (Int.tmod n 2) = 1 then wrap64 (Int.tdiv (wrap64 (-(wrap64 (n + 1)))) 2) else wrap64 (Int.tdiv n 2)
theorem unz_s (n : Int) (w : World) : Calls Tryd.prog 28 #[.int .i64 n] w fun e w' => e = .returned (.int .i64 (unz n)) ∧ Below w.heap.size w w' :=
  (mapmakerref30_unzigzag.calls n (unz n) w (by unfold mapmakerref30_unzigzag.f unz; split <;> rfl)).mono fun e w' h => ⟨h.1, h.2.below⟩
/-- One point, by the reference. -/
def pointR (r : RS) : RS := { (nextR (nextR r).1).1 with x := wrap64 ((nextR r).1.x + unz (nextR r).2), y := wrap64 ((nextR r).1.y + unz (nextR (nextR r).1).2) }
def ptsR : Nat → RS → List S44 × RS
  | 0, r => ([], r)
  | m + 1, r => if r.b = true then ([], r) else (⟨(pointR r).x, (pointR r).y⟩ :: (ptsR m (pointR r)).1, (ptsR m (pointR r)).2)
theorem results_row_tmp2 {P : Program} {fn : Func} {p u : Tmp} {ty : TypeId} (h : fn.results = #[.cell p ty, .tmp u]) (tmps : Array Value) (w : World) (g : Nat) (t : TypeId) (cs : Array Value) (fr : Nat × Nat) (d : TypeDesc)
    (hp : tmps.getD p undef = .pointer (some ⟨g, 0, none⟩)) (hg : w.heap[g]? = some (.cells cs t fr))
    (hu : P.underlying ty = some d) (hd : (match d with | .struct _ | .array _ _ => true | _ => false) = true) (hi : (P.info? ty).map (·.size) = some cs.size) :
    (results fn tmps).run P w = .ok (.tuple #[.agg cs, tmps.getD u undef]) w := results_row_tmp h tmps w g t cs fr d hp hg hu hd hi
theorem wp_gen {P : Program} {c : Code} {Q : Exit → Act → World → Prop} {a : Act} {w0 w : World} {L : List (Thing w0.heap.size)} (S : Aside0 (Sep w0 w L)) (h : ∀ W, Aside0 (Sep w0 W L) → c.wp P Q a W) : c.wp P Q a w := h w S
theorem ex_gen {K : Exit → Act → World → Prop} {e : Exit} {a : Act} {w0 w : World} {L : List (Thing w0.heap.size)} (S : Aside0 (Sep w0 w L)) (h : ∀ W, Aside0 (Sep w0 W L) → K e a W) : K e a w := h w S
set_option maxHeartbeats 4000000 in
set_option maxRecDepth 100000 in
theorem rpoints_s (m : Nat) (hm : m ≤ 100000) (r : RS) (v : Value) (wb w : World) (hbw : Below wb.heap.size wb w) (h : Seen kI wb v r.l) :
    Calls Tryd.prog 26 #[RV v r, .int .i64 m] w fun e w' => ∃ u u2, e = .returned (.tuple #[RV u (ptsR m r).2, u2]) ∧ Seen kI wb u (ptsR m r).2.l ∧ Kd.R k44 44 w' w.heap.size (fun _ => True) u2 (ptsR m r).1 ∧ Below w.heap.size w w' := by
  have S := Aside0.mk (Sep.start w)
  have hu61 := Tryd.underlying61
  have hu44 := Tryd.underlying44
  have hu42 := Tryd.underlying42
  have HU := Aside0.mk h
  have HW := Aside0.mk hbw
  obtain ⟨Av, cv, ev, _, _⟩ := h
  subst ev
  clear hbw
  go_enter Tryd.func26, Tryd.ntmps26
  go_wp2_with (first | ((with_reducible refine gate_dst (N := 2) rfl ?_); refine box_event ?hg (N := 2) ?hd (cs := #[.slice Av r.l.length cv, .int .i64 r.x, .int .i64 r.y, .bool r.b]) (t := 61) ?hr ?_; (case hd => rfl); (case hg => rfl); (case hr => first | (go_simp; done) | (go_simp; rfl)); intro g2 hg w2 hbox hb; replace S := Aside0.mk (S.out.box hg hbox hb); have k2_0 := blk_cell hbox 0; have k2_1 := blk_cell hbox 1; have k2_2 := blk_cell hbox 2; have k2_3 := blk_cell hbox 3; simp only [List.getElem?_toArray, List.getElem?_cons_zero, List.getElem?_cons_succ] at k2_0 k2_1 k2_2 k2_3; clear hbox hb hg) | ((with_reducible refine gate_dst (N := 4) rfl ?_); refine box_event ?hg (N := 4) ?hd (cs := #[.slice none 0 0, .int .i64 0, .int .i64 0, .bool false]) (t := 61) ?hr ?_; (case hd => rfl); (case hg => rfl); (case hr => first | (go_simp; done) | (go_simp; rfl)); intro g4 hg w4 hbox hb; replace S := Aside0.mk (S.out.box hg hbox hb); have k4_0 := blk_cell hbox 0; have k4_1 := blk_cell hbox 1; have k4_2 := blk_cell hbox 2; have k4_3 := blk_cell hbox 3; simp only [List.getElem?_toArray, List.getElem?_cons_zero, List.getElem?_cons_succ] at k4_0 k4_1 k4_2 k4_3; clear hbox hb hg))
  go_loopg [6, 7] (m + 1) (fun kq v6 v7 w' => ∃ (i : Nat) (acc : List S44) (q : RS) (u : Value), v7 = .int .i64 i ∧ Aside0 (kq + i = m + 1) ∧ Aside0 (acc.length = i) ∧ Aside0 (i ≤ m) ∧ Aside0 (acc ++ (ptsR (m - i) q).1 = (ptsR m r).1 ∧ (ptsR (m - i) q).2 = (ptsR m r).2) ∧ Aside0 (Seen kI wb u q.l) ∧ Aside0 (Sep w w' [Own _ k44 44 v6 acc, Box _ g4 61 #[.slice none 0 0, .int .i64 0, .int .i64 0, .bool false], Box _ g2 61 #[u, .int .i64 q.x, .int .i64 q.y, .bool q.b]]))
  case atStart => exact ⟨0, [], r, .slice Av r.l.length cv, rfl, ⟨rfl⟩, ⟨rfl⟩, ⟨Nat.zero_le _⟩, ⟨rfl, rfl⟩, HU, ⟨S.out.nil k44 44⟩⟩
  case round =>
    clear S HU
    obtain ⟨i, acc, q, u, rfl, K, AL, IM, PT, HU, S⟩ := hrel
    obtain ⟨Au, cu, eu, _, _⟩ := HU.out
    subst eu
    cases gk with
    | zero => exact absurd K.out (by have := IM.out; omega)
    | succ k1 =>
    have k2_0 := blk_cell (S.out.at_box 2 rfl) 0
    have f2_0 := blk_frozen (S.out.at_box 2 rfl) 0
    have k2_1 := blk_cell (S.out.at_box 2 rfl) 1
    have f2_1 := blk_frozen (S.out.at_box 2 rfl) 1
    have k2_2 := blk_cell (S.out.at_box 2 rfl) 2
    have f2_2 := blk_frozen (S.out.at_box 2 rfl) 2
    have k2_3 := blk_cell (S.out.at_box 2 rfl) 3
    have f2_3 := blk_frozen (S.out.at_box 2 rfl) 3
    simp only [List.getElem?_toArray, List.getElem?_cons_zero, List.getElem?_cons_succ] at k2_0 k2_1 k2_2 k2_3
    by_cases hi : i < m
    · have d := decide_eq_true (show (i : Int) < (m : Int) by omega)
      by_cases hb : q.b = true
      · have hp := PT.out
        obtain ⟨j, hj⟩ : ∃ j, m - i = j + 1 := ⟨m - i - 1, by omega⟩
        rw [hj, ptsR, if_pos hb, List.append_nil] at hp
        have HP := Aside0.mk hp
        rw [hb] at k2_3
        clear hp hj PT
        have k4_0 := blk_cell (S.out.at_box 1 rfl) 0; have k4_1 := blk_cell (S.out.at_box 1 rfl) 1; have k4_2 := blk_cell (S.out.at_box 1 rfl) 2; have k4_3 := blk_cell (S.out.at_box 1 rfl) 3; simp only [List.getElem?_toArray, List.getElem?_cons_zero, List.getElem?_cons_succ] at k4_0 k4_1 k4_2 k4_3
        have f4_0 := blk_frozen (S.out.at_box 1 rfl) 0
        have f4_1 := blk_frozen (S.out.at_box 1 rfl) 1
        have f4_2 := blk_frozen (S.out.at_box 1 rfl) 2
        have f4_3 := blk_frozen (S.out.at_box 1 rfl) 3
        have hne : g2 ≠ g4 := S.out.box_ne 2 1 rfl rfl (by decide)
        have hne2 : g4 ≠ g2 := S.out.box_ne 1 2 rfl rfl (by decide)
        go_wp2
        replace S := Aside0.mk (show Sep w _ (Own _ k44 44 u6 acc :: Box _ g4 61 #[.slice Au q.l.length cu, .int .i64 q.x, .int .i64 q.y, .bool true] :: _) from (((S.out.set 1 rfl 0 (.slice Au q.l.length cu)).set 1 rfl 1 (.int .i64 q.x)).set 1 rfl 2 (.int .i64 q.y)).set 1 rfl 3 (.bool true))
        (try simp only [Exit.inBlock, Exit.then]); refine bodyPost_ret (results_row_tmp rfl _ _ g4 61 #[.slice Au q.l.length cu, .int .i64 q.x, .int .i64 q.y, .bool true] (0, 0) _ rfl (by exact S.out.at_box 1 rfl) (by exact hu61) rfl (by exact size61)) rfl ?_
        rw [← HP.out.1, ← HP.out.2]
        refine ⟨.slice Au q.l.length cu, u6, ?_, HU.out, S.out.at_own 0 rfl, S.out.below⟩
        rw [show RV (.slice Au q.l.length cu) q = .agg #[.slice Au q.l.length cu, .int .i64 q.x, .int .i64 q.y, .bool true] by rw [← hb]]
        rfl
      · have hb : q.b = false := by simpa using hb
        rw [hb] at k2_3
        obtain ⟨j, hj⟩ : ∃ j, m - i = j + 1 := ⟨m - i - 1, by omega⟩
        have hp := PT.out
        rw [hj, ptsR, if_neg (by simp [hb])] at hp
        dsimp only at hp
        rcases e1 : nextR q with ⟨a, z1⟩
        rcases e2 : nextR a with ⟨b, z2⟩
        have e3 : pointR q = { b with x := wrap64 (a.x + unz z1), y := wrap64 (a.y + unz z2) } := by unfold pointR; rw [e1]; dsimp only; rw [e2]
        rw [e3] at hp
        have HP := Aside0.mk hp
        have HE1 := Aside0.mk e1
        have HE2 := Aside0.mk e2
        have HJ := Aside0.mk hj
        have HB := Aside0.mk hb
        clear hp e1 e2 e3 hj PT hb
        go_upto_region 8 with (first | (go_at_call 25; have X_ := rnext_s q (.slice Au q.l.length cu) wb _ (below_step HW.out S.out.below) HU.out; rw [show RV (.slice Au q.l.length cu) q = .agg #[.slice Au q.l.length cu, .int .i64 q.x, .int .i64 q.y, .bool false] by rw [← HB.out], HE1.out] at X_; (with_reducible refine X_.mono ?_); clear X_; rintro e_ w24 ⟨u1, rfl, hs, hb⟩; have HU1 := Aside0.mk hs; obtain ⟨Au1, cu1, eu1, _, _⟩ := hs; subst eu1; replace S := Aside0.mk (S.out.step hb); clear hb; clear k2_0 k2_1 k2_2 k2_3) | ((with_reducible refine gate_dst (N := 8) rfl ?_); refine box_event ?hg (N := 8) ?hd (cs := #[.slice none 0 0, .int .i64 0, .int .i64 0, .bool false]) (t := 61) ?hr ?_; (case hd => rfl); (case hg => rfl); (case hr => first | (go_simp; done) | (go_simp; rfl)); intro g8 hg w8 hbox hb; replace S := Aside0.mk (show Sep _ _ (Box _ g8 61 #[.slice Au1 a.l.length cu1, .int .i64 a.x, .int .i64 a.y, .bool a.b] :: _) from ((((S.out.box hg hbox hb).set 0 rfl 0 (.slice Au1 a.l.length cu1)).set 0 rfl 1 (.int .i64 a.x)).set 0 rfl 2 (.int .i64 a.y)).set 0 rfl 3 (.bool a.b)); have z8_0 := blk_cell hbox 0; have y8_0 := blk_frozen hbox 0; have z8_1 := blk_cell hbox 1; have y8_1 := blk_frozen hbox 1; have z8_2 := blk_cell hbox 2; have y8_2 := blk_frozen hbox 2; have z8_3 := blk_cell hbox 3; have y8_3 := blk_frozen hbox 3; simp only [List.getElem?_toArray, List.getElem?_cons_zero, List.getElem?_cons_succ] at z8_0 z8_1 z8_2 z8_3; clear hbox hb hg; have k8_0 := blk_cell (S.out.at_box 0 rfl) 0; have k8_1 := blk_cell (S.out.at_box 0 rfl) 1; have k8_2 := blk_cell (S.out.at_box 0 rfl) 2; have k8_3 := blk_cell (S.out.at_box 0 rfl) 3; simp only [List.getElem?_toArray, List.getElem?_cons_zero, List.getElem?_cons_succ] at k8_0 k8_1 k8_2 k8_3) | (go_at_call 25; have X_ := rnext_s a (.slice Au1 a.l.length cu1) wb _ (below_step HW.out S.out.below) HU1.out; rw [HE2.out] at X_; (with_reducible refine X_.mono ?_); clear X_; rintro e_ w29 ⟨u2, rfl, hs, hb⟩; have HU2 := Aside0.mk hs; obtain ⟨Au2, cu2, eu2, _, _⟩ := hs; subst eu2; replace S := Aside0.mk (S.out.step hb); clear hb; clear k8_0 k8_1 k8_2 k8_3 z8_0 y8_0 z8_1 y8_1 z8_2 y8_2 z8_3 y8_3; have k2_0 := blk_cell (S.out.at_box 3 rfl) 0; have f2_0 := blk_frozen (S.out.at_box 3 rfl) 0; have k2_1 := blk_cell (S.out.at_box 3 rfl) 1; have f2_1 := blk_frozen (S.out.at_box 3 rfl) 1; have k2_2 := blk_cell (S.out.at_box 3 rfl) 2; have f2_2 := blk_frozen (S.out.at_box 3 rfl) 2; have k2_3 := blk_cell (S.out.at_box 3 rfl) 3; have f2_3 := blk_frozen (S.out.at_box 3 rfl) 3; simp only [List.getElem?_toArray, List.getElem?_cons_zero, List.getElem?_cons_succ] at k2_0 k2_1 k2_2 k2_3) | ((with_reducible refine gate_dst (N := 10) rfl ?_); refine box_event ?hg (N := 10) ?hd (cs := #[.slice none 0 0, .int .i64 0, .int .i64 0, .bool false]) (t := 61) ?hr ?_; (case hd => rfl); (case hg => rfl); (case hr => first | (go_simp; done) | (go_simp; rfl)); intro g10 hg w10 hbox hb; replace S := Aside0.mk (show Sep _ _ (Box _ g10 61 #[.slice Au2 b.l.length cu2, .int .i64 b.x, .int .i64 b.y, .bool b.b] :: _) from ((((S.out.box hg hbox hb).set 0 rfl 0 (.slice Au2 b.l.length cu2)).set 0 rfl 1 (.int .i64 b.x)).set 0 rfl 2 (.int .i64 b.y)).set 0 rfl 3 (.bool b.b)); have z10_0 := blk_cell hbox 0; have y10_0 := blk_frozen hbox 0; have z10_1 := blk_cell hbox 1; have y10_1 := blk_frozen hbox 1; have z10_2 := blk_cell hbox 2; have y10_2 := blk_frozen hbox 2; have z10_3 := blk_cell hbox 3; have y10_3 := blk_frozen hbox 3; simp only [List.getElem?_toArray, List.getElem?_cons_zero, List.getElem?_cons_succ] at z10_0 z10_1 z10_2 z10_3; clear hbox hb hg k2_0 k2_1 k2_2 k2_3 f2_0 f2_1 f2_2 f2_3; have k10_0 := blk_cell (S.out.at_box 0 rfl) 0; have k10_1 := blk_cell (S.out.at_box 0 rfl) 1; have k10_2 := blk_cell (S.out.at_box 0 rfl) 2; have k10_3 := blk_cell (S.out.at_box 0 rfl) 3; have k2_0 := blk_cell (S.out.at_box 4 rfl) 0; have f2_0 := blk_frozen (S.out.at_box 4 rfl) 0; have k2_1 := blk_cell (S.out.at_box 4 rfl) 1; have f2_1 := blk_frozen (S.out.at_box 4 rfl) 1; have k2_2 := blk_cell (S.out.at_box 4 rfl) 2; have f2_2 := blk_frozen (S.out.at_box 4 rfl) 2; have k2_3 := blk_cell (S.out.at_box 4 rfl) 3; have f2_3 := blk_frozen (S.out.at_box 4 rfl) 3; simp only [List.getElem?_toArray, List.getElem?_cons_zero, List.getElem?_cons_succ] at k10_0 k10_1 k10_2 k10_3 k2_0 k2_1 k2_2 k2_3))
        replace S := Aside0.mk (show Sep w _ [Box _ g10 61 #[.slice Au2 b.l.length cu2, .int .i64 b.x, .int .i64 b.y, .bool b.b], Box _ g8 61 #[.slice Au1 a.l.length cu1, .int .i64 a.x, .int .i64 a.y, .bool a.b], Own _ k44 44 u6 acc, Box _ g4 61 #[.slice none 0 0, .int .i64 0, .int .i64 0, .bool false], Box _ g2 61 #[.slice Au2 b.l.length cu2, .int .i64 b.x, .int .i64 b.y, .bool b.b]] from ((((S.out.set 4 rfl 0 (.slice Au2 b.l.length cu2)).set 4 rfl 1 (.int .i64 b.x)).set 4 rfl 2 (.int .i64 b.y)).set 4 rfl 3 (.bool b.b)))
        clear k10_0 k10_1 k10_2 k10_3 z10_0 y10_0 z10_1 y10_1 z10_2 y10_2 z10_3 y10_3 k2_0 k2_1 k2_2 k2_3 f2_0 f2_1 f2_2 f2_3
        refine wp_gen S (fun W S => ?_)
        have k8_1 := blk_cell (S.out.at_box 1 rfl) 1
        have k8_2 := blk_cell (S.out.at_box 1 rfl) 2
        have k2_1 := blk_cell (S.out.at_box 4 rfl) 1
        have f2_1 := blk_frozen (S.out.at_box 4 rfl) 1
        have k2_2 := blk_cell (S.out.at_box 4 rfl) 2
        have f2_2 := blk_frozen (S.out.at_box 4 rfl) 2
        simp only [List.getElem?_toArray, List.getElem?_cons_zero, List.getElem?_cons_succ] at k8_1 k8_2 k2_1 k2_2
        have hne1 : g2 ≠ g8 := S.out.box_ne 4 1 rfl rfl (by decide)
        have hne2 : g8 ≠ g2 := S.out.box_ne 1 4 rfl rfl (by decide)
        go_region_held3 (fun w' => w'.cell? ⟨g8, 1, none⟩ = some (.int .i64 a.x) ∧ w'.cell? ⟨g8, 2, none⟩ = some (.int .i64 a.y)) (first | assumption | go_keep) (first | (go_at_call 28; have X_ := unz_s z1 W.drew; (with_reducible refine X_.mono ?_); clear X_; rintro e_ w37 ⟨rfl, hb⟩; replace S := Aside0.mk (S.out.drew.step hb); clear hb; clear k8_1 k8_2 k2_1 k2_2 f2_1 f2_2; have k8_1 := blk_cell (S.out.at_box 1 rfl) 1; have k8_2 := blk_cell (S.out.at_box 1 rfl) 2; have k2_1 := blk_cell (S.out.at_box 4 rfl) 1; have f2_1 := blk_frozen (S.out.at_box 4 rfl) 1; have k2_2 := blk_cell (S.out.at_box 4 rfl) 2; have f2_2 := blk_frozen (S.out.at_box 4 rfl) 2; simp only [List.getElem?_toArray, List.getElem?_cons_zero, List.getElem?_cons_succ] at k8_1 k8_2 k2_1 k2_2; have hS37 : w37.cell? ⟨g8, 1, none⟩ = some (.int .i64 a.x) ∧ w37.cell? ⟨g8, 2, none⟩ = some (.int .i64 a.y) := ⟨k8_1, k8_2⟩) | (go_at_call 28; have X_ := unz_s z2 w37; (with_reducible refine X_.mono ?_); clear X_; rintro e_ w43 ⟨rfl, hb⟩; replace S := Aside0.mk (S.out.step hb); clear hb; clear k8_1 k8_2 k2_1 k2_2 f2_1 f2_2 hS37; have k8_1 := blk_cell (S.out.at_box 1 rfl) 1; have k8_2 := blk_cell (S.out.at_box 1 rfl) 2; have k2_1 := blk_cell (S.out.at_box 4 rfl) 1; have f2_1 := blk_frozen (S.out.at_box 4 rfl) 1; have k2_2 := blk_cell (S.out.at_box 4 rfl) 2; have f2_2 := blk_frozen (S.out.at_box 4 rfl) 2; simp only [List.getElem?_toArray, List.getElem?_cons_zero, List.getElem?_cons_succ] at k8_1 k8_2 k2_1 k2_2; have hS43 : w43.cell? ⟨g8, 1, none⟩ = some (.int .i64 a.x) ∧ w43.cell? ⟨g8, 2, none⟩ = some (.int .i64 a.y) := ⟨k8_1, k8_2⟩))
        replace S := Aside0.mk (show Sep w _ [Box _ g10 61 #[.slice Au2 b.l.length cu2, .int .i64 b.x, .int .i64 b.y, .bool b.b], Box _ g8 61 #[.slice Au1 a.l.length cu1, .int .i64 a.x, .int .i64 a.y, .bool a.b], Own _ k44 44 u6 acc, Box _ g4 61 #[.slice none 0 0, .int .i64 0, .int .i64 0, .bool false], Box _ g2 61 #[.slice Au2 b.l.length cu2, .int .i64 (wrap64 (a.x + unz z1)), .int .i64 (wrap64 (a.y + unz z2)), .bool b.b]] from ((S.out.set 4 rfl 1 (.int .i64 (wrap64 (a.x + unz z1)))).set 4 rfl 2 (.int .i64 (wrap64 (a.y + unz z2)))))
        simp only [i64_w]
        refine ex_gen S (fun W9 S => ?_)
        clear k8_1 k8_2 k2_1 k2_2 f2_1 f2_2
        have k2_1 := blk_cell (S.out.at_box 4 rfl) 1
        have f2_1 := blk_frozen (S.out.at_box 4 rfl) 1
        have k2_2 := blk_cell (S.out.at_box 4 rfl) 2
        have f2_2 := blk_frozen (S.out.at_box 4 rfl) 2
        simp only [List.getElem?_toArray, List.getElem?_cons_zero, List.getElem?_cons_succ] at k2_1 k2_2
        go_wp2_with (first | ((with_reducible refine gate_builtin (b := .append) (xs := #[.tmp 47, .tmp 50]) rfl ?_); at_builtin; obtain ⟨ok, hR, hnew, hup⟩ := S.out.append 2 rfl; refine Kd.R_append k44 (w0 := w) w.heap.size rfl (.tmp 47) (.tmp 50) 42 44 (.agg #[(.int .i64 0), (.int .i64 0)]) 16 rfl Tryd.underlying42 info44 rfl (by decide) (by omega) u6 acc ⟨wrap64 (a.x + unz z1), wrap64 (a.y + unz z2)⟩ [.int .i64 (wrap64 (a.x + unz z1)), .int .i64 (wrap64 (a.y + unz z2))] ok (fun _ => False) rfl rfl (k44_mkM _ _ _ _) (fun _ h => h.elim) hnew hR S.out.below S.out.size (by have := AL.out; omega) ?_; intro v51 w51 ho hb hg hat; replace S := Aside0.mk (hup _ w51 _ ho hb hg); clear hup hR hnew ho hb hg hat))
        go_roundg k1
        case measure => omega
        case rel =>
          refine ⟨i + 1, acc ++ [(⟨wrap64 (a.x + unz z1), wrap64 (a.y + unz z2)⟩ : S44)], { b with x := wrap64 (a.x + unz z1), y := wrap64 (a.y + unz z2) }, .slice Au2 b.l.length cu2, rfl, ⟨by have := K.out; omega⟩, ⟨by rw [List.length_append, AL.out]; rfl⟩, ⟨by omega⟩, ⟨?_⟩, HU2, ⟨(S.out.drop 0).drop 0⟩⟩
          have e : m - (i + 1) = j := by have := HJ.out; omega
          rw [e, List.append_assoc]
          exact HP.out
    · have d := decide_eq_false (show ¬ (i : Int) < (m : Int) by omega)
      have hp := PT.out
      rw [show m - i = 0 by omega, ptsR, List.append_nil] at hp
      have HP := Aside0.mk hp
      clear hp PT
      have k4_0 := blk_cell (S.out.at_box 1 rfl) 0; have k4_1 := blk_cell (S.out.at_box 1 rfl) 1; have k4_2 := blk_cell (S.out.at_box 1 rfl) 2; have k4_3 := blk_cell (S.out.at_box 1 rfl) 3; simp only [List.getElem?_toArray, List.getElem?_cons_zero, List.getElem?_cons_succ] at k4_0 k4_1 k4_2 k4_3
      have f4_0 := blk_frozen (S.out.at_box 1 rfl) 0
      have f4_1 := blk_frozen (S.out.at_box 1 rfl) 1
      have f4_2 := blk_frozen (S.out.at_box 1 rfl) 2
      have f4_3 := blk_frozen (S.out.at_box 1 rfl) 3
      have hne : g2 ≠ g4 := S.out.box_ne 2 1 rfl rfl (by decide)
      have hne2 : g4 ≠ g2 := S.out.box_ne 1 2 rfl rfl (by decide)
      go_wp2
      replace S := Aside0.mk (show Sep w _ (Own _ k44 44 u6 acc :: Box _ g4 61 #[.slice Au q.l.length cu, .int .i64 q.x, .int .i64 q.y, .bool q.b] :: _) from (((S.out.set 1 rfl 0 (.slice Au q.l.length cu)).set 1 rfl 1 (.int .i64 q.x)).set 1 rfl 2 (.int .i64 q.y)).set 1 rfl 3 (.bool q.b))
      (try simp only [Exit.inBlock, Exit.then]); refine bodyPost_ret (results_row_tmp rfl _ _ g4 61 #[.slice Au q.l.length cu, .int .i64 q.x, .int .i64 q.y, .bool q.b] (0, 0) _ rfl (by exact S.out.at_box 1 rfl) (by exact hu61) rfl (by exact size61)) rfl ?_
      rw [← HP.out.1, ← HP.out.2]
      exact ⟨_, _, rfl, HU.out, S.out.at_own 0 rfl, S.out.below⟩
end Go.Proofs.YtopapknfpoandaaDoor.Hand
