import Derived.Test.YtdkegdnfbpobnaaF2
namespace Go.Proofs.Ytdkegdnfbpobnaa.Hand
open Go.Proofs.YtdkegdnfbpobnaaW Go.RowKit Go.Proofs.YtdkegdnfbpobnaaW.PrintWords Go.Proofs.YtdkegdnfbpobnaaW.PrintLast Go.Proofs.YtdkegdnfbpobnaaW.PrintMore Go.Proofs.YtdkegdnfbpobnaaW.SepW Go.Proofs.Ytdkegdnfbpobnaa.PARS Go.Proofs.Ytdkegdnfbpobnaa.Pl
set_option linter.unusedVariables false
set_option linter.unusedSimpArgs false
instance : DecidableEq S25 := fun a b => decidable_of_iff (a.f0 = b.f0 ∧ a.f1 = b.f1) ⟨fun h => by cases a; cases b; simp_all, fun h => by subst h; exact ⟨rfl, rfl⟩⟩
theorem qline_s (z x y : Int) (l : List S25) (v : Value) (w : World) (h : Seen k25 w v l) (hl : l.length ≤ 1000) :
    Calls Try.prog 14 #[.agg #[.int .i64 z, .int .i64 x, .int .i64 y], v] w fun e w' => ∃ u, e = .returned u ∧ Kd.R kL 30 w' w.heap.size (fun _ => True) u (lineQ z x y l) ∧ Below w.heap.size w w' := by
  obtain ⟨A, c, rfl, h2, h3⟩ := h
  obtain ⟨k, hk⟩ := ev_rounds (lineQ_ev z x y l hl)
  exact (quant_Line.calls k z x y A c l _ w h3 h2 hk).mono fun e w' ⟨u, h1, h4, h5⟩ => ⟨u, h1, Kd.S_R h4, h5⟩
theorem results_pt_tmp {P : Program} {fn : Func} {p u : Tmp} {ty : TypeId} (h : fn.results = #[.cell p ty, .tmp u]) (tmps : Array Value) (w : World) (g : Nat) (t : TypeId) (cs : Array Value) (fr : Nat × Nat) (d : TypeDesc)
    (hp : tmps.getD p undef = .pointer (some ⟨g, 0, none⟩)) (hg : w.heap[g]? = some (.cells cs t fr))
    (hu : P.underlying ty = some d) (hd : (match d with | .struct _ | .array _ _ => true | _ => false) = true) (hi : (P.info? ty).map (·.size) = some cs.size) :
    (results fn tmps).run P w = .ok (.tuple #[.agg cs, tmps.getD u undef]) w := by
  rw [results_cell_tmp h, hp]
  simp [asAddr, run_loadVar_row w g t ty cs fr d hg hu hd hi, Result.andThen]
theorem box710 : box 7 1 0 = (256, 0, 512, 256, 0) := by decide +kernel
set_option maxHeartbeats 4000000 in
set_option maxRecDepth 100000 in
theorem back_c (w : World) : Calls Try.prog 10 #[.agg #[.int .i64 7, .int .i64 1, .int .i64 0], .agg #[.int .i64 5, .int .i64 256]] w fun e w' => e = .returned (.tuple #[.agg #[.int .i64 261, .int .i64 256], .bool true]) ∧ Below w.heap.size w w' := by
  have S := Aside0.mk (Sep.start w)
  have hu23 := Try.underlying23
  have hu40 := Try.underlying40
  have hu25 := Try.underlying25
  go_enter Try.func10, Try.ntmps10
  go_wp2_with (first | ((with_reducible refine gate_dst (N := 2) rfl ?_); refine box_event ?hg (N := 2) ?hd (cs := #[.int .i64 7, .int .i64 1, .int .i64 0]) (t := 23) ?hr ?_; (case hd => rfl); (case hg => rfl); (case hr => first | (go_simp; done) | (go_simp; rfl)); intro g2 hg w2 hbox hb; replace S := Aside0.mk (S.out.box hg hbox hb); have k2_0 := blk_cell hbox 0; have k2_1 := blk_cell hbox 1; have k2_2 := blk_cell hbox 2; simp only [List.getElem?_toArray, List.getElem?_cons_zero, List.getElem?_cons_succ] at k2_0 k2_1 k2_2; clear hbox hb hg) | ((with_reducible refine gate_dst (N := 3) rfl ?_); refine box_event ?hg (N := 3) ?hd (cs := #[.int .i64 5, .int .i64 256]) (t := 25) ?hr ?_; (case hd => rfl); (case hg => rfl); (case hr => first | (go_simp; done) | (go_simp; rfl)); intro g3 hg w3 hbox hb; replace S := Aside0.mk (S.out.box hg hbox hb); have k3_0 := blk_cell hbox 0; have k3_1 := blk_cell hbox 1; simp only [List.getElem?_toArray, List.getElem?_cons_zero, List.getElem?_cons_succ] at k3_0 k3_1; clear hbox hb hg) | ((with_reducible refine gate_dst (N := 4) rfl ?_); refine box_event ?hg (N := 4) ?hd (cs := #[.int .i64 0, .int .i64 0]) (t := 25) ?hr ?_; (case hd => rfl); (case hg => rfl); (case hr => first | (go_simp; done) | (go_simp; rfl)); intro g4 hg w4 hbox hb; replace S := Aside0.mk (S.out.box hg hbox hb); have k4_0 := blk_cell hbox 0; have f4_0 := blk_frozen hbox 0; have k4_1 := blk_cell hbox 1; have f4_1 := blk_frozen hbox 1; simp only [List.getElem?_toArray, List.getElem?_cons_zero, List.getElem?_cons_succ] at k4_0 k4_1; clear hbox hb hg; clear k2_0 k2_1 k2_2 k3_0 k3_1; have k2_0 := blk_cell (S.out.at_box 2 rfl) 0; have k2_1 := blk_cell (S.out.at_box 2 rfl) 1; have k2_2 := blk_cell (S.out.at_box 2 rfl) 2; have k3_0 := blk_cell (S.out.at_box 1 rfl) 0; have k3_1 := blk_cell (S.out.at_box 1 rfl) 1; simp only [List.getElem?_toArray, List.getElem?_cons_zero, List.getElem?_cons_succ] at k2_0 k2_1 k2_2 k3_0 k3_1) | (go_at_call 20; have X_ := box_e box710 w4; (with_reducible refine X_.mono ?_); clear X_; rintro e_ w11 ⟨rfl, hb⟩; replace S := Aside0.mk (S.out.step hb); clear hb; clear k2_0 k2_1 k2_2 k3_0 k3_1 k4_0 k4_1 f4_0 f4_1) | ((with_reducible refine gate_dst (N := 6) rfl ?_); refine box_event ?hg (N := 6) ?hd (cs := #[.int .i64 0, .int .i64 0, .int .i64 0, .int .i64 0]) (t := 40) ?hr ?_; (case hd => rfl); (case hg => rfl); (case hr => first | (go_simp; done) | (go_simp; rfl)); intro g6 hg w6 hbox hb; replace S := Aside0.mk (show Sep _ _ (Box _ g6 40 #[.int .i64 256, .int .i64 0, .int .i64 512, .int .i64 256] :: _) from ((((S.out.box hg hbox hb).set 0 rfl 0 (.int .i64 256)).set 0 rfl 1 (.int .i64 0)).set 0 rfl 2 (.int .i64 512)).set 0 rfl 3 (.int .i64 256)); have z6_0 := blk_cell hbox 0; have y6_0 := blk_frozen hbox 0; have z6_1 := blk_cell hbox 1; have y6_1 := blk_frozen hbox 1; have z6_2 := blk_cell hbox 2; have y6_2 := blk_frozen hbox 2; have z6_3 := blk_cell hbox 3; have y6_3 := blk_frozen hbox 3; simp only [List.getElem?_toArray, List.getElem?_cons_zero, List.getElem?_cons_succ] at z6_0 z6_1 z6_2 z6_3; clear hbox hb hg; replace S := Aside0.mk (show Sep w _ [Box _ g6 40 #[.int .i64 256, .int .i64 0, .int .i64 512, .int .i64 256], Box _ g4 25 #[.int .i64 0, .int .i64 0], Box _ g3 25 #[.int .i64 5, .int .i64 256], Box _ g2 23 #[.int .i64 7, .int .i64 1, .int .i64 0]] from S.out); have k6_0 := blk_cell (S.out.at_box 0 rfl) 0; have k6_1 := blk_cell (S.out.at_box 0 rfl) 1; have k6_2 := blk_cell (S.out.at_box 0 rfl) 2; have k6_3 := blk_cell (S.out.at_box 0 rfl) 3; have k4_0 := blk_cell (S.out.at_box 1 rfl) 0; have f4_0 := blk_frozen (S.out.at_box 1 rfl) 0; have k4_1 := blk_cell (S.out.at_box 1 rfl) 1; have f4_1 := blk_frozen (S.out.at_box 1 rfl) 1; have k3_0 := blk_cell (S.out.at_box 2 rfl) 0; have k3_1 := blk_cell (S.out.at_box 2 rfl) 1; have k2_0 := blk_cell (S.out.at_box 3 rfl) 0; have k2_1 := blk_cell (S.out.at_box 3 rfl) 1; have k2_2 := blk_cell (S.out.at_box 3 rfl) 2; simp only [List.getElem?_toArray, List.getElem?_cons_zero, List.getElem?_cons_succ] at k6_0 k6_1 k6_2 k6_3 k4_0 k4_1 k3_0 k3_1 k2_0 k2_1 k2_2) | (go_at_call 21; (with_reducible refine (tilegrid_Size.calls 7 256 _ (by decide +kernel)).mono ?_); rintro e_ w39 ⟨rfl, hd⟩; have hb := pw_drawn_below hd; replace S := Aside0.mk (S.out.step hb); clear hb hd; clear k6_0 k6_1 k6_2 k6_3 k4_0 k4_1 f4_0 f4_1 k3_0 k3_1 k2_0 k2_1 k2_2 z6_0 y6_0 z6_1 y6_1 z6_2 y6_2 z6_3 y6_3; have k6_0 := blk_cell (S.out.at_box 0 rfl) 0; have k6_1 := blk_cell (S.out.at_box 0 rfl) 1; have k6_2 := blk_cell (S.out.at_box 0 rfl) 2; have k6_3 := blk_cell (S.out.at_box 0 rfl) 3; have k4_0 := blk_cell (S.out.at_box 1 rfl) 0; have f4_0 := blk_frozen (S.out.at_box 1 rfl) 0; have k4_1 := blk_cell (S.out.at_box 1 rfl) 1; have f4_1 := blk_frozen (S.out.at_box 1 rfl) 1; have k3_0 := blk_cell (S.out.at_box 2 rfl) 0; have k3_1 := blk_cell (S.out.at_box 2 rfl) 1; simp only [List.getElem?_toArray, List.getElem?_cons_zero, List.getElem?_cons_succ] at k6_0 k6_1 k6_2 k6_3 k4_0 k4_1 k3_0 k3_1))
  replace S := Aside0.mk (show Sep w _ [Box _ g6 40 #[.int .i64 256, .int .i64 0, .int .i64 512, .int .i64 256], Box _ g4 25 #[.int .i64 261, .int .i64 256], Box _ g3 25 #[.int .i64 5, .int .i64 256], Box _ g2 23 #[.int .i64 7, .int .i64 1, .int .i64 0]] from (S.out.set 1 rfl 0 (.int .i64 261)).set 1 rfl 1 (.int .i64 256))
  (try simp only [Exit.inBlock, Exit.then]); refine bodyPost_ret (results_pt_tmp rfl _ _ g4 25 #[.int .i64 261, .int .i64 256] (0, 0) _ rfl (by exact S.out.at_box 1 rfl) (by exact hu25) rfl (by kernel_rfl)) rfl ?_
  exact ⟨rfl, S.out.below⟩
def L3 : List S25 := [⟨0, 0⟩, ⟨1, 0⟩, ⟨256, 0⟩]
def M2 : List (List S25) := [[⟨0, 0⟩, ⟨2, 0⟩]]
theorem lineL3 : lineQ 0 0 0 L3 = M2 := by decide +kernel
set_option maxHeartbeats 4000000 in
set_option maxRecDepth 100000 in
theorem lives_c (w : World) : Calls Try.prog 12 #[] w fun e w' => e = .returned (.bool true) ∧ Below w.heap.size w w' := by
  have S := Aside0.mk (Sep.start w)
  have hu23 := Try.underlying23
  have hu40 := Try.underlying40
  have hu25 := Try.underlying25
  have hu30 := Try.underlying30
  have hu32 := Try.underlying32
  go_enter Try.func12, Try.ntmps12
  go_upto_region 4 with (first | (go_at_call 8; have X_ := quant_Point.calls 0 0 0 300 128 2 1 true w (by decide +kernel); (with_reducible refine X_.mono ?_); clear X_; rintro e_ w9 ⟨rfl, hb⟩; replace S := Aside0.mk (S.out.step hb); clear hb) | ((with_reducible refine gate_dst (N := 1) rfl ?_); refine box_event ?hg (N := 1) ?hd (cs := #[.int .i64 0, .int .i64 0]) (t := 25) ?hr ?_; (case hd => rfl); (case hg => rfl); (case hr => first | (go_simp; done) | (go_simp; rfl)); intro g1 hg w1 hbox hb; replace S := Aside0.mk (show Sep _ _ (Box _ g1 25 #[.int .i64 2, .int .i64 1] :: _) from ((S.out.box hg hbox hb).set 0 rfl 0 (.int .i64 2)).set 0 rfl 1 (.int .i64 1)); have z1_0 := blk_cell hbox 0; have y1_0 := blk_frozen hbox 0; have z1_1 := blk_cell hbox 1; have y1_1 := blk_frozen hbox 1; simp only [List.getElem?_toArray, List.getElem?_cons_zero, List.getElem?_cons_succ] at z1_0 z1_1; clear hbox hb hg) | (go_at_call 10; (with_reducible refine (back_c _).mono ?_); rintro e_ w15 ⟨rfl, hb⟩; replace S := Aside0.mk (S.out.step hb); clear hb; clear z1_0 y1_0 z1_1 y1_1) | ((with_reducible refine gate_dst (N := 3) rfl ?_); refine box_event ?hg (N := 3) ?hd (cs := #[.int .i64 0, .int .i64 0]) (t := 25) ?hr ?_; (case hd => rfl); (case hg => rfl); (case hr => first | (go_simp; done) | (go_simp; rfl)); intro g3 hg w3 hbox hb; replace S := Aside0.mk (show Sep _ _ (Box _ g3 25 #[.int .i64 261, .int .i64 256] :: _) from ((S.out.box hg hbox hb).set 0 rfl 0 (.int .i64 261)).set 0 rfl 1 (.int .i64 256)); have z3_0 := blk_cell hbox 0; have y3_0 := blk_frozen hbox 0; have z3_1 := blk_cell hbox 1; have y3_1 := blk_frozen hbox 1; simp only [List.getElem?_toArray, List.getElem?_cons_zero, List.getElem?_cons_succ] at z3_0 z3_1; clear hbox hb hg) | ((with_reducible refine gate_dst (N := 22) rfl ?_); refine Kd.R_lit k25 _ 25 ?hg (N := 22) ?hd (xs := [⟨0, 0⟩, ⟨1, 0⟩, ⟨256, 0⟩]) (inner := [.int .i64 0, .int .i64 0, .int .i64 1, .int .i64 0, .int .i64 256, .int .i64 0]) (ok := fun _ => True) (okp := fun _ => True) ?hr ?hp (fun _ _ => trivial) trivial (Below.refl _ _) (Nat.le_refl _) (by decide) ?_; (case hd => rfl); (case hg => rfl); (case hr => first | (go_simp; done) | (go_simp; rfl)); (case hp => exact (Reps.c2 (show Kd.M k25 _ _ _ ⟨0, 0⟩ [.int .i64 0, .int .i64 0] from k25_mkM _ _ _ _) (Reps.c2 (show Kd.M k25 _ _ _ ⟨1, 0⟩ [.int .i64 1, .int .i64 0] from k25_mkM _ _ _ _) (Reps.c2 (show Kd.M k25 _ _ _ ⟨256, 0⟩ [.int .i64 256, .int .i64 0] from k25_mkM _ _ _ _) (Reps.none _ _))))); intro v22 w22 ho hb hg_ hat; obtain ⟨A22, c22, e22⟩ := Kd.R_slice ho; replace e22 : v22 = .slice A22 3 c22 := e22; subst e22; replace S := Aside0.mk (S.out.own ho hb); clear ho hb hg_ hat) | (go_at_call 14; have X_ := qline_s 0 0 0 L3 (.slice A22 3 c22) _ (S.out.own_reads 0 rfl) (by decide); rw [lineL3] at X_; (with_reducible refine X_.mono ?_); clear X_; rintro e_ w23 ⟨v23, rfl, ho, hb⟩; obtain ⟨A23, c23, e23⟩ := Kd.R_slice ho; replace e23 : v23 = .slice A23 1 c23 := e23; subst e23; replace S := Aside0.mk (S.out.own ho hb); clear ho hb))
  obtain ⟨A', c', e', hc', hC'⟩ := S.out.own_reads 0 rfl
  injection e' with ha hb hc
  subst ha hc
  clear hb
  obtain ⟨ad, A0, c0, rfl, hcell, hc0, hC0⟩ := seen_at (c := 1) (l := M2) hC' 0 (by decide)
  obtain ⟨ad2, rfl, hp0, hp1⟩ := at_T25 (xs := [⟨0, 0⟩, ⟨2, 0⟩]) hC0 1 (by decide) (by decide)
  replace hcell : w23.cell? ad = some (Value.slice (some ad2) 2 c0) := hcell
  replace hp0 : w23.cell? ⟨ad2.block, ad2.off + 2, none⟩ = some (Value.int .i64 2) := hp0
  have hp1' : w23.cell? ⟨ad2.block, ad2.off + 3, none⟩ = some (Value.int .i64 0) := hp1
  have hp1'' : w23.cell? ⟨ad2.block, ad2.off + 2 + 1, none⟩ = some (Value.int .i64 0) := hp1
  have k1_0 := blk_cell (S.out.at_box 3 rfl) 0
  have k1_1 := blk_cell (S.out.at_box 3 rfl) 1
  have k3_0 := blk_cell (S.out.at_box 2 rfl) 0
  have k3_1 := blk_cell (S.out.at_box 2 rfl) 1
  simp only [List.getElem?_toArray, List.getElem?_cons_zero, List.getElem?_cons_succ] at k1_0 k1_1 k3_0 k3_1
  go_wp2
  go_ret
  exact ⟨rfl, S.out.below⟩
end Go.Proofs.Ytdkegdnfbpobnaa.Hand
