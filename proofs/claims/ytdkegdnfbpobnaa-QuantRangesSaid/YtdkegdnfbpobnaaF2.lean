import Derived.Test.YtdkegdnfbpobnaaF1
namespace Go.Proofs.Ytdkegdnfbpobnaa.Hand
open Go.Proofs.YtdkegdnfbpobnaaW Go.RowKit Go.Proofs.YtdkegdnfbpobnaaW.PrintWords Go.Proofs.YtdkegdnfbpobnaaW.PrintLast Go.Proofs.YtdkegdnfbpobnaaW.PrintMore Go.Proofs.YtdkegdnfbpobnaaW.SepW Go.Proofs.Ytdkegdnfbpobnaa.PARS Go.Proofs.Ytdkegdnfbpobnaa.Pl
set_option linter.unusedVariables false
set_option linter.unusedSimpArgs false
attribute [local go_sem] max2_int min2_int max_two min_two   -- for these walks alone
theorem info30 : (Try.prog.info? 30).map (fun i => (i.zero, i.size, i.bytes)) = some (some (.slice none 0 0), 1, 24) := by kernel_rfl
theorem wp_gen {P : Program} {c : Code} {Q : Exit → Act → World → Prop} {a : Act} {w0 w : World} {L : List (Thing w0.heap.size)} (S : Aside0 (Sep w0 w L)) (h : ∀ W, Aside0 (Sep w0 W L) → c.wp P Q a W) : c.wp P Q a w := h w S
theorem ex_gen {K : Exit → Act → World → Prop} {e : Exit} {a : Act} {w0 w : World} {L : List (Thing w0.heap.size)} (S : Aside0 (Sep w0 w L)) (h : ∀ W, Aside0 (Sep w0 W L) → K e a W) : K e a w := h w S
theorem sepI_swap {base : Nat} {w : World} {a b : Thing base} {l : List (Thing base)} {F : Nat → Prop} (S : SepI base w (a :: b :: l) F) : SepI base w (b :: a :: l) F := by
  obtain ⟨ok, h1, h2, ok2, k1, k2, h3⟩ := S
  exact ⟨ok2, fun k hk => ⟨(k1 k hk).1.1, (k1 k hk).2⟩, k2, ok, fun k hk => ⟨⟨(h1 k hk).1, fun h => (k1 k h).1.2 hk⟩, (h1 k hk).2⟩, h2, SepI.mono (fun k hk => ⟨⟨hk.1.1, hk.2⟩, hk.1.2⟩) h3⟩
theorem sepI_tail {base : Nat} {w : World} {a : Thing base} {l l' : List (Thing base)} {F : Nat → Prop} (h : ∀ F, SepI base w l F → SepI base w l' F) (S : SepI base w (a :: l) F) : SepI base w (a :: l') F := by
  obtain ⟨ok, h1, h2, h3⟩ := S
  exact ⟨ok, h1, h2, h _ h3⟩
theorem sepI_pull {base : Nat} {w : World} : ∀ (n : Nat) {l : List (Thing base)} {F : Nat → Prop} {a : Thing base}, SepI base w l F → l[n]? = some a → SepI base w (a :: l.eraseIdx n) F
  | _, [], _, _, _, h => by simp at h
  | 0, b :: l, F, a, S, h => by
    obtain rfl : b = a := by simpa using h
    exact S
  | n + 1, b :: l, F, a, S, h => sepI_swap (sepI_tail (fun _ h' => sepI_pull n h' (by simpa using h)) S)
theorem sep_pull {w0 w : World} {l : List (Thing w0.heap.size)} {a : Thing w0.heap.size} (n : Nat) (S : Sep w0 w l) (h : l[n]? = some a) : Sep w0 w (a :: l.eraseIdx n) := ⟨S.below, sepI_pull n S.items h⟩
theorem box_e {z x y b0 b1 b2 b3 be : Int} (hb : box z x y = (b0, b1, b2, b3, be)) (w : World) : Calls Try.prog 20 #[.agg #[.int .i64 z, .int .i64 x, .int .i64 y]] w fun e w' => e = .returned (.tuple #[.agg #[.int .i64 b0, .int .i64 b1, .int .i64 b2, .int .i64 b3], .int .i64 be]) ∧ Below w.heap.size w w' := by
  have h := box_s z x y w
  rw [hb] at h
  exact h
theorem seen_at {w : World} {A : Option Addr} {c : Nat} {l : List (List S25)} (h : Kd.C kL w A l.length l) (i : Nat) (hi : i < l.length) : ∃ ad A0 c0, A = some ad ∧ w.cell? (ad.add i) = some (.slice A0 l[i].length c0) ∧ l[i].length ≤ c0 ∧ k25.C w A0 l[i].length l[i] := by
  have := at_L5 h (i : Int) (by omega) (by omega)
  rw [rdL_at l i hi] at this
  simpa using this
set_option maxHeartbeats 4000000 in
set_option maxRecDepth 100000 in
theorem area_c (z x y : Int) (rings : List (List S25)) (A : Option Addr) (c : Nat) (w : World) (hr : Kd.C kL w A rings.length rings) (hc : rings.length ≤ c) (hn : rings.length ≤ 1000000) (hp : ∀ r ∈ rings, r.length ≤ 1000000) :
    Calls Try.prog 17 #[.agg #[.int .i64 z, .int .i64 x, .int .i64 y], .slice A rings.length c] w fun e w' => ∃ u, e = .returned u ∧ Kd.R kL 30 w' w.heap.size (fun _ => True) u (areaQ z x y rings) ∧ Below w.heap.size w w' := by
  have S := Aside0.mk (Sep.start w)
  have hu23 := Try.underlying23
  have hu40 := Try.underlying40
  have hu25 := Try.underlying25
  have hu30 := Try.underlying30
  have hu32 := Try.underlying32
  have HR := Aside0.mk hr
  have HP := Aside0.mk hp
  clear hr hp
  have hbx : ∃ b0 b1 b2 b3 be, box z x y = (b0, b1, b2, b3, be) := ⟨_, _, _, _, _, rfl⟩
  obtain ⟨b0, b1, b2, b3, be, hb⟩ := hbx
  have HB := Aside0.mk hb
  have HQ : Aside0 (areaQ z x y rings = if be = 0 then areasQ z x y rings else []) := ⟨by unfold areaQ; rw [hb]⟩
  have HRQ : Aside0 (∀ r, ringQ z x y r = tidyRing (tidy ((ring r b0 b1 b2 b3).map (pt z x y)))) := ⟨fun r => by unfold ringQ; rw [hb]⟩
  clear hb
  by_cases he : be = 0
  · have HE : Aside0 (areaQ z x y rings = areasQ z x y rings) := ⟨HQ.out.trans (if_pos he)⟩
    subst he
    clear HQ
    go_enter Try.func17, Try.ntmps17
    go_wp2_with (first | ((with_reducible refine gate_dst (N := 2) rfl ?_); refine box_event ?hg (N := 2) ?hd (cs := #[.int .i64 z, .int .i64 x, .int .i64 y]) (t := 23) ?hr ?_; (case hd => rfl); (case hg => rfl); (case hr => first | (go_simp; done) | (go_simp; rfl)); intro g2 hg w2 hbox hb; replace S := Aside0.mk (S.out.box hg hbox hb); have k2_0 := blk_cell hbox 0; have k2_1 := blk_cell hbox 1; have k2_2 := blk_cell hbox 2; simp only [List.getElem?_toArray, List.getElem?_cons_zero, List.getElem?_cons_succ] at k2_0 k2_1 k2_2; clear hbox hb hg) | (go_at_call 20; have X_ := box_e HB.out w2; (with_reducible refine X_.mono ?_); clear X_; rintro e_ w14 ⟨rfl, hb⟩; replace S := Aside0.mk (S.out.step hb); clear hb; clear k2_0 k2_1 k2_2) | ((with_reducible refine gate_dst (N := 5) rfl ?_); refine box_event ?hg (N := 5) ?hd (cs := #[.int .i64 0, .int .i64 0, .int .i64 0, .int .i64 0]) (t := 40) ?hr ?_; (case hd => rfl); (case hg => rfl); (case hr => first | (go_simp; done) | (go_simp; rfl)); intro g5 hg w5 hbox hb; replace S := Aside0.mk (show Sep _ _ (Box _ g5 40 #[.int .i64 b0, .int .i64 b1, .int .i64 b2, .int .i64 b3] :: _) from ((((S.out.box hg hbox hb).set 0 rfl 0 (.int .i64 b0)).set 0 rfl 1 (.int .i64 b1)).set 0 rfl 2 (.int .i64 b2)).set 0 rfl 3 (.int .i64 b3)); have z5_0 := blk_cell hbox 0; have y5_0 := blk_frozen hbox 0; have z5_1 := blk_cell hbox 1; have y5_1 := blk_frozen hbox 1; have z5_2 := blk_cell hbox 2; have y5_2 := blk_frozen hbox 2; have z5_3 := blk_cell hbox 3; have y5_3 := blk_frozen hbox 3; simp only [List.getElem?_toArray, List.getElem?_cons_zero, List.getElem?_cons_succ] at z5_0 z5_1 z5_2 z5_3; clear hbox hb hg))
    replace S := Aside0.mk ((S.out.rows_nil k25 25).hdr_nil 30)
    go_loopg [7, 21] (rings.length + 1) (fun kq v7 v21 w' => ∃ (i : Nat) (out : List (List S25)) (vs : List Value), v21 = .int .i64 i ∧ Aside0 (kq + i = rings.length + 1) ∧ Aside0 (i ≤ rings.length) ∧ Aside0 (out ++ areasQ z x y (rings.drop i) = areasQ z x y rings) ∧ Aside0 (vs.length = out.length ∧ out.length ≤ i) ∧ Aside0 (Sep w w' [Hdr _ 30 v7 vs, SepW.Rows _ k25 25 vs out, Box _ g5 40 #[.int .i64 b0, .int .i64 b1, .int .i64 b2, .int .i64 b3], Box _ g2 23 #[.int .i64 z, .int .i64 x, .int .i64 y]]))
    case atStart => exact ⟨0, [], [], rfl, ⟨rfl⟩, ⟨Nat.zero_le _⟩, ⟨rfl⟩, ⟨rfl, Nat.le_refl _⟩, S⟩
    case round =>
      clear S
      obtain ⟨i, out, vs, rfl, K, IL, OUT, VL, S⟩ := hrel
      cases gk with
      | zero => exact absurd K.out (by have := IL.out; omega)
      | succ k1 =>
      by_cases hi : i < rings.length
      · have d := decide_eq_true (show (i : Int) < (rings.length : Int) by omega)
        obtain ⟨ad, A0, c0, rfl, hcell, hc0, hC0⟩ := seen_at (c := c) HR.out i hi
        have hmem := HP.out _ (List.getElem_mem hi)
        have hout := areasQ_at (z := z) (x := x) (y := y) hi
        obtain ⟨r, hr⟩ : ∃ r, rings[i] = r := ⟨_, rfl⟩
        rw [hr] at hcell hc0 hC0 hmem hout
        have HC0 : Aside0 (Seen k25 w (.slice A0 r.length c0) r) := ⟨A0, c0, rfl, hc0, hC0⟩
        have HM := Aside0.mk hmem
        have hL2 : (ring r b0 b1 b2 b3).length ≤ 1000000000 := by have := ring_length r b0 b1 b2 b3; omega
        obtain ⟨rl, hrl⟩ : ∃ rl, ring r b0 b1 b2 b3 = rl := ⟨_, rfl⟩
        obtain ⟨pl, hpl⟩ : ∃ pl, rl.map (pt z x y) = pl := ⟨_, rfl⟩
        obtain ⟨q, hq⟩ : ∃ q, ringQ z x y r = q := ⟨_, rfl⟩
        rw [hrl] at hL2
        have HL2 := Aside0.mk hL2
        have HLP : Aside0 (pl.length ≤ 1000000000) := ⟨by rw [← hpl, List.length_map]; omega⟩
        have HRL := Aside0.mk hrl
        have HPL := Aside0.mk hpl
        have HTQ : Aside0 (tidyRing (tidy pl) = q) := ⟨by rw [← hq, HRQ.out r, hrl, hpl]⟩
        have HQQ := Aside0.mk hq
        clear hrl hpl hq hL2
        have hL3 := ringQ_len z x y r
        have HL3 : Aside0 ((ringQ z x y r).length ≤ 1000000000) := ⟨by omega⟩
        obtain ⟨Av, cv, ev⟩ := S.out.hdr_form 0 rfl
        subst ev
        have hvl : vs.length ≤ 1000000 := by have := VL.out; omega
        have hO := OUT.out
        rw [hout] at hO
        have HO := Aside0.mk hO
        clear hr hout hO hmem hC0 hc0 OUT
        have hcell' : wr.cell? (ad.add i) = some (.slice A0 r.length c0) := pw_cell_below S.out.below hcell
        clear hcell
        have i0 : (0 : Int) ≤ (i : Int) := by omega
        have i1 : (i : Int) < (rings.length : Int) := by omega
        skip
        go_upto_region 8 with (first | fail)
        have k2_0 := blk_cell (S.out.at_box 3 rfl) 0
        have k2_1 := blk_cell (S.out.at_box 3 rfl) 1
        have k2_2 := blk_cell (S.out.at_box 3 rfl) 2
        have k5_0 := blk_cell (S.out.at_box 2 rfl) 0
        have k5_1 := blk_cell (S.out.at_box 2 rfl) 1
        have k5_2 := blk_cell (S.out.at_box 2 rfl) 2
        have k5_3 := blk_cell (S.out.at_box 2 rfl) 3
        simp only [List.getElem?_toArray, List.getElem?_cons_zero, List.getElem?_cons_succ] at k2_0 k2_1 k2_2 k5_0 k5_1 k5_2 k5_3
        go_region_held3 (fun w' => w'.cell? (ad.add i) = some (.slice A0 r.length c0) ∧ w'.cell? ⟨g2, 0, none⟩ = some (.int .i64 z) ∧ w'.cell? ⟨g2, 1, none⟩ = some (.int .i64 x) ∧ w'.cell? ⟨g2, 2, none⟩ = some (.int .i64 y) ∧ w'.cell? ⟨g5, 0, none⟩ = some (.int .i64 b0) ∧ w'.cell? ⟨g5, 1, none⟩ = some (.int .i64 b1) ∧ w'.cell? ⟨g5, 2, none⟩ = some (.int .i64 b2) ∧ w'.cell? ⟨g5, 3, none⟩ = some (.int .i64 b3)) (first | assumption | go_keep) (first | (go_at_call 33; have X_ := ring_s r b0 b1 b2 b3 (.slice A0 r.length c0) _ (HC0.out.step S.out.drew.below) HM.out; rw [HRL.out] at X_; (with_reducible refine X_.mono ?_); clear X_; rintro e_ wa ⟨vr, rfl, ho, hb⟩; obtain ⟨Ar1, cr1, er1⟩ := Kd.R_slice ho; subst er1; have hcell9 := pw_cell_below hb hcell'; clear hcell'; have hcell' := hcell9; clear hcell9; replace S := Aside0.mk (S.out.drew.own ho hb); clear ho hb; clear k2_0 k2_1 k2_2 k5_0 k5_1 k5_2 k5_3; have k2_0 := blk_cell (S.out.at_box 4 rfl) 0; have k2_1 := blk_cell (S.out.at_box 4 rfl) 1; have k2_2 := blk_cell (S.out.at_box 4 rfl) 2; have k5_0 := blk_cell (S.out.at_box 3 rfl) 0; have k5_1 := blk_cell (S.out.at_box 3 rfl) 1; have k5_2 := blk_cell (S.out.at_box 3 rfl) 2; have k5_3 := blk_cell (S.out.at_box 3 rfl) 3; simp only [List.getElem?_toArray, List.getElem?_cons_zero, List.getElem?_cons_succ] at k2_0 k2_1 k2_2 k5_0 k5_1 k5_2 k5_3; have hSwa : wa.cell? (ad.add i) = some (.slice A0 r.length c0) ∧ wa.cell? ⟨g2, 0, none⟩ = some (.int .i64 z) ∧ wa.cell? ⟨g2, 1, none⟩ = some (.int .i64 x) ∧ wa.cell? ⟨g2, 2, none⟩ = some (.int .i64 y) ∧ wa.cell? ⟨g5, 0, none⟩ = some (.int .i64 b0) ∧ wa.cell? ⟨g5, 1, none⟩ = some (.int .i64 b1) ∧ wa.cell? ⟨g5, 2, none⟩ = some (.int .i64 b2) ∧ wa.cell? ⟨g5, 3, none⟩ = some (.int .i64 b3) := ⟨hcell', k2_0, k2_1, k2_2, k5_0, k5_1, k5_2, k5_3⟩) | (go_at_call 28; have X_ := points_s z x y rl (.slice Ar1 rl.length cr1) _ (S.out.own_reads 0 rfl) HL2.out; rw [HPL.out] at X_; (with_reducible refine X_.mono ?_); clear X_; rintro e_ wb ⟨vp, rfl, ho, hb⟩; obtain ⟨Ar2, cr2, er2⟩ := Kd.R_slice ho; subst er2; have hcell9 := pw_cell_below hb hcell'; clear hcell'; have hcell' := hcell9; clear hcell9; replace S := Aside0.mk (S.out.own ho hb); clear ho hb; clear k2_0 k2_1 k2_2 k5_0 k5_1 k5_2 k5_3 hSwa; replace S := Aside0.mk (S.out.drop 1); have k2_0 := blk_cell (S.out.at_box 4 rfl) 0; have k2_1 := blk_cell (S.out.at_box 4 rfl) 1; have k2_2 := blk_cell (S.out.at_box 4 rfl) 2; have k5_0 := blk_cell (S.out.at_box 3 rfl) 0; have k5_1 := blk_cell (S.out.at_box 3 rfl) 1; have k5_2 := blk_cell (S.out.at_box 3 rfl) 2; have k5_3 := blk_cell (S.out.at_box 3 rfl) 3; simp only [List.getElem?_toArray, List.getElem?_cons_zero, List.getElem?_cons_succ] at k2_0 k2_1 k2_2 k5_0 k5_1 k5_2 k5_3; have hSwb : wb.cell? (ad.add i) = some (.slice A0 r.length c0) ∧ wb.cell? ⟨g2, 0, none⟩ = some (.int .i64 z) ∧ wb.cell? ⟨g2, 1, none⟩ = some (.int .i64 x) ∧ wb.cell? ⟨g2, 2, none⟩ = some (.int .i64 y) ∧ wb.cell? ⟨g5, 0, none⟩ = some (.int .i64 b0) ∧ wb.cell? ⟨g5, 1, none⟩ = some (.int .i64 b1) ∧ wb.cell? ⟨g5, 2, none⟩ = some (.int .i64 b2) ∧ wb.cell? ⟨g5, 3, none⟩ = some (.int .i64 b3) := ⟨hcell', k2_0, k2_1, k2_2, k5_0, k5_1, k5_2, k5_3⟩) | (go_at_call 32; have X_ := tring_s pl (.slice Ar2 pl.length cr2) _ (S.out.own_reads 0 rfl) HLP.out; rw [HTQ.out] at X_; (with_reducible refine X_.mono ?_); clear X_; rintro e_ wc ⟨vt, rfl, ho, hb⟩; obtain ⟨Ar3, cr3, er3⟩ := Kd.R_slice ho; subst er3; have hcell9 := pw_cell_below hb hcell'; clear hcell'; have hcell' := hcell9; clear hcell9; replace S := Aside0.mk (S.out.own ho hb); clear ho hb; clear k2_0 k2_1 k2_2 k5_0 k5_1 k5_2 k5_3 hSwb; replace S := Aside0.mk (S.out.drop 1); have k2_0 := blk_cell (S.out.at_box 4 rfl) 0; have k2_1 := blk_cell (S.out.at_box 4 rfl) 1; have k2_2 := blk_cell (S.out.at_box 4 rfl) 2; have k5_0 := blk_cell (S.out.at_box 3 rfl) 0; have k5_1 := blk_cell (S.out.at_box 3 rfl) 1; have k5_2 := blk_cell (S.out.at_box 3 rfl) 2; have k5_3 := blk_cell (S.out.at_box 3 rfl) 3; simp only [List.getElem?_toArray, List.getElem?_cons_zero, List.getElem?_cons_succ] at k2_0 k2_1 k2_2 k5_0 k5_1 k5_2 k5_3; have hSwc : wc.cell? (ad.add i) = some (.slice A0 r.length c0) ∧ wc.cell? ⟨g2, 0, none⟩ = some (.int .i64 z) ∧ wc.cell? ⟨g2, 1, none⟩ = some (.int .i64 x) ∧ wc.cell? ⟨g2, 2, none⟩ = some (.int .i64 y) ∧ wc.cell? ⟨g5, 0, none⟩ = some (.int .i64 b0) ∧ wc.cell? ⟨g5, 1, none⟩ = some (.int .i64 b1) ∧ wc.cell? ⟨g5, 2, none⟩ = some (.int .i64 b2) ∧ wc.cell? ⟨g5, 3, none⟩ = some (.int .i64 b3) := ⟨hcell', k2_0, k2_1, k2_2, k5_0, k5_1, k5_2, k5_3⟩))
        clear k2_0 k2_1 k2_2 k5_0 k5_1 k5_2 k5_3
        rw [HQQ.out] at HO HL3
        obtain ⟨s, hs⟩ : ∃ s, sgn (area q) = s := ⟨_, rfl⟩
        obtain ⟨a, ha⟩ : ∃ a, parea r = a := ⟨_, rfl⟩
        have HS := Aside0.mk hs
        have HA := Aside0.mk ha
        obtain ⟨m1, hm1⟩ : ∃ m1, (if a < -1 then (-1 : Int) else a) = m1 := ⟨_, rfl⟩
        obtain ⟨m2, hm2⟩ : ∃ m2, (if 1 < m1 then (1 : Int) else m1) = m2 := ⟨_, rfl⟩
        have hmm : sgn a = m2 := by
          rw [← hm2, ← hm1]
          have h3 := sgn_cases a
          repeat' split
          all_goals omega
        by_cases hk : keepQ z x y r
        · rw [if_pos hk] at HO
          have hk2 := hk
          unfold keepQ at hk2
          rw [HQQ.out, hs, ha, hmm] at hk2
          have d1 := bne_iff_ne.2 hk2.1
          have d2 := beq_iff_eq.2 hk2.2
          clear hk hk2 hs ha hmm
          go_wp2_with (first | (go_at_call 34; have X_ := sign_s q (.slice Ar3 q.length cr3) _ (S.out.own_reads 0 rfl) HL3.out; rw [HS.out] at X_; (with_reducible refine X_.mono ?_); clear X_; rintro e_ wd ⟨rfl, hb⟩; replace S := Aside0.mk (S.out.step hb); clear hb) | (go_at_call 35; have X_ := parea_s r (.slice A0 r.length c0) _ (HC0.out.step S.out.below) HM.out; rw [HA.out] at X_; (with_reducible refine X_.mono ?_); clear X_; rintro e_ we ⟨rfl, hb⟩; replace S := Aside0.mk (S.out.step hb); clear hb) | ((with_reducible refine gate_builtin (b := .append) (xs := #[.tmp 43, .tmp 45]) rfl ?_); at_builtin; obtain ⟨ho, hup⟩ := S.out.hdr_append 1 rfl; refine print_append_cells (w0 := w) w.heap.size rfl (.tmp 43) (.tmp 45) 32 30 (.slice none 0 0) 1 24 rfl hu32 info30 rfl (by decide) (by omega) (.slice Av vs.length cv) vs.length vs [Value.slice Ar3 q.length cr3] rfl rfl rfl (by simp [Value.oneCell']) ho S.out.below S.out.size (by omega) ?_; intro v46 w46 hown hb hg hat; replace S := Aside0.mk (hup v46 w46 (vs ++ [Value.slice Ar3 q.length cr3]) (by rw [show (vs ++ [Value.slice Ar3 q.length cr3]).length = vs.length + 1 from (by rw [List.length_append]; rfl)]; exact hown) hb hg hat); clear ho hup hown hb hg hat; obtain ⟨A46, c46, e46⟩ := S.out.hdr_form 1 rfl; subst e46))
          go_roundg k1
          case measure => omega
          case rel =>
            have S2 := (sep_pull 2 S.out rfl)
            have S3 := (show Sep w _ (SepW.Rows _ k25 25 vs out :: Own _ k25 25 (.slice Ar3 q.length cr3) q :: _) from S2).rows_take.swap
            rw [show (vs ++ [Value.slice Ar3 q.length cr3]).length = vs.length + 1 from (by rw [List.length_append]; rfl)] at S3
            refine ⟨i + 1, out ++ [q], vs ++ [.slice Ar3 q.length cr3], rfl, ⟨by have := K.out; omega⟩, ⟨by omega⟩, ⟨by rw [List.append_assoc]; exact HO.out⟩, ⟨by rw [List.length_append, List.length_append, VL.out.1]; rfl, by rw [List.length_append, List.length_singleton]; have := VL.out.2; omega⟩, ⟨S3⟩⟩
        · rw [if_neg hk] at HO
          have hk2 := hk
          unfold keepQ at hk2
          rw [HQQ.out, hs, ha, hmm] at hk2
          clear hk hmm
          by_cases h0 : s = 0
          · have d1 : (s != 0) = false := bne_eq_false_iff_eq.2 h0
            clear hk2 hs ha h0
            go_wp2_with (first | (go_at_call 34; have X_ := sign_s q (.slice Ar3 q.length cr3) _ (S.out.own_reads 0 rfl) HL3.out; rw [HS.out] at X_; (with_reducible refine X_.mono ?_); clear X_; rintro e_ wd ⟨rfl, hb⟩; replace S := Aside0.mk (S.out.step hb); clear hb))
            go_roundg k1
            case measure => omega
            case rel => exact ⟨i + 1, out, vs, rfl, ⟨by have := K.out; omega⟩, ⟨by omega⟩, ⟨HO.out⟩, ⟨VL.out.1, by have := VL.out.2; omega⟩, ⟨S.out.drop 0⟩⟩
          · have d1 := bne_iff_ne.2 h0
            have d2 : (s == m2) = false := beq_eq_false_iff_ne.2 (fun h => hk2 ⟨h0, h⟩)
            clear hk2 hs ha h0
            go_wp2_with (first | (go_at_call 34; have X_ := sign_s q (.slice Ar3 q.length cr3) _ (S.out.own_reads 0 rfl) HL3.out; rw [HS.out] at X_; (with_reducible refine X_.mono ?_); clear X_; rintro e_ wd ⟨rfl, hb⟩; replace S := Aside0.mk (S.out.step hb); clear hb) | (go_at_call 35; have X_ := parea_s r (.slice A0 r.length c0) _ (HC0.out.step S.out.below) HM.out; rw [HA.out] at X_; (with_reducible refine X_.mono ?_); clear X_; rintro e_ we ⟨rfl, hb⟩; replace S := Aside0.mk (S.out.step hb); clear hb))
            go_roundg k1
            case measure => omega
            case rel => exact ⟨i + 1, out, vs, rfl, ⟨by have := K.out; omega⟩, ⟨by omega⟩, ⟨HO.out⟩, ⟨VL.out.1, by have := VL.out.2; omega⟩, ⟨S.out.drop 0⟩⟩
      · have d := decide_eq_false (show ¬ (i : Int) < (rings.length : Int) by omega)
        have hO := OUT.out
        rw [show rings.drop i = [] from List.drop_eq_nil_of_le (by omega), areasQ, List.append_nil] at hO
        obtain ⟨Av, cv, ev⟩ := S.out.hdr_form 0 rfl
        subst ev
        go_wp2
        go_ret
        rw [HE.out, ← hO]
        exact ⟨_, rfl, S.out.joined, S.out.below⟩
  · have HE : Aside0 (areaQ z x y rings = []) := ⟨HQ.out.trans (if_neg he)⟩
    have d := bne_iff_ne.2 he
    clear he HQ
    go_enter Try.func17, Try.ntmps17
    go_wp2_with (first | ((with_reducible refine gate_dst (N := 2) rfl ?_); refine box_event ?hg (N := 2) ?hd (cs := #[.int .i64 z, .int .i64 x, .int .i64 y]) (t := 23) ?hr ?_; (case hd => rfl); (case hg => rfl); (case hr => first | (go_simp; done) | (go_simp; rfl)); intro g2 hg w2 hbox hb; replace S := Aside0.mk (S.out.box hg hbox hb); have k2_0 := blk_cell hbox 0; have k2_1 := blk_cell hbox 1; have k2_2 := blk_cell hbox 2; simp only [List.getElem?_toArray, List.getElem?_cons_zero, List.getElem?_cons_succ] at k2_0 k2_1 k2_2; clear hbox hb hg) | (go_at_call 20; have X_ := box_e HB.out w2; (with_reducible refine X_.mono ?_); clear X_; rintro e_ w14 ⟨rfl, hb⟩; replace S := Aside0.mk (S.out.step hb); clear hb; clear k2_0 k2_1 k2_2) | ((with_reducible refine gate_dst (N := 5) rfl ?_); refine box_event ?hg (N := 5) ?hd (cs := #[.int .i64 0, .int .i64 0, .int .i64 0, .int .i64 0]) (t := 40) ?hr ?_; (case hd => rfl); (case hg => rfl); (case hr => first | (go_simp; done) | (go_simp; rfl)); intro g5 hg w5 hbox hb; replace S := Aside0.mk (show Sep _ _ (Box _ g5 40 #[.int .i64 b0, .int .i64 b1, .int .i64 b2, .int .i64 b3] :: _) from ((((S.out.box hg hbox hb).set 0 rfl 0 (.int .i64 b0)).set 0 rfl 1 (.int .i64 b1)).set 0 rfl 2 (.int .i64 b2)).set 0 rfl 3 (.int .i64 b3)); have z5_0 := blk_cell hbox 0; have y5_0 := blk_frozen hbox 0; have z5_1 := blk_cell hbox 1; have y5_1 := blk_frozen hbox 1; have z5_2 := blk_cell hbox 2; have y5_2 := blk_frozen hbox 2; have z5_3 := blk_cell hbox 3; have y5_3 := blk_frozen hbox 3; simp only [List.getElem?_toArray, List.getElem?_cons_zero, List.getElem?_cons_succ] at z5_0 z5_1 z5_2 z5_3; clear hbox hb hg))
    go_ret
    rw [HE.out]
    exact ⟨_, rfl, Kd.R_nil _ _ _ _ _, S.out.below⟩
end Go.Proofs.Ytdkegdnfbpobnaa.Hand
