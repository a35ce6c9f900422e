import Derived.Test.YtdkegdnfbpobnaaF3
namespace Go.Proofs.Ytdkegdnfbpobnaa.Hand
open Go.Proofs.YtdkegdnfbpobnaaW Go.RowKit Go.Proofs.YtdkegdnfbpobnaaW.PrintWords Go.Proofs.YtdkegdnfbpobnaaW.PrintLast Go.Proofs.YtdkegdnfbpobnaaW.PrintMore Go.Proofs.YtdkegdnfbpobnaaW.SepW Go.Proofs.Ytdkegdnfbpobnaa.PARS Go.Proofs.Ytdkegdnfbpobnaa.Pl
set_option linter.unusedVariables false
set_option linter.unusedSimpArgs false
theorem one_row {w : World} {A : Option Addr} {c : Nat} {l : List S25} (h : Kd.C k25 w A l.length l) (hc : l.length ≤ c) : Kd.C kL (w.alloc (.cells #[.slice A l.length c] 30)) (some ⟨w.heap.size, 0, none⟩) 1 [l] := by
  refine ⟨rfl, by decide, fun _ => ⟨_, rfl, fun j p hp => ?_⟩⟩
  have hj : j = 0 := by
    have := (List.getElem?_eq_some_iff.1 hp).1
    simp at this; omega
  subst hj
  obtain rfl : l = p := by simpa using hp
  refine ⟨[.slice A l.length c], rfl, ⟨A, c, rfl, hc, Kd.C_below h (below_alloc (Below.refl _ _) _)⟩, fun i u hu => ?_⟩
  have hi : i = 0 := by
    have := (List.getElem?_eq_some_iff.1 hu).1
    simp at this; omega
  subst hi
  obtain rfl : Value.slice A l.length c = u := by simpa using hu
  exact (blk_cell (blk_new w _) 0).trans rfl
theorem area_one (z x y : Int) (l : List S25) (A : Option Addr) (c : Nat) (w : World) (h : Kd.C k25 w A l.length l) (hc : l.length ≤ c) (hl : l.length ≤ 30) :
    Calls Try.prog 17 #[.agg #[.int .i64 z, .int .i64 x, .int .i64 y], .slice (some ⟨w.heap.size, 0, none⟩) 1 1] (w.alloc (.cells #[.slice A l.length c] 30)) fun e w' => ∃ u, e = .returned u ∧ Kd.R kL 30 w' (w.alloc (.cells #[.slice A l.length c] 30)).heap.size (fun _ => True) u (areaQ z x y [l]) ∧ Below (w.alloc (.cells #[.slice A l.length c] 30)).heap.size (w.alloc (.cells #[.slice A l.length c] 30)) w' :=
  area_c z x y [l] _ 1 _ (one_row h hc) (Nat.le_refl _) (show 1 ≤ 1000000 by decide) (fun r hr => by obtain rfl := List.mem_singleton.1 hr; omega)
set_option maxHeartbeats 4000000 in
set_option maxRecDepth 100000 in
theorem ranges_law (z x y : Int) (l : List S25) (A : Option Addr) (c : Nat) (w : World) (hr : Kd.C k25 w A l.length l) (hc : l.length ≤ c) :
    Calls Try.prog 7 #[.agg #[.int .i64 z, .int .i64 x, .int .i64 y], .slice A l.length c] w fun e w' => e = .returned (.bool true) ∧ Below w.heap.size w w' := by
  have S := Aside0.mk (Sep.start w)
  have hu23 := Try.underlying23
  have hu25 := Try.underlying25
  have hu30 := Try.underlying30
  have hu32 := Try.underlying32
  have HC := Aside0.mk hr
  have HCC := Aside0.mk hc
  have HR : Aside0 (Seen k25 w (.slice A l.length c) l) := ⟨A, c, rfl, hc, hr⟩
  clear hr hc
  by_cases h30 : 30 < l.length
  · have d := decide_eq_true (show (30 : Int) < (l.length : Int) by omega)
    have d2 := decide_eq_true h30
    clear h30
    go_enter Try.func7, Try.ntmps7
    go_wp2_with (first | ((with_reducible refine gate_dst (N := 2) rfl ?_); refine box_event ?hg (N := 2) ?hd (cs := #[.int .i64 z, .int .i64 x, .int .i64 y]) (t := 23) ?hr ?_; (case hd => rfl); (case hg => rfl); (case hr => first | (go_simp; done) | (go_simp; rfl)); intro g2 hg w2 hbox hb; replace S := Aside0.mk (S.out.box hg hbox hb); have k2_0 := blk_cell hbox 0; have k2_1 := blk_cell hbox 1; have k2_2 := blk_cell hbox 2; simp only [List.getElem?_toArray, List.getElem?_cons_zero, List.getElem?_cons_succ] at k2_0 k2_1 k2_2; clear hbox hb hg) | (go_at_call 12; (with_reducible refine (lives_c _).mono ?_); rintro e_ wL ⟨rfl, hb⟩; replace S := Aside0.mk (S.out.step hb); clear hb))
    go_ret
    exact ⟨rfl, S.out.below⟩
  · have d := decide_eq_false (show ¬ (30 : Int) < (l.length : Int) by omega)
    have d2 := decide_eq_false h30
    have HL2 : Aside0 (l.length ≤ 30) := ⟨by omega⟩
    have HL : Aside0 (l.length ≤ 1000) := ⟨by omega⟩
    have hok := lineQ_ok (z := z) (x := x) (y := y) (l := l)
    have hlen := lineQ_length z x y l (by omega)
    obtain ⟨ps, hps⟩ : ∃ ps, lineQ z x y l = ps := ⟨_, rfl⟩
    rw [hps] at hok hlen
    have HQ := Aside0.mk hps
    have HOKS := Aside0.mk hok
    have HLEN := Aside0.mk hlen
    obtain ⟨hq1, hqs⟩ := areaQ_one (z := z) (x := x) (y := y) (l := l)
    have hqlen : ∀ q ∈ areaQ z x y [l], q.length ≤ 1000000 := by
      intro q hq
      unfold areaQ at hq
      split at hq
      · obtain ⟨r, h1, rfl, _⟩ := areasQ_mem hq
        obtain rfl := List.mem_singleton.1 h1
        have := ringQ_len z x y r
        omega
      · cases hq
    obtain ⟨qs, hqe⟩ : ∃ qs, areaQ z x y [l] = qs := ⟨_, rfl⟩
    rw [hqe] at hq1 hqs hqlen
    have HA := Aside0.mk hqe
    have HA1 := Aside0.mk hq1
    have HAS := Aside0.mk hqs
    have HAL := Aside0.mk hqlen
    clear h30 hps hok hlen hqe hq1 hqs hqlen
    go_enter Try.func7, Try.ntmps7
    go_wp2_with (first | ((with_reducible refine gate_dst (N := 2) rfl ?_); refine box_event ?hg (N := 2) ?hd (cs := #[.int .i64 z, .int .i64 x, .int .i64 y]) (t := 23) ?hr ?_; (case hd => rfl); (case hg => rfl); (case hr => first | (go_simp; done) | (go_simp; rfl)); intro g2 hg w2 hbox hb; replace S := Aside0.mk (S.out.box hg hbox hb); have k2_0 := blk_cell hbox 0; have k2_1 := blk_cell hbox 1; have k2_2 := blk_cell hbox 2; simp only [List.getElem?_toArray, List.getElem?_cons_zero, List.getElem?_cons_succ] at k2_0 k2_1 k2_2; clear hbox hb hg) | (go_at_call 14; have X_ := qline_s z x y l (.slice A l.length c) w2 (HR.out.step S.out.below) HL.out; rw [HQ.out] at X_; (with_reducible refine X_.mono ?_); clear X_; rintro e_ w15 ⟨v15, rfl, ho, hb⟩; obtain ⟨A15, c15, e15⟩ := Kd.R_slice ho; subst e15; replace S := Aside0.mk (S.out.own ho hb); clear ho hb; clear k2_0 k2_1 k2_2))
    go_loopg [6] (ps.length + 1) (fun kq v6 w' => ∃ (i : Nat), v6 = .int .i64 i ∧ Aside0 (kq + i = ps.length + 1) ∧ Aside0 (i ≤ ps.length) ∧ Aside0 (Sep w w' [Own _ kL 30 (.slice A15 ps.length c15) ps, Box _ g2 23 #[.int .i64 z, .int .i64 x, .int .i64 y]]))
    case atStart => exact ⟨0, rfl, ⟨rfl⟩, ⟨Nat.zero_le _⟩, S⟩
    case round =>
      clear S
      obtain ⟨i, rfl, K, IL, S⟩ := hrel
      cases gk with
      | zero => exact absurd K.out (by have := IL.out; omega)
      | succ k1 =>
      by_cases hi : i < ps.length
      · have d := decide_eq_true (show (i : Int) < (ps.length : Int) by omega)
        obtain ⟨A', c', e', hc', hC'⟩ := S.out.own_reads 0 rfl
        injection e' with ha hb' hc''
        subst ha hc''
        clear hb'
        obtain ⟨ad, A0, c0, rfl, hcell, hc0, hC0⟩ := seen_at (c := 1) hC' i hi
        obtain ⟨p, hp⟩ : ∃ p, ps[i] = p := ⟨_, rfl⟩
        have hmem : p ∈ ps := by rw [← hp]; exact List.getElem_mem hi
        rw [hp] at hcell hc0 hC0
        have HC0 := Aside0.mk hC0
        have HC1 := Aside0.mk hc0
        have HLP := Aside0.mk (HLEN.out.2 p hmem)
        have HOK := Aside0.mk (HOKS.out p hmem).2
        have h2 := (HOKS.out p hmem).1
        have dl := decide_eq_false (show ¬ (p.length : Int) < 2 by omega)
        have dl2 := decide_eq_false (show ¬ p.length < 2 by omega)
        have i0 : (0 : Int) ≤ (i : Int) := by omega
        have i1 : (i : Int) < (ps.length : Int) := by omega
        have hpsl := HLEN.out.1
        clear hC0 hc0 hp hmem h2 hC' hc'
        go_wp2_with (first | (go_at_call 19; (with_reducible refine (within_s p A0 c0 _ HC0.out HC1.out HLP.out HOK.out).mono ?_); rintro e_ w33 ⟨rfl, hd⟩; have hb := pw_drawn_below hd; replace S := Aside0.mk (S.out.step hb); clear hb hd))
        go_roundg k1
        case measure => omega
        case rel => exact ⟨i + 1, by first | rfl | (rw [show wrap64 ((i : Int) + 1) = ((i + 1 : Nat) : Int) from by unfold wrap64; omega]) | (simp only [i64_w]; rw [show wrap64 ((i : Int) + 1) = ((i + 1 : Nat) : Int) from by unfold wrap64; omega]), ⟨by have := K.out; omega⟩, ⟨by omega⟩, S⟩
      · have d := decide_eq_false (show ¬ (i : Int) < (ps.length : Int) by omega)
        replace S := Aside0.mk (show Sep w wr [Box _ g2 23 #[.int .i64 z, .int .i64 x, .int .i64 y]] from S.out.drop 0)
        have k2_0 := blk_cell (S.out.at_box 0 rfl) 0
        have k2_1 := blk_cell (S.out.at_box 0 rfl) 1
        have k2_2 := blk_cell (S.out.at_box 0 rfl) 2
        simp only [List.getElem?_toArray, List.getElem?_cons_zero, List.getElem?_cons_succ] at k2_0 k2_1 k2_2
        go_wp2_with (first | (go_at_call 17; (with_reducible refine (area_one z x y l A c wr (Kd.C_below HC.out S.out.below) HCC.out HL2.out).mono ?_); rintro e_ w39 ⟨v39, rfl, ho, hb⟩; replace S := Aside0.mk (S.out.step (below_alloc (Below.refl _ _) (.cells #[.slice A l.length c] 30))); rw [HA.out] at ho; obtain ⟨A39, c39, e39⟩ := Kd.R_slice ho; subst e39; replace S := Aside0.mk (S.out.own ho hb); clear ho hb; clear k2_0 k2_1 k2_2))
        go_loopg [8] (qs.length + 1) (fun kq v8 w' => ∃ (i : Nat), v8 = .int .i64 i ∧ Aside0 (kq + i = qs.length + 1) ∧ Aside0 (i ≤ qs.length) ∧ Aside0 (Sep w w' [Own _ kL 30 (.slice A39 qs.length c39) qs, Box _ g2 23 #[.int .i64 z, .int .i64 x, .int .i64 y]]))
        case atStart => exact ⟨0, rfl, ⟨rfl⟩, ⟨Nat.zero_le _⟩, S⟩
        case round =>
          clear S
          obtain ⟨i, rfl, K2, IL2, S⟩ := hrel
          cases gk with
          | zero => exact absurd K2.out (by have := IL2.out; omega)
          | succ k2 =>
          by_cases hi : i < qs.length
          · have d := decide_eq_true (show (i : Int) < (qs.length : Int) by omega)
            obtain ⟨A', c', e', hc', hC'⟩ := S.out.own_reads 0 rfl
            injection e' with ha hb' hc''
            subst ha hc''
            clear hb'
            obtain ⟨ad, A0, c0, rfl, hcell, hc0, hC0⟩ := seen_at (c := 1) hC' i hi
            obtain ⟨q, hq⟩ : ∃ q, qs[i] = q := ⟨_, rfl⟩
            have hmem : q ∈ qs := by rw [← hq]; exact List.getElem_mem hi
            rw [hq] at hcell hc0 hC0
            obtain ⟨g3, gok, gend⟩ := HAS.out q hmem
            have HLP := Aside0.mk (HAL.out q hmem)
            have HOK := Aside0.mk gok
            have HC0 := Aside0.mk hC0
            have HC1 := Aside0.mk hc0
            have hw1 : wrap64 ((q.length : Int) - 1) = ((q.length - 1 : Nat) : Int) := by have := HLP.out; unfold wrap64; omega
            have hw2 : IntKind.i64.wrap ((q.length : Int) - 1) = ((q.length - 1 : Nat) : Int) := by simp only [i64_w]; exact hw1
            obtain ⟨ad2, rfl, hp0, hp1⟩ := at_T25 hC0 ((0 : Nat) : Int) (by omega) (by omega)
            obtain ⟨ad3, e3, hq0, hq1⟩ := at_T25 hC0 ((q.length - 1 : Nat) : Int) (by omega) (by omega)
            obtain rfl : ad2 = ad3 := by injection e3
            obtain ⟨⟨a0, a1⟩, hpa⟩ : ∃ a, rd_T25 q ((0 : Nat) : Int) = a := ⟨_, rfl⟩
            obtain ⟨⟨b0, b1⟩, hpb⟩ : ∃ a, rd_T25 q ((q.length - 1 : Nat) : Int) = a := ⟨_, rfl⟩
            rw [hpa] at hp0 hp1 gend
            rw [hpb] at hq0 hq1 gend
            have de : (a0 == b0 && a1 == b1) = false := by
              rw [← gend]; unfold eqp; dsimp only
              rw [Bool.beq_comm (a := a0), Bool.beq_comm (a := a1)]
            have dl := decide_eq_false (show ¬ (q.length : Int) < 3 by omega)
            have dl2 := decide_eq_false (show ¬ q.length < 3 by omega)
            have i0 : (0 : Int) ≤ (i : Int) := by omega
            have i1 : (i : Int) < (qs.length : Int) := by omega
            have j1 : (0 : Int) < (q.length : Int) := by omega
            have j2 : ((q.length - 1 : Nat) : Int) < (q.length : Int) := by omega
            have j1' : 0 < q.length := by omega
            have j2' : q.length - 1 < q.length := by omega
            have j3 : (0 : Int) ≤ ((q.length - 1 : Nat) : Int) := by omega
            have hpsl := HA1.out
            replace hp0 : wr.cell? ad2 = some (Value.int .i64 a0) := hp0
            replace hp1 : wr.cell? ⟨ad2.block, ad2.off + 1, none⟩ = some (Value.int .i64 a1) := hp1
            replace hq0 : wr.cell? (ad2.add ((q.length - 1) * 2)) = some (Value.int .i64 b0) := hq0
            replace hq1 : wr.cell? ⟨(ad2.add ((q.length - 1) * 2)).block, (ad2.add ((q.length - 1) * 2)).off + 1, none⟩ = some (Value.int .i64 b1) := hq1
            clear hC0 hc0 hq hmem hC' hc' gok gend hpa hpb e3 g3
            by_cases h0 : a0 = b0
            · subst h0
              have h1 : ¬ a1 = b1 := fun h => by subst h; simp at de
              have e1 : (a1 == b1) = false := beq_eq_false_iff_ne.2 h1
              go_upto_region 13 with (first | fail)
              go_quiet (first | (go_at_call 19; exact Calls.quiet_of ((within_s q (some ad2) c0 _ (Kd.C_below HC0.out (pw_below_drewN (Below.refl _ _) _)) HC1.out HLP.out HOK.out).mono (fun _ _ h => ⟨h.1, h.2.out⟩))))
              go_wp2
              go_roundg k2
              case measure => omega
              case rel => exact ⟨i + 1, by first | rfl | (rw [show wrap64 ((i : Int) + 1) = ((i + 1 : Nat) : Int) from by unfold wrap64; omega]) | (simp only [i64_w]; rw [show wrap64 ((i : Int) + 1) = ((i + 1 : Nat) : Int) from by unfold wrap64; omega]), ⟨by have := K2.out; omega⟩, ⟨by omega⟩, ⟨S.out.drewN _⟩⟩
            · have e0 : (a0 == b0) = false := beq_eq_false_iff_ne.2 h0
              go_upto_region 13 with (first | fail)
              go_quiet (first | (go_at_call 19; exact Calls.quiet_of ((within_s q (some ad2) c0 _ (Kd.C_below HC0.out (pw_below_drewN (Below.refl _ _) _)) HC1.out HLP.out HOK.out).mono (fun _ _ h => ⟨h.1, h.2.out⟩))))
              go_wp2
              go_roundg k2
              case measure => omega
              case rel => exact ⟨i + 1, by first | rfl | (rw [show wrap64 ((i : Int) + 1) = ((i + 1 : Nat) : Int) from by unfold wrap64; omega]) | (simp only [i64_w]; rw [show wrap64 ((i : Int) + 1) = ((i + 1 : Nat) : Int) from by unfold wrap64; omega]), ⟨by have := K2.out; omega⟩, ⟨by omega⟩, ⟨S.out.drewN _⟩⟩
          · have d := decide_eq_false (show ¬ (i : Int) < (qs.length : Int) by omega)
            have dq := decide_eq_true (show (qs.length : Int) ≤ 1 by have := HA1.out; omega)
            have dq2 := decide_eq_true HA1.out
            go_wp2_with (first | (go_at_call 12; (with_reducible refine (lives_c _).mono ?_); rintro e_ wL ⟨rfl, hb⟩; replace S := Aside0.mk (S.out.step hb); clear hb))
            go_ret
            exact ⟨rfl, S.out.below⟩
end Go.Proofs.Ytdkegdnfbpobnaa.Hand
