import Derived.Test.YtopapknfpoandaaDoorPALLx2
import Derived.Test.YtopapknfpoandaaDoorWSep
namespace Go.Proofs.YtopapknfpoandaaDoor.Hand
open Go.RowKit Go.Proofs.YtopapknfpoandaaDoorW.PrintWords Go.Proofs.YtopapknfpoandaaDoorW.PrintLast Go.Proofs.YtopapknfpoandaaDoorW.PrintMore Go.Proofs.YtopapknfpoandaaDoorW.SepW Go.Proofs.YtopapknfpoandaaDoor.PALL
set_option linter.unusedVariables false
set_option linter.unusedSimpArgs false
/-- The variable 'least' reads as laid. -/
def Least (w : World) : Prop := w.cell? ⟨0, 0, none⟩ = some (.int .i64 0) ∧ w.cell? ⟨0, 1, none⟩ = some (.int .i64 1) ∧ w.cell? ⟨0, 2, none⟩ = some (.int .i64 2) ∧ w.cell? ⟨0, 3, none⟩ = some (.int .i64 3)
theorem Least.step {w w1 : World} (h : Least w) (hb : Below w.heap.size w w1) : Least w1 :=
  ⟨pw_cell_below hb h.1, pw_cell_below hb h.2.1, pw_cell_below hb h.2.2.1, pw_cell_below hb h.2.2.2⟩
def badP (p : S44) : Prop := p.f0 < 0 ∨ 256 < p.f0 ∨ p.f1 < 0 ∨ 256 < p.f1
instance (p : S44) : Decidable (badP p) := by unfold badP; infer_instance
def partS (kind : Int) (part : List S44) : Int :=
  if (part.length : Int) < kind ∨ (kind = 1 ∧ 1 < part.length) then 12 else if 8000 < part.length then 5 else if ∃ p ∈ part, badP p then 2 else 0
def partsS (kind : Int) : List (List S44) → Int
  | [] => 0
  | p :: t => if partS kind p = 0 then partsS kind t else partS kind p
def checkS (kind : Int) (parts : List (List S44)) : Int := if kind < 1 ∨ 3 < kind then 1 else if parts = [] then 15 else partsS kind parts
theorem parts_at {kind : Int} {parts : List (List S44)} {i : Nat} (h : i < parts.length) : partsS kind (parts.drop i) = if partS kind (rd_L2 parts (i : Int)) = 0 then partsS kind (parts.drop (i + 1)) else partS kind (rd_L2 parts (i : Int)) := by
  rw [List.drop_eq_getElem_cons h, partsS]
  have : rd_L2 parts (i : Int) = parts[i] := by simp [rd_L2, h]
  rw [this]
theorem wrap_next (x : Int) (i : Nat) (h : x = i) (hi : i ≤ 140737488351232) : wrap64 (x + 1) = ((i + 1 : Nat) : Int) := by unfold wrap64; omega
theorem part_at {part : List S44} {j : Nat} (h : j < part.length) : rd_T44 part (j : Int) = part[j] := by simp [rd_T44, h]
set_option maxHeartbeats 4000000 in
set_option maxRecDepth 100000 in
theorem check_out (kind : Int) (parts : List (List S44)) (A : Option Addr) (c : Nat) (w : World) (hk : kind < 1 ∨ 3 < kind) :
    Calls Tryd.prog 11 #[.agg #[.int .i64 kind, .slice A parts.length c]] w fun e w' => e = .returned (.int .i64 1) ∧ Below w.heap.size w w' := by
  have S := Aside0.mk (Sep.start w)
  have hu24 := Tryd.underlying24
  by_cases h : kind < 1
  · have d := decide_eq_true h
    clear hk
    go_enter Tryd.func11, Tryd.ntmps11
    go_wp2_with (first | ((with_reducible refine gate_dst (N := 1) rfl ?_); refine box_event ?hg (N := 1) ?hd (cs := #[.int .i64 kind, .slice A parts.length c]) (t := 24) ?hr ?_; (case hd => rfl); (case hg => rfl); (case hr => first | (go_simp; done) | (go_simp; rfl)); intro g1 hg w1 hbox hb; replace S := Aside0.mk (S.out.box hg hbox hb); clear hbox hb hg; have k0 := blk_cell (S.out.at_box 0 rfl) 0; have k1 := blk_cell (S.out.at_box 0 rfl) 1; simp only [List.getElem?_toArray, List.getElem?_cons_zero, List.getElem?_cons_succ] at  k0 k1))
    go_ret
    exact ⟨rfl, S.out.below⟩
  · have d := decide_eq_false h
    have d2 : decide (3 < kind) = true := decide_eq_true (by omega)
    clear hk
    go_enter Tryd.func11, Tryd.ntmps11
    go_wp2_with (first | ((with_reducible refine gate_dst (N := 1) rfl ?_); refine box_event ?hg (N := 1) ?hd (cs := #[.int .i64 kind, .slice A parts.length c]) (t := 24) ?hr ?_; (case hd => rfl); (case hg => rfl); (case hr => first | (go_simp; done) | (go_simp; rfl)); intro g1 hg w1 hbox hb; replace S := Aside0.mk (S.out.box hg hbox hb); clear hbox hb hg; have k0 := blk_cell (S.out.at_box 0 rfl) 0; have k1 := blk_cell (S.out.at_box 0 rfl) 1; simp only [List.getElem?_toArray, List.getElem?_cons_zero, List.getElem?_cons_succ] at  k0 k1))
    go_ret
    exact ⟨rfl, S.out.below⟩
set_option maxHeartbeats 4000000 in
set_option maxRecDepth 100000 in
theorem check_1 (parts : List (List S44)) (A : Option Addr) (c : Nat) (w : World) (hG : Least w) (hr : Kd.C (Kd.slice 44 k44) w A parts.length parts) (hc : parts.length ≤ c) (hL : parts.length ≤ 140737488351232) :
    Calls Tryd.prog 11 #[.agg #[.int .i64 1, .slice A parts.length c]] w fun e w' => e = .returned (.int .i64 (if parts = [] then 15 else partsS 1 parts)) ∧ Below w.heap.size w w' := by
  have S := Aside0.mk (Sep.start w)
  have hu24 := Tryd.underlying24
  have hu44 := Tryd.underlying44
  have hu50 := Tryd.underlying50
  have HR := Aside0.mk hr
  clear hr
  by_cases hp : parts = []
  · rw [if_pos hp]
    subst hp
    go_enter Tryd.func11, Tryd.ntmps11
    go_wp2_with (first | ((with_reducible refine gate_dst (N := 1) rfl ?_); refine box_event ?hg (N := 1) ?hd (cs := #[.int .i64 1, .slice A 0 c]) (t := 24) ?hr ?_; (case hd => rfl); (case hg => rfl); (case hr => first | (go_simp; done) | (go_simp; rfl)); intro g1 hg w1 hbox hb; replace S := Aside0.mk (S.out.box hg hbox hb); clear hbox hb hg; have k0 := blk_cell (S.out.at_box 0 rfl) 0; have k1 := blk_cell (S.out.at_box 0 rfl) 1; simp only [List.getElem?_toArray, List.getElem?_cons_zero, List.getElem?_cons_succ] at  k0 k1))
    go_ret
    exact ⟨rfl, S.out.below⟩
  · rw [if_neg hp]
    have hp1 : 1 ≤ parts.length := by
      rcases Nat.eq_zero_or_pos parts.length with h | h
      · exact absurd (List.length_eq_zero_iff.1 h) hp
      · exact h
    have hp0 : ((parts.length : Int) == 0) = false := beq_eq_false_iff_ne.2 (by omega)
    clear hp
    go_enter Tryd.func11, Tryd.ntmps11
    go_wp2_with (first | ((with_reducible refine gate_dst (N := 1) rfl ?_); refine box_event ?hg (N := 1) ?hd (cs := #[.int .i64 1, .slice A parts.length c]) (t := 24) ?hr ?_; (case hd => rfl); (case hg => rfl); (case hr => first | (go_simp; done) | (go_simp; rfl)); intro g1 hg w1 hbox hb; replace S := Aside0.mk (S.out.box hg hbox hb); clear hbox hb hg; have k0 := blk_cell (S.out.at_box 0 rfl) 0; have k1 := blk_cell (S.out.at_box 0 rfl) 1; simp only [List.getElem?_toArray, List.getElem?_cons_zero, List.getElem?_cons_succ] at  k0 k1))
    go_loopg [24] (parts.length + 1) (fun kq v24 w' => ∃ (i : Nat) (x : Int), v24 = .int .i64 x ∧ Aside0 (x = i) ∧ Aside0 (kq + i = parts.length + 1) ∧ Aside0 (i ≤ parts.length) ∧ Aside0 (partsS 1 (parts.drop i) = partsS 1 parts) ∧ Aside0 (Sep w w' [Box _ g1 24 #[.int .i64 1, .slice A parts.length c]]))
    case atStart => exact ⟨0, 0, rfl, ⟨rfl⟩, ⟨rfl⟩, ⟨Nat.zero_le _⟩, ⟨rfl⟩, S⟩
    case round =>
      clear S k0 k1
      obtain ⟨i, x, rfl, X, K, IL, PS, S⟩ := hrel
      cases gk with
      | zero => exact absurd K.out (by have := IL.out; omega)
      | succ q1 =>
      by_cases hi : i < parts.length
      · have hx0 : 0 ≤ x := by rw [X.out]; omega
        have hx1 : x < (parts.length : Int) := by rw [X.out]; omega
        have d := decide_eq_true hx1
        obtain ⟨ad, A0, c0, rfl, hcell, hl0, hC0⟩ := at_L2 HR.out x hx0 hx1
        have HC0 := Aside0.mk hC0
        have HPA := Aside0.mk (parts_at (kind := 1) hi)
        rw [← X.out] at HPA
        replace hcell := (S.out.below.cell (World.block_lt_of_cell? w _ hcell)).trans hcell
        have G1 := (hG.step S.out.below).2.1
        have k0 := blk_cell (S.out.at_box 0 rfl) 0
        simp only [List.getElem?_toArray, List.getElem?_cons_zero, List.getElem?_cons_succ] at  k0
        clear hC0
        obtain ⟨part, hpart⟩ : ∃ part, rd_L2 parts x = part := ⟨_, rfl⟩
        rw [hpart] at hcell hl0 HC0 HPA
        clear hpart
        replace hx0 := eq_true hx0
        replace hx1 := eq_true hx1
        by_cases hs : (part.length : Int) < 1
        · have hs1 := decide_eq_true hs
          have hs2 : decide (part.length < 1) = true := decide_eq_true (by omega)
          have hv : partS 1 part = 12 := by unfold partS; rw [if_pos (by omega)]
          have HRES : Aside0 (partsS 1 parts = 12) := ⟨by rw [← PS.out, HPA.out, if_neg (by rw [hv]; decide), hv]⟩
          clear hv
          go_wp2
          go_ret
          exact ⟨by rw [HRES.out]; rfl, S.out.below⟩
        · have hs1 := decide_eq_false hs
          have hs2 : decide (part.length < 1) = false := decide_eq_false (by omega)
          by_cases h1 : 1 < part.length
          · have h1b : decide (1 < (part.length : Int)) = true := decide_eq_true (by omega)
            have h1c := decide_eq_true h1
            have hv : partS 1 part = 12 := by unfold partS; rw [if_pos (by omega)]
            have HRES : Aside0 (partsS 1 parts = 12) := ⟨by rw [← PS.out, HPA.out, if_neg (by rw [hv]; decide), hv]⟩
            clear hv
            go_wp2
            go_ret
            exact ⟨by rw [HRES.out]; rfl, S.out.below⟩
          · have h1b : decide (1 < (part.length : Int)) = false := decide_eq_false (by omega)
            have h1c := decide_eq_false h1
            have h8 : ¬ 8000 < part.length := by omega
            have h8b : decide (8000 < (part.length : Int)) = false := decide_eq_false (by omega)
            have h8c := decide_eq_false h8
            have hl9 : part.length ≤ 8000 := by omega
            clear h8b h8c
            go_wp2
            go_loopg [52] (part.length + 1) (fun kq v52 w' => ∃ (j : Nat) (y : Int), v52 = .int .i64 y ∧ Aside0 (y = j) ∧ Aside0 (kq + j = part.length + 1) ∧ Aside0 (j ≤ part.length) ∧ Aside0 (∀ m (h : m < j) (h2 : m < part.length), ¬ badP part[m]) ∧ Aside0 (Sep w w' [Box _ g1 24 #[.int .i64 1, .slice (some ad) parts.length c]]))
            case atStart => exact ⟨0, 0, rfl, ⟨rfl⟩, ⟨rfl⟩, ⟨Nat.zero_le _⟩, ⟨fun m h => by omega⟩, S⟩
            case round =>
              clear S k0 G1 hcell
              obtain ⟨j, y, rfl, Y, KJ, JL, OK, S⟩ := hrel
              cases gk with
              | zero => exact absurd KJ.out (by have := JL.out; omega)
              | succ q2 =>
              by_cases hj : j < part.length
              · have hy0 : 0 ≤ y := by rw [Y.out]; omega
                have hy1 : y < (part.length : Int) := by rw [Y.out]; omega
                have dj := decide_eq_true hy1
                obtain ⟨ad2, rfl, hp0, hp1⟩ := at_T44 HC0.out y hy0 hy1
                replace hp0 := (S.out.below.cell (World.block_lt_of_cell? w _ hp0)).trans hp0
                replace hp1 := (S.out.below.cell (World.block_lt_of_cell? w _ hp1)).trans hp1
                obtain ⟨p, hpp⟩ : ∃ p, rd_T44 part y = p := ⟨_, rfl⟩
                rw [hpp] at hp0 hp1
                have HP : Aside0 (p = part[j]) := ⟨by rw [← hpp, Y.out, part_at hj]⟩
                clear hpp
                replace hy0 := eq_true hy0
                replace hy1 := eq_true hy1
                by_cases a1 : p.f0 < 0
                · have e1 := decide_eq_true a1
                  have hv : partS 1 part = 2 := by unfold partS; rw [if_neg (by omega), if_neg h8, if_pos ⟨_, List.getElem_mem hj, by rw [← HP.out]; unfold badP; omega⟩]
                  have HRES : Aside0 (partsS 1 parts = 2) := ⟨by rw [← PS.out, HPA.out, if_neg (by rw [hv]; decide), hv]⟩
                  clear hv
                  go_wp2_with (first | ((with_reducible refine gate_dst (N := 6) rfl ?_); refine box_event ?hg (N := 6) ?hd (cs := #[.int .i64 0, .int .i64 0]) (t := 44) ?hr ?_; (case hd => rfl); (case hg => rfl); (case hr => first | (go_simp; done) | (go_simp; rfl)); intro g6 hg w6 hbox hb; have y0 := pw_cell_below hb hp0; have y1 := pw_cell_below hb hp1; replace S := Aside0.mk (((S.out.box hg hbox hb).set 0 rfl 0 (.int .i64 p.f0)).set 0 rfl 1 (.int .i64 p.f1)); have z0 := blk_cell hbox 0; have z1 := blk_cell hbox 1; have y2 := blk_frozen hbox 0; have y3 := blk_frozen hbox 1; clear hbox hb hg; simp only [List.getElem?_toArray, List.getElem?_cons_zero, List.getElem?_cons_succ] at z0 z1))
                  go_ret
                  exact ⟨by rw [HRES.out]; rfl, S.out.below⟩
                · have e1 := decide_eq_false a1
                  by_cases a2 : 256 < p.f0
                  · have e2 := decide_eq_true a2
                    have hv : partS 1 part = 2 := by unfold partS; rw [if_neg (by omega), if_neg h8, if_pos ⟨_, List.getElem_mem hj, by rw [← HP.out]; unfold badP; omega⟩]
                    have HRES : Aside0 (partsS 1 parts = 2) := ⟨by rw [← PS.out, HPA.out, if_neg (by rw [hv]; decide), hv]⟩
                    clear hv
                    go_wp2_with (first | ((with_reducible refine gate_dst (N := 6) rfl ?_); refine box_event ?hg (N := 6) ?hd (cs := #[.int .i64 0, .int .i64 0]) (t := 44) ?hr ?_; (case hd => rfl); (case hg => rfl); (case hr => first | (go_simp; done) | (go_simp; rfl)); intro g6 hg w6 hbox hb; have y0 := pw_cell_below hb hp0; have y1 := pw_cell_below hb hp1; replace S := Aside0.mk (((S.out.box hg hbox hb).set 0 rfl 0 (.int .i64 p.f0)).set 0 rfl 1 (.int .i64 p.f1)); have z0 := blk_cell hbox 0; have z1 := blk_cell hbox 1; have y2 := blk_frozen hbox 0; have y3 := blk_frozen hbox 1; clear hbox hb hg; simp only [List.getElem?_toArray, List.getElem?_cons_zero, List.getElem?_cons_succ] at z0 z1))
                    go_ret
                    exact ⟨by rw [HRES.out]; rfl, S.out.below⟩
                  · have e2 := decide_eq_false a2
                    by_cases a3 : p.f1 < 0
                    · have e3 := decide_eq_true a3
                      have hv : partS 1 part = 2 := by unfold partS; rw [if_neg (by omega), if_neg h8, if_pos ⟨_, List.getElem_mem hj, by rw [← HP.out]; unfold badP; omega⟩]
                      have HRES : Aside0 (partsS 1 parts = 2) := ⟨by rw [← PS.out, HPA.out, if_neg (by rw [hv]; decide), hv]⟩
                      clear hv
                      go_wp2_with (first | ((with_reducible refine gate_dst (N := 6) rfl ?_); refine box_event ?hg (N := 6) ?hd (cs := #[.int .i64 0, .int .i64 0]) (t := 44) ?hr ?_; (case hd => rfl); (case hg => rfl); (case hr => first | (go_simp; done) | (go_simp; rfl)); intro g6 hg w6 hbox hb; have y0 := pw_cell_below hb hp0; have y1 := pw_cell_below hb hp1; replace S := Aside0.mk (((S.out.box hg hbox hb).set 0 rfl 0 (.int .i64 p.f0)).set 0 rfl 1 (.int .i64 p.f1)); have z0 := blk_cell hbox 0; have z1 := blk_cell hbox 1; have y2 := blk_frozen hbox 0; have y3 := blk_frozen hbox 1; clear hbox hb hg; simp only [List.getElem?_toArray, List.getElem?_cons_zero, List.getElem?_cons_succ] at z0 z1))
                      go_ret
                      exact ⟨by rw [HRES.out]; rfl, S.out.below⟩
                    · have e3 := decide_eq_false a3
                      by_cases a4 : 256 < p.f1
                      · have e4 := decide_eq_true a4
                        have hv : partS 1 part = 2 := by unfold partS; rw [if_neg (by omega), if_neg h8, if_pos ⟨_, List.getElem_mem hj, by rw [← HP.out]; unfold badP; omega⟩]
                        have HRES : Aside0 (partsS 1 parts = 2) := ⟨by rw [← PS.out, HPA.out, if_neg (by rw [hv]; decide), hv]⟩
                        clear hv
                        go_wp2_with (first | ((with_reducible refine gate_dst (N := 6) rfl ?_); refine box_event ?hg (N := 6) ?hd (cs := #[.int .i64 0, .int .i64 0]) (t := 44) ?hr ?_; (case hd => rfl); (case hg => rfl); (case hr => first | (go_simp; done) | (go_simp; rfl)); intro g6 hg w6 hbox hb; have y0 := pw_cell_below hb hp0; have y1 := pw_cell_below hb hp1; replace S := Aside0.mk (((S.out.box hg hbox hb).set 0 rfl 0 (.int .i64 p.f0)).set 0 rfl 1 (.int .i64 p.f1)); have z0 := blk_cell hbox 0; have z1 := blk_cell hbox 1; have y2 := blk_frozen hbox 0; have y3 := blk_frozen hbox 1; clear hbox hb hg; simp only [List.getElem?_toArray, List.getElem?_cons_zero, List.getElem?_cons_succ] at z0 z1))
                        go_ret
                        exact ⟨by rw [HRES.out]; rfl, S.out.below⟩
                      · have e4 := decide_eq_false a4
                        go_wp2_with (first | ((with_reducible refine gate_dst (N := 6) rfl ?_); refine box_event ?hg (N := 6) ?hd (cs := #[.int .i64 0, .int .i64 0]) (t := 44) ?hr ?_; (case hd => rfl); (case hg => rfl); (case hr => first | (go_simp; done) | (go_simp; rfl)); intro g6 hg w6 hbox hb; have y0 := pw_cell_below hb hp0; have y1 := pw_cell_below hb hp1; replace S := Aside0.mk (((S.out.box hg hbox hb).set 0 rfl 0 (.int .i64 p.f0)).set 0 rfl 1 (.int .i64 p.f1)); have z0 := blk_cell hbox 0; have z1 := blk_cell hbox 1; have y2 := blk_frozen hbox 0; have y3 := blk_frozen hbox 1; clear hbox hb hg; simp only [List.getElem?_toArray, List.getElem?_cons_zero, List.getElem?_cons_succ] at z0 z1))
                        go_roundg q2
                        case measure => omega
                        case rel =>
                          refine ⟨j + 1, wrap64 (y + 1), rfl, ⟨wrap_next y j Y.out (by omega)⟩, ⟨by have := KJ.out; omega⟩, ⟨by omega⟩, ⟨fun m h h2 => ?_⟩, ⟨S.out.drop 0⟩⟩
                          rcases Nat.lt_or_ge m j with h3 | h3
                          · exact OK.out m h3 h2
                          · obtain rfl : m = j := by omega
                            rw [← HP.out]; unfold badP; omega
              · have dj := decide_eq_false (show ¬ y < (part.length : Int) by rw [Y.out]; omega)
                obtain rfl : j = part.length := by have := JL.out; omega
                have hv : partS 1 part = 0 := by
                  unfold partS
                  rw [if_neg (by omega), if_neg h8, if_neg (by rintro ⟨p, hp, hb⟩; obtain ⟨m, hm, rfl⟩ := List.mem_iff_getElem.1 hp; exact OK.out m hm hm hb)]
                go_wp2
                go_roundg q1
                case measure => omega
                case rel =>
                  exact ⟨i + 1, wrap64 (x + 1), rfl, ⟨wrap_next x i X.out (by omega)⟩, ⟨by have := K.out; omega⟩, ⟨by omega⟩, ⟨by rw [← PS.out, HPA.out, if_pos hv]⟩, S⟩
      · have d := decide_eq_false (show ¬ x < (parts.length : Int) by rw [X.out]; omega)
        obtain rfl : i = parts.length := by have := IL.out; omega
        have hz := PS.out
        rw [List.drop_length] at hz
        go_wp2
        go_ret
        exact ⟨by rw [← hz]; rfl, S.out.below⟩
set_option maxHeartbeats 4000000 in
set_option maxRecDepth 100000 in
theorem check_2 (parts : List (List S44)) (A : Option Addr) (c : Nat) (w : World) (hG : Least w) (hr : Kd.C (Kd.slice 44 k44) w A parts.length parts) (hc : parts.length ≤ c) (hL : parts.length ≤ 140737488351232) :
    Calls Tryd.prog 11 #[.agg #[.int .i64 2, .slice A parts.length c]] w fun e w' => e = .returned (.int .i64 (if parts = [] then 15 else partsS 2 parts)) ∧ Below w.heap.size w w' := by
  have S := Aside0.mk (Sep.start w)
  have hu24 := Tryd.underlying24
  have hu44 := Tryd.underlying44
  have hu50 := Tryd.underlying50
  have HR := Aside0.mk hr
  clear hr
  by_cases hp : parts = []
  · rw [if_pos hp]
    subst hp
    go_enter Tryd.func11, Tryd.ntmps11
    go_wp2_with (first | ((with_reducible refine gate_dst (N := 1) rfl ?_); refine box_event ?hg (N := 1) ?hd (cs := #[.int .i64 2, .slice A 0 c]) (t := 24) ?hr ?_; (case hd => rfl); (case hg => rfl); (case hr => first | (go_simp; done) | (go_simp; rfl)); intro g1 hg w1 hbox hb; replace S := Aside0.mk (S.out.box hg hbox hb); clear hbox hb hg; have k0 := blk_cell (S.out.at_box 0 rfl) 0; have k1 := blk_cell (S.out.at_box 0 rfl) 1; simp only [List.getElem?_toArray, List.getElem?_cons_zero, List.getElem?_cons_succ] at  k0 k1))
    go_ret
    exact ⟨rfl, S.out.below⟩
  · rw [if_neg hp]
    have hp1 : 1 ≤ parts.length := by
      rcases Nat.eq_zero_or_pos parts.length with h | h
      · exact absurd (List.length_eq_zero_iff.1 h) hp
      · exact h
    have hp0 : ((parts.length : Int) == 0) = false := beq_eq_false_iff_ne.2 (by omega)
    clear hp
    go_enter Tryd.func11, Tryd.ntmps11
    go_wp2_with (first | ((with_reducible refine gate_dst (N := 1) rfl ?_); refine box_event ?hg (N := 1) ?hd (cs := #[.int .i64 2, .slice A parts.length c]) (t := 24) ?hr ?_; (case hd => rfl); (case hg => rfl); (case hr => first | (go_simp; done) | (go_simp; rfl)); intro g1 hg w1 hbox hb; replace S := Aside0.mk (S.out.box hg hbox hb); clear hbox hb hg; have k0 := blk_cell (S.out.at_box 0 rfl) 0; have k1 := blk_cell (S.out.at_box 0 rfl) 1; simp only [List.getElem?_toArray, List.getElem?_cons_zero, List.getElem?_cons_succ] at  k0 k1))
    go_loopg [24] (parts.length + 1) (fun kq v24 w' => ∃ (i : Nat) (x : Int), v24 = .int .i64 x ∧ Aside0 (x = i) ∧ Aside0 (kq + i = parts.length + 1) ∧ Aside0 (i ≤ parts.length) ∧ Aside0 (partsS 2 (parts.drop i) = partsS 2 parts) ∧ Aside0 (Sep w w' [Box _ g1 24 #[.int .i64 2, .slice A parts.length c]]))
    case atStart => exact ⟨0, 0, rfl, ⟨rfl⟩, ⟨rfl⟩, ⟨Nat.zero_le _⟩, ⟨rfl⟩, S⟩
    case round =>
      clear S k0 k1
      obtain ⟨i, x, rfl, X, K, IL, PS, S⟩ := hrel
      cases gk with
      | zero => exact absurd K.out (by have := IL.out; omega)
      | succ q1 =>
      by_cases hi : i < parts.length
      · have hx0 : 0 ≤ x := by rw [X.out]; omega
        have hx1 : x < (parts.length : Int) := by rw [X.out]; omega
        have d := decide_eq_true hx1
        obtain ⟨ad, A0, c0, rfl, hcell, hl0, hC0⟩ := at_L2 HR.out x hx0 hx1
        have HC0 := Aside0.mk hC0
        have HPA := Aside0.mk (parts_at (kind := 2) hi)
        rw [← X.out] at HPA
        replace hcell := (S.out.below.cell (World.block_lt_of_cell? w _ hcell)).trans hcell
        have G1 := (hG.step S.out.below).2.2.1
        have k0 := blk_cell (S.out.at_box 0 rfl) 0
        simp only [List.getElem?_toArray, List.getElem?_cons_zero, List.getElem?_cons_succ] at  k0
        clear hC0
        obtain ⟨part, hpart⟩ : ∃ part, rd_L2 parts x = part := ⟨_, rfl⟩
        rw [hpart] at hcell hl0 HC0 HPA
        clear hpart
        replace hx0 := eq_true hx0
        replace hx1 := eq_true hx1
        by_cases hs : (part.length : Int) < 2
        · have hs1 := decide_eq_true hs
          have hs2 : decide (part.length < 2) = true := decide_eq_true (by omega)
          have hv : partS 2 part = 12 := by unfold partS; rw [if_pos (by omega)]
          have HRES : Aside0 (partsS 2 parts = 12) := ⟨by rw [← PS.out, HPA.out, if_neg (by rw [hv]; decide), hv]⟩
          clear hv
          go_wp2
          go_ret
          exact ⟨by rw [HRES.out]; rfl, S.out.below⟩
        · have hs1 := decide_eq_false hs
          have hs2 : decide (part.length < 2) = false := decide_eq_false (by omega)
          by_cases h8 : 8000 < part.length
          · have h8b : decide (8000 < (part.length : Int)) = true := decide_eq_true (by omega)
            have h8c := decide_eq_true h8
            have hv : partS 2 part = 5 := by unfold partS; rw [if_neg (by omega), if_pos h8]
            have HRES : Aside0 (partsS 2 parts = 5) := ⟨by rw [← PS.out, HPA.out, if_neg (by rw [hv]; decide), hv]⟩
            clear hv
            go_wp2
            go_ret
            exact ⟨by rw [HRES.out]; rfl, S.out.below⟩
          · have h8b : decide (8000 < (part.length : Int)) = false := decide_eq_false (by omega)
            have h8c := decide_eq_false h8
            have hl9 : part.length ≤ 8000 := by omega
            clear h8b h8c
            go_wp2
            go_loopg [52] (part.length + 1) (fun kq v52 w' => ∃ (j : Nat) (y : Int), v52 = .int .i64 y ∧ Aside0 (y = j) ∧ Aside0 (kq + j = part.length + 1) ∧ Aside0 (j ≤ part.length) ∧ Aside0 (∀ m (h : m < j) (h2 : m < part.length), ¬ badP part[m]) ∧ Aside0 (Sep w w' [Box _ g1 24 #[.int .i64 2, .slice (some ad) parts.length c]]))
            case atStart => exact ⟨0, 0, rfl, ⟨rfl⟩, ⟨rfl⟩, ⟨Nat.zero_le _⟩, ⟨fun m h => by omega⟩, S⟩
            case round =>
              clear S k0 G1 hcell
              obtain ⟨j, y, rfl, Y, KJ, JL, OK, S⟩ := hrel
              cases gk with
              | zero => exact absurd KJ.out (by have := JL.out; omega)
              | succ q2 =>
              by_cases hj : j < part.length
              · have hy0 : 0 ≤ y := by rw [Y.out]; omega
                have hy1 : y < (part.length : Int) := by rw [Y.out]; omega
                have dj := decide_eq_true hy1
                obtain ⟨ad2, rfl, hp0, hp1⟩ := at_T44 HC0.out y hy0 hy1
                replace hp0 := (S.out.below.cell (World.block_lt_of_cell? w _ hp0)).trans hp0
                replace hp1 := (S.out.below.cell (World.block_lt_of_cell? w _ hp1)).trans hp1
                obtain ⟨p, hpp⟩ : ∃ p, rd_T44 part y = p := ⟨_, rfl⟩
                rw [hpp] at hp0 hp1
                have HP : Aside0 (p = part[j]) := ⟨by rw [← hpp, Y.out, part_at hj]⟩
                clear hpp
                replace hy0 := eq_true hy0
                replace hy1 := eq_true hy1
                by_cases a1 : p.f0 < 0
                · have e1 := decide_eq_true a1
                  have hv : partS 2 part = 2 := by unfold partS; rw [if_neg (by omega), if_neg h8, if_pos ⟨_, List.getElem_mem hj, by rw [← HP.out]; unfold badP; omega⟩]
                  have HRES : Aside0 (partsS 2 parts = 2) := ⟨by rw [← PS.out, HPA.out, if_neg (by rw [hv]; decide), hv]⟩
                  clear hv
                  go_wp2_with (first | ((with_reducible refine gate_dst (N := 6) rfl ?_); refine box_event ?hg (N := 6) ?hd (cs := #[.int .i64 0, .int .i64 0]) (t := 44) ?hr ?_; (case hd => rfl); (case hg => rfl); (case hr => first | (go_simp; done) | (go_simp; rfl)); intro g6 hg w6 hbox hb; have y0 := pw_cell_below hb hp0; have y1 := pw_cell_below hb hp1; replace S := Aside0.mk (((S.out.box hg hbox hb).set 0 rfl 0 (.int .i64 p.f0)).set 0 rfl 1 (.int .i64 p.f1)); have z0 := blk_cell hbox 0; have z1 := blk_cell hbox 1; have y2 := blk_frozen hbox 0; have y3 := blk_frozen hbox 1; clear hbox hb hg; simp only [List.getElem?_toArray, List.getElem?_cons_zero, List.getElem?_cons_succ] at z0 z1))
                  go_ret
                  exact ⟨by rw [HRES.out]; rfl, S.out.below⟩
                · have e1 := decide_eq_false a1
                  by_cases a2 : 256 < p.f0
                  · have e2 := decide_eq_true a2
                    have hv : partS 2 part = 2 := by unfold partS; rw [if_neg (by omega), if_neg h8, if_pos ⟨_, List.getElem_mem hj, by rw [← HP.out]; unfold badP; omega⟩]
                    have HRES : Aside0 (partsS 2 parts = 2) := ⟨by rw [← PS.out, HPA.out, if_neg (by rw [hv]; decide), hv]⟩
                    clear hv
                    go_wp2_with (first | ((with_reducible refine gate_dst (N := 6) rfl ?_); refine box_event ?hg (N := 6) ?hd (cs := #[.int .i64 0, .int .i64 0]) (t := 44) ?hr ?_; (case hd => rfl); (case hg => rfl); (case hr => first | (go_simp; done) | (go_simp; rfl)); intro g6 hg w6 hbox hb; have y0 := pw_cell_below hb hp0; have y1 := pw_cell_below hb hp1; replace S := Aside0.mk (((S.out.box hg hbox hb).set 0 rfl 0 (.int .i64 p.f0)).set 0 rfl 1 (.int .i64 p.f1)); have z0 := blk_cell hbox 0; have z1 := blk_cell hbox 1; have y2 := blk_frozen hbox 0; have y3 := blk_frozen hbox 1; clear hbox hb hg; simp only [List.getElem?_toArray, List.getElem?_cons_zero, List.getElem?_cons_succ] at z0 z1))
                    go_ret
                    exact ⟨by rw [HRES.out]; rfl, S.out.below⟩
                  · have e2 := decide_eq_false a2
                    by_cases a3 : p.f1 < 0
                    · have e3 := decide_eq_true a3
                      have hv : partS 2 part = 2 := by unfold partS; rw [if_neg (by omega), if_neg h8, if_pos ⟨_, List.getElem_mem hj, by rw [← HP.out]; unfold badP; omega⟩]
                      have HRES : Aside0 (partsS 2 parts = 2) := ⟨by rw [← PS.out, HPA.out, if_neg (by rw [hv]; decide), hv]⟩
                      clear hv
                      go_wp2_with (first | ((with_reducible refine gate_dst (N := 6) rfl ?_); refine box_event ?hg (N := 6) ?hd (cs := #[.int .i64 0, .int .i64 0]) (t := 44) ?hr ?_; (case hd => rfl); (case hg => rfl); (case hr => first | (go_simp; done) | (go_simp; rfl)); intro g6 hg w6 hbox hb; have y0 := pw_cell_below hb hp0; have y1 := pw_cell_below hb hp1; replace S := Aside0.mk (((S.out.box hg hbox hb).set 0 rfl 0 (.int .i64 p.f0)).set 0 rfl 1 (.int .i64 p.f1)); have z0 := blk_cell hbox 0; have z1 := blk_cell hbox 1; have y2 := blk_frozen hbox 0; have y3 := blk_frozen hbox 1; clear hbox hb hg; simp only [List.getElem?_toArray, List.getElem?_cons_zero, List.getElem?_cons_succ] at z0 z1))
                      go_ret
                      exact ⟨by rw [HRES.out]; rfl, S.out.below⟩
                    · have e3 := decide_eq_false a3
                      by_cases a4 : 256 < p.f1
                      · have e4 := decide_eq_true a4
                        have hv : partS 2 part = 2 := by unfold partS; rw [if_neg (by omega), if_neg h8, if_pos ⟨_, List.getElem_mem hj, by rw [← HP.out]; unfold badP; omega⟩]
                        have HRES : Aside0 (partsS 2 parts = 2) := ⟨by rw [← PS.out, HPA.out, if_neg (by rw [hv]; decide), hv]⟩
                        clear hv
                        go_wp2_with (first | ((with_reducible refine gate_dst (N := 6) rfl ?_); refine box_event ?hg (N := 6) ?hd (cs := #[.int .i64 0, .int .i64 0]) (t := 44) ?hr ?_; (case hd => rfl); (case hg => rfl); (case hr => first | (go_simp; done) | (go_simp; rfl)); intro g6 hg w6 hbox hb; have y0 := pw_cell_below hb hp0; have y1 := pw_cell_below hb hp1; replace S := Aside0.mk (((S.out.box hg hbox hb).set 0 rfl 0 (.int .i64 p.f0)).set 0 rfl 1 (.int .i64 p.f1)); have z0 := blk_cell hbox 0; have z1 := blk_cell hbox 1; have y2 := blk_frozen hbox 0; have y3 := blk_frozen hbox 1; clear hbox hb hg; simp only [List.getElem?_toArray, List.getElem?_cons_zero, List.getElem?_cons_succ] at z0 z1))
                        go_ret
                        exact ⟨by rw [HRES.out]; rfl, S.out.below⟩
                      · have e4 := decide_eq_false a4
                        go_wp2_with (first | ((with_reducible refine gate_dst (N := 6) rfl ?_); refine box_event ?hg (N := 6) ?hd (cs := #[.int .i64 0, .int .i64 0]) (t := 44) ?hr ?_; (case hd => rfl); (case hg => rfl); (case hr => first | (go_simp; done) | (go_simp; rfl)); intro g6 hg w6 hbox hb; have y0 := pw_cell_below hb hp0; have y1 := pw_cell_below hb hp1; replace S := Aside0.mk (((S.out.box hg hbox hb).set 0 rfl 0 (.int .i64 p.f0)).set 0 rfl 1 (.int .i64 p.f1)); have z0 := blk_cell hbox 0; have z1 := blk_cell hbox 1; have y2 := blk_frozen hbox 0; have y3 := blk_frozen hbox 1; clear hbox hb hg; simp only [List.getElem?_toArray, List.getElem?_cons_zero, List.getElem?_cons_succ] at z0 z1))
                        go_roundg q2
                        case measure => omega
                        case rel =>
                          refine ⟨j + 1, wrap64 (y + 1), rfl, ⟨wrap_next y j Y.out (by omega)⟩, ⟨by have := KJ.out; omega⟩, ⟨by omega⟩, ⟨fun m h h2 => ?_⟩, ⟨S.out.drop 0⟩⟩
                          rcases Nat.lt_or_ge m j with h3 | h3
                          · exact OK.out m h3 h2
                          · obtain rfl : m = j := by omega
                            rw [← HP.out]; unfold badP; omega
              · have dj := decide_eq_false (show ¬ y < (part.length : Int) by rw [Y.out]; omega)
                obtain rfl : j = part.length := by have := JL.out; omega
                have hv : partS 2 part = 0 := by
                  unfold partS
                  rw [if_neg (by omega), if_neg h8, if_neg (by rintro ⟨p, hp, hb⟩; obtain ⟨m, hm, rfl⟩ := List.mem_iff_getElem.1 hp; exact OK.out m hm hm hb)]
                go_wp2
                go_roundg q1
                case measure => omega
                case rel =>
                  exact ⟨i + 1, wrap64 (x + 1), rfl, ⟨wrap_next x i X.out (by omega)⟩, ⟨by have := K.out; omega⟩, ⟨by omega⟩, ⟨by rw [← PS.out, HPA.out, if_pos hv]⟩, S⟩
      · have d := decide_eq_false (show ¬ x < (parts.length : Int) by rw [X.out]; omega)
        obtain rfl : i = parts.length := by have := IL.out; omega
        have hz := PS.out
        rw [List.drop_length] at hz
        go_wp2
        go_ret
        exact ⟨by rw [← hz]; rfl, S.out.below⟩
set_option maxHeartbeats 4000000 in
set_option maxRecDepth 100000 in
theorem check_3 (parts : List (List S44)) (A : Option Addr) (c : Nat) (w : World) (hG : Least w) (hr : Kd.C (Kd.slice 44 k44) w A parts.length parts) (hc : parts.length ≤ c) (hL : parts.length ≤ 140737488351232) :
    Calls Tryd.prog 11 #[.agg #[.int .i64 3, .slice A parts.length c]] w fun e w' => e = .returned (.int .i64 (if parts = [] then 15 else partsS 3 parts)) ∧ Below w.heap.size w w' := by
  have S := Aside0.mk (Sep.start w)
  have hu24 := Tryd.underlying24
  have hu44 := Tryd.underlying44
  have hu50 := Tryd.underlying50
  have HR := Aside0.mk hr
  clear hr
  by_cases hp : parts = []
  · rw [if_pos hp]
    subst hp
    go_enter Tryd.func11, Tryd.ntmps11
    go_wp2_with (first | ((with_reducible refine gate_dst (N := 1) rfl ?_); refine box_event ?hg (N := 1) ?hd (cs := #[.int .i64 3, .slice A 0 c]) (t := 24) ?hr ?_; (case hd => rfl); (case hg => rfl); (case hr => first | (go_simp; done) | (go_simp; rfl)); intro g1 hg w1 hbox hb; replace S := Aside0.mk (S.out.box hg hbox hb); clear hbox hb hg; have k0 := blk_cell (S.out.at_box 0 rfl) 0; have k1 := blk_cell (S.out.at_box 0 rfl) 1; simp only [List.getElem?_toArray, List.getElem?_cons_zero, List.getElem?_cons_succ] at  k0 k1))
    go_ret
    exact ⟨rfl, S.out.below⟩
  · rw [if_neg hp]
    have hp1 : 1 ≤ parts.length := by
      rcases Nat.eq_zero_or_pos parts.length with h | h
      · exact absurd (List.length_eq_zero_iff.1 h) hp
      · exact h
    have hp0 : ((parts.length : Int) == 0) = false := beq_eq_false_iff_ne.2 (by omega)
    clear hp
    go_enter Tryd.func11, Tryd.ntmps11
    go_wp2_with (first | ((with_reducible refine gate_dst (N := 1) rfl ?_); refine box_event ?hg (N := 1) ?hd (cs := #[.int .i64 3, .slice A parts.length c]) (t := 24) ?hr ?_; (case hd => rfl); (case hg => rfl); (case hr => first | (go_simp; done) | (go_simp; rfl)); intro g1 hg w1 hbox hb; replace S := Aside0.mk (S.out.box hg hbox hb); clear hbox hb hg; have k0 := blk_cell (S.out.at_box 0 rfl) 0; have k1 := blk_cell (S.out.at_box 0 rfl) 1; simp only [List.getElem?_toArray, List.getElem?_cons_zero, List.getElem?_cons_succ] at  k0 k1))
    go_loopg [24] (parts.length + 1) (fun kq v24 w' => ∃ (i : Nat) (x : Int), v24 = .int .i64 x ∧ Aside0 (x = i) ∧ Aside0 (kq + i = parts.length + 1) ∧ Aside0 (i ≤ parts.length) ∧ Aside0 (partsS 3 (parts.drop i) = partsS 3 parts) ∧ Aside0 (Sep w w' [Box _ g1 24 #[.int .i64 3, .slice A parts.length c]]))
    case atStart => exact ⟨0, 0, rfl, ⟨rfl⟩, ⟨rfl⟩, ⟨Nat.zero_le _⟩, ⟨rfl⟩, S⟩
    case round =>
      clear S k0 k1
      obtain ⟨i, x, rfl, X, K, IL, PS, S⟩ := hrel
      cases gk with
      | zero => exact absurd K.out (by have := IL.out; omega)
      | succ q1 =>
      by_cases hi : i < parts.length
      · have hx0 : 0 ≤ x := by rw [X.out]; omega
        have hx1 : x < (parts.length : Int) := by rw [X.out]; omega
        have d := decide_eq_true hx1
        obtain ⟨ad, A0, c0, rfl, hcell, hl0, hC0⟩ := at_L2 HR.out x hx0 hx1
        have HC0 := Aside0.mk hC0
        have HPA := Aside0.mk (parts_at (kind := 3) hi)
        rw [← X.out] at HPA
        replace hcell := (S.out.below.cell (World.block_lt_of_cell? w _ hcell)).trans hcell
        have G1 := (hG.step S.out.below).2.2.2
        have k0 := blk_cell (S.out.at_box 0 rfl) 0
        simp only [List.getElem?_toArray, List.getElem?_cons_zero, List.getElem?_cons_succ] at  k0
        clear hC0
        obtain ⟨part, hpart⟩ : ∃ part, rd_L2 parts x = part := ⟨_, rfl⟩
        rw [hpart] at hcell hl0 HC0 HPA
        clear hpart
        replace hx0 := eq_true hx0
        replace hx1 := eq_true hx1
        by_cases hs : (part.length : Int) < 3
        · have hs1 := decide_eq_true hs
          have hs2 : decide (part.length < 3) = true := decide_eq_true (by omega)
          have hv : partS 3 part = 12 := by unfold partS; rw [if_pos (by omega)]
          have HRES : Aside0 (partsS 3 parts = 12) := ⟨by rw [← PS.out, HPA.out, if_neg (by rw [hv]; decide), hv]⟩
          clear hv
          go_wp2
          go_ret
          exact ⟨by rw [HRES.out]; rfl, S.out.below⟩
        · have hs1 := decide_eq_false hs
          have hs2 : decide (part.length < 3) = false := decide_eq_false (by omega)
          by_cases h8 : 8000 < part.length
          · have h8b : decide (8000 < (part.length : Int)) = true := decide_eq_true (by omega)
            have h8c := decide_eq_true h8
            have hv : partS 3 part = 5 := by unfold partS; rw [if_neg (by omega), if_pos h8]
            have HRES : Aside0 (partsS 3 parts = 5) := ⟨by rw [← PS.out, HPA.out, if_neg (by rw [hv]; decide), hv]⟩
            clear hv
            go_wp2
            go_ret
            exact ⟨by rw [HRES.out]; rfl, S.out.below⟩
          · have h8b : decide (8000 < (part.length : Int)) = false := decide_eq_false (by omega)
            have h8c := decide_eq_false h8
            have hl9 : part.length ≤ 8000 := by omega
            clear h8b h8c
            go_wp2
            go_loopg [52] (part.length + 1) (fun kq v52 w' => ∃ (j : Nat) (y : Int), v52 = .int .i64 y ∧ Aside0 (y = j) ∧ Aside0 (kq + j = part.length + 1) ∧ Aside0 (j ≤ part.length) ∧ Aside0 (∀ m (h : m < j) (h2 : m < part.length), ¬ badP part[m]) ∧ Aside0 (Sep w w' [Box _ g1 24 #[.int .i64 3, .slice (some ad) parts.length c]]))
            case atStart => exact ⟨0, 0, rfl, ⟨rfl⟩, ⟨rfl⟩, ⟨Nat.zero_le _⟩, ⟨fun m h => by omega⟩, S⟩
            case round =>
              clear S k0 G1 hcell
              obtain ⟨j, y, rfl, Y, KJ, JL, OK, S⟩ := hrel
              cases gk with
              | zero => exact absurd KJ.out (by have := JL.out; omega)
              | succ q2 =>
              by_cases hj : j < part.length
              · have hy0 : 0 ≤ y := by rw [Y.out]; omega
                have hy1 : y < (part.length : Int) := by rw [Y.out]; omega
                have dj := decide_eq_true hy1
                obtain ⟨ad2, rfl, hp0, hp1⟩ := at_T44 HC0.out y hy0 hy1
                replace hp0 := (S.out.below.cell (World.block_lt_of_cell? w _ hp0)).trans hp0
                replace hp1 := (S.out.below.cell (World.block_lt_of_cell? w _ hp1)).trans hp1
                obtain ⟨p, hpp⟩ : ∃ p, rd_T44 part y = p := ⟨_, rfl⟩
                rw [hpp] at hp0 hp1
                have HP : Aside0 (p = part[j]) := ⟨by rw [← hpp, Y.out, part_at hj]⟩
                clear hpp
                replace hy0 := eq_true hy0
                replace hy1 := eq_true hy1
                by_cases a1 : p.f0 < 0
                · have e1 := decide_eq_true a1
                  have hv : partS 3 part = 2 := by unfold partS; rw [if_neg (by omega), if_neg h8, if_pos ⟨_, List.getElem_mem hj, by rw [← HP.out]; unfold badP; omega⟩]
                  have HRES : Aside0 (partsS 3 parts = 2) := ⟨by rw [← PS.out, HPA.out, if_neg (by rw [hv]; decide), hv]⟩
                  clear hv
                  go_wp2_with (first | ((with_reducible refine gate_dst (N := 6) rfl ?_); refine box_event ?hg (N := 6) ?hd (cs := #[.int .i64 0, .int .i64 0]) (t := 44) ?hr ?_; (case hd => rfl); (case hg => rfl); (case hr => first | (go_simp; done) | (go_simp; rfl)); intro g6 hg w6 hbox hb; have y0 := pw_cell_below hb hp0; have y1 := pw_cell_below hb hp1; replace S := Aside0.mk (((S.out.box hg hbox hb).set 0 rfl 0 (.int .i64 p.f0)).set 0 rfl 1 (.int .i64 p.f1)); have z0 := blk_cell hbox 0; have z1 := blk_cell hbox 1; have y2 := blk_frozen hbox 0; have y3 := blk_frozen hbox 1; clear hbox hb hg; simp only [List.getElem?_toArray, List.getElem?_cons_zero, List.getElem?_cons_succ] at z0 z1))
                  go_ret
                  exact ⟨by rw [HRES.out]; rfl, S.out.below⟩
                · have e1 := decide_eq_false a1
                  by_cases a2 : 256 < p.f0
                  · have e2 := decide_eq_true a2
                    have hv : partS 3 part = 2 := by unfold partS; rw [if_neg (by omega), if_neg h8, if_pos ⟨_, List.getElem_mem hj, by rw [← HP.out]; unfold badP; omega⟩]
                    have HRES : Aside0 (partsS 3 parts = 2) := ⟨by rw [← PS.out, HPA.out, if_neg (by rw [hv]; decide), hv]⟩
                    clear hv
                    go_wp2_with (first | ((with_reducible refine gate_dst (N := 6) rfl ?_); refine box_event ?hg (N := 6) ?hd (cs := #[.int .i64 0, .int .i64 0]) (t := 44) ?hr ?_; (case hd => rfl); (case hg => rfl); (case hr => first | (go_simp; done) | (go_simp; rfl)); intro g6 hg w6 hbox hb; have y0 := pw_cell_below hb hp0; have y1 := pw_cell_below hb hp1; replace S := Aside0.mk (((S.out.box hg hbox hb).set 0 rfl 0 (.int .i64 p.f0)).set 0 rfl 1 (.int .i64 p.f1)); have z0 := blk_cell hbox 0; have z1 := blk_cell hbox 1; have y2 := blk_frozen hbox 0; have y3 := blk_frozen hbox 1; clear hbox hb hg; simp only [List.getElem?_toArray, List.getElem?_cons_zero, List.getElem?_cons_succ] at z0 z1))
                    go_ret
                    exact ⟨by rw [HRES.out]; rfl, S.out.below⟩
                  · have e2 := decide_eq_false a2
                    by_cases a3 : p.f1 < 0
                    · have e3 := decide_eq_true a3
                      have hv : partS 3 part = 2 := by unfold partS; rw [if_neg (by omega), if_neg h8, if_pos ⟨_, List.getElem_mem hj, by rw [← HP.out]; unfold badP; omega⟩]
                      have HRES : Aside0 (partsS 3 parts = 2) := ⟨by rw [← PS.out, HPA.out, if_neg (by rw [hv]; decide), hv]⟩
                      clear hv
                      go_wp2_with (first | ((with_reducible refine gate_dst (N := 6) rfl ?_); refine box_event ?hg (N := 6) ?hd (cs := #[.int .i64 0, .int .i64 0]) (t := 44) ?hr ?_; (case hd => rfl); (case hg => rfl); (case hr => first | (go_simp; done) | (go_simp; rfl)); intro g6 hg w6 hbox hb; have y0 := pw_cell_below hb hp0; have y1 := pw_cell_below hb hp1; replace S := Aside0.mk (((S.out.box hg hbox hb).set 0 rfl 0 (.int .i64 p.f0)).set 0 rfl 1 (.int .i64 p.f1)); have z0 := blk_cell hbox 0; have z1 := blk_cell hbox 1; have y2 := blk_frozen hbox 0; have y3 := blk_frozen hbox 1; clear hbox hb hg; simp only [List.getElem?_toArray, List.getElem?_cons_zero, List.getElem?_cons_succ] at z0 z1))
                      go_ret
                      exact ⟨by rw [HRES.out]; rfl, S.out.below⟩
                    · have e3 := decide_eq_false a3
                      by_cases a4 : 256 < p.f1
                      · have e4 := decide_eq_true a4
                        have hv : partS 3 part = 2 := by unfold partS; rw [if_neg (by omega), if_neg h8, if_pos ⟨_, List.getElem_mem hj, by rw [← HP.out]; unfold badP; omega⟩]
                        have HRES : Aside0 (partsS 3 parts = 2) := ⟨by rw [← PS.out, HPA.out, if_neg (by rw [hv]; decide), hv]⟩
                        clear hv
                        go_wp2_with (first | ((with_reducible refine gate_dst (N := 6) rfl ?_); refine box_event ?hg (N := 6) ?hd (cs := #[.int .i64 0, .int .i64 0]) (t := 44) ?hr ?_; (case hd => rfl); (case hg => rfl); (case hr => first | (go_simp; done) | (go_simp; rfl)); intro g6 hg w6 hbox hb; have y0 := pw_cell_below hb hp0; have y1 := pw_cell_below hb hp1; replace S := Aside0.mk (((S.out.box hg hbox hb).set 0 rfl 0 (.int .i64 p.f0)).set 0 rfl 1 (.int .i64 p.f1)); have z0 := blk_cell hbox 0; have z1 := blk_cell hbox 1; have y2 := blk_frozen hbox 0; have y3 := blk_frozen hbox 1; clear hbox hb hg; simp only [List.getElem?_toArray, List.getElem?_cons_zero, List.getElem?_cons_succ] at z0 z1))
                        go_ret
                        exact ⟨by rw [HRES.out]; rfl, S.out.below⟩
                      · have e4 := decide_eq_false a4
                        go_wp2_with (first | ((with_reducible refine gate_dst (N := 6) rfl ?_); refine box_event ?hg (N := 6) ?hd (cs := #[.int .i64 0, .int .i64 0]) (t := 44) ?hr ?_; (case hd => rfl); (case hg => rfl); (case hr => first | (go_simp; done) | (go_simp; rfl)); intro g6 hg w6 hbox hb; have y0 := pw_cell_below hb hp0; have y1 := pw_cell_below hb hp1; replace S := Aside0.mk (((S.out.box hg hbox hb).set 0 rfl 0 (.int .i64 p.f0)).set 0 rfl 1 (.int .i64 p.f1)); have z0 := blk_cell hbox 0; have z1 := blk_cell hbox 1; have y2 := blk_frozen hbox 0; have y3 := blk_frozen hbox 1; clear hbox hb hg; simp only [List.getElem?_toArray, List.getElem?_cons_zero, List.getElem?_cons_succ] at z0 z1))
                        go_roundg q2
                        case measure => omega
                        case rel =>
                          refine ⟨j + 1, wrap64 (y + 1), rfl, ⟨wrap_next y j Y.out (by omega)⟩, ⟨by have := KJ.out; omega⟩, ⟨by omega⟩, ⟨fun m h h2 => ?_⟩, ⟨S.out.drop 0⟩⟩
                          rcases Nat.lt_or_ge m j with h3 | h3
                          · exact OK.out m h3 h2
                          · obtain rfl : m = j := by omega
                            rw [← HP.out]; unfold badP; omega
              · have dj := decide_eq_false (show ¬ y < (part.length : Int) by rw [Y.out]; omega)
                obtain rfl : j = part.length := by have := JL.out; omega
                have hv : partS 3 part = 0 := by
                  unfold partS
                  rw [if_neg (by omega), if_neg h8, if_neg (by rintro ⟨p, hp, hb⟩; obtain ⟨m, hm, rfl⟩ := List.mem_iff_getElem.1 hp; exact OK.out m hm hm hb)]
                go_wp2
                go_roundg q1
                case measure => omega
                case rel =>
                  exact ⟨i + 1, wrap64 (x + 1), rfl, ⟨wrap_next x i X.out (by omega)⟩, ⟨by have := K.out; omega⟩, ⟨by omega⟩, ⟨by rw [← PS.out, HPA.out, if_pos hv]⟩, S⟩
      · have d := decide_eq_false (show ¬ x < (parts.length : Int) by rw [X.out]; omega)
        obtain rfl : i = parts.length := by have := IL.out; omega
        have hz := PS.out
        rw [List.drop_length] at hz
        go_wp2
        go_ret
        exact ⟨by rw [← hz]; rfl, S.out.below⟩
theorem check_c (kind : Int) (parts : List (List S44)) (A : Option Addr) (c : Nat) (w : World) (hG : Least w) (hr : Kd.C (Kd.slice 44 k44) w A parts.length parts) (hc : parts.length ≤ c) (hL : parts.length ≤ 140737488351232) :
    Calls Tryd.prog 11 #[.agg #[.int .i64 kind, .slice A parts.length c]] w fun e w' => e = .returned (.int .i64 (checkS kind parts)) ∧ Below w.heap.size w w' := by
  unfold checkS
  by_cases hk : kind < 1 ∨ 3 < kind
  · rw [if_pos hk]; exact check_out kind parts A c w hk
  · rw [if_neg hk]
    have h : kind = 1 ∨ kind = 2 ∨ kind = 3 := by omega
    rcases h with rfl | rfl | rfl
    · exact check_1 parts A c w hG hr hc hL
    · exact check_2 parts A c w hG hr hc hL
    · exact check_3 parts A c w hG hr hc hL
end Go.Proofs.YtopapknfpoandaaDoor.Hand
