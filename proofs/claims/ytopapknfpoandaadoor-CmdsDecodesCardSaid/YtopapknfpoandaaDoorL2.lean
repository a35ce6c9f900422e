import Derived.Test.YtopapknfpoandaaDoorL1
import Derived.Test.YtopapknfpoandaaDoorV1
namespace Go.Proofs.YtopapknfpoandaaDoor.Hand
open Go.Proofs.YtopapknfpoandaaDoorW Go.RowKit Go.Proofs.YtopapknfpoandaaDoorW.PrintWords Go.Proofs.YtopapknfpoandaaDoorW.PrintLast Go.Proofs.YtopapknfpoandaaDoorW.PrintMore Go.Proofs.YtopapknfpoandaaDoorW.SepW Go.Proofs.YtopapknfpoandaaDoor.PALL
set_option linter.unusedVariables false
set_option linter.unusedSimpArgs false
theorem total_outP (k3 : Bool) : ∀ (l : List (List S44)) (x y : Int), (∀ p ∈ l, p ≠ []) → total l ≤ (encP k3 l x y).length
  | [], _, _, _ => Nat.le_refl _
  | p :: t, x, y, h => by
    have h1 := total_outP k3 t (outS (p.drop 1) (outS (p.take 1) x y).2.1 (outS (p.take 1) x y).2.2).2.1 (outS (p.drop 1) (outS (p.take 1) x y).2.1 (outS (p.take 1) x y).2.2).2.2 (fun q hq => h q (List.mem_cons_of_mem _ hq))
    have h2 : 1 ≤ p.length := by
      have := h p (List.mem_cons_self ..)
      cases p with
      | nil => exact absurd rfl this
      | cons a t => simp
    rw [encP, total]
    simp only [List.length_append, List.length_cons, outS_len, List.length_take, List.length_drop]
    omega
theorem total_ones : ∀ {l : List (List S44)}, (∀ p ∈ l, ∃ q, p = [q] ∧ ¬ badP q) → total l = 2 * l.length
  | [], _ => rfl
  | p :: t, h => by
    obtain ⟨q, rfl, _⟩ := h p (List.mem_cons_self ..)
    rw [total, total_ones (fun p hp => h p (List.mem_cons_of_mem _ hp)), List.length_cons, List.length_cons, List.length_nil]
    omega
theorem total_enc {kind : Int} {ps : List (List S44)} (h : checkS kind ps = 0) : total ps ≤ (encS kind ps).length := by
  obtain ⟨hk, hne, hp⟩ := check_split h
  rw [encS_ok h]
  by_cases h1 : kind = 1
  · subst h1
    rw [if_pos rfl, total_ones (ones hp), List.length_cons, outS_len, firsts_len]
    omega
  · rw [if_neg h1]
    exact total_outP _ _ _ _ (fun p hq => (parts_good (by omega) hp p hq).1)
theorem fit_of {ps : List (List S44)} (h : total ps ≤ 140737488351232) : Fit ps := ⟨Nat.le_trans (total_len ps) h, fun p hp => Nat.le_trans (total_mem hp) h⟩
set_option maxHeartbeats 4000000 in
set_option maxRecDepth 100000 in
theorem round_many (a : Int) (ps : List (List S44)) (A : Option Addr) (c : Nat) (w : World) (hG : Least w) (h : Seen kL w (.slice A ps.length c) ps) (hf : Fit ps) (HF : Aside0 (¬ total ps ≤ 9000)) :
    Calls Tryd.prog 5 #[.agg #[.int .i64 a, .slice A ps.length c]] w fun e w' => e = .returned (.bool true) ∧ Below w.heap.size w w' := by
  have S := Aside0.mk (Sep.start w)
  have HR := Aside0.mk h
  clear h
  have hu24 := Tryd.underlying24
  go_enter Tryd.func5, Tryd.ntmps5
  go_wp2_with (first | ((with_reducible refine gate_dst (N := 1) rfl ?_); refine box_event ?hg (N := 1) ?hd (cs := #[.int .i64 a, .slice A ps.length c]) (t := 24) ?hr ?_; (case hd => rfl); (case hg => rfl); (case hr => first | (go_simp; done) | (go_simp; rfl)); intro g1 hg w1 hbox hb; replace S := Aside0.mk (S.out.box hg hbox hb); have k10 := blk_cell hbox 0; have k11 := blk_cell hbox 1; simp only [List.getElem?_toArray, List.getElem?_cons_zero, List.getElem?_cons_succ] at  k10 k11; clear hbox hb hg) | (go_at_call 7; have X_ := few_s a ps _ _ (HR.out.step S.out.below) hf; rw [decide_eq_false HF.out] at X_; (with_reducible refine X_.mono ?_); clear X_; rintro e_ w10 ⟨rfl, hb⟩; replace S := Aside0.mk (S.out.step hb); clear hb k10 k11; have k10 := blk_cell (S.out.at_box 0 rfl) 0; have k11 := blk_cell (S.out.at_box 0 rfl) 1; simp only [List.getElem?_toArray, List.getElem?_cons_zero, List.getElem?_cons_succ] at k10 k11) | (go_at_call 8; have X_ := lives_c _ (hG.step S.out.below); (with_reducible refine X_.mono ?_); clear X_; rintro e_ wL ⟨rfl, hb⟩; replace S := Aside0.mk (S.out.step hb); clear hb))
  go_ret
  exact ⟨rfl, S.out.below⟩
set_option maxHeartbeats 4000000 in
set_option maxRecDepth 100000 in
theorem round_bad (a : Int) (ps : List (List S44)) (A : Option Addr) (c : Nat) (w : World) (hG : Least w) (h : Seen kL w (.slice A ps.length c) ps) (hf : Fit ps) (HF : Aside0 (total ps ≤ 9000)) (hck : ¬ checkS a ps = 0) :
    Calls Tryd.prog 5 #[.agg #[.int .i64 a, .slice A ps.length c]] w fun e w' => e = .returned (.bool true) ∧ Below w.heap.size w w' := by
  have S := Aside0.mk (Sep.start w)
  have HR := Aside0.mk h
  clear h
  have hu24 := Tryd.underlying24
  obtain ⟨ck, hk⟩ : ∃ ck, checkS a ps = ck := ⟨_, rfl⟩
  rw [hk] at hck
  have HK := Aside0.mk hk
  have d := bne_iff_ne.2 hck
  clear hk hck
  go_enter Tryd.func5, Tryd.ntmps5
  go_wp2_with (first | ((with_reducible refine gate_dst (N := 1) rfl ?_); refine box_event ?hg (N := 1) ?hd (cs := #[.int .i64 a, .slice A ps.length c]) (t := 24) ?hr ?_; (case hd => rfl); (case hg => rfl); (case hr => first | (go_simp; done) | (go_simp; rfl)); intro g1 hg w1 hbox hb; replace S := Aside0.mk (S.out.box hg hbox hb); have k10 := blk_cell hbox 0; have k11 := blk_cell hbox 1; simp only [List.getElem?_toArray, List.getElem?_cons_zero, List.getElem?_cons_succ] at  k10 k11; clear hbox hb hg) | (go_at_call 7; have X_ := few_s a ps _ _ (HR.out.step S.out.below) hf; rw [decide_eq_true HF.out] at X_; (with_reducible refine X_.mono ?_); clear X_; rintro e_ w10 ⟨rfl, hb⟩; replace S := Aside0.mk (S.out.step hb); clear hb k10 k11; have k10 := blk_cell (S.out.at_box 0 rfl) 0; have k11 := blk_cell (S.out.at_box 0 rfl) 1; simp only [List.getElem?_toArray, List.getElem?_cons_zero, List.getElem?_cons_succ] at k10 k11) | (go_at_call 11; have X_ := check_s a ps _ _ (hG.step S.out.below) (HR.out.step S.out.below) hf.1; rw [HK.out] at X_; (with_reducible refine X_.mono ?_); clear X_; rintro e_ w14 ⟨rfl, hb⟩; replace S := Aside0.mk (S.out.step hb); clear hb k10 k11; have k10 := blk_cell (S.out.at_box 0 rfl) 0; have k11 := blk_cell (S.out.at_box 0 rfl) 1; simp only [List.getElem?_toArray, List.getElem?_cons_zero, List.getElem?_cons_succ] at k10 k11) | (go_at_call 8; have X_ := lives_c _ (hG.step S.out.below); (with_reducible refine X_.mono ?_); clear X_; rintro e_ wL ⟨rfl, hb⟩; replace S := Aside0.mk (S.out.step hb); clear hb))
  go_ret
  exact ⟨rfl, S.out.below⟩
theorem outS_num : ∀ (l : List S44) (x y : Int), Num (outS l x y).1
  | [], _, _ => fun z hz => by cases hz
  | p :: t, x, y => fun z hz => by
    rw [outS] at hz
    have he : ∀ n, encD n ≤ 9223372036854775807 := fun n => by unfold encD wrap64; split <;> omega
    rcases List.mem_cons.1 hz with e | hz
    · rw [e]; exact he _
    · rcases List.mem_cons.1 hz with e | hz
      · rw [e]; exact he _
      · exact outS_num t p.f0 p.f1 z hz
theorem Num.app {l m : List Int} (h : Num l) (h' : Num m) : Num (l ++ m) := fun z hz => (List.mem_append.1 hz).elim (h z) (h' z)
theorem Num.cons {z : Int} {l : List Int} (hz : z ≤ 9223372036854775807) (h : Num l) : Num (z :: l) := fun y hy => (List.mem_cons.1 hy).elim (fun e => by rw [e]; exact hz) (h y)
theorem wrap_le (z : Int) : wrap64 z ≤ 9223372036854775807 := by unfold wrap64; omega
theorem encP_num (k3 : Bool) : ∀ (l : List (List S44)) (x y : Int), Num (encP k3 l x y)
  | [], _, _ => fun z hz => by cases hz
  | p :: t, x, y => by
    rw [encP]
    refine Num.app (Num.app (Num.app (Num.cons (by decide) (outS_num _ _ _)) (Num.cons (wrap_le _) (outS_num _ _ _))) ?_) (encP_num k3 t _ _)
    cases k3 with
    | false => exact fun z hz => by cases hz
    | true => exact Num.cons (by decide) (fun z hz => by cases hz)
theorem enc_num0 {kind : Int} {ps : List (List S44)} (h : checkS kind ps = 0) (hN : total ps ≤ 9000) : Num (encS kind ps) := by
  rw [encS_ok h]
  split
  · exact Num.cons (wrap_le _) (outS_num _ _ _)
  · exact encP_num _ _ _ _
theorem enc_small {kind : Int} {ps : List (List S44)} (h : checkS kind ps = 0) (hN : total ps ≤ 9000) : (encS kind ps).length ≤ 40000 := by
  rw [encS_ok h]
  split
  · have := total_len ps
    rw [List.length_cons, outS_len, firsts_len]; omega
  · have := encP_len (decide (kind = 3)) ps 0 0
    omega
set_option maxHeartbeats 4000000 in
set_option maxRecDepth 100000 in
theorem round_good (a : Int) (ps : List (List S44)) (A : Option Addr) (c : Nat) (w : World) (hG : Least w) (h : Seen kL w (.slice A ps.length c) ps) (hf : Fit ps) (HF : Aside0 (total ps ≤ 9000)) (HC : Aside0 (checkS a ps = 0)) :
    Calls Tryd.prog 5 #[.agg #[.int .i64 a, .slice A ps.length c]] w fun e w' => e = .returned (.bool true) ∧ Below w.heap.size w w' := by
  have S := Aside0.mk (Sep.start w)
  have HR := Aside0.mk h
  clear h
  have hu24 := Tryd.underlying24
  have HN := Aside0.mk (show total ps ≤ 1000000 by have := HF.out; omega)
  have HO := Aside0.mk (other_kind HC.out HN.out)
  have HL := Aside0.mk (show (encS a ps).length ≤ 1000000 by have := enc_small HC.out HF.out; omega)
  have HQ := Aside0.mk (enc_num0 HC.out HF.out)
  obtain ⟨r, hr⟩ : ∃ r, decS (wrap64 (Int.tmod a 3 + 1)) (encS a ps) = r := ⟨_, rfl⟩
  rw [hr] at HO
  have HX := Aside0.mk hr
  clear hr
  obtain ⟨r1, r2, r3⟩ := r
  obtain rfl : r3 = 4 := HO.out
  go_enter Tryd.func5, Tryd.ntmps5
  go_wp2_with (first | ((with_reducible refine gate_dst (N := 1) rfl ?_); refine box_event ?hg (N := 1) ?hd (cs := #[.int .i64 a, .slice A ps.length c]) (t := 24) ?hr ?_; (case hd => rfl); (case hg => rfl); (case hr => first | (go_simp; done) | (go_simp; rfl)); intro g1 hg w1 hbox hb; replace S := Aside0.mk (S.out.box hg hbox hb); have k10 := blk_cell hbox 0; have k11 := blk_cell hbox 1; simp only [List.getElem?_toArray, List.getElem?_cons_zero, List.getElem?_cons_succ] at  k10 k11; clear hbox hb hg) | (go_at_call 7; have X_ := few_s a ps _ _ (HR.out.step S.out.below) hf; rw [decide_eq_true HF.out] at X_; (with_reducible refine X_.mono ?_); clear X_; rintro e_ w10 ⟨rfl, hb⟩; replace S := Aside0.mk (S.out.step hb); clear hb k10 k11; have k10 := blk_cell (S.out.at_box 0 rfl) 0; have k11 := blk_cell (S.out.at_box 0 rfl) 1; simp only [List.getElem?_toArray, List.getElem?_cons_zero, List.getElem?_cons_succ] at k10 k11) | (go_at_call 11; have X_ := check_s a ps _ _ (hG.step S.out.below) (HR.out.step S.out.below) hf.1; rw [HC.out] at X_; (with_reducible refine X_.mono ?_); clear X_; rintro e_ w14 ⟨rfl, hb⟩; replace S := Aside0.mk (S.out.step hb); clear hb k10 k11; have k10 := blk_cell (S.out.at_box 0 rfl) 0; have k11 := blk_cell (S.out.at_box 0 rfl) 1; simp only [List.getElem?_toArray, List.getElem?_cons_zero, List.getElem?_cons_succ] at k10 k11) | (go_at_call 9; have X_ := encode_s a ps _ _ (hG.step S.out.below) (HR.out.step S.out.below) HN.out; rw [HC.out] at X_; (with_reducible refine X_.mono ?_); clear X_; rintro e_ w20 ⟨v20, rfl, ho, hb⟩; obtain ⟨A20, n20, c20, e20⟩ := R_form ho; subst e20; replace S := Aside0.mk (S.out.own ho hb); clear ho; clear hb k10 k11; have k10 := blk_cell (S.out.at_box 1 rfl) 0; have k11 := blk_cell (S.out.at_box 1 rfl) 1; simp only [List.getElem?_toArray, List.getElem?_cons_zero, List.getElem?_cons_succ] at k10 k11) | (go_at_call 14; have X_ := decode_s a (encS a ps) (.slice A20 n20 c20) _ (hG.step S.out.below) (S.out.own_reads 0 rfl) HL.out HQ.out; rw [round_trip HC.out HN.out] at X_; (with_reducible refine X_.mono ?_); clear X_; rintro e_ w27 ⟨v27, rfl, ho, hb⟩; obtain ⟨A27, n27, c27, e27⟩ := R_form ho; subst e27; replace S := Aside0.mk (S.out.own ho hb); clear ho; clear hb k10 k11) | ((with_reducible refine gate_dst (N := 5) rfl ?_); refine box_event ?hg (N := 5) ?hd (cs := #[.int .i64 0, .slice none 0 0]) (t := 24) ?hr ?_; (case hd => rfl); (case hg => rfl); (case hr => first | (go_simp; done) | (go_simp; rfl)); intro g5 hg w5 hbox hb; replace S := Aside0.mk (show Sep w _ (Box _ g5 24 #[(.int .i64 a), (.slice A27 n27 c27)] :: _) from ((S.out.box hg hbox hb).set 0 rfl 0 (.int .i64 a)).set 0 rfl 1 (.slice A27 n27 c27)); have z0 := blk_cell hbox 0; have z1 := blk_cell hbox 1; have y2 := blk_frozen hbox 0; have y3 := blk_frozen hbox 1; clear hbox hb hg; simp only [List.getElem?_toArray, List.getElem?_cons_zero, List.getElem?_cons_succ] at  z0 z1; have k10 := blk_cell (S.out.at_box 3 rfl) 0; have k11 := blk_cell (S.out.at_box 3 rfl) 1; simp only [List.getElem?_toArray, List.getElem?_cons_zero, List.getElem?_cons_succ] at k10 k11) | (go_at_call 14; have X_ := decode_s (wrap64 (Int.tmod a 3 + 1)) (encS a ps) (.slice A20 n20 c20) _ (hG.step S.out.below) (S.out.own_reads 2 rfl) HL.out HQ.out; rw [HX.out] at X_; (with_reducible refine X_.mono ?_); clear X_; rintro e_ w36 ⟨v36, rfl, ho, hb⟩; obtain ⟨A36, n36, c36, e36⟩ := R_form ho; subst e36; replace S := Aside0.mk (S.out.own ho hb); clear ho; clear hb k10 k11 z0 z1 y2 y3) | ((with_reducible refine gate_dst (N := 7) rfl ?_); refine box_event ?hg (N := 7) ?hd (cs := #[.int .i64 0, .slice none 0 0]) (t := 24) ?hr ?_; (case hd => rfl); (case hg => rfl); (case hr => first | (go_simp; done) | (go_simp; rfl)); intro g7 hg w7 hbox hb; replace S := Aside0.mk (show Sep w _ (Box _ g7 24 #[(.int .i64 r1), (.slice A36 n36 c36)] :: _) from ((S.out.box hg hbox hb).set 0 rfl 0 (.int .i64 r1)).set 0 rfl 1 (.slice A36 n36 c36)); have z0 := blk_cell hbox 0; have z1 := blk_cell hbox 1; have y2 := blk_frozen hbox 0; have y3 := blk_frozen hbox 1; clear hbox hb hg; simp only [List.getElem?_toArray, List.getElem?_cons_zero, List.getElem?_cons_succ] at  z0 z1; have k10 := blk_cell (S.out.at_box 5 rfl) 0; have k11 := blk_cell (S.out.at_box 5 rfl) 1; have k50 := blk_cell (S.out.at_box 2 rfl) 0; have k51 := blk_cell (S.out.at_box 2 rfl) 1; simp only [List.getElem?_toArray, List.getElem?_cons_zero, List.getElem?_cons_succ] at k10 k11 k50 k51) | (go_at_call 16; have X_ := same_s a a ps ps (.slice A ps.length c) (.slice A27 n27 c27) _ (HR.out.step S.out.below) (S.out.own_reads 3 rfl) hf; rw [decide_eq_true (show a = a ∧ ps = ps from ⟨rfl, rfl⟩)] at X_; (with_reducible refine X_.mono ?_); clear X_; rintro e_ w48 ⟨rfl, hb⟩; replace S := Aside0.mk (S.out.step hb); clear hb k10 k11 k50 k51) | (go_at_call 8; have X_ := lives_c _ (hG.step S.out.below); (with_reducible refine X_.mono ?_); clear X_; rintro e_ wL ⟨rfl, hb⟩; replace S := Aside0.mk (S.out.step hb); clear hb))
  go_ret
  exact ⟨rfl, S.out.below⟩
theorem roundTrip_c (a : Int) (ps : List (List S44)) (v : Value) (w : World) (hG : Least w) (h : Seen kL w v ps) (hf : Fit ps) :
    Calls Tryd.prog 5 #[.agg #[.int .i64 a, v]] w fun e w' => e = .returned (.bool true) ∧ Below w.heap.size w w' := by
  obtain ⟨A, c, rfl, h2, h3⟩ := h
  have hs : Seen kL w (.slice A ps.length c) ps := ⟨A, c, rfl, h2, h3⟩
  by_cases h1 : total ps ≤ 9000
  · by_cases h4 : checkS a ps = 0
    · exact round_good a ps A c w hG hs hf ⟨h1⟩ ⟨h4⟩
    · exact round_bad a ps A c w hG hs hf ⟨h1⟩ h4
  · exact round_many a ps A c w hG hs hf ⟨h1⟩
set_option maxHeartbeats 4000000 in
set_option maxRecDepth 100000 in
theorem inverse_many (a : Int) (l : List Int) (A : Option Addr) (c : Nat) (w : World) (hG : Least w) (h : Seen kI w (.slice A l.length c) l) (hb : l.length ≤ 140737488351232) (hn : Num l) (hm : ¬ l.length ≤ 2000) :
    Calls Tryd.prog 6 #[.int .i64 a, .slice A l.length c] w fun e w' => e = .returned (.bool true) ∧ Below w.heap.size w w' := by
  have S := Aside0.mk (Sep.start w)
  have HR := Aside0.mk h
  have HN := Aside0.mk hn
  clear h hn
  have hu24 := Tryd.underlying24
  have d : decide (2000 < (l.length : Int)) = true := decide_eq_true (by omega)
  clear hm hb
  go_enter Tryd.func6, Tryd.ntmps6
  go_wp2_with (first | (go_at_call 8; have X_ := lives_c _ (hG.step S.out.below); (with_reducible refine X_.mono ?_); clear X_; rintro e_ wL ⟨rfl, hb⟩; replace S := Aside0.mk (S.out.step hb); clear hb))
  go_ret
  exact ⟨rfl, S.out.below⟩
set_option maxHeartbeats 4000000 in
set_option maxRecDepth 100000 in
theorem inverse_bad (a : Int) (l : List Int) (A : Option Addr) (c : Nat) (w : World) (hG : Least w) (h : Seen kI w (.slice A l.length c) l) (hb : l.length ≤ 140737488351232) (hn : Num l) (hm : l.length ≤ 2000) (h0 : ¬ (decS a l).2.2 = 0) :
    Calls Tryd.prog 6 #[.int .i64 a, .slice A l.length c] w fun e w' => e = .returned (.bool true) ∧ Below w.heap.size w w' := by
  have S := Aside0.mk (Sep.start w)
  have HR := Aside0.mk h
  have HN := Aside0.mk hn
  clear h hn
  have hu24 := Tryd.underlying24
  have d : decide (2000 < (l.length : Int)) = false := decide_eq_false (by omega)
  have HL := Aside0.mk (show l.length ≤ 1000000 by omega)
  clear hm hb
  obtain ⟨e1, e2⟩ := inverse_not h0
  obtain ⟨r, hr⟩ : ∃ r, decS a l = r := ⟨_, rfl⟩
  rw [hr] at h0 e1 e2
  obtain ⟨r1, r2, r3⟩ := r
  obtain rfl : r1 = 0 := e1
  obtain rfl : r2 = [] := e2
  have HD := Aside0.mk hr
  have d3 := bne_iff_ne.2 (show r3 ≠ 0 from h0)
  clear hr h0
  go_enter Tryd.func6, Tryd.ntmps6
  go_wp2_with (first | (go_at_call 14; have X_ := decode_s a l _ _ (hG.step S.out.below) (HR.out.step S.out.below) HL.out HN.out; rw [HD.out] at X_; (with_reducible refine X_.mono ?_); clear X_; rintro e_ w18 ⟨v18, rfl, ho, hb⟩; obtain ⟨A18, n18, c18, e18⟩ := R_form ho; subst e18; replace S := Aside0.mk (S.out.own ho hb); clear ho; clear hb) | ((with_reducible refine gate_dst (N := 5) rfl ?_); refine box_event ?hg (N := 5) ?hd (cs := #[.int .i64 0, .slice none 0 0]) (t := 24) ?hr ?_; (case hd => rfl); (case hg => rfl); (case hr => first | (go_simp; done) | (go_simp; rfl)); intro g5 hg w5 hbox hb; replace S := Aside0.mk (show Sep w _ (Box _ g5 24 #[(.int .i64 0), (.slice A18 n18 c18)] :: _) from ((S.out.box hg hbox hb).set 0 rfl 0 (.int .i64 0)).set 0 rfl 1 (.slice A18 n18 c18)); have z0 := blk_cell hbox 0; have z1 := blk_cell hbox 1; have y2 := blk_frozen hbox 0; have y3 := blk_frozen hbox 1; clear hbox hb hg; simp only [List.getElem?_toArray, List.getElem?_cons_zero, List.getElem?_cons_succ] at  z0 z1; have k50 := blk_cell (S.out.at_box 0 rfl) 0; have k51 := blk_cell (S.out.at_box 0 rfl) 1; simp only [List.getElem?_toArray, List.getElem?_cons_zero, List.getElem?_cons_succ] at k50 k51) | (go_at_call 16; have X_ := same_s 0 0 [] [] (.slice A18 n18 c18) (.slice none 0 0) _ (S.out.own_reads 1 rfl) (seen_nil _ _) ⟨Nat.zero_le _, fun p hp => by cases hp⟩; rw [decide_eq_true (show (0 : Int) = 0 ∧ ([] : List (List S44)) = [] from ⟨rfl, rfl⟩)] at X_; (with_reducible refine X_.mono ?_); clear X_; rintro e_ w25 ⟨rfl, hb⟩; replace S := Aside0.mk (S.out.step hb); clear hb k50 k51) | (go_at_call 8; have X_ := lives_c _ (hG.step S.out.below); (with_reducible refine X_.mono ?_); clear X_; rintro e_ wL ⟨rfl, hb⟩; replace S := Aside0.mk (S.out.step hb); clear hb))
  go_ret
  exact ⟨rfl, S.out.below⟩
set_option maxHeartbeats 4000000 in
set_option maxRecDepth 100000 in
theorem inverse_good (a : Int) (l : List Int) (A : Option Addr) (c : Nat) (w : World) (hG : Least w) (h : Seen kI w (.slice A l.length c) l) (hb : l.length ≤ 140737488351232) (hn : Num l) (hm : l.length ≤ 2000) (h0 : (decS a l).2.2 = 0) :
    Calls Tryd.prog 6 #[.int .i64 a, .slice A l.length c] w fun e w' => e = .returned (.bool true) ∧ Below w.heap.size w w' := by
  have S := Aside0.mk (Sep.start w)
  have HR := Aside0.mk h
  have HN := Aside0.mk hn
  clear h hn
  have hu24 := Tryd.underlying24
  have d : decide (2000 < (l.length : Int)) = false := decide_eq_false (by omega)
  have HL := Aside0.mk (show l.length ≤ 1000000 by omega)
  clear hm hb
  obtain ⟨e1, e2, e3, e4⟩ := inverse_law HN.out HL.out h0
  have et := total_enc e1
  obtain ⟨r, hr⟩ : ∃ r, decS a l = r := ⟨_, rfl⟩
  rw [hr] at h0 e1 e2 e3 et
  obtain ⟨r1, ps, r3⟩ := r
  obtain rfl : r3 = 0 := h0
  obtain rfl : r1 = a := e2
  have HD := Aside0.mk hr
  have HC := Aside0.mk (show checkS r1 ps = 0 from e1)
  have HE := Aside0.mk (show encS r1 ps = l from e3)
  have HT := Aside0.mk (show total ps ≤ 1000000 by rw [show encS r1 ps = l from e3] at et; exact Nat.le_trans et HL.out)
  obtain ⟨q, hq⟩ : ∃ q, decS r1 (l.take (l.length - 1)) = q := ⟨_, rfl⟩
  rw [hq] at e4
  obtain ⟨q1, q2, q3⟩ := q
  obtain rfl : q3 = 4 := e4
  have HX := Aside0.mk hq
  have hne : 1 ≤ l.length := by
    rcases Nat.eq_zero_or_pos l.length with hz | hz
    · exfalso
      obtain rfl := List.length_eq_zero_iff.1 hz
      have := congrArg List.length HE.out
      rw [encS_ok HC.out] at this
      obtain ⟨hk, hnn, hp⟩ := check_split HC.out
      have t := total_enc HC.out
      rw [HE.out] at t
      have := total_len ps
      exact hnn (List.length_eq_zero_iff.1 (Nat.le_zero.1 (Nat.le_trans this t)))
    · exact hz
  have hw1 : wrap64 ((l.length : Int) - 1) = ((l.length - 1 : Nat) : Int) := by have := HL.out; unfold wrap64; omega
  have HS := Aside0.mk (show ∀ W : World, Below w.heap.size w W → Seen kI W (.slice A (l.length - 1) c) (l.take (l.length - 1)) from fun W hb => by
    obtain ⟨A', c', e, h2, h3⟩ := HR.out.step hb
    injection e with e1 _ e3
    subst e1 e3
    have ht := Kd.C_take h3 (m := l.length - 1) (by omega)
    have hlen : (l.take (l.length - 1)).length = l.length - 1 := by rw [List.length_take]; omega
    refine ⟨A, c, by rw [hlen], by omega, ht⟩)
  have hcap : l.length ≤ c := by
    obtain ⟨A', c', e, h2, h3⟩ := HR.out
    injection e with e1 _ e3
    omega
  clear hr e1 e3 hq et
  go_enter Tryd.func6, Tryd.ntmps6
  go_wp2_with (first | (go_at_call 14; have X_ := decode_s r1 l _ _ (hG.step S.out.below) (HR.out.step S.out.below) HL.out HN.out; rw [HD.out] at X_; (with_reducible refine X_.mono ?_); clear X_; rintro e_ w18 ⟨v18, rfl, ho, hb⟩; obtain ⟨A18, n18, c18, e18⟩ := R_form ho; subst e18; replace S := Aside0.mk (S.out.own ho hb); clear ho; clear hb) | ((with_reducible refine gate_dst (N := 5) rfl ?_); refine box_event ?hg (N := 5) ?hd (cs := #[.int .i64 0, .slice none 0 0]) (t := 24) ?hr ?_; (case hd => rfl); (case hg => rfl); (case hr => first | (go_simp; done) | (go_simp; rfl)); intro g5 hg w5 hbox hb; replace S := Aside0.mk (show Sep w _ (Box _ g5 24 #[(.int .i64 r1), (.slice A18 n18 c18)] :: _) from ((S.out.box hg hbox hb).set 0 rfl 0 (.int .i64 r1)).set 0 rfl 1 (.slice A18 n18 c18)); have z0 := blk_cell hbox 0; have z1 := blk_cell hbox 1; have y2 := blk_frozen hbox 0; have y3 := blk_frozen hbox 1; clear hbox hb hg; simp only [List.getElem?_toArray, List.getElem?_cons_zero, List.getElem?_cons_succ] at  z0 z1; have k50 := blk_cell (S.out.at_box 0 rfl) 0; have k51 := blk_cell (S.out.at_box 0 rfl) 1; simp only [List.getElem?_toArray, List.getElem?_cons_zero, List.getElem?_cons_succ] at k50 k51) | (go_at_call 9; have X_ := encode_s r1 ps (.slice A18 n18 c18) _ (hG.step S.out.below) (S.out.own_reads 1 rfl) HT.out; rw [HC.out, HE.out] at X_; (with_reducible refine X_.mono ?_); clear X_; rintro e_ w31 ⟨v31, rfl, ho, hb⟩; obtain ⟨A31, n31, c31, e31⟩ := R_form ho; subst e31; replace S := Aside0.mk (S.out.own ho hb); clear ho; clear hb k50 k51 z0 z1 y2 y3; have k50 := blk_cell (S.out.at_box 1 rfl) 0; have k51 := blk_cell (S.out.at_box 1 rfl) 1; simp only [List.getElem?_toArray, List.getElem?_cons_zero, List.getElem?_cons_succ] at k50 k51) | (go_at_call 14; have X_ := decode_s r1 (l.take (l.length - 1)) (.slice A (l.length - 1) c) _ (hG.step S.out.below) (HS.out _ S.out.below) (by rw [List.length_take]; have := HL.out; omega) (fun z hz => HN.out z (List.mem_of_mem_take hz)); rw [HX.out] at X_; (with_reducible refine X_.mono ?_); clear X_; rintro e_ w42 ⟨v42, rfl, ho, hb⟩; obtain ⟨A42, n42, c42, e42⟩ := R_form ho; subst e42; replace S := Aside0.mk (S.out.own ho hb); clear ho; clear hb k50 k51; have k50 := blk_cell (S.out.at_box 2 rfl) 0; have k51 := blk_cell (S.out.at_box 2 rfl) 1; simp only [List.getElem?_toArray, List.getElem?_cons_zero, List.getElem?_cons_succ] at k50 k51) | ((with_reducible refine gate_dst (N := 9) rfl ?_); refine box_event ?hg (N := 9) ?hd (cs := #[.int .i64 0, .slice none 0 0]) (t := 24) ?hr ?_; (case hd => rfl); (case hg => rfl); (case hr => first | (go_simp; done) | (go_simp; rfl)); intro g9 hg w9 hbox hb; replace S := Aside0.mk (show Sep w _ (Box _ g9 24 #[(.int .i64 q1), (.slice A42 n42 c42)] :: _) from ((S.out.box hg hbox hb).set 0 rfl 0 (.int .i64 q1)).set 0 rfl 1 (.slice A42 n42 c42)); have z0 := blk_cell hbox 0; have z1 := blk_cell hbox 1; have y2 := blk_frozen hbox 0; have y3 := blk_frozen hbox 1; clear hbox hb hg; simp only [List.getElem?_toArray, List.getElem?_cons_zero, List.getElem?_cons_succ] at  z0 z1; clear k50 k51; have k50 := blk_cell (S.out.at_box 3 rfl) 0; have k51 := blk_cell (S.out.at_box 3 rfl) 1; simp only [List.getElem?_toArray, List.getElem?_cons_zero, List.getElem?_cons_succ] at k50 k51) | (go_at_call 13; have X_ := equal_s l l _ (.slice A31 n31 c31) _ (HR.out.step S.out.below) (S.out.own_reads 2 rfl) (by have := HL.out; omega); rw [decide_eq_true (rfl : l = l)] at X_; (with_reducible refine X_.mono ?_); clear X_; rintro e_ w50 ⟨rfl, hb⟩; replace S := Aside0.mk (S.out.step hb); clear hb k50 k51; have k50 := blk_cell (S.out.at_box 3 rfl) 0; have k51 := blk_cell (S.out.at_box 3 rfl) 1; simp only [List.getElem?_toArray, List.getElem?_cons_zero, List.getElem?_cons_succ] at k50 k51) | (go_at_call 8; have X_ := lives_c _ (hG.step S.out.below); (with_reducible refine X_.mono ?_); clear X_; rintro e_ wL ⟨rfl, hb⟩; replace S := Aside0.mk (S.out.step hb); clear hb))
  go_ret
  exact ⟨rfl, S.out.below⟩
theorem inverse_c (a : Int) (l : List Int) (v : Value) (w : World) (hG : Least w) (h : Seen kI w v l) (hb : l.length ≤ 140737488351232) (hn : Num l) :
    Calls Tryd.prog 6 #[.int .i64 a, v] w fun e w' => e = .returned (.bool true) ∧ Below w.heap.size w w' := by
  obtain ⟨A, c, rfl, h2, h3⟩ := h
  have hs : Seen kI w (.slice A l.length c) l := ⟨A, c, rfl, h2, h3⟩
  by_cases h1 : l.length ≤ 2000
  · by_cases h4 : (decS a l).2.2 = 0
    · exact inverse_good a l A c w hG hs hb hn h1 h4
    · exact inverse_bad a l A c w hG hs hb hn h1 h4
  · exact inverse_many a l A c w hG hs hb hn h1
end Go.Proofs.YtopapknfpoandaaDoor.Hand
