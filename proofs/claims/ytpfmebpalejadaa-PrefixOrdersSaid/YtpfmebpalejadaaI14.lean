import Derived.Test.YtpfmebpalejadaaJa
namespace Go.Proofs.Ytpfmebpalejadaa.Hand
open Go.Proofs.YtpfmebpalejadaaW Go.RowKit Go.Proofs.YtpfmebpalejadaaW.PrintWords Go.Proofs.YtpfmebpalejadaaW.PrintLast Go.Proofs.YtpfmebpalejadaaW.PrintMore Go.Proofs.YtpfmebpalejadaaW.SepW Go.Proofs.Ytpfmebpalejadaa.PALL Go.Proofs.Ytpfmebpalejadaa.Plain
set_option linter.unusedVariables false
set_option linter.unusedSimpArgs false

theorem rep_grow (os : List ByteArray) (i : Nat) : (grow (List.replicate i os) i).set i os = List.replicate (i + 1) os := by
  unfold grow
  rw [if_pos (by simp), List.set_append_right _ _ (by simp), List.length_replicate, Nat.sub_self, List.replicate_succ']
  rfl
theorem rep_small {os : List ByteArray} {bs : List (List ByteArray)} (hs : Small bs) (ho : os.length ≤ 1000) {i : Nat} (hi : i < bs.length) : Small (grow (List.replicate i os) i) := by
  unfold grow
  rw [if_pos (by simp)]
  refine ⟨by have := hs.1; simp; omega, fun l hl => ?_⟩
  rcases List.mem_append.1 hl with hl | hl
  · rw [(List.mem_replicate.1 hl).2]; exact ho
  · rw [List.mem_singleton.1 hl]; simp
/-- Some documents are others still. -/
def mixed (os : List ByteArray) (bs : List (List ByteArray)) (j : Nat) : List (List ByteArray) := List.replicate j os ++ bs.drop j
theorem mixed_len {os : List ByteArray} {bs : List (List ByteArray)} {j : Nat} (h : j ≤ bs.length) : (mixed os bs j).length = bs.length := by simp [mixed]; omega
theorem mixed_set {os : List ByteArray} {bs : List (List ByteArray)} {j : Nat} (h : j < bs.length) : (grow (mixed os bs (j + 1)) j).set j bs[j] = mixed os bs j := by
  have hl : (mixed os bs (j + 1)).length = bs.length := mixed_len (by omega)
  unfold grow
  rw [if_neg (by omega)]
  unfold mixed
  rw [List.replicate_succ', List.append_assoc, List.set_append_right _ _ (by simp), List.length_replicate, Nat.sub_self, List.drop_eq_getElem_cons h]
  rfl
theorem mixed_small {os : List ByteArray} {bs : List (List ByteArray)} (hs : Small bs) (ho : os.length ≤ 1000) {j : Nat} (h : j < bs.length) : Small (grow (mixed os bs (j + 1)) j) := by
  have hl : (mixed os bs (j + 1)).length = bs.length := mixed_len (by omega)
  unfold grow
  rw [if_neg (by omega)]
  refine ⟨by rw [hl]; exact hs.1, fun l hl => ?_⟩
  rcases List.mem_append.1 hl with hl | hl
  · rw [(List.mem_replicate.1 hl).2]; exact ho
  · exact hs.2 l (List.mem_of_mem_drop hl)
set_option maxHeartbeats 8000000 in
set_option maxRecDepth 100000 in
theorem orders_law (bs : List (List ByteArray)) (os : List ByteArray) (p : ByteArray) (A : Option Addr) (c : Nat) (A1 : Option Addr) (c1 : Nat) (w : World) (hC : Kd.C (Kd.slice 9 Kd.string) w A bs.length bs) (hc : bs.length ≤ c) (hO : Kd.string.C w A1 os.length os) (hoc : os.length ≤ c1) (hp : p.size ≤ 140737488351232) :
    Calls Try.prog 6 #[.slice A bs.length c, .slice A1 os.length c1, .string p] w fun e w' => e = .returned (.bool true) ∧ Below w.heap.size w w' := by
  obtain ⟨kF, hkF⟩ := few_ev bs
  obtain ⟨kO, hkO⟩ := (lw_ev os).rounds
  have HC := Aside0.mk hC
  have HCC := Aside0.mk hc
  have HO := Aside0.mk hO
  have HOC := Aside0.mk hoc
  have S := Aside0.mk (Sep.start w)
  clear hC hc hO hoc
  by_cases hf : fewB bs = true
  · have HS := Aside0.mk (few_small hf)
    rw [hf] at hkF
    have HKF := Aside0.mk hkF
    clear hkF hf
    by_cases hfo : wordsB os = true
    · have HOL : Aside0 (os.length ≤ 1000) := ⟨by have := wordsB_len hfo; omega⟩
      rw [hfo] at hkO
      have HKO := Aside0.mk hkO
      clear hkO hfo
      by_cases hq : (p.size : Int) > 40
      · have d0 : decide (40 < (p.size : Int)) = true := decide_eq_true hq
        have d1 : decide (40 < p.size) = true := decide_eq_true (by omega)
        clear hq
        go_enter Try.func6, Try.ntmps6
        go_wp2_with (first | (go_at_call 8; have X_ := mapmakerlaw52_Few.calls kF A c bs true w HC.out HCC.out HKF.out; (with_reducible refine X_.mono ?_); clear X_; rintro e_ w8 ⟨rfl, hdn⟩; obtain ⟨n8, rfl⟩ := hdn.out; replace S := Aside0.mk (S.out.drewN n8); clear hdn) | (go_at_call 21; have X_ := mapmakerlaw52_words.calls kO A1 c1 os true _ (Kd.C_below HO.out S.out.below) HOC.out HKO.out; (with_reducible refine X_.mono ?_); clear X_; rintro e_ w21 ⟨rfl, hdn⟩; obtain ⟨n21, rfl⟩ := hdn.out; replace S := Aside0.mk (show Sep w (w.drewN (n8 + n21)) [] from drewN_drewN w n8 n21 ▸ S.out.drewN n21); clear hdn) | (go_at_call 9; (with_reducible refine (lives_ix _).mono ?_); rintro e_ w9 ⟨rfl, hb⟩; replace S := Aside0.mk (S.out.step hb); clear hb) | fail)
        go_ret
        exact ⟨rfl, S.out.below⟩
      · have d0 : decide (40 < (p.size : Int)) = false := decide_eq_false hq
        have d1 : decide (40 < p.size) = false := decide_eq_false (by omega)
        clear hq
        have hbl : bs.length ≤ 100 := HS.out.1
        go_enter Try.func6, Try.ntmps6
        go_upto_region 7 with (first | (go_at_call 8; have X_ := mapmakerlaw52_Few.calls kF A c bs true w HC.out HCC.out HKF.out; (with_reducible refine X_.mono ?_); clear X_; rintro e_ w8 ⟨rfl, hdn⟩; obtain ⟨n8, rfl⟩ := hdn.out; replace S := Aside0.mk (S.out.drewN n8); clear hdn) | (go_at_call 21; have X_ := mapmakerlaw52_words.calls kO A1 c1 os true _ (Kd.C_below HO.out S.out.below) HOC.out HKO.out; (with_reducible refine X_.mono ?_); clear X_; rintro e_ w21 ⟨rfl, hdn⟩; obtain ⟨n21, rfl⟩ := hdn.out; replace S := Aside0.mk (show Sep w (w.drewN (n8 + n21)) [] from drewN_drewN w n8 n21 ▸ S.out.drewN n21); clear hdn) | (go_at_call 11; have X_ := new_ix S.out none 0 [] [] ⟨fun w' M S i v h => by simp at h, fun i l h => by simp at h⟩ ⟨by decide, by simp⟩; rw [show ([] : List (List ByteArray)).length = 0 from rfl] at X_; (with_reducible refine X_.mono ?_); clear X_; rintro e_ wx ⟨gx, wvx, dvx, bvx, dvsx, bvsx, mx, rfl, hI, hS⟩; have HIX := Aside0.mk hI; replace S := Aside0.mk hS; clear hI hS; obtain ⟨vs, hv⟩ := docs_of_C (w0 := w) [Box w.heap.size gx 56 #[wvx, dvx, bvx], Fz w.heap.size wvx (pw_strs (mx.map (·.1))), Hd w.heap.size 43 dvx dvsx, FzN w.heap.size dvsx ((mx.map (·.2)).map (nums .i64)), Hdr w.heap.size 33 bvx bvsx, FzN w.heap.size bvsx (([] : List (List ByteArray)).map pw_strs)] HC.out; have HV := Aside0.mk hv; clear hv) | (go_at_call 11; have X_ := new_ix S.out A c bs vs HV.out HS.out; (with_reducible refine X_.mono ?_); clear X_; rintro e_ wy ⟨gy, wvy, dvy, bvy, dvsy, bvsy, my, rfl, hI, hS⟩; have HIY := Aside0.mk hI; replace S := Aside0.mk hS; clear hI hS) | fail)
        replace S := Aside0.mk (perm S.out (List.perm_append_comm (l₁ := [_, _, _, _, _, _])))
        go_loopg [9] (bs.length + 1) (fun kq v9 w' => ∃ (i : Nat) (wv dv bv : Value) (dvs bvs : List Value) (m : List (ByteArray × List Int)), v9 = .int .i64 i ∧ Aside0 (kq + i = bs.length + 1) ∧ Aside0 (i ≤ bs.length) ∧ Aside0 (Inv m (RB (List.replicate i os))) ∧ Aside0 (Sep w w' (IxL _ gx wv dv bv dvs m (Hdr _ 33 bv bvs :: FzN _ bvs ((List.replicate i os).map pw_strs) :: [Box w.heap.size gy 56 #[wvy, dvy, bvy], Fz w.heap.size wvy (pw_strs (my.map (·.1))), Hd w.heap.size 43 dvy dvsy, FzN w.heap.size dvsy ((my.map (·.2)).map (nums .i64)), Hdr w.heap.size 33 bvy bvsy, FzN w.heap.size bvsy (bs.map pw_strs)]))))
        case atStart => exact ⟨0, _, _, _, _, _, _, rfl, ⟨rfl⟩, ⟨Nat.zero_le _⟩, HIX, S⟩
        case round =>
          clear S
          obtain ⟨i, wv, dv, bv, dvs, bvs, m, rfl, KQ, IL, HI, S⟩ := hrel
          cases gk with
          | zero => exact absurd KQ.out (by have := IL.out; omega)
          | succ q1 =>
          by_cases hi : i < bs.length
          · have p1 : (i : Int) < (bs.length : Int) := by omega
            have d2 := decide_eq_true p1
            have d2' : decide (i < bs.length) = true := decide_eq_true hi
            have HDL : Aside0 (i ≤ (List.replicate i os).length) := ⟨by simp⟩
            have HSG := Aside0.mk (rep_small HS.out HOL.out hi)
            have HST := Aside0.mk (rep_grow os i)
            go_wp2_with (first | (go_at_call 14; have X_ := set_yes S.out HI.out i HDL.out HSG.out A1 c1 os (RowIn.of_C HO.out) HOC.out HOL.out; rw [HST.out] at X_; (with_reducible refine X_.mono ?_); clear X_; rintro e_ w14 ⟨rfl, wv1, dv1, bv1, dvs1, bvs1, m1, hI, hS⟩; have HI1 := Aside0.mk hI; have S1 := Aside0.mk hS; clear hI hS) | fail)
            go_roundg q1
            case measure => omega
            case rel => exact ⟨i + 1, wv1, dv1, bv1, dvs1, bvs1, m1, rfl, ⟨by have := KQ.out; omega⟩, ⟨by omega⟩, HI1, S1⟩
          · obtain rfl : i = bs.length := by have := IL.out; omega
            have d2 := decide_eq_false (show ¬ ((bs.length : Nat) : Int) < (bs.length : Int) by omega)
            have d2' : decide (bs.length < bs.length) = false := decide_eq_false (by omega)
            clear hi
            go_upto_region 12 with fail
            go_loopg [10] (bs.length + 1) (fun kq v10 w' => ∃ (j : Nat) (jj : Int) (wv dv bv : Value) (dvs bvs : List Value) (m : List (ByteArray × List Int)), v10 = .int .i64 jj ∧ Aside0 (jj = (j : Int) - 1) ∧ Aside0 (kq = j + 1) ∧ Aside0 (j ≤ bs.length) ∧ Aside0 (Inv m (RB (mixed os bs j))) ∧ Aside0 (Sep w w' (IxL _ gx wv dv bv dvs m (Hdr _ 33 bv bvs :: FzN _ bvs ((mixed os bs j).map pw_strs) :: [Box w.heap.size gy 56 #[wvy, dvy, bvy], Fz w.heap.size wvy (pw_strs (my.map (·.1))), Hd w.heap.size 43 dvy dvsy, FzN w.heap.size dvsy ((my.map (·.2)).map (nums .i64)), Hdr w.heap.size 33 bvy bvsy, FzN w.heap.size bvsy (bs.map pw_strs)]))))
            case atStart =>
              have e : mixed os bs bs.length = List.replicate bs.length os := by simp [mixed]
              refine ⟨bs.length, (bs.length : Int) - 1, wv, dv, bv, dvs, bvs, m, rfl, ⟨rfl⟩, ⟨rfl⟩, ⟨Nat.le_refl _⟩, ⟨by rw [e]; exact HI.out⟩, ⟨by rw [e]; exact S.out⟩⟩
            case round =>
              clear S HI wv dv bv dvs bvs m KQ IL
              obtain ⟨j, jj, wv, dv, bv, dvs, bvs, m, rfl, JJ, KQ, IL, HI, S⟩ := hrel
              cases j with
              | zero =>
                have hj := JJ.out
                obtain rfl : jj = -1 := by omega
                clear hj
                have HBL : Aside0 (bvs.length = bs.length) := ⟨(fzn_len S.out 5 rfl).trans (mixed_len (Nat.zero_le _))⟩
                have HBLY : Aside0 (bvsy.length = bs.length) := ⟨fzn_len S.out 11 rfl⟩
                have e0 : mixed os bs 0 = bs := by simp [mixed]
                rw [e0] at HI S
                have HF := Aside0.mk HS.out.flat
                have HWL : Aside0 ((wordsOf bs.flatten).length ≤ 1000000) := ⟨by have := wordsOf_len bs.flatten; have := HF.out.2.2; omega⟩
                have HL1 : Aside0 ((sel (fun x => decide (x = p)) bs bs.length).length ≤ 1000000000000) := ⟨by have := sel_len (fun x => decide (x = p)) bs bs.length; have := HF.out.1; omega⟩
                have HL2 : Aside0 ((sel (begins · p) bs bs.length).length ≤ 1000000000000) := ⟨by have := sel_len (begins · p) bs bs.length; have := HF.out.1; omega⟩
                go_wp2_with (first | (go_at_call 16; have X_ := rng_m S.out HI.out HS.out p; (with_reducible refine X_.mono ?_); clear X_; rintro e_ w67 ⟨a, b, rfl, hrg, hb⟩; have HRG := Aside0.mk hrg; clear hrg; replace S := Aside0.mk (S.out.step hb); clear hb) | (go_at_call 16; have X_ := rng_m (perm S.out (List.perm_append_comm (l₁ := [_, _, _, _, _, _]))) HIY.out HS.out p; (with_reducible refine X_.mono ?_); clear X_; rintro e_ w73 ⟨a2, b2, rfl, hrg, hb⟩; obtain ⟨ea, eb⟩ := range_one HRG.out hrg; subst ea; subst eb; clear hrg; replace S := Aside0.mk (S.out.step hb); clear hb) | (go_at_call 22; have X_ := len_ix S.out; rw [HBL.out] at X_; (with_reducible refine X_.mono ?_); clear X_; rintro e_ w_ ⟨rfl, hw_⟩; obtain rfl := hw_.symm; skip) | (go_at_call 22; have X_ := len_ix (perm S.out (List.perm_append_comm (l₁ := [_, _, _, _, _, _]))); rw [HBLY.out] at X_; (with_reducible refine X_.mono ?_); clear X_; rintro e_ w_ ⟨rfl, hw_⟩; obtain rfl := hw_.symm; skip) | (go_at_call 15; have X_ := words_m S.out HI.out HS.out; (with_reducible refine X_.mono ?_); clear X_; rintro e_ w83 ⟨v83, rfl, ho, hb⟩; obtain ⟨A83, c83, e83, hcap, hCC⟩ := Kd.R_reads ho; subst e83; have C83 := Aside0.mk hCC; have P83 := Aside0.mk hcap; clear ho hcap hCC; replace S := Aside0.mk (S.out.step hb); clear hb) | (go_at_call 15; have X_ := words_m (perm S.out (List.perm_append_comm (l₁ := [_, _, _, _, _, _]))) HIY.out HS.out; (with_reducible refine X_.mono ?_); clear X_; rintro e_ w85 ⟨v85, rfl, ho, hb⟩; have C83 := Aside0.mk (Kd.C_below C83.out hb); obtain ⟨A85, c85, e85, hcap, hCC⟩ := Kd.R_reads ho; subst e85; have C85 := Aside0.mk hCC; have P85 := Aside0.mk hcap; clear ho hcap hCC; replace S := Aside0.mk (S.out.step hb); clear hb) | (go_at_call 23; have X_ := texts_same (wordsOf bs.flatten) HWL.out A83 c83 A85 c85 _ C83.out P83.out C85.out P85.out; (with_reducible refine X_.mono ?_); clear X_; rintro e_ w86 ⟨rfl, n_, rfl⟩; replace S := Aside0.mk (S.out.drewN n_)) | (go_at_call 18; have X_ := word_m S.out HI.out HS.out p; (with_reducible refine X_.mono ?_); clear X_; rintro e_ w101 ⟨v101, rfl, ho, hb⟩; obtain ⟨A101, c101, e101, hcap, hCC⟩ := Kd.R_reads ho; subst e101; have C101 := Aside0.mk hCC; have P101 := Aside0.mk hcap; clear ho hcap hCC; replace S := Aside0.mk (S.out.step hb); clear hb) | (go_at_call 18; have X_ := word_m (perm S.out (List.perm_append_comm (l₁ := [_, _, _, _, _, _]))) HIY.out HS.out p; (with_reducible refine X_.mono ?_); clear X_; rintro e_ w104 ⟨v104, rfl, ho, hb⟩; have C101 := Aside0.mk (Kd.C_below C101.out hb); obtain ⟨A104, c104, e104, hcap, hCC⟩ := Kd.R_reads ho; subst e104; have C104 := Aside0.mk hCC; have P104 := Aside0.mk hcap; clear ho hcap hCC; replace S := Aside0.mk (S.out.step hb); clear hb) | (go_at_call 19; have X_ := ints_same (sel (fun x => decide (x = p)) bs bs.length) HL1.out A101 c101 A104 c104 _ C101.out P101.out C104.out P104.out; (with_reducible refine X_.mono ?_); clear X_; rintro e_ w105 ⟨rfl, n_, rfl⟩; replace S := Aside0.mk (S.out.drewN n_)) | (go_at_call 20; have X_ := prefix_m S.out HI.out HS.out p; (with_reducible refine X_.mono ?_); clear X_; rintro e_ w110 ⟨v110, rfl, ho, hb⟩; obtain ⟨A110, c110, e110, hcap, hCC⟩ := Kd.R_reads ho; subst e110; have C110 := Aside0.mk hCC; have P110 := Aside0.mk hcap; clear ho hcap hCC; replace S := Aside0.mk (S.out.step hb); clear hb) | (go_at_call 20; have X_ := prefix_m (perm S.out (List.perm_append_comm (l₁ := [_, _, _, _, _, _]))) HIY.out HS.out p; (with_reducible refine X_.mono ?_); clear X_; rintro e_ w113 ⟨v113, rfl, ho, hb⟩; have C110 := Aside0.mk (Kd.C_below C110.out hb); obtain ⟨A113, c113, e113, hcap, hCC⟩ := Kd.R_reads ho; subst e113; have C113 := Aside0.mk hCC; have P113 := Aside0.mk hcap; clear ho hcap hCC; replace S := Aside0.mk (S.out.step hb); clear hb) | (go_at_call 19; have X_ := ints_same (sel (begins · p) bs bs.length) HL2.out A110 c110 A113 c113 _ C110.out P110.out C113.out P113.out; (with_reducible refine X_.mono ?_); clear X_; rintro e_ w114 ⟨rfl, n_, rfl⟩; replace S := Aside0.mk (S.out.drewN n_)) | (go_at_call 9; (with_reducible refine (lives_ix _).mono ?_); rintro e_ w9 ⟨rfl, hb⟩; replace S := Aside0.mk (S.out.step hb); clear hb) | fail)
                go_ret
                exact ⟨rfl, S.out.below⟩
              | succ j =>
                have hj := JJ.out
                obtain rfl : jj = (j : Int) := by omega
                have hjl : j < bs.length := IL.out
                clear hj
                have p0 : (0 : Int) ≤ (j : Int) := by omega
                have p1 : (j : Int) < (bs.length : Int) := by omega
                obtain ⟨vs2, hv2⟩ := docs_of_C (w0 := w) ([] : List (Thing w.heap.size)) HC.out
                obtain ⟨Ai, ci, hvi, hci, _⟩ := hv2.row j bs[j] (List.getElem?_eq_getElem hjl)
                obtain ⟨ad, A0, c0, ead, h1, h2, h3⟩ := at_L1 HC.out (j : Int) (by omega) (by omega)
                rw [rdL, show bs.getD j [] = bs[j] by simp [hjl], show ((j : Int)).toNat = j by omega] at h1
                rw [rdL, show bs.getD j [] = bs[j] by simp [hjl]] at h2 h3
                subst ead
                have hcell := pw_cell_below S.out.below h1
                have HR := Aside0.mk h3
                have HCI := Aside0.mk h2
                have HDL : Aside0 (j ≤ (mixed os bs (j + 1)).length) := ⟨by rw [mixed_len (by omega)]; omega⟩
                have HSG := Aside0.mk (mixed_small HS.out HOL.out hjl)
                have HST := Aside0.mk (mixed_set (os := os) hjl)
                have HLI := Aside0.mk (HS.out.2 bs[j] (List.getElem_mem hjl))
                obtain ⟨l, hl⟩ : ∃ l, l = bs[j] := ⟨_, rfl⟩
                rw [← hl] at HST HLI HR HCI hcell
                clear h1 h2 h3 hvi hci hv2 hl vs2
                go_wp2_with (first | (go_at_call 14; have X_ := set_yes S.out HI.out j HDL.out HSG.out A0 c0 l (RowIn.of_C HR.out) HCI.out HLI.out; rw [HST.out] at X_; (with_reducible refine X_.mono ?_); clear X_; rintro e_ w14 ⟨rfl, wv1, dv1, bv1, dvs1, bvs1, m1, hI, hS⟩; have HI1 := Aside0.mk hI; have S1 := Aside0.mk hS; clear hI hS) | fail)
                go_roundg (j + 1)
                case measure => have := KQ.out; omega
                case rel => exact ⟨j, _, wv1, dv1, bv1, dvs1, bvs1, m1, rfl, ⟨rfl⟩, ⟨rfl⟩, ⟨by omega⟩, HI1, S1⟩
    · rw [Bool.eq_false_iff.2 hfo] at hkO
      have HKO := Aside0.mk hkO
      clear hkO hfo
      go_enter Try.func6, Try.ntmps6
      go_wp2_with (first | (go_at_call 8; have X_ := mapmakerlaw52_Few.calls kF A c bs true w HC.out HCC.out HKF.out; (with_reducible refine X_.mono ?_); clear X_; rintro e_ w8 ⟨rfl, hdn⟩; obtain ⟨n8, rfl⟩ := hdn.out; replace S := Aside0.mk (S.out.drewN n8); clear hdn) | (go_at_call 21; have X_ := mapmakerlaw52_words.calls kO A1 c1 os false _ (Kd.C_below HO.out S.out.below) HOC.out HKO.out; (with_reducible refine X_.mono ?_); clear X_; rintro e_ w21 ⟨rfl, hdn⟩; obtain ⟨n21, rfl⟩ := hdn.out; replace S := Aside0.mk (show Sep w (w.drewN (n8 + n21)) [] from drewN_drewN w n8 n21 ▸ S.out.drewN n21); clear hdn) | (go_at_call 9; (with_reducible refine (lives_ix _).mono ?_); rintro e_ w9 ⟨rfl, hb⟩; replace S := Aside0.mk (S.out.step hb); clear hb) | fail)
      go_ret
      exact ⟨rfl, S.out.below⟩
  · rw [Bool.eq_false_iff.2 hf] at hkF
    have HKF := Aside0.mk hkF
    clear hkF hf
    go_enter Try.func6, Try.ntmps6
    go_wp2_with (first | (go_at_call 8; have X_ := mapmakerlaw52_Few.calls kF A c bs false w HC.out HCC.out HKF.out; (with_reducible refine X_.mono ?_); clear X_; rintro e_ w8 ⟨rfl, hdn⟩; obtain ⟨n8, rfl⟩ := hdn.out; replace S := Aside0.mk (S.out.drewN n8); clear hdn) | (go_at_call 9; (with_reducible refine (lives_ix _).mono ?_); rintro e_ w9 ⟨rfl, hb⟩; replace S := Aside0.mk (S.out.step hb); clear hb) | fail)
    go_ret
    exact ⟨rfl, S.out.below⟩
end Go.Proofs.Ytpfmebpalejadaa.Hand
