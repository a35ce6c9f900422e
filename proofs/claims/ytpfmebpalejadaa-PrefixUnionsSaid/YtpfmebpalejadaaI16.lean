import Derived.Test.YtpfmebpalejadaaP9
import Derived.Deep.Cut
namespace Go.Proofs.Ytpfmebpalejadaa.Hand
open Go.Proofs.YtpfmebpalejadaaW Go.RowKit Go.Proofs.YtpfmebpalejadaaW.PrintWords Go.Proofs.YtpfmebpalejadaaW.PrintLast Go.Proofs.YtpfmebpalejadaaW.PrintMore Go.Proofs.YtpfmebpalejadaaW.SepW Go.Proofs.Ytpfmebpalejadaa.PALL Go.Proofs.Ytpfmebpalejadaa.Plain
set_option linter.unusedVariables false
set_option linter.unusedSimpArgs false
theorem _root_.Go.Proofs.Ytpfmebpalejadaa.Plain.FL.putr {bs : List (List ByteArray)} {a b i k : Nat} {fl : List Bool} (h : FL bs a b i k fl) (hk : k < (dOf bs i).length) (X : Nat) (hX : (dOf bs i)[k] = (X : Int)) (r : Bool) (hr : r = (fl.getD X false || decide (a ≤ i ∧ i < b))) : FL bs a b i (k + 1) (fl.set X r) := by
  rw [hr]
  exact h.put hk X hX
theorem flags_S {w0 w : World} {L : List (Thing w0.heap.size)} {gi : Nat} {fl : List Bool} (S : Sep w0 w L) (n : Nat) (h : L[n]? = some (Box _ gi 4 (fl.map Value.bool).toArray)) (X : Nat) (r : Bool) : Sep w0 (w.setCell ⟨gi, X, none⟩ (.bool r)) (L.set n (Box _ gi 4 ((fl.set X r).map Value.bool).toArray)) := by
  have := S.set n h X (.bool r)
  rwa [show (fl.map Value.bool).toArray.setIfInBounds X (.bool r) = ((fl.set X r).map Value.bool).toArray by rw [List.map_set]; simp] at this
theorem k_gen {K : Act → World → Prop} {a : Act} {w0 w : World} {L : List (Thing w0.heap.size)} (S : Aside0 (Sep w0 w L)) (h : ∀ W, Aside0 (Sep w0 W L) → K a W) : K a w := h w S
theorem made_rep (n : Nat) : Array.replicate n (Value.bool false) = ((List.replicate n false).map Value.bool).toArray := by simp
theorem info4 : (Try.prog.info? 4).map (fun i => (i.zero, i.size, i.bytes)) = some (some (.bool false), 1, 1) := by kernel_rfl
def un22_T : Bool × List (List Nat × List Nat) := (true, [([], []), ([], []), ([], []), ([1, 2], [1, 2]), ([3], [3]), ([], []), ([], []), ([], []), ([6, 7], [6, 7]), ([8], [8]), ([5, 9], [5, 9]), ([10], [10]), ([11], [11]), ([12], [12]), ([12], [12]), ([13, 14, 12], [12, 13, 14]), ([15, 12, 12], [12, 15]), ([16], [16]), ([16], [16]), ([17, 18, 16], [16, 17, 18]), ([16, 19, 12], [12, 16, 19]), ([12, 20], [12, 20]), ([0, 4, 0, 1, 2, 3, 4, 5, 6, 7, 8, 9, 10, 11, 12, 13, 14, 15, 16, 17, 18, 19, 20, 21], [0, 4]), ([22, 21, 16, 0, 1, 2, 3, 4, 5, 6, 7, 8, 9, 10, 11, 12, 13, 14, 15, 16, 17, 18, 19, 20, 21], [21, 22])])
def un22_B : List Nat := [0, 0, 0, 6, 14, 0, 0, 0, 192, 448, 992, 2016, 4064, 8160, 8160, 32736, 65504, 131040, 131040, 524256, 1048544, 2097120, 4194303, 8388607]
theorem un22_tab : rtab .any (opsOf Try.f5 22) = un22_T := by kernel_rfl
theorem un22_bits : waitsOk un22_T.2 un22_B = true := by kernel_rfl
set_option maxHeartbeats 8000000 in
set_option maxRecDepth 100000 in
theorem unions_law (bs : List (List ByteArray)) (p : ByteArray) (A : Option Addr) (c : Nat) (w : World) (hC : Kd.C (Kd.slice 9 Kd.string) w A bs.length bs) (hc : bs.length ≤ c) (hp : p.size ≤ 140737488351232) :
    Calls Try.prog 5 #[.slice A bs.length c, .string p] w fun e w' => e = .returned (.bool true) ∧ Below w.heap.size w w' := by
  obtain ⟨kF, hkF⟩ := few_ev bs
  have HC := Aside0.mk hC
  have HCC := Aside0.mk hc
  have S := Aside0.mk (Sep.start w)
  obtain ⟨vs, hv⟩ := docs_of_C (w0 := w) [] hC
  have HV := Aside0.mk hv
  clear hC hv hc
  by_cases hf : fewB bs = true
  · have HS := Aside0.mk (few_small hf)
    have HB0 := Aside0.mk (fewB_small hf)
    rw [hf] at hkF
    have HKF := Aside0.mk hkF
    clear hkF hf
    by_cases hq : (p.size : Int) > 40
    · have d0 : decide (40 < (p.size : Int)) = true := decide_eq_true hq
      have d1 : decide (40 < p.size) = true := decide_eq_true (by omega)
      clear hq
      go_enter Try.func5, Try.ntmps5
      go_wp2_with (first | (go_at_call 8; have X_ := mapmakerlaw52_Few.calls kF A c bs true w HC.out HCC.out HKF.out; (with_reducible refine X_.mono ?_); clear X_; rintro e_ w8 ⟨rfl, hdn⟩; obtain ⟨n8, rfl⟩ := hdn.out; replace S := Aside0.mk (S.out.drewN n8); clear hdn) | (go_at_call 9; (with_reducible refine (lives_ix _).mono ?_); rintro e_ w9 ⟨rfl, hb⟩; replace S := Aside0.mk (S.out.step hb); clear hb) | fail)
      go_ret
      exact ⟨rfl, S.out.below⟩
    · have d0 : decide (40 < (p.size : Int)) = false := decide_eq_false hq
      have d1 : decide (40 < p.size) = false := decide_eq_false (by omega)
      clear hq
      have hbl : bs.length ≤ 20 := HB0.out.1
      have hmk := print_make_of (P := Try.prog) 41 4 (.bool false) 1 Try.underlying41 info4 rfl (by decide) bs.length (by omega)
      rw [made_bools, ← made_rep] at hmk
      go_enter Try.func5, Try.ntmps5
      go_upto_region 7 with (first | (go_at_call 8; have X_ := mapmakerlaw52_Few.calls kF A c bs true w HC.out HCC.out HKF.out; (with_reducible refine X_.mono ?_); clear X_; rintro e_ w8 ⟨rfl, hdn⟩; obtain ⟨n8, rfl⟩ := hdn.out; replace S := Aside0.mk (S.out.drewN n8); clear hdn) | (go_at_call 11; have X_ := new_ix S.out A c bs vs HV.out HS.out; (with_reducible refine X_.mono ?_); clear X_; rintro e_ w11 ⟨g, wv, dv, bv, dvs, bvs, m, rfl, hI, hS⟩; have HI := Aside0.mk hI; replace S := Aside0.mk hS; clear hI hS) | (go_at_call 15; have X_ := words_m S.out HI.out HS.out; (with_reducible refine X_.mono ?_); clear X_; rintro e_ w29 ⟨v29, rfl, ho, hb⟩; obtain ⟨A6, c6, e6⟩ := Kd.R_slice ho; subst e6; replace S := Aside0.mk (perm (S.out.own ho hb) (List.perm_middle (l₁ := [_, _, _, _, _, _])).symm); clear ho hb) | fail)
      go_upto_region 8 with (first | (go_at_call 16; have X_ := rng_m S.out HI.out HS.out p; (with_reducible refine X_.mono ?_); clear X_; rintro e_ w33 ⟨a, b, rfl, hrg, hb⟩; have HRG := Aside0.mk hrg; replace S := Aside0.mk (S.out.step hb); clear hrg hb) | fail)
      obtain ⟨ws, hws⟩ : ∃ ws, ws = wordsOf bs.flatten := ⟨_, rfl⟩
      rw [← hws] at S HRG ⊢
      have HWS := Aside0.mk hws
      have HWL : Aside0 (ws.length ≤ 1000000) := ⟨by have h1 := wordsOf_len bs.flatten; have h2 := HS.out.flat.2.2; rw [hws]; omega⟩
      have r0 : decide ((a : Int) < 0) = false := decide_eq_false (by omega)
      have r1 : decide ((b : Int) < (a : Int)) = false := decide_eq_false (by have := HRG.out.ab; omega)
      have r1' : decide (b < a) = false := decide_eq_false (by have := HRG.out.ab; omega)
      have r2 : decide ((ws.length : Int) < (b : Int)) = false := decide_eq_false (by have := HRG.out.bl; omega)
      have r2' : decide (ws.length < b) = false := decide_eq_false (by have := HRG.out.bl; omega)
      clear hws
      refine wp_gen S (fun W33 S => ?_)
      go_upto_region 12 with fail
      replace S := Aside0.mk (perm (S.out.alloc (Array.replicate bs.length (Value.bool false)) 4) (List.perm_middle (l₁ := [_, _, _, _, _, _])).symm)
      have HF0 := Aside0.mk (FL.start bs a b)
      clear hmk r0 r1 r1' r2 r2'
      go_loopg [10] (ws.length + 1) (fun kq v10 w' => ∃ (i : Nat) (fl : List Bool), v10 = .int .i64 i ∧ Aside0 (kq + i = ws.length + 1) ∧ Aside0 (i ≤ ws.length) ∧ Aside0 (FL bs a b i 0 fl) ∧ Aside0 (Sep w w' (IxL _ g wv dv bv dvs m (Hdr _ 33 bv bvs :: FzN _ bvs (bs.map pw_strs) :: [Box _ W33.heap.size 4 (fl.map Value.bool).toArray, Own _ Kd.string 9 (.slice A6 ws.length c6) ws]))))
      case atStart => exact ⟨0, List.replicate bs.length false, rfl, ⟨rfl⟩, ⟨Nat.zero_le _⟩, HF0, ⟨by rw [← made_rep]; exact S.out⟩⟩
      case round =>
        clear S HF0
        obtain ⟨i, fl, rfl, KQ, IL, FF, S⟩ := hrel
        cases gk with
        | zero => exact absurd KQ.out (by have := IL.out; omega)
        | succ qq =>
        by_cases hi : i < ws.length
        · have p0 : (0 : Int) ≤ (i : Int) := by omega
          have p1 : (i : Int) < (ws.length : Int) := by omega
          have p2 : decide (i < ws.length) = true := decide_eq_true hi
          obtain ⟨ad6, ead6, hcell⟩ := str_at (S.out.own_C 7 rfl) i hi
          have HBGI := Aside0.mk (HRG.out.begins_at i hi)
          go_upto_region 14 with fail
          go_cut [88] from 58 to 88 (fun v88 wx => v88 = .bool false ∧ ∃ n, wx = wr.drewN n)
          case first =>
            have HCj := Aside0.mk (S.out.own_C 7 rfl)
            have hbg := HBGI.out
            rw [wat_at hi] at hbg
            have hsw := wordsOf_SW bs.flatten
            rw [← HWS.out] at hsw
            by_cases hz : 0 < i
            · obtain ⟨j, hj⟩ : ∃ j, i = j + 1 := ⟨i - 1, by omega⟩
              have hjl : j < ws.length := by omega
              obtain ⟨ad6', ead6', hcellj⟩ := str_at HCj.out j hjl
              rw [ead6] at ead6'
              injection ead6' with ead6'
              subst ead6'
              subst ead6
              have hlt := SW_lt hsw (show j < i by omega) hi
              rw [wat_at hjl, wat_at hi] at hlt
              have hg : ∀ W : World, (Go.binOp .geq 9 (.string ws[j]) (.string ws[i])).run Try.prog W = .ok (.bool false) W := fun W => by
                have e : (Go.binOp .geq 9 (.string ws[j]) (.string ws[i])).run Try.prog W = .ok (.bool (!wl ws[j] ws[i])) W := rfl
                rw [e, hlt]
                rfl
              have z0 : decide ((0 : Int) < (i : Int)) = true := decide_eq_true (by omega)
              have z0' : decide (0 < i) = true := decide_eq_true hz
              have z1 : IntKind.i64.wrap ((i : Int) - 1) = (j : Int) := by rw [show (i : Int) - 1 = (j : Int) by omega]; exact IntWalk.i64_in _ (by have := HWL.out; omega)
              have z2 : (0 : Int) ≤ (j : Int) := by omega
              have z3 : (j : Int) < (ws.length : Int) := by omega
              clear hlt hj hz hsw
              by_cases ha : a ≤ i
              · have s0 : decide ((a : Int) ≤ (i : Int)) = true := decide_eq_true (by omega)
                have s0' : decide (a ≤ i) = true := decide_eq_true ha
                by_cases hb : i < b
                · have s1 : decide ((i : Int) < (b : Int)) = true := decide_eq_true (by omega)
                  have s1' : decide (i < b) = true := decide_eq_true hb
                  rw [decide_eq_true ⟨ha, hb⟩] at hbg
                  have HBG := Aside0.mk hbg
                  clear hbg
                  go_quiet ((go_at_call 17; exact Calls.quiet_of ((mapmakerref52_Begins.calls ws[i] p true _ (by rw [begins_f, HBG.out])).mono (fun _ _ h => ⟨h.1, h.2.out⟩))))
                  go_wp2
                  go_meet
                  case rel => exact ⟨rfl, _, rfl⟩
                · have s1 : decide ((i : Int) < (b : Int)) = false := decide_eq_false (by omega)
                  have s1' : decide (i < b) = false := decide_eq_false hb
                  rw [decide_eq_false (fun h => hb h.2)] at hbg
                  have HBG := Aside0.mk hbg
                  clear hbg
                  go_quiet ((go_at_call 17; exact Calls.quiet_of ((mapmakerref52_Begins.calls ws[i] p false _ (by rw [begins_f, HBG.out])).mono (fun _ _ h => ⟨h.1, h.2.out⟩))))
                  go_wp2
                  go_meet
                  case rel => exact ⟨rfl, _, rfl⟩
              · have s0 : decide ((a : Int) ≤ (i : Int)) = false := decide_eq_false (by omega)
                have s0' : decide (a ≤ i) = false := decide_eq_false ha
                rw [decide_eq_false (fun h => ha h.1)] at hbg
                have HBG := Aside0.mk hbg
                clear hbg
                go_quiet ((go_at_call 17; exact Calls.quiet_of ((mapmakerref52_Begins.calls ws[i] p false _ (by rw [begins_f, HBG.out])).mono (fun _ _ h => ⟨h.1, h.2.out⟩))))
                go_wp2
                go_meet
                case rel => exact ⟨rfl, _, rfl⟩
            · subst ead6
              have z0 : decide ((0 : Int) < (i : Int)) = false := decide_eq_false (by omega)
              have z0' : decide (0 < i) = false := decide_eq_false hz
              clear hz hsw
              by_cases ha : a ≤ i
              · have s0 : decide ((a : Int) ≤ (i : Int)) = true := decide_eq_true (by omega)
                have s0' : decide (a ≤ i) = true := decide_eq_true ha
                by_cases hb : i < b
                · have s1 : decide ((i : Int) < (b : Int)) = true := decide_eq_true (by omega)
                  have s1' : decide (i < b) = true := decide_eq_true hb
                  rw [decide_eq_true ⟨ha, hb⟩] at hbg
                  have HBG := Aside0.mk hbg
                  clear hbg
                  go_quiet ((go_at_call 17; exact Calls.quiet_of ((mapmakerref52_Begins.calls ws[i] p true _ (by rw [begins_f, HBG.out])).mono (fun _ _ h => ⟨h.1, h.2.out⟩))))
                  go_wp2
                  go_meet
                  case rel => exact ⟨rfl, _, rfl⟩
                · have s1 : decide ((i : Int) < (b : Int)) = false := decide_eq_false (by omega)
                  have s1' : decide (i < b) = false := decide_eq_false hb
                  rw [decide_eq_false (fun h => hb h.2)] at hbg
                  have HBG := Aside0.mk hbg
                  clear hbg
                  go_quiet ((go_at_call 17; exact Calls.quiet_of ((mapmakerref52_Begins.calls ws[i] p false _ (by rw [begins_f, HBG.out])).mono (fun _ _ h => ⟨h.1, h.2.out⟩))))
                  go_wp2
                  go_meet
                  case rel => exact ⟨rfl, _, rfl⟩
              · have s0 : decide ((a : Int) ≤ (i : Int)) = false := decide_eq_false (by omega)
                have s0' : decide (a ≤ i) = false := decide_eq_false ha
                rw [decide_eq_false (fun h => ha h.1)] at hbg
                have HBG := Aside0.mk hbg
                clear hbg
                go_quiet ((go_at_call 17; exact Calls.quiet_of ((mapmakerref52_Begins.calls ws[i] p false _ (by rw [begins_f, HBG.out])).mono (fun _ _ h => ⟨h.1, h.2.out⟩))))
                go_wp2
                go_meet
                case rel => exact ⟨rfl, _, rfl⟩
          case rest =>
          obtain ⟨rfl, n1, rfl⟩ := hcut
          replace S := Aside0.mk (S.out.drewN n1)
          refine k_gen S (fun W8 S => ?_)
          clear hcell
          obtain ⟨ad6', ead6', hcell⟩ := str_at (S.out.own_C 7 rfl) i hi
          have ead := ead6.symm.trans ead6'
          injection ead with ead
          subst ead
          clear ead6'
          subst ead6
          have HDO : Aside0 (sel (fun y => decide (y = ws[i])) bs bs.length = dOf bs i) := ⟨by unfold dOf; rw [← HWS.out, wat_at hi]⟩
          go_upto_region 18 with (first | (go_at_call 18; have X_ := word_m S.out HI.out HS.out ws[i]; rw [HDO.out] at X_; (with_reducible refine X_.mono ?_); clear X_; rintro e_ w94 ⟨v94, rfl, ho, hb⟩; obtain ⟨A11, c11, e11⟩ := Kd.R_slice ho; subst e11; replace S := Aside0.mk (perm (S.out.own ho hb) (List.perm_middle (l₁ := [_, _, _, _, _, _])).symm); clear ho hb) | fail)
          have hdl : (dOf bs i).length ≤ 1000 := by have := sel_len (fun y => decide (y = wat (wordsOf bs.flatten) i)) bs bs.length; unfold dOf; omega
          clear hcell
          go_loopg [12] ((dOf bs i).length + 1) (fun kq v12 w' => ∃ (k : Nat) (fl : List Bool), v12 = .int .i64 k ∧ Aside0 (kq + k = (dOf bs i).length + 1) ∧ Aside0 (k ≤ (dOf bs i).length) ∧ Aside0 (FL bs a b i k fl) ∧ Aside0 (Sep w w' (IxL _ g wv dv bv dvs m (Hdr _ 33 bv bvs :: FzN _ bvs (bs.map pw_strs) :: [Own _ (Kd.int .i64) 3 (.slice A11 (dOf bs i).length c11) (dOf bs i), Box _ W33.heap.size 4 (fl.map Value.bool).toArray, Own _ Kd.string 9 (.slice (some ad6) ws.length c6) ws]))))
          case atStart => exact ⟨0, fl, rfl, ⟨rfl⟩, ⟨Nat.zero_le _⟩, FF, S⟩
          case round =>
            clear S FF
            obtain ⟨k, fl, rfl, KR, KL, FF, S⟩ := hrel
            cases gk with
            | zero => exact absurd KR.out (by have := KL.out; omega)
            | succ qr =>
            by_cases hk : k < (dOf bs i).length
            · have t0 : (0 : Int) ≤ (k : Int) := by omega
              have t1 : (k : Int) < ((dOf bs i).length : Int) := by omega
              have t2 : decide (k < (dOf bs i).length) = true := decide_eq_true hk
              obtain ⟨ad11, ead11, hcell⟩ := int_at (S.out.own_C 6 rfl) k hk
              obtain ⟨hx0, hx1⟩ := dOf_lt (List.getElem_mem hk)
              obtain ⟨X, hX⟩ : ∃ X : Nat, (dOf bs i)[k] = (X : Int) := ⟨(dOf bs i)[k].toNat, by omega⟩
              rw [hX] at hcell hx0 hx1
              have hXl : X < bs.length := by omega
              subst ead11
              have HX := Aside0.mk hX
              have u0 : decide ((X : Int) < 0) = false := decide_eq_false (by omega)
              have u1 : decide ((bs.length : Int) ≤ (X : Int)) = false := decide_eq_false (by omega)
              have u1' : decide (bs.length ≤ X) = false := decide_eq_false (by omega)
              have hxl2 : (X : Int) < (bs.length : Int) := by omega
              have HFN := Aside0.mk FF.out.len
              have hbx0 := blk_cell (S.out.at_box 7 rfl) X
              have hfx := blk_frozen (S.out.at_box 7 rfl) X
              obtain ⟨v, hv⟩ : ∃ v, v = fl.getD X false := ⟨_, rfl⟩
              have hbx : wr.cell? ⟨W33.heap.size, X, none⟩ = some (.bool v) := by
                rw [hbx0, hv, List.getElem?_toArray, List.getElem?_map, List.getD_eq_getElem?_getD, List.getElem?_eq_getElem (by rw [FF.out.len]; exact hXl)]
                rfl
              have HVV := Aside0.mk hv
              clear hX hv hbx0
              go_upto_region 22 with fail
              cases v with
              | true =>
                refine start_ (n := 24) (S := fun w' => w'.cell? (ad11.add k) = some (.int .i64 (X : Int)) ∧ w'.cell? ⟨W33.heap.size, X, none⟩ = some (.bool true)) (ds := [23]) #[false, false, false, false, false, false, false, false, false, false, false, false, false, false, false, false, false, false, false, false, false, false, false, false] (by kernel_rfl) rfl rfl ⟨hcell, hbx⟩ (fun hHeld => ?_); refine with_tabW un22_tab un22_bits (fun HT_ HW_ => ?_)
                have HBW := Aside0.mk (below_drew (Below.refl wr.heap.size wr))
                generalize wr.drew = W9 at HBW hHeld ⊢
                replace S := Aside0.mk (S.out.step HBW.out)
                have hb9 := pw_cell_below HBW.out hbx
                have hf9 := frozen_below HBW.out hbx hfx
                refine pure_ (i := 0) (N := some 115) (v := ?_) (a' := ?_) #[true, false, false, false, false, false, false, false, false, false, false, false, false, false, false, false, false, false, false, false, false, false, false, false] rfl rfl (any_of HT_.out (by kernel_rfl)) (fun _ _ _ h => h) (Or.inl ⟨by rfl, ?_⟩) ?_ ?_
                rotate_left
                · intro w'
                  go_simp
                  with_reducible rfl
                rotate_left
                · simp only [Act.put, List.setIfInBounds_toArray, List.set_cons_zero, List.set_cons_succ, i64_w, i32_w]
                  rfl
                refine pure_ (i := 1) (N := some 116) (v := ?_) (a' := ?_) #[true, true, false, false, false, false, false, false, false, false, false, false, false, false, false, false, false, false, false, false, false, false, false, false] rfl rfl (any_of HT_.out (by kernel_rfl)) (fun _ _ _ h => h) (Or.inl ⟨by rfl, ?_⟩) ?_ ?_
                rotate_left
                · intro w'
                  go_simp
                  with_reducible rfl
                rotate_left
                · simp only [Act.put, List.setIfInBounds_toArray, List.set_cons_zero, List.set_cons_succ, i64_w, i32_w]
                  rfl
                refine pure_ (i := 2) (N := some 117) (v := ?_) (a' := ?_) #[true, true, true, false, false, false, false, false, false, false, false, false, false, false, false, false, false, false, false, false, false, false, false, false] rfl rfl (any_of HT_.out (by kernel_rfl)) (fun _ _ _ h => h) (Or.inl ⟨by rfl, ?_⟩) ?_ ?_
                rotate_left
                · intro w'
                  go_simp
                  with_reducible rfl
                rotate_left
                · simp only [Act.put, List.setIfInBounds_toArray, List.set_cons_zero, List.set_cons_succ, i64_w, i32_w]
                  rfl
                refine pure_ (i := 3) (N := some 118) (v := ?_) (a' := ?_) #[true, true, true, true, false, false, false, false, false, false, false, false, false, false, false, false, false, false, false, false, false, false, false, false] rfl rfl (any_of HT_.out (by kernel_rfl)) (fun _ _ _ h => h) (Or.inl ⟨by rfl, ?_⟩) ?_ ?_
                rotate_left
                · intro w'
                  go_simp
                  with_reducible rfl
                rotate_left
                · simp only [Act.put, List.setIfInBounds_toArray, List.set_cons_zero, List.set_cons_succ, i64_w, i32_w]
                  rfl
                refine pure_ (i := 5) (N := some 120) (v := ?_) (a' := ?_) #[true, true, true, true, false, true, false, false, false, false, false, false, false, false, false, false, false, false, false, false, false, false, false, false] rfl rfl (any_of HT_.out (by kernel_rfl)) (fun _ _ _ h => h) (Or.inl ⟨by rfl, ?_⟩) ?_ ?_
                rotate_left
                · intro w'
                  go_simp
                  with_reducible rfl
                rotate_left
                · simp only [Act.put, List.setIfInBounds_toArray, List.set_cons_zero, List.set_cons_succ, i64_w, i32_w]
                  rfl
                refine pure_ (i := 6) (N := some 121) (v := ?_) (a' := ?_) #[true, true, true, true, false, true, true, false, false, false, false, false, false, false, false, false, false, false, false, false, false, false, false, false] rfl rfl (any_of HT_.out (by kernel_rfl)) (fun _ _ _ h => h) (Or.inl ⟨by rfl, ?_⟩) ?_ ?_
                rotate_left
                · intro w'
                  go_simp
                  with_reducible rfl
                rotate_left
                · simp only [Act.put, List.setIfInBounds_toArray, List.set_cons_zero, List.set_cons_succ, i64_w, i32_w]
                  rfl
                refine pure_ (i := 7) (N := some 122) (v := ?_) (a' := ?_) #[true, true, true, true, false, true, true, true, false, false, false, false, false, false, false, false, false, false, false, false, false, false, false, false] rfl rfl (any_of HT_.out (by kernel_rfl)) (fun _ _ _ h => h) (Or.inl ⟨by rfl, ?_⟩) ?_ ?_
                rotate_left
                · intro w'
                  go_simp
                  with_reducible rfl
                rotate_left
                · simp only [Act.put, List.setIfInBounds_toArray, List.set_cons_zero, List.set_cons_succ, i64_w, i32_w]
                  rfl
                refine pure_ (i := 8) (N := some 123) (v := ?_) (a' := ?_) #[true, true, true, true, false, true, true, true, true, false, false, false, false, false, false, false, false, false, false, false, false, false, false, false] rfl rfl (any_of HT_.out (by kernel_rfl)) (fun _ _ _ h => h) (Or.inl ⟨by rfl, ?_⟩) ?_ ?_
                rotate_left
                · intro w'
                  go_simp
                  with_reducible rfl
                rotate_left
                · simp only [Act.put, List.setIfInBounds_toArray, List.set_cons_zero, List.set_cons_succ, i64_w, i32_w]
                  rfl
                refine take_ (i := 4) (N := some 119) (v := ?_) (a' := ?_) #[true, true, true, true, true, true, true, true, true, false, false, false, false, false, false, false, false, false, false, false, false, false, false, false] rfl rfl (take_ofW HT_.out HW_.out (by kernel_rfl)) (fun _ _ _ h => h) (Or.inl ⟨by rfl, ?_⟩) hHeld ?_ ?_
                rotate_left
                · rintro w' ⟨s0, s1⟩
                  go_simp
                  with_reducible rfl
                rotate_left
                · simp only [Act.put, List.setIfInBounds_toArray, List.set_cons_zero, List.set_cons_succ, i64_w, i32_w]
                  rfl
                refine take_ (i := 9) (N := some 124) (v := ?_) (a' := ?_) #[true, true, true, true, true, true, true, true, true, true, false, false, false, false, false, false, false, false, false, false, false, false, false, false] rfl rfl (take_ofW HT_.out HW_.out (by kernel_rfl)) (fun _ _ _ h => h) (Or.inl ⟨by rfl, ?_⟩) hHeld ?_ ?_
                rotate_left
                · rintro w' ⟨s0, s1⟩
                  go_simp
                  with_reducible rfl
                rotate_left
                · simp only [Act.put, List.setIfInBounds_toArray, List.set_cons_zero, List.set_cons_succ, i64_w, i32_w]
                  rfl
                refine pure_ (i := 10) (N := some 125) (v := ?_) (a' := ?_) #[true, true, true, true, true, true, true, true, true, true, true, false, false, false, false, false, false, false, false, false, false, false, false, false] rfl rfl (any_of HT_.out (by kernel_rfl)) (fun _ _ _ h => h) (Or.inl ⟨by rfl, ?_⟩) ?_ ?_
                rotate_left
                · intro w'
                  go_simp
                  with_reducible rfl
                rotate_left
                · simp only [Act.put, List.setIfInBounds_toArray, List.set_cons_zero, List.set_cons_succ, i64_w, i32_w]
                  rfl
                refine take_ (i := 11) (N := some 126) (v := ?_) (a' := ?_) #[true, true, true, true, true, true, true, true, true, true, true, true, false, false, false, false, false, false, false, false, false, false, false, false] rfl rfl (take_ofW HT_.out HW_.out (by kernel_rfl)) (fun _ _ _ h => h) (Or.inl ⟨by rfl, ?_⟩) hHeld ?_ ?_
                rotate_left
                · rintro w' ⟨s0, s1⟩
                  go_simp
                  with_reducible rfl
                rotate_left
                · simp only [Act.put, List.setIfInBounds_toArray, List.set_cons_zero, List.set_cons_succ, i64_w, i32_w]
                  rfl
                refine pure_ (i := 12) (N := some 127) (v := ?_) (a' := ?_) #[true, true, true, true, true, true, true, true, true, true, true, true, true, false, false, false, false, false, false, false, false, false, false, false] rfl rfl (any_of HT_.out (by kernel_rfl)) (fun _ _ _ h => h) (Or.inl ⟨by rfl, ?_⟩) ?_ ?_
                rotate_left
                · intro w'
                  go_simp
                  with_reducible rfl
                rotate_left
                · simp only [Act.put, List.setIfInBounds_toArray, List.set_cons_zero, List.set_cons_succ, i64_w, i32_w]
                  rfl
                refine pure_ (i := 13) (N := some 128) (v := undef) (a' := ?_) #[true, true, true, true, true, true, true, true, true, true, true, true, true, true, false, false, false, false, false, false, false, false, false, false] rfl rfl (any_of HT_.out (by kernel_rfl)) (fun _ _ _ h => h) (Or.inr ⟨by rfl, rfl⟩) ?_ ?_
                rotate_left
                · simp only [Act.put, List.setIfInBounds_toArray, List.set_cons_zero, List.set_cons_succ, i64_w, i32_w]
                  rfl
                refine pure_ (i := 14) (N := some 129) (v := undef) (a' := ?_) #[true, true, true, true, true, true, true, true, true, true, true, true, true, true, true, false, false, false, false, false, false, false, false, false] rfl rfl (any_of HT_.out (by kernel_rfl)) (fun _ _ _ h => h) (Or.inr ⟨by rfl, rfl⟩) ?_ ?_
                rotate_left
                · simp only [Act.put, List.setIfInBounds_toArray, List.set_cons_zero, List.set_cons_succ, i64_w, i32_w]
                  rfl
                refine pure_ (i := 15) (N := some 130) (v := undef) (a' := ?_) #[true, true, true, true, true, true, true, true, true, true, true, true, true, true, true, true, false, false, false, false, false, false, false, false] rfl rfl (any_of HT_.out (by kernel_rfl)) (fun _ _ _ h => h) (Or.inr ⟨by rfl, rfl⟩) ?_ ?_
                rotate_left
                · simp only [Act.put, List.setIfInBounds_toArray, List.set_cons_zero, List.set_cons_succ, i64_w, i32_w]
                  rfl
                refine pure_ (i := 16) (N := some 131) (v := undef) (a' := ?_) #[true, true, true, true, true, true, true, true, true, true, true, true, true, true, true, true, true, false, false, false, false, false, false, false] rfl rfl (any_of HT_.out (by kernel_rfl)) (fun _ _ _ h => h) (Or.inr ⟨by rfl, rfl⟩) ?_ ?_
                rotate_left
                · simp only [Act.put, List.setIfInBounds_toArray, List.set_cons_zero, List.set_cons_succ, i64_w, i32_w]
                  rfl
                refine pure_ (i := 17) (N := some 132) (v := undef) (a' := ?_) #[true, true, true, true, true, true, true, true, true, true, true, true, true, true, true, true, true, true, false, false, false, false, false, false] rfl rfl (any_of HT_.out (by kernel_rfl)) (fun _ _ _ h => h) (Or.inr ⟨by rfl, rfl⟩) ?_ ?_
                rotate_left
                · simp only [Act.put, List.setIfInBounds_toArray, List.set_cons_zero, List.set_cons_succ, i64_w, i32_w]
                  rfl
                refine pure_ (i := 18) (N := some 133) (v := undef) (a' := ?_) #[true, true, true, true, true, true, true, true, true, true, true, true, true, true, true, true, true, true, true, false, false, false, false, false] rfl rfl (any_of HT_.out (by kernel_rfl)) (fun _ _ _ h => h) (Or.inr ⟨by rfl, rfl⟩) ?_ ?_
                rotate_left
                · simp only [Act.put, List.setIfInBounds_toArray, List.set_cons_zero, List.set_cons_succ, i64_w, i32_w]
                  rfl
                refine pure_ (i := 19) (N := some 134) (v := undef) (a' := ?_) #[true, true, true, true, true, true, true, true, true, true, true, true, true, true, true, true, true, true, true, true, false, false, false, false] rfl rfl (any_of HT_.out (by kernel_rfl)) (fun _ _ _ h => h) (Or.inr ⟨by rfl, rfl⟩) ?_ ?_
                rotate_left
                · simp only [Act.put, List.setIfInBounds_toArray, List.set_cons_zero, List.set_cons_succ, i64_w, i32_w]
                  rfl
                refine pure_ (i := 20) (N := some 135) (v := undef) (a' := ?_) #[true, true, true, true, true, true, true, true, true, true, true, true, true, true, true, true, true, true, true, true, true, false, false, false] rfl rfl (any_of HT_.out (by kernel_rfl)) (fun _ _ _ h => h) (Or.inr ⟨by rfl, rfl⟩) ?_ ?_
                rotate_left
                · simp only [Act.put, List.setIfInBounds_toArray, List.set_cons_zero, List.set_cons_succ, i64_w, i32_w]
                  rfl
                refine pure_ (i := 21) (N := some 136) (v := ?_) (a' := ?_) #[true, true, true, true, true, true, true, true, true, true, true, true, true, true, true, true, true, true, true, true, true, true, false, false] rfl rfl (any_of HT_.out (by kernel_rfl)) (fun _ _ _ h => h) (Or.inl ⟨by rfl, ?_⟩) ?_ ?_
                rotate_left
                · intro w'
                  go_simp
                  with_reducible rfl
                rotate_left
                · simp only [Act.put, List.setIfInBounds_toArray, List.set_cons_zero, List.set_cons_succ, i64_w, i32_w]
                  rfl
                refine pure_ (i := 22) (N := some 137) (v := ?_) (a' := ?_) #[true, true, true, true, true, true, true, true, true, true, true, true, true, true, true, true, true, true, true, true, true, true, true, false] rfl rfl (any_of HT_.out (by kernel_rfl)) (fun _ _ _ h => h) (Or.inl ⟨by rfl, ?_⟩) ?_ ?_
                rotate_left
                · intro w'
                  go_simp
                  with_reducible rfl
                rotate_left
                · simp only [Act.put, List.setIfInBounds_toArray, List.set_cons_zero, List.set_cons_succ, i64_w, i32_w]
                  rfl
                refine last_ (i := 23) (N := none) #[true, true, true, true, true, true, true, true, true, true, true, true, true, true, true, true, true, true, true, true, true, true, true, true] rfl rfl (one_of HT_.out (by kernel_rfl)) (by decide) (fun K hK => ?_)
                go_simp
                refine hK.out _ _ ?_
                clear hK K
                refine done_ (done_of HT_.out (by kernel_rfl)) ?_
                go_wp2
                go_roundg qr
                case measure => omega
                case rel => exact ⟨k + 1, fl.set X true, rfl, ⟨by have := KR.out; omega⟩, ⟨by omega⟩, ⟨FF.out.putr hk X HX.out true (by rw [← HVV.out]; rfl)⟩, ⟨flags_S S.out 7 rfl X true⟩⟩
              | false =>
                by_cases ha : a ≤ i
                · have s0 : decide ((a : Int) ≤ (i : Int)) = true := decide_eq_true (by omega)
                  have s0' : decide (a ≤ i) = true := decide_eq_true ha
                  by_cases hb : i < b
                  · have s1 : decide ((i : Int) < (b : Int)) = true := decide_eq_true (by omega)
                    have s1' : decide (i < b) = true := decide_eq_true hb
                    have HON : Aside0 (decide (a ≤ i ∧ i < b) = true) := ⟨decide_eq_true ⟨ha, hb⟩⟩
                    clear ha hb
                    refine start_ (n := 24) (S := fun w' => w'.cell? (ad11.add k) = some (.int .i64 (X : Int)) ∧ w'.cell? ⟨W33.heap.size, X, none⟩ = some (.bool false)) (ds := [23]) #[false, false, false, false, false, false, false, false, false, false, false, false, false, false, false, false, false, false, false, false, false, false, false, false] (by kernel_rfl) rfl rfl ⟨hcell, hbx⟩ (fun hHeld => ?_); refine with_tabW un22_tab un22_bits (fun HT_ HW_ => ?_)
                    have HBW := Aside0.mk (below_drew (Below.refl wr.heap.size wr))
                    generalize wr.drew = W9 at HBW hHeld ⊢
                    replace S := Aside0.mk (S.out.step HBW.out)
                    have hb9 := pw_cell_below HBW.out hbx
                    have hf9 := frozen_below HBW.out hbx hfx
                    refine pure_ (i := 0) (N := some 115) (v := ?_) (a' := ?_) #[true, false, false, false, false, false, false, false, false, false, false, false, false, false, false, false, false, false, false, false, false, false, false, false] rfl rfl (any_of HT_.out (by kernel_rfl)) (fun _ _ _ h => h) (Or.inl ⟨by rfl, ?_⟩) ?_ ?_
                    rotate_left
                    · intro w'
                      go_simp
                      with_reducible rfl
                    rotate_left
                    · simp only [Act.put, List.setIfInBounds_toArray, List.set_cons_zero, List.set_cons_succ, i64_w, i32_w]
                      rfl
                    refine pure_ (i := 1) (N := some 116) (v := ?_) (a' := ?_) #[true, true, false, false, false, false, false, false, false, false, false, false, false, false, false, false, false, false, false, false, false, false, false, false] rfl rfl (any_of HT_.out (by kernel_rfl)) (fun _ _ _ h => h) (Or.inl ⟨by rfl, ?_⟩) ?_ ?_
                    rotate_left
                    · intro w'
                      go_simp
                      with_reducible rfl
                    rotate_left
                    · simp only [Act.put, List.setIfInBounds_toArray, List.set_cons_zero, List.set_cons_succ, i64_w, i32_w]
                      rfl
                    refine pure_ (i := 2) (N := some 117) (v := ?_) (a' := ?_) #[true, true, true, false, false, false, false, false, false, false, false, false, false, false, false, false, false, false, false, false, false, false, false, false] rfl rfl (any_of HT_.out (by kernel_rfl)) (fun _ _ _ h => h) (Or.inl ⟨by rfl, ?_⟩) ?_ ?_
                    rotate_left
                    · intro w'
                      go_simp
                      with_reducible rfl
                    rotate_left
                    · simp only [Act.put, List.setIfInBounds_toArray, List.set_cons_zero, List.set_cons_succ, i64_w, i32_w]
                      rfl
                    refine pure_ (i := 3) (N := some 118) (v := ?_) (a' := ?_) #[true, true, true, true, false, false, false, false, false, false, false, false, false, false, false, false, false, false, false, false, false, false, false, false] rfl rfl (any_of HT_.out (by kernel_rfl)) (fun _ _ _ h => h) (Or.inl ⟨by rfl, ?_⟩) ?_ ?_
                    rotate_left
                    · intro w'
                      go_simp
                      with_reducible rfl
                    rotate_left
                    · simp only [Act.put, List.setIfInBounds_toArray, List.set_cons_zero, List.set_cons_succ, i64_w, i32_w]
                      rfl
                    refine pure_ (i := 5) (N := some 120) (v := ?_) (a' := ?_) #[true, true, true, true, false, true, false, false, false, false, false, false, false, false, false, false, false, false, false, false, false, false, false, false] rfl rfl (any_of HT_.out (by kernel_rfl)) (fun _ _ _ h => h) (Or.inl ⟨by rfl, ?_⟩) ?_ ?_
                    rotate_left
                    · intro w'
                      go_simp
                      with_reducible rfl
                    rotate_left
                    · simp only [Act.put, List.setIfInBounds_toArray, List.set_cons_zero, List.set_cons_succ, i64_w, i32_w]
                      rfl
                    refine pure_ (i := 6) (N := some 121) (v := ?_) (a' := ?_) #[true, true, true, true, false, true, true, false, false, false, false, false, false, false, false, false, false, false, false, false, false, false, false, false] rfl rfl (any_of HT_.out (by kernel_rfl)) (fun _ _ _ h => h) (Or.inl ⟨by rfl, ?_⟩) ?_ ?_
                    rotate_left
                    · intro w'
                      go_simp
                      with_reducible rfl
                    rotate_left
                    · simp only [Act.put, List.setIfInBounds_toArray, List.set_cons_zero, List.set_cons_succ, i64_w, i32_w]
                      rfl
                    refine pure_ (i := 7) (N := some 122) (v := ?_) (a' := ?_) #[true, true, true, true, false, true, true, true, false, false, false, false, false, false, false, false, false, false, false, false, false, false, false, false] rfl rfl (any_of HT_.out (by kernel_rfl)) (fun _ _ _ h => h) (Or.inl ⟨by rfl, ?_⟩) ?_ ?_
                    rotate_left
                    · intro w'
                      go_simp
                      with_reducible rfl
                    rotate_left
                    · simp only [Act.put, List.setIfInBounds_toArray, List.set_cons_zero, List.set_cons_succ, i64_w, i32_w]
                      rfl
                    refine pure_ (i := 8) (N := some 123) (v := ?_) (a' := ?_) #[true, true, true, true, false, true, true, true, true, false, false, false, false, false, false, false, false, false, false, false, false, false, false, false] rfl rfl (any_of HT_.out (by kernel_rfl)) (fun _ _ _ h => h) (Or.inl ⟨by rfl, ?_⟩) ?_ ?_
                    rotate_left
                    · intro w'
                      go_simp
                      with_reducible rfl
                    rotate_left
                    · simp only [Act.put, List.setIfInBounds_toArray, List.set_cons_zero, List.set_cons_succ, i64_w, i32_w]
                      rfl
                    refine take_ (i := 4) (N := some 119) (v := ?_) (a' := ?_) #[true, true, true, true, true, true, true, true, true, false, false, false, false, false, false, false, false, false, false, false, false, false, false, false] rfl rfl (take_ofW HT_.out HW_.out (by kernel_rfl)) (fun _ _ _ h => h) (Or.inl ⟨by rfl, ?_⟩) hHeld ?_ ?_
                    rotate_left
                    · rintro w' ⟨s0, s1⟩
                      go_simp
                      with_reducible rfl
                    rotate_left
                    · simp only [Act.put, List.setIfInBounds_toArray, List.set_cons_zero, List.set_cons_succ, i64_w, i32_w]
                      rfl
                    refine take_ (i := 9) (N := some 124) (v := ?_) (a' := ?_) #[true, true, true, true, true, true, true, true, true, true, false, false, false, false, false, false, false, false, false, false, false, false, false, false] rfl rfl (take_ofW HT_.out HW_.out (by kernel_rfl)) (fun _ _ _ h => h) (Or.inl ⟨by rfl, ?_⟩) hHeld ?_ ?_
                    rotate_left
                    · rintro w' ⟨s0, s1⟩
                      go_simp
                      with_reducible rfl
                    rotate_left
                    · simp only [Act.put, List.setIfInBounds_toArray, List.set_cons_zero, List.set_cons_succ, i64_w, i32_w]
                      rfl
                    refine pure_ (i := 10) (N := some 125) (v := ?_) (a' := ?_) #[true, true, true, true, true, true, true, true, true, true, true, false, false, false, false, false, false, false, false, false, false, false, false, false] rfl rfl (any_of HT_.out (by kernel_rfl)) (fun _ _ _ h => h) (Or.inl ⟨by rfl, ?_⟩) ?_ ?_
                    rotate_left
                    · intro w'
                      go_simp
                      with_reducible rfl
                    rotate_left
                    · simp only [Act.put, List.setIfInBounds_toArray, List.set_cons_zero, List.set_cons_succ, i64_w, i32_w]
                      rfl
                    refine take_ (i := 11) (N := some 126) (v := ?_) (a' := ?_) #[true, true, true, true, true, true, true, true, true, true, true, true, false, false, false, false, false, false, false, false, false, false, false, false] rfl rfl (take_ofW HT_.out HW_.out (by kernel_rfl)) (fun _ _ _ h => h) (Or.inl ⟨by rfl, ?_⟩) hHeld ?_ ?_
                    rotate_left
                    · rintro w' ⟨s0, s1⟩
                      go_simp
                      with_reducible rfl
                    rotate_left
                    · simp only [Act.put, List.setIfInBounds_toArray, List.set_cons_zero, List.set_cons_succ, i64_w, i32_w]
                      rfl
                    refine pure_ (i := 12) (N := some 127) (v := ?_) (a' := ?_) #[true, true, true, true, true, true, true, true, true, true, true, true, true, false, false, false, false, false, false, false, false, false, false, false] rfl rfl (any_of HT_.out (by kernel_rfl)) (fun _ _ _ h => h) (Or.inl ⟨by rfl, ?_⟩) ?_ ?_
                    rotate_left
                    · intro w'
                      go_simp
                      with_reducible rfl
                    rotate_left
                    · simp only [Act.put, List.setIfInBounds_toArray, List.set_cons_zero, List.set_cons_succ, i64_w, i32_w]
                      rfl
                    refine pure_ (i := 13) (N := some 128) (v := ?_) (a' := ?_) #[true, true, true, true, true, true, true, true, true, true, true, true, true, true, false, false, false, false, false, false, false, false, false, false] rfl rfl (any_of HT_.out (by kernel_rfl)) (fun _ _ _ h => h) (Or.inl ⟨by rfl, ?_⟩) ?_ ?_
                    rotate_left
                    · intro w'
                      go_simp
                      with_reducible rfl
                    rotate_left
                    · simp only [Act.put, List.setIfInBounds_toArray, List.set_cons_zero, List.set_cons_succ, i64_w, i32_w]
                      rfl
                    refine pure_ (i := 14) (N := some 129) (v := ?_) (a' := ?_) #[true, true, true, true, true, true, true, true, true, true, true, true, true, true, true, false, false, false, false, false, false, false, false, false] rfl rfl (any_of HT_.out (by kernel_rfl)) (fun _ _ _ h => h) (Or.inl ⟨by rfl, ?_⟩) ?_ ?_
                    rotate_left
                    · intro w'
                      go_simp
                      with_reducible rfl
                    rotate_left
                    · simp only [Act.put, List.setIfInBounds_toArray, List.set_cons_zero, List.set_cons_succ, i64_w, i32_w]
                      rfl
                    refine pure_ (i := 15) (N := some 130) (v := ?_) (a' := ?_) #[true, true, true, true, true, true, true, true, true, true, true, true, true, true, true, true, false, false, false, false, false, false, false, false] rfl rfl (any_of HT_.out (by kernel_rfl)) (fun _ _ _ h => h) (Or.inl ⟨by rfl, ?_⟩) ?_ ?_
                    rotate_left
                    · intro w'
                      go_simp
                      with_reducible rfl
                    rotate_left
                    · simp only [Act.put, List.setIfInBounds_toArray, List.set_cons_zero, List.set_cons_succ, i64_w, i32_w]
                      rfl
                    refine pure_ (i := 16) (N := some 131) (v := ?_) (a' := ?_) #[true, true, true, true, true, true, true, true, true, true, true, true, true, true, true, true, true, false, false, false, false, false, false, false] rfl rfl (any_of HT_.out (by kernel_rfl)) (fun _ _ _ h => h) (Or.inl ⟨by rfl, ?_⟩) ?_ ?_
                    rotate_left
                    · intro w'
                      go_simp
                      with_reducible rfl
                    rotate_left
                    · simp only [Act.put, List.setIfInBounds_toArray, List.set_cons_zero, List.set_cons_succ, i64_w, i32_w]
                      rfl
                    refine pure_ (i := 17) (N := some 132) (v := ?_) (a' := ?_) #[true, true, true, true, true, true, true, true, true, true, true, true, true, true, true, true, true, true, false, false, false, false, false, false] rfl rfl (any_of HT_.out (by kernel_rfl)) (fun _ _ _ h => h) (Or.inl ⟨by rfl, ?_⟩) ?_ ?_
                    rotate_left
                    · intro w'
                      go_simp
                      with_reducible rfl
                    rotate_left
                    · simp only [Act.put, List.setIfInBounds_toArray, List.set_cons_zero, List.set_cons_succ, i64_w, i32_w]
                      rfl
                    refine pure_ (i := 18) (N := some 133) (v := ?_) (a' := ?_) #[true, true, true, true, true, true, true, true, true, true, true, true, true, true, true, true, true, true, true, false, false, false, false, false] rfl rfl (any_of HT_.out (by kernel_rfl)) (fun _ _ _ h => h) (Or.inl ⟨by rfl, ?_⟩) ?_ ?_
                    rotate_left
                    · intro w'
                      go_simp
                      with_reducible rfl
                    rotate_left
                    · simp only [Act.put, List.setIfInBounds_toArray, List.set_cons_zero, List.set_cons_succ, i64_w, i32_w]
                      rfl
                    refine pure_ (i := 19) (N := some 134) (v := ?_) (a' := ?_) #[true, true, true, true, true, true, true, true, true, true, true, true, true, true, true, true, true, true, true, true, false, false, false, false] rfl rfl (any_of HT_.out (by kernel_rfl)) (fun _ _ _ h => h) (Or.inl ⟨by rfl, ?_⟩) ?_ ?_
                    rotate_left
                    · intro w'
                      go_simp
                      with_reducible rfl
                    rotate_left
                    · simp only [Act.put, List.setIfInBounds_toArray, List.set_cons_zero, List.set_cons_succ, i64_w, i32_w]
                      rfl
                    refine pure_ (i := 20) (N := some 135) (v := ?_) (a' := ?_) #[true, true, true, true, true, true, true, true, true, true, true, true, true, true, true, true, true, true, true, true, true, false, false, false] rfl rfl (any_of HT_.out (by kernel_rfl)) (fun _ _ _ h => h) (Or.inl ⟨by rfl, ?_⟩) ?_ ?_
                    rotate_left
                    · intro w'
                      go_simp
                      with_reducible rfl
                    rotate_left
                    · simp only [Act.put, List.setIfInBounds_toArray, List.set_cons_zero, List.set_cons_succ, i64_w, i32_w]
                      rfl
                    refine pure_ (i := 21) (N := some 136) (v := ?_) (a' := ?_) #[true, true, true, true, true, true, true, true, true, true, true, true, true, true, true, true, true, true, true, true, true, true, false, false] rfl rfl (any_of HT_.out (by kernel_rfl)) (fun _ _ _ h => h) (Or.inl ⟨by rfl, ?_⟩) ?_ ?_
                    rotate_left
                    · intro w'
                      go_simp
                      with_reducible rfl
                    rotate_left
                    · simp only [Act.put, List.setIfInBounds_toArray, List.set_cons_zero, List.set_cons_succ, i64_w, i32_w]
                      rfl
                    refine pure_ (i := 22) (N := some 137) (v := ?_) (a' := ?_) #[true, true, true, true, true, true, true, true, true, true, true, true, true, true, true, true, true, true, true, true, true, true, true, false] rfl rfl (any_of HT_.out (by kernel_rfl)) (fun _ _ _ h => h) (Or.inl ⟨by rfl, ?_⟩) ?_ ?_
                    rotate_left
                    · intro w'
                      go_simp
                      with_reducible rfl
                    rotate_left
                    · simp only [Act.put, List.setIfInBounds_toArray, List.set_cons_zero, List.set_cons_succ, i64_w, i32_w]
                      rfl
                    refine last_ (i := 23) (N := none) #[true, true, true, true, true, true, true, true, true, true, true, true, true, true, true, true, true, true, true, true, true, true, true, true] rfl rfl (one_of HT_.out (by kernel_rfl)) (by decide) (fun K hK => ?_)
                    go_simp
                    refine hK.out _ _ ?_
                    clear hK K
                    refine done_ (done_of HT_.out (by kernel_rfl)) ?_
                    go_wp2
                    go_roundg qr
                    case measure => omega
                    case rel => exact ⟨k + 1, fl.set X true, rfl, ⟨by have := KR.out; omega⟩, ⟨by omega⟩, ⟨FF.out.putr hk X HX.out true (by rw [← HVV.out]; rw [HON.out]; rfl)⟩, ⟨flags_S S.out 7 rfl X true⟩⟩
                  · have s1 : decide ((i : Int) < (b : Int)) = false := decide_eq_false (by omega)
                    have s1' : decide (i < b) = false := decide_eq_false hb
                    have HON : Aside0 (decide (a ≤ i ∧ i < b) = false) := ⟨decide_eq_false (fun h => hb h.2)⟩
                    clear ha hb
                    refine start_ (n := 24) (S := fun w' => w'.cell? (ad11.add k) = some (.int .i64 (X : Int)) ∧ w'.cell? ⟨W33.heap.size, X, none⟩ = some (.bool false)) (ds := [23]) #[false, false, false, false, false, false, false, false, false, false, false, false, false, false, false, false, false, false, false, false, false, false, false, false] (by kernel_rfl) rfl rfl ⟨hcell, hbx⟩ (fun hHeld => ?_); refine with_tabW un22_tab un22_bits (fun HT_ HW_ => ?_)
                    have HBW := Aside0.mk (below_drew (Below.refl wr.heap.size wr))
                    generalize wr.drew = W9 at HBW hHeld ⊢
                    replace S := Aside0.mk (S.out.step HBW.out)
                    have hb9 := pw_cell_below HBW.out hbx
                    have hf9 := frozen_below HBW.out hbx hfx
                    refine pure_ (i := 0) (N := some 115) (v := ?_) (a' := ?_) #[true, false, false, false, false, false, false, false, false, false, false, false, false, false, false, false, false, false, false, false, false, false, false, false] rfl rfl (any_of HT_.out (by kernel_rfl)) (fun _ _ _ h => h) (Or.inl ⟨by rfl, ?_⟩) ?_ ?_
                    rotate_left
                    · intro w'
                      go_simp
                      with_reducible rfl
                    rotate_left
                    · simp only [Act.put, List.setIfInBounds_toArray, List.set_cons_zero, List.set_cons_succ, i64_w, i32_w]
                      rfl
                    refine pure_ (i := 1) (N := some 116) (v := ?_) (a' := ?_) #[true, true, false, false, false, false, false, false, false, false, false, false, false, false, false, false, false, false, false, false, false, false, false, false] rfl rfl (any_of HT_.out (by kernel_rfl)) (fun _ _ _ h => h) (Or.inl ⟨by rfl, ?_⟩) ?_ ?_
                    rotate_left
                    · intro w'
                      go_simp
                      with_reducible rfl
                    rotate_left
                    · simp only [Act.put, List.setIfInBounds_toArray, List.set_cons_zero, List.set_cons_succ, i64_w, i32_w]
                      rfl
                    refine pure_ (i := 2) (N := some 117) (v := ?_) (a' := ?_) #[true, true, true, false, false, false, false, false, false, false, false, false, false, false, false, false, false, false, false, false, false, false, false, false] rfl rfl (any_of HT_.out (by kernel_rfl)) (fun _ _ _ h => h) (Or.inl ⟨by rfl, ?_⟩) ?_ ?_
                    rotate_left
                    · intro w'
                      go_simp
                      with_reducible rfl
                    rotate_left
                    · simp only [Act.put, List.setIfInBounds_toArray, List.set_cons_zero, List.set_cons_succ, i64_w, i32_w]
                      rfl
                    refine pure_ (i := 3) (N := some 118) (v := ?_) (a' := ?_) #[true, true, true, true, false, false, false, false, false, false, false, false, false, false, false, false, false, false, false, false, false, false, false, false] rfl rfl (any_of HT_.out (by kernel_rfl)) (fun _ _ _ h => h) (Or.inl ⟨by rfl, ?_⟩) ?_ ?_
                    rotate_left
                    · intro w'
                      go_simp
                      with_reducible rfl
                    rotate_left
                    · simp only [Act.put, List.setIfInBounds_toArray, List.set_cons_zero, List.set_cons_succ, i64_w, i32_w]
                      rfl
                    refine pure_ (i := 5) (N := some 120) (v := ?_) (a' := ?_) #[true, true, true, true, false, true, false, false, false, false, false, false, false, false, false, false, false, false, false, false, false, false, false, false] rfl rfl (any_of HT_.out (by kernel_rfl)) (fun _ _ _ h => h) (Or.inl ⟨by rfl, ?_⟩) ?_ ?_
                    rotate_left
                    · intro w'
                      go_simp
                      with_reducible rfl
                    rotate_left
                    · simp only [Act.put, List.setIfInBounds_toArray, List.set_cons_zero, List.set_cons_succ, i64_w, i32_w]
                      rfl
                    refine pure_ (i := 6) (N := some 121) (v := ?_) (a' := ?_) #[true, true, true, true, false, true, true, false, false, false, false, false, false, false, false, false, false, false, false, false, false, false, false, false] rfl rfl (any_of HT_.out (by kernel_rfl)) (fun _ _ _ h => h) (Or.inl ⟨by rfl, ?_⟩) ?_ ?_
                    rotate_left
                    · intro w'
                      go_simp
                      with_reducible rfl
                    rotate_left
                    · simp only [Act.put, List.setIfInBounds_toArray, List.set_cons_zero, List.set_cons_succ, i64_w, i32_w]
                      rfl
                    refine pure_ (i := 7) (N := some 122) (v := ?_) (a' := ?_) #[true, true, true, true, false, true, true, true, false, false, false, false, false, false, false, false, false, false, false, false, false, false, false, false] rfl rfl (any_of HT_.out (by kernel_rfl)) (fun _ _ _ h => h) (Or.inl ⟨by rfl, ?_⟩) ?_ ?_
                    rotate_left
                    · intro w'
                      go_simp
                      with_reducible rfl
                    rotate_left
                    · simp only [Act.put, List.setIfInBounds_toArray, List.set_cons_zero, List.set_cons_succ, i64_w, i32_w]
                      rfl
                    refine pure_ (i := 8) (N := some 123) (v := ?_) (a' := ?_) #[true, true, true, true, false, true, true, true, true, false, false, false, false, false, false, false, false, false, false, false, false, false, false, false] rfl rfl (any_of HT_.out (by kernel_rfl)) (fun _ _ _ h => h) (Or.inl ⟨by rfl, ?_⟩) ?_ ?_
                    rotate_left
                    · intro w'
                      go_simp
                      with_reducible rfl
                    rotate_left
                    · simp only [Act.put, List.setIfInBounds_toArray, List.set_cons_zero, List.set_cons_succ, i64_w, i32_w]
                      rfl
                    refine take_ (i := 4) (N := some 119) (v := ?_) (a' := ?_) #[true, true, true, true, true, true, true, true, true, false, false, false, false, false, false, false, false, false, false, false, false, false, false, false] rfl rfl (take_ofW HT_.out HW_.out (by kernel_rfl)) (fun _ _ _ h => h) (Or.inl ⟨by rfl, ?_⟩) hHeld ?_ ?_
                    rotate_left
                    · rintro w' ⟨s0, s1⟩
                      go_simp
                      with_reducible rfl
                    rotate_left
                    · simp only [Act.put, List.setIfInBounds_toArray, List.set_cons_zero, List.set_cons_succ, i64_w, i32_w]
                      rfl
                    refine take_ (i := 9) (N := some 124) (v := ?_) (a' := ?_) #[true, true, true, true, true, true, true, true, true, true, false, false, false, false, false, false, false, false, false, false, false, false, false, false] rfl rfl (take_ofW HT_.out HW_.out (by kernel_rfl)) (fun _ _ _ h => h) (Or.inl ⟨by rfl, ?_⟩) hHeld ?_ ?_
                    rotate_left
                    · rintro w' ⟨s0, s1⟩
                      go_simp
                      with_reducible rfl
                    rotate_left
                    · simp only [Act.put, List.setIfInBounds_toArray, List.set_cons_zero, List.set_cons_succ, i64_w, i32_w]
                      rfl
                    refine pure_ (i := 10) (N := some 125) (v := ?_) (a' := ?_) #[true, true, true, true, true, true, true, true, true, true, true, false, false, false, false, false, false, false, false, false, false, false, false, false] rfl rfl (any_of HT_.out (by kernel_rfl)) (fun _ _ _ h => h) (Or.inl ⟨by rfl, ?_⟩) ?_ ?_
                    rotate_left
                    · intro w'
                      go_simp
                      with_reducible rfl
                    rotate_left
                    · simp only [Act.put, List.setIfInBounds_toArray, List.set_cons_zero, List.set_cons_succ, i64_w, i32_w]
                      rfl
                    refine take_ (i := 11) (N := some 126) (v := ?_) (a' := ?_) #[true, true, true, true, true, true, true, true, true, true, true, true, false, false, false, false, false, false, false, false, false, false, false, false] rfl rfl (take_ofW HT_.out HW_.out (by kernel_rfl)) (fun _ _ _ h => h) (Or.inl ⟨by rfl, ?_⟩) hHeld ?_ ?_
                    rotate_left
                    · rintro w' ⟨s0, s1⟩
                      go_simp
                      with_reducible rfl
                    rotate_left
                    · simp only [Act.put, List.setIfInBounds_toArray, List.set_cons_zero, List.set_cons_succ, i64_w, i32_w]
                      rfl
                    refine pure_ (i := 12) (N := some 127) (v := ?_) (a' := ?_) #[true, true, true, true, true, true, true, true, true, true, true, true, true, false, false, false, false, false, false, false, false, false, false, false] rfl rfl (any_of HT_.out (by kernel_rfl)) (fun _ _ _ h => h) (Or.inl ⟨by rfl, ?_⟩) ?_ ?_
                    rotate_left
                    · intro w'
                      go_simp
                      with_reducible rfl
                    rotate_left
                    · simp only [Act.put, List.setIfInBounds_toArray, List.set_cons_zero, List.set_cons_succ, i64_w, i32_w]
                      rfl
                    refine pure_ (i := 13) (N := some 128) (v := ?_) (a' := ?_) #[true, true, true, true, true, true, true, true, true, true, true, true, true, true, false, false, false, false, false, false, false, false, false, false] rfl rfl (any_of HT_.out (by kernel_rfl)) (fun _ _ _ h => h) (Or.inl ⟨by rfl, ?_⟩) ?_ ?_
                    rotate_left
                    · intro w'
                      go_simp
                      with_reducible rfl
                    rotate_left
                    · simp only [Act.put, List.setIfInBounds_toArray, List.set_cons_zero, List.set_cons_succ, i64_w, i32_w]
                      rfl
                    refine pure_ (i := 14) (N := some 129) (v := ?_) (a' := ?_) #[true, true, true, true, true, true, true, true, true, true, true, true, true, true, true, false, false, false, false, false, false, false, false, false] rfl rfl (any_of HT_.out (by kernel_rfl)) (fun _ _ _ h => h) (Or.inl ⟨by rfl, ?_⟩) ?_ ?_
                    rotate_left
                    · intro w'
                      go_simp
                      with_reducible rfl
                    rotate_left
                    · simp only [Act.put, List.setIfInBounds_toArray, List.set_cons_zero, List.set_cons_succ, i64_w, i32_w]
                      rfl
                    refine pure_ (i := 15) (N := some 130) (v := ?_) (a' := ?_) #[true, true, true, true, true, true, true, true, true, true, true, true, true, true, true, true, false, false, false, false, false, false, false, false] rfl rfl (any_of HT_.out (by kernel_rfl)) (fun _ _ _ h => h) (Or.inl ⟨by rfl, ?_⟩) ?_ ?_
                    rotate_left
                    · intro w'
                      go_simp
                      with_reducible rfl
                    rotate_left
                    · simp only [Act.put, List.setIfInBounds_toArray, List.set_cons_zero, List.set_cons_succ, i64_w, i32_w]
                      rfl
                    refine pure_ (i := 16) (N := some 131) (v := ?_) (a' := ?_) #[true, true, true, true, true, true, true, true, true, true, true, true, true, true, true, true, true, false, false, false, false, false, false, false] rfl rfl (any_of HT_.out (by kernel_rfl)) (fun _ _ _ h => h) (Or.inl ⟨by rfl, ?_⟩) ?_ ?_
                    rotate_left
                    · intro w'
                      go_simp
                      with_reducible rfl
                    rotate_left
                    · simp only [Act.put, List.setIfInBounds_toArray, List.set_cons_zero, List.set_cons_succ, i64_w, i32_w]
                      rfl
                    refine pure_ (i := 17) (N := some 132) (v := ?_) (a' := ?_) #[true, true, true, true, true, true, true, true, true, true, true, true, true, true, true, true, true, true, false, false, false, false, false, false] rfl rfl (any_of HT_.out (by kernel_rfl)) (fun _ _ _ h => h) (Or.inl ⟨by rfl, ?_⟩) ?_ ?_
                    rotate_left
                    · intro w'
                      go_simp
                      with_reducible rfl
                    rotate_left
                    · simp only [Act.put, List.setIfInBounds_toArray, List.set_cons_zero, List.set_cons_succ, i64_w, i32_w]
                      rfl
                    refine pure_ (i := 18) (N := some 133) (v := ?_) (a' := ?_) #[true, true, true, true, true, true, true, true, true, true, true, true, true, true, true, true, true, true, true, false, false, false, false, false] rfl rfl (any_of HT_.out (by kernel_rfl)) (fun _ _ _ h => h) (Or.inl ⟨by rfl, ?_⟩) ?_ ?_
                    rotate_left
                    · intro w'
                      go_simp
                      with_reducible rfl
                    rotate_left
                    · simp only [Act.put, List.setIfInBounds_toArray, List.set_cons_zero, List.set_cons_succ, i64_w, i32_w]
                      rfl
                    refine pure_ (i := 19) (N := some 134) (v := ?_) (a' := ?_) #[true, true, true, true, true, true, true, true, true, true, true, true, true, true, true, true, true, true, true, true, false, false, false, false] rfl rfl (any_of HT_.out (by kernel_rfl)) (fun _ _ _ h => h) (Or.inl ⟨by rfl, ?_⟩) ?_ ?_
                    rotate_left
                    · intro w'
                      go_simp
                      with_reducible rfl
                    rotate_left
                    · simp only [Act.put, List.setIfInBounds_toArray, List.set_cons_zero, List.set_cons_succ, i64_w, i32_w]
                      rfl
                    refine pure_ (i := 20) (N := some 135) (v := ?_) (a' := ?_) #[true, true, true, true, true, true, true, true, true, true, true, true, true, true, true, true, true, true, true, true, true, false, false, false] rfl rfl (any_of HT_.out (by kernel_rfl)) (fun _ _ _ h => h) (Or.inl ⟨by rfl, ?_⟩) ?_ ?_
                    rotate_left
                    · intro w'
                      go_simp
                      with_reducible rfl
                    rotate_left
                    · simp only [Act.put, List.setIfInBounds_toArray, List.set_cons_zero, List.set_cons_succ, i64_w, i32_w]
                      rfl
                    refine pure_ (i := 21) (N := some 136) (v := ?_) (a' := ?_) #[true, true, true, true, true, true, true, true, true, true, true, true, true, true, true, true, true, true, true, true, true, true, false, false] rfl rfl (any_of HT_.out (by kernel_rfl)) (fun _ _ _ h => h) (Or.inl ⟨by rfl, ?_⟩) ?_ ?_
                    rotate_left
                    · intro w'
                      go_simp
                      with_reducible rfl
                    rotate_left
                    · simp only [Act.put, List.setIfInBounds_toArray, List.set_cons_zero, List.set_cons_succ, i64_w, i32_w]
                      rfl
                    refine pure_ (i := 22) (N := some 137) (v := ?_) (a' := ?_) #[true, true, true, true, true, true, true, true, true, true, true, true, true, true, true, true, true, true, true, true, true, true, true, false] rfl rfl (any_of HT_.out (by kernel_rfl)) (fun _ _ _ h => h) (Or.inl ⟨by rfl, ?_⟩) ?_ ?_
                    rotate_left
                    · intro w'
                      go_simp
                      with_reducible rfl
                    rotate_left
                    · simp only [Act.put, List.setIfInBounds_toArray, List.set_cons_zero, List.set_cons_succ, i64_w, i32_w]
                      rfl
                    refine last_ (i := 23) (N := none) #[true, true, true, true, true, true, true, true, true, true, true, true, true, true, true, true, true, true, true, true, true, true, true, true] rfl rfl (one_of HT_.out (by kernel_rfl)) (by decide) (fun K hK => ?_)
                    go_simp
                    refine hK.out _ _ ?_
                    clear hK K
                    refine done_ (done_of HT_.out (by kernel_rfl)) ?_
                    go_wp2
                    go_roundg qr
                    case measure => omega
                    case rel => exact ⟨k + 1, fl.set X false, rfl, ⟨by have := KR.out; omega⟩, ⟨by omega⟩, ⟨FF.out.putr hk X HX.out false (by rw [← HVV.out]; rw [HON.out]; rfl)⟩, ⟨flags_S S.out 7 rfl X false⟩⟩
                · have s0 : decide ((a : Int) ≤ (i : Int)) = false := decide_eq_false (by omega)
                  have s0' : decide (a ≤ i) = false := decide_eq_false ha
                  have HON : Aside0 (decide (a ≤ i ∧ i < b) = false) := ⟨decide_eq_false (fun h => ha h.1)⟩
                  clear ha
                  refine start_ (n := 24) (S := fun w' => w'.cell? (ad11.add k) = some (.int .i64 (X : Int)) ∧ w'.cell? ⟨W33.heap.size, X, none⟩ = some (.bool false)) (ds := [23]) #[false, false, false, false, false, false, false, false, false, false, false, false, false, false, false, false, false, false, false, false, false, false, false, false] (by kernel_rfl) rfl rfl ⟨hcell, hbx⟩ (fun hHeld => ?_); refine with_tabW un22_tab un22_bits (fun HT_ HW_ => ?_)
                  have HBW := Aside0.mk (below_drew (Below.refl wr.heap.size wr))
                  generalize wr.drew = W9 at HBW hHeld ⊢
                  replace S := Aside0.mk (S.out.step HBW.out)
                  have hb9 := pw_cell_below HBW.out hbx
                  have hf9 := frozen_below HBW.out hbx hfx
                  refine pure_ (i := 0) (N := some 115) (v := ?_) (a' := ?_) #[true, false, false, false, false, false, false, false, false, false, false, false, false, false, false, false, false, false, false, false, false, false, false, false] rfl rfl (any_of HT_.out (by kernel_rfl)) (fun _ _ _ h => h) (Or.inl ⟨by rfl, ?_⟩) ?_ ?_
                  rotate_left
                  · intro w'
                    go_simp
                    with_reducible rfl
                  rotate_left
                  · simp only [Act.put, List.setIfInBounds_toArray, List.set_cons_zero, List.set_cons_succ, i64_w, i32_w]
                    rfl
                  refine pure_ (i := 1) (N := some 116) (v := ?_) (a' := ?_) #[true, true, false, false, false, false, false, false, false, false, false, false, false, false, false, false, false, false, false, false, false, false, false, false] rfl rfl (any_of HT_.out (by kernel_rfl)) (fun _ _ _ h => h) (Or.inl ⟨by rfl, ?_⟩) ?_ ?_
                  rotate_left
                  · intro w'
                    go_simp
                    with_reducible rfl
                  rotate_left
                  · simp only [Act.put, List.setIfInBounds_toArray, List.set_cons_zero, List.set_cons_succ, i64_w, i32_w]
                    rfl
                  refine pure_ (i := 2) (N := some 117) (v := ?_) (a' := ?_) #[true, true, true, false, false, false, false, false, false, false, false, false, false, false, false, false, false, false, false, false, false, false, false, false] rfl rfl (any_of HT_.out (by kernel_rfl)) (fun _ _ _ h => h) (Or.inl ⟨by rfl, ?_⟩) ?_ ?_
                  rotate_left
                  · intro w'
                    go_simp
                    with_reducible rfl
                  rotate_left
                  · simp only [Act.put, List.setIfInBounds_toArray, List.set_cons_zero, List.set_cons_succ, i64_w, i32_w]
                    rfl
                  refine pure_ (i := 3) (N := some 118) (v := ?_) (a' := ?_) #[true, true, true, true, false, false, false, false, false, false, false, false, false, false, false, false, false, false, false, false, false, false, false, false] rfl rfl (any_of HT_.out (by kernel_rfl)) (fun _ _ _ h => h) (Or.inl ⟨by rfl, ?_⟩) ?_ ?_
                  rotate_left
                  · intro w'
                    go_simp
                    with_reducible rfl
                  rotate_left
                  · simp only [Act.put, List.setIfInBounds_toArray, List.set_cons_zero, List.set_cons_succ, i64_w, i32_w]
                    rfl
                  refine pure_ (i := 5) (N := some 120) (v := ?_) (a' := ?_) #[true, true, true, true, false, true, false, false, false, false, false, false, false, false, false, false, false, false, false, false, false, false, false, false] rfl rfl (any_of HT_.out (by kernel_rfl)) (fun _ _ _ h => h) (Or.inl ⟨by rfl, ?_⟩) ?_ ?_
                  rotate_left
                  · intro w'
                    go_simp
                    with_reducible rfl
                  rotate_left
                  · simp only [Act.put, List.setIfInBounds_toArray, List.set_cons_zero, List.set_cons_succ, i64_w, i32_w]
                    rfl
                  refine pure_ (i := 6) (N := some 121) (v := ?_) (a' := ?_) #[true, true, true, true, false, true, true, false, false, false, false, false, false, false, false, false, false, false, false, false, false, false, false, false] rfl rfl (any_of HT_.out (by kernel_rfl)) (fun _ _ _ h => h) (Or.inl ⟨by rfl, ?_⟩) ?_ ?_
                  rotate_left
                  · intro w'
                    go_simp
                    with_reducible rfl
                  rotate_left
                  · simp only [Act.put, List.setIfInBounds_toArray, List.set_cons_zero, List.set_cons_succ, i64_w, i32_w]
                    rfl
                  refine pure_ (i := 7) (N := some 122) (v := ?_) (a' := ?_) #[true, true, true, true, false, true, true, true, false, false, false, false, false, false, false, false, false, false, false, false, false, false, false, false] rfl rfl (any_of HT_.out (by kernel_rfl)) (fun _ _ _ h => h) (Or.inl ⟨by rfl, ?_⟩) ?_ ?_
                  rotate_left
                  · intro w'
                    go_simp
                    with_reducible rfl
                  rotate_left
                  · simp only [Act.put, List.setIfInBounds_toArray, List.set_cons_zero, List.set_cons_succ, i64_w, i32_w]
                    rfl
                  refine pure_ (i := 8) (N := some 123) (v := ?_) (a' := ?_) #[true, true, true, true, false, true, true, true, true, false, false, false, false, false, false, false, false, false, false, false, false, false, false, false] rfl rfl (any_of HT_.out (by kernel_rfl)) (fun _ _ _ h => h) (Or.inl ⟨by rfl, ?_⟩) ?_ ?_
                  rotate_left
                  · intro w'
                    go_simp
                    with_reducible rfl
                  rotate_left
                  · simp only [Act.put, List.setIfInBounds_toArray, List.set_cons_zero, List.set_cons_succ, i64_w, i32_w]
                    rfl
                  refine take_ (i := 4) (N := some 119) (v := ?_) (a' := ?_) #[true, true, true, true, true, true, true, true, true, false, false, false, false, false, false, false, false, false, false, false, false, false, false, false] rfl rfl (take_ofW HT_.out HW_.out (by kernel_rfl)) (fun _ _ _ h => h) (Or.inl ⟨by rfl, ?_⟩) hHeld ?_ ?_
                  rotate_left
                  · rintro w' ⟨s0, s1⟩
                    go_simp
                    with_reducible rfl
                  rotate_left
                  · simp only [Act.put, List.setIfInBounds_toArray, List.set_cons_zero, List.set_cons_succ, i64_w, i32_w]
                    rfl
                  refine take_ (i := 9) (N := some 124) (v := ?_) (a' := ?_) #[true, true, true, true, true, true, true, true, true, true, false, false, false, false, false, false, false, false, false, false, false, false, false, false] rfl rfl (take_ofW HT_.out HW_.out (by kernel_rfl)) (fun _ _ _ h => h) (Or.inl ⟨by rfl, ?_⟩) hHeld ?_ ?_
                  rotate_left
                  · rintro w' ⟨s0, s1⟩
                    go_simp
                    with_reducible rfl
                  rotate_left
                  · simp only [Act.put, List.setIfInBounds_toArray, List.set_cons_zero, List.set_cons_succ, i64_w, i32_w]
                    rfl
                  refine pure_ (i := 10) (N := some 125) (v := ?_) (a' := ?_) #[true, true, true, true, true, true, true, true, true, true, true, false, false, false, false, false, false, false, false, false, false, false, false, false] rfl rfl (any_of HT_.out (by kernel_rfl)) (fun _ _ _ h => h) (Or.inl ⟨by rfl, ?_⟩) ?_ ?_
                  rotate_left
                  · intro w'
                    go_simp
                    with_reducible rfl
                  rotate_left
                  · simp only [Act.put, List.setIfInBounds_toArray, List.set_cons_zero, List.set_cons_succ, i64_w, i32_w]
                    rfl
                  refine take_ (i := 11) (N := some 126) (v := ?_) (a' := ?_) #[true, true, true, true, true, true, true, true, true, true, true, true, false, false, false, false, false, false, false, false, false, false, false, false] rfl rfl (take_ofW HT_.out HW_.out (by kernel_rfl)) (fun _ _ _ h => h) (Or.inl ⟨by rfl, ?_⟩) hHeld ?_ ?_
                  rotate_left
                  · rintro w' ⟨s0, s1⟩
                    go_simp
                    with_reducible rfl
                  rotate_left
                  · simp only [Act.put, List.setIfInBounds_toArray, List.set_cons_zero, List.set_cons_succ, i64_w, i32_w]
                    rfl
                  refine pure_ (i := 12) (N := some 127) (v := ?_) (a' := ?_) #[true, true, true, true, true, true, true, true, true, true, true, true, true, false, false, false, false, false, false, false, false, false, false, false] rfl rfl (any_of HT_.out (by kernel_rfl)) (fun _ _ _ h => h) (Or.inl ⟨by rfl, ?_⟩) ?_ ?_
                  rotate_left
                  · intro w'
                    go_simp
                    with_reducible rfl
                  rotate_left
                  · simp only [Act.put, List.setIfInBounds_toArray, List.set_cons_zero, List.set_cons_succ, i64_w, i32_w]
                    rfl
                  refine pure_ (i := 13) (N := some 128) (v := ?_) (a' := ?_) #[true, true, true, true, true, true, true, true, true, true, true, true, true, true, false, false, false, false, false, false, false, false, false, false] rfl rfl (any_of HT_.out (by kernel_rfl)) (fun _ _ _ h => h) (Or.inl ⟨by rfl, ?_⟩) ?_ ?_
                  rotate_left
                  · intro w'
                    go_simp
                    with_reducible rfl
                  rotate_left
                  · simp only [Act.put, List.setIfInBounds_toArray, List.set_cons_zero, List.set_cons_succ, i64_w, i32_w]
                    rfl
                  refine pure_ (i := 14) (N := some 129) (v := ?_) (a' := ?_) #[true, true, true, true, true, true, true, true, true, true, true, true, true, true, true, false, false, false, false, false, false, false, false, false] rfl rfl (any_of HT_.out (by kernel_rfl)) (fun _ _ _ h => h) (Or.inl ⟨by rfl, ?_⟩) ?_ ?_
                  rotate_left
                  · intro w'
                    go_simp
                    with_reducible rfl
                  rotate_left
                  · simp only [Act.put, List.setIfInBounds_toArray, List.set_cons_zero, List.set_cons_succ, i64_w, i32_w]
                    rfl
                  refine pure_ (i := 15) (N := some 130) (v := ?_) (a' := ?_) #[true, true, true, true, true, true, true, true, true, true, true, true, true, true, true, true, false, false, false, false, false, false, false, false] rfl rfl (any_of HT_.out (by kernel_rfl)) (fun _ _ _ h => h) (Or.inl ⟨by rfl, ?_⟩) ?_ ?_
                  rotate_left
                  · intro w'
                    go_simp
                    with_reducible rfl
                  rotate_left
                  · simp only [Act.put, List.setIfInBounds_toArray, List.set_cons_zero, List.set_cons_succ, i64_w, i32_w]
                    rfl
                  refine pure_ (i := 16) (N := some 131) (v := ?_) (a' := ?_) #[true, true, true, true, true, true, true, true, true, true, true, true, true, true, true, true, true, false, false, false, false, false, false, false] rfl rfl (any_of HT_.out (by kernel_rfl)) (fun _ _ _ h => h) (Or.inl ⟨by rfl, ?_⟩) ?_ ?_
                  rotate_left
                  · intro w'
                    go_simp
                    with_reducible rfl
                  rotate_left
                  · simp only [Act.put, List.setIfInBounds_toArray, List.set_cons_zero, List.set_cons_succ, i64_w, i32_w]
                    rfl
                  refine pure_ (i := 17) (N := some 132) (v := undef) (a' := ?_) #[true, true, true, true, true, true, true, true, true, true, true, true, true, true, true, true, true, true, false, false, false, false, false, false] rfl rfl (any_of HT_.out (by kernel_rfl)) (fun _ _ _ h => h) (Or.inr ⟨by rfl, rfl⟩) ?_ ?_
                  rotate_left
                  · simp only [Act.put, List.setIfInBounds_toArray, List.set_cons_zero, List.set_cons_succ, i64_w, i32_w]
                    rfl
                  refine pure_ (i := 18) (N := some 133) (v := undef) (a' := ?_) #[true, true, true, true, true, true, true, true, true, true, true, true, true, true, true, true, true, true, true, false, false, false, false, false] rfl rfl (any_of HT_.out (by kernel_rfl)) (fun _ _ _ h => h) (Or.inr ⟨by rfl, rfl⟩) ?_ ?_
                  rotate_left
                  · simp only [Act.put, List.setIfInBounds_toArray, List.set_cons_zero, List.set_cons_succ, i64_w, i32_w]
                    rfl
                  refine pure_ (i := 19) (N := some 134) (v := undef) (a' := ?_) #[true, true, true, true, true, true, true, true, true, true, true, true, true, true, true, true, true, true, true, true, false, false, false, false] rfl rfl (any_of HT_.out (by kernel_rfl)) (fun _ _ _ h => h) (Or.inr ⟨by rfl, rfl⟩) ?_ ?_
                  rotate_left
                  · simp only [Act.put, List.setIfInBounds_toArray, List.set_cons_zero, List.set_cons_succ, i64_w, i32_w]
                    rfl
                  refine pure_ (i := 20) (N := some 135) (v := ?_) (a' := ?_) #[true, true, true, true, true, true, true, true, true, true, true, true, true, true, true, true, true, true, true, true, true, false, false, false] rfl rfl (any_of HT_.out (by kernel_rfl)) (fun _ _ _ h => h) (Or.inl ⟨by rfl, ?_⟩) ?_ ?_
                  rotate_left
                  · intro w'
                    go_simp
                    with_reducible rfl
                  rotate_left
                  · simp only [Act.put, List.setIfInBounds_toArray, List.set_cons_zero, List.set_cons_succ, i64_w, i32_w]
                    rfl
                  refine pure_ (i := 21) (N := some 136) (v := ?_) (a' := ?_) #[true, true, true, true, true, true, true, true, true, true, true, true, true, true, true, true, true, true, true, true, true, true, false, false] rfl rfl (any_of HT_.out (by kernel_rfl)) (fun _ _ _ h => h) (Or.inl ⟨by rfl, ?_⟩) ?_ ?_
                  rotate_left
                  · intro w'
                    go_simp
                    with_reducible rfl
                  rotate_left
                  · simp only [Act.put, List.setIfInBounds_toArray, List.set_cons_zero, List.set_cons_succ, i64_w, i32_w]
                    rfl
                  refine pure_ (i := 22) (N := some 137) (v := ?_) (a' := ?_) #[true, true, true, true, true, true, true, true, true, true, true, true, true, true, true, true, true, true, true, true, true, true, true, false] rfl rfl (any_of HT_.out (by kernel_rfl)) (fun _ _ _ h => h) (Or.inl ⟨by rfl, ?_⟩) ?_ ?_
                  rotate_left
                  · intro w'
                    go_simp
                    with_reducible rfl
                  rotate_left
                  · simp only [Act.put, List.setIfInBounds_toArray, List.set_cons_zero, List.set_cons_succ, i64_w, i32_w]
                    rfl
                  refine last_ (i := 23) (N := none) #[true, true, true, true, true, true, true, true, true, true, true, true, true, true, true, true, true, true, true, true, true, true, true, true] rfl rfl (one_of HT_.out (by kernel_rfl)) (by decide) (fun K hK => ?_)
                  go_simp
                  refine hK.out _ _ ?_
                  clear hK K
                  refine done_ (done_of HT_.out (by kernel_rfl)) ?_
                  go_wp2
                  go_roundg qr
                  case measure => omega
                  case rel => exact ⟨k + 1, fl.set X false, rfl, ⟨by have := KR.out; omega⟩, ⟨by omega⟩, ⟨FF.out.putr hk X HX.out false (by rw [← HVV.out]; rw [HON.out]; rfl)⟩, ⟨flags_S S.out 7 rfl X false⟩⟩
            · obtain rfl : k = (dOf bs i).length := by have := KL.out; omega
              have t2 : decide ((dOf bs i).length < (dOf bs i).length) = false := decide_eq_false (by omega)
              clear hk
              go_wp2
              go_roundg qq
              case measure => omega
              case rel => exact ⟨i + 1, fl, wnext i (by have := HWL.out; omega), ⟨by have := KQ.out; omega⟩, ⟨by omega⟩, ⟨FF.out.next⟩, ⟨S.out.drop 6⟩⟩
        · obtain rfl : i = ws.length := by have := IL.out; omega
          have p2 : decide (ws.length < ws.length) = false := decide_eq_false (by omega)
          clear hi
          have HW : Aside0 (wantOf fl bs.length = sel (begins · p) bs bs.length) := ⟨FL.done (by rw [← HWS.out]; exact HRG.out) (by rw [← HWS.out]; exact FF.out)⟩
          have HFN := Aside0.mk FF.out.len
          go_upto_region 25 with fail
          replace S := Aside0.mk (S.out.nil (Kd.int .i64) 3)
          go_loopg [13, 14] (bs.length + 1) (fun kq v13 v14 w' => ∃ (x : Nat), v14 = .int .i64 x ∧ Aside0 (kq + x = bs.length + 1) ∧ Aside0 (x ≤ bs.length) ∧ Aside0 (Sep w w' (Own _ (Kd.int .i64) 3 v13 (wantOf fl x) :: IxL _ g wv dv bv dvs m (Hdr _ 33 bv bvs :: FzN _ bvs (bs.map pw_strs) :: [Box _ W33.heap.size 4 (fl.map Value.bool).toArray, Own _ Kd.string 9 (.slice A6 ws.length c6) ws]))))
          case atStart => exact ⟨0, rfl, ⟨rfl⟩, ⟨Nat.zero_le _⟩, S⟩
          case round =>
            clear S FF
            obtain ⟨x, rfl, KX, XL, S⟩ := hrel
            cases gk with
            | zero => exact absurd KX.out (by have := XL.out; omega)
            | succ qx =>
            by_cases hx : x < bs.length
            · have e0 : (0 : Int) ≤ (x : Int) := by omega
              have e1 : (x : Int) < (bs.length : Int) := by omega
              have e2 : decide (x < bs.length) = true := decide_eq_true hx
              have hbx0 := blk_cell (S.out.at_box 7 rfl) x
              obtain ⟨v, hv⟩ : ∃ v, v = fl.getD x false := ⟨_, rfl⟩
              have hbx : wr.cell? ⟨W33.heap.size, x, none⟩ = some (.bool v) := by
                rw [hbx0, hv, List.getElem?_toArray, List.getElem?_map, List.getD_eq_getElem?_getD, List.getElem?_eq_getElem (by rw [HFN.out]; exact hx)]
                rfl
              have HVV := Aside0.mk hv
              clear hv hbx0
              cases v with
              | true =>
                go_wp2_with (first | ((with_reducible refine gate_builtin (b := .append) (xs := #[.tmp 148, .tmp 150]) rfl ?_); at_builtin; obtain ⟨ok, hR, hnew, hup⟩ := S.out.append 0 rfl; refine Kd.R_append (Kd.int .i64) (w0 := w) w.heap.size rfl (.tmp 148) (.tmp 150) 43 3 (.int .i64 0) 8 rfl Try.underlying43 info3 rfl (by decide) (by omega) u13 (wantOf fl x) (x : Int) [.int .i64 (x : Int)] ok (fun _ => False) rfl rfl (rfl) (fun _ h => h.elim) hnew hR S.out.below S.out.size (by have := wantOf_len fl x; omega) ?_; intro v151 w151 ho hb hg hat; replace S := Aside0.mk (hup _ w151 _ ho hb hg); clear hup hR hnew ho hb hg hat) | fail)
                go_roundg qx
                case measure => omega
                case rel => exact ⟨x + 1, rfl, ⟨by have := KX.out; omega⟩, ⟨by omega⟩, ⟨by rw [wantOf_succ, ← HVV.out, if_pos rfl]; exact S.out⟩⟩
              | false =>
                go_wp2
                go_roundg qx
                case measure => omega
                case rel => exact ⟨x + 1, rfl, ⟨by have := KX.out; omega⟩, ⟨by omega⟩, ⟨by rw [wantOf_succ, ← HVV.out, if_neg (by decide), List.append_nil]; exact S.out⟩⟩
            · obtain rfl : x = bs.length := by have := XL.out; omega
              have e2 : decide (bs.length < bs.length) = false := decide_eq_false (by omega)
              clear hx
              rw [HW.out] at S
              obtain ⟨A13, c13, e13, hc13, hC13⟩ := S.out.own_reads 0 rfl
              subst e13
              have HC13 := Aside0.mk hC13
              have HCC13 := Aside0.mk hc13
              have HSL : Aside0 ((sel (begins · p) bs bs.length).length ≤ 1000000000000) := ⟨by have := sel_len (begins · p) bs bs.length; omega⟩
              clear hC13 hc13
              replace S := Aside0.mk (S.out.drop 0)
              go_wp2_with (first | (go_at_call 20; have X_ := prefix_m S.out HI.out HS.out p; (with_reducible refine X_.mono ?_); clear X_; rintro e_ w20 ⟨v20, rfl, ho, hb⟩; replace HC13 := Aside0.mk (Kd.C_below HC13.out hb); obtain ⟨A20, c20, e20, hc20, hC20⟩ := Kd.R_reads ho; subst e20; have HC20 := Aside0.mk hC20; have HCC20 := Aside0.mk hc20; replace S := Aside0.mk (S.out.step hb); clear ho hb hC20 hc20) | (go_at_call 19; have X_ := ints_same (sel (begins · p) bs bs.length) HSL.out A20 c20 A13 c13 _ HC20.out HCC20.out HC13.out HCC13.out; (with_reducible refine X_.mono ?_); clear X_; rintro e_ w19 ⟨rfl, n_, rfl⟩; replace S := Aside0.mk (S.out.drewN n_)) | (go_at_call 9; (with_reducible refine (lives_ix _).mono ?_); rintro e_ w9 ⟨rfl, hb⟩; replace S := Aside0.mk (S.out.step hb); clear hb) | fail)
              go_ret
              exact ⟨rfl, S.out.below⟩
  · rw [Bool.eq_false_iff.2 hf] at hkF
    have HKF := Aside0.mk hkF
    clear hkF hf
    go_enter Try.func5, Try.ntmps5
    go_wp2_with (first | (go_at_call 8; have X_ := mapmakerlaw52_Few.calls kF A c bs false w HC.out HCC.out HKF.out; (with_reducible refine X_.mono ?_); clear X_; rintro e_ w8 ⟨rfl, hdn⟩; obtain ⟨n8, rfl⟩ := hdn.out; replace S := Aside0.mk (S.out.drewN n8); clear hdn) | (go_at_call 9; (with_reducible refine (lives_ix _).mono ?_); rintro e_ w9 ⟨rfl, hb⟩; replace S := Aside0.mk (S.out.step hb); clear hb) | fail)
    go_ret
    exact ⟨rfl, S.out.below⟩
end Go.Proofs.Ytpfmebpalejadaa.Hand
