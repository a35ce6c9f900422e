import Derived.Test.YtpfmebpalejadaaP8
namespace Go.Proofs.Ytpfmebpalejadaa.Hand
open Go.Proofs.YtpfmebpalejadaaW Go.RowKit Go.Proofs.YtpfmebpalejadaaW.PrintWords Go.Proofs.YtpfmebpalejadaaW.PrintLast Go.Proofs.YtpfmebpalejadaaW.PrintMore Go.Proofs.YtpfmebpalejadaaW.SepW Go.Proofs.Ytpfmebpalejadaa.PALL Go.Proofs.Ytpfmebpalejadaa.Plain
set_option linter.unusedVariables false
set_option linter.unusedSimpArgs false

/-- A row of rows of words that is read alone: some of it came in, some of it was made. -/
def VT (w0 : World) (A : Option Addr) (c : Nat) (bs : List (List ByteArray)) : Thing w0.heap.size where
  P := fun w ok => bs.length ≤ c ∧ ∃ (wf : World) (ok1 : Nat → Prop), (∀ k, ok1 k → ok k ∧ w0.heap.size ≤ k ∧ k < w.heap.size ∧ w.heap[k]? = wf.heap[k]?) ∧ Below w0.heap.size w0 wf ∧ Kd.F (Kd.slice 9 Kd.string) wf (fun k => ok1 k ∨ k < w0.heap.size) A bs.length bs
  mono := fun h ⟨hc, wf, ok1, h1, h2, h3⟩ => ⟨hc, wf, ok1, fun k hk => ⟨h _ (h1 k hk).1, (h1 k hk).2⟩, h2, h3⟩
  bound := fun ⟨hc, wf, ok1, h1, h2, h3⟩ => ⟨hc, wf, ok1, fun k hk => ⟨⟨(h1 k hk).1, (h1 k hk).2.1, (h1 k hk).2.2.1⟩, (h1 k hk).2⟩, h2, h3⟩
  move := fun h ⟨hc, wf, ok1, h1, h2, h3⟩ => ⟨hc, wf, ok1, fun k hk => by
    obtain ⟨q1, q2, q3, q4⟩ := h1 k hk
    have e := h k q1
    refine ⟨q1, q2, ?_, e.trans q4⟩
    rw [Array.getElem?_eq_getElem q3] at e
    exact (Array.getElem?_eq_some_iff.1 e).1, h2, h3⟩
theorem VT_F {w0 w : World} {ok : Nat → Prop} {A : Option Addr} {c : Nat} {bs : List (List ByteArray)} (hb : Below w0.heap.size w0 w) (h : (VT w0 A c bs).P w ok) : bs.length ≤ c ∧ ∃ ok1 : Nat → Prop, (∀ k, ok1 k → ok k ∧ w0.heap.size ≤ k ∧ k < w.heap.size) ∧ Kd.F (Kd.slice 9 Kd.string) w (fun k => ok1 k ∨ k < w0.heap.size) A bs.length bs := by
  obtain ⟨hc, wf, ok1, h1, h2, h3⟩ := h
  refine ⟨hc, ok1, fun k hk => ⟨(h1 k hk).1, (h1 k hk).2.1, (h1 k hk).2.2.1⟩, Kd.F_step h3 (fun k hk _ => ?_)⟩
  rcases hk with hk | hk
  · exact (h1 k hk).2.2.2
  · exact (hb.block k hk).trans (h2.block k hk).symm
theorem VT_now {w0 w : World} {L : List (Thing w0.heap.size)} {A : Option Addr} {c : Nat} {bs : List (List ByteArray)} (S : Sep w0 w L) (n : Nat) (h : L[n]? = some (VT w0 A c bs)) : Kd.C (Kd.slice 9 Kd.string) w A bs.length bs := by
  obtain ⟨ok, hp⟩ := SepI.get n S.items h
  obtain ⟨_, ok1, _, hf⟩ := VT_F S.below hp
  exact Kd.F_now hf
theorem VT_cap {w0 w : World} {L : List (Thing w0.heap.size)} {A : Option Addr} {c : Nat} {bs : List (List ByteArray)} (S : Sep w0 w L) (n : Nat) (h : L[n]? = some (VT w0 A c bs)) : bs.length ≤ c := by
  obtain ⟨ok, hp⟩ := SepI.get n S.items h
  exact (VT_F S.below hp).1
theorem VT_start {w0 w : World} {L : List (Thing w0.heap.size)} (S : Sep w0 w L) {A : Option Addr} {c : Nat} {bs : List (List ByteArray)} (hC : Kd.C (Kd.slice 9 Kd.string) w0 A bs.length bs) (hc : bs.length ≤ c) : Sep w0 w (VT w0 A c bs :: L) :=
  S.new (Below.refl _ _) (i := VT w0 A c bs) ⟨hc, w0, fun _ => False, fun _ hk => hk.elim, Below.refl _ _, Kd.F_mono (Kd.C_F (Kd.heap_slice 9 Kd.heap_string) hC) (fun k hk => .inr hk)⟩
theorem rset_step {w0 w : World} {L : List (Thing w0.heap.size)} (S : Sep w0 w L) (n : Nat) {A : Option Addr} {c : Nat} {bs : List (List ByteArray)} (h : L[n]? = some (VT w0 A c bs)) (d : Int) (Ai : Option Addr) (ci : Nat) (l : List ByteArray) (hci : l.length ≤ ci) (hl : Kd.string.C w0 Ai l.length l) (k : Nat) (hk : mapmakerref52_Set.f k bs d l = some ((setR bs d l).1, (setR bs d l).2)) :
    Calls Try.prog 13 #[.slice A bs.length c, .int .i64 d, .slice Ai l.length ci] w fun e w' => ∃ A' c', e = .returned (.tuple #[.slice A' (setR bs d l).1.length c', .bool (setR bs d l).2]) ∧ Sep w0 w' (L.set n (VT w0 A' c' (setR bs d l).1)) := by
  obtain ⟨ok, h1, hp, hu⟩ := SepI.upd n S.items h
  obtain ⟨hc, ok1, hk1, hf⟩ := VT_F S.below hp
  have hfl : Kd.F Kd.string w (fun k => k < w0.heap.size) Ai l.length l := Kd.F_step (Kd.C_F Kd.heap_string hl) (fun k hk _ => S.below.block k hk)
  refine (mapmakerref52_Set.calls k _ A c bs d _ Ai ci l _ _ w (Kd.V_mk hc hf) (Kd.V_mk hci hfl) hk).mono ?_
  rintro e w' ⟨v0, rfl, hV, hb⟩
  obtain ⟨A', c', rfl, hc', hF⟩ := hV
  refine ⟨A', c', rfl, below_step S.below hb, hu w' _ hb.size (fun k _ hlt _ => hb.block k hlt) (fun _ _ => trivial) ⟨hc', w', fun k => (ok1 k ∨ w.heap.size ≤ k) ∧ k < w'.heap.size, fun k hk => ⟨?_, ?_, hk.2, rfl⟩, below_step S.below hb, Kd.F_mono (Kd.F_bound hF) (fun k hk => ?_)⟩⟩
  · rcases hk.1 with hk' | hk'
    · exact .inl (hk1 k hk').1
    · exact .inr hk'
  · rcases hk.1 with hk' | hk'
    · exact (hk1 k hk').2.1
    · have := S.size; omega
  · rcases hk with ⟨((hk' | hk') | hk') | hk', hlt⟩
    · exact .inl ⟨.inl hk', hlt⟩
    · exact .inr hk'
    · exact .inr hk'
    · exact .inl ⟨.inr hk', hlt⟩
theorem set_d {w0 w : World} {L : List (Thing w0.heap.size)} {g : Nat} {wv dv bv : Value} {dvs bvs : List Value} {m : List (ByteArray × List Int)} {bs : List (List ByteArray)}
    (S : Sep w0 w (IxL _ g wv dv bv dvs m (Hdr _ 33 bv bvs :: FzN _ bvs (bs.map pw_strs) :: L))) (hI : Inv m (RB bs)) (d : Int) (hd : 0 ≤ d ∧ d ≤ bs.length) (hs : Small (grow bs d.toNat)) (A : Option Addr) (c : Nat) (l : List ByteArray) (hq : RowIn w0 L A l) (hcap : l.length ≤ c) (hl : l.length ≤ 1000) :
    Calls Try.prog 14 #[.pointer (some ⟨g, 0, none⟩), .int .i64 d, .slice A l.length c] w fun e w' => e = .returned (.bool true) ∧ ∃ wv' dv' bv' dvs' bvs' m', Inv m' (RB (setR bs d l).1) ∧ Sep w0 w' (IxL _ g wv' dv' bv' dvs' m' (Hdr _ 33 bv' bvs' :: FzN _ bvs' ((setR bs d l).1.map pw_strs) :: L)) := by
  have e : (setR bs d l).1 = (grow bs d.toNat).set d.toNat l := by unfold setR; rw [if_pos hd]
  rw [e]
  have := set_yes S hI d.toNat (by omega) hs A c l hq hcap hl
  rwa [show ((d.toNat : Nat) : Int) = d by omega] at this
theorem small30 {bs : List (List ByteArray)} (h : bs.length ≤ 40) (h2 : ∀ l ∈ bs, l.length ≤ 30) : Small bs := ⟨by omega, fun l hl => by have := h2 l hl; omega⟩
theorem small_grow30 {bs : List (List ByteArray)} (h : bs.length ≤ 40) (h2 : ∀ l ∈ bs, l.length ≤ 30) (D : Nat) : Small (grow bs D) := by
  unfold grow
  split
  · refine ⟨by simp; omega, fun l hl => ?_⟩
    rcases List.mem_append.1 hl with hl | hl
    · have := h2 l hl; omega
    · rw [List.mem_singleton.1 hl]; simp
  · exact small30 h h2
def st9_T : Bool × List (List Nat × List Nat) := (true, [([], []), ([], []), ([], []), ([1, 2], [1, 2]), ([3], [3]), ([4], [4]), ([], []), ([], []), ([6, 7], [6, 7]), ([8], [8]), ([9], [9]), ([0, 5, 10], [0, 5, 10]), ([11], [11]), ([12], [12]), ([12], [12]), ([13, 11, 0, 1, 2, 3, 4, 5, 6, 7, 8, 9, 10, 11, 12, 13], [13]), ([14, 15, 0, 1, 2, 3, 4, 5, 6, 7, 8, 9, 10, 11, 12, 13, 14, 15], [14])])
def st9_B : List Nat := [0, 0, 0, 6, 14, 30, 0, 0, 192, 448, 960, 2047, 4095, 8191, 8191, 16383, 65535]
theorem st9_tab : rtab .any (opsOf Try.f4 9) = st9_T := by kernel_rfl
theorem st9_bits : waitsOk st9_T.2 st9_B = true := by kernel_rfl
def st11_T : Bool × List (List Nat × List Nat) := (true, [([], []), ([], []), ([], []), ([1, 2], [1, 2]), ([3], [3]), ([4], [4]), ([], []), ([], []), ([6, 7], [6, 7]), ([8], [8]), ([9], [9]), ([0, 5, 10], [0, 5, 10]), ([], []), ([11, 12], [11, 12])])
def st11_B : List Nat := [0, 0, 0, 6, 14, 30, 0, 0, 192, 448, 960, 2047, 0, 8191]
theorem st11_tab : rtab .any (opsOf Try.f4 11) = st11_T := by kernel_rfl
theorem st11_bits : waitsOk st11_T.2 st11_B = true := by kernel_rfl
set_option maxHeartbeats 8000000 in
set_option maxRecDepth 100000 in
theorem sets_law (bs : List (List ByteArray)) (os : List S35) (p : ByteArray) (A : Option Addr) (c : Nat) (A1 : Option Addr) (c1 : Nat) (w : World) (hC : Kd.C (Kd.slice 9 Kd.string) w A bs.length bs) (hc : bs.length ≤ c) (hO : Kd.C k35 w A1 os.length os) (hoc : os.length ≤ c1) (hp : p.size ≤ 140737488351232) :
    Calls Try.prog 4 #[.slice A bs.length c, .slice A1 os.length c1, .string p] w fun e w' => e = .returned (.bool true) ∧ Below w.heap.size w w' := by
  obtain ⟨kF, hkF⟩ := few_ev bs
  obtain ⟨kO, hkO⟩ := ops_ev os
  have HC := Aside0.mk hC
  have HCC := Aside0.mk hc
  have HO := Aside0.mk hO
  have HOC := Aside0.mk hoc
  have S := Aside0.mk (Sep.start w)
  by_cases hf : fewB bs = true
  · have HS := Aside0.mk (few_small hf)
    have HB0 := Aside0.mk (fewB_small hf)
    rw [hf] at hkF
    have HKF := Aside0.mk hkF
    clear hkF hf
    by_cases hfo : opsB os = true
    · have HOL := Aside0.mk (opsB_small hfo)
      rw [hfo] at hkO
      have HKO := Aside0.mk hkO
      clear hkO hfo
      by_cases hq : (p.size : Int) > 40
      · have d0 : decide (40 < (p.size : Int)) = true := decide_eq_true hq
        have d1 : decide (40 < p.size) = true := decide_eq_true (by omega)
        clear hq hC hc hO hoc
        go_enter Try.func4, Try.ntmps4
        go_wp2_with (first | (go_at_call 8; have X_ := mapmakerlaw52_Few.calls kF A c bs true w HC.out HCC.out HKF.out; (with_reducible refine X_.mono ?_); clear X_; rintro e_ w8 ⟨rfl, hdn⟩; obtain ⟨n8, rfl⟩ := hdn.out; replace S := Aside0.mk (S.out.drewN n8); clear hdn) | (go_at_call 12; have X_ := mapmakerlaw52_ops.calls kO A1 c1 os true _ (Kd.C_below HO.out S.out.below) HOC.out HKO.out; (with_reducible refine X_.mono ?_); clear X_; rintro e_ w21 ⟨rfl, hdn⟩; obtain ⟨n21, rfl⟩ := hdn.out; replace S := Aside0.mk (show Sep w (w.drewN (n8 + n21)) [] from drewN_drewN w n8 n21 ▸ S.out.drewN n21); clear hdn) | (go_at_call 9; (with_reducible refine (lives_ix _).mono ?_); rintro e_ w9 ⟨rfl, hb⟩; replace S := Aside0.mk (S.out.step hb); clear hb) | fail)
        go_ret
        exact ⟨rfl, S.out.below⟩
      · have d0 : decide (40 < (p.size : Int)) = false := decide_eq_false hq
        have d1 : decide (40 < p.size) = false := decide_eq_false (by omega)
        obtain ⟨vs, hv⟩ := docs_of_C (w0 := w) [VT w A c bs] hC
        have HV := Aside0.mk hv
        clear hq hC hc hO hoc hv
        have hol : os.length ≤ 20 := HOL.out.1
        go_enter Try.func4, Try.ntmps4
        go_upto_region 3 with (first | (go_at_call 8; have X_ := mapmakerlaw52_Few.calls kF A c bs true w HC.out HCC.out HKF.out; (with_reducible refine X_.mono ?_); clear X_; rintro e_ w8 ⟨rfl, hdn⟩; obtain ⟨n8, rfl⟩ := hdn.out; replace S := Aside0.mk (S.out.drewN n8); clear hdn) | (go_at_call 12; have X_ := mapmakerlaw52_ops.calls kO A1 c1 os true _ (Kd.C_below HO.out S.out.below) HOC.out HKO.out; (with_reducible refine X_.mono ?_); clear X_; rintro e_ w21 ⟨rfl, hdn⟩; obtain ⟨n21, rfl⟩ := hdn.out; replace S := Aside0.mk (show Sep w (w.drewN (n8 + n21)) [] from drewN_drewN w n8 n21 ▸ S.out.drewN n21); clear hdn) | fail)
        replace S := Aside0.mk (VT_start S.out HC.out HCC.out)
        go_upto_region 7 with (first | (go_at_call 11; have X_ := new_ix S.out A c bs vs HV.out HS.out; (with_reducible refine X_.mono ?_); clear X_; rintro e_ w11 ⟨g, wv, dv, bv, dvs, bvs, m, rfl, hI, hS⟩; have HI := Aside0.mk hI; replace S := Aside0.mk hS; clear hI hS) | fail)
        go_loopg [0, 8] (os.length + 1) (fun kq v0 v8 w' => ∃ (i : Nat) (A0 : Option Addr) (c0 : Nat) (bs1 : List (List ByteArray)) (wv dv bv : Value) (dvs bvs : List Value) (m : List (ByteArray × List Int)), v8 = .int .i64 i ∧ v0 = .slice A0 bs1.length c0 ∧ Aside0 (kq + i = os.length + 1) ∧ Aside0 (i ≤ os.length) ∧ Aside0 (bs1.length ≤ 20 + i ∧ ∀ l ∈ bs1, l.length ≤ 30) ∧ Aside0 (Inv m (RB bs1)) ∧ Aside0 (Sep w w' (IxL _ g wv dv bv dvs m (Hdr _ 33 bv bvs :: FzN _ bvs (bs1.map pw_strs) :: [VT w A0 c0 bs1]))))
        case atStart => exact ⟨0, A, c, bs, wv, dv, bv, dvs, bvs, m, rfl, rfl, ⟨rfl⟩, ⟨Nat.zero_le _⟩, HB0, HI, S⟩
        case round =>
          clear S HI
          obtain ⟨i, A0, c0, bs1, wv, dv, bv, dvs, bvs, m, rfl, rfl, KQ, IL, B1, HI, S⟩ := hrel
          cases gk with
          | zero => exact absurd KQ.out (by have := IL.out; omega)
          | succ qq =>
          by_cases hi : i < os.length
          · have p0 : (0 : Int) ≤ (i : Int) := by omega
            have p1 : (i : Int) < (os.length : Int) := by omega
            have d2 := decide_eq_true p1
            have d2' : decide (i < os.length) = true := decide_eq_true hi
            obtain ⟨ad, Ai, ci, ead, hc1, hc2, hci, hcC⟩ := at_T35 HO.out (i : Int) p0 p1
            rw [rdT os i hi, show ((i : Int)).toNat = i by omega] at hc1 hc2
            rw [rdT os i hi] at hci hcC
            subst ead
            have HR := Aside0.mk hcC
            have HCI := Aside0.mk hci
            have HLI' := HOL.out.2 os[i] (List.getElem_mem hi)
            obtain ⟨d, hd⟩ : ∃ d, d = os[i].f0 := ⟨_, rfl⟩
            obtain ⟨l, hl⟩ : ∃ l, l = os[i].f1 := ⟨_, rfl⟩
            rw [← hd] at hc1
            rw [← hl] at hc2 HR HCI HLI'
            have HLI : Aside0 (l.length ≤ 1000) := ⟨by omega⟩
            have HL30 := Aside0.mk HLI'
            obtain ⟨kS, hkS⟩ := rset_ev bs1 (by have := B1.out.1; omega) d l
            have HKS := Aside0.mk hkS
            have HM := Aside0.mk (setR_mem (d := d) B1.out.2 HLI')
            have HML := Aside0.mk (setR_len bs1 d l)
            have HC1 := Aside0.mk hc1
            have HC2 := Aside0.mk hc2
            have k1 := pw_cell_below S.out.below hc1
            have k2 := pw_cell_below S.out.below hc2
            clear hcC hci HLI' hd hl hkS
            go_upto_region 9 with fail
            refine start_ (n := 17) (S := fun w' => w'.cell? (ad.add (i * 2)) = some (.int .i64 d) ∧ w'.cell? ⟨(ad.add (i * 2)).block, (ad.add (i * 2)).off + 1, none⟩ = some (.slice Ai l.length ci)) (ds := [11]) #[false, false, false, false, false, false, false, false, false, false, false, false, false, false, false, false, false] (by kernel_rfl) rfl rfl ⟨k1, k2⟩ (fun hHeld => ?_); refine with_tabW st9_tab st9_bits (fun HT_ HW_ => ?_)
            have HBW := Aside0.mk (below_drew (Below.refl wr.heap.size wr))
            generalize wr.drew = W8 at HBW hHeld ⊢
            replace S := Aside0.mk (S.out.step HBW.out)
            refine pure_ (i := 0) (N := some 36) (v := ?_) (a' := ?_) #[true, false, false, false, false, false, false, false, false, false, false, false, false, false, false, false, false] rfl rfl (any_of HT_.out (by kernel_rfl)) (fun _ _ _ h => h) (Or.inl ⟨by rfl, ?_⟩) ?_ ?_
            rotate_left
            · intro w'
              go_simp
              with_reducible rfl
            rotate_left
            · simp only [Act.put, List.setIfInBounds_toArray, List.set_cons_zero, List.set_cons_succ, i64_w, i32_w]
              rfl
            refine pure_ (i := 1) (N := some 37) (v := ?_) (a' := ?_) #[true, true, false, false, false, false, false, false, false, false, false, false, false, false, false, false, false] rfl rfl (any_of HT_.out (by kernel_rfl)) (fun _ _ _ h => h) (Or.inl ⟨by rfl, ?_⟩) ?_ ?_
            rotate_left
            · intro w'
              go_simp
              with_reducible rfl
            rotate_left
            · simp only [Act.put, List.setIfInBounds_toArray, List.set_cons_zero, List.set_cons_succ, i64_w, i32_w]
              rfl
            refine pure_ (i := 2) (N := some 38) (v := ?_) (a' := ?_) #[true, true, true, false, false, false, false, false, false, false, false, false, false, false, false, false, false] rfl rfl (any_of HT_.out (by kernel_rfl)) (fun _ _ _ h => h) (Or.inl ⟨by rfl, ?_⟩) ?_ ?_
            rotate_left
            · intro w'
              go_simp
              with_reducible rfl
            rotate_left
            · simp only [Act.put, List.setIfInBounds_toArray, List.set_cons_zero, List.set_cons_succ, i64_w, i32_w]
              rfl
            refine pure_ (i := 3) (N := some 39) (v := ?_) (a' := ?_) #[true, true, true, true, false, false, false, false, false, false, false, false, false, false, false, false, false] rfl rfl (any_of HT_.out (by kernel_rfl)) (fun _ _ _ h => h) (Or.inl ⟨by rfl, ?_⟩) ?_ ?_
            rotate_left
            · intro w'
              go_simp
              with_reducible rfl
            rotate_left
            · simp only [Act.put, List.setIfInBounds_toArray, List.set_cons_zero, List.set_cons_succ, i64_w, i32_w]
              rfl
            refine pure_ (i := 4) (N := some 40) (v := ?_) (a' := ?_) #[true, true, true, true, true, false, false, false, false, false, false, false, false, false, false, false, false] rfl rfl (any_of HT_.out (by kernel_rfl)) (fun _ _ _ h => h) (Or.inl ⟨by rfl, ?_⟩) ?_ ?_
            rotate_left
            · intro w'
              go_simp
              with_reducible rfl
            rotate_left
            · simp only [Act.put, List.setIfInBounds_toArray, List.set_cons_zero, List.set_cons_succ, i64_w, i32_w]
              rfl
            refine pure_ (i := 6) (N := some 42) (v := ?_) (a' := ?_) #[true, true, true, true, true, false, true, false, false, false, false, false, false, false, false, false, false] rfl rfl (any_of HT_.out (by kernel_rfl)) (fun _ _ _ h => h) (Or.inl ⟨by rfl, ?_⟩) ?_ ?_
            rotate_left
            · intro w'
              go_simp
              with_reducible rfl
            rotate_left
            · simp only [Act.put, List.setIfInBounds_toArray, List.set_cons_zero, List.set_cons_succ, i64_w, i32_w]
              rfl
            refine pure_ (i := 7) (N := some 43) (v := ?_) (a' := ?_) #[true, true, true, true, true, false, true, true, false, false, false, false, false, false, false, false, false] rfl rfl (any_of HT_.out (by kernel_rfl)) (fun _ _ _ h => h) (Or.inl ⟨by rfl, ?_⟩) ?_ ?_
            rotate_left
            · intro w'
              go_simp
              with_reducible rfl
            rotate_left
            · simp only [Act.put, List.setIfInBounds_toArray, List.set_cons_zero, List.set_cons_succ, i64_w, i32_w]
              rfl
            refine pure_ (i := 8) (N := some 44) (v := ?_) (a' := ?_) #[true, true, true, true, true, false, true, true, true, false, false, false, false, false, false, false, false] rfl rfl (any_of HT_.out (by kernel_rfl)) (fun _ _ _ h => h) (Or.inl ⟨by rfl, ?_⟩) ?_ ?_
            rotate_left
            · intro w'
              go_simp
              with_reducible rfl
            rotate_left
            · simp only [Act.put, List.setIfInBounds_toArray, List.set_cons_zero, List.set_cons_succ, i64_w, i32_w]
              rfl
            refine pure_ (i := 9) (N := some 45) (v := ?_) (a' := ?_) #[true, true, true, true, true, false, true, true, true, true, false, false, false, false, false, false, false] rfl rfl (any_of HT_.out (by kernel_rfl)) (fun _ _ _ h => h) (Or.inl ⟨by rfl, ?_⟩) ?_ ?_
            rotate_left
            · intro w'
              go_simp
              with_reducible rfl
            rotate_left
            · simp only [Act.put, List.setIfInBounds_toArray, List.set_cons_zero, List.set_cons_succ, i64_w, i32_w]
              rfl
            refine take_ (i := 5) (N := some 41) (v := ?_) (a' := ?_) #[true, true, true, true, true, true, true, true, true, true, false, false, false, false, false, false, false] rfl rfl (take_ofW HT_.out HW_.out (by kernel_rfl)) (fun _ _ _ h => h) (Or.inl ⟨by rfl, ?_⟩) hHeld ?_ ?_
            rotate_left
            · rintro w' ⟨s0, s1⟩
              go_simp
              with_reducible rfl
            rotate_left
            · simp only [Act.put, List.setIfInBounds_toArray, List.set_cons_zero, List.set_cons_succ, i64_w, i32_w]
              rfl
            refine take_ (i := 10) (N := some 46) (v := ?_) (a' := ?_) #[true, true, true, true, true, true, true, true, true, true, true, false, false, false, false, false, false] rfl rfl (take_ofW HT_.out HW_.out (by kernel_rfl)) (fun _ _ _ h => h) (Or.inl ⟨by rfl, ?_⟩) hHeld ?_ ?_
            rotate_left
            · rintro w' ⟨s0, s1⟩
              go_simp
              with_reducible rfl
            rotate_left
            · simp only [Act.put, List.setIfInBounds_toArray, List.set_cons_zero, List.set_cons_succ, i64_w, i32_w]
              rfl
            refine last_ (i := 11) (N := some 47) #[true, true, true, true, true, true, true, true, true, true, true, true, false, false, false, false, false] rfl rfl (one_of HT_.out (by kernel_rfl)) (by decide) (fun K hK => ?_)
            refine goes_ Try.func13 (by kernel_rfl) rfl #[.slice A0 bs1.length c0, .int .i64 d, .slice Ai l.length ci] (by rfl) rfl rfl (by (try simp only [List.map_toArray, List.map_cons, List.map_nil]); first | done | rfl) ?_
            with_reducible refine (rset_step S.out 6 rfl d Ai ci l HCI.out HR.out kS HKS.out).mono ?_
            rintro e w47 ⟨A2, c2, rfl, hS⟩
            refine ⟨_, rfl, ?_⟩
            replace S := Aside0.mk hS
            have q1 := (S.out.below.cell (World.block_lt_of_cell? w _ hc1)).trans hc1
            have q2 := (S.out.below.cell (World.block_lt_of_cell? w _ hc2)).trans hc2
            clear hS
            refine hK.out _ _ ?_
            clear hK K
            refine norm_ (a' := ?_) ?_ ?_
            rotate_left
            · show Act.put _ (some 47) _ = _
              simp only [Act.put, List.setIfInBounds_toArray, List.set_cons_zero, List.set_cons_succ, i64_w, i32_w]
              rfl
            refine pure_ (i := 12) (N := some 35) (v := ?_) (a' := ?_) #[true, true, true, true, true, true, true, true, true, true, true, true, true, false, false, false, false] rfl rfl (any_of HT_.out (by kernel_rfl)) (fun _ _ _ h => h) (Or.inl ⟨by rfl, ?_⟩) ?_ ?_
            rotate_left
            · intro w'
              go_simp
              with_reducible rfl
            rotate_left
            · simp only [Act.put, List.setIfInBounds_toArray, List.set_cons_zero, List.set_cons_succ, i64_w, i32_w]
              rfl
            refine pure_ (i := 13) (N := some 48) (v := ?_) (a' := ?_) #[true, true, true, true, true, true, true, true, true, true, true, true, true, true, false, false, false] rfl rfl (any_of HT_.out (by kernel_rfl)) (fun _ _ _ h => h) (Or.inl ⟨by rfl, ?_⟩) ?_ ?_
            rotate_left
            · intro w'
              go_simp
              with_reducible rfl
            rotate_left
            · simp only [Act.put, List.setIfInBounds_toArray, List.set_cons_zero, List.set_cons_succ, i64_w, i32_w]
              rfl
            refine pure_ (i := 14) (N := some 49) (v := ?_) (a' := ?_) #[true, true, true, true, true, true, true, true, true, true, true, true, true, true, true, false, false] rfl rfl (any_of HT_.out (by kernel_rfl)) (fun _ _ _ h => h) (Or.inl ⟨by rfl, ?_⟩) ?_ ?_
            rotate_left
            · intro w'
              go_simp
              with_reducible rfl
            rotate_left
            · simp only [Act.put, List.setIfInBounds_toArray, List.set_cons_zero, List.set_cons_succ, i64_w, i32_w]
              rfl
            refine pure_ (i := 15) (N := some 9) (v := ?_) (a' := ?_) #[true, true, true, true, true, true, true, true, true, true, true, true, true, true, true, true, false] rfl rfl (any_of HT_.out (by kernel_rfl)) (fun _ _ _ h => h) (Or.inl ⟨by rfl, ?_⟩) ?_ ?_
            rotate_left
            · intro w'
              go_simp
              with_reducible rfl
            rotate_left
            · simp only [Act.put, List.setIfInBounds_toArray, List.set_cons_zero, List.set_cons_succ, i64_w, i32_w]
              rfl
            refine pure_ (i := 16) (N := some 10) (v := ?_) (a' := ?_) #[true, true, true, true, true, true, true, true, true, true, true, true, true, true, true, true, true] rfl rfl (any_of HT_.out (by kernel_rfl)) (fun _ _ _ h => h) (Or.inl ⟨by rfl, ?_⟩) ?_ ?_
            rotate_left
            · intro w'
              go_simp
              with_reducible rfl
            rotate_left
            · simp only [Act.put, List.setIfInBounds_toArray, List.set_cons_zero, List.set_cons_succ, i64_w, i32_w]
              rfl
            refine done_ (done_of HT_.out (by kernel_rfl)) ?_
            clear k1 k2 hc1 hc2
            by_cases hdd : 0 ≤ d ∧ d ≤ bs1.length
            · have HDY := Aside0.mk hdd
              have e2 : (setR bs1 d l).2 = true := by unfold setR; rw [if_pos hdd]
              have HSG := Aside0.mk (small_grow30 (by have := B1.out.1; omega) B1.out.2 d.toNat)
              rw [e2]
              clear hdd e2
              go_upto_region 11 with fail
              refine start_ (n := 14) (S := fun w' => w'.cell? (ad.add (i * 2)) = some (.int .i64 d) ∧ w'.cell? ⟨(ad.add (i * 2)).block, (ad.add (i * 2)).off + 1, none⟩ = some (.slice Ai l.length ci)) (ds := [11]) #[false, false, false, false, false, false, false, false, false, false, false, false, false, false] (by kernel_rfl) rfl rfl ⟨q1, q2⟩ (fun hHeld => ?_); refine with_tabW st11_tab st11_bits (fun HT_ HW_ => ?_)
              have HBW := Aside0.mk (below_drew (Below.refl w47.heap.size w47))
              generalize w47.drew = W9 at HBW hHeld ⊢
              replace S := Aside0.mk (S.out.step HBW.out)
              refine pure_ (i := 0) (N := some 51) (v := ?_) (a' := ?_) #[true, false, false, false, false, false, false, false, false, false, false, false, false, false] rfl rfl (any_of HT_.out (by kernel_rfl)) (fun _ _ _ h => h) (Or.inl ⟨by rfl, ?_⟩) ?_ ?_
              rotate_left
              · intro w'
                go_simp
                with_reducible rfl
              rotate_left
              · simp only [Act.put, List.setIfInBounds_toArray, List.set_cons_zero, List.set_cons_succ, i64_w, i32_w]
                rfl
              refine pure_ (i := 1) (N := some 52) (v := ?_) (a' := ?_) #[true, true, false, false, false, false, false, false, false, false, false, false, false, false] rfl rfl (any_of HT_.out (by kernel_rfl)) (fun _ _ _ h => h) (Or.inl ⟨by rfl, ?_⟩) ?_ ?_
              rotate_left
              · intro w'
                go_simp
                with_reducible rfl
              rotate_left
              · simp only [Act.put, List.setIfInBounds_toArray, List.set_cons_zero, List.set_cons_succ, i64_w, i32_w]
                rfl
              refine pure_ (i := 2) (N := some 53) (v := ?_) (a' := ?_) #[true, true, true, false, false, false, false, false, false, false, false, false, false, false] rfl rfl (any_of HT_.out (by kernel_rfl)) (fun _ _ _ h => h) (Or.inl ⟨by rfl, ?_⟩) ?_ ?_
              rotate_left
              · intro w'
                go_simp
                with_reducible rfl
              rotate_left
              · simp only [Act.put, List.setIfInBounds_toArray, List.set_cons_zero, List.set_cons_succ, i64_w, i32_w]
                rfl
              refine pure_ (i := 3) (N := some 54) (v := ?_) (a' := ?_) #[true, true, true, true, false, false, false, false, false, false, false, false, false, false] rfl rfl (any_of HT_.out (by kernel_rfl)) (fun _ _ _ h => h) (Or.inl ⟨by rfl, ?_⟩) ?_ ?_
              rotate_left
              · intro w'
                go_simp
                with_reducible rfl
              rotate_left
              · simp only [Act.put, List.setIfInBounds_toArray, List.set_cons_zero, List.set_cons_succ, i64_w, i32_w]
                rfl
              refine pure_ (i := 4) (N := some 55) (v := ?_) (a' := ?_) #[true, true, true, true, true, false, false, false, false, false, false, false, false, false] rfl rfl (any_of HT_.out (by kernel_rfl)) (fun _ _ _ h => h) (Or.inl ⟨by rfl, ?_⟩) ?_ ?_
              rotate_left
              · intro w'
                go_simp
                with_reducible rfl
              rotate_left
              · simp only [Act.put, List.setIfInBounds_toArray, List.set_cons_zero, List.set_cons_succ, i64_w, i32_w]
                rfl
              refine pure_ (i := 6) (N := some 57) (v := ?_) (a' := ?_) #[true, true, true, true, true, false, true, false, false, false, false, false, false, false] rfl rfl (any_of HT_.out (by kernel_rfl)) (fun _ _ _ h => h) (Or.inl ⟨by rfl, ?_⟩) ?_ ?_
              rotate_left
              · intro w'
                go_simp
                with_reducible rfl
              rotate_left
              · simp only [Act.put, List.setIfInBounds_toArray, List.set_cons_zero, List.set_cons_succ, i64_w, i32_w]
                rfl
              refine pure_ (i := 7) (N := some 58) (v := ?_) (a' := ?_) #[true, true, true, true, true, false, true, true, false, false, false, false, false, false] rfl rfl (any_of HT_.out (by kernel_rfl)) (fun _ _ _ h => h) (Or.inl ⟨by rfl, ?_⟩) ?_ ?_
              rotate_left
              · intro w'
                go_simp
                with_reducible rfl
              rotate_left
              · simp only [Act.put, List.setIfInBounds_toArray, List.set_cons_zero, List.set_cons_succ, i64_w, i32_w]
                rfl
              refine pure_ (i := 8) (N := some 59) (v := ?_) (a' := ?_) #[true, true, true, true, true, false, true, true, true, false, false, false, false, false] rfl rfl (any_of HT_.out (by kernel_rfl)) (fun _ _ _ h => h) (Or.inl ⟨by rfl, ?_⟩) ?_ ?_
              rotate_left
              · intro w'
                go_simp
                with_reducible rfl
              rotate_left
              · simp only [Act.put, List.setIfInBounds_toArray, List.set_cons_zero, List.set_cons_succ, i64_w, i32_w]
                rfl
              refine pure_ (i := 9) (N := some 60) (v := ?_) (a' := ?_) #[true, true, true, true, true, false, true, true, true, true, false, false, false, false] rfl rfl (any_of HT_.out (by kernel_rfl)) (fun _ _ _ h => h) (Or.inl ⟨by rfl, ?_⟩) ?_ ?_
              rotate_left
              · intro w'
                go_simp
                with_reducible rfl
              rotate_left
              · simp only [Act.put, List.setIfInBounds_toArray, List.set_cons_zero, List.set_cons_succ, i64_w, i32_w]
                rfl
              refine pure_ (i := 12) (N := some 63) (v := ?_) (a' := ?_) #[true, true, true, true, true, false, true, true, true, true, false, false, true, false] rfl rfl (any_of HT_.out (by kernel_rfl)) (fun _ _ _ h => h) (Or.inl ⟨by rfl, ?_⟩) ?_ ?_
              rotate_left
              · intro w'
                go_simp
                with_reducible rfl
              rotate_left
              · simp only [Act.put, List.setIfInBounds_toArray, List.set_cons_zero, List.set_cons_succ, i64_w, i32_w]
                rfl
              refine take_ (i := 5) (N := some 56) (v := ?_) (a' := ?_) #[true, true, true, true, true, true, true, true, true, true, false, false, true, false] rfl rfl (take_ofW HT_.out HW_.out (by kernel_rfl)) (fun _ _ _ h => h) (Or.inl ⟨by rfl, ?_⟩) hHeld ?_ ?_
              rotate_left
              · rintro w' ⟨s0, s1⟩
                go_simp
                with_reducible rfl
              rotate_left
              · simp only [Act.put, List.setIfInBounds_toArray, List.set_cons_zero, List.set_cons_succ, i64_w, i32_w]
                rfl
              refine take_ (i := 10) (N := some 61) (v := ?_) (a' := ?_) #[true, true, true, true, true, true, true, true, true, true, true, false, true, false] rfl rfl (take_ofW HT_.out HW_.out (by kernel_rfl)) (fun _ _ _ h => h) (Or.inl ⟨by rfl, ?_⟩) hHeld ?_ ?_
              rotate_left
              · rintro w' ⟨s0, s1⟩
                go_simp
                with_reducible rfl
              rotate_left
              · simp only [Act.put, List.setIfInBounds_toArray, List.set_cons_zero, List.set_cons_succ, i64_w, i32_w]
                rfl
              refine last_ (i := 11) (N := some 62) #[true, true, true, true, true, true, true, true, true, true, true, true, true, false] rfl rfl (one_of HT_.out (by kernel_rfl)) (by decide) (fun K hK => ?_)
              refine goes_ Try.func14 (by kernel_rfl) rfl #[.pointer (some ⟨g, 0, none⟩), .int .i64 d, .slice Ai l.length ci] (by rfl) rfl rfl (by (try simp only [List.map_toArray, List.map_cons, List.map_nil]); first | done | rfl) ?_
              with_reducible refine (set_d S.out HI.out d HDY.out HSG.out Ai ci l (RowIn.of_C HR.out) HCI.out HLI.out).mono ?_
              rintro e w62 ⟨rfl, wv1, dv1, bv1, dvs1, bvs1, m1, hI1, hS1⟩
              refine ⟨_, rfl, ?_⟩
              have HI1 := Aside0.mk hI1
              have S1 := Aside0.mk hS1
              clear hI1 hS1
              refine hK.out _ _ ?_
              clear hK K
              refine norm_ (a' := ?_) ?_ ?_
              rotate_left
              · show Act.put _ (some 62) _ = _
                simp only [Act.put, List.setIfInBounds_toArray, List.set_cons_zero, List.set_cons_succ, i64_w, i32_w]
                rfl
              refine pure_ (i := 13) (N := some 64) (v := ?_) (a' := ?_) #[true, true, true, true, true, true, true, true, true, true, true, true, true, true] rfl rfl (any_of HT_.out (by kernel_rfl)) (fun _ _ _ h => h) (Or.inl ⟨by rfl, ?_⟩) ?_ ?_
              rotate_left
              · intro w'
                go_simp
                with_reducible rfl
              rotate_left
              · simp only [Act.put, List.setIfInBounds_toArray, List.set_cons_zero, List.set_cons_succ, i64_w, i32_w]
                rfl
              refine done_ (done_of HT_.out (by kernel_rfl)) ?_
              go_wp2
              go_roundg qq
              case measure => omega
              case rel => exact ⟨i + 1, A2, c2, (setR bs1 d l).1, wv1, dv1, bv1, dvs1, bvs1, m1, rfl, rfl, ⟨by have := KQ.out; omega⟩, ⟨by omega⟩, ⟨⟨by have h1 := HML.out; have h2 := B1.out.1; omega, HM.out⟩⟩, HI1, S1⟩
            · have e1 : (setR bs1 d l).1 = bs1 := by unfold setR; rw [if_neg hdd]
              have e2 : (setR bs1 d l).2 = false := by unfold setR; rw [if_neg hdd]
              have hbl := fzn_len S.out 5 rfl
              have HDN : Aside0 (d < 0 ∨ (bvs.length : Int) < d) := ⟨by omega⟩
              rw [e2]
              rw [e1] at S ⊢
              clear hdd e2 hbl
              go_upto_region 11 with fail
              refine start_ (n := 14) (S := fun w' => w'.cell? (ad.add (i * 2)) = some (.int .i64 d) ∧ w'.cell? ⟨(ad.add (i * 2)).block, (ad.add (i * 2)).off + 1, none⟩ = some (.slice Ai l.length ci)) (ds := [11]) #[false, false, false, false, false, false, false, false, false, false, false, false, false, false] (by kernel_rfl) rfl rfl ⟨q1, q2⟩ (fun hHeld => ?_); refine with_tabW st11_tab st11_bits (fun HT_ HW_ => ?_)
              have HBW := Aside0.mk (below_drew (Below.refl w47.heap.size w47))
              generalize w47.drew = W9 at HBW hHeld ⊢
              replace S := Aside0.mk (S.out.step HBW.out)
              refine pure_ (i := 0) (N := some 51) (v := ?_) (a' := ?_) #[true, false, false, false, false, false, false, false, false, false, false, false, false, false] rfl rfl (any_of HT_.out (by kernel_rfl)) (fun _ _ _ h => h) (Or.inl ⟨by rfl, ?_⟩) ?_ ?_
              rotate_left
              · intro w'
                go_simp
                with_reducible rfl
              rotate_left
              · simp only [Act.put, List.setIfInBounds_toArray, List.set_cons_zero, List.set_cons_succ, i64_w, i32_w]
                rfl
              refine pure_ (i := 1) (N := some 52) (v := ?_) (a' := ?_) #[true, true, false, false, false, false, false, false, false, false, false, false, false, false] rfl rfl (any_of HT_.out (by kernel_rfl)) (fun _ _ _ h => h) (Or.inl ⟨by rfl, ?_⟩) ?_ ?_
              rotate_left
              · intro w'
                go_simp
                with_reducible rfl
              rotate_left
              · simp only [Act.put, List.setIfInBounds_toArray, List.set_cons_zero, List.set_cons_succ, i64_w, i32_w]
                rfl
              refine pure_ (i := 2) (N := some 53) (v := ?_) (a' := ?_) #[true, true, true, false, false, false, false, false, false, false, false, false, false, false] rfl rfl (any_of HT_.out (by kernel_rfl)) (fun _ _ _ h => h) (Or.inl ⟨by rfl, ?_⟩) ?_ ?_
              rotate_left
              · intro w'
                go_simp
                with_reducible rfl
              rotate_left
              · simp only [Act.put, List.setIfInBounds_toArray, List.set_cons_zero, List.set_cons_succ, i64_w, i32_w]
                rfl
              refine pure_ (i := 3) (N := some 54) (v := ?_) (a' := ?_) #[true, true, true, true, false, false, false, false, false, false, false, false, false, false] rfl rfl (any_of HT_.out (by kernel_rfl)) (fun _ _ _ h => h) (Or.inl ⟨by rfl, ?_⟩) ?_ ?_
              rotate_left
              · intro w'
                go_simp
                with_reducible rfl
              rotate_left
              · simp only [Act.put, List.setIfInBounds_toArray, List.set_cons_zero, List.set_cons_succ, i64_w, i32_w]
                rfl
              refine pure_ (i := 4) (N := some 55) (v := ?_) (a' := ?_) #[true, true, true, true, true, false, false, false, false, false, false, false, false, false] rfl rfl (any_of HT_.out (by kernel_rfl)) (fun _ _ _ h => h) (Or.inl ⟨by rfl, ?_⟩) ?_ ?_
              rotate_left
              · intro w'
                go_simp
                with_reducible rfl
              rotate_left
              · simp only [Act.put, List.setIfInBounds_toArray, List.set_cons_zero, List.set_cons_succ, i64_w, i32_w]
                rfl
              refine pure_ (i := 6) (N := some 57) (v := ?_) (a' := ?_) #[true, true, true, true, true, false, true, false, false, false, false, false, false, false] rfl rfl (any_of HT_.out (by kernel_rfl)) (fun _ _ _ h => h) (Or.inl ⟨by rfl, ?_⟩) ?_ ?_
              rotate_left
              · intro w'
                go_simp
                with_reducible rfl
              rotate_left
              · simp only [Act.put, List.setIfInBounds_toArray, List.set_cons_zero, List.set_cons_succ, i64_w, i32_w]
                rfl
              refine pure_ (i := 7) (N := some 58) (v := ?_) (a' := ?_) #[true, true, true, true, true, false, true, true, false, false, false, false, false, false] rfl rfl (any_of HT_.out (by kernel_rfl)) (fun _ _ _ h => h) (Or.inl ⟨by rfl, ?_⟩) ?_ ?_
              rotate_left
              · intro w'
                go_simp
                with_reducible rfl
              rotate_left
              · simp only [Act.put, List.setIfInBounds_toArray, List.set_cons_zero, List.set_cons_succ, i64_w, i32_w]
                rfl
              refine pure_ (i := 8) (N := some 59) (v := ?_) (a' := ?_) #[true, true, true, true, true, false, true, true, true, false, false, false, false, false] rfl rfl (any_of HT_.out (by kernel_rfl)) (fun _ _ _ h => h) (Or.inl ⟨by rfl, ?_⟩) ?_ ?_
              rotate_left
              · intro w'
                go_simp
                with_reducible rfl
              rotate_left
              · simp only [Act.put, List.setIfInBounds_toArray, List.set_cons_zero, List.set_cons_succ, i64_w, i32_w]
                rfl
              refine pure_ (i := 9) (N := some 60) (v := ?_) (a' := ?_) #[true, true, true, true, true, false, true, true, true, true, false, false, false, false] rfl rfl (any_of HT_.out (by kernel_rfl)) (fun _ _ _ h => h) (Or.inl ⟨by rfl, ?_⟩) ?_ ?_
              rotate_left
              · intro w'
                go_simp
                with_reducible rfl
              rotate_left
              · simp only [Act.put, List.setIfInBounds_toArray, List.set_cons_zero, List.set_cons_succ, i64_w, i32_w]
                rfl
              refine pure_ (i := 12) (N := some 63) (v := ?_) (a' := ?_) #[true, true, true, true, true, false, true, true, true, true, false, false, true, false] rfl rfl (any_of HT_.out (by kernel_rfl)) (fun _ _ _ h => h) (Or.inl ⟨by rfl, ?_⟩) ?_ ?_
              rotate_left
              · intro w'
                go_simp
                with_reducible rfl
              rotate_left
              · simp only [Act.put, List.setIfInBounds_toArray, List.set_cons_zero, List.set_cons_succ, i64_w, i32_w]
                rfl
              refine take_ (i := 5) (N := some 56) (v := ?_) (a' := ?_) #[true, true, true, true, true, true, true, true, true, true, false, false, true, false] rfl rfl (take_ofW HT_.out HW_.out (by kernel_rfl)) (fun _ _ _ h => h) (Or.inl ⟨by rfl, ?_⟩) hHeld ?_ ?_
              rotate_left
              · rintro w' ⟨s0, s1⟩
                go_simp
                with_reducible rfl
              rotate_left
              · simp only [Act.put, List.setIfInBounds_toArray, List.set_cons_zero, List.set_cons_succ, i64_w, i32_w]
                rfl
              refine take_ (i := 10) (N := some 61) (v := ?_) (a' := ?_) #[true, true, true, true, true, true, true, true, true, true, true, false, true, false] rfl rfl (take_ofW HT_.out HW_.out (by kernel_rfl)) (fun _ _ _ h => h) (Or.inl ⟨by rfl, ?_⟩) hHeld ?_ ?_
              rotate_left
              · rintro w' ⟨s0, s1⟩
                go_simp
                with_reducible rfl
              rotate_left
              · simp only [Act.put, List.setIfInBounds_toArray, List.set_cons_zero, List.set_cons_succ, i64_w, i32_w]
                rfl
              refine last_ (i := 11) (N := some 62) #[true, true, true, true, true, true, true, true, true, true, true, true, true, false] rfl rfl (one_of HT_.out (by kernel_rfl)) (by decide) (fun K hK => ?_)
              refine goes_ Try.func14 (by kernel_rfl) rfl #[.pointer (some ⟨g, 0, none⟩), .int .i64 d, .slice Ai l.length ci] (by rfl) rfl rfl (by (try simp only [List.map_toArray, List.map_cons, List.map_nil]); first | done | rfl) ?_
              with_reducible refine (set_no S.out d (.slice Ai l.length ci) HDN.out).mono ?_
              rintro e w62 ⟨rfl, hw_⟩
              refine ⟨_, rfl, ?_⟩
              obtain rfl := hw_.symm
              refine hK.out _ _ ?_
              clear hK K
              refine norm_ (a' := ?_) ?_ ?_
              rotate_left
              · show Act.put _ (some 62) _ = _
                simp only [Act.put, List.setIfInBounds_toArray, List.set_cons_zero, List.set_cons_succ, i64_w, i32_w]
                rfl
              refine pure_ (i := 13) (N := some 64) (v := ?_) (a' := ?_) #[true, true, true, true, true, true, true, true, true, true, true, true, true, true] rfl rfl (any_of HT_.out (by kernel_rfl)) (fun _ _ _ h => h) (Or.inl ⟨by rfl, ?_⟩) ?_ ?_
              rotate_left
              · intro w'
                go_simp
                with_reducible rfl
              rotate_left
              · simp only [Act.put, List.setIfInBounds_toArray, List.set_cons_zero, List.set_cons_succ, i64_w, i32_w]
                rfl
              refine done_ (done_of HT_.out (by kernel_rfl)) ?_
              go_wp2
              go_roundg qq
              case measure => omega
              case rel => exact ⟨i + 1, A2, c2, bs1, wv, dv, bv, dvs, bvs, m, rfl, rfl, ⟨by have := KQ.out; omega⟩, ⟨by omega⟩, ⟨⟨by have h2 := B1.out.1; omega, B1.out.2⟩⟩, HI, S⟩
          · obtain rfl : i = os.length := by have := IL.out; omega
            have d2 := decide_eq_false (show ¬ ((os.length : Nat) : Int) < (os.length : Int) by omega)
            have d2' : decide (os.length < os.length) = false := decide_eq_false (by omega)
            have HSM := Aside0.mk (small30 (by have := B1.out.1; omega) B1.out.2)
            have HCAP := Aside0.mk (VT_cap S.out 6 rfl)
            clear hi
            go_wp2_with (first | (go_at_call 10; have X_ := agrees_ix S.out rfl HI.out HSM.out A0 c0 HCAP.out (fun w' M S' => VT_now S' (M.length + 0) (by rw [List.getElem?_append_right (by omega), Nat.add_sub_cancel_left]; rfl)) p; (with_reducible refine X_.mono ?_); clear X_; rintro e_ w10 ⟨rfl, hS⟩; replace S := Aside0.mk hS; clear hS) | (go_at_call 9; (with_reducible refine (lives_ix _).mono ?_); rintro e_ w9 ⟨rfl, hb⟩; replace S := Aside0.mk (S.out.step hb); clear hb) | fail)
            go_ret
            exact ⟨rfl, S.out.below⟩
    · rw [Bool.eq_false_iff.2 hfo] at hkO
      have HKO := Aside0.mk hkO
      clear hkO hfo hC hc hO hoc
      go_enter Try.func4, Try.ntmps4
      go_wp2_with (first | (go_at_call 8; have X_ := mapmakerlaw52_Few.calls kF A c bs true w HC.out HCC.out HKF.out; (with_reducible refine X_.mono ?_); clear X_; rintro e_ w8 ⟨rfl, hdn⟩; obtain ⟨n8, rfl⟩ := hdn.out; replace S := Aside0.mk (S.out.drewN n8); clear hdn) | (go_at_call 12; have X_ := mapmakerlaw52_ops.calls kO A1 c1 os false _ (Kd.C_below HO.out S.out.below) HOC.out HKO.out; (with_reducible refine X_.mono ?_); clear X_; rintro e_ w21 ⟨rfl, hdn⟩; obtain ⟨n21, rfl⟩ := hdn.out; replace S := Aside0.mk (show Sep w (w.drewN (n8 + n21)) [] from drewN_drewN w n8 n21 ▸ S.out.drewN n21); clear hdn) | (go_at_call 9; (with_reducible refine (lives_ix _).mono ?_); rintro e_ w9 ⟨rfl, hb⟩; replace S := Aside0.mk (S.out.step hb); clear hb) | fail)
      go_ret
      exact ⟨rfl, S.out.below⟩
  · rw [Bool.eq_false_iff.2 hf] at hkF
    have HKF := Aside0.mk hkF
    clear hkF hf hC hc hO hoc
    go_enter Try.func4, Try.ntmps4
    go_wp2_with (first | (go_at_call 8; have X_ := mapmakerlaw52_Few.calls kF A c bs false w HC.out HCC.out HKF.out; (with_reducible refine X_.mono ?_); clear X_; rintro e_ w8 ⟨rfl, hdn⟩; obtain ⟨n8, rfl⟩ := hdn.out; replace S := Aside0.mk (S.out.drewN n8); clear hdn) | (go_at_call 9; (with_reducible refine (lives_ix _).mono ?_); rintro e_ w9 ⟨rfl, hb⟩; replace S := Aside0.mk (S.out.step hb); clear hb) | fail)
    go_ret
    exact ⟨rfl, S.out.below⟩
end Go.Proofs.Ytpfmebpalejadaa.Hand
