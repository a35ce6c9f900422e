import Derived.Test.YtpfmebpalejadaaHb
namespace Go.Proofs.Ytpfmebpalejadaa.Hand
open Go.Proofs.YtpfmebpalejadaaW Go.RowKit Go.Proofs.YtpfmebpalejadaaW.PrintWords Go.Proofs.YtpfmebpalejadaaW.PrintLast Go.Proofs.YtpfmebpalejadaaW.PrintMore Go.Proofs.YtpfmebpalejadaaW.SepW Go.Proofs.Ytpfmebpalejadaa.PALL Go.Proofs.Ytpfmebpalejadaa.Plain
set_option linter.unusedVariables false
set_option linter.unusedSimpArgs false

theorem RowIn.of_C {w0 : World} {L : List (Thing w0.heap.size)} {A : Option Addr} {l : List ByteArray} (h : Kd.string.C w0 A l.length l) : RowIn w0 L A l := fun w' M S => Kd.C_below h S.below
theorem DocsC.of_C {w0 : World} {L : List (Thing w0.heap.size)} {A : Option Addr} {bs : List (List ByteArray)} (h : Kd.C (Kd.slice 9 Kd.string) w0 A bs.length bs) : DocsC w0 L A bs := fun w' M S => Kd.C_below h S.below
theorem docs_of_C {w0 : World} (L : List (Thing w0.heap.size)) {A : Option Addr} {bs : List (List ByteArray)} (h : Kd.C (Kd.slice 9 Kd.string) w0 A bs.length bs) : ∃ vs, DocsIn w0 L A bs vs := by
  have key : ∀ (i : Nat) (l : List ByteArray), bs[i]? = some l → ∃ (ad : Addr) (A0 : Option Addr) (c0 : Nat), A = some ad ∧ w0.cell? (ad.add i) = some (Value.slice A0 l.length c0) ∧ l.length ≤ c0 ∧ Kd.string.C w0 A0 l.length l := by
    intro i l hl
    have hi := (List.getElem?_eq_some_iff.1 hl).1
    obtain ⟨ad, A0, c0, e, h1, h2, h3⟩ := at_L1 h (i : Int) (by omega) (by omega)
    have e0 : rd_L1 bs (i : Int) = l := by rw [rdL, List.getD_eq_getElem?_getD, hl]; rfl
    rw [e0, show ((i : Int)).toNat = i by omega] at h1
    rw [e0] at h2 h3
    exact ⟨ad, A0, c0, e, h1, h2, h3⟩
  refine ⟨(List.range bs.length).map (fun i => (A.bind fun a => w0.cell? (a.add i)).getD undef), ⟨fun w' M S i v hv => ?_, fun i l hl => ?_⟩⟩
  · rw [List.getElem?_map] at hv
    obtain ⟨j, hj, hv⟩ := Option.map_eq_some_iff.1 hv
    have hj' := List.getElem?_eq_some_iff.1 hj
    have hi : i < bs.length := by simpa using hj'.1
    obtain rfl : i = j := by simpa using hj'.2
    obtain ⟨ad, A0, c0, e, h1, _, _⟩ := key i _ (List.getElem?_eq_getElem hi)
    subst e
    simp only [Option.bind_some, h1, Option.getD_some] at hv
    subst hv
    exact ⟨ad, rfl, pw_cell_below S.below h1⟩
  · have hi := (List.getElem?_eq_some_iff.1 hl).1
    obtain ⟨ad, A0, c0, e, h1, h2, h3⟩ := key i l hl
    subst e
    refine ⟨A0, c0, ?_, h2, RowIn.of_C h3⟩
    rw [List.getElem?_map, List.getElem?_range hi]
    simp [h1]
theorem few_small {bs : List (List ByteArray)} (h : fewB bs = true) : Small bs := by
  obtain ⟨h1, h2⟩ := fewB_small h
  exact ⟨by omega, fun l hl => by have := h2 l hl; omega⟩
set_option maxHeartbeats 8000000 in
set_option maxRecDepth 100000 in
theorem finds_law (bs : List (List ByteArray)) (p : ByteArray) (A : Option Addr) (c : Nat) (w : World) (hC : Kd.C (Kd.slice 9 Kd.string) w A bs.length bs) (hc : bs.length ≤ c) (hp : p.size ≤ 140737488351232) :
    Calls Try.prog 3 #[.slice A bs.length c, .string p] w fun e w' => e = .returned (.bool true) ∧ Below w.heap.size w w' := by
  obtain ⟨kF, hkF⟩ := few_ev bs
  have HC := Aside0.mk hC
  have HCC := Aside0.mk hc
  have S := Aside0.mk (Sep.start w)
  have HD : Aside0 (DocsC w [] A bs) := ⟨DocsC.of_C hC⟩
  obtain ⟨vs, hv⟩ := docs_of_C (w0 := w) [] hC
  have HV := Aside0.mk hv
  clear hC hv hc
  by_cases hf : fewB bs = true
  · have HS := Aside0.mk (few_small hf)
    rw [hf] at hkF
    have HKF := Aside0.mk hkF
    clear hkF hf
    by_cases hq : (p.size : Int) > 40
    · have d0 : decide (40 < (p.size : Int)) = true := decide_eq_true hq
      have d1 : decide (40 < p.size) = true := decide_eq_true (by omega)
      clear hq
      go_enter Try.func3, Try.ntmps3
      go_wp2_with (first | (go_at_call 8; have X_ := mapmakerlaw52_Few.calls kF A c bs true w HC.out HCC.out HKF.out; (with_reducible refine X_.mono ?_); clear X_; rintro e_ w8 ⟨rfl, hdn⟩; obtain ⟨n8, rfl⟩ := hdn.out; replace S := Aside0.mk (S.out.drewN n8); clear hdn) | (go_at_call 9; (with_reducible refine (lives_ix _).mono ?_); rintro e_ w9 ⟨rfl, hb⟩; replace S := Aside0.mk (S.out.step hb); clear hb) | fail)
      go_ret
      exact ⟨rfl, S.out.below⟩
    · have d0 : decide (40 < (p.size : Int)) = false := decide_eq_false hq
      have d1 : decide (40 < p.size) = false := decide_eq_false (by omega)
      clear hq
      go_enter Try.func3, Try.ntmps3
      go_wp2_with (first | (go_at_call 8; have X_ := mapmakerlaw52_Few.calls kF A c bs true w HC.out HCC.out HKF.out; (with_reducible refine X_.mono ?_); clear X_; rintro e_ w8 ⟨rfl, hdn⟩; obtain ⟨n8, rfl⟩ := hdn.out; replace S := Aside0.mk (S.out.drewN n8); clear hdn) | (go_at_call 11; have X_ := new_ix S.out A c bs vs HV.out HS.out; (with_reducible refine X_.mono ?_); clear X_; rintro e_ w11 ⟨g, wv, dv, bv, dvs, bvs, m, rfl, hI, hS⟩; have HI := Aside0.mk hI; replace S := Aside0.mk hS; clear hI hS) | (go_at_call 10; have X_ := agrees_ix S.out rfl HI.out HS.out A c HCC.out HD.out p; (with_reducible refine X_.mono ?_); clear X_; rintro e_ w10 ⟨rfl, hS⟩; replace S := Aside0.mk hS; clear hS) | (go_at_call 9; (with_reducible refine (lives_ix _).mono ?_); rintro e_ w9 ⟨rfl, hb⟩; replace S := Aside0.mk (S.out.step hb); clear hb) | fail)
      go_ret
      exact ⟨rfl, S.out.below⟩
  · rw [Bool.eq_false_iff.2 hf] at hkF
    have HKF := Aside0.mk hkF
    clear hkF hf
    go_enter Try.func3, Try.ntmps3
    go_wp2_with (first | (go_at_call 8; have X_ := mapmakerlaw52_Few.calls kF A c bs false w HC.out HCC.out HKF.out; (with_reducible refine X_.mono ?_); clear X_; rintro e_ w8 ⟨rfl, hdn⟩; obtain ⟨n8, rfl⟩ := hdn.out; replace S := Aside0.mk (S.out.drewN n8); clear hdn) | (go_at_call 9; (with_reducible refine (lives_ix _).mono ?_); rintro e_ w9 ⟨rfl, hb⟩; replace S := Aside0.mk (S.out.step hb); clear hb) | fail)
    go_ret
    exact ⟨rfl, S.out.below⟩
end Go.Proofs.Ytpfmebpalejadaa.Hand
