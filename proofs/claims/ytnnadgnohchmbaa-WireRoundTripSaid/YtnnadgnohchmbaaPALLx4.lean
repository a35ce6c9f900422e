-- Laid by a program of this work (wip/gen): out of the translation, with texts of our own.
import Derived.Test.YtnnadgnohchmbaaPALLx0
import Derived.Test.YtnnadgnohchmbaaPALLx1
import Derived.Test.YtnnadgnohchmbaaPALLx2
import Derived.Test.YtnnadgnohchmbaaPALLx3
namespace Go.Proofs.Ytnnadgnohchmbaa.PALL
open Go.RowKit Go.Proofs.YtnnadgnohchmbaaW.PrintWords Go.Proofs.YtnnadgnohchmbaaW.PrintLast Go.Proofs.YtnnadgnohchmbaaW.PrintMore Go.Proofs.YtnnadgnohchmbaaW.SepW
attribute [local go_sem] max2_int min2_int max_two min_two max_three min_three max_four min_four   -- for this text's walks alone
set_option linter.unusedVariables false
set_option linter.unusedSimpArgs false

/-! ### wire_Reader_Err: function 20 -/
def wire_Reader_Err.f (s0_0 : ByteArray) (s0_1 : Int) (s0_2 : Int) : Option (Int × ByteArray × Int × Int) := some (s0_2, s0_0, s0_1, s0_2)
set_option maxHeartbeats 8000000 in
set_option maxRecDepth 100000 in
theorem wire_Reader_Err.calls (g : Nat) (s0_0 : ByteArray) (s0_1 : Int) (s0_2 : Int) (r1 : Int) (r2 : ByteArray) (r3 : Int) (r4 : Int) (w0 w : World) (hI : IsS59 w0 w g s0_0 s0_1 s0_2) (hB : Below w0.heap.size w0 w) (h : wire_Reader_Err.f s0_0 s0_1 s0_2 = some (r1, r2, r3, r4)) :
    Calls Try.prog 20 #[.pointer (some ⟨g, 0, none⟩)] w fun e w' => e = .returned (.int .i64 r1) ∧ IsS59 w0 w' g r2 r3 r4 ∧ Below w0.heap.size w0 w' ∧ KeepBut w w' g none := by
  have HI0 := Aside0.mk hI
  have HK := Aside0.mk (KeepBut.refl w g none)
  have HL := Aside0.mk hB.size
  clear hI
  have HW0 := Aside0.mk hB.size
  have HB := Aside0.mk hB
  clear hB
  have H : (some (s0_2, s0_0, s0_1, s0_2)) = some (r1, r2, r3, r4) := h
  clear h
  simp only [Option.some.injEq, Prod.mk.injEq] at H
  obtain ⟨rfl, rfl, rfl, rfl⟩ := H
  obtain ⟨HGz2, hgz2⟩ := HI0.out
  have hcz2_0 := cellS59_0 HGz2
  have hcz2_1 := cellS59_1 HGz2
  have hcz2_2 := cellS59_2 HGz2
  have hfz2_0 := blk_frozen HGz2 0
  have hfz2_1 := blk_frozen HGz2 1
  have hfz2_2 := blk_frozen HGz2 2
  clear HGz2 hgz2
  go_enter Try.func20, Try.ntmps20
  go_wp2
  go_ret
  exact ⟨by first | rfl | (simp [errW_none, errW_some] <;> rfl) | (simp [*, errW_none, errW_some] <;> rfl), by repeat (first | (with_reducible first | exact HI0.out | apply IsS59.alloc | apply IsS59.drewN | apply IsS59.drew | apply IsS59.set_0 | apply IsS59.set_1 | apply IsS59.set_2) | exact HI0.out), by repeat (first | (with_reducible first | exact HB.out | apply below_alloc | apply pw_below_drewN | apply below_drew1 | refine below_set ?_ (IsS59.ge HI0.out)) | exact HB.out), by repeat (first | (with_reducible first | exact HK.out | apply KeepBut.set_ | apply keep_drewN | apply keep_drew | apply keep_alloc) | exact HK.out)⟩

/-! ### wire_Reader_Done: function 18 -/
def wire_Reader_Done.f (s0_0 : ByteArray) (s0_1 : Int) (s0_2 : Int) : Option (Int × ByteArray × Int × Int) := (wire_Reader_Err.f s0_0 s0_1 s0_2).bind fun bt119 => (if bt119.1 = 0 then ((wire_Reader_Left.f bt119.2.1 bt119.2.2.1 bt119.2.2.2).bind fun bt123 => (if bt123.1 > 0 then (some (5, bt123.2.1, bt123.2.2.1, bt123.2.2.2)) else (some (0, bt123.2.1, bt123.2.2.1, bt123.2.2.2)))) else (some (bt119.1, bt119.2.1, bt119.2.2.1, bt119.2.2.2)))
set_option maxHeartbeats 8000000 in
set_option maxRecDepth 100000 in
theorem wire_Reader_Done.calls (g : Nat) (s0_0 : ByteArray) (s0_1 : Int) (s0_2 : Int) (r1 : Int) (r2 : ByteArray) (r3 : Int) (r4 : Int) (w0 w : World) (hI : IsS59 w0 w g s0_0 s0_1 s0_2) (hB : Below w0.heap.size w0 w) (h : wire_Reader_Done.f s0_0 s0_1 s0_2 = some (r1, r2, r3, r4)) :
    Calls Try.prog 18 #[.pointer (some ⟨g, 0, none⟩)] w fun e w' => e = .returned (.int .i64 r1) ∧ IsS59 w0 w' g r2 r3 r4 ∧ Below w0.heap.size w0 w' ∧ KeepBut w w' g none := by
  have HI0 := Aside0.mk hI
  have HK := Aside0.mk (KeepBut.refl w g none)
  have HL := Aside0.mk hB.size
  clear hI
  have HW0 := Aside0.mk hB.size
  have HB := Aside0.mk hB
  clear hB
  have H : ((wire_Reader_Err.f s0_0 s0_1 s0_2).bind fun bt119 => (if bt119.1 = 0 then ((wire_Reader_Left.f bt119.2.1 bt119.2.2.1 bt119.2.2.2).bind fun bt123 => (if bt123.1 > 0 then (some (5, bt123.2.1, bt123.2.2.1, bt123.2.2.2)) else (some (0, bt123.2.1, bt123.2.2.1, bt123.2.2.2)))) else (some (bt119.1, bt119.2.1, bt119.2.2.1, bt119.2.2.2)))) = some (r1, r2, r3, r4) := h
  clear h
  replace H := Option.bind_eq_some_iff.mp H
  obtain ⟨⟨t119, t120, t121, t122⟩, A20, H⟩ := H
  replace H : (if t119 = 0 then ((wire_Reader_Left.f t120 t121 t122).bind fun bt123 => (if bt123.1 > 0 then (some (5, bt123.2.1, bt123.2.2.1, bt123.2.2.2)) else (some (0, bt123.2.1, bt123.2.2.1, bt123.2.2.2)))) else (some (t119, t120, t121, t122))) = some (r1, r2, r3, r4) := H
  have A2 := Aside0.mk A20
  clear A20
  by_cases c3 : t119 = 0
  · rw [if_pos c3] at H
    have c3b0 : (t119 == 0) = true := beq_iff_eq.mpr c3
    have c3b1 : (t119 != 0) = false := bne_eq_false_iff_eq.mpr c3
    clear c3
    replace H := Option.bind_eq_some_iff.mp H
    obtain ⟨⟨t123, t124, t125, t126⟩, A40, H⟩ := H
    replace H : (if t123 > 0 then (some (5, t124, t125, t126)) else (some (0, t124, t125, t126))) = some (r1, r2, r3, r4) := H
    have A4 := Aside0.mk A40
    clear A40
    by_cases c5 : t123 > 0
    · rw [if_pos c5] at H
      have c5b0 : decide (0 < t123) = true := decide_eq_true c5
      clear c5
      simp only [Option.some.injEq, Prod.mk.injEq] at H
      obtain ⟨rfl, rfl, rfl, rfl⟩ := H
      go_enter Try.func18, Try.ntmps18
      go_wp2_with (first | ((with_reducible refine gate_callee (f := 20) rfl ?_); refine goesL_ (some 5) rfl rfl Try.func20 (by kernel_rfl) rfl #[.pointer (some ⟨g, 0, none⟩)] rfl (by (try simp only [List.map_toArray, List.map_cons, List.map_nil]); first | done | rfl | (simp only [List.length_drop, List.length_take]; rfl)) ?_; (with_reducible refine (wire_Reader_Err.calls g s0_0 s0_1 s0_2 t119 t120 t121 t122 w0 _ ?side1 ?side2 A2.out).mono ?_); (case side1 => repeat (first | (with_reducible first | exact HI0.out | apply IsS59.alloc | apply IsS59.drewN | apply IsS59.drew | apply IsS59.set_0 | apply IsS59.set_1 | apply IsS59.set_2) | exact HI0.out)); (case side2 => repeat (first | (with_reducible first | exact HB.out | apply below_alloc | apply pw_below_drewN | apply below_drew1 | refine below_set ?_ (IsS59.ge HI0.out)) | exact HB.out)); rintro e w6 ⟨rfl, hi, hb, hk⟩; refine ⟨_, rfl, ?_⟩; have n0_ := Aside0.mk (KeepBut.trans (by repeat (first | (with_reducible first | exact HK.out | apply KeepBut.set_ | apply keep_drewN | apply keep_drew | apply keep_alloc) | exact HK.out)) hk (.inl rfl)); have n1_ := Aside0.mk (hb); have n2_ := Aside0.mk (hi); clear HK; clear HB; clear HI0; have HK := n0_; have HB := n1_; have HI0 := n2_; clear n0_ n1_ n2_; (try clear hb); (try clear hb2); (try clear hk); (try clear hi)) | ((with_reducible refine gate_callee (f := 19) rfl ?_); refine goesL_ (some 10) rfl rfl Try.func19 (by kernel_rfl) rfl #[.pointer (some ⟨g, 0, none⟩)] rfl (by (try simp only [List.map_toArray, List.map_cons, List.map_nil]); first | done | rfl | (simp only [List.length_drop, List.length_take]; rfl)) ?_; (with_reducible refine (wire_Reader_Left.calls g t120 t121 t122 t123 t124 t125 t126 w0 _ ?side1 ?side2 A4.out).mono ?_); (case side1 => repeat (first | (with_reducible first | exact HI0.out | apply IsS59.alloc | apply IsS59.drewN | apply IsS59.drew | apply IsS59.set_0 | apply IsS59.set_1 | apply IsS59.set_2) | exact HI0.out)); (case side2 => repeat (first | (with_reducible first | exact HB.out | apply below_alloc | apply pw_below_drewN | apply below_drew1 | refine below_set ?_ (IsS59.ge HI0.out)) | exact HB.out)); rintro e w7 ⟨rfl, hi, hb, hk⟩; refine ⟨_, rfl, ?_⟩; have n0_ := Aside0.mk (KeepBut.trans (by repeat (first | (with_reducible first | exact HK.out | apply KeepBut.set_ | apply keep_drewN | apply keep_drew | apply keep_alloc) | exact HK.out)) hk (.inl rfl)); have n1_ := Aside0.mk (hb); have n2_ := Aside0.mk (hi); clear HK; clear HB; clear HI0; have HK := n0_; have HB := n1_; have HI0 := n2_; clear n0_ n1_ n2_; (try clear hb); (try clear hb2); (try clear hk); (try clear hi)))
      go_ret
      exact ⟨by first | rfl | (simp [errW_none, errW_some] <;> rfl) | (simp [*, errW_none, errW_some] <;> rfl), by repeat (first | (with_reducible first | exact HI0.out | apply IsS59.alloc | apply IsS59.drewN | apply IsS59.drew | apply IsS59.set_0 | apply IsS59.set_1 | apply IsS59.set_2) | exact HI0.out), by repeat (first | (with_reducible first | exact HB.out | apply below_alloc | apply pw_below_drewN | apply below_drew1 | refine below_set ?_ (IsS59.ge HI0.out)) | exact HB.out), by repeat (first | (with_reducible first | exact HK.out | apply KeepBut.set_ | apply keep_drewN | apply keep_drew | apply keep_alloc) | exact HK.out)⟩
    · rw [if_neg c5] at H
      have c5b0 : decide (0 < t123) = false := decide_eq_false c5
      clear c5
      simp only [Option.some.injEq, Prod.mk.injEq] at H
      obtain ⟨rfl, rfl, rfl, rfl⟩ := H
      go_enter Try.func18, Try.ntmps18
      go_wp2_with (first | ((with_reducible refine gate_callee (f := 20) rfl ?_); refine goesL_ (some 5) rfl rfl Try.func20 (by kernel_rfl) rfl #[.pointer (some ⟨g, 0, none⟩)] rfl (by (try simp only [List.map_toArray, List.map_cons, List.map_nil]); first | done | rfl | (simp only [List.length_drop, List.length_take]; rfl)) ?_; (with_reducible refine (wire_Reader_Err.calls g s0_0 s0_1 s0_2 t119 t120 t121 t122 w0 _ ?side1 ?side2 A2.out).mono ?_); (case side1 => repeat (first | (with_reducible first | exact HI0.out | apply IsS59.alloc | apply IsS59.drewN | apply IsS59.drew | apply IsS59.set_0 | apply IsS59.set_1 | apply IsS59.set_2) | exact HI0.out)); (case side2 => repeat (first | (with_reducible first | exact HB.out | apply below_alloc | apply pw_below_drewN | apply below_drew1 | refine below_set ?_ (IsS59.ge HI0.out)) | exact HB.out)); rintro e w8 ⟨rfl, hi, hb, hk⟩; refine ⟨_, rfl, ?_⟩; have n0_ := Aside0.mk (KeepBut.trans (by repeat (first | (with_reducible first | exact HK.out | apply KeepBut.set_ | apply keep_drewN | apply keep_drew | apply keep_alloc) | exact HK.out)) hk (.inl rfl)); have n1_ := Aside0.mk (hb); have n2_ := Aside0.mk (hi); clear HK; clear HB; clear HI0; have HK := n0_; have HB := n1_; have HI0 := n2_; clear n0_ n1_ n2_; (try clear hb); (try clear hb2); (try clear hk); (try clear hi)) | ((with_reducible refine gate_callee (f := 19) rfl ?_); refine goesL_ (some 10) rfl rfl Try.func19 (by kernel_rfl) rfl #[.pointer (some ⟨g, 0, none⟩)] rfl (by (try simp only [List.map_toArray, List.map_cons, List.map_nil]); first | done | rfl | (simp only [List.length_drop, List.length_take]; rfl)) ?_; (with_reducible refine (wire_Reader_Left.calls g t120 t121 t122 t123 t124 t125 t126 w0 _ ?side1 ?side2 A4.out).mono ?_); (case side1 => repeat (first | (with_reducible first | exact HI0.out | apply IsS59.alloc | apply IsS59.drewN | apply IsS59.drew | apply IsS59.set_0 | apply IsS59.set_1 | apply IsS59.set_2) | exact HI0.out)); (case side2 => repeat (first | (with_reducible first | exact HB.out | apply below_alloc | apply pw_below_drewN | apply below_drew1 | refine below_set ?_ (IsS59.ge HI0.out)) | exact HB.out)); rintro e w9 ⟨rfl, hi, hb, hk⟩; refine ⟨_, rfl, ?_⟩; have n0_ := Aside0.mk (KeepBut.trans (by repeat (first | (with_reducible first | exact HK.out | apply KeepBut.set_ | apply keep_drewN | apply keep_drew | apply keep_alloc) | exact HK.out)) hk (.inl rfl)); have n1_ := Aside0.mk (hb); have n2_ := Aside0.mk (hi); clear HK; clear HB; clear HI0; have HK := n0_; have HB := n1_; have HI0 := n2_; clear n0_ n1_ n2_; (try clear hb); (try clear hb2); (try clear hk); (try clear hi)))
      go_ret
      exact ⟨by first | rfl | (simp [errW_none, errW_some] <;> rfl) | (simp [*, errW_none, errW_some] <;> rfl), by repeat (first | (with_reducible first | exact HI0.out | apply IsS59.alloc | apply IsS59.drewN | apply IsS59.drew | apply IsS59.set_0 | apply IsS59.set_1 | apply IsS59.set_2) | exact HI0.out), by repeat (first | (with_reducible first | exact HB.out | apply below_alloc | apply pw_below_drewN | apply below_drew1 | refine below_set ?_ (IsS59.ge HI0.out)) | exact HB.out), by repeat (first | (with_reducible first | exact HK.out | apply KeepBut.set_ | apply keep_drewN | apply keep_drew | apply keep_alloc) | exact HK.out)⟩
  · rw [if_neg c3] at H
    have c3b0 : (t119 == 0) = false := beq_eq_false_iff_ne.mpr c3
    have c3b1 : (t119 != 0) = true := bne_iff_ne.mpr c3
    simp only [Option.some.injEq, Prod.mk.injEq] at H
    obtain ⟨rfl, rfl, rfl, rfl⟩ := H
    go_enter Try.func18, Try.ntmps18
    go_wp2_with (first | ((with_reducible refine gate_callee (f := 20) rfl ?_); refine goesL_ (some 5) rfl rfl Try.func20 (by kernel_rfl) rfl #[.pointer (some ⟨g, 0, none⟩)] rfl (by (try simp only [List.map_toArray, List.map_cons, List.map_nil]); first | done | rfl | (simp only [List.length_drop, List.length_take]; rfl)) ?_; (with_reducible refine (wire_Reader_Err.calls g s0_0 s0_1 s0_2 t119 t120 t121 t122 w0 _ ?side1 ?side2 A2.out).mono ?_); (case side1 => repeat (first | (with_reducible first | exact HI0.out | apply IsS59.alloc | apply IsS59.drewN | apply IsS59.drew | apply IsS59.set_0 | apply IsS59.set_1 | apply IsS59.set_2) | exact HI0.out)); (case side2 => repeat (first | (with_reducible first | exact HB.out | apply below_alloc | apply pw_below_drewN | apply below_drew1 | refine below_set ?_ (IsS59.ge HI0.out)) | exact HB.out)); rintro e w10 ⟨rfl, hi, hb, hk⟩; refine ⟨_, rfl, ?_⟩; have n0_ := Aside0.mk (KeepBut.trans (by repeat (first | (with_reducible first | exact HK.out | apply KeepBut.set_ | apply keep_drewN | apply keep_drew | apply keep_alloc) | exact HK.out)) hk (.inl rfl)); have n1_ := Aside0.mk (hb); have n2_ := Aside0.mk (hi); clear HK; clear HB; clear HI0; have HK := n0_; have HB := n1_; have HI0 := n2_; clear n0_ n1_ n2_; (try clear hb); (try clear hb2); (try clear hk); (try clear hi)))
    go_ret
    exact ⟨by first | rfl | (simp [errW_none, errW_some] <;> rfl) | (simp [*, errW_none, errW_some] <;> rfl), by repeat (first | (with_reducible first | exact HI0.out | apply IsS59.alloc | apply IsS59.drewN | apply IsS59.drew | apply IsS59.set_0 | apply IsS59.set_1 | apply IsS59.set_2) | exact HI0.out), by repeat (first | (with_reducible first | exact HB.out | apply below_alloc | apply pw_below_drewN | apply below_drew1 | refine below_set ?_ (IsS59.ge HI0.out)) | exact HB.out), by repeat (first | (with_reducible first | exact HK.out | apply KeepBut.set_ | apply keep_drewN | apply keep_drew | apply keep_alloc) | exact HK.out)⟩

/-! by hand -/
/-! ### mapmakerlaw02_lives: function 7 -/

open Go.Proofs.YtnnadgnohchmbaaW.Lent
theorem boxes_new {w w1 : World} {g t : Nat} {cs : Array Value} (hB : Below w.heap.size w w1) (h : w1.heap[g]? = some (.cells cs t (0, 0))) (hg : w.heap.size ≤ g) : Boxes [] w w1 [(g, t, cs)] :=
  ⟨hB.os, hB.tape, hB.output, hB.size, fun k hk _ => hB.block k hk, by simp [h, hg], by simp⟩
theorem err_boxes {own : List Nat} {w0 w : World} {L : List (Nat × Nat × Array Value)} {g : Nat} {s : ByteArray} {a e : Int} (S : Boxes own w0 w L) (n : Nat) (hn : L[n]? = some (g, 59, #[.string s, .int .i64 a, .int .i64 e])) :
    Calls Try.prog 20 #[.pointer (some ⟨g, 0, none⟩)] w fun x w1 => x = .returned (.int .i64 e) ∧ Boxes own w0 w1 (L.set n (g, 59, #[.string s, .int .i64 a, .int .i64 e])) :=
  (wire_Reader_Err.calls g s a e e s a e (bare w) w ⟨S.at_ n hn, by simp [bare]⟩ (below_bare w) rfl).mono fun x w1 H =>
    ⟨H.1, boxes_lent S n hn (Boxes.ofTold (below_bare w) H.2.2.1 H.2.2.2 H.2.1.1)⟩
theorem left_boxes {own : List Nat} {w0 w : World} {L : List (Nat × Nat × Array Value)} {g : Nat} {s : ByteArray} {a e v : Int} (S : Boxes own w0 w L) (n : Nat) (hn : L[n]? = some (g, 59, #[.string s, .int .i64 a, .int .i64 e])) (hv : wrap64 ((s.size : Int) - a) = v) :
    Calls Try.prog 19 #[.pointer (some ⟨g, 0, none⟩)] w fun x w1 => x = .returned (.int .i64 v) ∧ Boxes own w0 w1 (L.set n (g, 59, #[.string s, .int .i64 a, .int .i64 e])) :=
  (wire_Reader_Left.calls g s a e _ s a e (bare w) w ⟨S.at_ n hn, by simp [bare]⟩ (below_bare w) rfl).mono fun x w1 H =>
    ⟨hv ▸ H.1, boxes_lent S n hn (Boxes.ofTold (below_bare w) H.2.2.1 H.2.2.2 H.2.1.1)⟩
theorem err_nil {own : List Nat} {w0 w : World} {L : List (Nat × Nat × Array Value)} (S : Boxes own w0 w L) : Calls Try.prog 20 #[.pointer none] w fun x w1 => x = .returned (.int .i64 1) ∧ Boxes own w0 w1 L := by
  have S' := Aside0.mk S
  clear S
  go_enter Try.func20, Try.ntmps20
  go_wp2
  go_ret
  exact ⟨rfl, S'.out⟩
theorem done_nil {own : List Nat} {w0 w : World} {L : List (Nat × Nat × Array Value)} (S : Boxes own w0 w L) : Calls Try.prog 18 #[.pointer none] w fun x w1 => x = .returned (.int .i64 1) ∧ Boxes own w0 w1 L := by
  have S' := Aside0.mk S
  clear S
  go_enter Try.func18, Try.ntmps18
  go_wp2_with (go_at_call 20; refine (err_nil S'.out).mono ?_; rintro e w1 ⟨rfl, S1⟩; have S1' := Aside0.mk S1; clear S1)
  go_ret
  exact ⟨rfl, S1'.out⟩
set_option maxHeartbeats 4000000 in
theorem Uint_nil {own : List Nat} {w0 w : World} {L : List (Nat × Nat × Array Value)} (S : Boxes own w0 w L) : Calls Try.prog 15 #[.pointer none] w fun x w1 => x = .returned (.int .u64 0) ∧ Boxes own w0 w1 L := by
  have S' := Aside0.mk S
  clear S
  go_enter Try.func15, Try.ntmps15
  go_wp2_with (first | ((with_reducible refine gate_dst (N := 1) rfl ?_); refine box_event ?hg (N := 1) ?hd (cs := #[.pointer none]) (t := 31) ?hr ?_; (case hd => rfl); (case hg => rfl); (case hr => first | (go_simp; done) | (go_simp; rfl)); intro gr hg wr hbox hb; have Sr := (S'.out).box hg hbox hb; have cr1 := blk_cell (Sr.at_ 0 rfl) 0; simp only [List.getElem?_toArray, List.getElem?_cons_zero, List.getElem?_cons_succ] at cr1; have Sr' := Aside0.mk Sr; clear hbox hb hg Sr) | ((with_reducible refine gate_dst (N := 3) rfl ?_); refine box_event ?hg (N := 3) ?hd (cs := #[.int .u64 0]) (t := 22) ?hr ?_; (case hd => rfl); (case hg => rfl); (case hr => first | (go_simp; done) | (go_simp; rfl)); intro gn hg wn hbox hb; have Sn := (Sr'.out).box hg hbox hb; have cr3 := blk_cell (Sn.at_ 1 rfl) 0; have cn3 := blk_cell (Sn.at_ 0 rfl) 0; have fn3 := blk_frozen (Sn.at_ 0 rfl) 0; simp only [List.getElem?_toArray, List.getElem?_cons_zero, List.getElem?_cons_succ] at cr3 cn3; have Sn' := Aside0.mk Sn; clear hbox hb hg Sn) | (go_at_call 30; refine (try_none Sn'.out _).mono ?_; rintro e w1 ⟨rfl, S1⟩; have S1' := Aside0.mk S1; clear S1))
  go_ret
  exact ⟨rfl, S1'.out.keep _ (.cons _ (.cons _ (.refl _)))⟩
set_option maxHeartbeats 4000000 in
theorem Text_nil {own : List Nat} {w0 w : World} {L : List (Nat × Nat × Array Value)} {m : Int} (S : Boxes own w0 w L) : Calls Try.prog 17 #[.pointer none, .int .i64 m] w fun x w1 => x = .returned (.string ⟨#[]⟩) ∧ Boxes own w0 w1 L := by
  have S' := Aside0.mk S
  clear S
  go_enter Try.func17, Try.ntmps17
  go_wp2_with (first | ((with_reducible refine gate_dst (N := 2) rfl ?_); refine box_event ?hg (N := 2) ?hd (cs := #[.pointer none]) (t := 31) ?hr ?_; (case hd => rfl); (case hg => rfl); (case hr => first | (go_simp; done) | (go_simp; rfl)); intro gr hg wr hbox hb; have Sr := (S'.out).box hg hbox hb; have cr1 := blk_cell (Sr.at_ 0 rfl) 0; simp only [List.getElem?_toArray, List.getElem?_cons_zero, List.getElem?_cons_succ] at cr1; have Sr' := Aside0.mk Sr; clear hbox hb hg Sr) | ((with_reducible refine gate_dst (N := 3) rfl ?_); refine box_event ?hg (N := 3) ?hd (cs := #[.int .i64 m]) (t := 3) ?hr ?_; (case hd => rfl); (case hg => rfl); (case hr => first | (go_simp; done) | (go_simp; rfl)); intro gm hg wm hbox hb; have Sm := (Sr'.out).box hg hbox hb; have cr2 := blk_cell (Sm.at_ 1 rfl) 0; simp only [List.getElem?_toArray, List.getElem?_cons_zero, List.getElem?_cons_succ] at cr2; have Sm' := Aside0.mk Sm; clear hbox hb hg Sm) | ((with_reducible refine gate_dst (N := 5) rfl ?_); refine box_event ?hg (N := 5) ?hd (cs := #[.string ⟨#[]⟩]) (t := 9) ?hr ?_; (case hd => rfl); (case hg => rfl); (case hr => first | (go_simp; done) | (go_simp; rfl)); intro gn hg wn hbox hb; have Sn := (Sm'.out).box hg hbox hb; have cr3 := blk_cell (Sn.at_ 2 rfl) 0; have cn3 := blk_cell (Sn.at_ 0 rfl) 0; have fn3 := blk_frozen (Sn.at_ 0 rfl) 0; simp only [List.getElem?_toArray, List.getElem?_cons_zero, List.getElem?_cons_succ] at cr3 cn3; have m1 := Sn.ne 0 2 rfl rfl (by decide); have m2 := Sn.ne 2 0 rfl rfl (by decide); have Sn' := Aside0.mk (Sn.set 0 rfl 0 (.string ⟨#[]⟩));  clear hbox hb hg Sn) | (go_at_call 30; refine (try_none Sn'.out _).mono ?_; rintro e w1 ⟨rfl, S1⟩; have S1' := Aside0.mk S1; clear S1))
  go_ret
  exact ⟨rfl, S1'.out.keep _ (.cons _ (.cons _ (.cons _ (.refl _))))⟩
theorem Int_nil {own : List Nat} {w0 w : World} {L : List (Nat × Nat × Array Value)} (S : Boxes own w0 w L) : Calls Try.prog 16 #[.pointer none] w fun x w1 => x = .returned (.int .i64 0) ∧ Boxes own w0 w1 L := by
  have S' := Aside0.mk S
  clear S
  go_enter Try.func16, Try.ntmps16
  go_wp2_with (go_at_call 15; refine (Uint_nil S'.out).mono ?_; rintro e w1 ⟨rfl, S1⟩; have S1' := Aside0.mk S1; clear S1)
  go_ret
  exact ⟨by first | rfl | (kernel_rfl), S1'.out⟩
theorem lives_1 : wire_PutUint.f 5 ⟨#[]⟩ 300 = some ⟨#[172, 2]⟩ := by kernel_rfl
theorem lives_2 : wire_PutInt.f 5 ⟨#[]⟩ (-3) = some ⟨#[5]⟩ := by kernel_rfl
theorem lives_3 : wire_PutText.f 5 ⟨#[97]⟩ ⟨#[98, 99]⟩ = some ⟨#[97, 2, 98, 99]⟩ := by kernel_rfl
theorem lives_4 : wire_Reader_Uint.f 5 ⟨#[128]⟩ 0 0 = some (0, ⟨#[128]⟩, 0, 3) := by kernel_rfl
def mapmakerlaw02_lives.f : Option Bool := some true
set_option maxHeartbeats 4000000 in
theorem mapmakerlaw02_lives.calls (r : Bool) (w : World) (h : mapmakerlaw02_lives.f = some r) : Calls Try.prog 7 #[] w fun e w' => e = .returned (.bool r) ∧ Below w.heap.size w w' := by
  obtain rfl := Option.some.inj h
  go_enter Try.func7, Try.ntmps7
  go_wp2_with (first
                | (go_at_call 14; (with_reducible refine (wire_Read.calls ⟨#[128]⟩ _ _ _ w w (Below.refl _ _) rfl).mono ?_); rintro e' w1 ⟨g, rfl, hI, hB, -⟩; have S := boxes_new hB hI.1 hI.2; have S1' := Aside0.mk S; clear hI hB S)
                | (go_at_call 8; (with_reducible refine (wire_PutUint.calls 5 _ _ _ _ lives_1).mono ?_); rintro e' w2 ⟨rfl, hB⟩; have S2' := Aside0.mk (S1'.out.step hB); clear hB)
                | (go_at_call 10; (with_reducible refine (wire_PutInt.calls 5 _ _ _ _ lives_2).mono ?_); rintro e' w3 ⟨rfl, hB⟩; have S3' := Aside0.mk (S2'.out.step hB); clear hB)
                | (go_at_call 12; (with_reducible refine (wire_PutText.calls 5 _ _ _ _ lives_3).mono ?_); rintro e' w4 ⟨rfl, hB⟩; have S4' := Aside0.mk (S3'.out.step hB); clear hB)
                | (go_at_call 15; (with_reducible refine (Uint_walk S4'.out lives_4).mono ?_); rintro e' w5 ⟨rfl, S⟩; have S5' := Aside0.mk S; clear S)
                | (go_at_call 20; have X := err_boxes S5'.out 0 rfl; (with_reducible refine X.mono ?_); clear X; rintro e' w6 ⟨rfl, S⟩; have S6' := Aside0.mk S; clear S)
                | (go_at_call 19; have X := left_boxes (v := 1) S6'.out 0 rfl (by first | rfl | kernel_rfl); (with_reducible refine X.mono ?_); clear X; rintro e' w7 ⟨rfl, S⟩; have S7' := Aside0.mk S; clear S)
                | (go_at_call 20; (with_reducible refine (err_nil S7'.out).mono ?_); rintro e' w8 ⟨rfl, S⟩; have S8' := Aside0.mk S; clear S)
                | (go_at_call 18; (with_reducible refine (done_nil S8'.out).mono ?_); rintro e' w9 ⟨rfl, S⟩; have S9' := Aside0.mk S; clear S)
                | (go_at_call 17; (with_reducible refine (Text_nil S9'.out).mono ?_); rintro e' w10 ⟨rfl, S⟩; have S10' := Aside0.mk S; clear S)
                | (go_at_call 16; (with_reducible refine (Int_nil S10'.out).mono ?_); rintro e' w11 ⟨rfl, S⟩; have S11' := Aside0.mk S; clear S))
  go_ret
  exact ⟨rfl, S11'.out.below⟩


/-! ### mapmakerref02_PutUint: function 9 -/
def mapmakerref02_PutUint.l0 : Nat → ByteArray → Int → Option (ByteArray)
  | 0, _, _ => none
  | k + 1, x0, x1 => if x1 ≥ 128 then ((some (([(IntKind.u64.wrap (128 + (Int.tmod x1 128))) % 256] : List Int) : List Int)).bind fun y127 => (if x0.size + (strOfNums y127).size ≤ 9223372036854775807 then (mapmakerref02_PutUint.l0 k (x0 ++ (strOfNums y127)) (IntKind.u64.wrap (Int.tdiv x1 128))) else (none))) else ((some (([(x1) % 256] : List Int) : List Int)).bind fun y130 => (if x0.size + (strOfNums y130).size ≤ 9223372036854775807 then (some (x0 ++ (strOfNums y130))) else (none)))
def mapmakerref02_PutUint.f (k : Nat) (a0 : ByteArray) (a1 : Int) : Option (ByteArray) := mapmakerref02_PutUint.l0 k a0 a1
theorem mapmakerref02_PutUint.mono_l : ∀ k, (∀ y0 y1, LeO (mapmakerref02_PutUint.l0 k y0 y1) (mapmakerref02_PutUint.l0 (k + 1) y0 y1))
  | 0 => fun _ _ r h => by simp [mapmakerref02_PutUint.l0] at h
  | k + 1 => by
    have ih0 := mapmakerref02_PutUint.mono_l k
    · intro y0 y1
      unfold mapmakerref02_PutUint.l0
      repeat' first
      | (with_reducible exact ih0 _ _)
      | (with_reducible exact LeO.refl _)
      | (with_reducible exact LeO.none _)
      | (with_reducible refine LeO.ite ?_ ?_)
      | (with_reducible refine LeO.bind ?_ (fun _ => ?_))
      | exact ih0 _ _
      | exact LeO.none _
      | refine LeO.ite ?_ ?_
      | refine LeO.bind ?_ (fun _ => ?_)
theorem mapmakerref02_PutUint.mono : ∀ a0 a1 k, LeO (mapmakerref02_PutUint.f k a0 a1) (mapmakerref02_PutUint.f (k + 1) a0 a1) := by
  intro a0 a1 k
  have ih0 := mapmakerref02_PutUint.mono_l k
  unfold mapmakerref02_PutUint.f
  repeat' first
      | (with_reducible exact ih0 _ _)
      | (with_reducible exact LeO.refl _)
      | (with_reducible exact LeO.none _)
      | (with_reducible refine LeO.ite ?_ ?_)
      | (with_reducible refine LeO.bind ?_ (fun _ => ?_))
      | exact ih0 _ _
      | exact LeO.none _
      | refine LeO.ite ?_ ?_
      | refine LeO.bind ?_ (fun _ => ?_)
set_option maxHeartbeats 8000000 in
set_option maxRecDepth 100000 in
theorem mapmakerref02_PutUint.calls (k : Nat) (a0 : ByteArray) (a1 : Int) (r : ByteArray) (w : World) (h : mapmakerref02_PutUint.f k a0 a1 = some r) :
    Calls Try.prog 9 #[.string a0, .int .u64 a1] w fun e w' => e = .returned (.string r) ∧ Below w.heap.size w w' := by
  have HB := Aside0.mk (Below.refl w.heap.size w)
  have H : (mapmakerref02_PutUint.l0 k a0 a1) = some r := h
  clear h
  have H' := Aside0.mk H
  clear H
  go_enter Try.func9, Try.ntmps9
  go_wp2
  go_loopg [0, 1] k (fun kq v0 v1 w' => ∃ (x0_1 : ByteArray) (x1_1 : Int), v0 = .string x0_1 ∧ v1 = .int .u64 x1_1 ∧ Aside0 (mapmakerref02_PutUint.l0 kq x0_1 x1_1 = some r) ∧ Aside0 (kq ≤ k) ∧ Aside0 (Below w.heap.size w w'))
  case atStart => exact ⟨(a0), (a1), (by first | rfl | (simp; done) | (simp [*]; done)), (by first | rfl | (simp; done) | (simp [*]; done)), H', ⟨Nat.le_refl _⟩, ⟨by repeat (first | (with_reducible first | exact HB.out | apply below_alloc | apply pw_below_drewN | apply below_drew1) | exact HB.out)⟩⟩
  case round =>
    clear H'
    try clear p2
    obtain ⟨x0_1, x1_1, rfl, rfl, HA, HK1, HB⟩ := hrel
    cases gk with
    | zero => exact absurd HA.out (by simp [mapmakerref02_PutUint.l0])
    | succ k1 =>
      have H := HA.out
      clear HA
      simp only [mapmakerref02_PutUint.l0] at H
      by_cases c3 : x1_1 ≥ 128
      · rw [if_pos c3] at H
        have c3b0 : decide (128 ≤ x1_1) = true := decide_eq_true c3
        clear c3
        obtain ⟨y127, hy127⟩ : ∃ y_ : List Int, y_ = (([(IntKind.u64.wrap (128 + (Int.tmod x1_1 128))) % 256] : List Int)) := ⟨_, rfl⟩
        replace H : (if x0_1.size + (strOfNums y127).size ≤ 9223372036854775807 then (mapmakerref02_PutUint.l0 k1 (x0_1 ++ (strOfNums y127)) (IntKind.u64.wrap (Int.tdiv x1_1 128))) else (none)) = some r := by first | (rw [hy127]; with_reducible exact H) | (have H2_ := (Option.bind_some _ _).symm.trans H; rw [hy127]; with_reducible exact H2_) | (have H2_ := (Option.bind_some _ _).symm.trans H; with_reducible exact H2_) | with_reducible exact H | (rw [hy127]; exact H) | exact H
        have Ny127 := Aside0.mk hy127
        clear hy127
        by_cases c4 : x0_1.size + (strOfNums y127).size ≤ 9223372036854775807
        · rw [if_pos c4] at H
          have c4b0 := eq_true c4
          have c4b1 : decide (x0_1.size + (strOfNums y127).size ≤ 9223372036854775807) = true := decide_eq_true c4
          try have c4b2 : (9223372036854775807 < x0_1.size + (strOfNums y127).size) = False := eq_false (Nat.not_lt.2 c4)
          have H' := Aside0.mk H
          clear H
          go_wp2_with (first | ((with_reducible refine gate_dst (N := 12) rfl ?_); refine Kd.R_lit (Kd.int .u8) _ 5 ?hg (N := 12) ?hd (xs := ([(IntKind.u64.wrap (128 + (Int.tmod x1_1 128))) % 256] : List Int)) (inner := [.int .u8 ((IntKind.u64.wrap (128 + (Int.tmod x1_1 128))) % 256)]) (ok := fun _ => True) (okp := fun _ => True) ?hr ?hp (fun _ hk => hk) trivial (Below.refl _ _) (Nat.le_refl _) (by simp) ?_; (case hd => rfl); (case hg => rfl); (case hr => first | (go_simp; done) | (go_simp; rfl)); (case hp => exact (Reps.one (show Kd.M (Kd.int .u8) _ _ _ ((IntKind.u64.wrap (128 + (Int.tmod x1_1 128))) % 256) [.int .u8 ((IntKind.u64.wrap (128 + (Int.tmod x1_1 128))) % 256)] from rfl) (Reps.none _ _))); intro v128 w5 ho6 hb hg_ hnew_; clear hg_ hnew_; (first | rw [← Ny127.out] at ho6 | (simp only [Int.reduceToNat] at ho6; rw [← Ny127.out] at ho6)); have n0_ := Aside0.mk (Kd.R_lower ho6 (below_size (by repeat (first | (with_reducible first | exact HB.out | apply below_alloc | apply pw_below_drewN | apply below_drew1) | exact HB.out)))); have n1_ := Aside0.mk (below_step (by repeat (first | (with_reducible first | exact HB.out | apply below_alloc | apply pw_below_drewN | apply below_drew1) | exact HB.out)) hb); clear HB; have HO129 := n0_; have HB := n1_; clear n0_ n1_; clear hb ho6; have hcv7 := own_string (P := Try.prog) Try.underlying56 Try.underlying5 Try.underlying9 (Kd.own_of_R HO129.out)))
          go_roundg k1
          case measure => have := HK1.out; omega
          case rel => exact ⟨(x0_1 ++ (strOfNums y127)), (IntKind.u64.wrap (Int.tdiv x1_1 128)), (by first | rfl | (simp; done) | (simp [*]; done)), (by first | rfl | (simp; done) | (simp [*]; done)), H', ⟨by have := HK1.out; omega⟩, ⟨by repeat (first | (with_reducible first | exact HB.out | apply below_alloc | apply pw_below_drewN | apply below_drew1) | exact HB.out)⟩⟩
        · rw [if_neg c4] at H
          exact absurd H (by simp)
      · rw [if_neg c3] at H
        have c3b0 : decide (128 ≤ x1_1) = false := decide_eq_false c3
        clear c3
        obtain ⟨y130, hy130⟩ : ∃ y_ : List Int, y_ = (([(x1_1) % 256] : List Int)) := ⟨_, rfl⟩
        replace H : (if x0_1.size + (strOfNums y130).size ≤ 9223372036854775807 then (some (x0_1 ++ (strOfNums y130))) else (none)) = some r := by first | (rw [hy130]; with_reducible exact H) | (have H2_ := (Option.bind_some _ _).symm.trans H; rw [hy130]; with_reducible exact H2_) | (have H2_ := (Option.bind_some _ _).symm.trans H; with_reducible exact H2_) | with_reducible exact H | (rw [hy130]; exact H) | exact H
        have Ny130 := Aside0.mk hy130
        clear hy130
        by_cases c8 : x0_1.size + (strOfNums y130).size ≤ 9223372036854775807
        · rw [if_pos c8] at H
          have c8b0 := eq_true c8
          have c8b1 : decide (x0_1.size + (strOfNums y130).size ≤ 9223372036854775807) = true := decide_eq_true c8
          try have c8b2 : (9223372036854775807 < x0_1.size + (strOfNums y130).size) = False := eq_false (Nat.not_lt.2 c8)
          obtain rfl := Option.some.inj H
          go_wp2_with (first | ((with_reducible refine gate_dst (N := 20) rfl ?_); refine Kd.R_lit (Kd.int .u8) _ 5 ?hg (N := 20) ?hd (xs := ([(x1_1) % 256] : List Int)) (inner := [.int .u8 ((x1_1) % 256)]) (ok := fun _ => True) (okp := fun _ => True) ?hr ?hp (fun _ hk => hk) trivial (Below.refl _ _) (Nat.le_refl _) (by simp) ?_; (case hd => rfl); (case hg => rfl); (case hr => first | (go_simp; done) | (go_simp; rfl)); (case hp => exact (Reps.one (show Kd.M (Kd.int .u8) _ _ _ ((x1_1) % 256) [.int .u8 ((x1_1) % 256)] from rfl) (Reps.none _ _))); intro v131 w9 ho10 hb hg_ hnew_; clear hg_ hnew_; (first | rw [← Ny130.out] at ho10 | (simp only [Int.reduceToNat] at ho10; rw [← Ny130.out] at ho10)); have n0_ := Aside0.mk (Kd.R_lower ho10 (below_size (by repeat (first | (with_reducible first | exact HB.out | apply below_alloc | apply pw_below_drewN | apply below_drew1) | exact HB.out)))); have n1_ := Aside0.mk (below_step (by repeat (first | (with_reducible first | exact HB.out | apply below_alloc | apply pw_below_drewN | apply below_drew1) | exact HB.out)) hb); clear HB; have HO132 := n0_; have HB := n1_; clear n0_ n1_; clear hb ho10; have hcv11 := own_string (P := Try.prog) Try.underlying56 Try.underlying5 Try.underlying9 (Kd.own_of_R HO132.out)))
          go_ret
          exact ⟨by first | rfl | (simp [errW_none, errW_some] <;> rfl) | (simp [*, errW_none, errW_some] <;> rfl), by repeat (first | (with_reducible first | exact HB.out | apply below_alloc | apply pw_below_drewN | apply below_drew1) | exact HB.out)⟩
        · rw [if_neg c8] at H
          exact absurd H (by simp)

/-! ### mapmakerref02_PutInt: function 11 -/
def mapmakerref02_PutInt.f (k : Nat) (a0 : ByteArray) (a1 : Int) : Option (ByteArray) := if a1 < 0 then ((mapmakerref02_PutUint.f k a0 (IntKind.u64.wrap ((IntKind.u64.wrap ((IntKind.u64.wrap (wrap64 (-(wrap64 (a1 + 1))))) * 2)) + 1))).bind fun t133 => (some t133)) else ((mapmakerref02_PutUint.f k a0 (IntKind.u64.wrap ((IntKind.u64.wrap (a1)) * 2))).bind fun t134 => (some t134))
theorem mapmakerref02_PutInt.mono : ∀ a0 a1 k, LeO (mapmakerref02_PutInt.f k a0 a1) (mapmakerref02_PutInt.f (k + 1) a0 a1) := by
  intro a0 a1 k
  unfold mapmakerref02_PutInt.f
  repeat' first
      | (with_reducible exact mapmakerref02_PutUint.mono _ _ _)
      | (with_reducible exact LeO.refl _)
      | (with_reducible exact LeO.none _)
      | (with_reducible refine LeO.ite ?_ ?_)
      | (with_reducible refine LeO.bind ?_ (fun _ => ?_))
      | exact mapmakerref02_PutUint.mono _ _ _
      | exact LeO.none _
      | refine LeO.ite ?_ ?_
      | refine LeO.bind ?_ (fun _ => ?_)
set_option maxHeartbeats 8000000 in
set_option maxRecDepth 100000 in
theorem mapmakerref02_PutInt.calls (k : Nat) (a0 : ByteArray) (a1 : Int) (r : ByteArray) (w : World) (h : mapmakerref02_PutInt.f k a0 a1 = some r) :
    Calls Try.prog 11 #[.string a0, .int .i64 a1] w fun e w' => e = .returned (.string r) ∧ Below w.heap.size w w' := by
  have HB := Aside0.mk (Below.refl w.heap.size w)
  have H : (if a1 < 0 then ((mapmakerref02_PutUint.f k a0 (IntKind.u64.wrap ((IntKind.u64.wrap ((IntKind.u64.wrap (wrap64 (-(wrap64 (a1 + 1))))) * 2)) + 1))).bind fun t133 => (some t133)) else ((mapmakerref02_PutUint.f k a0 (IntKind.u64.wrap ((IntKind.u64.wrap (a1)) * 2))).bind fun t134 => (some t134))) = some r := h
  clear h
  by_cases c3 : a1 < 0
  · rw [if_pos c3] at H
    have c3b0 : decide (a1 < 0) = true := decide_eq_true c3
    clear c3
    replace H := Option.bind_eq_some_iff.mp H
    obtain ⟨t133, A40, H⟩ := H
    replace H : (some t133) = some r := H
    have A4 := Aside0.mk A40
    clear A40
    obtain rfl := Option.some.inj H
    go_enter Try.func11, Try.ntmps11
    go_wp2_with (first | ((with_reducible refine gate_callee (f := 9) rfl ?_); refine goesL_ (some 14) rfl rfl Try.func9 (by kernel_rfl) rfl #[.string a0, .int .u64 (IntKind.u64.wrap ((IntKind.u64.wrap ((IntKind.u64.wrap (wrap64 (-(wrap64 (a1 + 1))))) * 2)) + 1))] rfl (by (try simp only [List.map_toArray, List.map_cons, List.map_nil]); first | done | rfl | (simp only [List.length_drop, List.length_take]; rfl)) ?_; (with_reducible refine (mapmakerref02_PutUint.calls k a0 (IntKind.u64.wrap ((IntKind.u64.wrap ((IntKind.u64.wrap (wrap64 (-(wrap64 (a1 + 1))))) * 2)) + 1)) t133 _ A4.out).mono ?_); rintro e w5 ⟨rfl, hb⟩; refine ⟨_, rfl, ?_⟩; have n0_ := Aside0.mk (below_step (by repeat (first | (with_reducible first | exact HB.out | apply below_alloc | apply pw_below_drewN | apply below_drew1) | exact HB.out)) hb); clear HB; have HB := n0_; clear n0_; (try clear hb); (try clear hb2); (try clear hk); (try clear hi)))
    go_ret
    exact ⟨by first | rfl | (simp [errW_none, errW_some] <;> rfl) | (simp [*, errW_none, errW_some] <;> rfl), by repeat (first | (with_reducible first | exact HB.out | apply below_alloc | apply pw_below_drewN | apply below_drew1) | exact HB.out)⟩
  · rw [if_neg c3] at H
    have c3b0 : decide (a1 < 0) = false := decide_eq_false c3
    clear c3
    replace H := Option.bind_eq_some_iff.mp H
    obtain ⟨t134, A60, H⟩ := H
    replace H : (some t134) = some r := H
    have A6 := Aside0.mk A60
    clear A60
    obtain rfl := Option.some.inj H
    go_enter Try.func11, Try.ntmps11
    go_wp2_with (first | ((with_reducible refine gate_callee (f := 9) rfl ?_); refine goesL_ (some 19) rfl rfl Try.func9 (by kernel_rfl) rfl #[.string a0, .int .u64 (IntKind.u64.wrap ((IntKind.u64.wrap (a1)) * 2))] rfl (by (try simp only [List.map_toArray, List.map_cons, List.map_nil]); first | done | rfl | (simp only [List.length_drop, List.length_take]; rfl)) ?_; (with_reducible refine (mapmakerref02_PutUint.calls k a0 (IntKind.u64.wrap ((IntKind.u64.wrap (a1)) * 2)) t134 _ A6.out).mono ?_); rintro e w7 ⟨rfl, hb⟩; refine ⟨_, rfl, ?_⟩; have n0_ := Aside0.mk (below_step (by repeat (first | (with_reducible first | exact HB.out | apply below_alloc | apply pw_below_drewN | apply below_drew1) | exact HB.out)) hb); clear HB; have HB := n0_; clear n0_; (try clear hb); (try clear hb2); (try clear hk); (try clear hi)))
    go_ret
    exact ⟨by first | rfl | (simp [errW_none, errW_some] <;> rfl) | (simp [*, errW_none, errW_some] <;> rfl), by repeat (first | (with_reducible first | exact HB.out | apply below_alloc | apply pw_below_drewN | apply below_drew1) | exact HB.out)⟩

/-! ### mapmakerref02_PutText: function 13 -/
def mapmakerref02_PutText.f (k : Nat) (a0 : ByteArray) (a1 : ByteArray) : Option (ByteArray) := (mapmakerref02_PutUint.f k a0 (IntKind.u64.wrap ((a1.size : Int)))).bind fun t135 => (if t135.size + a1.size ≤ 9223372036854775807 then (some (t135 ++ a1)) else (none))
theorem mapmakerref02_PutText.mono : ∀ a0 a1 k, LeO (mapmakerref02_PutText.f k a0 a1) (mapmakerref02_PutText.f (k + 1) a0 a1) := by
  intro a0 a1 k
  unfold mapmakerref02_PutText.f
  repeat' first
      | (with_reducible exact mapmakerref02_PutUint.mono _ _ _)
      | (with_reducible exact LeO.refl _)
      | (with_reducible exact LeO.none _)
      | (with_reducible refine LeO.ite ?_ ?_)
      | (with_reducible refine LeO.bind ?_ (fun _ => ?_))
      | exact mapmakerref02_PutUint.mono _ _ _
      | exact LeO.none _
      | refine LeO.ite ?_ ?_
      | refine LeO.bind ?_ (fun _ => ?_)
set_option maxHeartbeats 8000000 in
set_option maxRecDepth 100000 in
theorem mapmakerref02_PutText.calls (k : Nat) (a0 : ByteArray) (a1 : ByteArray) (r : ByteArray) (w : World) (h : mapmakerref02_PutText.f k a0 a1 = some r) :
    Calls Try.prog 13 #[.string a0, .string a1] w fun e w' => e = .returned (.string r) ∧ Below w.heap.size w w' := by
  have HB := Aside0.mk (Below.refl w.heap.size w)
  have H : ((mapmakerref02_PutUint.f k a0 (IntKind.u64.wrap ((a1.size : Int)))).bind fun t135 => (if t135.size + a1.size ≤ 9223372036854775807 then (some (t135 ++ a1)) else (none))) = some r := h
  clear h
  replace H := Option.bind_eq_some_iff.mp H
  obtain ⟨t135, A30, H⟩ := H
  replace H : (if t135.size + a1.size ≤ 9223372036854775807 then (some (t135 ++ a1)) else (none)) = some r := H
  have A3 := Aside0.mk A30
  clear A30
  by_cases c4 : t135.size + a1.size ≤ 9223372036854775807
  · rw [if_pos c4] at H
    have c4b0 := eq_true c4
    have c4b1 : decide (t135.size + a1.size ≤ 9223372036854775807) = true := decide_eq_true c4
    try have c4b2 : (9223372036854775807 < t135.size + a1.size) = False := eq_false (Nat.not_lt.2 c4)
    obtain rfl := Option.some.inj H
    have hwz : IntKind.u64.wrap ((a1.size : Int)) = (a1.size : Int) := Go.IntWalk.u64_in _ ⟨by omega, by omega⟩
    have AZ := A3.out
    rw [hwz] at AZ
    have A3 := Aside0.mk AZ
    clear AZ hwz
    go_enter Try.func13, Try.ntmps13
    go_wp2_with (first | ((with_reducible refine gate_callee (f := 9) rfl ?_); refine goesL_ (some 9) rfl rfl Try.func9 (by kernel_rfl) rfl #[.string a0, .int .u64 (a1.size : Int)] rfl (by (try simp only [List.map_toArray, List.map_cons, List.map_nil]); first | done | rfl | (simp only [List.length_drop, List.length_take]; rfl)) ?_; (with_reducible refine (mapmakerref02_PutUint.calls k a0 (a1.size : Int) t135 _ A3.out).mono ?_); rintro e w5 ⟨rfl, hb⟩; refine ⟨_, rfl, ?_⟩; have n0_ := Aside0.mk (below_step (by repeat (first | (with_reducible first | exact HB.out | apply below_alloc | apply pw_below_drewN | apply below_drew1) | exact HB.out)) hb); clear HB; have HB := n0_; clear n0_; (try clear hb); (try clear hb2); (try clear hk); (try clear hi)))
    go_ret
    exact ⟨by first | rfl | (simp [errW_none, errW_some] <;> rfl) | (simp [*, errW_none, errW_some] <;> rfl), by repeat (first | (with_reducible first | exact HB.out | apply below_alloc | apply pw_below_drewN | apply below_drew1) | exact HB.out)⟩
  · rw [if_neg c4] at H
    exact absurd H (by simp)

end Go.Proofs.Ytnnadgnohchmbaa.PALL
