-- Laid by a program of this work (wip/gen): out of the translation, with texts of our own.
import Derived.Test.YtnnadgnohchmbaaPALLx0
import Derived.Test.YtnnadgnohchmbaaPALLx1
import Derived.Test.YtnnadgnohchmbaaPALLx2
namespace Go.Proofs.Ytnnadgnohchmbaa.PALL
open Go.RowKit Go.Proofs.YtnnadgnohchmbaaW.PrintWords Go.Proofs.YtnnadgnohchmbaaW.PrintLast Go.Proofs.YtnnadgnohchmbaaW.PrintMore Go.Proofs.YtnnadgnohchmbaaW.SepW
attribute [local go_sem] max2_int min2_int max_two min_two max_three min_three max_four min_four   -- for this text's walks alone
set_option linter.unusedVariables false
set_option linter.unusedSimpArgs false

/-! by hand -/
/-! ### wire_Reader_Uint: function 15 -/

open Go.Proofs.YtnnadgnohchmbaaW.Lent
theorem boxes_lent {own : List Nat} {w0 w w1 : World} {L : List (Nat × Nat × Array Value)} {g t : Nat} {cs cs' : Array Value} (S : Boxes own w0 w L) (n : Nat) (h : L[n]? = some (g, t, cs)) (T : Boxes [g] w w1 [(g, t, cs')]) :
    Boxes own w0 w1 (L.set n (g, t, cs')) := by
  refine S.call T (fun k hk => ?_) _ (fun b hb => ?_) ?_
  · rw [List.mem_singleton.1 hk]; exact S.mem n h
  · obtain ⟨m, hm⟩ := List.mem_iff_getElem?.1 hb
    rw [List.getElem?_set] at hm
    by_cases e : n = m
    · subst e
      rw [if_pos rfl, if_pos (List.getElem?_eq_some_iff.1 h).1] at hm
      exact .inl (by rw [Option.some.inj hm]; exact List.mem_singleton.2 rfl)
    · rw [if_neg e] at hm
      obtain ⟨b1, b2, b3⟩ := b
      exact .inr ⟨List.mem_of_getElem? hm, by simpa using S.ne m n hm h (Ne.symm e)⟩
  · have : (L.set n (g, t, cs')).map (·.1) = L.map (·.1) := by
      rw [List.map_set]
      apply List.ext_getElem?
      intro i
      rw [List.getElem?_set]
      split
      · rename_i e; subst e
        obtain ⟨h1, h2⟩ := List.getElem?_eq_some_iff.1 h
        simp [h1, h2]
      · rfl
    rw [this]
    exact S.nodup
theorem uint_boxes {k : Nat} {own : List Nat} {w0 w : World} {L : List (Nat × Nat × Array Value)} {g : Nat} {s s2 : ByteArray} {a e v c a2 e2 : Int} (S : Boxes own w0 w L) (n : Nat) (hn : L[n]? = some (g, 59, #[.string s, .int .i64 a, .int .i64 e])) (h : wire_Reader_uint.f k s a e = some (v, c, s2, a2, e2)) :
    Calls Try.prog 32 #[.pointer (some ⟨g, 0, none⟩)] w fun x w1 => x = .returned (.tuple #[.int .u64 v, .int .i64 c]) ∧ Boxes own w0 w1 (L.set n (g, 59, #[.string s2, .int .i64 a2, .int .i64 e2])) :=
  (wire_Reader_uint.calls k g s a e v c s2 a2 e2 (bare w) w ⟨S.at_ n hn, by simp [bare]⟩ (below_bare w) h).mono fun x w1 H =>
    ⟨H.1, boxes_lent S n hn (Boxes.ofTold (below_bare w) H.2.2.1 H.2.2.2 H.2.1.1)⟩
set_option maxHeartbeats 4000000 in
theorem uint1 {k : Nat} {own : List Nat} {w0 w : World} {g gr gn : Nat} {s s2 : ByteArray} {a e v c a2 e2 x : Int}
    (S : Boxes own w0 w [(gr, 31, #[.pointer (some ⟨g, 0, none⟩)]), (gn, 22, #[.int .u64 x]), (g, 59, #[.string s, .int .i64 a, .int .i64 e])]) (h : wire_Reader_uint.f k s a e = some (v, c, s2, a2, e2)) :
    Calls Try.prog 31 #[.pointer (some ⟨gr, 0, none⟩), .pointer (some ⟨gn, 0, none⟩)] w fun e' w' => e' = .returned (.int .i64 c) ∧ Boxes own w0 w' [(gr, 31, #[.pointer (some ⟨g, 0, none⟩)]), (gn, 22, #[.int .u64 v]), (g, 59, #[.string s2, .int .i64 a2, .int .i64 e2])] := by
  have cr := blk_cell (S.at_ 0 rfl) 0
  have cn := blk_cell (S.at_ 1 rfl) 0
  have fn := blk_frozen (S.at_ 1 rfl) 0
  simp only [List.getElem?_toArray, List.getElem?_cons_zero, List.getElem?_cons_succ] at cr cn
  have S' := Aside0.mk S
  clear S
  go_enter Try.func31, Try.ntmps31
  go_wp2_with (go_at_call 32; (with_reducible refine (uint_boxes S'.out 2 rfl h).mono ?_); rintro e' w1 ⟨rfl, S2⟩; have cn1 := blk_cell (S2.at_ 1 rfl) 0; have fn1 := blk_frozen (S2.at_ 1 rfl) 0; simp only [List.set_cons_zero, List.set_cons_succ] at S2; simp only [List.getElem?_toArray, List.getElem?_cons_zero, List.getElem?_cons_succ] at cn1; have S2' := Aside0.mk S2; clear S2)
  go_ret
  exact ⟨rfl, S2'.out.set 1 rfl 0 _⟩
/-- What try leaves of the reader's place and error. -/
def after_ (c at_ a2 e2 : Int) : Int × Int := if c = 0 then (a2, e2) else (at_, c)
set_option maxHeartbeats 4000000 in
theorem try1 {own : List Nat} {w0 w : World} {g ge ga gr go : Nat} {s : ByteArray} {c a0 a2 e2 : Int} {b : Bool} (u : FrameMode)
    (S : Boxes own w0 w [(ge, 36, #[.int .i64 c]), (ga, 3, #[.int .i64 a0]), (gr, 31, #[.pointer (some ⟨g, 0, none⟩)]), (go, 4, #[.bool b]), (g, 59, #[.string s, .int .i64 a2, .int .i64 e2])]) :
    CallsD Try.prog 37 #[.pointer (some ⟨ge, 0, none⟩), .pointer (some ⟨ga, 0, none⟩), .pointer (some ⟨gr, 0, none⟩), .pointer (some ⟨go, 0, none⟩)] u w fun e' u' w' => u' = u ∧ e' = .returned (.tuple #[]) ∧
      Boxes own w0 w' [(ge, 36, #[.int .i64 c]), (ga, 3, #[.int .i64 a0]), (gr, 31, #[.pointer (some ⟨g, 0, none⟩)]), (go, 4, #[.bool (decide (c = 0))]), (g, 59, #[.string s, .int .i64 (after_ c a0 a2 e2).1, .int .i64 (after_ c a0 a2 e2).2])] := by
  have ce := blk_cell (S.at_ 0 rfl) 0
  have ca := blk_cell (S.at_ 1 rfl) 0
  have cr := blk_cell (S.at_ 2 rfl) 0
  have co := blk_cell (S.at_ 3 rfl) 0
  have fo := blk_frozen (S.at_ 3 rfl) 0
  have c1 := blk_cell (S.at_ 4 rfl) 1
  have f1 := blk_frozen (S.at_ 4 rfl) 1
  have c2 := blk_cell (S.at_ 4 rfl) 2
  have f2 := blk_frozen (S.at_ 4 rfl) 2
  have n1 := S.ne 0 4 rfl rfl (by decide)
  have n2 := S.ne 3 4 rfl rfl (by decide)
  have n3 := S.ne 0 3 rfl rfl (by decide)
  have n4 := S.ne 4 0 rfl rfl (by decide)
  have n5 := S.ne 4 3 rfl rfl (by decide)
  have n6 := S.ne 3 0 rfl rfl (by decide)
  simp only [List.getElem?_toArray, List.getElem?_cons_zero, List.getElem?_cons_succ] at ce ca cr co c1 c2
  have S' := Aside0.mk S
  clear S
  by_cases h : c = 0
  · have d : decide (c = 0) = true := decide_eq_true h
    subst h
    go_enter_d Try.func37, Try.ntmps37
    go_wp2
    go_end0
    exact ⟨rfl, by simpa [after_] using S'.out.set 3 rfl 0 (.bool true)⟩
  · have d : decide (c = 0) = false := decide_eq_false h
    have d1 : (c == 0) = false := by simp [h]
    have d2 : (c != 0) = true := by simp [h]
    go_enter_d Try.func37, Try.ntmps37
    go_wp2
    go_end0
    exact ⟨rfl, by simpa [after_, h] using ((S'.out.set 4 rfl 1 (.int .i64 a0)).set 4 rfl 2 (.int .i64 c)).set 3 rfl 0 (.bool false)⟩
theorem boxes_perm {own : List Nat} {w0 w : World} {L M : List (Nat × Nat × Array Value)} (S : Boxes own w0 w L) (h : L.Perm M) : Boxes own w0 w M :=
  ⟨S.os, S.tape, S.output, S.size, S.frame, fun b hb => S.has b (h.mem_iff.2 hb), (h.map _).nodup_iff.1 S.nodup⟩
theorem boxes_start {own : List Nat} {w0 w : World} {A B : List (Nat × Nat × Array Value)} (S : Boxes own w0 w (A ++ B)) : Boxes (A.map (·.1)) w w A :=
  Boxes.start A (fun b hb => (S.has b (List.mem_append_left _ hb)).1) (by have := S.nodup; rw [List.map_append] at this; exact (List.nodup_append.1 this).1)
theorem boxes_sub {own : List Nat} {w0 w w1 : World} {A A' B : List (Nat × Nat × Array Value)} (S : Boxes own w0 w (A ++ B)) (T : Boxes (A.map (·.1)) w w1 A') (h : A'.map (·.1) = A.map (·.1)) : Boxes own w0 w1 (A' ++ B) := by
  have nd := S.nodup
  rw [List.map_append] at nd
  refine S.call T (fun k hk => ?_) _ (fun b hb => ?_) ?_
  · obtain ⟨b, h1, rfl⟩ := List.mem_map.1 hk
    exact (S.has b (List.mem_append_left _ h1)).2
  · rcases List.mem_append.1 hb with h1 | h1
    · exact .inl h1
    · exact .inr ⟨List.mem_append_right _ h1, fun h2 => (List.nodup_append.1 nd).2.2 _ h2 _ (List.mem_map_of_mem h1) rfl⟩
  · rw [List.map_append, h]; exact nd
set_option maxHeartbeats 4000000 in
theorem try_none {own : List Nat} {w0 w : World} {L : List (Nat × Nat × Array Value)} (S : Boxes own w0 w L) (read : Value) :
    Calls Try.prog 30 #[.pointer none, read] w fun e' w1 => e' = .returned (.bool false) ∧ Boxes own w0 w1 L := by
  have S' := Aside0.mk S
  clear S
  go_enter_defers Try.func30, Try.ntmps30
  go_wp2_with (first | ((with_reducible refine gate_dst (N := 2) rfl ?_); refine box_event ?hg (N := 2) ?hd (cs := #[.pointer none]) (t := 31) ?hr ?_; (case hd => rfl); (case hg => rfl); (case hr => first | (go_simp; done) | (go_simp; rfl)); intro g2 hg w2 hbox hb; have S2 := (S'.out).box hg hbox hb; have cr2 := blk_cell (S2.at_ 0 rfl) 0; simp only [List.getElem?_toArray, List.getElem?_cons_zero, List.getElem?_cons_succ] at cr2; have S2' := Aside0.mk S2; clear hbox hb hg S2) | ((with_reducible refine gate_dst (N := 4) rfl ?_); refine box_event ?hg (N := 4) ?hd (cs := #[.bool false]) (t := 4) ?hr ?_; (case hd => rfl); (case hg => rfl); (case hr => first | (go_simp; done) | (go_simp; rfl)); intro g4 hg w4 hbox hb; have S4 := (S2'.out).box hg hbox hb; have cr4 := blk_cell (S4.at_ 1 rfl) 0; have co4 := blk_cell (S4.at_ 0 rfl) 0; have fo4 := blk_frozen (S4.at_ 0 rfl) 0; simp only [List.getElem?_toArray, List.getElem?_cons_zero, List.getElem?_cons_succ] at cr4 co4; have S4' := Aside0.mk S4; clear hbox hb hg S4))
  have S5 := S4'.out.set 0 rfl 0 (.bool false)
  have c5 : (w4.setCell ⟨g4, 0, none⟩ (.bool false)).cell? ⟨g4, 0, none⟩ = some (.bool false) := (blk_cell (S5.at_ 0 rfl) 0).trans rfl
  refine ⟨.bool false, by simp [results, Try.results30, go_sem, c5], rfl, S5.keep _ (.cons _ (.cons _ (.refl _)))⟩
set_option maxHeartbeats 4000000 in
theorem try_err {own : List Nat} {w0 w : World} {L : List (Nat × Nat × Array Value)} {g : Nat} {s : ByteArray} {a e : Int} (S : Boxes own w0 w ((g, 59, #[.string s, .int .i64 a, .int .i64 e]) :: L)) (he : ¬ e = 0) (read : Value) :
    Calls Try.prog 30 #[.pointer (some ⟨g, 0, none⟩), read] w fun e' w1 => e' = .returned (.bool false) ∧ Boxes own w0 w1 ((g, 59, #[.string s, .int .i64 a, .int .i64 e]) :: L) := by
  have d1 : (e == 0) = false := by simp [he]
  have d2 : (e != 0) = true := by simp [he]
  have S' := Aside0.mk S
  clear S
  go_enter_defers Try.func30, Try.ntmps30
  go_wp2_with (first | ((with_reducible refine gate_dst (N := 2) rfl ?_); refine box_event ?hg (N := 2) ?hd (cs := #[.pointer (some ⟨g, 0, none⟩)]) (t := 31) ?hr ?_; (case hd => rfl); (case hg => rfl); (case hr => first | (go_simp; done) | (go_simp; rfl)); intro g2 hg w2 hbox hb; have S2 := (S'.out).box hg hbox hb; have cr2 := blk_cell (S2.at_ 0 rfl) 0; simp only [List.getElem?_toArray, List.getElem?_cons_zero, List.getElem?_cons_succ] at cr2; have S2' := Aside0.mk S2; clear hbox hb hg S2) | ((with_reducible refine gate_dst (N := 4) rfl ?_); refine box_event ?hg (N := 4) ?hd (cs := #[.bool false]) (t := 4) ?hr ?_; (case hd => rfl); (case hg => rfl); (case hr => first | (go_simp; done) | (go_simp; rfl)); intro g4 hg w4 hbox hb; have S4 := (S2'.out).box hg hbox hb; have cr4 := blk_cell (S4.at_ 1 rfl) 0; have co4 := blk_cell (S4.at_ 0 rfl) 0; have fo4 := blk_frozen (S4.at_ 0 rfl) 0; have ce4 := blk_cell (S4.at_ 2 rfl) 2; simp only [List.getElem?_toArray, List.getElem?_cons_zero, List.getElem?_cons_succ] at cr4 co4 ce4; have S4' := Aside0.mk S4; clear hbox hb hg S4))
  have S5 := S4'.out.set 0 rfl 0 (.bool false)
  have c5 : (w4.setCell ⟨g4, 0, none⟩ (.bool false)).cell? ⟨g4, 0, none⟩ = some (.bool false) := (blk_cell (S5.at_ 0 rfl) 0).trans rfl
  refine ⟨.bool false, by simp [results, Try.results30, go_sem, c5], rfl, S5.keep _ (.cons _ (.cons _ (.refl _)))⟩
set_option maxHeartbeats 4000000 in
theorem try_ok {f : Nat} {caps : Array Value} {own : List Nat} {w0 w : World} {L L1 : List (Nat × Nat × Array Value)} {g : Nat} {s s2 : ByteArray} {a a2 e2 c : Int} (S : Boxes own w0 w ((g, 59, #[.string s, .int .i64 a, .int .i64 0]) :: L))
    (hc : ∀ w1, Boxes (((g, 59, #[.string s, .int .i64 a, .int .i64 0]) :: L).map (·.1)) w1 w1 ((g, 59, #[.string s, .int .i64 a, .int .i64 0]) :: L) →
      Calls Try.prog f caps w1 fun e' w2 => e' = .returned (.int .i64 c) ∧ Boxes (((g, 59, #[.string s, .int .i64 a, .int .i64 0]) :: L).map (·.1)) w1 w2 ((g, 59, #[.string s2, .int .i64 a2, .int .i64 e2]) :: L1))
    (hL : L1.map (·.1) = L.map (·.1)) (hcf : ∀ w : World, (callFunc f caps).run Try.prog w = .ok (.enter f caps) w) :
    Calls Try.prog 30 #[.pointer (some ⟨g, 0, none⟩), .func (.func f) #[] caps] w fun e' w1 => e' = .returned (.bool (decide (c = 0))) ∧ Boxes own w0 w1 ((g, 59, #[.string s2, .int .i64 (after_ c a a2 e2).1, .int .i64 (after_ c a a2 e2).2]) :: L1) := by
  have hmf : ∀ (fn : Fn) (first cap : Array Value) (w : World), (Instr.makeFunc fn first cap).run Try.prog w = .ok (.func fn first cap) w := fun _ _ _ _ => rfl
  have S' := Aside0.mk S
  clear S
  go_enter_defers Try.func30, Try.ntmps30
  go_wp2_with (first | ((with_reducible refine gate_dst (N := 2) rfl ?_); refine box_event ?hg (N := 2) ?hd (cs := #[.pointer (some ⟨g, 0, none⟩)]) (t := 31) ?hr ?_; (case hd => rfl); (case hg => rfl); (case hr => first | (go_simp; done) | (go_simp; rfl)); intro g2 hg w2 hbox hb; have S2 := (S'.out).box hg hbox hb; have cr2 := blk_cell (S2.at_ 0 rfl) 0; simp only [List.getElem?_toArray, List.getElem?_cons_zero, List.getElem?_cons_succ] at cr2; have S2' := Aside0.mk S2; clear hbox hb hg S2) | ((with_reducible refine gate_dst (N := 4) rfl ?_); refine box_event ?hg (N := 4) ?hd (cs := #[.bool false]) (t := 4) ?hr ?_; (case hd => rfl); (case hg => rfl); (case hr => first | (go_simp; done) | (go_simp; rfl)); intro g4 hg w4 hbox hb; have S4 := (S2'.out).box hg hbox hb; have cr4 := blk_cell (S4.at_ 1 rfl) 0; have co4 := blk_cell (S4.at_ 0 rfl) 0; have fo4 := blk_frozen (S4.at_ 0 rfl) 0; have ce4 := blk_cell (S4.at_ 2 rfl) 2; have cp4 := blk_cell (S4.at_ 2 rfl) 1; simp only [List.getElem?_toArray, List.getElem?_cons_zero, List.getElem?_cons_succ] at cr4 co4 ce4 cp4; have S4' := Aside0.mk S4; clear hbox hb hg S4) | ((with_reducible refine gate_dst (N := 5) rfl ?_); refine box_event ?hg (N := 5) ?hd (cs := #[.int .i64 0]) (t := 3) ?hr ?_; (case hd => rfl); (case hg => rfl); (case hr => first | (go_simp; done) | (go_simp; rfl)); intro g5 hg w5 hbox hb; have S5 := (S4'.out).box hg hbox hb; have ct5 := blk_cell (S5.at_ 0 rfl) 0; have ft5 := blk_frozen (S5.at_ 0 rfl) 0; simp only [List.getElem?_toArray, List.getElem?_cons_zero, List.getElem?_cons_succ] at ct5; have S5' := Aside0.mk S5; clear hbox hb hg S5) | ((with_reducible refine gate_dst (N := 6) rfl ?_); refine box_event ?hg (N := 6) ?hd (cs := #[.int .i64 0]) (t := 36) ?hr ?_; (case hd => rfl); (case hg => rfl); (case hr => first | (go_simp; done) | (go_simp; rfl)); intro g6 hg w6 hbox hb; have S6 := (S5'.out).box hg hbox hb; have ct6 := blk_cell (S6.at_ 1 rfl) 0; have ft6 := blk_frozen (S6.at_ 1 rfl) 0; have ce6 := blk_cell (S6.at_ 0 rfl) 0; have fe6 := blk_frozen (S6.at_ 0 rfl) 0; simp only [List.getElem?_toArray, List.getElem?_cons_zero, List.getElem?_cons_succ] at ct6 ce6; have S6' := Aside0.mk S6; clear hbox hb hg S6; have n1 := S6'.out.ne 0 1 rfl rfl (by decide); have n2 := S6'.out.ne 1 0 rfl rfl (by decide); have S7' := Aside0.mk (show Boxes own w0 _ ([(g6, 36, #[.int .i64 0]), (g5, 3, #[.int .i64 a]), (g4, 4, #[.bool false]), (g2, 31, #[.pointer (some ⟨g, 0, none⟩)])] ++ ((g, 59, #[.string s, .int .i64 a, .int .i64 0]) :: L)) from (S6'.out.set 1 rfl 0 (.int .i64 a)).set 0 rfl 0 (.int .i64 0)); have Hc := Aside0.mk (hc _ (boxes_start (boxes_perm S7'.out List.perm_append_comm)))))
  refine (Hc.out).mono ?_
  rintro e' w8 ⟨rfl, T8⟩
  have S8 : Boxes own w0 w8 ([(g6, 36, #[.int .i64 0]), (g5, 3, #[.int .i64 a]), (g2, 31, #[.pointer (some ⟨g, 0, none⟩)]), (g4, 4, #[.bool false]), (g, 59, #[.string s2, .int .i64 a2, .int .i64 e2])] ++ L1) :=
    boxes_perm (boxes_sub (boxes_perm S7'.out List.perm_append_comm) T8 (by simp [hL])) (List.perm_append_comm.trans (((List.Perm.swap _ _ _).cons _).cons _))
  have c8 := blk_cell (S8.at_ 0 rfl) 0
  have f8 := blk_frozen (S8.at_ 0 rfl) 0
  have S9' := Aside0.mk (show Boxes own w0 _ ([(g6, 36, #[.int .i64 c]), (g5, 3, #[.int .i64 a]), (g2, 31, #[.pointer (some ⟨g, 0, none⟩)]), (g4, 4, #[.bool false]), (g, 59, #[.string s2, .int .i64 a2, .int .i64 e2])] ++ L1) from S8.set 0 rfl 0 (.int .i64 c))
  clear S8 T8
  simp only [List.getElem?_toArray, List.getElem?_cons_zero] at c8
  go_wp2
  refine leaves_cons (f := 37) (args := #[.pointer (some ⟨g6, 0, none⟩), .pointer (some ⟨g5, 0, none⟩), .pointer (some ⟨g2, 0, none⟩), .pointer (some ⟨g4, 0, none⟩)]) (by simp) (by simp [go_sem]) ?_
  refine (try1 .returning (boxes_start S9'.out)).mono ?_
  rintro e' u' w'' ⟨rfl, rfl, T⟩
  have S10 := boxes_sub S9'.out T rfl
  have c10 : w''.cell? ⟨g4, 0, none⟩ = some (.bool (decide (c = 0))) := blk_cell (S10.at_ 3 rfl) 0
  refine ⟨.bool (decide (c = 0)), by simp [results, Try.results30, go_sem, c10], rfl, S10.keep _ (.cons _ (.cons _ (.cons _ (.cons _ (.refl _)))))⟩
def wire_Reader_Uint.f (k : Nat) (s : ByteArray) (a e : Int) : Option (Int × ByteArray × Int × Int) :=
  if e = 0 then (wire_Reader_uint.f k s a e).bind fun t => if t.2.1 = 0 then some (t.1, t.2.2.1, t.2.2.2.1, t.2.2.2.2) else some (0, t.2.2.1, a, t.2.1) else some (0, s, a, e)
set_option maxHeartbeats 4000000 in
theorem Uint_walk {k : Nat} {own : List Nat} {w0 w : World} {g : Nat} {s r2 : ByteArray} {a e r3 r4 : Int} {r1 : Int} (S : Boxes own w0 w [(g, 59, #[.string s, .int .i64 a, .int .i64 e])]) (h : wire_Reader_Uint.f k s a e = some (r1, r2, r3, r4)) :
    Calls Try.prog 15 #[.pointer (some ⟨g, 0, none⟩)] w fun e' w1 => e' = .returned (.int .u64 r1) ∧ Boxes own w0 w1 [(g, 59, #[.string r2, .int .i64 r3, .int .i64 r4])] := by
  unfold wire_Reader_Uint.f at h
  have S' := Aside0.mk S
  clear S
  by_cases he : e = 0
  · rw [if_pos he] at h
    obtain ⟨⟨v, c, s3, a3, e3⟩, h1, h⟩ := Option.bind_eq_some_iff.1 h
    dsimp only at h
    by_cases hc : c = 0
    · rw [if_pos hc] at h
      simp only [Option.some.injEq, Prod.mk.injEq] at h
      obtain ⟨rfl, rfl, rfl, rfl⟩ := h
      have hd : decide (c = 0) = true := decide_eq_true hc
      subst he
      go_enter Try.func15, Try.ntmps15
      go_wp2_with (first | ((with_reducible refine gate_dst (N := 1) rfl ?_); refine box_event ?hg (N := 1) ?hd (cs := #[.pointer (some ⟨g, 0, none⟩)]) (t := 31) ?hr ?_; (case hd => rfl); (case hg => rfl); (case hr => first | (go_simp; done) | (go_simp; rfl)); intro gr hg wr hbox hb; have Sr := (S'.out).box hg hbox hb; have cr1 := blk_cell (Sr.at_ 0 rfl) 0; simp only [List.getElem?_toArray, List.getElem?_cons_zero, List.getElem?_cons_succ] at cr1; have Sr' := Aside0.mk Sr; clear hbox hb hg Sr) | ((with_reducible refine gate_dst (N := 3) rfl ?_); refine box_event ?hg (N := 3) ?hd (cs := #[.int .u64 0]) (t := 22) ?hr ?_; (case hd => rfl); (case hg => rfl); (case hr => first | (go_simp; done) | (go_simp; rfl)); intro gn hg wn hbox hb; have Sn := (Sr'.out).box hg hbox hb; have cr3 := blk_cell (Sn.at_ 1 rfl) 0; have cn3 := blk_cell (Sn.at_ 0 rfl) 0; have fn3 := blk_frozen (Sn.at_ 0 rfl) 0; simp only [List.getElem?_toArray, List.getElem?_cons_zero, List.getElem?_cons_succ] at cr3 cn3; have Sn' := Aside0.mk Sn; clear hbox hb hg Sn) | ((go_at_call 30); have X := try_ok (f := 31) (caps := #[.pointer (some ⟨gr, 0, none⟩), .pointer (some ⟨gn, 0, none⟩)]) (L := [(gn, 22, #[.int .u64 0]), (gr, 31, #[.pointer (some ⟨g, 0, none⟩)])]) (L1 := [(gn, 22, #[.int .u64 v]), (gr, 31, #[.pointer (some ⟨g, 0, none⟩)])]) (c := c) (s2 := s3) (a2 := a3) (e2 := e3) (boxes_perm Sn'.out (List.perm_append_comm (l₁ := [_, _]) (l₂ := [_]))) (fun w1 B => (uint1 (boxes_perm B (List.reverse_perm _).symm) h1).mono fun _ _ H => ⟨H.1, boxes_perm H.2 (List.reverse_perm _).symm⟩) rfl (fun _ => rfl); (with_reducible refine X.mono ?_); clear X; rintro e' w1 ⟨rfl, T⟩; have cn := blk_cell (T.at_ 1 rfl) 0; simp only [List.getElem?_toArray, List.getElem?_cons_zero, List.getElem?_cons_succ] at cn; have T' := Aside0.mk T; clear T))
      go_ret
      exact ⟨rfl, by simpa [after_, hc] using T'.out.keep [_] (.cons_cons _ (List.nil_sublist _))⟩
    · rw [if_neg hc] at h
      simp only [Option.some.injEq, Prod.mk.injEq] at h
      obtain ⟨rfl, rfl, rfl, rfl⟩ := h
      have hd : decide (c = 0) = false := decide_eq_false hc
      subst he
      go_enter Try.func15, Try.ntmps15
      go_wp2_with (first | ((with_reducible refine gate_dst (N := 1) rfl ?_); refine box_event ?hg (N := 1) ?hd (cs := #[.pointer (some ⟨g, 0, none⟩)]) (t := 31) ?hr ?_; (case hd => rfl); (case hg => rfl); (case hr => first | (go_simp; done) | (go_simp; rfl)); intro gr hg wr hbox hb; have Sr := (S'.out).box hg hbox hb; have cr1 := blk_cell (Sr.at_ 0 rfl) 0; simp only [List.getElem?_toArray, List.getElem?_cons_zero, List.getElem?_cons_succ] at cr1; have Sr' := Aside0.mk Sr; clear hbox hb hg Sr) | ((with_reducible refine gate_dst (N := 3) rfl ?_); refine box_event ?hg (N := 3) ?hd (cs := #[.int .u64 0]) (t := 22) ?hr ?_; (case hd => rfl); (case hg => rfl); (case hr => first | (go_simp; done) | (go_simp; rfl)); intro gn hg wn hbox hb; have Sn := (Sr'.out).box hg hbox hb; have cr3 := blk_cell (Sn.at_ 1 rfl) 0; have cn3 := blk_cell (Sn.at_ 0 rfl) 0; have fn3 := blk_frozen (Sn.at_ 0 rfl) 0; simp only [List.getElem?_toArray, List.getElem?_cons_zero, List.getElem?_cons_succ] at cr3 cn3; have Sn' := Aside0.mk Sn; clear hbox hb hg Sn) | ((go_at_call 30); have X := try_ok (f := 31) (caps := #[.pointer (some ⟨gr, 0, none⟩), .pointer (some ⟨gn, 0, none⟩)]) (L := [(gn, 22, #[.int .u64 0]), (gr, 31, #[.pointer (some ⟨g, 0, none⟩)])]) (L1 := [(gn, 22, #[.int .u64 v]), (gr, 31, #[.pointer (some ⟨g, 0, none⟩)])]) (c := c) (s2 := s3) (a2 := a3) (e2 := e3) (boxes_perm Sn'.out (List.perm_append_comm (l₁ := [_, _]) (l₂ := [_]))) (fun w1 B => (uint1 (boxes_perm B (List.reverse_perm _).symm) h1).mono fun _ _ H => ⟨H.1, boxes_perm H.2 (List.reverse_perm _).symm⟩) rfl (fun _ => rfl); (with_reducible refine X.mono ?_); clear X; rintro e' w1 ⟨rfl, T⟩; have T' := Aside0.mk T; clear T))
      go_ret
      exact ⟨rfl, by simpa [after_, hc] using T'.out.keep [_] (.cons_cons _ (List.nil_sublist _))⟩
  · rw [if_neg he] at h
    simp only [Option.some.injEq, Prod.mk.injEq] at h
    obtain ⟨rfl, rfl, rfl, rfl⟩ := h
    go_enter Try.func15, Try.ntmps15
    go_wp2_with (first | ((with_reducible refine gate_dst (N := 1) rfl ?_); refine box_event ?hg (N := 1) ?hd (cs := #[.pointer (some ⟨g, 0, none⟩)]) (t := 31) ?hr ?_; (case hd => rfl); (case hg => rfl); (case hr => first | (go_simp; done) | (go_simp; rfl)); intro gr hg wr hbox hb; have Sr := (S'.out).box hg hbox hb; have cr1 := blk_cell (Sr.at_ 0 rfl) 0; simp only [List.getElem?_toArray, List.getElem?_cons_zero, List.getElem?_cons_succ] at cr1; have Sr' := Aside0.mk Sr; clear hbox hb hg Sr) | ((with_reducible refine gate_dst (N := 3) rfl ?_); refine box_event ?hg (N := 3) ?hd (cs := #[.int .u64 0]) (t := 22) ?hr ?_; (case hd => rfl); (case hg => rfl); (case hr => first | (go_simp; done) | (go_simp; rfl)); intro gn hg wn hbox hb; have Sn := (Sr'.out).box hg hbox hb; have cr3 := blk_cell (Sn.at_ 1 rfl) 0; have cn3 := blk_cell (Sn.at_ 0 rfl) 0; have fn3 := blk_frozen (Sn.at_ 0 rfl) 0; simp only [List.getElem?_toArray, List.getElem?_cons_zero, List.getElem?_cons_succ] at cr3 cn3; have Sn' := Aside0.mk Sn; clear hbox hb hg Sn) | ((go_at_call 30); have X := try_err (boxes_perm Sn'.out (List.perm_append_comm (l₁ := [_, _]) (l₂ := [_]))) he (.func (.func 31) #[] #[.pointer (some ⟨gr, 0, none⟩), .pointer (some ⟨gn, 0, none⟩)]); (with_reducible refine X.mono ?_); clear X; rintro e' w1 ⟨rfl, T⟩; have T' := Aside0.mk T; clear T))
    go_ret
    exact ⟨rfl, T'.out.keep [_] (.cons_cons _ (List.nil_sublist _))⟩
theorem wire_Reader_Uint.mono : ∀ a0 a1 a2 k, LeO (wire_Reader_Uint.f k a0 a1 a2) (wire_Reader_Uint.f (k + 1) a0 a1 a2) := by
  intro a0 a1 a2 k
  unfold wire_Reader_Uint.f
  refine LeO.ite ?_ (LeO.refl _)
  refine LeO.bind (wire_Reader_uint.mono _ _ _ _) (fun _ => LeO.refl _)
theorem wire_Reader_Uint.calls (k : Nat) (g : Nat) (s0_0 : ByteArray) (s0_1 : Int) (s0_2 : Int) (r1 : Int) (r2 : ByteArray) (r3 : Int) (r4 : Int) (w0 w : World) (hI : IsS59 w0 w g s0_0 s0_1 s0_2) (hB : Below w0.heap.size w0 w) (h : wire_Reader_Uint.f k s0_0 s0_1 s0_2 = some (r1, r2, r3, r4)) :
    Calls Try.prog 15 #[.pointer (some ⟨g, 0, none⟩)] w fun e w' => e = .returned (.int .u64 r1) ∧ IsS59 w0 w' g r2 r3 r4 ∧ Below w0.heap.size w0 w' ∧ KeepBut w w' g none :=
  (Uint_walk (Boxes.start [(g, 59, #[.string s0_0, .int .i64 s0_1, .int .i64 s0_2])] (by simpa using hI.1) (by simp)) h).mono fun e w' H =>
    ⟨H.1, ⟨H.2.at_ 0 rfl, hI.2⟩, (Boxes.told H.2 hB hI.2).1, (Boxes.told H.2 hB hI.2).2⟩


/-! ### wire_Reader_Int: function 16 -/
def wire_Reader_Int.f (k : Nat) (s0_0 : ByteArray) (s0_1 : Int) (s0_2 : Int) : Option (Int × ByteArray × Int × Int) := (wire_Reader_Uint.f k s0_0 s0_1 s0_2).bind fun bt115 => (some (Go.bits .xor .i64 (wrap64 (bt115.1 / 2)) (wrap64 (-(wrap64 (Go.bits .and .u64 bt115.1 1)))), bt115.2.1, bt115.2.2.1, bt115.2.2.2))
theorem wire_Reader_Int.mono : ∀ a0 a1 a2 k, LeO (wire_Reader_Int.f k a0 a1 a2) (wire_Reader_Int.f (k + 1) a0 a1 a2) := by
  intro a0 a1 a2 k
  unfold wire_Reader_Int.f
  repeat' first
      | (with_reducible exact wire_Reader_Uint.mono _ _ _ _)
      | (with_reducible exact LeO.refl _)
      | (with_reducible exact LeO.none _)
      | (with_reducible refine LeO.ite ?_ ?_)
      | (with_reducible refine LeO.bind ?_ (fun _ => ?_))
      | exact wire_Reader_Uint.mono _ _ _ _
      | exact LeO.none _
      | refine LeO.ite ?_ ?_
      | refine LeO.bind ?_ (fun _ => ?_)
set_option maxHeartbeats 8000000 in
set_option maxRecDepth 100000 in
theorem wire_Reader_Int.calls (k : Nat) (g : Nat) (s0_0 : ByteArray) (s0_1 : Int) (s0_2 : Int) (r1 : Int) (r2 : ByteArray) (r3 : Int) (r4 : Int) (w0 w : World) (hI : IsS59 w0 w g s0_0 s0_1 s0_2) (hB : Below w0.heap.size w0 w) (h : wire_Reader_Int.f k s0_0 s0_1 s0_2 = some (r1, r2, r3, r4)) :
    Calls Try.prog 16 #[.pointer (some ⟨g, 0, none⟩)] w fun e w' => e = .returned (.int .i64 r1) ∧ IsS59 w0 w' g r2 r3 r4 ∧ Below w0.heap.size w0 w' ∧ KeepBut w w' g none := by
  have HI0 := Aside0.mk hI
  have HK := Aside0.mk (KeepBut.refl w g none)
  have HL := Aside0.mk hB.size
  clear hI
  have HW0 := Aside0.mk hB.size
  have HB := Aside0.mk hB
  clear hB
  have H : ((wire_Reader_Uint.f k s0_0 s0_1 s0_2).bind fun bt115 => (some (Go.bits .xor .i64 (wrap64 (bt115.1 / 2)) (wrap64 (-(wrap64 (Go.bits .and .u64 bt115.1 1)))), bt115.2.1, bt115.2.2.1, bt115.2.2.2))) = some (r1, r2, r3, r4) := h
  clear h
  replace H := Option.bind_eq_some_iff.mp H
  obtain ⟨⟨t115, t116, t117, t118⟩, A20, H⟩ := H
  replace H : (some (Go.bits .xor .i64 (wrap64 (t115 / 2)) (wrap64 (-(wrap64 (Go.bits .and .u64 t115 1)))), t116, t117, t118)) = some (r1, r2, r3, r4) := H
  have A2 := Aside0.mk A20
  clear A20
  simp only [Option.some.injEq, Prod.mk.injEq] at H
  obtain ⟨rfl, rfl, rfl, rfl⟩ := H
  go_enter Try.func16, Try.ntmps16
  go_wp2_with (first | ((with_reducible refine gate_callee (f := 15) rfl ?_); refine goesL_ (some 5) rfl rfl Try.func15 (by kernel_rfl) rfl #[.pointer (some ⟨g, 0, none⟩)] rfl (by (try simp only [List.map_toArray, List.map_cons, List.map_nil]); first | done | rfl | (simp only [List.length_drop, List.length_take]; rfl)) ?_; (with_reducible refine (wire_Reader_Uint.calls k g s0_0 s0_1 s0_2 t115 t116 t117 t118 w0 _ ?side1 ?side2 A2.out).mono ?_); (case side1 => repeat (first | (with_reducible first | exact HI0.out | apply IsS59.alloc | apply IsS59.drewN | apply IsS59.drew | apply IsS59.set_0 | apply IsS59.set_1 | apply IsS59.set_2) | exact HI0.out)); (case side2 => repeat (first | (with_reducible first | exact HB.out | apply below_alloc | apply pw_below_drewN | apply below_drew1 | refine below_set ?_ (IsS59.ge HI0.out)) | exact HB.out)); rintro e w3 ⟨rfl, hi, hb, hk⟩; refine ⟨_, rfl, ?_⟩; have n0_ := Aside0.mk (KeepBut.trans (by repeat (first | (with_reducible first | exact HK.out | apply KeepBut.set_ | apply keep_drewN | apply keep_drew | apply keep_alloc) | exact HK.out)) hk (.inl rfl)); have n1_ := Aside0.mk (hb); have n2_ := Aside0.mk (hi); clear HK; clear HB; clear HI0; have HK := n0_; have HB := n1_; have HI0 := n2_; clear n0_ n1_ n2_; (try clear hb); (try clear hb2); (try clear hk); (try clear hi)))
  go_ret
  exact ⟨by first | rfl | (simp [errW_none, errW_some] <;> rfl) | (simp [*, errW_none, errW_some] <;> rfl), by repeat (first | (with_reducible first | exact HI0.out | apply IsS59.alloc | apply IsS59.drewN | apply IsS59.drew | apply IsS59.set_0 | apply IsS59.set_1 | apply IsS59.set_2) | exact HI0.out), by repeat (first | (with_reducible first | exact HB.out | apply below_alloc | apply pw_below_drewN | apply below_drew1 | refine below_set ?_ (IsS59.ge HI0.out)) | exact HB.out), by repeat (first | (with_reducible first | exact HK.out | apply KeepBut.set_ | apply keep_drewN | apply keep_drew | apply keep_alloc) | exact HK.out)⟩

/-! by hand -/
/-! ### wire_Reader_Text: function 17 -/

open Go.Proofs.YtnnadgnohchmbaaW.Lent
theorem count_boxes {k : Nat} {own : List Nat} {w0 w : World} {L : List (Nat × Nat × Array Value)} {g : Nat} {s s2 : ByteArray} {a e v c a2 e2 m : Int} (S : Boxes own w0 w L) (n : Nat) (hn : L[n]? = some (g, 59, #[.string s, .int .i64 a, .int .i64 e])) (h : wire_Reader_count.f k s a e m = some (v, c, s2, a2, e2)) :
    Calls Try.prog 34 #[.pointer (some ⟨g, 0, none⟩), .int .i64 m] w fun x w1 => x = .returned (.tuple #[.int .i64 v, .int .i64 c]) ∧ Boxes own w0 w1 (L.set n (g, 59, #[.string s2, .int .i64 a2, .int .i64 e2])) :=
  (wire_Reader_count.calls k g s a e m v c s2 a2 e2 (bare w) w ⟨S.at_ n hn, by simp [bare]⟩ (below_bare w) h).mono fun x w1 H =>
    ⟨H.1, boxes_lent S n hn (Boxes.ofTold (below_bare w) H.2.2.1 H.2.2.2 H.2.1.1)⟩
def wire_Reader_Text_1.f (k : Nat) (s : ByteArray) (a e m : Int) (x : ByteArray) : Option (Int × ByteArray × ByteArray × Int × Int) :=
  (wire_Reader_count.f k s a e m).bind fun t => if t.2.1 = 0 then (if wrap64 ((t.2.2.1.size : Int) - t.2.2.2.1) < t.1 then some (3, x, t.2.2.1, t.2.2.2.1, t.2.2.2.2) else
    (if 0 ≤ t.2.2.2.1 ∧ t.2.2.2.1 ≤ wrap64 (t.2.2.2.1 + t.1) ∧ wrap64 (t.2.2.2.1 + t.1) ≤ (t.2.2.1.size : Int) then some (0, t.2.2.1.extract t.2.2.2.1.toNat (wrap64 (t.2.2.2.1 + t.1)).toNat, t.2.2.1, wrap64 (t.2.2.2.1 + t.1), t.2.2.2.2) else none))
  else some (t.2.1, x, t.2.2.1, t.2.2.2.1, t.2.2.2.2)
set_option maxHeartbeats 4000000 in
theorem text1 {k : Nat} {own : List Nat} {w0 w : World} {g gr gm gs : Nat} {s s2 x v : ByteArray} {a e m c a2 e2 : Int}
    (S : Boxes own w0 w [(gr, 31, #[.pointer (some ⟨g, 0, none⟩)]), (gm, 3, #[.int .i64 m]), (gs, 9, #[.string x]), (g, 59, #[.string s, .int .i64 a, .int .i64 e])]) (h : wire_Reader_Text_1.f k s a e m x = some (c, v, s2, a2, e2)) :
    Calls Try.prog 33 #[.pointer (some ⟨gr, 0, none⟩), .pointer (some ⟨gm, 0, none⟩), .pointer (some ⟨gs, 0, none⟩)] w fun e' w' => e' = .returned (.int .i64 c) ∧ Boxes own w0 w' [(gr, 31, #[.pointer (some ⟨g, 0, none⟩)]), (gm, 3, #[.int .i64 m]), (gs, 9, #[.string v]), (g, 59, #[.string s2, .int .i64 a2, .int .i64 e2])] := by
  have cr := blk_cell (S.at_ 0 rfl) 0
  have cm := blk_cell (S.at_ 1 rfl) 0
  simp only [List.getElem?_toArray, List.getElem?_cons_zero, List.getElem?_cons_succ] at cr cm
  have S' := Aside0.mk S
  clear S
  obtain ⟨⟨n, c1, s3, a3, e3⟩, h1, h⟩ := Option.bind_eq_some_iff.1 h
  replace h : (if c1 = 0 then (if wrap64 ((s3.size : Int) - a3) < n then some (3, x, s3, a3, e3) else
    (if 0 ≤ a3 ∧ a3 ≤ wrap64 (a3 + n) ∧ wrap64 (a3 + n) ≤ (s3.size : Int) then some (0, s3.extract a3.toNat (wrap64 (a3 + n)).toNat, s3, wrap64 (a3 + n), e3) else none))
    else some (c1, x, s3, a3, e3)) = some (c, v, s2, a2, e2) := h
  have hn : -9223372036854775808 ≤ wrap64 ((s3.size : Int) - a3) := by unfold wrap64; omega
  by_cases hc : c1 = 0
  · rw [if_pos hc] at h
    have hcb : (c1 != 0) = false := by simp [hc]
    by_cases hw : wrap64 ((s3.size : Int) - a3) < n
    · rw [if_pos hw] at h
      have d1 : decide (wrap64 ((s3.size : Int) - a3) < n) = true := decide_eq_true hw
      have d2 : IntKind.i64.wrap ((s3.size : Int) - a3) < n := by rw [i64_w]; exact hw
      simp only [Option.some.injEq, Prod.mk.injEq] at h
      obtain ⟨rfl, rfl, rfl, rfl, rfl⟩ := h
      go_enter Try.func33, Try.ntmps33
      go_wp2_with (go_at_call 34; (with_reducible refine (count_boxes S'.out 3 rfl h1).mono ?_); rintro e' w1 ⟨rfl, S2⟩; simp only [List.set_cons_zero, List.set_cons_succ] at S2; have cr2 := blk_cell (S2.at_ 0 rfl) 0; have q0 := blk_cell (S2.at_ 3 rfl) 0; have q1 := blk_cell (S2.at_ 3 rfl) 1; simp only [List.getElem?_toArray, List.getElem?_cons_zero, List.getElem?_cons_succ] at cr2 q0 q1; have S2' := Aside0.mk S2; clear S2)
      go_region_held3 (fun w' => w'.cell? ⟨gr, 0, none⟩ = some (.pointer (some ⟨g, 0, none⟩)) ∧ w'.cell? ⟨g, 0, none⟩ = some (.string s3) ∧ w'.cell? ⟨g, 1, none⟩ = some (.int .i64 a3)) (go_keep) (first | fail)
      simp only [i64_w]
      go_wp2
      go_ret
      exact ⟨rfl, S2'.out.drewN _⟩
    · rw [if_neg hw] at h
      have d1 : decide (wrap64 ((s3.size : Int) - a3) < n) = false := decide_eq_false hw
      have d2 : ¬ IntKind.i64.wrap ((s3.size : Int) - a3) < n := by rw [i64_w]; exact hw
      by_cases hb : 0 ≤ a3 ∧ a3 ≤ wrap64 (a3 + n) ∧ wrap64 (a3 + n) ≤ (s3.size : Int)
      · rw [if_pos hb] at h
        simp only [Option.some.injEq, Prod.mk.injEq] at h
        obtain ⟨rfl, rfl, rfl, rfl, rfl⟩ := h
        obtain ⟨b1, b2, b3⟩ := hb
        have e1 : a3 ≤ IntKind.i64.wrap (a3 + n) := by rw [i64_w]; exact b2
        have e2 : IntKind.i64.wrap (a3 + n) ≤ (s3.size : Int) := by rw [i64_w]; exact b3
        go_enter Try.func33, Try.ntmps33
        go_wp2_with (go_at_call 34; (with_reducible refine (count_boxes S'.out 3 rfl h1).mono ?_); rintro e' w1 ⟨rfl, S2⟩; simp only [List.set_cons_zero, List.set_cons_succ] at S2; have cr2 := blk_cell (S2.at_ 0 rfl) 0; have q0 := blk_cell (S2.at_ 3 rfl) 0; have q1 := blk_cell (S2.at_ 3 rfl) 1; have g1 := blk_frozen (S2.at_ 3 rfl) 1; have qs := blk_cell (S2.at_ 2 rfl) 0; have gs_ := blk_frozen (S2.at_ 2 rfl) 0; have n1 := S2.ne 2 3 rfl rfl (by decide); have n2 := S2.ne 3 2 rfl rfl (by decide); have n3 := S2.ne 2 0 rfl rfl (by decide); have n4 := S2.ne 0 2 rfl rfl (by decide); simp only [List.getElem?_toArray, List.getElem?_cons_zero, List.getElem?_cons_succ] at cr2 q0 q1 qs; have S2' := Aside0.mk S2; clear S2)
        go_region_held3 (fun w' => w'.cell? ⟨gr, 0, none⟩ = some (.pointer (some ⟨g, 0, none⟩)) ∧ w'.cell? ⟨g, 0, none⟩ = some (.string s3) ∧ w'.cell? ⟨g, 1, none⟩ = some (.int .i64 a3)) (go_keep) (first | fail)
        simp only [i64_w]
        go_wp2
        have q0' : w1.drew.cell? ⟨g, 0, none⟩ = some (.string s3) := q0
        have q1' : w1.drew.cell? ⟨g, 1, none⟩ = some (.int .i64 a3) := q1
        have r' : w1.drew.cell? ⟨gr, 0, none⟩ = some (.pointer (some ⟨g, 0, none⟩)) := cr2
        have s' : w1.drew.cell? ⟨gs, 0, none⟩ = some (.string x) := qs
        have f' : w1.drew.frozen? ⟨gs, 0, none⟩ = false := gs_
        clear hw d2
        go_region_held3 (fun w' => w'.cell? ⟨gr, 0, none⟩ = some (.pointer (some ⟨g, 0, none⟩)) ∧ w'.cell? ⟨g, 0, none⟩ = some (.string s3) ∧ w'.cell? ⟨g, 1, none⟩ = some (.int .i64 a3) ∧ w'.frozen? ⟨gs, 0, none⟩ = false) (go_keep) (first | fail)
        have S3 := (S2'.out.set 2 rfl 0 (.string (s3.extract a3.toNat (wrap64 (a3 + n)).toNat))).drew.drew
        simp only [List.set_cons_zero, List.set_cons_succ] at S3
        have g1' := blk_frozen (S3.at_ 3 rfl) 1
        have q1'' := blk_cell (S3.at_ 3 rfl) 1
        have r'' := blk_cell (S3.at_ 0 rfl) 0
        simp only [List.getElem?_toArray, List.getElem?_cons_zero, List.getElem?_cons_succ] at q1'' r''
        have S3' := Aside0.mk S3
        clear S3
        simp only [i64_w]
        go_wp2
        go_ret
        exact ⟨rfl, S3'.out.set 3 rfl 1 _⟩
      · rw [if_neg hb] at h; cases h
  · rw [if_neg hc] at h
    have hcb : (c1 != 0) = true := by simp [hc]
    simp only [Option.some.injEq, Prod.mk.injEq] at h
    obtain ⟨rfl, rfl, rfl, rfl, rfl⟩ := h
    go_enter Try.func33, Try.ntmps33
    go_wp2_with (go_at_call 34; (with_reducible refine (count_boxes S'.out 3 rfl h1).mono ?_); rintro e' w1 ⟨rfl, S2⟩; simp only [List.set_cons_zero, List.set_cons_succ] at S2; have S2' := Aside0.mk S2; clear S2)
    go_ret
    exact ⟨rfl, S2'.out⟩
def wire_Reader_Text.f (k : Nat) (s : ByteArray) (a e m : Int) : Option (ByteArray × ByteArray × Int × Int) :=
  if e = 0 then (wire_Reader_Text_1.f k s a e m ⟨#[]⟩).bind fun t => if t.1 = 0 then some (t.2.1, t.2.2.1, t.2.2.2.1, t.2.2.2.2) else some (⟨#[]⟩, t.2.2.1, a, t.1) else some (⟨#[]⟩, s, a, e)
set_option maxHeartbeats 4000000 in
theorem Text_walk {k : Nat} {own : List Nat} {w0 w : World} {g : Nat} {s r2 : ByteArray} {a e m r3 r4 : Int} {r1 : ByteArray} (S : Boxes own w0 w [(g, 59, #[.string s, .int .i64 a, .int .i64 e])]) (h : wire_Reader_Text.f k s a e m = some (r1, r2, r3, r4)) :
    Calls Try.prog 17 #[.pointer (some ⟨g, 0, none⟩), .int .i64 m] w fun e' w1 => e' = .returned (.string r1) ∧ Boxes own w0 w1 [(g, 59, #[.string r2, .int .i64 r3, .int .i64 r4])] := by
  unfold wire_Reader_Text.f at h
  have S' := Aside0.mk S
  clear S
  by_cases he : e = 0
  · rw [if_pos he] at h
    obtain ⟨⟨c, v, s3, a3, e3⟩, h1, h⟩ := Option.bind_eq_some_iff.1 h
    dsimp only at h
    by_cases hc : c = 0
    · rw [if_pos hc] at h
      simp only [Option.some.injEq, Prod.mk.injEq] at h
      obtain ⟨rfl, rfl, rfl, rfl⟩ := h
      have hd : decide (c = 0) = true := decide_eq_true hc
      subst he
      go_enter Try.func17, Try.ntmps17
      go_wp2_with (first | ((with_reducible refine gate_dst (N := 2) rfl ?_); refine box_event ?hg (N := 2) ?hd (cs := #[.pointer (some ⟨g, 0, none⟩)]) (t := 31) ?hr ?_; (case hd => rfl); (case hg => rfl); (case hr => first | (go_simp; done) | (go_simp; rfl)); intro gr hg wr hbox hb; have Sr := (S'.out).box hg hbox hb; have cr1 := blk_cell (Sr.at_ 0 rfl) 0; simp only [List.getElem?_toArray, List.getElem?_cons_zero, List.getElem?_cons_succ] at cr1; have Sr' := Aside0.mk Sr; clear hbox hb hg Sr) | ((with_reducible refine gate_dst (N := 3) rfl ?_); refine box_event ?hg (N := 3) ?hd (cs := #[.int .i64 m]) (t := 3) ?hr ?_; (case hd => rfl); (case hg => rfl); (case hr => first | (go_simp; done) | (go_simp; rfl)); intro gm hg wm hbox hb; have Sm := (Sr'.out).box hg hbox hb; have cr2 := blk_cell (Sm.at_ 1 rfl) 0; simp only [List.getElem?_toArray, List.getElem?_cons_zero, List.getElem?_cons_succ] at cr2; have Sm' := Aside0.mk Sm; clear hbox hb hg Sm) | ((with_reducible refine gate_dst (N := 5) rfl ?_); refine box_event ?hg (N := 5) ?hd (cs := #[.string ⟨#[]⟩]) (t := 9) ?hr ?_; (case hd => rfl); (case hg => rfl); (case hr => first | (go_simp; done) | (go_simp; rfl)); intro gn hg wn hbox hb; have Sn := (Sm'.out).box hg hbox hb; have cr3 := blk_cell (Sn.at_ 2 rfl) 0; have cn3 := blk_cell (Sn.at_ 0 rfl) 0; have fn3 := blk_frozen (Sn.at_ 0 rfl) 0; simp only [List.getElem?_toArray, List.getElem?_cons_zero, List.getElem?_cons_succ] at cr3 cn3; have m1 := Sn.ne 0 2 rfl rfl (by decide); have m2 := Sn.ne 2 0 rfl rfl (by decide); have Sn' := Aside0.mk (show Boxes own w0 _ [(gn, 9, #[.string ⟨#[]⟩]), (gm, 3, #[.int .i64 m]), (gr, 31, #[.pointer (some ⟨g, 0, none⟩)]), (g, 59, #[.string s, .int .i64 a, .int .i64 0])] from Sn.set 0 rfl 0 (.string ⟨#[]⟩)); clear hbox hb hg Sn) | ((go_at_call 30); have X := try_ok (f := 33) (caps := #[.pointer (some ⟨gr, 0, none⟩), .pointer (some ⟨gm, 0, none⟩), .pointer (some ⟨gn, 0, none⟩)]) (L := [(gn, 9, #[.string ⟨#[]⟩]), (gm, 3, #[.int .i64 m]), (gr, 31, #[.pointer (some ⟨g, 0, none⟩)])]) (L1 := [(gn, 9, #[.string v]), (gm, 3, #[.int .i64 m]), (gr, 31, #[.pointer (some ⟨g, 0, none⟩)])]) (c := c) (s2 := s3) (a2 := a3) (e2 := e3) (boxes_perm Sn'.out (List.perm_append_comm (l₁ := [_, _, _]) (l₂ := [_]))) (fun w1 B => (text1 (boxes_perm B (List.reverse_perm _).symm) h1).mono fun _ _ H => ⟨H.1, boxes_perm H.2 (List.reverse_perm _).symm⟩) rfl (fun _ => rfl); (with_reducible refine X.mono ?_); clear X; rintro e' w1 ⟨rfl, T⟩; have cn := blk_cell (T.at_ 1 rfl) 0; simp only [List.getElem?_toArray, List.getElem?_cons_zero, List.getElem?_cons_succ] at cn; have T' := Aside0.mk T; clear T))
      go_ret
      exact ⟨rfl, by simpa [after_, hc] using T'.out.keep [_] (.cons_cons _ (List.nil_sublist _))⟩
    · rw [if_neg hc] at h
      simp only [Option.some.injEq, Prod.mk.injEq] at h
      obtain ⟨rfl, rfl, rfl, rfl⟩ := h
      have hd : decide (c = 0) = false := decide_eq_false hc
      subst he
      go_enter Try.func17, Try.ntmps17
      go_wp2_with (first | ((with_reducible refine gate_dst (N := 2) rfl ?_); refine box_event ?hg (N := 2) ?hd (cs := #[.pointer (some ⟨g, 0, none⟩)]) (t := 31) ?hr ?_; (case hd => rfl); (case hg => rfl); (case hr => first | (go_simp; done) | (go_simp; rfl)); intro gr hg wr hbox hb; have Sr := (S'.out).box hg hbox hb; have cr1 := blk_cell (Sr.at_ 0 rfl) 0; simp only [List.getElem?_toArray, List.getElem?_cons_zero, List.getElem?_cons_succ] at cr1; have Sr' := Aside0.mk Sr; clear hbox hb hg Sr) | ((with_reducible refine gate_dst (N := 3) rfl ?_); refine box_event ?hg (N := 3) ?hd (cs := #[.int .i64 m]) (t := 3) ?hr ?_; (case hd => rfl); (case hg => rfl); (case hr => first | (go_simp; done) | (go_simp; rfl)); intro gm hg wm hbox hb; have Sm := (Sr'.out).box hg hbox hb; have cr2 := blk_cell (Sm.at_ 1 rfl) 0; simp only [List.getElem?_toArray, List.getElem?_cons_zero, List.getElem?_cons_succ] at cr2; have Sm' := Aside0.mk Sm; clear hbox hb hg Sm) | ((with_reducible refine gate_dst (N := 5) rfl ?_); refine box_event ?hg (N := 5) ?hd (cs := #[.string ⟨#[]⟩]) (t := 9) ?hr ?_; (case hd => rfl); (case hg => rfl); (case hr => first | (go_simp; done) | (go_simp; rfl)); intro gn hg wn hbox hb; have Sn := (Sm'.out).box hg hbox hb; have cr3 := blk_cell (Sn.at_ 2 rfl) 0; have cn3 := blk_cell (Sn.at_ 0 rfl) 0; have fn3 := blk_frozen (Sn.at_ 0 rfl) 0; simp only [List.getElem?_toArray, List.getElem?_cons_zero, List.getElem?_cons_succ] at cr3 cn3; have m1 := Sn.ne 0 2 rfl rfl (by decide); have m2 := Sn.ne 2 0 rfl rfl (by decide); have Sn' := Aside0.mk (show Boxes own w0 _ [(gn, 9, #[.string ⟨#[]⟩]), (gm, 3, #[.int .i64 m]), (gr, 31, #[.pointer (some ⟨g, 0, none⟩)]), (g, 59, #[.string s, .int .i64 a, .int .i64 0])] from Sn.set 0 rfl 0 (.string ⟨#[]⟩)); clear hbox hb hg Sn) | ((go_at_call 30); have X := try_ok (f := 33) (caps := #[.pointer (some ⟨gr, 0, none⟩), .pointer (some ⟨gm, 0, none⟩), .pointer (some ⟨gn, 0, none⟩)]) (L := [(gn, 9, #[.string ⟨#[]⟩]), (gm, 3, #[.int .i64 m]), (gr, 31, #[.pointer (some ⟨g, 0, none⟩)])]) (L1 := [(gn, 9, #[.string v]), (gm, 3, #[.int .i64 m]), (gr, 31, #[.pointer (some ⟨g, 0, none⟩)])]) (c := c) (s2 := s3) (a2 := a3) (e2 := e3) (boxes_perm Sn'.out (List.perm_append_comm (l₁ := [_, _, _]) (l₂ := [_]))) (fun w1 B => (text1 (boxes_perm B (List.reverse_perm _).symm) h1).mono fun _ _ H => ⟨H.1, boxes_perm H.2 (List.reverse_perm _).symm⟩) rfl (fun _ => rfl); (with_reducible refine X.mono ?_); clear X; rintro e' w1 ⟨rfl, T⟩; have T' := Aside0.mk T; clear T))
      go_ret
      exact ⟨rfl, by simpa [after_, hc] using T'.out.keep [_] (.cons_cons _ (List.nil_sublist _))⟩
  · rw [if_neg he] at h
    simp only [Option.some.injEq, Prod.mk.injEq] at h
    obtain ⟨rfl, rfl, rfl, rfl⟩ := h
    go_enter Try.func17, Try.ntmps17
    go_wp2_with (first | ((with_reducible refine gate_dst (N := 2) rfl ?_); refine box_event ?hg (N := 2) ?hd (cs := #[.pointer (some ⟨g, 0, none⟩)]) (t := 31) ?hr ?_; (case hd => rfl); (case hg => rfl); (case hr => first | (go_simp; done) | (go_simp; rfl)); intro gr hg wr hbox hb; have Sr := (S'.out).box hg hbox hb; have cr1 := blk_cell (Sr.at_ 0 rfl) 0; simp only [List.getElem?_toArray, List.getElem?_cons_zero, List.getElem?_cons_succ] at cr1; have Sr' := Aside0.mk Sr; clear hbox hb hg Sr) | ((with_reducible refine gate_dst (N := 3) rfl ?_); refine box_event ?hg (N := 3) ?hd (cs := #[.int .i64 m]) (t := 3) ?hr ?_; (case hd => rfl); (case hg => rfl); (case hr => first | (go_simp; done) | (go_simp; rfl)); intro gm hg wm hbox hb; have Sm := (Sr'.out).box hg hbox hb; have cr2 := blk_cell (Sm.at_ 1 rfl) 0; simp only [List.getElem?_toArray, List.getElem?_cons_zero, List.getElem?_cons_succ] at cr2; have Sm' := Aside0.mk Sm; clear hbox hb hg Sm) | ((with_reducible refine gate_dst (N := 5) rfl ?_); refine box_event ?hg (N := 5) ?hd (cs := #[.string ⟨#[]⟩]) (t := 9) ?hr ?_; (case hd => rfl); (case hg => rfl); (case hr => first | (go_simp; done) | (go_simp; rfl)); intro gn hg wn hbox hb; have Sn := (Sm'.out).box hg hbox hb; have cr3 := blk_cell (Sn.at_ 2 rfl) 0; have cn3 := blk_cell (Sn.at_ 0 rfl) 0; have fn3 := blk_frozen (Sn.at_ 0 rfl) 0; simp only [List.getElem?_toArray, List.getElem?_cons_zero, List.getElem?_cons_succ] at cr3 cn3; have m1 := Sn.ne 0 2 rfl rfl (by decide); have m2 := Sn.ne 2 0 rfl rfl (by decide); have Sn' := Aside0.mk (show Boxes own w0 _ [(gn, 9, #[.string ⟨#[]⟩]), (gm, 3, #[.int .i64 m]), (gr, 31, #[.pointer (some ⟨g, 0, none⟩)]), (g, 59, #[.string s, .int .i64 a, .int .i64 e])] from Sn.set 0 rfl 0 (.string ⟨#[]⟩)); clear hbox hb hg Sn) | ((go_at_call 30); have X := try_err (boxes_perm Sn'.out (List.perm_append_comm (l₁ := [_, _, _]) (l₂ := [_]))) he (.func (.func 33) #[] #[.pointer (some ⟨gr, 0, none⟩), .pointer (some ⟨gm, 0, none⟩), .pointer (some ⟨gn, 0, none⟩)]); (with_reducible refine X.mono ?_); clear X; rintro e' w1 ⟨rfl, T⟩; have T' := Aside0.mk T; clear T))
    go_ret
    exact ⟨rfl, T'.out.keep [_] (.cons_cons _ (List.nil_sublist _))⟩
theorem wire_Reader_Text.mono : ∀ a0 a1 a2 a3 k, LeO (wire_Reader_Text.f k a0 a1 a2 a3) (wire_Reader_Text.f (k + 1) a0 a1 a2 a3) := by
  intro a0 a1 a2 a3 k
  unfold wire_Reader_Text.f wire_Reader_Text_1.f
  refine LeO.ite ?_ (LeO.refl _)
  refine LeO.bind (LeO.bind (wire_Reader_count.mono _ _ _ _ _) (fun _ => LeO.refl _)) (fun _ => LeO.refl _)
theorem wire_Reader_Text.calls (k : Nat) (g : Nat) (s0_0 : ByteArray) (s0_1 : Int) (s0_2 : Int) (a1 : Int) (r1 : ByteArray) (r2 : ByteArray) (r3 : Int) (r4 : Int) (w0 w : World) (hI : IsS59 w0 w g s0_0 s0_1 s0_2) (hB : Below w0.heap.size w0 w) (h : wire_Reader_Text.f k s0_0 s0_1 s0_2 a1 = some (r1, r2, r3, r4)) :
    Calls Try.prog 17 #[.pointer (some ⟨g, 0, none⟩), .int .i64 a1] w fun e w' => e = .returned (.string r1) ∧ IsS59 w0 w' g r2 r3 r4 ∧ Below w0.heap.size w0 w' ∧ KeepBut w w' g none :=
  (Text_walk (Boxes.start [(g, 59, #[.string s0_0, .int .i64 s0_1, .int .i64 s0_2])] (by simpa using hI.1) (by simp)) h).mono fun e w' H =>
    ⟨H.1, ⟨H.2.at_ 0 rfl, hI.2⟩, (Boxes.told H.2 hB hI.2).1, (Boxes.told H.2 hB hI.2).2⟩


/-! ### wire_Reader_Left: function 19 -/
def wire_Reader_Left.f (s0_0 : ByteArray) (s0_1 : Int) (s0_2 : Int) : Option (Int × ByteArray × Int × Int) := some (wrap64 ((s0_0.size : Int) - s0_1), s0_0, s0_1, s0_2)
set_option maxHeartbeats 8000000 in
set_option maxRecDepth 100000 in
theorem wire_Reader_Left.calls (g : Nat) (s0_0 : ByteArray) (s0_1 : Int) (s0_2 : Int) (r1 : Int) (r2 : ByteArray) (r3 : Int) (r4 : Int) (w0 w : World) (hI : IsS59 w0 w g s0_0 s0_1 s0_2) (hB : Below w0.heap.size w0 w) (h : wire_Reader_Left.f s0_0 s0_1 s0_2 = some (r1, r2, r3, r4)) :
    Calls Try.prog 19 #[.pointer (some ⟨g, 0, none⟩)] w fun e w' => e = .returned (.int .i64 r1) ∧ IsS59 w0 w' g r2 r3 r4 ∧ Below w0.heap.size w0 w' ∧ KeepBut w w' g none := by
  have HI0 := Aside0.mk hI
  have HK := Aside0.mk (KeepBut.refl w g none)
  have HL := Aside0.mk hB.size
  clear hI
  have HW0 := Aside0.mk hB.size
  have HB := Aside0.mk hB
  clear hB
  have H : (some (wrap64 ((s0_0.size : Int) - s0_1), s0_0, s0_1, s0_2)) = some (r1, r2, r3, r4) := h
  clear h
  simp only [Option.some.injEq, Prod.mk.injEq] at H
  obtain ⟨rfl, rfl, rfl, rfl⟩ := H
  obtain ⟨HGz2, hgz2⟩ := HI0.out
  have hcz2_0 := cellS59_0 HGz2
  have hcz2_1 := cellS59_1 HGz2
  have hcz2_2 := cellS59_2 HGz2
  have hfz2_0 := blk_frozen HGz2 0
  have hfz2_1 := blk_frozen HGz2 1
  have hfz2_2 := blk_frozen HGz2 2
  clear HGz2 hgz2
  go_enter Try.func19, Try.ntmps19
  go_wp2
  repeat (go_quiet (fail); try go_wp2)
  go_ret
  exact ⟨by first | rfl | (simp [errW_none, errW_some] <;> rfl) | (simp [*, errW_none, errW_some] <;> rfl), by repeat (first | (with_reducible first | exact HI0.out | apply IsS59.alloc | apply IsS59.drewN | apply IsS59.drew | apply IsS59.set_0 | apply IsS59.set_1 | apply IsS59.set_2) | exact HI0.out), by repeat (first | (with_reducible first | exact HB.out | apply below_alloc | apply pw_below_drewN | apply below_drew1 | refine below_set ?_ (IsS59.ge HI0.out)) | exact HB.out), by repeat (first | (with_reducible first | exact HK.out | apply KeepBut.set_ | apply keep_drewN | apply keep_drew | apply keep_alloc) | exact HK.out)⟩

end Go.Proofs.Ytnnadgnohchmbaa.PALL
