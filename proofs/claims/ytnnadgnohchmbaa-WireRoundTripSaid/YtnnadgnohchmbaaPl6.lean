/-
  The methods' contracts over the lent boxes, without rounds.
-/
import Derived.Test.YtnnadgnohchmbaaPl5
import Derived.Test.YtnnadgnohchmbaaWLent
namespace Go.Proofs.Ytnnadgnohchmbaa.Pl
open Go.RowKit Go.Proofs.Ytnnadgnohchmbaa.PALL Go.Proofs.YtnnadgnohchmbaaW.PrintWords Go.Proofs.YtnnadgnohchmbaaW.PrintLast Go.Proofs.YtnnadgnohchmbaaW.PrintMore Go.Proofs.YtnnadgnohchmbaaW.Lent
set_option linter.unusedVariables false
set_option linter.unusedSimpArgs false

theorem boxes_add {own : List Nat} {w0 w w1 : World} {L : List (Nat × Nat × Array Value)} {g t : Nat} {cs : Array Value} (S : Boxes own w0 w L) (hg : w.heap.size ≤ g) (h : w1.heap[g]? = some (.cells cs t (0, 0))) (hb : Below w.heap.size w w1) : Boxes own w0 w1 ((g, t, cs) :: L) := by
  have T := S.step hb
  refine ⟨T.os, T.tape, T.output, T.size, T.frame, ?_, ?_⟩
  · intro b hm
    rcases List.mem_cons.1 hm with rfl | hm
    · exact ⟨h, .inr (Nat.le_trans S.size hg)⟩
    · exact T.has b hm
  · rw [List.map_cons, List.nodup_cons]
    refine ⟨fun hm => ?_, S.nodup⟩
    obtain ⟨b, h1, h2⟩ := List.mem_map.1 hm
    have := blk_lt (S.has b h1).1
    rw [h2] at this
    simp only at this
    omega
variable {own : List Nat} {w0 w : World} {L : List (Nat × Nat × Array Value)} {g p : Nat} {s : ByteArray} {e : Int}
theorem read_b (S : Boxes own w0 w L) (s : ByteArray) : Calls Try.prog 14 #[.string s] w fun x w1 => ∃ g, x = .returned (.pointer (some ⟨g, 0, none⟩)) ∧ Boxes own w0 w1 ((g, 59, #[.string s, .int .i64 0, .int .i64 0]) :: L) :=
  (wire_Read.calls s s 0 0 w w (Below.refl _ _) rfl).mono fun x w1 H => by
    obtain ⟨g, hx, hI, hB, -⟩ := H
    exact ⟨g, hx, boxes_add S hI.2 hI.1 hB⟩
theorem uint_b (S : Boxes own w0 w L) (n : Nat) (hn : L[n]? = some (g, 59, #[.string s, .int .i64 p, .int .i64 e])) (hs : s.size ≤ 140737488351232 + 140737488351232) (hp : p ≤ s.size) :
    Calls Try.prog 15 #[.pointer (some ⟨g, 0, none⟩)] w fun x w1 => x = .returned (.int .u64 (UintS s p e).1) ∧ Boxes own w0 w1 (L.set n (g, 59, #[.string s, .int .i64 (UintS s p e).2.1, .int .i64 (UintS s p e).2.2])) :=
  (wire_Reader_Uint.calls 11 g s p e _ s _ _ (bare w) w ⟨S.at_ n hn, by simp [bare]⟩ (below_bare w) (wire_Uint s p 11 e hs hp (Nat.le_refl _))).mono fun x w1 H =>
    ⟨H.1, boxes_lent S n hn (Boxes.ofTold (below_bare w) H.2.2.1 H.2.2.2 H.2.1.1)⟩
theorem int_b (S : Boxes own w0 w L) (n : Nat) (hn : L[n]? = some (g, 59, #[.string s, .int .i64 p, .int .i64 e])) (hs : s.size ≤ 140737488351232 + 140737488351232) (hp : p ≤ s.size) :
    Calls Try.prog 16 #[.pointer (some ⟨g, 0, none⟩)] w fun x w1 => x = .returned (.int .i64 (IntS s p e).1) ∧ Boxes own w0 w1 (L.set n (g, 59, #[.string s, .int .i64 (IntS s p e).2.1, .int .i64 (IntS s p e).2.2])) :=
  (wire_Reader_Int.calls 11 g s p e _ s _ _ (bare w) w ⟨S.at_ n hn, by simp [bare]⟩ (below_bare w) (wire_Int s p 11 e hs hp (Nat.le_refl _))).mono fun x w1 H =>
    ⟨H.1, boxes_lent S n hn (Boxes.ofTold (below_bare w) H.2.2.1 H.2.2.2 H.2.1.1)⟩
theorem text_b {m : Int} (S : Boxes own w0 w L) (n : Nat) (hn : L[n]? = some (g, 59, #[.string s, .int .i64 p, .int .i64 e])) (hm : -9223372036854775808 ≤ m ∧ m ≤ 9223372036854775807) (hs : s.size ≤ 140737488351232 + 140737488351232) (hp : p ≤ s.size) :
    Calls Try.prog 17 #[.pointer (some ⟨g, 0, none⟩), .int .i64 m] w fun x w1 => x = .returned (.string (TextS s p e m).1) ∧ Boxes own w0 w1 (L.set n (g, 59, #[.string s, .int .i64 (TextS s p e m).2.1, .int .i64 (TextS s p e m).2.2])) :=
  (wire_Reader_Text.calls 11 g s p e m _ s _ _ (bare w) w ⟨S.at_ n hn, by simp [bare]⟩ (below_bare w) (wire_Text s p 11 e m hm hs hp (Nat.le_refl _))).mono fun x w1 H =>
    ⟨H.1, boxes_lent S n hn (Boxes.ofTold (below_bare w) H.2.2.1 H.2.2.2 H.2.1.1)⟩
theorem set_same {α : Type} {L : List α} {n : Nat} {x : α} (h : L[n]? = some x) : L.set n x = L := by
  apply List.ext_getElem?
  intro i
  rw [List.getElem?_set]
  split
  · rename_i e; subst e
    split
    · exact h.symm
    · rename_i h2; rw [List.getElem?_eq_none (by omega)] at h; cases h
  · rfl
theorem err_b {a : Int} (S : Boxes own w0 w L) (n : Nat) (hn : L[n]? = some (g, 59, #[.string s, .int .i64 a, .int .i64 e])) :
    Calls Try.prog 20 #[.pointer (some ⟨g, 0, none⟩)] w fun x w1 => x = .returned (.int .i64 e) ∧ Boxes own w0 w1 L :=
  (err_boxes S n hn).mono fun x w1 H => ⟨H.1, by have := H.2; rwa [set_same hn] at this⟩
theorem left_b {a v : Int} (S : Boxes own w0 w L) (n : Nat) (hn : L[n]? = some (g, 59, #[.string s, .int .i64 a, .int .i64 e])) (hv : wrap64 ((s.size : Int) - a) = v) :
    Calls Try.prog 19 #[.pointer (some ⟨g, 0, none⟩)] w fun x w1 => x = .returned (.int .i64 v) ∧ Boxes own w0 w1 L :=
  (left_boxes S n hn hv).mono fun x w1 H => ⟨H.1, by have := H.2; rwa [set_same hn] at this⟩
theorem done_b {a v : Int} (S : Boxes own w0 w L) (n : Nat) (hn : L[n]? = some (g, 59, #[.string s, .int .i64 a, .int .i64 0])) (hv : wrap64 ((s.size : Int) - a) = 0) :
    Calls Try.prog 18 #[.pointer (some ⟨g, 0, none⟩)] w fun x w1 => x = .returned (.int .i64 0) ∧ Boxes own w0 w1 L :=
  (wire_Reader_Done.calls g s a 0 0 s a 0 (bare w) w ⟨S.at_ n hn, by simp [bare]⟩ (below_bare w) (by simp [wire_Reader_Done.f, wire_Reader_Err.f, wire_Reader_Left.f, hv])).mono fun x w1 H =>
    ⟨H.1, by have := boxes_lent S n hn (Boxes.ofTold (below_bare w) H.2.2.1 H.2.2.2 H.2.1.1); rwa [set_same hn] at this⟩
theorem lives_b (S : Boxes own w0 w L) : Calls Try.prog 7 #[] w fun x w1 => x = .returned (.bool true) ∧ Boxes own w0 w1 L :=
  (mapmakerlaw02_lives.calls true w rfl).mono fun x w1 H => ⟨H.1, S.step H.2⟩
theorem putUint_b {b r : ByteArray} {n : Int} (S : Boxes own w0 w L) (h : wire_PutUint.f 10 b n = some r) : Calls Try.prog 8 #[.string b, .int .u64 n] w fun x w1 => x = .returned (.string r) ∧ Boxes own w0 w1 L :=
  (wire_PutUint.calls 10 b n r w h).mono fun x w1 H => ⟨H.1, S.step H.2⟩
theorem putInt_b {b r : ByteArray} {n : Int} (S : Boxes own w0 w L) (h : wire_PutInt.f 10 b n = some r) : Calls Try.prog 10 #[.string b, .int .i64 n] w fun x w1 => x = .returned (.string r) ∧ Boxes own w0 w1 L :=
  (wire_PutInt.calls 10 b n r w h).mono fun x w1 H => ⟨H.1, S.step H.2⟩
theorem putText_b {b r t : ByteArray} (S : Boxes own w0 w L) (h : wire_PutText.f 10 b t = some r) : Calls Try.prog 12 #[.string b, .string t] w fun x w1 => x = .returned (.string r) ∧ Boxes own w0 w1 L :=
  (wire_PutText.calls 10 b t r w h).mono fun x w1 H => ⟨H.1, S.step H.2⟩
end Go.Proofs.Ytnnadgnohchmbaa.Pl
