/-
  Boxes that a call was lent, told one by one with its own; what a call leaves of them.
-/
import Derived.Test.YtnnadgnohchmbaaWWords
import Derived.Test.YtnnadgnohchmbaaWLast
import Derived.Test.YtnnadgnohchmbaaWMore
namespace Go.Proofs.YtnnadgnohchmbaaW.Lent
open Go.RowKit Go.Proofs.YtnnadgnohchmbaaW.PrintWords

/-- Every box of L stands in w as L tells it; of the elder blocks those of 'own' alone may have turned since w0. -/
structure Boxes (own : List Nat) (w0 w : World) (L : List (Nat × Nat × Array Value)) : Prop where
  os : w.os = w0.os
  tape : w.tape = w0.tape
  output : w.output = w0.output
  size : w0.heap.size ≤ w.heap.size
  frame : ∀ k, k < w0.heap.size → k ∉ own → w.heap[k]? = w0.heap[k]?
  has : ∀ b ∈ L, w.heap[b.1]? = some (.cells b.2.2 b.2.1 (0, 0)) ∧ (b.1 ∈ own ∨ w0.heap.size ≤ b.1)
  nodup : (L.map (·.1)).Nodup

namespace Boxes
variable {own own' : List Nat} {w0 w w1 : World} {L L' : List (Nat × Nat × Array Value)} {g g' t t' : Nat} {cs cs' : Array Value}

theorem start (L : List (Nat × Nat × Array Value)) (h : ∀ b ∈ L, w.heap[b.1]? = some (.cells b.2.2 b.2.1 (0, 0))) (nd : (L.map (·.1)).Nodup) : Boxes (L.map (·.1)) w w L :=
  ⟨rfl, rfl, rfl, Nat.le_refl _, fun _ _ _ => rfl, fun b hb => ⟨h b hb, .inl (List.mem_map_of_mem hb)⟩, nd⟩
theorem at_ (S : Boxes own w0 w L) (n : Nat) (h : L[n]? = some (g, t, cs)) : w.heap[g]? = some (.cells cs t (0, 0)) := (S.has _ (List.mem_of_getElem? h)).1
theorem lt (S : Boxes own w0 w L) (n : Nat) (h : L[n]? = some (g, t, cs)) : g < w.heap.size := blk_lt (S.at_ n h)
theorem mem (S : Boxes own w0 w L) (n : Nat) (h : L[n]? = some (g, t, cs)) : g ∈ own ∨ w0.heap.size ≤ g := (S.has _ (List.mem_of_getElem? h)).2
theorem ne (S : Boxes own w0 w L) (n m : Nat) (h : L[n]? = some (g, t, cs)) (h' : L[m]? = some (g', t', cs')) (hne : n ≠ m) : g ≠ g' := by
  rintro rfl
  have h1 : (L.map (·.1))[n]? = some g := by simp [h]
  have h2 : (L.map (·.1))[m]? = some g := by simp [h']
  have ha := (List.getElem?_eq_some_iff.1 h1).1
  have hb := (List.getElem?_eq_some_iff.1 h2).1
  exact hne ((List.getElem?_inj ha S.nodup).1 (h1.trans h2.symm))
theorem step (S : Boxes own w0 w L) (hb : Below w.heap.size w w1) : Boxes own w0 w1 L :=
  ⟨hb.os.trans S.os, hb.tape.trans S.tape, hb.output.trans S.output, Nat.le_trans S.size hb.size,
   fun k hk ho => (hb.block k (Nat.lt_of_lt_of_le hk S.size)).trans (S.frame k hk ho),
   fun b h => ⟨(hb.block _ (blk_lt (S.has b h).1)).trans (S.has b h).1, (S.has b h).2⟩, S.nodup⟩
theorem drew (S : Boxes own w0 w L) : Boxes own w0 w.drew L := S.step (below_drew (Below.refl _ _))
theorem drewN (S : Boxes own w0 w L) (n : Nat) : Boxes own w0 (w.drewN n) L := S.step (pw_below_drewN (Below.refl _ _) n)
theorem box (S : Boxes own w0 w L) (hg : g = w.heap.size) (h : w1.heap[g]? = some (.cells cs t (0, 0))) (hb : Below w.heap.size w w1) : Boxes own w0 w1 ((g, t, cs) :: L) := by
  have T := S.step hb
  refine ⟨T.os, T.tape, T.output, T.size, T.frame, ?_, ?_⟩
  · intro b hm
    rcases List.mem_cons.1 hm with rfl | hm
    · exact ⟨h, .inr (by subst hg; exact S.size)⟩
    · exact T.has b hm
  · rw [List.map_cons, List.nodup_cons]
    refine ⟨fun hm => ?_, S.nodup⟩
    obtain ⟨b, h1, h2⟩ := List.mem_map.1 hm
    have := blk_lt (S.has b h1).1
    rw [h2] at this
    simp only at this
    omega
theorem set (S : Boxes own w0 w L) (n : Nat) (h : L[n]? = some (g, t, cs)) (j : Nat) (u : Value) : Boxes own w0 (w.setCell ⟨g, j, none⟩ u) (L.set n (g, t, cs.setIfInBounds j u)) := by
  have hs : (w.setCell ⟨g, j, none⟩ u).heap.size = w.heap.size := World.size_setCell ..
  refine ⟨S.os, S.tape, S.output, by rw [hs]; exact S.size, fun k hk ho => ?_, ?_, ?_⟩
  · have hne : k ≠ g := by
      rintro rfl
      rcases S.mem n h with h1 | h1
      · exact ho h1
      · omega
    exact (Below.heap_setCell w ⟨g, j, none⟩ u k hne).trans (S.frame k hk ho)
  · intro b hm
    obtain ⟨m, hm⟩ := List.mem_iff_getElem?.1 hm
    rw [List.getElem?_set] at hm
    by_cases e : n = m
    · subst e
      rw [if_pos rfl, if_pos (List.getElem?_eq_some_iff.1 h).1] at hm
      obtain rfl := Option.some.inj hm
      exact ⟨blk_set (S.at_ n h) j u, S.mem n h⟩
    · rw [if_neg e] at hm
      obtain ⟨b1, b2, b3⟩ := b
      exact ⟨(Below.heap_setCell w ⟨g, j, none⟩ u b1 (S.ne m n hm h (Ne.symm e))).trans (S.at_ m hm), S.mem m hm⟩
  · have : (L.set n (g, t, cs.setIfInBounds j u)).map (·.1) = L.map (·.1) := by
      rw [List.map_set]
      apply List.ext_getElem?
      intro i
      rw [List.getElem?_set]
      split
      · rename_i e; subst e
        obtain ⟨h1, h2⟩ := List.getElem?_eq_some_iff.1 h
        simp [h1, h2]
      · rfl
    rw [this]
    exact S.nodup
/-- Behind a call: the boxes that it was lent as it leaves them, the others as they were. -/
theorem call (S : Boxes own w0 w L) (T : Boxes own' w w1 L') (ho : ∀ k ∈ own', k ∈ own ∨ w0.heap.size ≤ k) (M : List (Nat × Nat × Array Value)) (hM : ∀ b ∈ M, b ∈ L' ∨ (b ∈ L ∧ b.1 ∉ own')) (nd : (M.map (·.1)).Nodup) : Boxes own w0 w1 M := by
  refine ⟨T.os.trans S.os, T.tape.trans S.tape, T.output.trans S.output, Nat.le_trans S.size T.size, fun k hk hn => ?_, ?_, nd⟩
  · have h1 : k ∉ own' := fun h => by rcases ho k h with h | h; exact hn h; omega
    exact (T.frame k (Nat.lt_of_lt_of_le hk S.size) h1).trans (S.frame k hk hn)
  · intro b hb
    rcases hM b hb with h | ⟨h, hn⟩
    · refine ⟨(T.has b h).1, ?_⟩
      rcases (T.has b h).2 with h1 | h1
      · exact ho _ h1
      · exact .inr (Nat.le_trans S.size h1)
    · exact ⟨(T.frame _ (blk_lt (S.has b h).1) hn).trans (S.has b h).1, (S.has b h).2⟩
/-- Those that are still of use. -/
theorem keep (S : Boxes own w0 w L) (M : List (Nat × Nat × Array Value)) (hM : M.Sublist L) : Boxes own w0 w M :=
  ⟨S.os, S.tape, S.output, S.size, S.frame, fun b hb => S.has b (hM.subset hb), S.nodup.sublist (hM.map _)⟩
/-- Told of a call that was lent nothing. -/
theorem below (S : Boxes [] w0 w L) : Below w0.heap.size w0 w := ⟨S.os, S.tape, S.output, S.size, fun k hk => S.frame k hk (by simp)⟩
/-- Told as the print tells it. -/
theorem told (S : Boxes [g] w0 w L) {v : World} (hB : Below v.heap.size v w0) (hg : v.heap.size ≤ g) : Below v.heap.size v w ∧ KeepBut w0 w g none :=
  ⟨⟨S.os.trans hB.os, S.tape.trans hB.tape, S.output.trans hB.output, Nat.le_trans hB.size S.size, fun k hk => (S.frame k (Nat.lt_of_lt_of_le hk hB.size) (by simp; omega)).trans (hB.block k hk)⟩,
   S.size, fun i hi hne _ => S.frame i hi (by simpa using hne)⟩
/-- What the print tells, told so. -/
theorem ofTold {v : World} (hB : Below v.heap.size v w0) (hB1 : Below v.heap.size v w) (hk : KeepBut w0 w g none) (h : w.heap[g]? = some (.cells cs t (0, 0))) : Boxes [g] w0 w [(g, t, cs)] :=
  ⟨hB1.os.trans hB.os.symm, hB1.tape.trans hB.tape.symm, hB1.output.trans hB.output.symm, hk.1, fun k hk' ho => hk.2 k hk' (by simpa using ho) (by simp), by simp [h], by simp⟩
end Boxes
/-- The world with nothing in memory: what the print's 'w0' may be where nothing is owed. -/
def bare (w : World) : World := { w with heap := #[] }
theorem below_bare (w : World) : Below (bare w).heap.size (bare w) w := ⟨rfl, rfl, rfl, by simp [bare], fun k hk => absurd hk (by simp [bare])⟩
end Go.Proofs.YtnnadgnohchmbaaW.Lent
