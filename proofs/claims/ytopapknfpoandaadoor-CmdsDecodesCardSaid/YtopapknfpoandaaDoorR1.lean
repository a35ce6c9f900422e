import Derived.Test.YtopapknfpoandaaDoorPALLx2
import Derived.Test.YtopapknfpoandaaDoorWSep
namespace Go.Proofs.YtopapknfpoandaaDoor.Hand
open Go.RowKit Go.Proofs.YtopapknfpoandaaDoorW.PrintWords Go.Proofs.YtopapknfpoandaaDoorW.PrintLast Go.Proofs.YtopapknfpoandaaDoorW.PrintMore Go.Proofs.YtopapknfpoandaaDoorW.SepW Go.Proofs.YtopapknfpoandaaDoor.PALL
set_option linter.unusedVariables false
set_option linter.unusedSimpArgs false
variable {w0 w : World} {L : List (Thing w0.heap.size)} {n g c : Nat} {A : Option Addr} {x y : Int} {b : Bool}
/-- The reader's cells. -/
abbrev rcells (A : Option Addr) (l : List Int) (c : Nat) (x y : Int) (b : Bool) : Array Value := #[.slice A l.length c, .int .i64 x, .int .i64 y, .bool b]
/-- A row of numbers that came in. -/
structure Came (w0 : World) (A : Option Addr) (l : List Int) (c : Nat) : Prop where
  reads : Kd.C (Kd.int .i64) w0 A l.length l
  cap : l.length ≤ c
set_option maxRecDepth 100000 in
theorem next_nil (S : Sep w0 w L) (hn : L[n]? = some (Box _ g 53 (rcells A [] c x y b))) :
    Calls Tryd.prog 23 #[.pointer (some ⟨g, 0, none⟩)] w fun e w' => e = .returned (.int .i64 0) ∧ Sep w0 w' (L.set n (Box _ g 53 (rcells A [] c x y true))) := by
  have c0 := blk_cell (S.at_box n hn) 0
  have c3 := blk_cell (S.at_box n hn) 3
  have f3 := blk_frozen (S.at_box n hn) 3
  simp only [List.getElem?_toArray, List.getElem?_cons_zero, List.getElem?_cons_succ, List.length_nil] at c0 c3
  have S' := Aside0.mk S
  clear S
  go_enter Tryd.func23, Tryd.ntmps23
  go_wp2
  go_ret
  exact ⟨rfl, S'.out.set n hn 3 _⟩
set_option maxRecDepth 100000 in
theorem next_cons {z : Int} {t : List Int} (S : Sep w0 w L) (hn : L[n]? = some (Box _ g 53 (rcells A (z :: t) c x y b))) (hr : Came w0 A (z :: t) c) :
    Calls Tryd.prog 23 #[.pointer (some ⟨g, 0, none⟩)] w fun e w' => ∃ A' c', e = .returned (.int .i64 z) ∧ Came w0 A' t c' ∧ Sep w0 w' (L.set n (Box _ g 53 (rcells A' t c' x y b))) := by
  have c0 := blk_cell (S.at_box n hn) 0
  have f0 := blk_frozen (S.at_box n hn) 0
  simp only [List.getElem?_toArray, List.getElem?_cons_zero, List.getElem?_cons_succ, List.length_cons] at c0
  obtain ⟨ad, rfl, hx⟩ := Kd.at_int (Kd.C_below hr.reads S.below) 0 (by decide) (by simp)
  replace hx : w.cell? ad = some (.int .i64 z) := hx
  have hcap := hr.cap
  have q1 : (1 : Int) ≤ (c : Int) := by simp only [List.length_cons] at hcap; omega
  have q2 : (0 : Int) < ((t.length + 1 : Nat) : Int) := by omega
  have q3 : (1 : Int) ≤ ((t.length + 1 : Nat) : Int) := by omega
  have S' := Aside0.mk S
  clear S
  by_cases h1 : c = 1
  · subst h1
    obtain rfl : t = [] := by
      have : t.length = 0 := by simp only [List.length_cons] at hcap; omega
      exact List.length_eq_zero_iff.1 this
    go_enter Tryd.func23, Tryd.ntmps23
    go_wp2
    go_ret
    exact ⟨some ad, 0, rfl, ⟨⟨rfl, by simp, fun h => absurd h (Nat.lt_irrefl 0)⟩, Nat.zero_le _⟩, S'.out.set n hn 0 _⟩
  · go_enter Tryd.func23, Tryd.ntmps23
    go_wp2
    go_ret
    refine ⟨some ⟨ad.block, ad.off + 1, none⟩, c - 1, rfl, ⟨?_, by simp only [List.length_cons] at hcap; omega⟩, S'.out.set n hn 0 _⟩
    have h2 := Kd.C_drop hr.reads (m := 1) (by simp) hcap
    rw [if_neg h1] at h2
    exact h2
/-- What the reader holds. -/
structure RS where
  l : List Int
  x : Int
  y : Int
  b : Bool
def nextS (r : RS) : Int × RS := match r.l with
  | [] => (0, { r with b := true })
  | z :: t => (z, { r with l := t })
/-- The reader stands so. -/
def Rd (w0 : World) (A : Option Addr) (c : Nat) (g : Nat) (r : RS) : Thing w0.heap.size := Box w0.heap.size g 53 (rcells A r.l c r.x r.y r.b)
theorem next_c {r : RS} (S : Sep w0 w L) (hn : L[n]? = some (Rd w0 A c g r)) (hr : Came w0 A r.l c) :
    Calls Tryd.prog 23 #[.pointer (some ⟨g, 0, none⟩)] w fun e w' => ∃ A' c', e = .returned (.int .i64 (nextS r).1) ∧ Came w0 A' (nextS r).2.l c' ∧ Sep w0 w' (L.set n (Rd w0 A' c' g (nextS r).2)) := by
  obtain ⟨l, x, y, b⟩ := r
  cases l with
  | nil => exact (next_nil S hn).mono fun e w' H => ⟨A, c, H.1, hr, H.2⟩
  | cons z t => exact (next_cons S hn hr).mono fun e w' ⟨A', c', H1, H2, H3⟩ => ⟨A', c', H1, H2, H3⟩
def stepS (r : RS) : Int × RS :=
  if (nextS r).1 < 0 ∨ 512 < (nextS r).1 then (0, { (nextS r).2 with b := true }) else
  if (nextS r).1 % 2 = 1 then (-(((nextS r).1 + 1) / 2), (nextS r).2) else ((nextS r).1 / 2, (nextS r).2)
theorem odd_step (z : Int) (h0 : 0 ≤ z) (h1 : z ≤ 512) : wrap64 (-(Int.tdiv (z + 1) 2)) = -((z + 1) / 2) := by
  rw [Int.tdiv_eq_ediv_of_nonneg (by omega)]
  unfold wrap64; omega
set_option maxRecDepth 100000 in
theorem step_c {r : RS} (S : Sep w0 w L) (hn : L[n]? = some (Rd w0 A c g r)) (hr : Came w0 A r.l c) :
    Calls Tryd.prog 24 #[.pointer (some ⟨g, 0, none⟩)] w fun e w' => ∃ A' c', e = .returned (.int .i64 (stepS r).1) ∧ Came w0 A' (stepS r).2.l c' ∧ Sep w0 w' (L.set n (Rd w0 A' c' g (stepS r).2)) := by
  have hn' : n < L.length := (List.getElem?_eq_some_iff.1 hn).1
  obtain ⟨z, r', hz⟩ : ∃ z r', nextS r = (z, r') := ⟨_, _, rfl⟩
  have X := Aside0.mk (next_c S hn hr)
  rw [hz] at X
  unfold stepS
  rw [hz]
  clear hz S hr
  by_cases h1 : z < 0 ∨ 512 < z
  · rw [if_pos h1]
    by_cases h0 : z < 0
    · have d := decide_eq_true h0
      go_enter Tryd.func24, Tryd.ntmps24
      go_wp2_with (go_at_call 23; (with_reducible refine X.out.mono ?_); rintro e1 w1 ⟨A', c', rfl, HC, S1⟩; have f3 := blk_frozen (S1.at_box n (List.getElem?_set_self hn')) 3; have c3 := blk_cell (S1.at_box n (List.getElem?_set_self hn')) 3; simp only [List.getElem?_toArray, List.getElem?_cons_zero, List.getElem?_cons_succ] at c3; have S1' := Aside0.mk S1; clear S1)
      go_ret
      have S2 := S1'.out.set n (List.getElem?_set_self hn') 3 (.bool true)
      rw [List.set_set] at S2
      exact ⟨A', c', rfl, HC, S2⟩
    · have d := decide_eq_false h0
      have d2 : decide (512 < z) = true := decide_eq_true (by omega)
      go_enter Tryd.func24, Tryd.ntmps24
      go_wp2_with (go_at_call 23; (with_reducible refine X.out.mono ?_); rintro e1 w1 ⟨A', c', rfl, HC, S1⟩; have f3 := blk_frozen (S1.at_box n (List.getElem?_set_self hn')) 3; have c3 := blk_cell (S1.at_box n (List.getElem?_set_self hn')) 3; simp only [List.getElem?_toArray, List.getElem?_cons_zero, List.getElem?_cons_succ] at c3; have S1' := Aside0.mk S1; clear S1)
      go_ret
      have S2 := S1'.out.set n (List.getElem?_set_self hn') 3 (.bool true)
      rw [List.set_set] at S2
      exact ⟨A', c', rfl, HC, S2⟩
  · rw [if_neg h1]
    have d : decide (z < 0) = false := decide_eq_false (by omega)
    have d2 : decide (512 < z) = false := decide_eq_false (by omega)
    have hm : Int.tmod z 2 = z % 2 := Int.tmod_eq_emod_of_nonneg (by omega)
    by_cases h2 : z % 2 = 1
    · rw [if_pos h2]
      have e := odd_step z (by omega) (by omega)
      have k := beq_iff_eq.2 h2
      have HE := Aside0.mk e
      clear e
      go_enter Tryd.func24, Tryd.ntmps24
      go_wp2_with (go_at_call 23; (with_reducible refine X.out.mono ?_); rintro e1 w1 ⟨A', c', rfl, HC, S1⟩; have f3 := blk_frozen (S1.at_box n (List.getElem?_set_self hn')) 3; have c3 := blk_cell (S1.at_box n (List.getElem?_set_self hn')) 3; simp only [List.getElem?_toArray, List.getElem?_cons_zero, List.getElem?_cons_succ] at c3; have S1' := Aside0.mk S1; clear S1)
      go_ret
      exact ⟨A', c', (show Ending.returned (Value.int .i64 (wrap64 (-(Int.tdiv (z + 1) 2)))) = _ by rw [HE.out]), HC, S1'.out⟩
    · rw [if_neg h2]
      have k := beq_eq_false_iff_ne.2 h2
      go_enter Tryd.func24, Tryd.ntmps24
      go_wp2_with (go_at_call 23; (with_reducible refine X.out.mono ?_); rintro e1 w1 ⟨A', c', rfl, HC, S1⟩; have f3 := blk_frozen (S1.at_box n (List.getElem?_set_self hn')) 3; have c3 := blk_cell (S1.at_box n (List.getElem?_set_self hn')) 3; simp only [List.getElem?_toArray, List.getElem?_cons_zero, List.getElem?_cons_succ] at c3; have S1' := Aside0.mk S1; clear S1)
      go_ret
      exact ⟨A', c', rfl, HC, S1'.out⟩
end Go.Proofs.YtopapknfpoandaaDoor.Hand
