import Derived.Test.YtopapknfpoandaaDoorR2
namespace Go.Proofs.YtopapknfpoandaaDoor.Hand
open Go.RowKit Go.Proofs.YtopapknfpoandaaDoorW.PrintWords Go.Proofs.YtopapknfpoandaaDoorW.PrintLast Go.Proofs.YtopapknfpoandaaDoorW.PrintMore Go.Proofs.YtopapknfpoandaaDoorW.SepW Go.Proofs.YtopapknfpoandaaDoor.PALL
set_option linter.unusedVariables false
set_option linter.unusedSimpArgs false
variable {w0 w : World} {L : List (Thing w0.heap.size)} {n g c : Nat} {A : Option Addr} {x y : Int} {b : Bool}
/-- What a command leaves. -/
def cmdS (id : Int) (r : RS) : List S44 × RS :=
  if (nextS r).2.b = true ∨ (nextS r).1 < 0 ∨ (nextS r).1 % 8 ≠ id ∨ (id = 7 ∧ (nextS r).1 ≠ 15) then ([], { (nextS r).2 with b := true })
  else if id = 7 then ([], (nextS r).2) else ptsS ((nextS r).1 / 8).toNat (nextS r).2
set_option maxHeartbeats 4000000 in
set_option maxRecDepth 100000 in
theorem cmd_bad_1 {r : RS} (S : Sep w0 w L) (hn : L[n]? = some (Rd w0 A c g r)) (hr : Came w0 A r.l c) (hbad : (nextS r).2.b = true ∨ (nextS r).1 < 0 ∨ (nextS r).1 % 8 ≠ 1 ∨ ((1 : Int) = 7 ∧ (nextS r).1 ≠ 15)) :
    Calls Tryd.prog 19 #[.pointer (some ⟨g, 0, none⟩), .int .i64 1] w fun e w' => ∃ A' c' v, e = .returned v ∧ Came w0 A' (nextS r).2.l c' ∧
      Sep w0 w' (Own _ k44 44 v ([] : List S44) :: L.set n (Rd w0 A' c' g { (nextS r).2 with b := true })) := by
  have hn' : n < L.length := (List.getElem?_eq_some_iff.1 hn).1
  obtain ⟨z, r', hz⟩ : ∃ z r', nextS r = (z, r') := ⟨_, _, rfl⟩
  have X := Aside0.mk (next_c S hn hr)
  rw [hz] at X hbad ⊢
  clear hz S hr
  simp only at hbad
  by_cases hb : r'.b = true
  · clear hbad
    go_enter Tryd.func19, Tryd.ntmps19
    go_wp2_with (go_at_call 23; (with_reducible refine X.out.mono ?_); rintro e1 w1 ⟨A', c', rfl, HC, S1⟩; have f3 := blk_frozen (S1.at_box n (List.getElem?_set_self hn')) 3; have c3 := blk_cell (S1.at_box n (List.getElem?_set_self hn')) 3; simp only [List.getElem?_toArray, List.getElem?_cons_zero, List.getElem?_cons_succ] at  c3; rw [hb] at c3; have S1' := Aside0.mk S1; clear S1)
    go_ret
    have S2 := S1'.out.set n (List.getElem?_set_self hn') 3 (.bool true)
    rw [List.set_set] at S2
    exact ⟨A', c', _, rfl, HC, S2.nil k44 44⟩
  · have hb : r'.b = false := by simpa using hb
    by_cases h0 : z < 0
    · have d := decide_eq_true h0
      clear hbad
      go_enter Tryd.func19, Tryd.ntmps19
      go_wp2_with (go_at_call 23; (with_reducible refine X.out.mono ?_); rintro e1 w1 ⟨A', c', rfl, HC, S1⟩; have f3 := blk_frozen (S1.at_box n (List.getElem?_set_self hn')) 3; have c3 := blk_cell (S1.at_box n (List.getElem?_set_self hn')) 3; simp only [List.getElem?_toArray, List.getElem?_cons_zero, List.getElem?_cons_succ] at  c3; rw [hb] at c3; have S1' := Aside0.mk S1; clear S1)
      go_ret
      have S2 := S1'.out.set n (List.getElem?_set_self hn') 3 (.bool true)
      rw [List.set_set] at S2
      exact ⟨A', c', _, rfl, HC, S2.nil k44 44⟩
    · have d := decide_eq_false h0
      have hm : Int.tmod z 8 = z % 8 := Int.tmod_eq_emod_of_nonneg (by omega)
      have h1 : ¬ z % 8 = 1 := by
        rcases hbad with h | h | h | h
        · rw [hb] at h; cases h
        · omega
        · exact h
        · omega
      have d1 : (z % 8 != 1) = true := bne_iff_ne.2 h1
      clear hbad
      go_enter Tryd.func19, Tryd.ntmps19
      go_wp2_with (go_at_call 23; (with_reducible refine X.out.mono ?_); rintro e1 w1 ⟨A', c', rfl, HC, S1⟩; have f3 := blk_frozen (S1.at_box n (List.getElem?_set_self hn')) 3; have c3 := blk_cell (S1.at_box n (List.getElem?_set_self hn')) 3; simp only [List.getElem?_toArray, List.getElem?_cons_zero, List.getElem?_cons_succ] at  c3; rw [hb] at c3; have S1' := Aside0.mk S1; clear S1)
      go_ret
      have S2 := S1'.out.set n (List.getElem?_set_self hn') 3 (.bool true)
      rw [List.set_set] at S2
      exact ⟨A', c', _, rfl, HC, S2.nil k44 44⟩
set_option maxHeartbeats 4000000 in
set_option maxRecDepth 100000 in
theorem cmd_bad_2 {r : RS} (S : Sep w0 w L) (hn : L[n]? = some (Rd w0 A c g r)) (hr : Came w0 A r.l c) (hbad : (nextS r).2.b = true ∨ (nextS r).1 < 0 ∨ (nextS r).1 % 8 ≠ 2 ∨ ((2 : Int) = 7 ∧ (nextS r).1 ≠ 15)) :
    Calls Tryd.prog 19 #[.pointer (some ⟨g, 0, none⟩), .int .i64 2] w fun e w' => ∃ A' c' v, e = .returned v ∧ Came w0 A' (nextS r).2.l c' ∧
      Sep w0 w' (Own _ k44 44 v ([] : List S44) :: L.set n (Rd w0 A' c' g { (nextS r).2 with b := true })) := by
  have hn' : n < L.length := (List.getElem?_eq_some_iff.1 hn).1
  obtain ⟨z, r', hz⟩ : ∃ z r', nextS r = (z, r') := ⟨_, _, rfl⟩
  have X := Aside0.mk (next_c S hn hr)
  rw [hz] at X hbad ⊢
  clear hz S hr
  simp only at hbad
  by_cases hb : r'.b = true
  · clear hbad
    go_enter Tryd.func19, Tryd.ntmps19
    go_wp2_with (go_at_call 23; (with_reducible refine X.out.mono ?_); rintro e1 w1 ⟨A', c', rfl, HC, S1⟩; have f3 := blk_frozen (S1.at_box n (List.getElem?_set_self hn')) 3; have c3 := blk_cell (S1.at_box n (List.getElem?_set_self hn')) 3; simp only [List.getElem?_toArray, List.getElem?_cons_zero, List.getElem?_cons_succ] at  c3; rw [hb] at c3; have S1' := Aside0.mk S1; clear S1)
    go_ret
    have S2 := S1'.out.set n (List.getElem?_set_self hn') 3 (.bool true)
    rw [List.set_set] at S2
    exact ⟨A', c', _, rfl, HC, S2.nil k44 44⟩
  · have hb : r'.b = false := by simpa using hb
    by_cases h0 : z < 0
    · have d := decide_eq_true h0
      clear hbad
      go_enter Tryd.func19, Tryd.ntmps19
      go_wp2_with (go_at_call 23; (with_reducible refine X.out.mono ?_); rintro e1 w1 ⟨A', c', rfl, HC, S1⟩; have f3 := blk_frozen (S1.at_box n (List.getElem?_set_self hn')) 3; have c3 := blk_cell (S1.at_box n (List.getElem?_set_self hn')) 3; simp only [List.getElem?_toArray, List.getElem?_cons_zero, List.getElem?_cons_succ] at  c3; rw [hb] at c3; have S1' := Aside0.mk S1; clear S1)
      go_ret
      have S2 := S1'.out.set n (List.getElem?_set_self hn') 3 (.bool true)
      rw [List.set_set] at S2
      exact ⟨A', c', _, rfl, HC, S2.nil k44 44⟩
    · have d := decide_eq_false h0
      have hm : Int.tmod z 8 = z % 8 := Int.tmod_eq_emod_of_nonneg (by omega)
      have h1 : ¬ z % 8 = 2 := by
        rcases hbad with h | h | h | h
        · rw [hb] at h; cases h
        · omega
        · exact h
        · omega
      have d1 : (z % 8 != 2) = true := bne_iff_ne.2 h1
      clear hbad
      go_enter Tryd.func19, Tryd.ntmps19
      go_wp2_with (go_at_call 23; (with_reducible refine X.out.mono ?_); rintro e1 w1 ⟨A', c', rfl, HC, S1⟩; have f3 := blk_frozen (S1.at_box n (List.getElem?_set_self hn')) 3; have c3 := blk_cell (S1.at_box n (List.getElem?_set_self hn')) 3; simp only [List.getElem?_toArray, List.getElem?_cons_zero, List.getElem?_cons_succ] at  c3; rw [hb] at c3; have S1' := Aside0.mk S1; clear S1)
      go_ret
      have S2 := S1'.out.set n (List.getElem?_set_self hn') 3 (.bool true)
      rw [List.set_set] at S2
      exact ⟨A', c', _, rfl, HC, S2.nil k44 44⟩
set_option maxHeartbeats 4000000 in
set_option maxRecDepth 100000 in
theorem cmd_bad_7 {r : RS} (S : Sep w0 w L) (hn : L[n]? = some (Rd w0 A c g r)) (hr : Came w0 A r.l c) (hbad : (nextS r).2.b = true ∨ (nextS r).1 < 0 ∨ (nextS r).1 % 8 ≠ 7 ∨ ((7 : Int) = 7 ∧ (nextS r).1 ≠ 15)) :
    Calls Tryd.prog 19 #[.pointer (some ⟨g, 0, none⟩), .int .i64 7] w fun e w' => ∃ A' c' v, e = .returned v ∧ Came w0 A' (nextS r).2.l c' ∧
      Sep w0 w' (Own _ k44 44 v ([] : List S44) :: L.set n (Rd w0 A' c' g { (nextS r).2 with b := true })) := by
  have hn' : n < L.length := (List.getElem?_eq_some_iff.1 hn).1
  obtain ⟨z, r', hz⟩ : ∃ z r', nextS r = (z, r') := ⟨_, _, rfl⟩
  have X := Aside0.mk (next_c S hn hr)
  rw [hz] at X hbad ⊢
  clear hz S hr
  simp only at hbad
  by_cases hb : r'.b = true
  · clear hbad
    go_enter Tryd.func19, Tryd.ntmps19
    go_wp2_with (go_at_call 23; (with_reducible refine X.out.mono ?_); rintro e1 w1 ⟨A', c', rfl, HC, S1⟩; have f3 := blk_frozen (S1.at_box n (List.getElem?_set_self hn')) 3; have c3 := blk_cell (S1.at_box n (List.getElem?_set_self hn')) 3; simp only [List.getElem?_toArray, List.getElem?_cons_zero, List.getElem?_cons_succ] at  c3; rw [hb] at c3; have S1' := Aside0.mk S1; clear S1)
    go_ret
    have S2 := S1'.out.set n (List.getElem?_set_self hn') 3 (.bool true)
    rw [List.set_set] at S2
    exact ⟨A', c', _, rfl, HC, S2.nil k44 44⟩
  · have hb : r'.b = false := by simpa using hb
    by_cases h0 : z < 0
    · have d := decide_eq_true h0
      clear hbad
      go_enter Tryd.func19, Tryd.ntmps19
      go_wp2_with (go_at_call 23; (with_reducible refine X.out.mono ?_); rintro e1 w1 ⟨A', c', rfl, HC, S1⟩; have f3 := blk_frozen (S1.at_box n (List.getElem?_set_self hn')) 3; have c3 := blk_cell (S1.at_box n (List.getElem?_set_self hn')) 3; simp only [List.getElem?_toArray, List.getElem?_cons_zero, List.getElem?_cons_succ] at  c3; rw [hb] at c3; have S1' := Aside0.mk S1; clear S1)
      go_ret
      have S2 := S1'.out.set n (List.getElem?_set_self hn') 3 (.bool true)
      rw [List.set_set] at S2
      exact ⟨A', c', _, rfl, HC, S2.nil k44 44⟩
    · have d := decide_eq_false h0
      have hm : Int.tmod z 8 = z % 8 := Int.tmod_eq_emod_of_nonneg (by omega)
      by_cases h1 : z % 8 = 7
      · have h2 : ¬ z = 15 := by
          rcases hbad with h | h | h | h
          · rw [hb] at h; cases h
          · omega
          · exact absurd h1 h
          · exact h.2
        have d2 : (z != 15) = true := bne_iff_ne.2 h2
        clear hbad h2
        go_enter Tryd.func19, Tryd.ntmps19
        go_wp2_with (go_at_call 23; (with_reducible refine X.out.mono ?_); rintro e1 w1 ⟨A', c', rfl, HC, S1⟩; have f3 := blk_frozen (S1.at_box n (List.getElem?_set_self hn')) 3; have c3 := blk_cell (S1.at_box n (List.getElem?_set_self hn')) 3; simp only [List.getElem?_toArray, List.getElem?_cons_zero, List.getElem?_cons_succ] at  c3; rw [hb] at c3; have S1' := Aside0.mk S1; clear S1)
        go_ret
        have S2 := S1'.out.set n (List.getElem?_set_self hn') 3 (.bool true)
        rw [List.set_set] at S2
        exact ⟨A', c', _, rfl, HC, S2.nil k44 44⟩
      · have d1 : (z % 8 != 7) = true := bne_iff_ne.2 h1
        clear hbad
        go_enter Tryd.func19, Tryd.ntmps19
        go_wp2_with (go_at_call 23; (with_reducible refine X.out.mono ?_); rintro e1 w1 ⟨A', c', rfl, HC, S1⟩; have f3 := blk_frozen (S1.at_box n (List.getElem?_set_self hn')) 3; have c3 := blk_cell (S1.at_box n (List.getElem?_set_self hn')) 3; simp only [List.getElem?_toArray, List.getElem?_cons_zero, List.getElem?_cons_succ] at  c3; rw [hb] at c3; have S1' := Aside0.mk S1; clear S1)
        go_ret
        have S2 := S1'.out.set n (List.getElem?_set_self hn') 3 (.bool true)
        rw [List.set_set] at S2
        exact ⟨A', c', _, rfl, HC, S2.nil k44 44⟩
set_option maxHeartbeats 4000000 in
set_option maxRecDepth 100000 in
theorem cmd_closed {r : RS} (S : Sep w0 w L) (hn : L[n]? = some (Rd w0 A c g r)) (hr : Came w0 A r.l c) (hb : (nextS r).2.b = false) (h0 : (nextS r).1 = 15) :
    Calls Tryd.prog 19 #[.pointer (some ⟨g, 0, none⟩), .int .i64 7] w fun e w' => ∃ A' c' v, e = .returned v ∧ Came w0 A' (nextS r).2.l c' ∧
      Sep w0 w' (Own _ k44 44 v ([] : List S44) :: L.set n (Rd w0 A' c' g (nextS r).2)) := by
  have hn' : n < L.length := (List.getElem?_eq_some_iff.1 hn).1
  obtain ⟨z, r', hz⟩ : ∃ z r', nextS r = (z, r') := ⟨_, _, rfl⟩
  have X := Aside0.mk (next_c S hn hr)
  rw [hz] at X hb h0 ⊢
  clear hz S hr
  simp only at hb h0
  subst h0
  go_enter Tryd.func19, Tryd.ntmps19
  go_wp2_with (go_at_call 23; (with_reducible refine X.out.mono ?_); rintro e1 w1 ⟨A', c', rfl, HC, S1⟩; have f3 := blk_frozen (S1.at_box n (List.getElem?_set_self hn')) 3; have c3 := blk_cell (S1.at_box n (List.getElem?_set_self hn')) 3; simp only [List.getElem?_toArray, List.getElem?_cons_zero, List.getElem?_cons_succ] at  c3; rw [hb] at c3; have S1' := Aside0.mk S1; clear S1)
  go_loopg [6, 36] 1 (fun kq v6 v36 w' => v6 = .slice none 0 0 ∧ v36 = .int .i64 0 ∧ w' = w1)
  case atStart => exact ⟨rfl, rfl, rfl⟩
  case round =>
    obtain ⟨rfl, rfl, rfl⟩ := hrel
    go_wp2
    go_ret
    exact ⟨A', c', _, rfl, HC, S1'.out.nil k44 44⟩
theorem cmd_c (id : Int) (hid : id = 1 ∨ id = 2 ∨ id = 7) {r : RS} (S : Sep w0 w L) (hn : L[n]? = some (Rd w0 A c g r)) (hr : Came w0 A r.l c) (hl : r.l.length ≤ 1000000000) (hz : (nextS r).1 ≤ 9223372036854775807) :
    Calls Tryd.prog 19 #[.pointer (some ⟨g, 0, none⟩), .int .i64 id] w fun e w' => ∃ A' c' v, e = .returned v ∧ Came w0 A' (cmdS id r).2.l c' ∧
      Sep w0 w' (Own _ k44 44 v (cmdS id r).1 :: L.set n (Rd w0 A' c' g (cmdS id r).2)) := by
  unfold cmdS
  by_cases hbad : (nextS r).2.b = true ∨ (nextS r).1 < 0 ∨ (nextS r).1 % 8 ≠ id ∨ (id = 7 ∧ (nextS r).1 ≠ 15)
  · rw [if_pos hbad]
    rcases hid with rfl | rfl | rfl
    · exact cmd_bad_1 S hn hr hbad
    · exact cmd_bad_2 S hn hr hbad
    · exact cmd_bad_7 S hn hr hbad
  · rw [if_neg hbad]
    have hb : (nextS r).2.b = false := by
      cases h : (nextS r).2.b with
      | true => exact absurd (.inl h) hbad
      | false => rfl
    have h0 : 0 ≤ (nextS r).1 := by
      by_cases h : (nextS r).1 < 0
      · exact absurd (.inr (.inl h)) hbad
      · omega
    have h1 : (nextS r).1 % 8 = id := by
      by_cases h : (nextS r).1 % 8 = id
      · exact h
      · exact absurd (.inr (.inr (.inl h))) hbad
    rcases hid with rfl | rfl | rfl
    · rw [if_neg (by decide)]; exact cmd_walk_1 S hn hr hl hb h0 h1 hz
    · rw [if_neg (by decide)]; exact cmd_walk_2 S hn hr hl hb h0 h1 hz
    · rw [if_pos rfl]
      refine cmd_closed S hn hr hb ?_
      by_cases h : (nextS r).1 = 15
      · exact h
      · exact absurd (.inr (.inr (.inr ⟨rfl, h⟩))) hbad
end Go.Proofs.YtopapknfpoandaaDoor.Hand
