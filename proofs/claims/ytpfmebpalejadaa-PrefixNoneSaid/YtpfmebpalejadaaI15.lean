import Derived.Test.YtpfmebpalejadaaJa
namespace Go.Proofs.Ytpfmebpalejadaa.Hand
open Go.Proofs.YtpfmebpalejadaaW Go.RowKit Go.Proofs.YtpfmebpalejadaaW.PrintWords Go.Proofs.YtpfmebpalejadaaW.PrintLast Go.Proofs.YtpfmebpalejadaaW.PrintMore Go.Proofs.YtpfmebpalejadaaW.SepW Go.Proofs.Ytpfmebpalejadaa.PALL Go.Proofs.Ytpfmebpalejadaa.Plain
set_option linter.unusedVariables false
set_option linter.unusedSimpArgs false

theorem take_next (l : List ByteArray) (i : Nat) (h : i < l.length) : l.take i ++ [l[i]] = l.take (i + 1) := by
  rw [List.take_add_one, List.getElem?_eq_getElem h]; rfl
/-- A row of words of one's own: where it lies. -/
theorem own_str_at {w0 w : World} {L : List (Thing w0.heap.size)} {v : Value} {xs : List ByteArray} (S : Sep w0 w L) (n : Nat) (h : L[n]? = some (Own _ Kd.string 9 v xs)) (hp : 0 < xs.length) : ∃ g cap, v = .slice (some ⟨g, 0, none⟩) xs.length cap ∧ (∀ i (hi : i < xs.length), w.cell? ⟨g, i, none⟩ = some (.string xs[i])) ∧ ∀ i, w.frozen? ⟨g, i, none⟩ = false := by
  have ho := own_of_R (S.at_own n h)
  obtain ⟨g, cap, rfl, _, _⟩ := ho.form hp
  refine ⟨g, cap, rfl, fun i hi => ?_, fun i => ?_⟩
  · have := ho.cells (g := g) rfl i (.string xs[i]) (by rw [List.getElem?_map, List.getElem?_eq_getElem hi]; rfl)
    rwa [add_plain] at this
  · rcases ho.2 with ⟨h', _⟩ | ⟨g', cap', cur, h', _, hh, _⟩
    · cases h'
    · have : g = g' := by injection h' with h'; injection h' with h'; injection h' with h'
      subst this
      simp [World.frozen?, hh]
theorem own_put_str {w0 w : World} {L : List (Thing w0.heap.size)} {g cap : Nat} {xs : List ByteArray} (S : Sep w0 w L) (n : Nat) (h : L[n]? = some (Own _ Kd.string 9 (.slice (some ⟨g, 0, none⟩) xs.length cap) xs)) (i : Nat) (x : ByteArray) :
    Sep w0 (w.setCell ⟨g, i, none⟩ (.string x)) (L.set n (Own _ Kd.string 9 (.slice (some ⟨g, 0, none⟩) xs.length cap) (xs.set i x))) := by
  obtain ⟨ok, h1, hp, hu⟩ := SepI.upd n S.items h
  have hr : Kd.string.R 9 w w0.heap.size ok (.slice (some ⟨g, 0, none⟩) xs.length cap) xs := hp
  have hok : ok g := hr.1 g rfl
  have hs : (w.setCell ⟨g, i, none⟩ (.string x)).heap.size = w.heap.size := World.size_setCell ..
  have hput := Kd.R_put hr (i : Int) x
  rw [show ((i : Int)).toNat = i by omega] at hput
  exact ⟨below_set S.below (h1 g hok).2.1, hu _ _ (by omega) (fun k _ _ hk => Below.heap_setCell w ⟨g, i, none⟩ _ k (fun e => hk (e ▸ hok))) (fun _ _ => trivial) (Kd.R_mono hput.1 (fun k hk => .inl hk))⟩
theorem own_put_str' {w0 w : World} {L : List (Thing w0.heap.size)} {g m cap : Nat} {xs : List ByteArray} (S : Sep w0 w L) (n : Nat) (h : L[n]? = some (Own _ Kd.string 9 (.slice (some ⟨g, 0, none⟩) m cap) xs)) (hm : m = xs.length) (i : Nat) (x : ByteArray) :
    Sep w0 (w.setCell ⟨g, i, none⟩ (.string x)) (L.set n (Own _ Kd.string 9 (.slice (some ⟨g, 0, none⟩) m cap) (xs.set i x))) := by
  subst hm
  exact own_put_str S n h i x
theorem RowIn.own {w0 : World} {L : List (Thing w0.heap.size)} {A : Option Addr} {m c : Nat} {l : List ByteArray} (n : Nat) (h : L[n]? = some (Own _ Kd.string 9 (.slice A m c) l)) : RowIn w0 L A l := fun w' M S =>
  S.own_C (M.length + n) (by rw [List.getElem?_append_right (by omega), Nat.add_sub_cancel_left]; exact h)
/-- One row of words, as a row of rows. -/
theorem box_docs {w : World} {g : Nat} {A : Option Addr} {c : Nat} {l : List ByteArray} (h : w.heap[g]? = some (.cells #[.slice A l.length c] 33 (0, 0))) (hC : Kd.string.C w A l.length l) (hc : l.length ≤ c) : Kd.C (Kd.slice 9 Kd.string) w (some ⟨g, 0, none⟩) 1 [l] := by
  refine ⟨rfl, by decide, fun _ => ⟨_, rfl, fun j p hp => ?_⟩⟩
  obtain rfl : j = 0 := by have := (List.getElem?_eq_some_iff.1 hp).1; simp at this; omega
  obtain rfl : l = p := by simpa using hp
  refine ⟨[.slice A l.length c], rfl, ⟨A, c, rfl, hc, hC⟩, fun i u hu => ?_⟩
  obtain rfl : i = 0 := by have := (List.getElem?_eq_some_iff.1 hu).1; simp at this; omega
  obtain rfl : Value.slice A l.length c = u := by simpa using hu
  have := blk_cell h 0
  simpa [Kd.slice, add_plain] using this
theorem RB_twice (l : List ByteArray) (w : ByteArray) (x : Int) : RB [l ++ l] w x ↔ RB [l] w x := by
  constructor
  · rintro ⟨i, l', rfl, h2, h3⟩
    obtain rfl : i = 0 := by have := (List.getElem?_eq_some_iff.1 h2).1; simp at this; omega
    obtain rfl : l ++ l = l' := by simpa using h2
    exact ⟨0, l, rfl, rfl, by simpa using h3⟩
  · rintro ⟨i, l', rfl, h2, h3⟩
    obtain rfl : i = 0 := by have := (List.getElem?_eq_some_iff.1 h2).1; simp at this; omega
    obtain rfl : l = l' := by simpa using h2
    exact ⟨0, l ++ l, rfl, rfl, by simp [h3]⟩
set_option maxHeartbeats 8000000 in
set_option maxRecDepth 100000 in
theorem none_law (l : List ByteArray) (p : ByteArray) (A : Option Addr) (c : Nat) (w : World) (hC : Kd.string.C w A l.length l) (hc : l.length ≤ c) (hp : p.size ≤ 140737488351232) :
    Calls Try.prog 7 #[.slice A l.length c, .string p] w fun e w' => e = .returned (.bool true) ∧ Below w.heap.size w w' := by
  obtain ⟨kO, hkO⟩ := (lw_ev l).rounds
  have HC := Aside0.mk hC
  have HCC := Aside0.mk hc
  have S := Aside0.mk (Sep.start w)
  clear hC hc
  by_cases hfo : wordsB l = true
  · have HOL : Aside0 (l.length ≤ 30) := ⟨wordsB_len hfo⟩
    rw [hfo] at hkO
    have HKO := Aside0.mk hkO
    clear hkO hfo
    by_cases hq : (p.size : Int) > 40
    · have d0 : decide (40 < (p.size : Int)) = true := decide_eq_true hq
      have d1 : decide (40 < p.size) = true := decide_eq_true (by omega)
      clear hq
      go_enter Try.func7, Try.ntmps7
      go_wp2_with (first | (go_at_call 21; have X_ := mapmakerlaw52_words.calls kO A c l true w HC.out HCC.out HKO.out; (with_reducible refine X_.mono ?_); clear X_; rintro e_ w21 ⟨rfl, hdn⟩; obtain ⟨n21, rfl⟩ := hdn.out; replace S := Aside0.mk (S.out.drewN n21); clear hdn) | (go_at_call 9; (with_reducible refine (lives_ix _).mono ?_); rintro e_ w9 ⟨rfl, hb⟩; replace S := Aside0.mk (S.out.step hb); clear hb) | fail)
      go_ret
      exact ⟨rfl, S.out.below⟩
    · have d0 : decide (40 < (p.size : Int)) = false := decide_eq_false hq
      have d1 : decide (40 < p.size) = false := decide_eq_false (by omega)
      clear hq
      have hbl : l.length ≤ 30 := HOL.out
      go_enter Try.func7, Try.ntmps7
      go_upto_region 9 with (first | (go_at_call 21; have X_ := mapmakerlaw52_words.calls kO A c l true w HC.out HCC.out HKO.out; (with_reducible refine X_.mono ?_); clear X_; rintro e_ w21 ⟨rfl, hdn⟩; obtain ⟨n21, rfl⟩ := hdn.out; replace S := Aside0.mk (S.out.drewN n21); clear hdn) | (go_at_call 16; (with_reducible refine (nil16 p _).mono ?_); rintro e_ w16 ⟨rfl, hb⟩; replace S := Aside0.mk (S.out.step hb); clear hb) | (go_at_call 15; (with_reducible refine (nil15 _).mono ?_); rintro e_ w_ ⟨rfl, rfl⟩) | (go_at_call 18; (with_reducible refine (nil18 p _).mono ?_); rintro e_ w_ ⟨rfl, rfl⟩) | (go_at_call 20; (with_reducible refine (nil20 p _).mono ?_); rintro e_ w_ ⟨rfl, rfl⟩) | (go_at_call 14; (with_reducible refine (nil14 _ _ _).mono ?_); rintro e_ w_ ⟨rfl, rfl⟩) | (go_at_call 22; (with_reducible refine (nil22 _).mono ?_); rintro e_ w_ ⟨rfl, rfl⟩) | fail)
      replace S := Aside0.mk (S.out.nil Kd.string 9)
      go_loopg [8, 9] (l.length + 1) (fun kq v8 v9 w' => ∃ (i : Nat) (acc : List ByteArray), v9 = .int .i64 i ∧ Aside0 (kq + i = l.length + 1) ∧ Aside0 (i ≤ l.length) ∧ Aside0 (acc = l.take i) ∧ Aside0 (Sep w w' [Own _ Kd.string 9 v8 acc]))
      case atStart => exact ⟨0, [], rfl, ⟨rfl⟩, ⟨Nat.zero_le _⟩, ⟨rfl⟩, S⟩
      case round =>
        clear S
        obtain ⟨i, acc, rfl, KQ, IL, AC, S⟩ := hrel
        cases gk with
        | zero => exact absurd KQ.out (by have := IL.out; omega)
        | succ q1 =>
        by_cases hi : i < l.length
        · have p0 : (0 : Int) ≤ (i : Int) := by omega
          have p1 : (i : Int) < (l.length : Int) := by omega
          have d2' : decide (i < l.length) = true := decide_eq_true hi
          obtain ⟨ad, ead, hcell0⟩ := str_at HC.out i hi
          have hcell := pw_cell_below S.out.below hcell0
          clear hcell0
          subst ead
          have HAL : Aside0 (acc.length ≤ 100) := ⟨by rw [AC.out]; simp only [List.length_append, List.length_take]; have := HOL.out; omega⟩
          go_wp2_with (first | ((with_reducible refine gate_builtin (b := .append) (xs := #[.tmp 70, .tmp 75]) rfl ?_); at_builtin; obtain ⟨ok, hR, hnew, hup⟩ := S.out.append 0 rfl; refine Kd.R_append Kd.string (w0 := w) w.heap.size rfl (.tmp 70) (.tmp 75) 33 9 (.string ByteArray.empty) 16 rfl Try.underlying33 info9 rfl (by decide) (by omega) u8 acc l[i] [.string l[i]] ok (fun _ => False) rfl rfl (rfl) (fun _ h => h.elim) hnew hR S.out.below S.out.size (by have h1 := HOL.out; have h2 := HAL.out; omega) ?_; intro v76 w76 ho hb hg hat; replace S := Aside0.mk (hup _ w76 _ ho hb hg); clear hup hR hnew ho hb hg hat) | fail)
          go_roundg q1
          case measure => omega
          case rel => exact ⟨i + 1, acc ++ [l[i]], rfl, ⟨by have := KQ.out; omega⟩, ⟨by omega⟩, ⟨by rw [AC.out]; exact take_next l i hi⟩, S⟩
        · obtain rfl : i = l.length := by have := IL.out; omega
          have d2' : decide (l.length < l.length) = false := decide_eq_false (by omega)
          clear hi
          go_upto_region 13 with fail
          go_loopg [8, 10] (l.length + 1) (fun kq v8 v10 w' => ∃ (i : Nat) (acc : List ByteArray), v10 = .int .i64 i ∧ Aside0 (kq + i = l.length + 1) ∧ Aside0 (i ≤ l.length) ∧ Aside0 (acc = l ++ l.take i) ∧ Aside0 (Sep w w' [Own _ Kd.string 9 v8 acc]))
          case atStart => exact ⟨0, acc, rfl, ⟨rfl⟩, ⟨Nat.zero_le _⟩, ⟨by rw [AC.out]; simp⟩, S⟩
          clear AC IL KQ
          case round =>
            clear S
            obtain ⟨i, acc, rfl, KQ, IL, AC, S⟩ := hrel
            cases gk with
            | zero => exact absurd KQ.out (by have := IL.out; omega)
            | succ q1 =>
            by_cases hi : i < l.length
            · have p0 : (0 : Int) ≤ (i : Int) := by omega
              have p1 : (i : Int) < (l.length : Int) := by omega
              have d2' : decide (i < l.length) = true := decide_eq_true hi
              obtain ⟨ad, ead, hcell0⟩ := str_at HC.out i hi
              have hcell := pw_cell_below S.out.below hcell0
              clear hcell0
              subst ead
              have HAL : Aside0 (acc.length ≤ 100) := ⟨by rw [AC.out]; simp only [List.length_append, List.length_take]; have := HOL.out; omega⟩
              go_wp2_with (first | ((with_reducible refine gate_builtin (b := .append) (xs := #[.tmp 83, .tmp 88]) rfl ?_); at_builtin; obtain ⟨ok, hR, hnew, hup⟩ := S.out.append 0 rfl; refine Kd.R_append Kd.string (w0 := w) w.heap.size rfl (.tmp 83) (.tmp 88) 33 9 (.string ByteArray.empty) 16 rfl Try.underlying33 info9 rfl (by decide) (by omega) u8 acc l[i] [.string l[i]] ok (fun _ => False) rfl rfl (rfl) (fun _ h => h.elim) hnew hR S.out.below S.out.size (by have h1 := HOL.out; have h2 := HAL.out; omega) ?_; intro v89 w89 ho hb hg hat; replace S := Aside0.mk (hup _ w89 _ ho hb hg); clear hup hR hnew ho hb hg hat) | fail)
              go_roundg q1
              case measure => omega
              case rel => exact ⟨i + 1, acc ++ [l[i]], rfl, ⟨by have := KQ.out; omega⟩, ⟨by omega⟩, ⟨by rw [AC.out]; rw [List.append_assoc, take_next l i hi]⟩, S⟩
            · obtain rfl : i = l.length := by have := IL.out; omega
              have d2' : decide (l.length < l.length) = false := decide_eq_false (by omega)
              clear hi
              have hac := AC.out
              rw [List.take_length] at hac
              have HAC := Aside0.mk hac
              obtain ⟨A8, c8, e8, hca, _⟩ := S.out.own_reads 0 rfl
              subst e8
              have HCA := Aside0.mk hca
              have HAN : Aside0 (acc.length ≤ 60) := ⟨by rw [hac, List.length_append]; omega⟩
              clear hac hca AC IL KQ
              refine wp_gen S (fun W16 S => ?_)
              replace S := Aside0.mk (S.out.alloc #[.slice A8 acc.length c8] 33)
              go_upto_region 20 with (first | (go_at_call 11; have X_ := new_ix S.out (some ⟨W16.heap.size, 0, none⟩) 1 [acc] [.slice A8 acc.length c8] ⟨box_cells 0 rfl, fun i l' hl => by (obtain rfl : i = 0 := by have := (List.getElem?_eq_some_iff.1 hl).1; simp at this; omega); (obtain rfl : acc = l' := by simpa using hl); exact ⟨_, _, rfl, HCA.out, RowIn.own 1 rfl⟩⟩ ⟨by simp, by intro l' hl; rw [List.mem_singleton.1 hl]; have := HAN.out; omega⟩; rw [show ([acc] : List (List ByteArray)).length = 1 from rfl] at X_; (with_reducible refine X_.mono ?_); clear X_; rintro e_ w92 ⟨g, wv, dv, bv, dvs, bvs, m, rfl, hI, hS⟩; have HI := Aside0.mk hI; replace S := Aside0.mk hS; clear hI hS) | fail)
              have HI1 : Aside0 (Inv m (RB [l])) := ⟨HI.out.same (fun w x => by rw [HAC.out]; exact RB_twice l w x)⟩
              have HAN' : acc.length ≤ 60 := HAN.out
              go_loopg [12] (acc.length + 1) (fun kq v12 w' => ∃ (i : Nat) (xs : List ByteArray), v12 = .int .i64 i ∧ Aside0 (kq + i = acc.length + 1) ∧ Aside0 (i ≤ acc.length) ∧ Aside0 (xs.length = acc.length) ∧ Aside0 (Sep w w' (IxL _ g wv dv bv dvs m [Hdr _ 33 bv bvs, FzN _ bvs (([acc] : List (List ByteArray)).map pw_strs), Box _ W16.heap.size 33 #[.slice A8 acc.length c8], Own _ Kd.string 9 (.slice A8 acc.length c8) xs])))
              case atStart => exact ⟨0, acc, rfl, ⟨rfl⟩, ⟨Nat.zero_le _⟩, ⟨rfl⟩, S⟩
              case round =>
                clear S
                obtain ⟨i, xs, rfl, KQ, IL, XL, S⟩ := hrel
                cases gk with
                | zero => exact absurd KQ.out (by have := IL.out; omega)
                | succ q1 =>
                by_cases hi : i < acc.length
                · have p0 : (0 : Int) ≤ (i : Int) := by omega
                  have p1 : (i : Int) < (acc.length : Int) := by omega
                  have d2' : decide (i < acc.length) = true := decide_eq_true hi
                  have hxl := XL.out
                  obtain ⟨g8, c8', e8, hcl, hfr⟩ := own_str_at S.out 7 rfl (by omega)
                  injection e8 with e1 e2 e3
                  subst e1
                  subst e3
                  have hix : i < xs.length := by omega
                  have hcell := hcl i hix
                  have hfro := hfr i
                  have S3 := Aside0.mk (own_put_str' S.out 7 rfl hxl.symm i ⟨#[99, 104, 97, 110, 103, 101, 100]⟩)
                  have XL3 : Aside0 ((xs.set i ⟨#[99, 104, 97, 110, 103, 101, 100]⟩).length = acc.length) := ⟨by rw [List.length_set]; exact hxl⟩
                  clear hcl hfr e2 hxl
                  go_wp2
                  go_roundg q1
                  case measure => omega
                  case rel => exact ⟨i + 1, _, rfl, ⟨by have := KQ.out; omega⟩, ⟨by omega⟩, XL3, S3⟩
                · obtain rfl : i = acc.length := by have := IL.out; omega
                  have d2' : decide (acc.length < acc.length) = false := decide_eq_false (by omega)
                  clear hi
                  refine wp_gen S (fun W20 S => ?_)
                  have SA := Aside0.mk (perm (S.out.alloc #[.slice A l.length c] 33) (List.perm_middle (l₁ := [_, _, _, _, _, _])).symm)
                  have HS1 : Aside0 (Small [l]) := ⟨⟨by simp, by intro l' hl'; rw [List.mem_singleton.1 hl']; have := HOL.out; omega⟩⟩
                  clear S
                  go_wp2_with (first | (go_at_call 10; have X_ := agrees_ix (bs := [l]) SA.out rfl HI1.out HS1.out (some ⟨W20.heap.size, 0, none⟩) 1 (Nat.le_refl 1) (fun w' M S' => box_docs (S'.at_box (M.length + 0) (by rw [List.getElem?_append_right (by omega), Nat.add_sub_cancel_left]; rfl)) (Kd.C_below HC.out S'.below) HCC.out) p; rw [show ([l] : List (List ByteArray)).length = 1 from rfl] at X_; (with_reducible refine X_.mono ?_); clear X_; rintro e_ w10 ⟨rfl, hS⟩; replace S := Aside0.mk hS; clear hS) | (go_at_call 9; (with_reducible refine (lives_ix _).mono ?_); rintro e_ w9 ⟨rfl, hb⟩; replace S := Aside0.mk (S.out.step hb); clear hb) | fail)
                  go_ret
                  exact ⟨rfl, S.out.below⟩
  · rw [Bool.eq_false_iff.2 hfo] at hkO
    have HKO := Aside0.mk hkO
    clear hkO hfo
    go_enter Try.func7, Try.ntmps7
    go_wp2_with (first | (go_at_call 21; have X_ := mapmakerlaw52_words.calls kO A c l false w HC.out HCC.out HKO.out; (with_reducible refine X_.mono ?_); clear X_; rintro e_ w21 ⟨rfl, hdn⟩; obtain ⟨n21, rfl⟩ := hdn.out; replace S := Aside0.mk (S.out.drewN n21); clear hdn) | (go_at_call 9; (with_reducible refine (lives_ix _).mono ?_); rintro e_ w9 ⟨rfl, hb⟩; replace S := Aside0.mk (S.out.step hb); clear hb) | fail)
    go_ret
    exact ⟨rfl, S.out.below⟩
end Go.Proofs.Ytpfmebpalejadaa.Hand
