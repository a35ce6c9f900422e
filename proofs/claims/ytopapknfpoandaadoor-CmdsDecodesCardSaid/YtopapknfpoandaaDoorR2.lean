import Derived.Test.YtopapknfpoandaaDoorR1
namespace Go.Proofs.YtopapknfpoandaaDoor.Hand
open Go.RowKit Go.Proofs.YtopapknfpoandaaDoorW.PrintWords Go.Proofs.YtopapknfpoandaaDoorW.PrintLast Go.Proofs.YtopapknfpoandaaDoorW.PrintMore Go.Proofs.YtopapknfpoandaaDoorW.SepW Go.Proofs.YtopapknfpoandaaDoor.PALL
set_option linter.unusedVariables false
set_option linter.unusedSimpArgs false
variable {w0 w : World} {L : List (Thing w0.heap.size)} {n g c : Nat} {A : Option Addr} {x y : Int} {b : Bool}
theorem next_xy (r : RS) : (nextS r).2.x = r.x ∧ (nextS r).2.y = r.y := by unfold nextS; split <;> exact ⟨rfl, rfl⟩
theorem step_xy (r : RS) : (stepS r).2.x = r.x ∧ (stepS r).2.y = r.y := by
  have h := next_xy r
  unfold stepS
  split
  · exact h
  · split <;> exact h
theorem next_len (r : RS) : (nextS r).2.l.length ≤ r.l.length ∧ ((nextS r).2.b = false → r.b = false ∧ (nextS r).2.l.length + 1 = r.l.length) := by
  obtain ⟨l, x, y, b⟩ := r
  cases l with
  | nil => exact ⟨Nat.le_refl _, fun h => by simp [nextS] at h⟩
  | cons z t => exact ⟨Nat.le_succ _, fun h => ⟨h, rfl⟩⟩
theorem step_len (r : RS) : (stepS r).2.l.length ≤ r.l.length ∧ ((stepS r).2.b = false → r.b = false ∧ (stepS r).2.l.length + 1 = r.l.length) := by
  have h := next_len r
  unfold stepS
  split
  · exact ⟨h.1, fun hb => by simp at hb⟩
  · split <;> exact h
def half1 (r : RS) : RS := { (stepS r).2 with x := wrap64 (r.x + (stepS r).1) }
def half2 (r : RS) : RS := { (stepS r).2 with y := wrap64 (r.y + (stepS r).1) }
/-- One point. -/
def pointS (r : RS) : RS := half2 (half1 r)
def ptsS : Nat → RS → List S44 × RS
  | 0, r => ([], r)
  | m + 1, r => if r.b = true then ([], r) else (⟨(pointS r).x, (pointS r).y⟩ :: (ptsS m (pointS r)).1, (ptsS m (pointS r)).2)
theorem pointS_len (r : RS) : (pointS r).l.length ≤ r.l.length ∧ ((pointS r).b = false → (pointS r).l.length + 2 = r.l.length) := by
  have h1 := step_len r
  have h2 := step_len (half1 r)
  have e1 : (half1 r).l = (stepS r).2.l := rfl
  have e2 : (half1 r).b = (stepS r).2.b := rfl
  have e3 : (pointS r).l = (stepS (half1 r)).2.l := rfl
  have e4 : (pointS r).b = (stepS (half1 r)).2.b := rfl
  rw [e1, e2] at h2
  rw [e3, e4]
  refine ⟨Nat.le_trans h2.1 h1.1, fun hb => ?_⟩
  have h3 := h2.2 hb
  have h4 := h1.2 h3.1
  omega
theorem half_set1 {w0 w : World} {L : List (Thing w0.heap.size)} {n g c : Nat} {A : Option Addr} {q : RS} (S : Sep w0 w L) (hn : L[n]? = some (Rd w0 A c g (stepS q).2)) : Sep w0 (w.setCell ⟨g, 1, none⟩ (.int .i64 (wrap64 (q.x + (stepS q).1)))) (L.set n (Rd w0 A c g (half1 q))) := S.set n hn 1 _
theorem half_set2 {w0 w : World} {L : List (Thing w0.heap.size)} {n g c : Nat} {A : Option Addr} {q : RS} (S : Sep w0 w L) (hn : L[n]? = some (Rd w0 A c g (stepS q).2)) : Sep w0 (w.setCell ⟨g, 2, none⟩ (.int .i64 (wrap64 (q.y + (stepS q).1)))) (L.set n (Rd w0 A c g (half2 q))) := S.set n hn 2 _
set_option maxHeartbeats 4000000 in
set_option maxRecDepth 100000 in
theorem cmd_walk_1 {r : RS} (S : Sep w0 w L) (hn : L[n]? = some (Rd w0 A c g r)) (hr : Came w0 A r.l c) (hl : r.l.length ≤ 1000000000) (hb : (nextS r).2.b = false) (h0 : 0 ≤ (nextS r).1) (h1 : (nextS r).1 % 8 = 1) (h2 : (nextS r).1 ≤ 9223372036854775807) :
    Calls Tryd.prog 19 #[.pointer (some ⟨g, 0, none⟩), .int .i64 1] w fun e w' => ∃ A' c' v, e = .returned v ∧ Came w0 A' (ptsS ((nextS r).1 / 8).toNat (nextS r).2).2.l c' ∧
      Sep w0 w' (Own _ k44 44 v (ptsS ((nextS r).1 / 8).toNat (nextS r).2).1 :: L.set n (Rd w0 A' c' g (ptsS ((nextS r).1 / 8).toNat (nextS r).2).2)) := by
  have hn' : n < L.length := (List.getElem?_eq_some_iff.1 hn).1
  have NL := Aside0.mk (next_len r)
  obtain ⟨z, r', hz⟩ : ∃ z r', nextS r = (z, r') := ⟨_, _, rfl⟩
  have X := Aside0.mk (next_c S hn hr)
  rw [hz] at X hb h0 h1 h2 NL ⊢
  clear hz S hr
  simp only at hb h0 h1 h2
  have d := decide_eq_false (show ¬ z < 0 by omega)
  have hm : Int.tmod z 8 = z % 8 := Int.tmod_eq_emod_of_nonneg h0
  have hd : Int.tdiv z 8 = z / 8 := Int.tdiv_eq_ediv_of_nonneg h0
  obtain ⟨M, hM⟩ := Int.eq_ofNat_of_zero_le (show 0 ≤ z / 8 by omega)
  have hMl : (M : Int) ≤ 9223372036854775807 := by omega
  have hu42 := Tryd.underlying42
  go_enter Tryd.func19, Tryd.ntmps19
  go_wp2_with (go_at_call 23; (with_reducible refine X.out.mono ?_); rintro e1 w1 ⟨A', c', rfl, HC, S1⟩; have c3 := blk_cell (S1.at_box n (List.getElem?_set_self hn')) 3; simp only [List.getElem?_toArray, List.getElem?_cons_zero, List.getElem?_cons_succ] at  c3; rw [hb] at c3; have S1' := Aside0.mk S1; clear S1)
  go_loopg [6, 36] (M + 1) (fun kq v6 v36 w' => ∃ (i : Nat) (acc : List S44) (v : Value) (q : RS) (A1 : Option Addr) (c1 : Nat), v6 = v ∧ v36 = .int .i64 i ∧ Aside0 (kq + i = M + 1) ∧ Aside0 (acc.length = i) ∧ Aside0 (i ≤ M) ∧ Aside0 (acc ++ (ptsS (M - i) q).1 = (ptsS M r').1 ∧ (ptsS (M - i) q).2 = (ptsS M r').2) ∧ Aside0 (2 * i + q.l.length ≤ r'.l.length + 2 ∧ (q.b = false → 2 * i + q.l.length ≤ r'.l.length)) ∧ Aside0 (Came w0 A1 q.l c1) ∧ Aside0 (Sep w0 w' (Own _ k44 44 v acc :: L.set n (Rd w0 A1 c1 g q))))
  case atStart => exact ⟨0, [], _, r', A', c', rfl, rfl, ⟨rfl⟩, ⟨rfl⟩, ⟨Nat.zero_le _⟩, ⟨rfl, rfl⟩, ⟨by omega, fun _ => by omega⟩, ⟨HC⟩, ⟨S1'.out.nil k44 44⟩⟩
  case round =>
    clear S1' c3 HC
    obtain ⟨i, acc, v, q, A1, c1, rfl, rfl, K, AL, IM, PT, BD, HC1, S2⟩ := hrel
    cases gk with
    | zero => exact absurd K.out (by have := IM.out; omega)
    | succ k1 =>
    have hn1 : (Own w0.heap.size k44 44 u6 acc :: L.set n (Rd w0 A1 c1 g q))[n + 1]? = some (Rd w0 A1 c1 g q) := by rw [List.getElem?_cons_succ, List.getElem?_set_self hn']
    have c3 := blk_cell (S2.out.at_box (n + 1) hn1) 3
    simp only [List.getElem?_toArray, List.getElem?_cons_zero, List.getElem?_cons_succ] at  c3
    have HN1 := Aside0.mk hn1
    clear hn1
    have HMZ : Aside0 ((z / 8).toNat = M) := ⟨by rw [hM]; exact Int.toNat_natCast M⟩
    by_cases hi : i < M
    · have di := decide_eq_true (show (i : Int) < (M : Int) by omega)
      by_cases hq : q.b = true
      · rw [hq] at c3
        go_wp2
        go_ret
        have hp : ptsS (M - i) q = ([], q) := by
          obtain ⟨m, hm'⟩ : ∃ m, M - i = m + 1 := ⟨M - i - 1, by omega⟩
          rw [hm', ptsS, if_pos hq]
        have hP := PT.out
        rw [hp, List.append_nil] at hP
        simp only at hP
        rw [HMZ.out, ← hP.1, ← hP.2]
        exact ⟨A1, c1, _, rfl, HC1.out, S2.out⟩
      · have hq : q.b = false := by simpa using hq
        rw [hq] at c3
        go_wp2
        have cx1 : wr.drew.cell? ⟨g, 1, none⟩ = some (.int .i64 (q).x) := blk_cell (S2.out.at_box (n + 1) HN1.out) 1
        have fx1 : wr.frozen? ⟨g, 1, none⟩ = false := blk_frozen (S2.out.at_box (n + 1) HN1.out) 1
        go_region_with (first | (go_at_call 24; have X_ := step_c S2.out.drew HN1.out HC1.out; (with_reducible refine X_.mono ?_); clear X_; rintro e_ w3 ⟨A3, c3, rfl, HC_, S_⟩; have hn_ : (Own w0.heap.size k44 44 u6 acc :: L.set n (Rd w0 A3 c3 g (stepS (q)).2))[n + 1]? = some (Rd w0 A3 c3 g (stepS (q)).2) := (by rw [List.getElem?_cons_succ, List.getElem?_set_self hn']); rw [List.set_cons_succ, List.set_set] at S_; have q_ := blk_cell (S_.at_box (n + 1) hn_) 1; have p_ := blk_frozen (S_.at_box (n + 1) hn_) 1; simp only [List.getElem?_toArray, List.getElem?_cons_zero, List.getElem?_cons_succ] at  q_; rw [(step_xy _).1] at q_; have hS9 := p_; have cq := q_; have HN3 := Aside0.mk hn_; have HC3 := Aside0.mk HC_; have S3 := Aside0.mk S_; clear S_ HC_ hn_ q_ p_))
        all_goals
          (simp only [i64_w]
           have S4 := Aside0.mk (show Sep w0 _ (Own w0.heap.size k44 44 u6 acc :: L.set n (Rd w0 A3 c3 g (half1 q))) by have := half_set1 S3.out HN3.out; rwa [List.set_cons_succ, List.set_set] at this)
           have HN4 : Aside0 ((Own w0.heap.size k44 44 u6 acc :: L.set n (Rd w0 A3 c3 g (half1 q)))[n + 1]? = some (Rd w0 A3 c3 g (half1 q))) := ⟨by rw [List.getElem?_cons_succ, List.getElem?_set_self hn']⟩
           clear S2 HN1 HC1 cx1 fx1 cq hS9 S3 HN3
           generalize w3.setCell ⟨g, 1, none⟩ (.int .i64 (wrap64 (q.x + (stepS q).1))) = W4 at S4 ⊢
           go_wp2
           have cx2 : W4.drew.cell? ⟨g, 2, none⟩ = some (.int .i64 (half1 q).y) := blk_cell (S4.out.at_box (n + 1) HN4.out) 2
           have fx2 : W4.frozen? ⟨g, 2, none⟩ = false := blk_frozen (S4.out.at_box (n + 1) HN4.out) 2
           go_region_with (first | (go_at_call 24; have X_ := step_c S4.out.drew HN4.out HC3.out; (with_reducible refine X_.mono ?_); clear X_; rintro e_ w5 ⟨A5, c5, rfl, HC_, S_⟩; have hn_ : (Own w0.heap.size k44 44 u6 acc :: L.set n (Rd w0 A5 c5 g (stepS (half1 q)).2))[n + 1]? = some (Rd w0 A5 c5 g (stepS (half1 q)).2) := (by rw [List.getElem?_cons_succ, List.getElem?_set_self hn']); rw [List.set_cons_succ, List.set_set] at S_; have q_ := blk_cell (S_.at_box (n + 1) hn_) 2; have p_ := blk_frozen (S_.at_box (n + 1) hn_) 2; simp only [List.getElem?_toArray, List.getElem?_cons_zero, List.getElem?_cons_succ] at  q_; rw [(step_xy _).2] at q_; have hS9 := p_; have cq := q_; have HN5 := Aside0.mk hn_; have HC5 := Aside0.mk HC_; have S5 := Aside0.mk S_; clear S_ HC_ hn_ q_ p_))
           all_goals
            (simp only [i64_w]
             have S6 := Aside0.mk (show Sep w0 _ (Own w0.heap.size k44 44 u6 acc :: L.set n (Rd w0 A5 c5 g (pointS q))) by have := half_set2 S5.out HN5.out; rwa [List.set_cons_succ, List.set_set] at this)
             have hn6 : (Own w0.heap.size k44 44 u6 acc :: L.set n (Rd w0 A5 c5 g (pointS q)))[n + 1]? = some (Rd w0 A5 c5 g (pointS q)) := by rw [List.getElem?_cons_succ, List.getElem?_set_self hn']
             clear S4 HN4 cx2 fx2 cq hS9 S5 HN5 HC3
             generalize w5.setCell ⟨g, 2, none⟩ (.int .i64 (wrap64 ((half1 q).y + (stepS (half1 q)).1))) = W6 at S6 ⊢
             have c61 := blk_cell (S6.out.at_box (n + 1) hn6) 1
             have c62 := blk_cell (S6.out.at_box (n + 1) hn6) 2
             simp only [List.getElem?_toArray, List.getElem?_cons_zero, List.getElem?_cons_succ] at  c61 c62
             have hu44 := Tryd.underlying44
             clear hn6
             go_wp2_with (first | ((with_reducible refine gate_builtin (b := .append) (xs := #[.tmp 68, .tmp 73]) rfl ?_); at_builtin; obtain ⟨ok, hR, hnew, hup⟩ := S6.out.append 0 rfl; refine Kd.R_append k44 (w0 := w0) w0.heap.size rfl (.tmp 68) (.tmp 73) 42 44 (.agg #[(.int .i64 0), (.int .i64 0)]) 16 rfl Tryd.underlying42 info44 rfl (by decide) (by omega) u6 acc ⟨(pointS q).x, (pointS q).y⟩ [.int .i64 (pointS q).x, .int .i64 (pointS q).y] ok (fun _ => False) rfl rfl (k44_mkM _ _ _ _) (fun _ h => h.elim) hnew hR S6.out.below S6.out.size (by have := AL.out; have := BD.out; have := NL.out; omega) ?_; intro v3 w7 ho hb hg hat; have S7 := Aside0.mk (hup _ w7 _ ho hb hg); clear hup hR hnew ho hb hg hat))
             go_roundg k1
             case measure => omega
             case rel =>
              have hP := PT.out
              have hs : ptsS (M - i) q = (⟨(pointS q).x, (pointS q).y⟩ :: (ptsS (M - (i + 1)) (pointS q)).1, (ptsS (M - (i + 1)) (pointS q)).2) := by
               obtain ⟨m, hm'⟩ : ∃ m, M - i = m + 1 := ⟨M - i - 1, by omega⟩
               rw [hm', ptsS, if_neg (by rw [hq]; decide), show M - (i + 1) = m by omega]
              rw [hs] at hP
              simp only at hP
              have hL := pointS_len q
              have hB := BD.out
              refine ⟨i + 1, acc ++ [(⟨(pointS q).x, (pointS q).y⟩ : S44)], v3, pointS q, A5, c5, rfl, rfl, ⟨by have := K.out; omega⟩, ⟨by have := AL.out; simp; omega⟩, ⟨by omega⟩, ⟨by rw [← hP.1, List.append_assoc]; rfl, hP.2⟩, ⟨by have := hB.2 hq; omega, fun h => by have := hB.2 hq; have := hL.2 h; omega⟩, HC5, ⟨S7.out⟩⟩))
    · have di := decide_eq_false (show ¬ (i : Int) < (M : Int) by omega)
      obtain rfl : i = M := by have := IM.out; omega
      go_wp2
      go_ret
      have hP := PT.out
      rw [Nat.sub_self] at hP
      have hP : acc ++ [] = (ptsS i r').1 ∧ q = (ptsS i r').2 := hP
      rw [List.append_nil] at hP
      rw [HMZ.out, ← hP.1, ← hP.2]
      exact ⟨A1, c1, _, rfl, HC1.out, S2.out⟩
set_option maxHeartbeats 4000000 in
set_option maxRecDepth 100000 in
theorem cmd_walk_2 {r : RS} (S : Sep w0 w L) (hn : L[n]? = some (Rd w0 A c g r)) (hr : Came w0 A r.l c) (hl : r.l.length ≤ 1000000000) (hb : (nextS r).2.b = false) (h0 : 0 ≤ (nextS r).1) (h1 : (nextS r).1 % 8 = 2) (h2 : (nextS r).1 ≤ 9223372036854775807) :
    Calls Tryd.prog 19 #[.pointer (some ⟨g, 0, none⟩), .int .i64 2] w fun e w' => ∃ A' c' v, e = .returned v ∧ Came w0 A' (ptsS ((nextS r).1 / 8).toNat (nextS r).2).2.l c' ∧
      Sep w0 w' (Own _ k44 44 v (ptsS ((nextS r).1 / 8).toNat (nextS r).2).1 :: L.set n (Rd w0 A' c' g (ptsS ((nextS r).1 / 8).toNat (nextS r).2).2)) := by
  have hn' : n < L.length := (List.getElem?_eq_some_iff.1 hn).1
  have NL := Aside0.mk (next_len r)
  obtain ⟨z, r', hz⟩ : ∃ z r', nextS r = (z, r') := ⟨_, _, rfl⟩
  have X := Aside0.mk (next_c S hn hr)
  rw [hz] at X hb h0 h1 h2 NL ⊢
  clear hz S hr
  simp only at hb h0 h1 h2
  have d := decide_eq_false (show ¬ z < 0 by omega)
  have hm : Int.tmod z 8 = z % 8 := Int.tmod_eq_emod_of_nonneg h0
  have hd : Int.tdiv z 8 = z / 8 := Int.tdiv_eq_ediv_of_nonneg h0
  obtain ⟨M, hM⟩ := Int.eq_ofNat_of_zero_le (show 0 ≤ z / 8 by omega)
  have hMl : (M : Int) ≤ 9223372036854775807 := by omega
  have hu42 := Tryd.underlying42
  go_enter Tryd.func19, Tryd.ntmps19
  go_wp2_with (go_at_call 23; (with_reducible refine X.out.mono ?_); rintro e1 w1 ⟨A', c', rfl, HC, S1⟩; have c3 := blk_cell (S1.at_box n (List.getElem?_set_self hn')) 3; simp only [List.getElem?_toArray, List.getElem?_cons_zero, List.getElem?_cons_succ] at  c3; rw [hb] at c3; have S1' := Aside0.mk S1; clear S1)
  go_loopg [6, 36] (M + 1) (fun kq v6 v36 w' => ∃ (i : Nat) (acc : List S44) (v : Value) (q : RS) (A1 : Option Addr) (c1 : Nat), v6 = v ∧ v36 = .int .i64 i ∧ Aside0 (kq + i = M + 1) ∧ Aside0 (acc.length = i) ∧ Aside0 (i ≤ M) ∧ Aside0 (acc ++ (ptsS (M - i) q).1 = (ptsS M r').1 ∧ (ptsS (M - i) q).2 = (ptsS M r').2) ∧ Aside0 (2 * i + q.l.length ≤ r'.l.length + 2 ∧ (q.b = false → 2 * i + q.l.length ≤ r'.l.length)) ∧ Aside0 (Came w0 A1 q.l c1) ∧ Aside0 (Sep w0 w' (Own _ k44 44 v acc :: L.set n (Rd w0 A1 c1 g q))))
  case atStart => exact ⟨0, [], _, r', A', c', rfl, rfl, ⟨rfl⟩, ⟨rfl⟩, ⟨Nat.zero_le _⟩, ⟨rfl, rfl⟩, ⟨by omega, fun _ => by omega⟩, ⟨HC⟩, ⟨S1'.out.nil k44 44⟩⟩
  case round =>
    clear S1' c3 HC
    obtain ⟨i, acc, v, q, A1, c1, rfl, rfl, K, AL, IM, PT, BD, HC1, S2⟩ := hrel
    cases gk with
    | zero => exact absurd K.out (by have := IM.out; omega)
    | succ k1 =>
    have hn1 : (Own w0.heap.size k44 44 u6 acc :: L.set n (Rd w0 A1 c1 g q))[n + 1]? = some (Rd w0 A1 c1 g q) := by rw [List.getElem?_cons_succ, List.getElem?_set_self hn']
    have c3 := blk_cell (S2.out.at_box (n + 1) hn1) 3
    simp only [List.getElem?_toArray, List.getElem?_cons_zero, List.getElem?_cons_succ] at  c3
    have HN1 := Aside0.mk hn1
    clear hn1
    have HMZ : Aside0 ((z / 8).toNat = M) := ⟨by rw [hM]; exact Int.toNat_natCast M⟩
    by_cases hi : i < M
    · have di := decide_eq_true (show (i : Int) < (M : Int) by omega)
      by_cases hq : q.b = true
      · rw [hq] at c3
        go_wp2
        go_ret
        have hp : ptsS (M - i) q = ([], q) := by
          obtain ⟨m, hm'⟩ : ∃ m, M - i = m + 1 := ⟨M - i - 1, by omega⟩
          rw [hm', ptsS, if_pos hq]
        have hP := PT.out
        rw [hp, List.append_nil] at hP
        simp only at hP
        rw [HMZ.out, ← hP.1, ← hP.2]
        exact ⟨A1, c1, _, rfl, HC1.out, S2.out⟩
      · have hq : q.b = false := by simpa using hq
        rw [hq] at c3
        go_wp2
        have cx1 : wr.drew.cell? ⟨g, 1, none⟩ = some (.int .i64 (q).x) := blk_cell (S2.out.at_box (n + 1) HN1.out) 1
        have fx1 : wr.frozen? ⟨g, 1, none⟩ = false := blk_frozen (S2.out.at_box (n + 1) HN1.out) 1
        go_region_with (first | (go_at_call 24; have X_ := step_c S2.out.drew HN1.out HC1.out; (with_reducible refine X_.mono ?_); clear X_; rintro e_ w3 ⟨A3, c3, rfl, HC_, S_⟩; have hn_ : (Own w0.heap.size k44 44 u6 acc :: L.set n (Rd w0 A3 c3 g (stepS (q)).2))[n + 1]? = some (Rd w0 A3 c3 g (stepS (q)).2) := (by rw [List.getElem?_cons_succ, List.getElem?_set_self hn']); rw [List.set_cons_succ, List.set_set] at S_; have q_ := blk_cell (S_.at_box (n + 1) hn_) 1; have p_ := blk_frozen (S_.at_box (n + 1) hn_) 1; simp only [List.getElem?_toArray, List.getElem?_cons_zero, List.getElem?_cons_succ] at  q_; rw [(step_xy _).1] at q_; have hS9 := p_; have cq := q_; have HN3 := Aside0.mk hn_; have HC3 := Aside0.mk HC_; have S3 := Aside0.mk S_; clear S_ HC_ hn_ q_ p_))
        all_goals
          (simp only [i64_w]
           have S4 := Aside0.mk (show Sep w0 _ (Own w0.heap.size k44 44 u6 acc :: L.set n (Rd w0 A3 c3 g (half1 q))) by have := half_set1 S3.out HN3.out; rwa [List.set_cons_succ, List.set_set] at this)
           have HN4 : Aside0 ((Own w0.heap.size k44 44 u6 acc :: L.set n (Rd w0 A3 c3 g (half1 q)))[n + 1]? = some (Rd w0 A3 c3 g (half1 q))) := ⟨by rw [List.getElem?_cons_succ, List.getElem?_set_self hn']⟩
           clear S2 HN1 HC1 cx1 fx1 cq hS9 S3 HN3
           generalize w3.setCell ⟨g, 1, none⟩ (.int .i64 (wrap64 (q.x + (stepS q).1))) = W4 at S4 ⊢
           go_wp2
           have cx2 : W4.drew.cell? ⟨g, 2, none⟩ = some (.int .i64 (half1 q).y) := blk_cell (S4.out.at_box (n + 1) HN4.out) 2
           have fx2 : W4.frozen? ⟨g, 2, none⟩ = false := blk_frozen (S4.out.at_box (n + 1) HN4.out) 2
           go_region_with (first | (go_at_call 24; have X_ := step_c S4.out.drew HN4.out HC3.out; (with_reducible refine X_.mono ?_); clear X_; rintro e_ w5 ⟨A5, c5, rfl, HC_, S_⟩; have hn_ : (Own w0.heap.size k44 44 u6 acc :: L.set n (Rd w0 A5 c5 g (stepS (half1 q)).2))[n + 1]? = some (Rd w0 A5 c5 g (stepS (half1 q)).2) := (by rw [List.getElem?_cons_succ, List.getElem?_set_self hn']); rw [List.set_cons_succ, List.set_set] at S_; have q_ := blk_cell (S_.at_box (n + 1) hn_) 2; have p_ := blk_frozen (S_.at_box (n + 1) hn_) 2; simp only [List.getElem?_toArray, List.getElem?_cons_zero, List.getElem?_cons_succ] at  q_; rw [(step_xy _).2] at q_; have hS9 := p_; have cq := q_; have HN5 := Aside0.mk hn_; have HC5 := Aside0.mk HC_; have S5 := Aside0.mk S_; clear S_ HC_ hn_ q_ p_))
           all_goals
            (simp only [i64_w]
             have S6 := Aside0.mk (show Sep w0 _ (Own w0.heap.size k44 44 u6 acc :: L.set n (Rd w0 A5 c5 g (pointS q))) by have := half_set2 S5.out HN5.out; rwa [List.set_cons_succ, List.set_set] at this)
             have hn6 : (Own w0.heap.size k44 44 u6 acc :: L.set n (Rd w0 A5 c5 g (pointS q)))[n + 1]? = some (Rd w0 A5 c5 g (pointS q)) := by rw [List.getElem?_cons_succ, List.getElem?_set_self hn']
             clear S4 HN4 cx2 fx2 cq hS9 S5 HN5 HC3
             generalize w5.setCell ⟨g, 2, none⟩ (.int .i64 (wrap64 ((half1 q).y + (stepS (half1 q)).1))) = W6 at S6 ⊢
             have c61 := blk_cell (S6.out.at_box (n + 1) hn6) 1
             have c62 := blk_cell (S6.out.at_box (n + 1) hn6) 2
             simp only [List.getElem?_toArray, List.getElem?_cons_zero, List.getElem?_cons_succ] at  c61 c62
             have hu44 := Tryd.underlying44
             clear hn6
             go_wp2_with (first | ((with_reducible refine gate_builtin (b := .append) (xs := #[.tmp 68, .tmp 73]) rfl ?_); at_builtin; obtain ⟨ok, hR, hnew, hup⟩ := S6.out.append 0 rfl; refine Kd.R_append k44 (w0 := w0) w0.heap.size rfl (.tmp 68) (.tmp 73) 42 44 (.agg #[(.int .i64 0), (.int .i64 0)]) 16 rfl Tryd.underlying42 info44 rfl (by decide) (by omega) u6 acc ⟨(pointS q).x, (pointS q).y⟩ [.int .i64 (pointS q).x, .int .i64 (pointS q).y] ok (fun _ => False) rfl rfl (k44_mkM _ _ _ _) (fun _ h => h.elim) hnew hR S6.out.below S6.out.size (by have := AL.out; have := BD.out; have := NL.out; omega) ?_; intro v3 w7 ho hb hg hat; have S7 := Aside0.mk (hup _ w7 _ ho hb hg); clear hup hR hnew ho hb hg hat))
             go_roundg k1
             case measure => omega
             case rel =>
              have hP := PT.out
              have hs : ptsS (M - i) q = (⟨(pointS q).x, (pointS q).y⟩ :: (ptsS (M - (i + 1)) (pointS q)).1, (ptsS (M - (i + 1)) (pointS q)).2) := by
               obtain ⟨m, hm'⟩ : ∃ m, M - i = m + 1 := ⟨M - i - 1, by omega⟩
               rw [hm', ptsS, if_neg (by rw [hq]; decide), show M - (i + 1) = m by omega]
              rw [hs] at hP
              simp only at hP
              have hL := pointS_len q
              have hB := BD.out
              refine ⟨i + 1, acc ++ [(⟨(pointS q).x, (pointS q).y⟩ : S44)], v3, pointS q, A5, c5, rfl, rfl, ⟨by have := K.out; omega⟩, ⟨by have := AL.out; simp; omega⟩, ⟨by omega⟩, ⟨by rw [← hP.1, List.append_assoc]; rfl, hP.2⟩, ⟨by have := hB.2 hq; omega, fun h => by have := hB.2 hq; have := hL.2 h; omega⟩, HC5, ⟨S7.out⟩⟩))
    · have di := decide_eq_false (show ¬ (i : Int) < (M : Int) by omega)
      obtain rfl : i = M := by have := IM.out; omega
      go_wp2
      go_ret
      have hP := PT.out
      rw [Nat.sub_self] at hP
      have hP : acc ++ [] = (ptsS i r').1 ∧ q = (ptsS i r').2 := hP
      rw [List.append_nil] at hP
      rw [HMZ.out, ← hP.1, ← hP.2]
      exact ⟨A1, c1, _, rfl, HC1.out, S2.out⟩
end Go.Proofs.YtopapknfpoandaaDoor.Hand
