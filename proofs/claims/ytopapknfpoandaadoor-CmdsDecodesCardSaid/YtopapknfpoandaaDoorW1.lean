import Derived.Test.YtopapknfpoandaaDoorC1
namespace Go.Proofs.YtopapknfpoandaaDoor.Hand
open Go.RowKit Go.Proofs.YtopapknfpoandaaDoorW.PrintWords Go.Proofs.YtopapknfpoandaaDoorW.PrintLast Go.Proofs.YtopapknfpoandaaDoorW.PrintMore Go.Proofs.YtopapknfpoandaaDoorW.SepW Go.Proofs.YtopapknfpoandaaDoor.PALL
set_option linter.unusedVariables false
set_option linter.unusedSimpArgs false
def encD (n : Int) : Int := if n < 0 then wrap64 (wrap64 ((-2) * n) - 1) else wrap64 (2 * n)
theorem delta_c (n d : Int) (h : encD n = d) (w : World) : Calls Tryd.prog 21 #[.int .i64 n] w fun e w' => e = .returned (.int .i64 d) ∧ Drawn0 w w' :=
  cmds_delta.calls n d w (by rw [← h, encD, cmds_delta.f]; split <;> rfl)
/-- What the points are written as, behind a last one; and the last one then. -/
def outS : List S44 → Int → Int → List Int × Int × Int
  | [], x, y => ([], x, y)
  | p :: t, x, y => (encD (wrap64 (p.f0 - x)) :: encD (wrap64 (p.f1 - y)) :: (outS t p.f0 p.f1).1, (outS t p.f0 p.f1).2)
def wr7_T : Bool × List (List Nat × List Nat) := (true, [([], []), ([], []), ([1], [1]), ([2], [2]), ([3], [3]), ([], []), ([5], [5]), ([], []), ([7], [7]), ([8], [8]), ([9], [9]), ([10], [10]), ([6, 11], [6, 11]), ([12], [12]), ([], []), ([14], [14]), ([], []), ([16], [16]), ([17], [17]), ([18], [18]), ([19], [19]), ([15, 20], [15, 20]), ([21, 13], [21]), ([13, 22], [13, 22]), ([4, 23, 22], [4, 23]), ([0, 0, 1, 2, 3, 4, 5, 6, 7, 8, 9, 10, 11, 12, 13, 14, 15, 16, 17, 18, 19, 20, 21, 22, 23, 24], [0]), ([25, 0, 1, 2, 3, 4, 5, 6, 7, 8, 9, 10, 11, 12, 13, 14, 15, 16, 17, 18, 19, 20, 21, 22, 23, 24], [25]), ([26, 24, 24, 0, 1, 2, 3, 4, 5, 6, 7, 8, 9, 10, 11, 12, 13, 14, 15, 16, 17, 18, 19, 20, 21, 22, 23, 24], [24, 26])])
def wr7_B : List Nat := [0, 0, 2, 6, 14, 0, 32, 0, 128, 384, 896, 1920, 4064, 8160, 0, 16384, 0, 65536, 196608, 458752, 983040, 2080768, 4194272, 8388576, 16777214, 33554431, 67108863, 134217727]
theorem wr7_tab : rtab .any (opsOf Tryd.f17 7) = wr7_T := by kernel_rfl
theorem wr7_bits : waitsOk wr7_T.2 wr7_B = true := by kernel_rfl
set_option maxHeartbeats 8000000 in
set_option maxRecDepth 100000 in
theorem command_c {w0 w : World} {L : List (Thing w0.heap.size)} {g : Nat} {v : Value} {l : List Int} {x y : Int} (id : Int) (pts : List S44) (A : Option Addr) (c q : Nat)
    (S : Sep w0 w (Box _ g 46 #[v, .int .i64 x, .int .i64 y] :: Own _ (Kd.int .i64) 3 v l :: L)) (hq : L[q]? = some (Src w0 k44 44 (.slice A pts.length c) pts)) (hlen : l.length + 2 * pts.length + 1 ≤ 1000000000)
    (hid : ¬ id = 7) :
    Calls Tryd.prog 17 #[.pointer (some ⟨g, 0, none⟩), .int .i64 id, .slice A pts.length c] w fun e w' => e = .returned (.tuple #[]) ∧ ∃ v', Sep w0 w' (Box _ g 46 #[v', .int .i64 (outS pts x y).2.1, .int .i64 (outS pts x y).2.2] :: Own _ (Kd.int .i64) 3 v' (l ++ wrap64 (id + 8 * (pts.length : Int)) :: (outS pts x y).1) :: L) := by
  have c0 := blk_cell (S.at_box 0 rfl) 0
  simp only [List.getElem?_toArray, List.getElem?_cons_zero, List.getElem?_cons_succ] at  c0
  have i7 : (id == 7) = false := beq_eq_false_iff_ne.2 hid
  have LB := Aside0.mk hlen
  have HQ := Aside0.mk hq
  have hpl : (pts.length : Int) ≤ 1000000000 := by omega
  have S := Aside0.mk S
  have hu44 := Tryd.underlying44
  clear hq hid hlen
  go_enter Tryd.func17, Tryd.ntmps17
  go_wp2_with (first | ((with_reducible refine gate_builtin (b := .append) (xs := #[.tmp 17, .tmp 22]) rfl ?_); at_builtin; obtain ⟨ok, hR, hnew, hup⟩ := S.out.append 1 rfl; refine Kd.R_append (Kd.int .i64) (w0 := w0) w0.heap.size rfl (.tmp 17) (.tmp 22) 27 3 (.int .i64 0) 8 rfl Tryd.underlying27 info3 rfl (by decide) (by omega) v l (wrap64 (id + 8 * (pts.length : Int))) [.int .i64 (wrap64 (id + 8 * (pts.length : Int)))] ok (fun _ => False) rfl rfl (show Kd.M (Kd.int .i64) _ _ _ (wrap64 (id + 8 * (pts.length : Int))) [.int .i64 (wrap64 (id + 8 * (pts.length : Int)))] from rfl) (fun _ h => h.elim) hnew hR S.out.below S.out.size (by have := LB.out; omega) ?_; intro v23 w23 ho hb hg_ hat; obtain ⟨A23, n23, c23, e23⟩ := R_form ho; subst e23; replace S := Aside0.mk (hup _ w23 _ ho hb hg_); clear hup hR hnew ho hb hg_ hat; have f0 := blk_frozen (S.out.at_box 0 rfl) 0; have c0 := blk_cell (S.out.at_box 0 rfl) 0; simp only [List.getElem?_toArray, List.getElem?_cons_zero, List.getElem?_cons_succ] at c0))
  go_loopg [28] (pts.length + 1) (fun kq v28 w' => ∃ (i : Nat) (j : Int) (u : Value) (acc : List Int) (x1 y1 : Int), v28 = .int .i64 j ∧ Aside0 (j = i) ∧ Aside0 (kq + i = pts.length + 1) ∧ Aside0 (i ≤ pts.length) ∧ Aside0 (acc.length = l.length + 1 + 2 * i) ∧
      Aside0 (acc ++ (outS (pts.drop i) x1 y1).1 = l ++ wrap64 (id + 8 * (pts.length : Int)) :: (outS pts x y).1 ∧ (outS (pts.drop i) x1 y1).2 = (outS pts x y).2) ∧ Aside0 (Sep w0 w' (Box _ g 46 #[u, .int .i64 x1, .int .i64 y1] :: Own _ (Kd.int .i64) 3 u acc :: L)))
  case atStart => exact ⟨0, 0, _, l ++ [wrap64 (id + 8 * (pts.length : Int))], x, y, rfl, ⟨rfl⟩, ⟨rfl⟩, ⟨Nat.zero_le _⟩, ⟨by simp⟩, ⟨by rw [List.append_assoc]; rfl, rfl⟩, ⟨S.out.set 0 rfl 0 _⟩⟩
  case round =>
    clear S c0 f0
    obtain ⟨i, j, u, acc, x1, y1, rfl, J, K, IL, LN, OUT, S⟩ := hrel
    cases gk with
    | zero => exact absurd K.out (by have := IL.out; omega)
    | succ k1 =>
    by_cases hi : i < pts.length
    · have hj0 : 0 ≤ j := by rw [J.out]; omega
      have hj1 : j < (pts.length : Int) := by rw [J.out]; omega
      have dj := decide_eq_true hj1
      have HQ2 : (Box w0.heap.size g 46 #[u, .int .i64 x1, .int .i64 y1] :: Own w0.heap.size (Kd.int .i64) 3 u acc :: L)[q + 2]? = some (Src w0 k44 44 (.slice A pts.length c) pts) := HQ.out
      obtain ⟨ad, rfl, hp0, hp1⟩ := at_T44 (S.out.src_C (q + 2) HQ2) j hj0 hj1
      obtain ⟨p, hpp⟩ : ∃ p, rd_T44 pts j = p := ⟨_, rfl⟩
      rw [hpp] at hp0 hp1
      have HP : Aside0 (p = pts[i]) := ⟨by rw [← hpp, J.out, part_at hi]⟩
      clear hpp HQ2
      replace hj0 := eq_true hj0
      replace hj1 := eq_true hj1
      go_wp2_with (first | ((with_reducible refine gate_dst (N := 8) rfl ?_); refine box_event ?hg (N := 8) ?hd (cs := #[.int .i64 0, .int .i64 0]) (t := 44) ?hr ?_; (case hd => rfl); (case hg => rfl); (case hr => first | (go_simp; done) | (go_simp; rfl)); intro g8 hg w8 hbox hb; have yy0 := pw_cell_below hb hp0; have yy1 := pw_cell_below hb hp1; replace S := Aside0.mk (((S.out.box hg hbox hb).set 0 rfl 0 (.int .i64 p.f0)).set 0 rfl 1 (.int .i64 p.f1)); have z0 := blk_cell hbox 0; have z1 := blk_cell hbox 1; have y2 := blk_frozen hbox 0; have y3 := blk_frozen hbox 1; clear hbox hb hg; simp only [List.getElem?_toArray, List.getElem?_cons_zero, List.getElem?_cons_succ] at z0 z1))
      generalize (w8.setCell ⟨g8, 0, none⟩ (.int .i64 p.f0)).setCell ⟨g8, 1, none⟩ (.int .i64 p.f1) = W5 at S ⊢
      clear yy0 yy1 y2 y3 z0 z1 hp0 hp1
      obtain ⟨d0, hd0⟩ : ∃ d, encD (wrap64 (p.f0 - x1)) = d := ⟨_, rfl⟩
      obtain ⟨d1, hd1⟩ : ∃ d, encD (wrap64 (p.f1 - y1)) = d := ⟨_, rfl⟩
      have D0 := Aside0.mk hd0
      have D1 := Aside0.mk hd1
      clear hd0 hd1
      have hLN : acc.length + 2 ≤ 1000000002 := by have := LN.out; have := LB.out; omega
      refine start_ (n := 28) (S := fun w' => w'.cell? ⟨g, 0, none⟩ = some u ∧ w'.cell? ⟨g, 1, none⟩ = some (.int .i64 x1) ∧ w'.cell? ⟨g, 2, none⟩ = some (.int .i64 y1) ∧ w'.cell? ⟨g8, 0, none⟩ = some (.int .i64 p.f0) ∧ w'.cell? ⟨g8, 1, none⟩ = some (.int .i64 p.f1)) (ds := [27]) #[false, false, false, false, false, false, false, false, false, false, false, false, false, false, false, false, false, false, false, false, false, false, false, false, false, false, false, false] (by kernel_rfl) rfl rfl ⟨(blk_cell (S.out.drew.at_box 1 rfl) 0).trans rfl, (blk_cell (S.out.drew.at_box 1 rfl) 1).trans rfl, (blk_cell (S.out.drew.at_box 1 rfl) 2).trans rfl, (blk_cell (S.out.drew.at_box 0 rfl) 0).trans rfl, (blk_cell (S.out.drew.at_box 0 rfl) 1).trans rfl⟩ (fun hHeld => ?_); refine with_tabW wr7_tab wr7_bits (fun HT_ HW_ => ?_)
      have SD := Aside0.mk S.out.drew
      clear S
      generalize W5.drew = W6 at SD hHeld ⊢
      have S := SD
      clear SD
      refine pure_ (i := 0) (N := some 32) (v := ?_) (a' := ?_) #[true, false, false, false, false, false, false, false, false, false, false, false, false, false, false, false, false, false, false, false, false, false, false, false, false, false, false, false] rfl rfl (any_of HT_.out (by kernel_rfl)) (fun _ _ _ h => h) (Or.inl ⟨by rfl, ?_⟩) ?_ ?_
      rotate_left
      · intro w'
        go_simp
        with_reducible rfl
      rotate_left
      · simp only [Act.put, List.setIfInBounds_toArray, List.set_cons_zero, List.set_cons_succ, i64_w, i32_w]
        rfl
      refine pure_ (i := 1) (N := some 33) (v := ?_) (a' := ?_) #[true, true, false, false, false, false, false, false, false, false, false, false, false, false, false, false, false, false, false, false, false, false, false, false, false, false, false, false] rfl rfl (any_of HT_.out (by kernel_rfl)) (fun _ _ _ h => h) (Or.inl ⟨by rfl, ?_⟩) ?_ ?_
      rotate_left
      · intro w'
        go_simp
        with_reducible rfl
      rotate_left
      · simp only [Act.put, List.setIfInBounds_toArray, List.set_cons_zero, List.set_cons_succ, i64_w, i32_w]
        rfl
      refine pure_ (i := 2) (N := some 34) (v := ?_) (a' := ?_) #[true, true, true, false, false, false, false, false, false, false, false, false, false, false, false, false, false, false, false, false, false, false, false, false, false, false, false, false] rfl rfl (any_of HT_.out (by kernel_rfl)) (fun _ _ _ h => h) (Or.inl ⟨by rfl, ?_⟩) ?_ ?_
      rotate_left
      · intro w'
        go_simp
        with_reducible rfl
      rotate_left
      · simp only [Act.put, List.setIfInBounds_toArray, List.set_cons_zero, List.set_cons_succ, i64_w, i32_w]
        rfl
      refine pure_ (i := 3) (N := some 35) (v := ?_) (a' := ?_) #[true, true, true, true, false, false, false, false, false, false, false, false, false, false, false, false, false, false, false, false, false, false, false, false, false, false, false, false] rfl rfl (any_of HT_.out (by kernel_rfl)) (fun _ _ _ h => h) (Or.inl ⟨by rfl, ?_⟩) ?_ ?_
      rotate_left
      · intro w'
        go_simp
        with_reducible rfl
      rotate_left
      · simp only [Act.put, List.setIfInBounds_toArray, List.set_cons_zero, List.set_cons_succ, i64_w, i32_w]
        rfl
      refine pure_ (i := 5) (N := some 37) (v := ?_) (a' := ?_) #[true, true, true, true, false, true, false, false, false, false, false, false, false, false, false, false, false, false, false, false, false, false, false, false, false, false, false, false] rfl rfl (any_of HT_.out (by kernel_rfl)) (fun _ _ _ h => h) (Or.inl ⟨by rfl, ?_⟩) ?_ ?_
      rotate_left
      · intro w'
        go_simp
        with_reducible rfl
      rotate_left
      · simp only [Act.put, List.setIfInBounds_toArray, List.set_cons_zero, List.set_cons_succ, i64_w, i32_w]
        rfl
      refine pure_ (i := 7) (N := some 39) (v := ?_) (a' := ?_) #[true, true, true, true, false, true, false, true, false, false, false, false, false, false, false, false, false, false, false, false, false, false, false, false, false, false, false, false] rfl rfl (any_of HT_.out (by kernel_rfl)) (fun _ _ _ h => h) (Or.inl ⟨by rfl, ?_⟩) ?_ ?_
      rotate_left
      · intro w'
        go_simp
        with_reducible rfl
      rotate_left
      · simp only [Act.put, List.setIfInBounds_toArray, List.set_cons_zero, List.set_cons_succ, i64_w, i32_w]
        rfl
      refine pure_ (i := 8) (N := some 40) (v := ?_) (a' := ?_) #[true, true, true, true, false, true, false, true, true, false, false, false, false, false, false, false, false, false, false, false, false, false, false, false, false, false, false, false] rfl rfl (any_of HT_.out (by kernel_rfl)) (fun _ _ _ h => h) (Or.inl ⟨by rfl, ?_⟩) ?_ ?_
      rotate_left
      · intro w'
        go_simp
        with_reducible rfl
      rotate_left
      · simp only [Act.put, List.setIfInBounds_toArray, List.set_cons_zero, List.set_cons_succ, i64_w, i32_w]
        rfl
      refine pure_ (i := 9) (N := some 41) (v := ?_) (a' := ?_) #[true, true, true, true, false, true, false, true, true, true, false, false, false, false, false, false, false, false, false, false, false, false, false, false, false, false, false, false] rfl rfl (any_of HT_.out (by kernel_rfl)) (fun _ _ _ h => h) (Or.inl ⟨by rfl, ?_⟩) ?_ ?_
      rotate_left
      · intro w'
        go_simp
        with_reducible rfl
      rotate_left
      · simp only [Act.put, List.setIfInBounds_toArray, List.set_cons_zero, List.set_cons_succ, i64_w, i32_w]
        rfl
      refine pure_ (i := 10) (N := some 42) (v := ?_) (a' := ?_) #[true, true, true, true, false, true, false, true, true, true, true, false, false, false, false, false, false, false, false, false, false, false, false, false, false, false, false, false] rfl rfl (any_of HT_.out (by kernel_rfl)) (fun _ _ _ h => h) (Or.inl ⟨by rfl, ?_⟩) ?_ ?_
      rotate_left
      · intro w'
        go_simp
        with_reducible rfl
      rotate_left
      · simp only [Act.put, List.setIfInBounds_toArray, List.set_cons_zero, List.set_cons_succ, i64_w, i32_w]
        rfl
      refine pure_ (i := 14) (N := some 46) (v := ?_) (a' := ?_) #[true, true, true, true, false, true, false, true, true, true, true, false, false, false, true, false, false, false, false, false, false, false, false, false, false, false, false, false] rfl rfl (any_of HT_.out (by kernel_rfl)) (fun _ _ _ h => h) (Or.inl ⟨by rfl, ?_⟩) ?_ ?_
      rotate_left
      · intro w'
        go_simp
        with_reducible rfl
      rotate_left
      · simp only [Act.put, List.setIfInBounds_toArray, List.set_cons_zero, List.set_cons_succ, i64_w, i32_w]
        rfl
      refine pure_ (i := 16) (N := some 48) (v := ?_) (a' := ?_) #[true, true, true, true, false, true, false, true, true, true, true, false, false, false, true, false, true, false, false, false, false, false, false, false, false, false, false, false] rfl rfl (any_of HT_.out (by kernel_rfl)) (fun _ _ _ h => h) (Or.inl ⟨by rfl, ?_⟩) ?_ ?_
      rotate_left
      · intro w'
        go_simp
        with_reducible rfl
      rotate_left
      · simp only [Act.put, List.setIfInBounds_toArray, List.set_cons_zero, List.set_cons_succ, i64_w, i32_w]
        rfl
      refine pure_ (i := 17) (N := some 49) (v := ?_) (a' := ?_) #[true, true, true, true, false, true, false, true, true, true, true, false, false, false, true, false, true, true, false, false, false, false, false, false, false, false, false, false] rfl rfl (any_of HT_.out (by kernel_rfl)) (fun _ _ _ h => h) (Or.inl ⟨by rfl, ?_⟩) ?_ ?_
      rotate_left
      · intro w'
        go_simp
        with_reducible rfl
      rotate_left
      · simp only [Act.put, List.setIfInBounds_toArray, List.set_cons_zero, List.set_cons_succ, i64_w, i32_w]
        rfl
      refine pure_ (i := 18) (N := some 50) (v := ?_) (a' := ?_) #[true, true, true, true, false, true, false, true, true, true, true, false, false, false, true, false, true, true, true, false, false, false, false, false, false, false, false, false] rfl rfl (any_of HT_.out (by kernel_rfl)) (fun _ _ _ h => h) (Or.inl ⟨by rfl, ?_⟩) ?_ ?_
      rotate_left
      · intro w'
        go_simp
        with_reducible rfl
      rotate_left
      · simp only [Act.put, List.setIfInBounds_toArray, List.set_cons_zero, List.set_cons_succ, i64_w, i32_w]
        rfl
      refine pure_ (i := 19) (N := some 51) (v := ?_) (a' := ?_) #[true, true, true, true, false, true, false, true, true, true, true, false, false, false, true, false, true, true, true, true, false, false, false, false, false, false, false, false] rfl rfl (any_of HT_.out (by kernel_rfl)) (fun _ _ _ h => h) (Or.inl ⟨by rfl, ?_⟩) ?_ ?_
      rotate_left
      · intro w'
        go_simp
        with_reducible rfl
      rotate_left
      · simp only [Act.put, List.setIfInBounds_toArray, List.set_cons_zero, List.set_cons_succ, i64_w, i32_w]
        rfl
      refine take_ (i := 4) (N := some 36) (v := ?_) (a' := ?_) #[true, true, true, true, true, true, false, true, true, true, true, false, false, false, true, false, true, true, true, true, false, false, false, false, false, false, false, false] rfl rfl (take_ofW HT_.out HW_.out (by kernel_rfl)) (fun _ _ _ h => h) (Or.inl ⟨by rfl, ?_⟩) hHeld ?_ ?_
      rotate_left
      · rintro w' ⟨s0, s1, s2, s3, s4⟩
        go_simp
        with_reducible rfl
      rotate_left
      · simp only [Act.put, List.setIfInBounds_toArray, List.set_cons_zero, List.set_cons_succ, i64_w, i32_w]
        rfl
      refine take_ (i := 6) (N := some 38) (v := ?_) (a' := ?_) #[true, true, true, true, true, true, true, true, true, true, true, false, false, false, true, false, true, true, true, true, false, false, false, false, false, false, false, false] rfl rfl (take_ofW HT_.out HW_.out (by kernel_rfl)) (fun _ _ _ h => h) (Or.inl ⟨by rfl, ?_⟩) hHeld ?_ ?_
      rotate_left
      · rintro w' ⟨s0, s1, s2, s3, s4⟩
        go_simp
        with_reducible rfl
      rotate_left
      · simp only [Act.put, List.setIfInBounds_toArray, List.set_cons_zero, List.set_cons_succ, i64_w, i32_w]
        rfl
      refine take_ (i := 11) (N := some 43) (v := ?_) (a' := ?_) #[true, true, true, true, true, true, true, true, true, true, true, true, false, false, true, false, true, true, true, true, false, false, false, false, false, false, false, false] rfl rfl (take_ofW HT_.out HW_.out (by kernel_rfl)) (fun _ _ _ h => h) (Or.inl ⟨by rfl, ?_⟩) hHeld ?_ ?_
      rotate_left
      · rintro w' ⟨s0, s1, s2, s3, s4⟩
        go_simp
        with_reducible rfl
      rotate_left
      · simp only [Act.put, List.setIfInBounds_toArray, List.set_cons_zero, List.set_cons_succ, i64_w, i32_w]
        rfl
      refine pure_ (i := 12) (N := some 44) (v := ?_) (a' := ?_) #[true, true, true, true, true, true, true, true, true, true, true, true, true, false, true, false, true, true, true, true, false, false, false, false, false, false, false, false] rfl rfl (any_of HT_.out (by kernel_rfl)) (fun _ _ _ h => h) (Or.inl ⟨by rfl, ?_⟩) ?_ ?_
      rotate_left
      · intro w'
        go_simp
        with_reducible rfl
      rotate_left
      · simp only [Act.put, List.setIfInBounds_toArray, List.set_cons_zero, List.set_cons_succ, i64_w, i32_w]
        rfl
      refine take_ (i := 15) (N := some 47) (v := ?_) (a' := ?_) #[true, true, true, true, true, true, true, true, true, true, true, true, true, false, true, true, true, true, true, true, false, false, false, false, false, false, false, false] rfl rfl (take_ofW HT_.out HW_.out (by kernel_rfl)) (fun _ _ _ h => h) (Or.inl ⟨by rfl, ?_⟩) hHeld ?_ ?_
      rotate_left
      · rintro w' ⟨s0, s1, s2, s3, s4⟩
        go_simp
        with_reducible rfl
      rotate_left
      · simp only [Act.put, List.setIfInBounds_toArray, List.set_cons_zero, List.set_cons_succ, i64_w, i32_w]
        rfl
      refine take_ (i := 20) (N := some 52) (v := ?_) (a' := ?_) #[true, true, true, true, true, true, true, true, true, true, true, true, true, false, true, true, true, true, true, true, true, false, false, false, false, false, false, false] rfl rfl (take_ofW HT_.out HW_.out (by kernel_rfl)) (fun _ _ _ h => h) (Or.inl ⟨by rfl, ?_⟩) hHeld ?_ ?_
      rotate_left
      · rintro w' ⟨s0, s1, s2, s3, s4⟩
        go_simp
        with_reducible rfl
      rotate_left
      · simp only [Act.put, List.setIfInBounds_toArray, List.set_cons_zero, List.set_cons_succ, i64_w, i32_w]
        rfl
      refine pure_ (i := 21) (N := some 53) (v := ?_) (a' := ?_) #[true, true, true, true, true, true, true, true, true, true, true, true, true, false, true, true, true, true, true, true, true, true, false, false, false, false, false, false] rfl rfl (any_of HT_.out (by kernel_rfl)) (fun _ _ _ h => h) (Or.inl ⟨by rfl, ?_⟩) ?_ ?_
      rotate_left
      · intro w'
        go_simp
        with_reducible rfl
      rotate_left
      · simp only [Act.put, List.setIfInBounds_toArray, List.set_cons_zero, List.set_cons_succ, i64_w, i32_w]
        rfl
      refine one_ (i := 13) (N := some 45) #[true, true, true, true, true, true, true, true, true, true, true, true, true, true, true, true, true, true, true, true, true, true, false, false, false, false, false, false] rfl rfl (one_of HT_.out (by kernel_rfl)) (by decide) (fun K hK => ?_)
      refine goes_ Tryd.func21 (by kernel_rfl) rfl #[.int .i64 (wrap64 (p.f0 - x1))] (by rfl) rfl rfl (by (try simp only [List.map_toArray, List.map_cons, List.map_nil]); first | done | rfl) ?_
      with_reducible refine (delta_c (wrap64 (p.f0 - x1)) _ D0.out _).mono ?_
      rintro e w' ⟨rfl, ⟨nd, rfl⟩⟩
      refine ⟨_, rfl, ?_⟩
      replace S := Aside0.mk (S.out.drewN nd)
      refine hK.out _ _ ⟨(blk_cell (S.out.at_box 1 rfl) 0).trans rfl, (blk_cell (S.out.at_box 1 rfl) 1).trans rfl, (blk_cell (S.out.at_box 1 rfl) 2).trans rfl, (blk_cell (S.out.at_box 0 rfl) 0).trans rfl, (blk_cell (S.out.at_box 0 rfl) 1).trans rfl⟩ (fun hHeld => ?_)
      clear hK K
      refine norm_ (a' := ?_) ?_ ?_
      rotate_left
      · show Act.put _ (some 45) _ = _
        simp only [Act.put, List.setIfInBounds_toArray, List.set_cons_zero, List.set_cons_succ, i64_w, i32_w]
        rfl
      refine one_ (i := 22) (N := some 54) #[true, true, true, true, true, true, true, true, true, true, true, true, true, true, true, true, true, true, true, true, true, true, true, false, false, false, false, false] rfl rfl (one_of HT_.out (by kernel_rfl)) (by decide) (fun K hK => ?_)
      refine goes_ Tryd.func21 (by kernel_rfl) rfl #[.int .i64 (wrap64 (p.f1 - y1))] (by rfl) rfl rfl (by (try simp only [List.map_toArray, List.map_cons, List.map_nil]); first | done | rfl) ?_
      with_reducible refine (delta_c (wrap64 (p.f1 - y1)) _ D1.out _).mono ?_
      rintro e w' ⟨rfl, ⟨nd, rfl⟩⟩
      refine ⟨_, rfl, ?_⟩
      replace S := Aside0.mk (S.out.drewN nd)
      refine hK.out _ _ ⟨(blk_cell (S.out.at_box 1 rfl) 0).trans rfl, (blk_cell (S.out.at_box 1 rfl) 1).trans rfl, (blk_cell (S.out.at_box 1 rfl) 2).trans rfl, (blk_cell (S.out.at_box 0 rfl) 0).trans rfl, (blk_cell (S.out.at_box 0 rfl) 1).trans rfl⟩ (fun hHeld => ?_)
      clear hK K
      refine norm_ (a' := ?_) ?_ ?_
      rotate_left
      · show Act.put _ (some 54) _ = _
        simp only [Act.put, List.setIfInBounds_toArray, List.set_cons_zero, List.set_cons_succ, i64_w, i32_w]
        rfl
      refine one_ (i := 23) (N := some 55) #[true, true, true, true, true, true, true, true, true, true, true, true, true, true, true, true, true, true, true, true, true, true, true, true, false, false, false, false] rfl rfl (one_of HT_.out (by kernel_rfl)) (by decide) (fun K hK => ?_)
      refine Kd.R_lit_step (Kd.int .i64) _ 3 ?hg (N := 55) ?hd (xs := ([d0, d1] : List Int)) (inner := [.int .i64 d0, .int .i64 d1]) (ok := fun _ => True) (okp := fun _ => True) ?hr ?hp (fun _ hk => hk) trivial (Below.refl _ _) (Nat.le_refl _) (by simp) ?_; (case hd => rfl); (case hg => rfl); (case hr => first | (go_simp; done) | (go_simp; rfl)); (case hp => exact (Reps.one (show Kd.M (Kd.int .i64) _ _ _ d0 [.int .i64 d0] from rfl) (Reps.one (show Kd.M (Kd.int .i64) _ _ _ d1 [.int .i64 d1] from rfl) (Reps.none _ _))))
      intro v55 w11 ho hb hg_ hnew_
      clear hg_ hnew_
      replace S := Aside0.mk (S.out.own ho hb)
      clear ho hb
      obtain ⟨Ao, co, eo⟩ := Kd.R_slice (S.out.at_own 0 rfl)
      subst eo
      refine hK.out _ _ ⟨(blk_cell (S.out.at_box 2 rfl) 0).trans rfl, (blk_cell (S.out.at_box 2 rfl) 1).trans rfl, (blk_cell (S.out.at_box 2 rfl) 2).trans rfl, (blk_cell (S.out.at_box 1 rfl) 0).trans rfl, (blk_cell (S.out.at_box 1 rfl) 1).trans rfl⟩ (fun hHeld => ?_)
      clear hK K
      refine norm_ (a' := ?_) ?_ ?_
      rotate_left
      · show Act.put _ (some 55) _ = _
        simp only [Act.put, List.setIfInBounds_toArray, List.set_cons_zero, List.set_cons_succ, i64_w, i32_w]
        rfl
      refine one_ (i := 24) (N := some 56) #[true, true, true, true, true, true, true, true, true, true, true, true, true, true, true, true, true, true, true, true, true, true, true, true, true, false, false, false] rfl rfl (one_of HT_.out (by kernel_rfl)) (by decide) (fun K hK => ?_)
      obtain ⟨ok, hR, hnew, hup⟩ := S.out.append 3 rfl
      refine Kd.R_append_rows_step (Kd.int .i64) (w0 := w0) w0.heap.size (by rfl) (.tmp 36) (.tmp 55) 27 3 (.int .i64 0) 8 rfl Tryd.underlying27 info3 rfl (by decide) (by omega) u acc [d0, d1] _ _ _ ok (fun _ => False) rfl rfl hR ?aR (fun _ _ h => h) (fun _ h => h.elim) hnew S.out.below S.out.size ?aL ?_
      (case aR => exact (Kd.R_reads' (S.out.at_own 0 rfl)).2.2)
      (case aL => (simp only [List.length_cons, List.length_nil]; omega))
      intro v56 w13 ho hb hg_ hat
      obtain ⟨A56, n56, c56, e56⟩ := R_form ho
      subst e56
      replace S := Aside0.mk (hup _ w13 _ ho hb hg_)
      clear hup hR hnew ho hb hg_ hat
      have f0 := blk_frozen (S.out.at_box 2 rfl) 0
      refine hK.out _ _ ⟨(blk_cell (S.out.at_box 2 rfl) 0).trans rfl, (blk_cell (S.out.at_box 2 rfl) 1).trans rfl, (blk_cell (S.out.at_box 2 rfl) 2).trans rfl, (blk_cell (S.out.at_box 1 rfl) 0).trans rfl, (blk_cell (S.out.at_box 1 rfl) 1).trans rfl⟩ (fun hHeld => ?_)
      clear hK K
      refine norm_ (a' := ?_) ?_ ?_
      rotate_left
      · show Act.put _ (some 56) _ = _
        simp only [Act.put, List.setIfInBounds_toArray, List.set_cons_zero, List.set_cons_succ, i64_w, i32_w]
        rfl
      refine pure_ (i := 25) (N := some 57) (v := ?_) (a' := ?_) #[true, true, true, true, true, true, true, true, true, true, true, true, true, true, true, true, true, true, true, true, true, true, true, true, true, true, false, false] rfl rfl (any_of HT_.out (by kernel_rfl)) (fun _ _ _ h => h) (Or.inl ⟨by rfl, ?_⟩) ?_ ?_
      rotate_left
      · intro w'
        go_simp
        with_reducible rfl
      rotate_left
      · simp only [Act.put, List.setIfInBounds_toArray, List.set_cons_zero, List.set_cons_succ, i64_w, i32_w]
        rfl
      refine pure_ (i := 26) (N := some 58) (v := ?_) (a' := ?_) #[true, true, true, true, true, true, true, true, true, true, true, true, true, true, true, true, true, true, true, true, true, true, true, true, true, true, true, false] rfl rfl (any_of HT_.out (by kernel_rfl)) (fun _ _ _ h => h) (Or.inl ⟨by rfl, ?_⟩) ?_ ?_
      rotate_left
      · intro w'
        go_simp
        with_reducible rfl
      rotate_left
      · simp only [Act.put, List.setIfInBounds_toArray, List.set_cons_zero, List.set_cons_succ, i64_w, i32_w]
        rfl
      refine last_ (i := 27) (N := none) #[true, true, true, true, true, true, true, true, true, true, true, true, true, true, true, true, true, true, true, true, true, true, true, true, true, true, true, true] rfl rfl (one_of HT_.out (by kernel_rfl)) (by decide) (fun K hK => ?_)
      go_simp
      refine hK.out _ _ ?_
      clear hK K
      refine done_ (done_of HT_.out (by kernel_rfl)) ?_
      replace S := Aside0.mk (S.out.set 2 rfl 0 (.slice A56 n56 c56))
      clear f0
      generalize w13.setCell ⟨g, 0, none⟩ (.slice A56 n56 c56) = W7 at S ⊢
      have z0 : W7.cell? ⟨g8, 0, none⟩ = some (.int .i64 p.f0) := (blk_cell (S.out.at_box 1 rfl) 0).trans rfl
      have z1 : W7.cell? ⟨g8, 1, none⟩ = some (.int .i64 p.f1) := (blk_cell (S.out.at_box 1 rfl) 1).trans rfl
      have z2 : W7.cell? ⟨g, 1, none⟩ = some (.int .i64 x1) := (blk_cell (S.out.at_box 2 rfl) 1).trans rfl
      have z3 : W7.cell? ⟨g, 2, none⟩ = some (.int .i64 y1) := (blk_cell (S.out.at_box 2 rfl) 2).trans rfl
      have f1 := blk_frozen (S.out.at_box 2 rfl) 1
      have f2 := blk_frozen (S.out.at_box 2 rfl) 2
      clear hHeld
      go_wp2
      go_roundg k1
      case measure => omega
      case rel =>
        have hO := OUT.out
        have hs : outS (pts.drop i) x1 y1 = (d0 :: d1 :: (outS (pts.drop (i + 1)) p.f0 p.f1).1, (outS (pts.drop (i + 1)) p.f0 p.f1).2) := by
          rw [List.drop_eq_getElem_cons hi, outS, ← HP.out, D0.out, D1.out]
        rw [hs] at hO
        simp only at hO
        refine ⟨i + 1, wrap64 (j + 1), _, acc ++ [d0, d1], p.f0, p.f1, rfl, ⟨wrap_next j i J.out (by omega)⟩, ⟨by have := K.out; omega⟩, ⟨by omega⟩, ⟨by have := LN.out; rw [List.length_append]; simp only [List.length_cons, List.length_nil]; omega⟩, ⟨by rw [← hO.1, List.append_assoc]; rfl, hO.2⟩, ⟨(((S.out.set 2 rfl 1 (.int .i64 p.f0)).set 2 rfl 2 (.int .i64 p.f1)).drop 0).drop 0⟩⟩
    · have dj := decide_eq_false (show ¬ j < (pts.length : Int) by rw [J.out]; omega)
      obtain rfl : i = pts.length := by have := IL.out; omega
      go_wp2
      go_end0
      have hO := OUT.out
      rw [List.drop_length] at hO
      have hO : acc ++ [] = l ++ wrap64 (id + 8 * (pts.length : Int)) :: (outS pts x y).1 ∧ (x1, y1) = (outS pts x y).2 := hO
      rw [List.append_nil] at hO
      refine ⟨rfl, u, ?_⟩
      rw [← hO.1, ← hO.2]
      exact S.out
end Go.Proofs.YtopapknfpoandaaDoor.Hand
