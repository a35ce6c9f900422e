import Derived.Test.YtpfmebpalejadaaHa
import Derived.Test.YtpfmebpalejadaaShelf
import Derived.Test.YtpfmebpalejadaaWWords
import Derived.Test.YtpfmebpalejadaaWMore
import Derived.Test.YtpfmebpalejadaaWLast
import Derived.Test.YtpfmebpalejadaaPALLx
section
namespace Go.Proofs.Ytpfmebpalejadaa.Hand
open Go.Proofs.YtpfmebpalejadaaW Go.RowKit Go.Proofs.YtpfmebpalejadaaW.PrintWords Go.Proofs.YtpfmebpalejadaaW.PrintLast Go.Proofs.YtpfmebpalejadaaW.PrintMore Go.Proofs.YtpfmebpalejadaaW.SepW Go.Proofs.Ytpfmebpalejadaa.PALL Go.Proofs.Ytpfmebpalejadaa.Plain
set_option linter.unusedVariables false
set_option linter.unusedSimpArgs false
theorem fzn_snoc' {w0 W : World} {L : List (Thing w0.heap.size)} {vs : List Value} {bs : List (List ByteArray)} (S : Sep w0 W L) (n : Nat) (h : L[n]? = some (FzN _ vs (bs.map pw_strs))) : Sep w0 W (L.set n (FzN _ (vs ++ [.slice none 0 0]) ((bs ++ [[]]).map pw_strs))) := by
  have := (S.sp.fzn_snoc n h).sep S.below
  rwa [show bs.map pw_strs ++ [[]] = (bs ++ [[]]).map pw_strs by simp [pw_strs]] at this

/-- The documents, with room for number D. -/
def grow (bs : List (List ByteArray)) (D : Nat) : List (List ByteArray) := if D = bs.length then bs ++ [[]] else bs
theorem grow_len {bs : List (List ByteArray)} {D : Nat} (h : D ≤ bs.length) : D < (grow bs D).length := by
  unfold grow
  split
  · simp; omega
  · omega
theorem grow_ge (bs : List (List ByteArray)) (D : Nat) : bs.length ≤ (grow bs D).length := by
  unfold grow
  split
  · simp
  · exact Nat.le_refl _
def Small (bs : List (List ByteArray)) : Prop := bs.length ≤ 100 ∧ ∀ l ∈ bs, l.length ≤ 1000
theorem flat_le : ∀ (bs : List (List ByteArray)) (n : Nat), (∀ l ∈ bs, l.length ≤ n) → bs.flatten.length ≤ bs.length * n
  | [], n, _ => by simp
  | a :: t, n, h => by
    have h1 := flat_le t n (fun l hl => h l (List.mem_cons_of_mem _ hl))
    have h2 := h a List.mem_cons_self
    simp only [List.flatten_cons, List.length_append, List.length_cons, Nat.add_mul]
    omega
theorem RB_sub {bs : List (List ByteArray)} {w : ByteArray} {x : Int} (h : RB bs w x) : w ∈ bs.flatten ∧ 0 ≤ x ∧ x < bs.length := by
  obtain ⟨i, l, rfl, h2, h3⟩ := h
  have hi := (List.getElem?_eq_some_iff.1 h2).1
  exact ⟨List.mem_flatten.2 ⟨l, List.mem_of_getElem? h2, h3⟩, by omega, by omega⟩
theorem RD_small {bs : List (List ByteArray)} {m : List (ByteArray × List Int)} {D i : Nat} {l : List ByteArray} (h : Inv m (RD bs D l i)) (hs : Small bs) : m.length ≤ 1000000 ∧ ∀ p ∈ m, p.2.length ≤ 1000000 := by
  obtain ⟨h1, h2⟩ := Inv_small h bs.flatten bs.length (fun w x hR => RB_sub hR.1)
  have h3 := flat_le bs 1000 hs.2
  have h4 := hs.1
  exact ⟨by omega, fun p hp => by have := h2 p hp; omega⟩
theorem RA_small {bs : List (List ByteArray)} {m : List (ByteArray × List Int)} {D i : Nat} {l : List ByteArray} (h : Inv m (RA bs D l i)) (hs : Small bs) (hl : l.length ≤ 1000) (hD : D < bs.length) : m.length ≤ 1000000 ∧ ∀ p ∈ m, p.2.length ≤ 1000000 := by
  obtain ⟨h1, h2⟩ := Inv_small h (bs.flatten ++ l) bs.length (fun w x hR => by
    rcases hR with hR | hR
    · exact ⟨List.mem_append.2 (.inl (RB_sub hR.1).1), (RB_sub hR.1).2⟩
    · exact ⟨List.mem_append.2 (.inr (List.mem_of_mem_take hR.2)), by omega, by omega⟩)
  have h3 := flat_le bs 1000 hs.2
  have h4 := hs.1
  rw [List.length_append] at h1
  exact ⟨by omega, fun p hp => by have := h2 p hp; omega⟩
theorem fzn_news {w0 W w1 : World} {L : List (Thing w0.heap.size)} {vs : List Value} {ds : List (List ByteArray)} {v1 : Value} {d : List ByteArray} {m : Nat} (S : Sep w0 W L) (n : Nat) (h : L[n]? = some (FzN _ vs (ds.map pw_strs))) (i : Nat) (ho : w1.ownsRow W.heap.size 9 1 v1 m (pw_strs d)) (hb : Below W.heap.size W w1) : Sep w0 w1 (L.set n (FzN _ (vs.set i v1) ((ds.set i d).map pw_strs))) := by
  rw [List.map_set]
  exact (S.sp.fzn_new n h i ho (strs_one _) hb).sep S.below
theorem hdr_at {w0 w : World} {L : List (Thing w0.heap.size)} {e g n c : Nat} {vs : List Value} (S : Sep w0 w L) (k : Nat) (h : L[k]? = some (Hdr _ e (.slice (some ⟨g, 0, none⟩) n c) vs)) (i : Nat) (u : Value) (hu : vs[i]? = some u) : w.cell? ⟨g, i, none⟩ = some u ∧ w.frozen? ⟨g, i, none⟩ = false ∧ n = vs.length := by
  have ho := S.at_hdr k h
  have hn : n = vs.length := by
    obtain ⟨_, _, he⟩ := S.hdr_form k h
    injection he with _ e2 _
  subst hn
  obtain ⟨g', cap, he, h1, h2⟩ := S.hdr_cells k h (Nat.zero_lt_of_lt (List.getElem?_eq_some_iff.1 hu).1)
  injection he with e1 e2 e3
  injection e1 with e1
  injection e1 with e1
  subst e1
  exact ⟨h1 i u hu, h2 i, rfl⟩
/-- A row among frozen rows, whose header is known. -/
theorem fzn_row {w0 w : World} {L : List (Thing w0.heap.size)} {vs : List Value} {ds : List (List ByteArray)} (S : Sep w0 w L) (n : Nat) (h : L[n]? = some (FzN _ vs (ds.map pw_strs))) (i : Nat) (d : List ByteArray) (hd : ds[i]? = some d) (hl : d.length ≤ 1000000) {A : Option Addr} {m c : Nat} (hv : vs[i]? = some (.slice A m c)) : Kd.string.C w A d.length d := by
  obtain ⟨A', c', h1, _, _, h4⟩ := fzn_strs S n h i d hd hl
  rw [hv] at h1
  injection h1 with h1
  injection h1 with e1 _ _
  rw [e1]
  exact h4
/-- A row of words that nothing of the index's turns. -/
def RowIn (w0 : World) (L : List (Thing w0.heap.size)) (A : Option Addr) (l : List ByteArray) : Prop := ∀ (w' : World) (M : List (Thing w0.heap.size)), Sep w0 w' (M ++ L) → Kd.string.C w' A l.length l
theorem RowIn.here {w0 w : World} {a b d e f k : Thing w0.heap.size} {L : List (Thing w0.heap.size)} {A : Option Addr} {l : List ByteArray} (h : RowIn w0 L A l) (S : Sep w0 w (a :: b :: d :: e :: f :: k :: L)) : Kd.string.C w A l.length l := h w [a, b, d, e, f, k] S
theorem wnext (i : Nat) (h : i ≤ 1000000) : Value.int .i64 (wrap64 ((i : Int) + 1)) = .int .i64 ((i + 1 : Nat) : Int) := by
  have : wrap64 ((i : Int) + 1) = ((i + 1 : Nat) : Int) := by unfold wrap64; omega
  rw [this]
/-- A word of a row of words, by its place. -/
theorem str_at {w : World} {A : Option Addr} {l : List ByteArray} (h : Kd.string.C w A l.length l) (i : Nat) (hi : i < l.length) : ∃ ad, A = some ad ∧ w.cell? (ad.add i) = some (.string l[i]) := by
  obtain ⟨ad, he, hc⟩ := h.2.2 (by omega)
  obtain ⟨us, h1, h2, h3⟩ := hc i l[i] (List.getElem?_eq_getElem hi)
  refine ⟨ad, he, ?_⟩
  have h4 : us = [.string l[i]] := h2
  subst h4
  have := h3 0 _ rfl
  rw [show Kd.string.sz = 1 from rfl, Nat.mul_one, Nat.add_zero] at this
  exact this
def se10_T : Bool × List (List Nat × List Nat) := (true, [([], []), ([0], [0]), ([1], [1]), ([2], [2]), ([], []), ([], []), ([5], [5]), ([3, 4, 0, 1, 2, 3, 4, 5, 6], [3, 4]), ([7, 6, 6, 0, 1, 2, 3, 4, 5, 6], [6, 7])])
def se10_B : List Nat := [0, 1, 3, 7, 0, 0, 32, 127, 255]
theorem se10_tab : rtab .any (opsOf Try.f14 10) = se10_T := by kernel_rfl
theorem se10_bits : waitsOk se10_T.2 se10_B = true := by kernel_rfl
set_option maxHeartbeats 8000000 in
set_option maxRecDepth 100000 in
theorem set_yes {w0 w : World} {L : List (Thing w0.heap.size)} {g : Nat} {wv dv bv : Value} {dvs bvs : List Value} {m : List (ByteArray × List Int)} {bs : List (List ByteArray)}
    (S : Sep w0 w (IxL _ g wv dv bv dvs m (Hdr _ 33 bv bvs :: FzN _ bvs (bs.map pw_strs) :: L))) (hI : Inv m (RB bs)) (D : Nat) (hD : D ≤ bs.length) (hs : Small (grow bs D)) (A : Option Addr) (c : Nat) (l : List ByteArray) (hq : RowIn w0 L A l) (hcap : l.length ≤ c) (hl : l.length ≤ 1000) :
    Calls Try.prog 14 #[.pointer (some ⟨g, 0, none⟩), .int .i64 (D : Int), .slice A l.length c] w fun e w' => e = .returned (.bool true) ∧ ∃ wv' dv' bv' dvs' bvs' m', Inv m' (RB ((grow bs D).set D l)) ∧ Sep w0 w' (IxL _ g wv' dv' bv' dvs' m' (Hdr _ 33 bv' bvs' :: FzN _ bvs' (((grow bs D).set D l).map pw_strs) :: L)) := by
  have hbn := fzn_len S 5 rfl
  obtain ⟨Ab, cb, rfl⟩ := S.hdr_form 4 rfl
  have k2 := blk_cell (S.at_box 0 rfl) 2
  simp only [List.getElem?_toArray, List.getElem?_cons_zero, List.getElem?_cons_succ] at k2
  have f2 := blk_frozen (S.at_box 0 rfl) 2
  have d0 : decide ((D : Int) < 0) = false := decide_eq_false (by omega)
  have d1 : decide ((bvs.length : Int) < (D : Int)) = false := decide_eq_false (by omega)
  have d1' : decide (bvs.length < D) = false := decide_eq_false (by omega)
  have HN : Aside0 (bvs.length ≤ 1000) := ⟨by have h1 := hs.1; have h2 := grow_ge bs D; omega⟩
  have HD : Aside0 (D ≤ bvs.length) := ⟨by omega⟩
  have HDB : Aside0 (D ≤ bs.length) := ⟨hD⟩
  have HBN := Aside0.mk hbn
  have HI := Aside0.mk hI
  have HS := Aside0.mk hs
  have HQ := Aside0.mk hq
  have HCAP := Aside0.mk hcap
  have HL := Aside0.mk hl
  have S := Aside0.mk S
  clear hbn hI hs hq hl hD hcap
  go_enter Try.func14, Try.ntmps14
  go_upto_if 32 with fail
  go_cut [] from 32 to 41 (fun wx => ∃ A1 c1 bvs1, Aside0 (Sep w0 wx (IxL _ g wv dv (.slice A1 bvs1.length c1) dvs m (Hdr _ 33 (.slice A1 bvs1.length c1) bvs1 :: FzN _ bvs1 ((grow bs D).map pw_strs) :: L))))
  case first =>
    by_cases hd : D = bs.length
    · have t0 : ((D : Int) == (bvs.length : Int)) = true := by rw [beq_iff_eq, HBN.out, hd]
      have HE := Aside0.mk hd
      clear hd
      go_wp2_with (first | ((with_reducible refine gate_builtin (b := .append) (xs := #[.tmp 37, .tmp 38]) rfl ?_); at_builtin; obtain ⟨ho, hup⟩ := S.out.hdr_append 4 rfl; refine print_append_cells (w0 := w0) w0.heap.size rfl (.tmp 37) (.tmp 38) 22 33 (.slice none 0 0) 1 24 rfl Try.underlying22 info33 rfl (by decide) (by omega) _ _ bvs [.slice none 0 0] rfl rfl rfl (by simp [Value.oneCell']) ho S.out.below S.out.size (by have := HN.out; omega) ?_; intro v39 w39 hown hb hg hat; obtain ⟨A39, c39, ev39⟩ := own_slice hown; subst ev39; have hown' := Aside0.mk hown; replace S := Aside0.mk (fzn_snoc' (hup _ w39 (bvs ++ [.slice none 0 0]) (by rw [show (bvs ++ [Value.slice none 0 0]).length = bvs.length + 1 from (by rw [List.length_append]; rfl)]; exact hown'.out) hb hg hat) 5 rfl); clear ho hup hown hown' hb hg hat; have q2 : w39.cell? ⟨g, 2, none⟩ = some (.slice Ab bvs.length cb) := (blk_cell (S.out.at_box 0 rfl) 2).trans rfl; have f2_ : w39.frozen? ⟨g, 2, none⟩ = false := blk_frozen (S.out.at_box 0 rfl) 2))
      go_meet
      case rel =>
        have e : grow bs D = bs ++ [[]] := by unfold grow; rw [if_pos HE.out]
        rw [e]
        refine ⟨A39, c39, bvs ++ [.slice none 0 0], ⟨?_⟩⟩
        have h := S.out.set 0 rfl 2 (.slice A39 (bvs.length + 1) c39)
        rw [show (bvs ++ [Value.slice none 0 0]).length = bvs.length + 1 by simp]
        exact h
    · have t0 : ((D : Int) == (bvs.length : Int)) = false := by rw [beq_eq_false_iff_ne, HBN.out]; omega
      have HE := Aside0.mk hd
      clear hd
      go_wp2
      go_meet
      case rel =>
        have e : grow bs D = bs := by unfold grow; rw [if_neg HE.out]
        rw [e]
        exact ⟨Ab, cb, bvs, S⟩
  case rest =>
  clear S k2 f2 HN HD HBN
  obtain ⟨A1, c1, bvs1, S⟩ := hcut
  obtain ⟨bs1, hb1⟩ : ∃ b, b = grow bs D := ⟨_, rfl⟩
  have hI1 : Inv m (RB (grow bs D)) := by
    unfold grow
    split
    · exact HI.out.same (fun w x => (RB_snoc bs w x).symm)
    · exact HI.out
  have hD1 : D < (grow bs D).length := grow_len HDB.out
  rw [← hb1] at S HS hI1 hD1
  have HB1 := Aside0.mk hb1
  clear HI hb1 HDB
  have hbn := fzn_len S.out 5 rfl
  have hpos : D < bvs1.length := by omega
  obtain ⟨gb, cb9, eb, hbc, hbf⟩ := S.out.hdr_cells 4 rfl (Nat.zero_lt_of_lt hpos)
  clear hbc hbf
  injection eb with eb1 eb2 eb3
  subst eb1; subst eb3
  clear eb2
  obtain ⟨l0, hl0⟩ : ∃ l0, bs1[D]? = some l0 := ⟨_, List.getElem?_eq_getElem hD1⟩
  have hl0n : l0.length ≤ 1000 := HS.out.2 _ (List.mem_of_getElem? hl0)
  obtain ⟨Al, cl, hvl, hcl, hCEl, hCl⟩ := fzn_strs S.out 5 rfl D l0 hl0 (by omega)
  obtain ⟨hcell, hfro, _⟩ := hdr_at S.out 4 rfl D _ hvl
  have k2 := blk_cell (S.out.at_box 0 rfl) 2
  simp only [List.getElem?_toArray, List.getElem?_cons_zero, List.getElem?_cons_succ] at k2
  have p0 : decide ((0 : Int) ≤ (D : Int)) = true := decide_eq_true (by omega)
  have p2 : (0 : Int) ≤ (D : Int) := by omega
  have p3 : (D : Int) < ((bvs1.length : Nat) : Int) := by omega
  have p1 := decide_eq_true p3
  have p4 : D < bvs1.length := by omega
  have HI := Aside0.mk hI1
  have HL0 := Aside0.mk hl0
  have HD1 := Aside0.mk hD1
  have HBN := Aside0.mk hbn
  have HLN := Aside0.mk hl0n
  have HVL := Aside0.mk hvl
  clear hI1 hl0 hD1 hbn hl0n hvl hcl hCEl hCl
  go_upto_region 6 with fail
  go_loopg [50] (l0.length + 1) (fun kq v50 w' => ∃ (i : Nat) (wv dv : Value) (dvs : List Value) (m : List (ByteArray × List Int)), v50 = .int .i64 i ∧ Aside0 (kq + i = l0.length + 1) ∧ Aside0 (i ≤ l0.length) ∧ Aside0 (Inv m (RD bs1 D l0 i)) ∧ Aside0 (Sep w0 w' (IxL _ g wv dv (.slice (some ⟨gb, 0, none⟩) bvs1.length c1) dvs m (Hdr _ 33 (.slice (some ⟨gb, 0, none⟩) bvs1.length c1) bvs1 :: FzN _ bvs1 (bs1.map pw_strs) :: L))))
  case atStart => exact ⟨0, wv, dv, dvs, m, rfl, ⟨rfl⟩, ⟨Nat.zero_le _⟩, ⟨HI.out.same (fun w x => RD_zero bs1 D l0 w x)⟩, S⟩
  case round =>
    clear S HI
    obtain ⟨i, wv, dv, dvs, m, rfl, KQ, IL, HI, S⟩ := hrel
    cases gk with
    | zero => exact absurd KQ.out (by have := IL.out; omega)
    | succ q1 =>
    by_cases hi : i < l0.length
    · have p0 : (0 : Int) ≤ (i : Int) := by omega
      have p1 : (i : Int) < (l0.length : Int) := by omega
      have d1 := decide_eq_true p1
      obtain ⟨ad, ead, hcell⟩ := str_at (fzn_row S.out 5 rfl D l0 HL0.out (by have := HLN.out; omega) HVL.out) i hi
      subst ead
      have HB := Aside0.mk (RD_small HI.out HS.out)
      go_wp2_with (first | (go_at_call 28; (with_reducible refine (drop_m S.out HI.out HB.out.1 HB.out.2 l0[i] (D : Int)).mono ?_); rintro e_ w57 ⟨rfl, wv1, dv1, dvs1, m1, hI1, hS1⟩; have S1 := Aside0.mk hS1; have HI1 := Aside0.mk hI1; clear hI1 hS1))
      go_roundg q1
      case measure => omega
      case rel => exact ⟨i + 1, wv1, dv1, dvs1, m1, wnext i (by have := HLN.out; omega), ⟨by have := KQ.out; omega⟩, ⟨by omega⟩, ⟨HI1.out.same (fun w x => RD_next bs1 D l0 i hi w x)⟩, S1⟩
    · obtain rfl : i = l0.length := by have := IL.out; omega
      have d1 := decide_eq_false (show ¬ ((l0.length : Nat) : Int) < (l0.length : Int) by omega)
      clear hi
      clear k2 hcell hfro IL KQ
      obtain ⟨hcell, hfro, _⟩ := hdr_at S.out 4 rfl D _ HVL.out
      have k2 := blk_cell (S.out.at_box 0 rfl) 2
      simp only [List.getElem?_toArray, List.getElem?_cons_zero, List.getElem?_cons_succ] at k2
      go_upto_region 10 with fail
      refine start_ (n := 9) (S := fun w' => w'.cell? ⟨g, 2, none⟩ = some (.slice (some ⟨gb, 0, none⟩) bvs1.length c1)) (ds := [8]) #[false, false, false, false, false, false, false, false, false] (by kernel_rfl) rfl rfl k2 (fun hHeld => ?_); refine with_tabW se10_tab se10_bits (fun HT_ HW_ => ?_)
      have HBW := Aside0.mk (below_drew (Below.refl wr.heap.size wr))
      generalize wr.drew = W8 at HBW hHeld ⊢
      replace S := Aside0.mk (S.out.step HBW.out)
      have q8 := pw_cell_below HBW.out hcell
      have f8 := frozen_below HBW.out hcell hfro
      refine pure_ (i := 0) (N := some 59) (v := ?_) (a' := ?_) #[true, false, false, false, false, false, false, false, false] rfl rfl (any_of HT_.out (by kernel_rfl)) (fun _ _ _ h => h) (Or.inl ⟨by rfl, ?_⟩) ?_ ?_
      rotate_left
      · intro w'
        go_simp
        with_reducible rfl
      rotate_left
      · simp only [Act.put, List.setIfInBounds_toArray, List.set_cons_zero, List.set_cons_succ, i64_w, i32_w]
        rfl
      refine pure_ (i := 1) (N := some 60) (v := ?_) (a' := ?_) #[true, true, false, false, false, false, false, false, false] rfl rfl (any_of HT_.out (by kernel_rfl)) (fun _ _ _ h => h) (Or.inl ⟨by rfl, ?_⟩) ?_ ?_
      rotate_left
      · intro w'
        go_simp
        with_reducible rfl
      rotate_left
      · simp only [Act.put, List.setIfInBounds_toArray, List.set_cons_zero, List.set_cons_succ, i64_w, i32_w]
        rfl
      refine pure_ (i := 2) (N := some 61) (v := ?_) (a' := ?_) #[true, true, true, false, false, false, false, false, false] rfl rfl (any_of HT_.out (by kernel_rfl)) (fun _ _ _ h => h) (Or.inl ⟨by rfl, ?_⟩) ?_ ?_
      rotate_left
      · intro w'
        go_simp
        with_reducible rfl
      rotate_left
      · simp only [Act.put, List.setIfInBounds_toArray, List.set_cons_zero, List.set_cons_succ, i64_w, i32_w]
        rfl
      refine pure_ (i := 4) (N := some 63) (v := ?_) (a' := ?_) #[true, true, true, false, true, false, false, false, false] rfl rfl (any_of HT_.out (by kernel_rfl)) (fun _ _ _ h => h) (Or.inl ⟨by rfl, ?_⟩) ?_ ?_
      rotate_left
      · intro w'
        go_simp
        with_reducible rfl
      rotate_left
      · simp only [Act.put, List.setIfInBounds_toArray, List.set_cons_zero, List.set_cons_succ, i64_w, i32_w]
        rfl
      refine pure_ (i := 5) (N := some 64) (v := ?_) (a' := ?_) #[true, true, true, false, true, true, false, false, false] rfl rfl (any_of HT_.out (by kernel_rfl)) (fun _ _ _ h => h) (Or.inl ⟨by rfl, ?_⟩) ?_ ?_
      rotate_left
      · intro w'
        go_simp
        with_reducible rfl
      rotate_left
      · simp only [Act.put, List.setIfInBounds_toArray, List.set_cons_zero, List.set_cons_succ, i64_w, i32_w]
        rfl
      refine take_ (i := 3) (N := some 62) (v := ?_) (a' := ?_) #[true, true, true, true, true, true, false, false, false] rfl rfl (take_ofW HT_.out HW_.out (by kernel_rfl)) (fun _ _ _ h => h) (Or.inl ⟨by rfl, ?_⟩) hHeld ?_ ?_
      rotate_left
      · intro w' s0
        go_simp
        with_reducible rfl
      rotate_left
      · simp only [Act.put, List.setIfInBounds_toArray, List.set_cons_zero, List.set_cons_succ, i64_w, i32_w]
        rfl
      refine one_ (i := 6) (N := some 65) #[true, true, true, true, true, true, true, false, false] rfl rfl (one_of HT_.out (by kernel_rfl)) (by decide) (fun K hK => ?_)
      refine goes_ Try.func29 (by kernel_rfl) rfl #[.slice A l.length c] (by rfl) rfl rfl (by (try simp only [List.map_toArray, List.map_cons, List.map_nil]); first | done | rfl) ?_
      with_reducible refine (clone_str A c l W8 (HQ.out.here S.out) HCAP.out (by have := HL.out; omega)).mono ?_
      rintro e w65 ⟨v65, rfl, ho_, hb_⟩
      refine ⟨_, rfl, ?_⟩
      obtain ⟨A65, c65, ev65⟩ := own_slice ho_
      subst ev65
      have HO65 := Aside0.mk ho_
      have HX65 := Aside0.mk hb_
      clear ho_ hb_
      have q9 := pw_cell_below HX65.out q8
      have f9 := frozen_below HX65.out q8 f8
      refine hK.out _ _ (pw_cell_below HX65.out hHeld) (fun hHeld => ?_)
      clear hK K
      refine norm_ (a' := ?_) ?_ ?_
      rotate_left
      · show Act.put _ (some 65) _ = _
        simp only [Act.put, List.setIfInBounds_toArray, List.set_cons_zero, List.set_cons_succ, i64_w, i32_w]
        rfl
      refine pure_ (i := 7) (N := some 66) (v := ?_) (a' := ?_) #[true, true, true, true, true, true, true, true, false] rfl rfl (any_of HT_.out (by kernel_rfl)) (fun _ _ _ h => h) (Or.inl ⟨by rfl, ?_⟩) ?_ ?_
      rotate_left
      · intro w'
        go_simp
        with_reducible rfl
      rotate_left
      · simp only [Act.put, List.setIfInBounds_toArray, List.set_cons_zero, List.set_cons_succ, i64_w, i32_w]
        rfl
      refine last_ (i := 8) (N := none) #[true, true, true, true, true, true, true, true, true] rfl rfl (one_of HT_.out (by kernel_rfl)) (by decide) (fun K hK => ?_)
      go_simp
      refine hK.out _ _ ?_
      clear hK K
      refine done_ (done_of HT_.out (by kernel_rfl)) ?_
      have S9 := fzn_news S.out 5 rfl D HO65.out HX65.out
      replace S := Aside0.mk (show Sep w0 _ (IxL _ g wv dv (.slice (some ⟨gb, 0, none⟩) bvs1.length c1) dvs m (Hdr _ 33 (.slice (some ⟨gb, 0, none⟩) bvs1.length c1) (bvs1.set D (.slice A65 l.length c65)) :: FzN _ (bvs1.set D (.slice A65 l.length c65)) ((bs1.set D l).map pw_strs) :: L)) from S9.hdr_set 4 rfl D (.slice A65 l.length c65))
      replace HI := Aside0.mk (HI.out.same (fun w x => RD_end HL0.out l w x))
      clear S9 k2 hcell hfro q8 f8 q9 f9 HO65 HX65 HBW
      generalize w65.setCell ⟨gb, D, none⟩ (.slice A65 l.length c65) = W9 at S ⊢
      go_upto_region 12 with fail
      go_loopg [69] (l.length + 1) (fun kq v69 w' => ∃ (i : Nat) (wv dv : Value) (dvs : List Value) (m : List (ByteArray × List Int)), v69 = .int .i64 i ∧ Aside0 (kq + i = l.length + 1) ∧ Aside0 (i ≤ l.length) ∧ Aside0 (Inv m (RA bs1 D l i)) ∧ Aside0 (Sep w0 w' (IxL _ g wv dv (.slice (some ⟨gb, 0, none⟩) bvs1.length c1) dvs m (Hdr _ 33 (.slice (some ⟨gb, 0, none⟩) bvs1.length c1) (bvs1.set D (.slice A65 l.length c65)) :: FzN _ (bvs1.set D (.slice A65 l.length c65)) ((bs1.set D l).map pw_strs) :: L))))
      case atStart => exact ⟨0, wv, dv, dvs, m, rfl, ⟨rfl⟩, ⟨Nat.zero_le _⟩, HI, S⟩
      case round =>
        clear S HI
        obtain ⟨i, wv, dv, dvs, m, rfl, KQ, IL, HI, S⟩ := hrel
        cases gk with
        | zero => exact absurd KQ.out (by have := IL.out; omega)
        | succ q1 =>
        by_cases hi : i < l.length
        · have p0 : (0 : Int) ≤ (i : Int) := by omega
          have p1 : (i : Int) < (l.length : Int) := by omega
          have d1 := decide_eq_true p1
          obtain ⟨ad, ead, hcell⟩ := str_at (HQ.out.here S.out) i hi
          subst ead
          have HB := Aside0.mk (RA_small HI.out HS.out HL.out HD1.out)
          go_wp2_with (first | (go_at_call 30; (with_reducible refine (add_m S.out HI.out HB.out.1 HB.out.2 l[i] (D : Int)).mono ?_); rintro e_ w76 ⟨rfl, wv1, dv1, dvs1, m1, hI1, hS1⟩; have S1 := Aside0.mk hS1; have HI1 := Aside0.mk hI1; clear hI1 hS1))
          go_roundg q1
          case measure => omega
          case rel => exact ⟨i + 1, wv1, dv1, dvs1, m1, wnext i (by have := HL.out; omega), ⟨by have := KQ.out; omega⟩, ⟨by omega⟩, ⟨HI1.out.same (fun w x => RA_next bs1 D l i hi w x)⟩, S1⟩
        · obtain rfl : i = l.length := by have := IL.out; omega
          have d1 := decide_eq_false (show ¬ ((l.length : Nat) : Int) < (l.length : Int) by omega)
          clear hi
          go_wp2
          go_ret
          refine ⟨rfl, wv, dv, _, dvs, _, m, ?_, by rw [← HB1.out]; exact S.out⟩
          rw [← HB1.out]
          exact HI.out.same (fun w x => RA_end HD1.out l w x)
end Go.Proofs.Ytpfmebpalejadaa.Hand
end
section
namespace Go.Proofs.Ytpfmebpalejadaa.Plain
set_option linter.unusedVariables false
set_option linter.unusedSimpArgs false
/-- A word begins with another. -/
def begins (a p : ByteArray) : Bool := decide (p.size ≤ a.size) && ((a.extract 0 p.size).toList == p.toList)
theorem toL (a : ByteArray) : a.toList = a.data.toList := ByteArray.toList_eq a
theorem begins_iff (a p : ByteArray) : begins a p = true ↔ p.toList <+: a.toList := by
  unfold begins
  have e : (a.extract 0 p.size).toList = a.toList.take p.size := by
    rw [toL, toL, ByteArray.data_extract, Array.toList_extract]
    simp [List.extract]
  have hn : p.toList.length = p.size := by rw [toL]; rfl
  have ha : a.toList.length = a.size := by rw [toL]; rfl
  rw [Bool.and_eq_true, decide_eq_true_eq, beq_iff_eq, e]
  constructor
  · rintro ⟨_, h⟩
    rw [← h]
    exact List.take_prefix _ _
  · intro h
    refine ⟨by have := h.length_le; omega, ?_⟩
    rw [← hn]
    exact (List.prefix_iff_eq_take.1 h).symm
theorem bl_between : ∀ {p x y : List UInt8}, Op.bytesLess x p = false → Op.bytesLess x y = true → p <+: y → p <+: x
  | [], x, y, _, _, _ => List.nil_prefix
  | c :: p, [], y, h, _, _ => by simp [Op.bytesLess] at h
  | c :: p, a :: x, [], _, h, _ => by simp [Op.bytesLess] at h
  | c :: p, a :: x, b :: y, h1, h2, h3 => by
    obtain ⟨rfl, h3'⟩ := List.cons_prefix_cons.1 h3
    simp only [Op.bytesLess, Bool.or_eq_false_iff, Bool.or_eq_true, Bool.and_eq_true, Bool.and_eq_false_iff, decide_eq_false_iff_not, decide_eq_true_eq, beq_iff_eq, beq_eq_false_iff_ne] at h1 h2
    rcases h2 with h2 | ⟨rfl, h2⟩
    · exact absurd h2 h1.1
    · rcases h1.2 with h4 | h4
      · exact absurd rfl h4
      · exact List.cons_prefix_cons.2 ⟨rfl, bl_between h4 h2 h3'⟩
theorem bl_prefix : ∀ {p y : List UInt8}, p <+: y → Op.bytesLess y p = false
  | [], y, _ => by cases y <;> rfl
  | c :: p, [], h => by simp at h
  | c :: p, b :: y, h => by
    obtain ⟨rfl, h'⟩ := List.cons_prefix_cons.1 h
    have hc : ¬ (c < c) := by simp
    simp [Op.bytesLess, hc, bl_prefix h']
theorem begins_ge {a p : ByteArray} (h : begins a p = true) : wl a p = false := bl_prefix ((begins_iff a p).1 h)
theorem begins_between {x y p : ByteArray} (h1 : wl x p = false) (h2 : wl x y = true) (h3 : begins y p = true) : begins x p = true :=
  (begins_iff x p).2 (bl_between h1 h2 ((begins_iff y p).1 h3))
def wat (ws : List ByteArray) (i : Nat) : ByteArray := ws.getD i ByteArray.empty
theorem wat_at {ws : List ByteArray} {i : Nat} (h : i < ws.length) : wat ws i = ws[i] := by simp [wat, h]
theorem SW_lt {ws : List ByteArray} (h : SW ws) {i j : Nat} (hij : i < j) (hj : j < ws.length) : wl (wat ws i) (wat ws j) = true := by
  rw [wat_at (by omega), wat_at hj]
  exact pw_at h hij (List.getElem?_eq_getElem (by omega)) (List.getElem?_eq_getElem hj)
theorem q1_up {ws : List ByteArray} (h : SW ws) (p : ByteArray) : ∀ i j, i ≤ j → j < ws.length → (!wl (wat ws i) p) = true → (!wl (wat ws j) p) = true := by
  intro i j hij hj h1
  rcases Nat.lt_or_ge i j with hlt | hge
  · have h2 := SW_lt h hlt hj
    cases h3 : wl (wat ws j) p with
    | false => rfl
    | true => rw [wl_trans h2 h3] at h1; cases h1
  · obtain rfl : i = j := by omega
    exact h1
theorem q2_up {ws : List ByteArray} (h : SW ws) (p : ByteArray) (r : Nat) (hr : ∀ j, r ≤ j → j < ws.length → wl (wat ws j) p = false) : ∀ i j, i ≤ j → j < ws.length - r → (!begins (wat ws (r + i)) p) = true → (!begins (wat ws (r + j)) p) = true := by
  intro i j hij hj h1
  rcases Nat.lt_or_ge i j with hlt | hge
  · have h2 := SW_lt h (show r + i < r + j by omega) (show r + j < ws.length by omega)
    cases h3 : begins (wat ws (r + j)) p with
    | false => rfl
    | true => rw [begins_between (hr (r + i) (by omega) (by omega)) h2 h3] at h1; cases h1
  · obtain rfl : i = j := by omega
    exact h1
/-- Where the words that begin with p stand. -/
structure RangeOf (ws : List ByteArray) (p : ByteArray) (a b : Nat) : Prop where
  ab : a ≤ b
  bl : b ≤ ws.length
  lo : ∀ j, j < a → wl (wat ws j) p = true
  ge : ∀ j, a ≤ j → j < ws.length → wl (wat ws j) p = false
  mid : ∀ j, a ≤ j → j < b → begins (wat ws j) p = true
  hi : ∀ j, b ≤ j → j < ws.length → begins (wat ws j) p = false
theorem RangeOf.mk' {ws : List ByteArray} {p : ByteArray} {a r : Nat} (h1 : a ≤ ws.length) (h2 : ∀ j, j < a → (!wl (wat ws j) p) = false) (h3 : ∀ j, a ≤ j → j < ws.length → (!wl (wat ws j) p) = true)
    (h4 : r ≤ ws.length - a) (h5 : ∀ j, j < r → (!begins (wat ws (a + j)) p) = false) (h6 : ∀ j, r ≤ j → j < ws.length - a → (!begins (wat ws (a + j)) p) = true) : RangeOf ws p a (a + r) := by
  refine ⟨by omega, by omega, fun j hj => ?_, fun j hj hl => ?_, fun j hj hb => ?_, fun j hj hl => ?_⟩
  · have := h2 j hj
    simpa using this
  · have := h3 j hj hl
    simpa using this
  · have := h5 (j - a) (by omega)
    rw [show a + (j - a) = j by omega] at this
    simpa using this
  · have := h6 (j - a) (by omega) (by omega)
    rw [show a + (j - a) = j by omega] at this
    simpa using this
theorem RangeOf.begins_at {ws : List ByteArray} {p : ByteArray} {a b : Nat} (h : RangeOf ws p a b) (j : Nat) (hj : j < ws.length) : begins (wat ws j) p = decide (a ≤ j ∧ j < b) := by
  by_cases h1 : a ≤ j
  · by_cases h2 : j < b
    · rw [h.mid j h1 h2, decide_eq_true ⟨h1, h2⟩]
    · rw [h.hi j (by omega) hj, decide_eq_false (by omega)]
  · rw [decide_eq_false (by omega)]
    cases h3 : begins (wat ws j) p with
    | false => rfl
    | true =>
      have := h.lo j (by omega)
      rw [begins_ge h3] at this
      cases this
end Go.Proofs.Ytpfmebpalejadaa.Plain
end
section
namespace Go.Proofs.Ytpfmebpalejadaa.Hand
open Go.Proofs.YtpfmebpalejadaaW Go.RowKit Go.Proofs.YtpfmebpalejadaaW.PrintWords Go.Proofs.YtpfmebpalejadaaW.PrintLast Go.Proofs.YtpfmebpalejadaaW.PrintMore Go.Proofs.YtpfmebpalejadaaW.SepW Go.Proofs.Ytpfmebpalejadaa.PALL Go.Proofs.Ytpfmebpalejadaa.Plain
set_option linter.unusedVariables false
set_option linter.unusedSimpArgs false
theorem add_add (a : Addr) (i j : Nat) : (a.add i).add j = a.add (i + j) := by
  unfold Addr.add
  by_cases hi : i = 0 <;> by_cases hj : j = 0 <;> simp [hi, hj, Nat.add_assoc]
theorem wp_gen {P : Program} {c : Code} {Q : Exit → Act → World → Prop} {a : Act} {w0 w : World} {L : List (Thing w0.heap.size)} (S : Aside0 (Sep w0 w L)) (h : ∀ W, Aside0 (Sep w0 W L) → c.wp P Q a W) : c.wp P Q a w := h w S
theorem drewN_drewN (w : World) (a b : Nat) : (w.drewN a).drewN b = w.drewN (a + b) := by simp [World.drewN, Nat.add_assoc]

set_option maxHeartbeats 8000000 in
set_option maxRecDepth 100000 in
theorem hp42 (a p : ByteArray) (w : World) : Calls Try.prog 42 #[.string a, .string p] w fun e w' => e = .returned (.bool (begins a p)) ∧ w' = w := by
  by_cases h : p.size ≤ a.size
  · have d0 : decide (p.size ≤ a.size) = true := decide_eq_true h
    have d1 : decide ((p.size : Int) ≤ (a.size : Int)) = true := decide_eq_true (by omega)
    have d2 : (p.size : Int) ≤ (a.size : Int) := by omega
    have d3 : (0 : Int) ≤ (p.size : Int) := by omega
    go_enter Try.func42, Try.ntmps42
    go_wp2
    go_ret
    refine ⟨?_, rfl⟩
    unfold begins
    rw [d0]
    rfl
  · have d0 : decide (p.size ≤ a.size) = false := decide_eq_false h
    have d1 : decide ((p.size : Int) ≤ (a.size : Int)) = false := decide_eq_false (by omega)
    go_enter Try.func42, Try.ntmps42
    go_wp2
    go_ret
    refine ⟨?_, rfl⟩
    unfold begins
    rw [d0]
    rfl
set_option maxHeartbeats 8000000 in
set_option maxRecDepth 100000 in
theorem hp34 (a p : ByteArray) (w : World) : Calls Try.prog 34 #[.string a, .string p] w fun e w' => e = .returned (.bool (begins a p)) ∧ w' = w := by
  go_enter Try.func34, Try.ntmps34
  go_wp2_with (first | (go_at_call 42; (with_reducible refine (hp42 a p _).mono ?_); rintro e_ w_ ⟨rfl, rfl⟩))
  go_ret
  exact ⟨rfl, rfl⟩
set_option maxHeartbeats 8000000 in
set_option maxRecDepth 100000 in
theorem pred1 (w : World) (a1 a2 g : Nat) (A : Option Addr) (ad : Addr) (hA : A = some ad) (n c : Nat) (s p : ByteArray) (i : Nat) (k1 : w.cell? ⟨a1, 0, none⟩ = some (.pointer (some ⟨g, 0, none⟩))) (k2 : w.cell? ⟨a2, 0, none⟩ = some (.string p)) (k3 : w.cell? ⟨g, 0, none⟩ = some (.slice A n c)) (hi : i < n) (hc : w.cell? (ad.add i) = some (.string s)) :
    Calls Try.prog 32 #[.int .i64 (i : Int), .pointer (some ⟨a1, 0, none⟩), .pointer (some ⟨a2, 0, none⟩)] w fun e w' => e = .returned (.bool (!wl s p)) ∧ ∃ n, w' = w.drewN n := by
  subst hA
  have d0 : (0 : Int) ≤ (i : Int) := by omega
  have d1 : (i : Int) < (n : Int) := by omega
  have hg := fun W : World => (show (Go.binOp .geq 9 (.string s) (.string p)).run Try.prog W = .ok (.bool (!wl s p)) W from rfl)
  go_enter Try.func32, Try.ntmps32
  go_upto_region 1 with fail
  go_quiet (fail)
  go_wp2
  go_ret
  exact ⟨rfl, _, rfl⟩
set_option maxHeartbeats 8000000 in
set_option maxRecDepth 100000 in
theorem pred2 (w : World) (a1 a2 : Nat) (A : Option Addr) (ad : Addr) (hA : A = some ad) (n c : Nat) (s p : ByteArray) (i : Nat) (k1 : w.cell? ⟨a1, 0, none⟩ = some (.slice A n c)) (k2 : w.cell? ⟨a2, 0, none⟩ = some (.string p)) (hi : i < n) (hc : w.cell? (ad.add i) = some (.string s)) :
    Calls Try.prog 33 #[.int .i64 (i : Int), .pointer (some ⟨a1, 0, none⟩), .pointer (some ⟨a2, 0, none⟩)] w fun e w' => e = .returned (.bool (!begins s p)) ∧ ∃ n, w' = w.drewN n := by
  subst hA
  have d0 : (0 : Int) ≤ (i : Int) := by omega
  have d1 : (i : Int) < (n : Int) := by omega
  go_enter Try.func33, Try.ntmps33
  go_upto_region 1 with fail
  go_quiet ((go_at_call 34; exact Calls.quiet_of ((hp34 s p _).mono (fun _ _ h => ⟨h.1, 0, h.2⟩))))
  go_wp2
  go_ret
  exact ⟨rfl, _, rfl⟩
set_option maxHeartbeats 8000000 in
set_option maxRecDepth 100000 in
theorem search32 (n : Nat) (q : Nat → Bool) (hq : ∀ i j, i ≤ j → j < n → q i = true → q j = true) (b1 b2 : Value) (w : World) (hn : n ≤ 1000000)
    (hc : ∀ i, i < n → ∀ k, Calls Try.prog 32 #[.int .i64 (i : Int), b1, b2] (w.drewN k) fun e w' => e = .returned (.bool (q i)) ∧ ∃ m, w' = (w.drewN k).drewN m) :
    Calls Try.prog 31 #[.int .i64 (n : Int), .func (.func 32) #[] #[b1, b2]] w fun e w' => ∃ r : Nat, e = .returned (.int .i64 (r : Int)) ∧ r ≤ n ∧ (∀ j, j < r → q j = false) ∧ (∀ j, r ≤ j → j < n → q j = true) ∧ ∃ k, w' = w.drewN k := by
  have HC := Aside0.mk hc
  have HQ := Aside0.mk hq
  clear hc hq
  go_enter Try.func31, Try.ntmps31
  go_wp2
  go_loopg [5, 6] (n + 1) (fun kq v5 v6 w' => ∃ (i j m : Nat), v5 = .int .i64 i ∧ v6 = .int .i64 j ∧ w' = w.drewN m ∧ i ≤ j ∧ j ≤ n ∧ Aside0 (j - i < kq) ∧ Aside0 (∀ t, t < i → q t = false) ∧ Aside0 (∀ t, j ≤ t → t < n → q t = true))
  case atStart => exact ⟨0, n, 0, rfl, rfl, rfl, Nat.zero_le _, Nat.le_refl _, ⟨by omega⟩, ⟨fun t h => by omega⟩, ⟨fun t h h2 => by omega⟩⟩
  case round =>
    obtain ⟨i, j, m, rfl, rfl, rfl, hij, hjn, KQ, LO, HI⟩ := hrel
    by_cases hlt : i < j
    · have d0 : decide (i < j) = true := decide_eq_true hlt
      have d1 : (i : Int) < (j : Int) := by omega
      have d2 := decide_eq_true d1
      have hm : wrap64 ((IntKind.u64.wrap (wrap64 ((i : Int) + (j : Int)))) / 2) = (((i + j) / 2 : Nat) : Int) := by rw [mid (i : Int) (j : Int) (by omega) d1 (by omega)]; omega
      have HM := Aside0.mk hm
      clear hm
      go_upto_region 4 with fail
      rw [show ((i : Int) + (j : Int)) / 2 = (((i + j) / 2 : Nat) : Int) by omega]
      obtain ⟨h, hh⟩ : ∃ h, h = (i + j) / 2 := ⟨_, rfl⟩
      rw [← hh]
      have h1 : i ≤ h := by omega
      have h2 : h < j := by omega
      have h3 : h < n := by omega
      clear hh HM
      by_cases hqh : q h = true
      · have HQH := Aside0.mk hqh
        clear hqh
        go_wp2_with (first | (go_at_call 32; have X_ := HC.out h h3 m; rw [HQH.out] at X_; (with_reducible refine X_.mono ?_); clear X_; rintro e_ w_ ⟨rfl, m2, rfl⟩))
        go_roundg (h - i + 1)
        case measure => have := KQ.out; omega
        case rel => exact ⟨i, h, m + m2, rfl, rfl, rfl, h1, by omega, ⟨by omega⟩, LO, ⟨fun t ht1 ht2 => HQ.out h t ht1 ht2 HQH.out⟩⟩
      · have hqh' : q h = false := by simpa using hqh
        have HQH := Aside0.mk hqh'
        clear hqh hqh'
        go_wp2_with (first | (go_at_call 32; have X_ := HC.out h h3 m; rw [HQH.out] at X_; (with_reducible refine X_.mono ?_); clear X_; rintro e_ w_ ⟨rfl, m2, rfl⟩))
        go_roundg (j - (h + 1) + 1)
        case measure => have := KQ.out; omega
        case rel => exact ⟨h + 1, j, m + m2, rfl, rfl, rfl, by omega, hjn, ⟨by omega⟩, ⟨fun t ht => by
          cases hqt : q t with
          | false => rfl
          | true => exact absurd (HQ.out t h (by omega) h3 hqt) (by rw [HQH.out]; decide)⟩, HI⟩
    · obtain rfl : i = j := by omega
      have d0 : decide (i < i) = false := decide_eq_false (by omega)
      have d2 : decide ((i : Int) < (i : Int)) = false := decide_eq_false (by omega)
      go_wp2
      go_ret
      exact ⟨i, rfl, hjn, LO.out, HI.out, m, rfl⟩
set_option maxHeartbeats 8000000 in
set_option maxRecDepth 100000 in
theorem search33 (n : Nat) (q : Nat → Bool) (hq : ∀ i j, i ≤ j → j < n → q i = true → q j = true) (b1 b2 : Value) (w : World) (hn : n ≤ 1000000)
    (hc : ∀ i, i < n → ∀ k, Calls Try.prog 33 #[.int .i64 (i : Int), b1, b2] (w.drewN k) fun e w' => e = .returned (.bool (q i)) ∧ ∃ m, w' = (w.drewN k).drewN m) :
    Calls Try.prog 31 #[.int .i64 (n : Int), .func (.func 33) #[] #[b1, b2]] w fun e w' => ∃ r : Nat, e = .returned (.int .i64 (r : Int)) ∧ r ≤ n ∧ (∀ j, j < r → q j = false) ∧ (∀ j, r ≤ j → j < n → q j = true) ∧ ∃ k, w' = w.drewN k := by
  have HC := Aside0.mk hc
  have HQ := Aside0.mk hq
  clear hc hq
  go_enter Try.func31, Try.ntmps31
  go_wp2
  go_loopg [5, 6] (n + 1) (fun kq v5 v6 w' => ∃ (i j m : Nat), v5 = .int .i64 i ∧ v6 = .int .i64 j ∧ w' = w.drewN m ∧ i ≤ j ∧ j ≤ n ∧ Aside0 (j - i < kq) ∧ Aside0 (∀ t, t < i → q t = false) ∧ Aside0 (∀ t, j ≤ t → t < n → q t = true))
  case atStart => exact ⟨0, n, 0, rfl, rfl, rfl, Nat.zero_le _, Nat.le_refl _, ⟨by omega⟩, ⟨fun t h => by omega⟩, ⟨fun t h h2 => by omega⟩⟩
  case round =>
    obtain ⟨i, j, m, rfl, rfl, rfl, hij, hjn, KQ, LO, HI⟩ := hrel
    by_cases hlt : i < j
    · have d0 : decide (i < j) = true := decide_eq_true hlt
      have d1 : (i : Int) < (j : Int) := by omega
      have d2 := decide_eq_true d1
      have hm : wrap64 ((IntKind.u64.wrap (wrap64 ((i : Int) + (j : Int)))) / 2) = (((i + j) / 2 : Nat) : Int) := by rw [mid (i : Int) (j : Int) (by omega) d1 (by omega)]; omega
      have HM := Aside0.mk hm
      clear hm
      go_upto_region 4 with fail
      rw [show ((i : Int) + (j : Int)) / 2 = (((i + j) / 2 : Nat) : Int) by omega]
      obtain ⟨h, hh⟩ : ∃ h, h = (i + j) / 2 := ⟨_, rfl⟩
      rw [← hh]
      have h1 : i ≤ h := by omega
      have h2 : h < j := by omega
      have h3 : h < n := by omega
      clear hh HM
      by_cases hqh : q h = true
      · have HQH := Aside0.mk hqh
        clear hqh
        go_wp2_with (first | (go_at_call 33; have X_ := HC.out h h3 m; rw [HQH.out] at X_; (with_reducible refine X_.mono ?_); clear X_; rintro e_ w_ ⟨rfl, m2, rfl⟩))
        go_roundg (h - i + 1)
        case measure => have := KQ.out; omega
        case rel => exact ⟨i, h, m + m2, rfl, rfl, rfl, h1, by omega, ⟨by omega⟩, LO, ⟨fun t ht1 ht2 => HQ.out h t ht1 ht2 HQH.out⟩⟩
      · have hqh' : q h = false := by simpa using hqh
        have HQH := Aside0.mk hqh'
        clear hqh hqh'
        go_wp2_with (first | (go_at_call 33; have X_ := HC.out h h3 m; rw [HQH.out] at X_; (with_reducible refine X_.mono ?_); clear X_; rintro e_ w_ ⟨rfl, m2, rfl⟩))
        go_roundg (j - (h + 1) + 1)
        case measure => have := KQ.out; omega
        case rel => exact ⟨h + 1, j, m + m2, rfl, rfl, rfl, by omega, hjn, ⟨by omega⟩, ⟨fun t ht => by
          cases hqt : q t with
          | false => rfl
          | true => exact absurd (HQ.out t h (by omega) h3 hqt) (by rw [HQH.out]; decide)⟩, HI⟩
    · obtain rfl : i = j := by omega
      have d0 : decide (i < i) = false := decide_eq_false (by omega)
      have d2 : decide ((i : Int) < (i : Int)) = false := decide_eq_false (by omega)
      go_wp2
      go_ret
      exact ⟨i, rfl, hjn, LO.out, HI.out, m, rfl⟩
set_option maxHeartbeats 8000000 in
set_option maxRecDepth 100000 in
theorem range_ix {w0 w : World} {L : List (Thing w0.heap.size)} {g : Nat} {dv bv : Value} {dvs : List Value} {m : List (ByteArray × List Int)} (A : Option Addr) (n c : Nat) (p : ByteArray)
    (S : Sep w0 w (IxL _ g (.slice A n c) dv bv dvs m L)) (ws : List ByteArray) (hws : ws = m.map (·.1)) (hn : n = ws.length) (hcap : ws.length ≤ c) (hm : ws.length ≤ 1000000) (hsw : SW ws) (hce : ∀ i (h : i < ws.length), ∃ ad, A = some ad ∧ w.cell? (ad.add i) = some (.string ws[i])) :
    Calls Try.prog 16 #[.pointer (some ⟨g, 0, none⟩), .string p] w fun e w' => ∃ a b : Nat, e = .returned (.tuple #[.int .i64 (a : Int), .int .i64 (b : Int)]) ∧ RangeOf ws p a b ∧ Below w.heap.size w w' := by
  have hmf : ∀ (fn : Fn) (first cap : Array Value) (w : World), (Instr.makeFunc fn first cap).run Try.prog w = .ok (.func fn first cap) w := fun _ _ _ _ => rfl
  have k0 := blk_cell (S.at_box 0 rfl) 0
  simp only [List.getElem?_toArray, List.getElem?_cons_zero, List.getElem?_cons_succ] at k0
  have HSW := Aside0.mk hsw
  have HWL := Aside0.mk hm
  have HCE0 := Aside0.mk hce
  have HWS := Aside0.mk hws
  have HN := Aside0.mk hn
  have HCP := Aside0.mk hcap
  clear S
  have S := Aside0.mk (Sep.start w)
  subst hn
  clear hsw hm hce hws hcap
  go_enter Try.func16, Try.ntmps16
  go_upto_region 3 with fail
  replace S := Aside0.mk ((S.out.alloc #[.pointer (some ⟨g, 0, none⟩)] 26).alloc' #[.string p] 9 (g := w.heap.size + 1) (by simp))
  refine wp_gen S (fun w3 S => ?_)
  have k2_3 := blk_cell (S.out.at_box 1 rfl) 0
  have k3_0 := blk_cell (S.out.at_box 0 rfl) 0
  simp only [List.getElem?_toArray, List.getElem?_cons_zero, List.getElem?_cons_succ] at k2_3 k3_0
  have k0_3 := pw_cell_below S.out.below k0
  have K0 := Aside0.mk k0
  clear k0
  have HCE : Aside0 (∀ i (h : i < ws.length), ∃ ad, A = some ad ∧ w3.cell? (ad.add i) = some (.string ws[i])) := ⟨fun i hi => let ⟨ad, h1, h2⟩ := HCE0.out i hi; ⟨ad, h1, pw_cell_below S.out.below h2⟩⟩
  have K1 := Aside0.mk k2_3
  have K2 := Aside0.mk k3_0
  have K3 := Aside0.mk k0_3
  go_upto_region 4 with (first | (go_at_call 31; have X_ := search32 ws.length (fun i => !wl (wat ws i) p) (q1_up HSW.out p) (.pointer (some ⟨w.heap.size, 0, none⟩)) (.pointer (some ⟨w.heap.size + 1, 0, none⟩)) w3 HWL.out (fun i hi k => let ⟨ad, hA, hcc⟩ := HCE.out i hi; pred1 (w3.drewN k) _ _ g A ad hA ws.length c (wat ws i) p i (pw_cell_below (pw_below_drewN (Below.refl _ _) k) K1.out) (pw_cell_below (pw_below_drewN (Below.refl _ _) k) K2.out) (pw_cell_below (pw_below_drewN (Below.refl _ _) k) K3.out) hi (by rw [wat_at hi]; exact pw_cell_below (pw_below_drewN (Below.refl _ _) k) hcc)); (with_reducible refine X_.mono ?_); clear X_; rintro e_ w15 ⟨r1, rfl, hr1, hl1, hg1, m1, rfl⟩; have HR1 := Aside0.mk hr1; have HL1 := Aside0.mk hl1; have HG1 := Aside0.mk hg1; clear hr1 hl1 hg1) | fail)
  have q0 : (0 : Int) ≤ (r1 : Int) := by omega
  have q1 : (r1 : Int) ≤ (ws.length : Int) := by have := HR1.out; omega
  have q2 : (ws.length : Int) ≤ (c : Int) := by have := HCP.out; omega
  have q3 : (r1 : Int) ≤ (c : Int) := by omega
  have q4 : decide ((0 : Int) ≤ (r1 : Int)) = true := decide_eq_true q0
  replace S := Aside0.mk (S.out.drewN m1)
  refine wp_gen S (fun W4 S => ?_)
  clear k2_3 k3_0 k0_3 K1 K2 K3 HCE
  have k2_4 := blk_cell (S.out.at_box 1 rfl) 0
  simp only [List.getElem?_toArray, List.getElem?_cons_zero, List.getElem?_cons_succ] at k2_4
  have k0_4 := pw_cell_below S.out.below K0.out
  by_cases hcr : c = r1
  · subst hcr
    go_upto_region 5 with (first | ((with_reducible refine gate_dst (N := 6) rfl ?_); refine box_event ?hg (N := 6) ?hd (cs := #[.slice none 0 0]) (t := 33) ?hr ?_; (case hd => rfl); (case hg => rfl); (case hr => first | (go_simp; done) | (go_simp; rfl)); intro g6 hg w6 hbox hb; replace S := Aside0.mk (show Sep _ _ (Box _ g6 33 #[.slice A (ws.length - c) 0] :: _) from (S.out.box hg hbox hb).set 0 rfl 0 (.slice A (ws.length - c) 0)); have z6_0 := blk_cell hbox 0; have y6_0 := blk_frozen hbox 0; simp only [List.getElem?_toArray, List.getElem?_cons_zero, List.getElem?_cons_succ] at z6_0; clear hbox hb hg) | fail)
    refine wp_gen S (fun W6 S => ?_)
    have k6 := blk_cell (S.out.at_box 0 rfl) 0
    have k3 := blk_cell (S.out.at_box 1 rfl) 0
    simp only [List.getElem?_toArray, List.getElem?_cons_zero, List.getElem?_cons_succ] at k6 k3
    have K1 := Aside0.mk k6
    have K2 := Aside0.mk k3
    have HCE : Aside0 (∀ i (h : i < ws.length), ∃ ad, A = some ad ∧ W6.cell? (ad.add i) = some (.string ws[i])) := ⟨fun i hi => let ⟨ad, h1, h2⟩ := HCE0.out i hi; ⟨ad, h1, pw_cell_below S.out.below h2⟩⟩
    go_wp2_with (first | (go_at_call 31; have X_ := search33 (ws.length - c) (fun i => !begins (wat ws (c + i)) p) (q2_up HSW.out p c (fun j h1 h2 => by have := HG1.out j h1 h2; simpa using this)) (.pointer (some ⟨g6, 0, none⟩)) (.pointer (some ⟨w.heap.size + 1, 0, none⟩)) W6 (by have := HWL.out; omega) (fun i hi k => let ⟨ad, hA, hcc⟩ := HCE.out (c + i) (by omega); pred2 (W6.drewN k) _ _ A ad hA (ws.length - c) 0 (wat ws (c + i)) p i (pw_cell_below (pw_below_drewN (Below.refl _ _) k) K1.out) (pw_cell_below (pw_below_drewN (Below.refl _ _) k) K2.out) hi (by have := HCP.out; omega)); (with_reducible refine X_.mono ?_); clear X_; rintro e_ w15 ⟨r2, rfl, hr2, hl2, hg2, m2, rfl⟩; have HR2 := Aside0.mk hr2; have HL2 := Aside0.mk hl2; have HG2 := Aside0.mk hg2; clear hr2 hl2 hg2) | fail)
    go_ret2
    refine ⟨c, c + r2, ?_, RangeOf.mk' HR1.out HL1.out HG1.out HR2.out HL2.out HG2.out, (S.out.drewN m2).below⟩
    rw [show ((c + r2 : Nat) : Int) = wrap64 ((c : Int) + (r2 : Int)) by have h1 := HWL.out; have h2 := HR1.out; have h3 := HR2.out; unfold wrap64; omega]
    rfl
  · have q5 : ¬ (c : Int) = (r1 : Int) := by omega
    go_upto_region 5 with (first | ((with_reducible refine gate_dst (N := 6) rfl ?_); refine box_event ?hg (N := 6) ?hd (cs := #[.slice none 0 0]) (t := 33) ?hr ?_; (case hd => rfl); (case hg => rfl); (case hr => first | (go_simp; done) | (go_simp; rfl)); intro g6 hg w6 hbox hb; replace S := Aside0.mk (show Sep _ _ (Box _ g6 33 #[.slice (Option.map (fun x : Addr => x.add r1) A) (ws.length - r1) (c - r1)] :: _) from (S.out.box hg hbox hb).set 0 rfl 0 (.slice (Option.map (fun x : Addr => x.add r1) A) (ws.length - r1) (c - r1))); have z6_0 := blk_cell hbox 0; have y6_0 := blk_frozen hbox 0; simp only [List.getElem?_toArray, List.getElem?_cons_zero, List.getElem?_cons_succ] at z6_0; clear hbox hb hg) | fail)
    refine wp_gen S (fun W6 S => ?_)
    have k6 := blk_cell (S.out.at_box 0 rfl) 0
    have k3 := blk_cell (S.out.at_box 1 rfl) 0
    simp only [List.getElem?_toArray, List.getElem?_cons_zero, List.getElem?_cons_succ] at k6 k3
    have K1 := Aside0.mk k6
    have K2 := Aside0.mk k3
    have HCE : Aside0 (∀ i (h : i < ws.length), ∃ ad, A = some ad ∧ W6.cell? (ad.add i) = some (.string ws[i])) := ⟨fun i hi => let ⟨ad, h1, h2⟩ := HCE0.out i hi; ⟨ad, h1, pw_cell_below S.out.below h2⟩⟩
    go_wp2_with (first | (go_at_call 31; have X_ := search33 (ws.length - r1) (fun i => !begins (wat ws (r1 + i)) p) (q2_up HSW.out p r1 (fun j h1 h2 => by have := HG1.out j h1 h2; simpa using this)) (.pointer (some ⟨g6, 0, none⟩)) (.pointer (some ⟨w.heap.size + 1, 0, none⟩)) W6 (by have := HWL.out; omega) (fun i hi k => let ⟨ad, hA, hcc⟩ := HCE.out (r1 + i) (by omega); pred2 (W6.drewN k) _ _ (Option.map (fun x : Addr => x.add r1) A) (ad.add r1) (by rw [hA]; rfl) (ws.length - r1) (c - r1) (wat ws (r1 + i)) p i (pw_cell_below (pw_below_drewN (Below.refl _ _) k) K1.out) (pw_cell_below (pw_below_drewN (Below.refl _ _) k) K2.out) hi (by rw [wat_at (show r1 + i < ws.length by omega), add_add]; exact pw_cell_below (pw_below_drewN (Below.refl _ _) k) hcc)); (with_reducible refine X_.mono ?_); clear X_; rintro e_ w15 ⟨r2, rfl, hr2, hl2, hg2, m2, rfl⟩; have HR2 := Aside0.mk hr2; have HL2 := Aside0.mk hl2; have HG2 := Aside0.mk hg2; clear hr2 hl2 hg2) | fail)
    go_ret2
    refine ⟨r1, r1 + r2, ?_, RangeOf.mk' HR1.out HL1.out HG1.out HR2.out HL2.out HG2.out, (S.out.drewN m2).below⟩
    rw [show ((r1 + r2 : Nat) : Int) = wrap64 ((r1 : Int) + (r2 : Int)) by have h1 := HWL.out; have h2 := HR1.out; have h3 := HR2.out; unfold wrap64; omega]
    rfl
end Go.Proofs.Ytpfmebpalejadaa.Hand
end
section
namespace Go.Proofs.Ytpfmebpalejadaa.Hand
open Go.Proofs.YtpfmebpalejadaaW Go.RowKit Go.Proofs.YtpfmebpalejadaaW.PrintWords Go.Proofs.YtpfmebpalejadaaW.PrintLast Go.Proofs.YtpfmebpalejadaaW.PrintMore Go.Proofs.YtpfmebpalejadaaW.SepW Go.Proofs.Ytpfmebpalejadaa.PALL Go.Proofs.Ytpfmebpalejadaa.Plain
set_option linter.unusedVariables false
set_option linter.unusedSimpArgs false

theorem clone_strR (A : Option Addr) (c : Nat) (l : List ByteArray) (w : World) (hC : Kd.string.C w A l.length l) (hc : l.length ≤ c) (hl : l.length ≤ 1000000) : Calls Try.prog 29 #[.slice A l.length c] w fun e w' => ∃ v, e = .returned v ∧ Kd.string.R 9 w' w.heap.size (fun _ => True) v l ∧ Below w.heap.size w w' := by
  cases A with
  | none =>
    obtain rfl := C_none hC
    refine (clone_str_nil c w).mono ?_
    rintro e w' ⟨rfl, rfl⟩
    exact ⟨_, rfl, Kd.R_nil _ _ _ _ _, Below.refl _ _⟩
  | some ad => exact clone_str_some ad c l w hC hc hl
theorem clone_intR (A : Option Addr) (c : Nat) (l : List Int) (w : World) (hC : (Kd.int .i64).C w A l.length l) (hc : l.length ≤ c) (hl : l.length ≤ 1000000) : Calls Try.prog 36 #[.slice A l.length c] w fun e w' => ∃ v, e = .returned v ∧ (Kd.int .i64).R 3 w' w.heap.size (fun _ => True) v l ∧ Below w.heap.size w w' := by
  cases A with
  | none =>
    obtain rfl := C_none hC
    refine (clone_int_nil c w).mono ?_
    rintro e w' ⟨rfl, rfl⟩
    exact ⟨_, rfl, Kd.R_nil _ _ _ _ _, Below.refl _ _⟩
  | some ad => exact clone_int_some ad c l w hC hc hl
/-! The nil index. -/
set_option maxHeartbeats 8000000 in
set_option maxRecDepth 100000 in
theorem nil15 (w : World) : Calls Try.prog 15 #[.pointer none] w fun e w' => e = .returned (.slice none 0 0) ∧ w' = w := by
  go_enter Try.func15, Try.ntmps15
  go_wp2
  go_ret
  exact ⟨rfl, rfl⟩
set_option maxHeartbeats 8000000 in
set_option maxRecDepth 100000 in
theorem nil22 (w : World) : Calls Try.prog 22 #[.pointer none] w fun e w' => e = .returned (.int .i64 0) ∧ w' = w := by
  go_enter Try.func22, Try.ntmps22
  go_wp2
  go_ret
  exact ⟨rfl, rfl⟩
set_option maxHeartbeats 8000000 in
set_option maxRecDepth 100000 in
theorem nil18 (p : ByteArray) (w : World) : Calls Try.prog 18 #[.pointer none, .string p] w fun e w' => e = .returned (.slice none 0 0) ∧ w' = w := by
  go_enter Try.func18, Try.ntmps18
  go_wp2
  go_ret
  exact ⟨rfl, rfl⟩
set_option maxHeartbeats 8000000 in
set_option maxRecDepth 100000 in
theorem nil20 (p : ByteArray) (w : World) : Calls Try.prog 20 #[.pointer none, .string p] w fun e w' => e = .returned (.slice none 0 0) ∧ w' = w := by
  go_enter Try.func20, Try.ntmps20
  go_wp2
  go_ret
  exact ⟨rfl, rfl⟩
set_option maxHeartbeats 8000000 in
set_option maxRecDepth 100000 in
theorem nil14 (d : Int) (v : Value) (w : World) : Calls Try.prog 14 #[.pointer none, .int .i64 d, v] w fun e w' => e = .returned (.bool false) ∧ w' = w := by
  go_enter Try.func14, Try.ntmps14
  go_wp2
  go_ret
  exact ⟨rfl, rfl⟩
set_option maxHeartbeats 8000000 in
set_option maxRecDepth 100000 in
theorem nil16 (p : ByteArray) (w : World) : Calls Try.prog 16 #[.pointer none, .string p] w fun e w' => e = .returned (.tuple #[.int .i64 0, .int .i64 0]) ∧ Below w.heap.size w w' := by
  go_enter Try.func16, Try.ntmps16
  go_wp2
  go_ret2
  exact ⟨rfl, ((Below.refl _ _).alloc (Nat.le_refl _) _).alloc (by simp) _⟩
set_option maxHeartbeats 8000000 in
set_option maxRecDepth 100000 in
theorem words_ix {w0 w : World} {L : List (Thing w0.heap.size)} {g : Nat} {wv dv bv : Value} {dvs : List Value} {m : List (ByteArray × List Int)} (S : Sep w0 w (IxL _ g wv dv bv dvs m L)) (hm : m.length ≤ 1000000) : Calls Try.prog 15 #[.pointer (some ⟨g, 0, none⟩)] w fun e w' => ∃ v, e = .returned v ∧ Kd.string.R 9 w' w.heap.size (fun _ => True) v (m.map (·.1)) ∧ Below w.heap.size w w' := by
  have hl : (m.map (·.1)).length ≤ 1000000 := by rw [List.length_map]; exact hm
  obtain ⟨A, c, rfl, hc, hCE, hC⟩ := fz_strs S 1 rfl hl
  have k0 := blk_cell (S.at_box 0 rfl) 0
  simp only [List.getElem?_toArray, List.getElem?_cons_zero, List.getElem?_cons_succ] at k0
  obtain ⟨ws, hws⟩ : ∃ ws, ws = m.map (·.1) := ⟨_, rfl⟩
  rw [← hws] at hl hc hC k0
  have HC := Aside0.mk hC
  have HL := Aside0.mk hl
  have HCC := Aside0.mk hc
  have HWS := Aside0.mk hws
  clear hl hc hCE hC S hws hm
  go_enter Try.func15, Try.ntmps15
  go_wp2_with (first | (go_at_call 29; have X_ := clone_strR A c ws w HC.out HCC.out HL.out; (with_reducible refine X_.mono ?_); clear X_; rintro e_ w9 ⟨v9, rfl, ho, hb⟩; have HO := Aside0.mk ho; have HB := Aside0.mk hb; clear ho hb) | fail)
  go_ret
  refine ⟨v9, rfl, ?_, HB.out⟩
  rw [← HWS.out]
  exact HO.out
set_option maxHeartbeats 8000000 in
set_option maxRecDepth 100000 in
theorem len_ix {w0 w : World} {L : List (Thing w0.heap.size)} {g : Nat} {wv dv bv : Value} {dvs bvs : List Value} {m : List (ByteArray × List Int)} (S : Sep w0 w (IxL _ g wv dv bv dvs m (Hdr _ 33 bv bvs :: L))) : Calls Try.prog 22 #[.pointer (some ⟨g, 0, none⟩)] w fun e w' => e = .returned (.int .i64 (bvs.length : Int)) ∧ w' = w := by
  obtain ⟨Ab, cb, rfl⟩ := S.hdr_form 4 rfl
  have k2 := blk_cell (S.at_box 0 rfl) 2
  simp only [List.getElem?_toArray, List.getElem?_cons_zero, List.getElem?_cons_succ] at k2
  clear S
  go_enter Try.func22, Try.ntmps22
  go_wp2
  go_ret
  exact ⟨rfl, rfl⟩
set_option maxHeartbeats 8000000 in
set_option maxRecDepth 100000 in
theorem set_no {w0 w : World} {L : List (Thing w0.heap.size)} {g : Nat} {wv dv bv : Value} {dvs bvs : List Value} {m : List (ByteArray × List Int)} (S : Sep w0 w (IxL _ g wv dv bv dvs m (Hdr _ 33 bv bvs :: L))) (d : Int) (v : Value) (hd : d < 0 ∨ (bvs.length : Int) < d) : Calls Try.prog 14 #[.pointer (some ⟨g, 0, none⟩), .int .i64 d, v] w fun e w' => e = .returned (.bool false) ∧ w' = w := by
  obtain ⟨Ab, cb, rfl⟩ := S.hdr_form 4 rfl
  have k2 := blk_cell (S.at_box 0 rfl) 2
  simp only [List.getElem?_toArray, List.getElem?_cons_zero, List.getElem?_cons_succ] at k2
  clear S
  by_cases h1 : d < 0
  · have d0 : decide (d < 0) = true := decide_eq_true h1
    clear hd
    go_enter Try.func14, Try.ntmps14
    go_wp2
    go_ret
    exact ⟨rfl, rfl⟩
  · have d0 : decide (d < 0) = false := decide_eq_false h1
    have d1 : decide ((bvs.length : Int) < d) = true := decide_eq_true (by omega)
    clear hd
    go_enter Try.func14, Try.ntmps14
    go_wp2
    go_ret
    exact ⟨rfl, rfl⟩

/-- The documents of a word. -/
def docsOf (m : List (ByteArray × List Int)) (p : ByteArray) : List Int := if (m.map (·.1))[lbW (m.map (·.1)) p]? = some p then ((m.map (·.2))[lbW (m.map (·.1)) p]?).getD [] else []
set_option maxHeartbeats 8000000 in
set_option maxRecDepth 100000 in
theorem word_ix {w0 w : World} {L : List (Thing w0.heap.size)} {g : Nat} {wv dv bv : Value} {dvs : List Value} {m : List (ByteArray × List Int)} (S : Sep w0 w (IxL _ g wv dv bv dvs m L)) (hm : m.length ≤ 1000000) (hd : ∀ p ∈ m, p.2.length ≤ 1000000) (hsw : SW (m.map (·.1))) (p : ByteArray) : Calls Try.prog 18 #[.pointer (some ⟨g, 0, none⟩), .string p] w fun e w' => ∃ v, e = .returned v ∧ (Kd.int .i64).R 3 w' w.heap.size (fun _ => True) v (docsOf m p) ∧ Below w.heap.size w w' := by
  have hl : (m.map (·.1)).length ≤ 1000000 := by rw [List.length_map]; exact hm
  have hu := Try.underlying61
  obtain ⟨k, hk⟩ := bs_s (m.map (·.1)) p hsw hl
  obtain ⟨A, c, rfl, hc, hCE, hC⟩ := fz_strs S 1 rfl hl
  have k0 := blk_cell (S.at_box 0 rfl) 0
  have k1 := blk_cell (S.at_box 0 rfl) 1
  simp only [List.getElem?_toArray, List.getElem?_cons_zero, List.getElem?_cons_succ] at k0 k1
  by_cases hf : (m.map (·.1))[lbW (m.map (·.1)) p]? = some p
  · rw [decide_eq_true hf] at hk
    obtain ⟨d, hmd⟩ := found_at hf
    have hdl := hd _ (List.mem_of_getElem? hmd)
    have hsd := snd_at hmd
    have hdo : docsOf m p = d := by unfold docsOf; rw [if_pos hf, hsd]; rfl
    rw [hdo]
    obtain ⟨Ai, ci, hvi, hci, hCEi, hCi⟩ := fzn_ints S 3 rfl (lbW (m.map (·.1)) p) d hsd hdl
    obtain ⟨gd, cd, rfl, hcd, hcell, hfro, hCEd⟩ := hd_at S 2 rfl _ hvi
    obtain ⟨i, hi⟩ : ∃ i, i = lbW (m.map (·.1)) p := ⟨_, rfl⟩
    rw [← hi] at hk hcell hvi
    have hil := (List.getElem?_eq_some_iff.1 hvi).1
    obtain ⟨ws, hws⟩ : ∃ ws, ws = m.map (·.1) := ⟨_, rfl⟩
    rw [← hws] at hl hc hC k0 hk
    have p0 : (0 : Int) ≤ (i : Int) := by omega
    have p1 : (i : Int) < (dvs.length : Int) := by omega
    have HC := Aside0.mk hC
    have HCC := Aside0.mk hc
    have HB := Aside0.mk hk
    have HCi := Aside0.mk hCi
    have HCCi := Aside0.mk hci
    have HDL := Aside0.mk hdl
    clear hl hc hCE hC S hws hm hd hsw hf hmd hsd hdo hvi hci hCEi hCi hcd hfro hCEd hi hk hdl
    go_enter Try.func18, Try.ntmps18
    go_wp2_with (first | (go_at_call 35; have X_ := bs_str k ws p _ _ A c w HC.out HCC.out HB.out; (with_reducible refine X_.mono ?_); clear X_; rintro e_ w_ ⟨rfl, n1, rfl⟩) | (go_at_call 36; have X_ := clone_intR Ai ci d (w.drewN n1) (Kd.C_below HCi.out (pw_below_drewN (Below.refl _ _) n1)) HCCi.out HDL.out; (with_reducible refine X_.mono ?_); clear X_; rintro e_ w9 ⟨v9, rfl, ho, hb⟩; have HO := Aside0.mk ho; have HBB := Aside0.mk (below_step (pw_below_drewN (Below.refl _ _) n1) hb); clear ho hb) | fail)
    go_ret
    exact ⟨v9, rfl, HO.out, HBB.out⟩
  · rw [decide_eq_false hf] at hk
    have hdo : docsOf m p = [] := by unfold docsOf; rw [if_neg hf]
    rw [hdo]
    obtain ⟨i, hi⟩ : ∃ i, i = lbW (m.map (·.1)) p := ⟨_, rfl⟩
    rw [← hi] at hk
    obtain ⟨ws, hws⟩ : ∃ ws, ws = m.map (·.1) := ⟨_, rfl⟩
    rw [← hws] at hl hc hC k0 hk
    have HC := Aside0.mk hC
    have HCC := Aside0.mk hc
    have HB := Aside0.mk hk
    clear hl hc hCE hC S hws hm hd hsw hf hdo hi hk
    go_enter Try.func18, Try.ntmps18
    go_wp2_with (first | (go_at_call 35; have X_ := bs_str k ws p _ _ A c w HC.out HCC.out HB.out; (with_reducible refine X_.mono ?_); clear X_; rintro e_ w_ ⟨rfl, n1, rfl⟩) | fail)
    go_ret
    exact ⟨_, rfl, Kd.R_nil _ _ _ _ _, pw_below_drewN (Below.refl _ _) n1⟩

/-- Rows of words, by their headers. -/
structure DocsIn (w0 : World) (L : List (Thing w0.heap.size)) (A : Option Addr) (bs : List (List ByteArray)) (vs : List Value) : Prop where
  cell : ∀ (w' : World) (M : List (Thing w0.heap.size)), Sep w0 w' (M ++ L) → ∀ i v, vs[i]? = some v → ∃ ad, A = some ad ∧ w'.cell? (ad.add i) = some v
  row : ∀ (i : Nat) (l : List ByteArray), bs[i]? = some l → ∃ (Ai : Option Addr) (ci : Nat), vs[i]? = some (Value.slice Ai l.length ci) ∧ l.length ≤ ci ∧ RowIn w0 L Ai l
theorem Small.take {bs : List (List ByteArray)} (h : Small bs) (i : Nat) : Small (bs.take i) := ⟨Nat.le_trans (List.length_take_le' _ _) h.1, fun l hl => h.2 l (List.mem_of_mem_take hl)⟩
theorem take_grow {bs : List (List ByteArray)} {i : Nat} (hi : i < bs.length) : grow (bs.take i) i = bs.take i ++ [[]] := by
  unfold grow
  rw [if_pos (by rw [List.length_take]; omega)]
theorem take_set {bs : List (List ByteArray)} {i : Nat} (hi : i < bs.length) : (grow (bs.take i) i).set i bs[i] = bs.take (i + 1) := by
  rw [take_grow hi, List.set_append_right _ _ (by rw [List.length_take]; omega), List.length_take, Nat.min_eq_left (by omega), Nat.sub_self, List.take_add_one, List.getElem?_eq_getElem hi]
  rfl
theorem small_grow {bs : List (List ByteArray)} (h : Small bs) {i : Nat} (hi : i < bs.length) : Small (grow (bs.take i) i) := by
  rw [take_grow hi]
  refine ⟨by rw [List.length_append, List.length_take]; have := h.1; simp; omega, fun l hl => ?_⟩
  rcases List.mem_append.1 hl with hl | hl
  · exact h.2 l (List.mem_of_mem_take hl)
  · rw [List.mem_singleton.1 hl]; simp
theorem ix_start {w0 w : World} {L : List (Thing w0.heap.size)} (S : Sep w0 w L) : Sep w0 (w.alloc (.cells #[.slice none 0 0, .slice none 0 0, .slice none 0 0] 56 (0, 0))) (IxL _ w.heap.size (.slice none 0 0) (.slice none 0 0) (.slice none 0 0) [] [] (Hdr _ 33 (.slice none 0 0) [] :: FzN _ [] (([] : List (List ByteArray)).map pw_strs) :: L)) := by
  have hb := Below.refl w.heap.size w
  have S1 := S.new hb (i := FzN _ [] (([] : List (List ByteArray)).map pw_strs)) ⟨rfl, fun i v xs h => by simp at h⟩
  have S2 := S1.hdr_nil 33
  have S3 := S2.new hb (i := FzN _ [] ((([] : List (ByteArray × List Int)).map (·.2)).map (nums .i64))) ⟨rfl, fun i v xs h => by simp at h⟩
  have S4 := S3.new hb (i := Hd _ 43 (.slice none 0 0) []) ⟨fun u h => by simp at h, none, 0, rfl, Nat.le_refl _, fun h => absurd h (Nat.lt_irrefl 0)⟩
  have S5 := S4.new hb (i := Fz _ (.slice none 0 0) (pw_strs [])) (show FRow w (fun k => w.heap.size ≤ k ∧ w0.heap.size ≤ k) (.slice none 0 0) [] from FRow.nil _ _)
  exact S5.alloc _ 56
set_option maxHeartbeats 8000000 in
set_option maxRecDepth 100000 in
theorem new_ix {w0 w : World} {L : List (Thing w0.heap.size)} (S : Sep w0 w L) (A : Option Addr) (c : Nat) (bs : List (List ByteArray)) (vs : List Value) (D : DocsIn w0 L A bs vs) (hs : Small bs) :
    Calls Try.prog 11 #[.slice A bs.length c] w fun e w' => ∃ g wv dv bv dvs bvs m, e = .returned (.pointer (some ⟨g, 0, none⟩)) ∧ Inv m (RB bs) ∧ Sep w0 w' (IxL _ g wv dv bv dvs m (Hdr _ 33 bv bvs :: FzN _ bvs (bs.map pw_strs) :: L)) := by
  have hu56 := Try.underlying56
  have S1 := Aside0.mk (ix_start S)
  have HD := Aside0.mk D
  have HS := Aside0.mk hs
  have hbl : bs.length ≤ 100 := hs.1
  clear S D hs
  go_enter Try.func11, Try.ntmps11
  go_upto_region 3 with fail
  go_loopg [10] (bs.length + 1) (fun kq v10 w' => ∃ (i : Nat) (wv dv bv : Value) (dvs bvs : List Value) (m : List (ByteArray × List Int)), v10 = .int .i64 i ∧ Aside0 (kq + i = bs.length + 1) ∧ Aside0 (i ≤ bs.length) ∧ Aside0 (Inv m (RB (bs.take i))) ∧ Aside0 (Sep w0 w' (IxL _ w.heap.size wv dv bv dvs m (Hdr _ 33 bv bvs :: FzN _ bvs ((bs.take i).map pw_strs) :: L))))
  case atStart => exact ⟨0, _, _, _, _, _, [], rfl, ⟨rfl⟩, ⟨Nat.zero_le _⟩, ⟨Inv.nil.same (fun w x => ⟨False.elim, RB_nil w x⟩)⟩, S1⟩
  case round =>
    clear S1
    obtain ⟨i, wv, dv, bv, dvs, bvs, m, rfl, KQ, IL, HI, S⟩ := hrel
    cases gk with
    | zero => exact absurd KQ.out (by have := IL.out; omega)
    | succ q1 =>
    by_cases hi : i < bs.length
    · have p0 : (0 : Int) ≤ (i : Int) := by omega
      have p1 : (i : Int) < (bs.length : Int) := by omega
      have d1 := decide_eq_true p1
      obtain ⟨Ai, ci, hv, hci, hrow⟩ := HD.out.row i bs[i] (List.getElem?_eq_getElem hi)
      obtain ⟨ad, ead, hcell⟩ := HD.out.cell wr [_, _, _, _, _, _] S.out i _ hv
      subst ead
      have HR := Aside0.mk hrow
      have HCI := Aside0.mk hci
      have HTS := Aside0.mk (take_set hi)
      have HLI := Aside0.mk (HS.out.2 bs[i] (List.getElem_mem hi))
      have HIT : Aside0 (i ≤ (bs.take i).length) := ⟨by rw [List.length_take]; omega⟩
      have HSG := Aside0.mk (small_grow HS.out hi)
      obtain ⟨l, hl⟩ : ∃ l, l = bs[i] := ⟨_, rfl⟩
      rw [← hl] at HTS HLI HR HCI hcell
      clear hv hrow hci hl
      go_wp2_with (first | (go_at_call 14; have X_ := set_yes S.out HI.out i HIT.out HSG.out Ai ci l HR.out HCI.out HLI.out; (with_reducible refine X_.mono ?_); clear X_; rintro e_ w18 ⟨rfl, wv1, dv1, bv1, dvs1, bvs1, m1, hI1, hS1⟩; rw [HTS.out] at hI1 hS1; have S1 := Aside0.mk hS1; have HI1 := Aside0.mk hI1; clear hI1 hS1) | fail)
      go_roundg q1
      case measure => omega
      case rel => exact ⟨i + 1, wv1, dv1, bv1, dvs1, bvs1, m1, rfl, ⟨by have := KQ.out; omega⟩, ⟨by omega⟩, HI1, S1⟩
    · obtain rfl : i = bs.length := by have := IL.out; omega
      have d1 := decide_eq_false (show ¬ ((bs.length : Nat) : Int) < (bs.length : Int) by omega)
      clear hi
      go_wp2
      go_ret
      rw [List.take_length] at HI S
      exact ⟨w.heap.size, wv, dv, bv, dvs, bvs, m, rfl, HI.out, S.out⟩
end Go.Proofs.Ytpfmebpalejadaa.Hand
end
section
namespace Go.Proofs.Ytpfmebpalejadaa.Of
open Go.Proofs.YtpfmebpalejadaaW Go.RowKit Go.Proofs.YtpfmebpalejadaaW.PrintWords Go.Proofs.YtpfmebpalejadaaW.PrintLast Go.Proofs.YtpfmebpalejadaaW.PrintMore
set_option linter.unusedVariables false
set_option linter.unusedSimpArgs false

/-- A row of whole numbers of the call's own, by its cells. -/
abbrev OwnI (w : World) (base : Nat) (v : Value) (xs : List Int) : Prop := w.ownsRow base 3 1 v xs.length (xs.map (Value.int .i64))
theorem R_of_own {w : World} {base : Nat} {v : Value} {xs : List Int} (h : OwnI w base v xs) : Kd.R (Kd.int .i64) 3 w base (fun _ => True) v xs :=
  ⟨fun _ _ => trivial, _, h, by simp [Kd.int, Kd.scalar], fun j p hj => by
    obtain ⟨h7, rfl⟩ := List.getElem?_eq_some_iff.1 hj
    show ((xs.map (Value.int .i64)).drop (j * 1)).take 1 = [Value.int .i64 xs[j]]
    rw [Nat.mul_one, List.drop_eq_getElem_cons (by rw [List.length_map]; exact h7)]
    simp⟩
theorem own_of_R {w : World} {base : Nat} {ok : Nat → Prop} {v : Value} {xs : List Int} (h : Kd.R (Kd.int .i64) 3 w base ok v xs) : OwnI w base v xs := by
  obtain ⟨_, inner, ho, hl, hr⟩ := h
  have hl' : inner.length = xs.length := by simpa [Kd.int, Kd.scalar] using hl
  have : inner = xs.map (Value.int .i64) := by
    apply List.ext_getElem
    · simpa using hl'
    · intro j h1 h2
      have hj : j < xs.length := by simpa using h2
      have e : (inner.drop (j * 1)).take 1 = [Value.int .i64 xs[j]] := hr j xs[j] (List.getElem?_eq_getElem hj)
      rw [Nat.mul_one, List.drop_eq_getElem_cons h1, List.take_succ_cons, List.take_zero] at e
      simp only [List.getElem_map]
      exact (List.cons.inj e).1
  rw [OwnI, ← this]
  exact ho
theorem own_form {w : World} {base n : Nat} {v : Value} {xs : List Value} (h : w.ownsRow base 3 1 v n xs) : ∃ A c, v = .slice A n c := own_slice h
theorem own_step {w w1 : World} {base : Nat} {v : Value} {xs : List Int} (h : OwnI w base v xs) (hb : Below w.heap.size w w1) : OwnI w1 base v xs := own_move h (fun k hk => hb.block k (own_lt h k hk))
theorem put_heap {w : World} {g e : Nat} {cur : Array Value} (h : w.heap[g]? = some (.cells cur e (0, 0))) (q : Nat) (ds : Array Int) (os : Array Obj) :
    (Go.Sort.grow (Go.Sort.putRow (Value.int .i64) (Go.Sort.ahead w q) g 0 ds) os).heap[g]? = some (.cells (Go.Sort.putCells (Value.int .i64) 0 ds cur) e (0, 0)) := by
  have hg : g < w.heap.size := (Array.getElem?_eq_some_iff.1 h).1
  show (w.heap.modify g (Go.Sort.onCells (Go.Sort.putCells (Value.int .i64) 0 ds)) ++ os)[g]? = _
  rw [Array.getElem?_append_left (by simpa using hg), Array.getElem?_modify, if_pos rfl, h]
  rfl
theorem put_below {w : World} {base g : Nat} (hb : base ≤ g) (q : Nat) (ds : Array Int) (os : Array Obj) (hg : g < w.heap.size) :
    Below base w (Go.Sort.grow (Go.Sort.putRow (Value.int .i64) (Go.Sort.ahead w q) g 0 ds) os) := by
  refine ⟨rfl, rfl, rfl, by simp, fun k hk => ?_⟩
  show (w.heap.modify g (Go.Sort.onCells (Go.Sort.putCells (Value.int .i64) 0 ds)) ++ os)[k]? = _
  rw [Array.getElem?_append_left (by simp; omega), Array.getElem?_modify, if_neg (by omega)]
theorem putCells_take (ds : List Int) (cur : Array Value) (m : Nat) (hm : m ≤ ds.length) (hc : ds.length ≤ cur.size) : (Go.Sort.putCells (Value.int .i64) 0 ds.toArray cur).toList.take m = (ds.take m).map (Value.int .i64) := by
  apply List.ext_getElem
  · simp [Go.Sort.putCells]; omega
  · intro i h1 h2
    have hi : i < m := by simp at h1; omega
    have hd : i < ds.length := by omega
    simp [Go.Sort.putCells, hd, getElem!_pos]
theorem own_put {w : World} {base g n cap : Nat} {xs : List Value} {ds : List Int} (h : w.ownsRow base 3 1 (.slice (some ⟨g, 0, none⟩) n cap) n xs) (hd : ds.length = n) (m : Nat) (hm : m ≤ n) (q : Nat) (os : Array Obj) :
    OwnI (Go.Sort.grow (Go.Sort.putRow (Value.int .i64) (Go.Sort.ahead w q) g 0 ds.toArray) os) base (.slice (some ⟨g, 0, none⟩) m cap) (ds.take m) ∧ Below base w (Go.Sort.grow (Go.Sort.putRow (Value.int .i64) (Go.Sort.ahead w q) g 0 ds.toArray) os) := by
  rcases h.2 with ⟨h1, _⟩ | ⟨g', cap', cur, h1, h2, h3, h4, h5, h6, _⟩
  · cases h1
  · injection h1 with h1 _ h7
    injection h1 with h1
    injection h1 with h1
    subst h1 h7
    have hg : g < w.heap.size := (Array.getElem?_eq_some_iff.1 h3).1
    have hl : (ds.take m).length = m := by simp; omega
    refine ⟨⟨by simp, .inr ⟨g, cap, _, by rw [hl], h2, put_heap h3 q _ os, by omega, h5, by simpa [Go.Sort.putCells] using h6, ?_⟩⟩, put_below h2 q _ os hg⟩
    rw [hl, Nat.mul_one]
    exact putCells_take ds cur m (by omega) (by omega)
theorem own_holds {w : World} {base g n cap : Nat} {zs : List Int} (h : w.ownsRow base 3 1 (.slice (some ⟨g, 0, none⟩) n cap) n (zs.map (Value.int .i64))) : Go.Sort.Holds (Value.int .i64) w g 0 zs.toArray ∧ g < w.heap.size ∧ n ≤ cap ∧ n ≤ 9223372036854775807 := by
  have hn : zs.length = n := by simpa using h.1
  rcases h.2 with ⟨h1, _⟩ | ⟨g', cap', cur, h1, h2, h3, h4, h5, h6, h7⟩
  · cases h1
  · injection h1 with h1 _ h8
    injection h1 with h1
    injection h1 with h1
    subst h1 h8
    have hg : g < w.heap.size := (Array.getElem?_eq_some_iff.1 h3).1
    refine ⟨fun j hj => ⟨?_, ?_⟩, hg, h4, by unfold maxLen at h5; omega⟩
    · have hj' : j < zs.length := by simpa using hj
      have e := congrArg (·[j]?) h7
      simp [List.getElem?_take, hn ▸ hj', hj'] at e
      rw [World.cell?, h3]
      simp [e, getElem!_pos, hj']
    · rw [World.frozen?, h3]
      simp
theorem own_shape {w : World} {base n : Nat} {v : Value} {xs : List Value} (h : w.ownsRow base 3 1 v n xs) : (v = .slice none 0 0 ∧ n = 0) ∨ ∃ g cap, v = .slice (some ⟨g, 0, none⟩) n cap := by
  rcases h.2 with ⟨h1, h2⟩ | ⟨g, cap, cur, h1, _⟩
  · exact .inl ⟨h1, h2⟩
  · exact .inr ⟨g, cap, h1⟩
theorem clone_calls (A : Option Addr) (c : Nat) (l : List Int) (w : World) (hr : Kd.C (Kd.int .i64) w A l.length l) (hl : l.length ≤ 4398046511104) :
    Calls Try.prog 36 #[.slice A l.length c] w fun e w' => ∃ v, e = .returned v ∧ OwnI w' w.heap.size v l ∧ Below w.heap.size w w' := by
  by_cases h0 : l.length = 0
  · have hl0 : l = [] := List.length_eq_zero_iff.1 h0
    subst hl0
    cases A with
    | none => exact (Try.slices_Clone_int_nil _ _ w).mono (by rintro e w' ⟨rfl, rfl⟩; exact ⟨_, rfl, own_nil _ _ _ _, Below.refl _ _⟩)
    | some a => exact (Try.slices_Clone_int_zero a c w).mono (by rintro e w' ⟨v, rfl, ho, _, hb⟩; exact ⟨_, rfl, ho, hb⟩)
  · obtain ⟨ad, e, hc⟩ := hr.2.2 (by omega)
    have cell : ∀ j (hj : j < l.length), w.cell? (ad.add j) = some (.int .i64 l[j]) := fun j hj => by
      obtain ⟨cs, _, h2, h3⟩ := hc j l[j] (List.getElem?_eq_getElem hj)
      have h2 : cs = [.int .i64 l[j]] := h2
      subst h2
      have := h3 0 _ rfl
      simpa [Kd.int, Kd.scalar] using this
    have hs : ad.spot = none := by
      have h1 := cell 0 (by omega)
      rw [World.cell?] at h1
      cases hh : ad.spot with
      | none => rfl
      | some s =>
        have : (ad.add 0).spot.isSome = true := by simp [Addr.add, hh]
        rw [this] at h1
        split at h1 <;> simp at h1
    obtain ⟨b, off, sp⟩ := ad
    subst hs e
    refine (Try.slices_Clone_int b off l.length c l w (by omega) (by omega) (fun j hj => ?_)).mono ?_
    · have := cell j hj
      have e : (if j = 0 then ({ block := b, off := off } : Addr) else { block := b, off := off + j }) = { block := b, off := off + j } := by
        split
        · rename_i h; rw [h]; rfl
        · rfl
      simp [Addr.add] at this
      rw [e] at this
      simpa [hj] using this
    · rintro e w' ⟨v, rfl, ho, _, hb⟩
      exact ⟨_, rfl, by simpa using ho, hb⟩
def slices_Clone_int_int.f (l0 : List Int) : Option (List Int) := if l0.length ≤ 4398046511104 then some l0 else none
theorem slices_Clone_int_int.calls (A0 : Option Addr) (c0 : Nat) (l0 : List Int) (r : List Int) (w : World) (hr0 : Kd.C (Kd.int .i64) w A0 l0.length l0) (hc0 : l0.length ≤ c0) (h : slices_Clone_int_int.f l0 = some r) :
    Calls Try.prog 36 #[.slice A0 l0.length c0] w fun e w' => ∃ v0_ : Value, e = .returned (v0_) ∧ Kd.R (Kd.int .i64) 3 w' w.heap.size (fun _ => True) v0_ r ∧ Below w.heap.size w w' := by
  unfold slices_Clone_int_int.f at h
  split at h
  case isFalse => exact absurd h (by simp)
  case isTrue hl =>
  obtain rfl := Option.some.inj h
  exact (clone_calls A0 c0 l0 w hr0 hl).mono (by rintro e w' ⟨v, rfl, ho, hb⟩; exact ⟨_, rfl, R_of_own ho, hb⟩)

/-- The sorted list. -/
abbrev sortL (l : List Int) : List Int := l.mergeSort fun x y => decide (x ≤ y)
theorem sort_calls {base : Nat} {v : Value} {l : List Int} {w : World} (h : OwnI w base v l) (hl : l.length ≤ 4398046511104) :
    Calls Try.prog 45 #[v] w fun e w' => e = .returned (.tuple #[]) ∧ OwnI w' base v (sortL l) ∧ Below base w w' := by
  have hs : (sortL l).length = l.length := List.length_mergeSort l
  rcases own_shape h with ⟨rfl, h0⟩ | ⟨g, cap, rfl⟩
  · have hl0 : l = [] := List.length_eq_zero_iff.1 h0
    subst hl0
    exact (Try.slices_Sort_int_none none 0 w).mono (by rintro e w' ⟨rfl, rfl⟩; exact ⟨rfl, by rw [show sortL [] = [] from List.mergeSort_nil]; exact h, Below.refl _ _⟩)
  · obtain ⟨hh, hg, hc, _⟩ := own_holds h
    refine (Try.slices_Sort_int g 0 cap l w hh hg (by omega)).mono ?_
    rintro e w' ⟨rfl, q, os, rfl⟩
    obtain ⟨h1, h2⟩ := own_put h hs l.length (Nat.le_refl _) q os
    rw [List.take_of_length_le (by omega)] at h1
    exact ⟨rfl, h1, h2⟩
theorem compact_length (l : List Int) : (Lib.compact l).length ≤ l.length := by
  have := List.length_filter_le (Lib.keeps l.toArray) (List.range l.length)
  simpa [Lib.compact, Lib.compactUpTo] using this
theorem compact_calls {base : Nat} {v : Value} {l : List Int} {w : World} (h : OwnI w base v l) :
    Calls Try.prog 46 #[v] w fun e w' => ∃ v', e = .returned v' ∧ OwnI w' base v' (Lib.compact l) ∧ Below base w w' := by
  have hs := compact_length l
  rcases own_shape h with ⟨rfl, h0⟩ | ⟨g, cap, rfl⟩
  · have hl0 : l = [] := List.length_eq_zero_iff.1 h0
    subst hl0
    exact (Try.slices_Compact_int_empty none 0 w).mono (by rintro e w' ⟨rfl, rfl⟩; exact ⟨_, rfl, own_nil _ _ _ _, Below.refl _ _⟩)
  · obtain ⟨hh, hg, hc, hm⟩ := own_holds h
    refine (Try.slices_Compact_int g 0 cap l w hh hm hc).mono ?_
    rintro e w' ⟨rfl, q, rfl⟩
    obtain ⟨h1, h2⟩ := own_put h (ds := Lib.compact l ++ List.replicate (l.length - (Lib.compact l).length) 0) (by simp; omega) (Lib.compact l).length hs q #[]
    rw [List.take_left, Go.Sort.grow_empty] at h1
    rw [Go.Sort.grow_empty] at h2
    exact ⟨_, rfl, h1, h2⟩
/-- The set of a list. -/
def ofL (l : List Int) : List Int := Lib.compact (sortL l)
theorem ofL_length (l : List Int) : (ofL l).length ≤ l.length := by
  have h := compact_length (sortL l)
  rw [List.length_mergeSort] at h
  exact h
def sets_Of.f (l0 : List Int) : Option (List Int) := if l0.length ≤ 4398046511104 then some (ofL l0) else none
theorem cu_mem (d : Array Int) : ∀ (m : Nat) (j : Nat), j < m → d[j]! ∈ Lib.compactUpTo d m
  | 0, j, h => by omega
  | m + 1, j, h => by
    rw [Lib.compactUpTo_succ, List.mem_append]
    by_cases hj : j < m
    · exact .inl (cu_mem d m j hj)
    · have hj : j = m := by omega
      subst hj
      by_cases hk : Lib.keeps d j = true
      · exact .inr (by rw [if_pos hk]; exact List.mem_singleton.2 rfl)
      · have h1 : ¬ (j = 0 ∨ d[j]! ≠ d[j - 1]!) := by simpa [Lib.keeps] using hk
        have h2 : d[j]! = d[j - 1]! := Classical.byContradiction fun h => h1 (.inr h)
        rw [h2]
        exact .inl (cu_mem d j (j - 1) (by omega))
theorem cu_sub (d : Array Int) : ∀ (m : Nat) (x : Int), x ∈ Lib.compactUpTo d m → ∃ j, j < m ∧ x = d[j]!
  | 0, x, h => by simp [Lib.compactUpTo] at h
  | m + 1, x, h => by
    rw [Lib.compactUpTo_succ, List.mem_append] at h
    rcases h with h | h
    · obtain ⟨j, h1, h2⟩ := cu_sub d m x h
      exact ⟨j, by omega, h2⟩
    · split at h
      · exact ⟨m, by omega, by simpa using h⟩
      · simp at h
theorem cu_lt (d : Array Int) (hs : ∀ i j, i ≤ j → j < d.size → d[i]! ≤ d[j]!) : ∀ (m : Nat), m ≤ d.size → (Lib.compactUpTo d m).Pairwise (· < ·)
  | 0, _ => by simp [Lib.compactUpTo]
  | m + 1, hm => by
    rw [Lib.compactUpTo_succ, List.pairwise_append]
    refine ⟨cu_lt d hs m (by omega), by split <;> simp, fun a ha b hb => ?_⟩
    split at hb
    · rename_i hk
      have hb : b = d[m]! := by simpa using hb
      obtain ⟨j, hj, rfl⟩ := cu_sub d m a ha
      have h1 : m = 0 ∨ d[m]! ≠ d[m - 1]! := by simpa [Lib.keeps] using hk
      have h2 := hs j (m - 1) (by omega) (by omega)
      have h3 := hs (m - 1) m (by omega) (by omega)
      omega
    · simp at hb
theorem sortL_le (l : List Int) : (l.mergeSort fun x y => decide (x ≤ y)).Pairwise (· ≤ ·) := by
  have := List.pairwise_mergeSort (le := fun x y : Int => decide (x ≤ y)) (by simp; omega) (by simp; omega) l
  exact this.imp (by simp)
theorem compact_lt (s : List Int) (hs : s.Pairwise (· ≤ ·)) : (Lib.compact s).Pairwise (· < ·) := by
  refine cu_lt s.toArray (fun i j hij hj => ?_) s.length (by simp)
  have hj' : j < s.length := by simpa using hj
  by_cases h : i = j
  · rw [h]; exact Int.le_refl _
  · have := List.pairwise_iff_getElem.1 hs i j (by omega) hj' (by omega)
    simpa [getElem!_pos, hj', show i < s.length by omega] using this
theorem mem_compact (s : List Int) (x : Int) : x ∈ Lib.compact s ↔ x ∈ s := by
  constructor
  · intro h
    obtain ⟨j, hj, rfl⟩ := cu_sub s.toArray s.length x h
    simp [getElem!_pos, hj]
  · intro h
    obtain ⟨j, hj, rfl⟩ := List.getElem_of_mem h
    have := cu_mem s.toArray s.length j hj
    rw [Lib.compact]
    simpa [getElem!_pos, hj] using this
theorem ofL_lt (l : List Int) : (ofL l).Pairwise (· < ·) := compact_lt _ (sortL_le l)
theorem mem_ofL (l : List Int) (x : Int) : x ∈ ofL l ↔ x ∈ l := (mem_compact _ _).trans List.mem_mergeSort
theorem ofL_sorted (l : List Int) : (ofL l).Pairwise (· ≤ ·) := (ofL_lt l).imp (fun h => Int.le_of_lt h)
theorem of_calls (A : Option Addr) (c : Nat) (l : List Int) (w : World) (hr : Kd.C (Kd.int .i64) w A l.length l) (hl : l.length ≤ 4398046511104) :
    Calls Try.prog 37 #[.slice A l.length c] w fun e w' => ∃ v, e = .returned v ∧ OwnI w' w.heap.size v (ofL l) ∧ Below w.heap.size w w' := by
  have HR := Aside0.mk hr
  have hs : (sortL l).length = l.length := List.length_mergeSort l
  clear hr
  go_enter Try.func37, Try.ntmps37
  go_wp2_with (first | (go_at_call 36; (with_reducible refine (clone_calls _ _ l _ HR.out hl).mono ?_); rintro e w1 ⟨v1, rfl, ho1, hb1⟩; have HO1 := Aside0.mk ho1; have HB1 := Aside0.mk hb1; clear ho1 hb1) | (go_at_call 45; (with_reducible refine (sort_calls HO1.out (by omega)).mono ?_); rintro e w2 ⟨rfl, ho2, hb2⟩; have HO2 := Aside0.mk ho2; have HB2 := Aside0.mk (HB1.out.trans hb2); clear ho2 hb2) | (go_at_call 46; (with_reducible refine (compact_calls HO2.out).mono ?_); rintro e w3 ⟨v3, rfl, ho3, hb3⟩; have HO3 := Aside0.mk ho3; have HB3 := Aside0.mk (HB2.out.trans hb3); clear ho3 hb3))
  go_ret
  exact ⟨_, rfl, HO3.out, HB3.out⟩
theorem sets_Of.calls (A0 : Option Addr) (c0 : Nat) (l0 : List Int) (r : List Int) (w : World) (hr0 : Kd.C (Kd.int .i64) w A0 l0.length l0) (hc0 : l0.length ≤ c0) (h : sets_Of.f l0 = some r) :
    Calls Try.prog 37 #[.slice A0 l0.length c0] w fun e w' => ∃ v0_ : Value, e = .returned (v0_) ∧ Kd.R (Kd.int .i64) 3 w' w.heap.size (fun _ => True) v0_ r ∧ Below w.heap.size w w' := by
  unfold sets_Of.f at h
  split at h
  case isFalse => exact absurd h (by simp)
  case isTrue hl =>
  obtain rfl := Option.some.inj h
  exact (of_calls A0 c0 l0 w hr0 hl).mono (by rintro e w' ⟨v, rfl, ho, hb⟩; exact ⟨_, rfl, R_of_own ho, hb⟩)
end Go.Proofs.Ytpfmebpalejadaa.Of
end
section
namespace Go.Proofs.Ytpfmebpalejadaa.Hand
open Go.Proofs.YtpfmebpalejadaaW Go.RowKit Go.Proofs.YtpfmebpalejadaaW.PrintWords Go.Proofs.YtpfmebpalejadaaW.PrintLast Go.Proofs.YtpfmebpalejadaaW.PrintMore Go.Proofs.YtpfmebpalejadaaW.SepW Go.Proofs.Ytpfmebpalejadaa.PALL Go.Proofs.Ytpfmebpalejadaa.Plain
set_option linter.unusedVariables false
set_option linter.unusedSimpArgs false

theorem flatI_le : ∀ (bs : List (List Int)) (n : Nat), (∀ l ∈ bs, l.length ≤ n) → bs.flatten.length ≤ bs.length * n
  | [], n, _ => by simp
  | a :: t, n, h => by
    have h1 := flatI_le t n (fun l hl => h l (List.mem_cons_of_mem _ hl))
    have h2 := h a List.mem_cons_self
    simp only [List.flatten_cons, List.length_append, List.length_cons, Nat.add_mul]
    omega
/-- The documents of the words number a, a + 1, .. (i of them). -/
def accOf (ds : List (List Int)) (a i : Nat) : List Int := ((ds.drop a).take i).flatten
theorem accOf_next {ds : List (List Int)} {a i : Nat} {d : List Int} (h : ds[a + i]? = some d) : accOf ds a (i + 1) = accOf ds a i ++ d := by
  unfold accOf
  rw [List.take_add_one, List.getElem?_drop, h, List.flatten_append]
  simp
theorem accOf_le (ds : List (List Int)) (a i : Nat) (h : ∀ d ∈ ds, d.length ≤ 1000000) (hl : ds.length ≤ 1000000) : (accOf ds a i).length ≤ 1000000000000 := by
  have h1 := flatI_le ((ds.drop a).take i) 1000000 (fun l hl => h l (List.mem_of_mem_drop (List.mem_of_mem_take hl)))
  have h2 : ((ds.drop a).take i).length ≤ 1000000 := by rw [List.length_take, List.length_drop]; omega
  unfold accOf
  have h3 : ((ds.drop a).take i).length * 1000000 ≤ 1000000 * 1000000 := Nat.mul_le_mul_right _ h2
  omega
set_option maxHeartbeats 8000000 in
set_option maxRecDepth 100000 in
theorem prefix_ix {w0 w : World} {L : List (Thing w0.heap.size)} {g : Nat} {wv dv bv : Value} {dvs : List Value} {m : List (ByteArray × List Int)} (S : Sep w0 w (IxL _ g wv dv bv dvs m L)) (ws : List ByteArray) (hws : m.map (·.1) = ws) (ds : List (List Int)) (hds : m.map (·.2) = ds) (hm : m.length ≤ 1000000) (hd2 : ∀ d ∈ ds, d.length ≤ 1000000) (hsw : SW ws) (p : ByteArray) :
    Calls Try.prog 20 #[.pointer (some ⟨g, 0, none⟩), .string p] w fun e w' => ∃ (a b : Nat) (v : Value), e = .returned v ∧ RangeOf ws p a b ∧ (Kd.int .i64).R 3 w' w.heap.size (fun _ => True) v (Of.ofL (accOf ds a (b - a))) ∧ Below w.heap.size w w' := by
  have hu39 := Try.underlying39
  have hwl : ws.length ≤ 1000000 := by rw [← hws, List.length_map]; exact hm
  have hdn : ds.length ≤ 1000000 := by rw [← hds, List.length_map]; exact hm
  have hdw : ds.length = ws.length := by rw [← hds, ← hws]; simp
  have hvl : dvs.length = ds.length := by rw [← hds]; exact fzn_len S 3 rfl
  have hfz : ∀ (i : Nat) (d : List Int), ds[i]? = some d → d.length ≤ 1000000 → ∃ (A : Option Addr) (c : Nat), dvs[i]? = some (Value.slice A d.length c) ∧ d.length ≤ c ∧ (Kd.int .i64).C w A d.length d := by
    intro i d hd hl
    rw [← hds] at hd
    obtain ⟨A, c, h1, h2, h3, h4⟩ := fzn_ints S 3 rfl i d hd hl
    exact ⟨A, c, h1, h2, h4⟩
  obtain ⟨A, c, rfl, hc, hCE, hC⟩ := fz_strs S 1 rfl (by rw [hws]; exact hwl)
  obtain ⟨Ad, cd, rfl, hcd, hCEd, _⟩ := S.sp.hd 2 rfl
  have k1 := blk_cell (S.at_box 0 rfl) 1
  simp only [List.getElem?_toArray, List.getElem?_cons_zero, List.getElem?_cons_succ] at k1
  have hce : ∀ (i : Nat) (v : Value), dvs[i]? = some v → ∃ ad, Ad = some ad ∧ w.cell? (ad.add i) = some v := by
    intro i v hv
    obtain ⟨a, e, h⟩ := hCEd.at_ (Nat.zero_lt_of_lt (List.getElem?_eq_some_iff.1 hv).1)
    exact ⟨a, e, h i v hv⟩
  have hrg := range_ix A _ c p S ws hws.symm (by rw [hws]) (by rw [← hws]; exact hc) hwl hsw (fun i hi => by
    rw [hws] at hC
    exact str_at hC i hi)
  have HRX := Aside0.mk hrg
  have HFZ := Aside0.mk hfz
  have HCE := Aside0.mk hce
  have HDS := Aside0.mk hdw
  have HDN := Aside0.mk hdn
  have HD2 := Aside0.mk hd2
  have HWL := Aside0.mk hwl
  have HVL := Aside0.mk hvl
  have HCDD := Aside0.mk hcd
  clear hrg hfz hce hdw hdn hd2 hwl hvl hcd hCEd hC hCE hc hsw hws hds hm S
  go_enter Try.func20, Try.ntmps20
  go_upto_region 5 with (first | (go_at_call 16; (with_reducible refine HRX.out.mono ?_); rintro e_ w15 ⟨a, b, rfl, hrg, hb⟩; have HRG := Aside0.mk hrg; have BW := Aside0.mk hb; clear hrg hb) | fail)
  have k1' := pw_cell_below BW.out k1
  have q0 : (0 : Int) ≤ (a : Int) := by omega
  have q1 : (a : Int) ≤ (b : Int) := by have := HRG.out.ab; omega
  have q2 : (b : Int) ≤ (cd : Int) := by have h1 := HRG.out.bl; have h2 := HCDD.out; have h3 := HVL.out; have h4 := HDS.out; omega
  have q3 : decide ((0 : Int) ≤ (a : Int)) = true := decide_eq_true q0
  by_cases hcr : cd = a
  · have hcr' := hcr.symm
    subst hcr'
    clear hcr
    go_upto_region 6 with fail
    have S := Aside0.mk ((Sep.start w).nil (Kd.int .i64) 3)
    replace S := Aside0.mk (S.out.step BW.out)
    go_loopg [7, 26] (b - a + 1) (fun kq v7 v26 w' => ∃ (i : Nat) (acc : List Int), v26 = .int .i64 i ∧ Aside0 (kq + i = b - a + 1) ∧ Aside0 (i ≤ b - a) ∧ Aside0 (acc = accOf ds a i) ∧ Aside0 (Sep w w' [Own _ (Kd.int .i64) 3 v7 acc]))
    case atStart => exact ⟨0, [], rfl, ⟨rfl⟩, ⟨Nat.zero_le _⟩, ⟨by simp [accOf]⟩, S⟩
    case round =>
      clear S
      obtain ⟨i, acc, rfl, KQ, IL, AC, S⟩ := hrel
      cases gk with
      | zero => exact absurd KQ.out (by have := IL.out; omega)
      | succ q1 =>
      by_cases hi : i < b - a
      · exact absurd hi (by omega)
      · obtain rfl : i = b - a := by have := IL.out; omega
        have d1 := decide_eq_false (show ¬ ((b - a : Nat) : Int) < ((b - a : Nat) : Int) by omega)
        have d1' : decide (b - a < b - a) = false := decide_eq_false (by omega)
        clear hi
        obtain ⟨A7, c7, e7, hc7, hC7⟩ := S.out.own_reads 0 rfl
        subst e7
        have HAL : Aside0 (acc.length ≤ 1000000000000) := ⟨by rw [AC.out]; exact accOf_le ds a _ HD2.out HDN.out⟩
        have HC7 := Aside0.mk hC7
        clear hc7 hC7
        go_wp2_with (first | (go_at_call 37; have X_ := Of.of_calls A7 c7 acc _ HC7.out (by have := HAL.out; omega); (with_reducible refine X_.mono ?_); clear X_; rintro e_ w35 ⟨v35, rfl, ho, hb⟩; have HO := Aside0.mk ho; have HBB := Aside0.mk hb; clear ho hb) | fail)
        go_ret
        exact ⟨a, b, v35, rfl, HRG.out, by rw [← AC.out]; exact Kd.R_lower (Of.R_of_own HO.out) S.out.size, (S.out.step HBB.out).below⟩
  · have q5 : ¬ (cd : Int) = (a : Int) := by omega
    go_upto_region 6 with fail
    have S := Aside0.mk ((Sep.start w).nil (Kd.int .i64) 3)
    replace S := Aside0.mk (S.out.step BW.out)
    go_loopg [7, 26] (b - a + 1) (fun kq v7 v26 w' => ∃ (i : Nat) (acc : List Int), v26 = .int .i64 i ∧ Aside0 (kq + i = b - a + 1) ∧ Aside0 (i ≤ b - a) ∧ Aside0 (acc = accOf ds a i) ∧ Aside0 (Sep w w' [Own _ (Kd.int .i64) 3 v7 acc]))
    case atStart => exact ⟨0, [], rfl, ⟨rfl⟩, ⟨Nat.zero_le _⟩, ⟨by simp [accOf]⟩, S⟩
    case round =>
      clear S
      obtain ⟨i, acc, rfl, KQ, IL, AC, S⟩ := hrel
      cases gk with
      | zero => exact absurd KQ.out (by have := IL.out; omega)
      | succ q1 =>
      by_cases hi : i < b - a
      · have p0 : (0 : Int) ≤ (i : Int) := by omega
        have p1 : (i : Int) < ((b - a : Nat) : Int) := by omega
        have d1 := decide_eq_true p1
        have d1' : decide (i < b - a) = true := decide_eq_true hi
        obtain ⟨d, hd⟩ : ∃ d, ds[a + i]? = some d := ⟨_, List.getElem?_eq_getElem (by have := HRG.out.bl; have := HDS.out; omega)⟩
        have hdl := HD2.out d (List.mem_of_getElem? hd)
        obtain ⟨Ae, ce, hvd, hcd, hCd⟩ := HFZ.out (a + i) d hd hdl
        obtain ⟨ad, ead, hcell⟩ := HCE.out (a + i) _ hvd
        have hcell := pw_cell_below S.out.below hcell
        subst ead
        have HAL : Aside0 (acc.length ≤ 1000000000000) := ⟨by rw [AC.out]; exact accOf_le ds a i HD2.out HDN.out⟩
        have HCD := Aside0.mk hCd
        have HDL := Aside0.mk hdl
        have HDD := Aside0.mk hd
        clear hd hdl hvd hcd hCd
        rw [← add_add] at hcell
        go_wp2_with (first | ((with_reducible refine gate_builtin (b := .append) (xs := #[.tmp 30, .tmp 31]) rfl ?_); at_builtin; obtain ⟨ok, hR, hnew, hup⟩ := S.out.append 0 rfl; refine Kd.R_append_rows (Kd.int .i64) (w0 := w) w.heap.size rfl (.tmp 30) (.tmp 31) 43 3 (.int .i64 0) 8 rfl Try.underlying43 info3 rfl (by decide) (by omega) _ acc d _ _ _ ok (fun _ => False) rfl rfl hR ?aR (fun _ _ h => h) (fun _ h => h.elim) hnew S.out.below S.out.size ?aL ?_; (case aR => exact Kd.C_below HCD.out S.out.below); (case aL => (have h1 := HAL.out; have h2 := HDL.out; omega)); intro v32 w32 ho hb hg hat; replace S := Aside0.mk (hup _ w32 _ ho hb hg); clear hup hR hnew ho hb hg hat) | fail)
        go_roundg q1
        case measure => omega
        case rel => exact ⟨i + 1, acc ++ d, wnext i (by have h1 := HRG.out.bl; have h2 := HWL.out; omega), ⟨by have := KQ.out; omega⟩, ⟨by omega⟩, ⟨by rw [AC.out, accOf_next HDD.out]⟩, S⟩
      · obtain rfl : i = b - a := by have := IL.out; omega
        have d1 := decide_eq_false (show ¬ ((b - a : Nat) : Int) < ((b - a : Nat) : Int) by omega)
        have d1' : decide (b - a < b - a) = false := decide_eq_false (by omega)
        clear hi
        obtain ⟨A7, c7, e7, hc7, hC7⟩ := S.out.own_reads 0 rfl
        subst e7
        have HAL : Aside0 (acc.length ≤ 1000000000000) := ⟨by rw [AC.out]; exact accOf_le ds a _ HD2.out HDN.out⟩
        have HC7 := Aside0.mk hC7
        clear hc7 hC7
        go_wp2_with (first | (go_at_call 37; have X_ := Of.of_calls A7 c7 acc _ HC7.out (by have := HAL.out; omega); (with_reducible refine X_.mono ?_); clear X_; rintro e_ w35 ⟨v35, rfl, ho, hb⟩; have HO := Aside0.mk ho; have HBB := Aside0.mk hb; clear ho hb) | fail)
        go_ret
        exact ⟨a, b, v35, rfl, HRG.out, by rw [← AC.out]; exact Kd.R_lower (Of.R_of_own HO.out) S.out.size, (S.out.step HBB.out).below⟩
end Go.Proofs.Ytpfmebpalejadaa.Hand
end
section
namespace Go.Proofs.Ytpfmebpalejadaa.Plain
open Go.Proofs.YtpfmebpalejadaaW Go.RowKit Go.Proofs.YtpfmebpalejadaaW.PrintWords Go.Proofs.Ytpfmebpalejadaa.PALL Go.Proofs.Ytpfmebpalejadaa.Hand
set_option linter.unusedVariables false
set_option linter.unusedSimpArgs false
theorem w1 (i : Nat) (h : i < 4000000000000000000) : wrap64 ((i : Int) + 1) = ((i + 1 : Nat) : Int) := by unfold wrap64; omega
theorem sorted_ext {α : Type} {r : α → α → Prop} (hir : ∀ a, ¬ r a a) (htr : ∀ a b c, r a b → r b c → r a c) : ∀ (l l' : List α), l.Pairwise r → l'.Pairwise r → (∀ x, x ∈ l ↔ x ∈ l') → l = l'
  | [], [], _, _, _ => rfl
  | [], b :: t', _, _, h => absurd ((h b).2 List.mem_cons_self) (by simp)
  | a :: t, [], _, _, h => absurd ((h a).1 List.mem_cons_self) (by simp)
  | a :: t, b :: t', h1, h2, h => by
    obtain ⟨k1, k2⟩ := List.pairwise_cons.1 h1
    obtain ⟨k3, k4⟩ := List.pairwise_cons.1 h2
    have hab : a = b := by
      rcases List.mem_cons.1 ((h a).1 List.mem_cons_self) with e | e
      · exact e
      · rcases List.mem_cons.1 ((h b).2 List.mem_cons_self) with e' | e'
        · exact e'.symm
        · exact absurd (htr _ _ _ (k1 b e') (k3 a e)) (hir a)
    subst hab
    rw [sorted_ext hir htr t t' k2 k4 (fun x => ⟨fun hx => ?_, fun hx => ?_⟩)]
    · rcases List.mem_cons.1 ((h x).1 (List.mem_cons_of_mem _ hx)) with e | e
      · subst e
        exact absurd (k1 _ hx) (hir _)
      · exact e
    · rcases List.mem_cons.1 ((h x).2 (List.mem_cons_of_mem _ hx)) with e | e
      · subst e
        exact absurd (k3 _ hx) (hir _)
      · exact e
theorem SI_ext {l l' : List Int} (h : SI l) (h' : SI l') (hm : ∀ x, x ∈ l ↔ x ∈ l') : l = l' := sorted_ext (r := fun a b => a < b) (fun a => Int.lt_irrefl a) (fun _ _ _ h k => Int.lt_trans h k) _ _ h h' hm
theorem SW_ext {l l' : List ByteArray} (h : SW l) (h' : SW l') (hm : ∀ x, x ∈ l ↔ x ∈ l') : l = l' := sorted_ext (r := fun a b => wl a b = true) (fun a => by rw [wl_irrefl]; decide) (fun _ _ _ h k => wl_trans h k) _ _ h h' hm

/-! The documents that have a word with a property. -/
def sel (q : ByteArray → Bool) (bs : List (List ByteArray)) (n : Nat) : List Int := ((List.range n).filter (fun i => (bs.getD i []).any q)).map (fun i : Nat => (i : Int))
theorem sel_succ (q : ByteArray → Bool) (bs : List (List ByteArray)) (n : Nat) : sel q bs (n + 1) = sel q bs n ++ (if (bs.getD n []).any q then [(n : Int)] else []) := by
  unfold sel
  rw [List.range_succ, List.filter_append, List.map_append]
  congr 1
  by_cases h : (bs.getD n []).any q = true
  · rw [if_pos h, List.filter_cons, if_pos h]; rfl
  · rw [if_neg h, List.filter_cons, if_neg h]; rfl
theorem mem_sel (q : ByteArray → Bool) (bs : List (List ByteArray)) (n : Nat) (x : Int) : x ∈ sel q bs n ↔ ∃ i : Nat, x = (i : Int) ∧ i < n ∧ (bs.getD i []).any q = true := by
  unfold sel
  rw [List.mem_map]
  constructor
  · rintro ⟨i, h, rfl⟩
    obtain ⟨h1, h2⟩ := List.mem_filter.1 h
    exact ⟨i, rfl, List.mem_range.1 h1, h2⟩
  · rintro ⟨i, rfl, h1, h2⟩
    exact ⟨i, List.mem_filter.2 ⟨List.mem_range.2 h1, h2⟩, rfl⟩
theorem sel_SI (q : ByteArray → Bool) (bs : List (List ByteArray)) (n : Nat) : SI (sel q bs n) := by
  unfold sel SI
  rw [List.pairwise_map]
  exact (List.pairwise_lt_range.filter _).imp (fun {a b} h => by omega)
theorem sel_len (q : ByteArray → Bool) (bs : List (List ByteArray)) (n : Nat) : (sel q bs n).length ≤ n := by
  unfold sel
  rw [List.length_map]
  exact Nat.le_trans (List.length_filter_le _ _) (by rw [List.length_range]; exact Nat.le_refl _)
theorem any_next (q : ByteArray → Bool) (l : List ByteArray) (j : Nat) (h : j < l.length) : (l.take (j + 1)).any q = ((l.take j).any q || q l[j]) := by
  rw [List.take_add_one, List.getElem?_eq_getElem h, List.any_append]
  simp
theorem rdL (bs : List (List ByteArray)) (i : Nat) : rd_L1 bs (i : Int) = bs.getD i [] := rfl
theorem eqL (a b : ByteArray) : (a.toList == b.toList) = decide (a = b) := by
  by_cases h : a = b
  · subst h; simp
  · have : a.toList ≠ b.toList := fun e => h (str_ext e)
    rw [beq_eq_false_iff_ne.2 this, decide_eq_false h]
theorem word_l1 (bs : List (List ByteArray)) (p : ByteArray) (acc : List Int) (i : Nat) (hi : i < bs.length) (hb : bs[i].length ≤ 1000000) (r : List Int)
    (h : Ev (fun k => mapmakerref52_Word.l1 k bs p acc i (bs[i].any (fun x => decide (x = p))) (bs[i].length : Int)) r) : ∀ (d j : Nat), j + d = bs[i].length → Ev (fun k => mapmakerref52_Word.l1 k bs p acc i ((bs[i].take j).any (fun x => decide (x = p))) (j : Int)) r := by
  have e0 : rd_L1 bs (i : Int) = bs[i] := by rw [rdL]; simp [hi]
  intro d
  induction d with
  | zero =>
    intro j hj
    obtain rfl : j = bs[i].length := by omega
    rw [List.take_length]
    exact h
  | succ d ih =>
    intro j hj
    have hj1 : j < bs[i].length := by omega
    have h1 := ih (j + 1) (by omega)
    rw [any_next _ _ _ hj1] at h1
    refine Ev.step (fun k => ?_) h1
    show mapmakerref52_Word.l1 (k + 1) bs p acc i ((bs[i].take j).any (fun x => decide (x = p))) (j : Int) = _
    rw [mapmakerref52_Word.l1, if_pos (by omega), if_pos (by omega), e0, if_pos (by omega), w1 j (by omega)]
    by_cases ha : (bs[i].take j).any (fun x => decide (x = p)) = true
    · rw [ha, if_pos rfl, Bool.true_or]
    · have ha' : (bs[i].take j).any (fun x => decide (x = p)) = false := Bool.eq_false_iff.2 ha
      rw [ha', if_neg (by decide), if_pos (by omega), Bool.false_or, rdOf_at _ _ _ hj1, eqL]
theorem word_l0 (bs : List (List ByteArray)) (p : ByteArray) (hn : bs.length ≤ 1000000) (hb : ∀ l ∈ bs, l.length ≤ 1000000) : ∀ (d i : Nat), i + d = bs.length → Ev (fun k => mapmakerref52_Word.l0 k bs p (sel (fun x => decide (x = p)) bs i) (i : Int)) (sel (fun x => decide (x = p)) bs bs.length) := by
  intro d
  induction d with
  | zero =>
    intro i hi
    obtain rfl : i = bs.length := by omega
    refine Ev.step (f := fun _ => some _) (fun k => ?_) (Ev.now _)
    rw [mapmakerref52_Word.l0, if_neg (by omega)]
  | succ d ih =>
    intro i hi
    have hi1 : i < bs.length := by omega
    have e0 : rd_L1 bs (i : Int) = bs[i] := by rw [rdL]; simp [hi1]
    have e1 : bs.getD i [] = bs[i] := by simp [hi1]
    have h1 := ih (i + 1) (by omega)
    rw [sel_succ, e1] at h1
    refine Ev.step (f := fun k => mapmakerref52_Word.l1 k bs p (sel (fun x => decide (x = p)) bs i) i false 0) (fun k => ?_) ?_
    · show mapmakerref52_Word.l0 (k + 1) bs p _ (i : Int) = _
      rw [mapmakerref52_Word.l0, if_pos (by omega)]
    · have h2 := word_l1 bs p (sel (fun x => decide (x = p)) bs i) i hi1 (hb _ (List.getElem_mem hi1)) (sel (fun x => decide (x = p)) bs bs.length) (by
        refine Ev.step (fun k => ?_) h1
        rw [mapmakerref52_Word.l1, if_pos (by omega), if_pos (by omega), e0, if_neg (by omega), w1 i (by omega)]
        by_cases ha : bs[i].any (fun x => decide (x = p)) = true
        · rw [if_pos ha, if_pos ha, if_pos (by have := sel_len (fun x => decide (x = p)) bs i; omega)]
        · rw [if_neg ha, if_neg ha, List.append_nil]) bs[i].length 0 (by omega)
      exact h2
theorem word_ev (bs : List (List ByteArray)) (p : ByteArray) (hn : bs.length ≤ 1000000) (hb : ∀ l ∈ bs, l.length ≤ 1000000) : ∃ k, mapmakerref52_Word.f k bs p = some (sel (fun x => decide (x = p)) bs bs.length) :=
  (word_l0 bs p hn hb bs.length 0 (by omega)).rounds
theorem begins_f (a p : ByteArray) : mapmakerref52_Begins.f a p = some (begins a p) := by
  unfold mapmakerref52_Begins.f begins
  by_cases h : p.size ≤ a.size
  · rw [if_pos (by omega), if_pos (by omega), if_pos (by omega), decide_eq_true h, Bool.true_and]
    rfl
  · rw [if_neg (by omega), decide_eq_false h, Bool.false_and]
theorem prefix_l1 (bs : List (List ByteArray)) (p : ByteArray) (acc : List Int) (i : Nat) (hi : i < bs.length) (hb : bs[i].length ≤ 1000000) (r : List Int)
    (h : Ev (fun k => mapmakerref52_Prefix.l1 k bs p acc i (bs[i].any (begins · p)) (bs[i].length : Int)) r) : ∀ (d j : Nat), j + d = bs[i].length → Ev (fun k => mapmakerref52_Prefix.l1 k bs p acc i ((bs[i].take j).any (begins · p)) (j : Int)) r := by
  have e0 : rd_L1 bs (i : Int) = bs[i] := by rw [rdL]; simp [hi]
  intro d
  induction d with
  | zero =>
    intro j hj
    obtain rfl : j = bs[i].length := by omega
    rw [List.take_length]
    exact h
  | succ d ih =>
    intro j hj
    have hj1 : j < bs[i].length := by omega
    have h1 := ih (j + 1) (by omega)
    rw [any_next _ _ _ hj1] at h1
    refine Ev.step (fun k => ?_) h1
    show mapmakerref52_Prefix.l1 (k + 1) bs p acc i ((bs[i].take j).any (begins · p)) (j : Int) = _
    rw [mapmakerref52_Prefix.l1, if_pos (by omega), if_pos (by omega), e0, if_pos (by omega), w1 j (by omega)]
    by_cases ha : (bs[i].take j).any (begins · p) = true
    · rw [ha, if_pos rfl, Bool.true_or]
    · have ha' : (bs[i].take j).any (begins · p) = false := Bool.eq_false_iff.2 ha
      rw [ha', if_neg (by decide), if_pos (by omega), Bool.false_or, rdOf_at _ _ _ hj1, begins_f, Option.bind_some]
theorem prefix_l0 (bs : List (List ByteArray)) (p : ByteArray) (hn : bs.length ≤ 1000000) (hb : ∀ l ∈ bs, l.length ≤ 1000000) : ∀ (d i : Nat), i + d = bs.length → Ev (fun k => mapmakerref52_Prefix.l0 k bs p (sel (begins · p) bs i) (i : Int)) (sel (begins · p) bs bs.length) := by
  intro d
  induction d with
  | zero =>
    intro i hi
    obtain rfl : i = bs.length := by omega
    refine Ev.step (f := fun _ => some _) (fun k => ?_) (Ev.now _)
    rw [mapmakerref52_Prefix.l0, if_neg (by omega)]
  | succ d ih =>
    intro i hi
    have hi1 : i < bs.length := by omega
    have e0 : rd_L1 bs (i : Int) = bs[i] := by rw [rdL]; simp [hi1]
    have e1 : bs.getD i [] = bs[i] := by simp [hi1]
    have h1 := ih (i + 1) (by omega)
    rw [sel_succ, e1] at h1
    refine Ev.step (f := fun k => mapmakerref52_Prefix.l1 k bs p (sel (begins · p) bs i) i false 0) (fun k => ?_) ?_
    · show mapmakerref52_Prefix.l0 (k + 1) bs p _ (i : Int) = _
      rw [mapmakerref52_Prefix.l0, if_pos (by omega)]
    · have h2 := prefix_l1 bs p (sel (begins · p) bs i) i hi1 (hb _ (List.getElem_mem hi1)) (sel (begins · p) bs bs.length) (by
        refine Ev.step (fun k => ?_) h1
        rw [mapmakerref52_Prefix.l1, if_pos (by omega), if_pos (by omega), e0, if_neg (by omega), w1 i (by omega)]
        by_cases ha : bs[i].any (begins · p) = true
        · rw [if_pos ha, if_pos ha, if_pos (by have := sel_len (begins · p) bs i; omega)]
        · rw [if_neg ha, if_neg ha, List.append_nil]) bs[i].length 0 (by omega)
      exact h2
theorem prefix_ev (bs : List (List ByteArray)) (p : ByteArray) (hn : bs.length ≤ 1000000) (hb : ∀ l ∈ bs, l.length ≤ 1000000) : ∃ k, mapmakerref52_Prefix.f k bs p = some (sel (begins · p) bs bs.length) :=
  (prefix_l0 bs p hn hb bs.length 0 (by omega)).rounds
end Go.Proofs.Ytpfmebpalejadaa.Plain
end
section
namespace Go.Proofs.Ytpfmebpalejadaa.Plain
open Go.Proofs.YtpfmebpalejadaaW Go.RowKit Go.Proofs.YtpfmebpalejadaaW.PrintWords Go.Proofs.Ytpfmebpalejadaa.PALL Go.Proofs.Ytpfmebpalejadaa.Hand
set_option linter.unusedVariables false
set_option linter.unusedSimpArgs false
/-! The reference's words. -/
/-- One word more. -/
def insW (out : List ByteArray) (x : ByteArray) : List ByteArray := if out[lbW out x]? = some x then out else ins out (lbW out x) x
theorem insW_SW {out : List ByteArray} (h : SW out) (x : ByteArray) : SW (insW out x) := by
  unfold insW
  split
  · exact h
  · rename_i hx
    exact SW_ins h x (fun hm => hx ((SW_found h x).2 hm))
theorem mem_insW {out : List ByteArray} (h : SW out) (x y : ByteArray) : y ∈ insW out x ↔ y = x ∨ y ∈ out := by
  unfold insW
  split
  · rename_i hx
    have := (SW_found h x).1 hx
    constructor
    · exact .inr
    · rintro (rfl | h)
      · exact this
      · exact h
  · exact mem_ins
theorem insW_len (out : List ByteArray) (x : ByteArray) : (insW out x).length ≤ out.length + 1 := by
  unfold insW
  split
  · omega
  · rw [ins_length out (lbW out x) x (lb_le _ _)]
    exact Nat.le_refl _
theorem lb_here {out : List ByteArray} (x : ByteArray) (t : Nat) (ht : t < lbW out x) (hl : t < out.length) : wl out[t] x = true := by
  obtain ⟨y, h1, h2⟩ := lb_lt (fun y => wl y x) out t ht
  rw [List.getElem?_eq_getElem hl] at h1
  injection h1 with h1
  rw [h1]
  exact h2
section
variable (bs : List (List ByteArray)) (i j : Nat) (hi : i < bs.length) (hj : j < bs[i].length) (hb : bs[i].length ≤ 1000000)
include hi hj hb
theorem words_l3 (out : List ByteArray) (ho : out.length ≤ 1000000) (r : List ByteArray) (a : Nat) (ha : a ≤ out.length)
    (h : Ev (fun k => mapmakerref52_Words.l1 k bs (ins out a bs[i][j]) i ((j + 1 : Nat) : Int)) r) : ∀ (d : Nat) (u : ByteArray), a + d ≤ out.length → Ev (fun k => mapmakerref52_Words.l3 k bs (ins out (a + d) u) i j a ((a + d : Nat) : Int)) r := by
  have e0 : rd_L1 bs (i : Int) = bs[i] := by rw [rdL]; simp [hi]
  intro d
  induction d with
  | zero =>
    intro u hd
    refine Ev.step (fun k => ?_) h
    have hl := ins_length out a u ha
    simp only [Nat.add_zero]
    rw [mapmakerref52_Words.l3, if_neg (by omega), if_pos (by omega), if_pos (by omega), if_pos (by omega), e0, if_pos (by omega), if_pos (by omega), if_pos (by omega), w1 j (by omega), rdOf_at _ _ _ hj]
    rw [show ((a : Int)).toNat = a by omega, ins_set _ _ _ _ ha]
  | succ d ih =>
    intro u hd
    have hlt : a + d < out.length := by omega
    refine Ev.step (fun k => ?_) (ih out[a + d] (by omega))
    have hl := ins_length out (a + (d + 1)) u hd
    have ew : wrap64 (((a + (d + 1) : Nat) : Int) - 1) = ((a + d : Nat) : Int) := by unfold wrap64; omega
    rw [mapmakerref52_Words.l3, if_pos (by omega), ew, if_pos (by omega), if_pos (by omega), if_pos (by omega), if_pos (by omega)]
    have e2 : rdOf ByteArray.empty (ins out (a + (d + 1)) u) ((a + d : Nat) : Int) = out[a + d] := by
      rw [rdOf_at _ _ _ (by omega)]
      simp only [ins, List.append_assoc]
      rw [List.getElem_append_left (by rw [List.length_take]; omega), List.getElem_take]
    have e3 : (ins out (a + (d + 1)) u).set (((a + (d + 1) : Nat) : Int)).toNat out[a + d] = ins out (a + d) out[a + d] := by
      rw [show (((a + (d + 1) : Nat) : Int)).toNat = a + (d + 1) by omega, ins_set _ _ _ _ hd]
      unfold ins
      rw [show a + (d + 1) = (a + d) + 1 by omega, List.take_add_one, List.getElem?_eq_getElem hlt]
      rw [List.drop_eq_getElem_cons hlt]
      simp
    rw [e2, e3]
theorem words_j3 (out : List ByteArray) (ho : out.length ≤ 1000000) (r : List ByteArray)
    (h : Ev (fun k => mapmakerref52_Words.l1 k bs (insW out bs[i][j]) i ((j + 1 : Nat) : Int)) r) : Ev (fun k => mapmakerref52_Words.j3 k bs out i j (lbW out bs[i][j] : Int)) r := by
  have e0 : rd_L1 bs (i : Int) = bs[i] := by rw [rdL]; simp [hi]
  have hle : lbW out bs[i][j] ≤ out.length := lb_le _ _
  obtain ⟨a, ha⟩ : ∃ a, a = lbW out bs[i][j] := ⟨_, rfl⟩
  have hnew : out[lbW out bs[i][j]]? ≠ some bs[i][j] → Ev (fun k => mapmakerref52_Words.j4 k bs out i j (a : Int) false) r := by
    intro hx
    have h' : Ev (fun k => mapmakerref52_Words.l1 k bs (ins out a bs[i][j]) i ((j + 1 : Nat) : Int)) r := by
      have e : insW out bs[i][j] = ins out a bs[i][j] := by unfold insW; rw [if_neg hx, ha]
      rwa [e] at h
    have h2 := words_l3 bs i j hi hj hb out ho r a (by omega) h' (out.length - a) ⟨#[]⟩ (by omega)
    rw [show a + (out.length - a) = out.length by omega] at h2
    refine Ev.step (fun k => ?_) h2
    rw [mapmakerref52_Words.j4, if_neg (by decide), if_pos (by omega), Option.bind_some]
    have e1 : ins out out.length (⟨#[]⟩ : ByteArray) = out ++ [⟨#[]⟩] := by unfold ins; simp
    have e2 : wrap64 (((out ++ [(⟨#[]⟩ : ByteArray)]).length : Int) - 1) = (out.length : Int) := by rw [List.length_append]; simp only [List.length_singleton]; unfold wrap64; omega
    rw [e1, e2]
  rw [← ha]
  by_cases hlt : a < out.length
  · by_cases hx : out[a] = bs[i][j]
    · have hx' : out[lbW out bs[i][j]]? = some bs[i][j] := by rw [← ha, List.getElem?_eq_getElem hlt, hx]
      have e : insW out bs[i][j] = out := by unfold insW; rw [if_pos hx']
      rw [e] at h
      refine Ev.step (f := fun k => mapmakerref52_Words.j4 k bs out i j (a : Int) true) (fun k => ?_) (Ev.step (fun k => ?_) h)
      · rw [mapmakerref52_Words.j3, if_pos (by omega), if_pos (by omega), if_pos (by omega), if_pos (by omega), if_pos (by omega), e0, if_pos (by omega), rdOf_at _ _ _ hlt, rdOf_at _ _ _ hj, hx]
        simp
      · rw [mapmakerref52_Words.j4, if_pos rfl, w1 j (by omega)]
    · refine Ev.step (fun k => ?_) (hnew (by rw [← ha, List.getElem?_eq_getElem hlt]; simpa using hx))
      rw [mapmakerref52_Words.j3, if_pos (by omega), if_pos (by omega), if_pos (by omega), if_pos (by omega), if_pos (by omega), e0, if_pos (by omega), rdOf_at _ _ _ hlt, rdOf_at _ _ _ hj, eqL, decide_eq_false hx]
  · refine Ev.step (fun k => ?_) (hnew (by rw [← ha, List.getElem?_eq_none (by omega)]; simp))
    rw [mapmakerref52_Words.j3, if_neg (by omega)]
theorem words_l2 (out : List ByteArray) (ho : out.length ≤ 1000000) (r : List ByteArray)
    (h : Ev (fun k => mapmakerref52_Words.l1 k bs (insW out bs[i][j]) i ((j + 1 : Nat) : Int)) r) : ∀ (d t : Nat), t + d = lbW out bs[i][j] → Ev (fun k => mapmakerref52_Words.l2 k bs out i j (t : Int)) r := by
  have e0 : rd_L1 bs (i : Int) = bs[i] := by rw [rdL]; simp [hi]
  have hle : lbW out bs[i][j] ≤ out.length := lb_le _ _
  intro d
  induction d with
  | zero =>
    intro t ht
    obtain rfl : t = lbW out bs[i][j] := by omega
    refine Ev.step (fun k => ?_) (words_j3 bs i j hi hj hb out ho r h)
    rw [mapmakerref52_Words.l2]
    by_cases hlt : lbW out bs[i][j] < out.length
    · have hf := lb_at (fun y => wl y bs[i][j]) out out[lbW out bs[i][j]] (List.getElem?_eq_getElem hlt)
      rw [if_pos (by omega), if_pos (by omega), if_pos (by omega), if_pos (by omega), if_pos (by omega), e0, if_pos (by omega), rdOf_at _ _ _ hlt, rdOf_at _ _ _ hj]
      rw [if_neg (by have hf' : Op.bytesLess (out[lbW out bs[i][j]]).toList (bs[i][j]).toList = false := hf; rw [hf']; decide)]
    · rw [if_neg (by omega)]
  | succ d ih =>
    intro t ht
    have hlt : t < out.length := by omega
    refine Ev.step (fun k => ?_) (ih (t + 1) (by omega))
    have hf : Op.bytesLess (out[t]).toList (bs[i][j]).toList = true := lb_here _ t (by omega) hlt
    rw [mapmakerref52_Words.l2, if_pos (by omega), if_pos (by omega), if_pos (by omega), if_pos (by omega), if_pos (by omega), e0, if_pos (by omega), rdOf_at _ _ _ hlt, rdOf_at _ _ _ hj, if_pos hf, w1 t (by omega)]
end
/-- The words of so many documents, and of the first words of one. -/
def wordsOf (l : List ByteArray) : List ByteArray := l.foldl insW []
theorem wordsOf_snoc (l : List ByteArray) (x : ByteArray) : wordsOf (l ++ [x]) = insW (wordsOf l) x := by unfold wordsOf; rw [List.foldl_append]; rfl
theorem wordsOf_app : ∀ (s l : List ByteArray), wordsOf (l ++ s) = s.foldl insW (wordsOf l) := by
  intro s l
  unfold wordsOf
  rw [List.foldl_append]
theorem foldl_SW : ∀ (s out : List ByteArray), SW out → SW (s.foldl insW out) ∧ ∀ x, x ∈ s.foldl insW out ↔ x ∈ s ∨ x ∈ out
  | [], out, h => ⟨h, fun x => by simp⟩
  | a :: t, out, h => by
    obtain ⟨h1, h2⟩ := foldl_SW t (insW out a) (insW_SW h a)
    refine ⟨h1, fun x => ?_⟩
    rw [List.foldl_cons, h2 x, mem_insW h, List.mem_cons]
    constructor
    · rintro (h | h | h)
      · exact .inl (.inr h)
      · exact .inl (.inl h)
      · exact .inr h
    · rintro ((h | h) | h)
      · exact .inr (.inl h)
      · exact .inl h
      · exact .inr (.inr h)
theorem wordsOf_SW (l : List ByteArray) : SW (wordsOf l) := (foldl_SW l [] List.Pairwise.nil).1
theorem mem_wordsOf (l : List ByteArray) (x : ByteArray) : x ∈ wordsOf l ↔ x ∈ l := by rw [show (x ∈ wordsOf l) = _ from rfl, wordsOf, (foldl_SW l [] List.Pairwise.nil).2 x]; simp
theorem wordsOf_len (l : List ByteArray) : (wordsOf l).length ≤ l.length := by
  have : ∀ (s out : List ByteArray), (s.foldl insW out).length ≤ s.length + out.length := by
    intro s
    induction s with
    | nil => intro out; simp
    | cons a t ih =>
      intro out
      have h1 := ih (insW out a)
      have h2 := insW_len out a
      simp only [List.foldl_cons, List.length_cons]
      omega
  have h := this l []
  simpa [wordsOf] using h
theorem words_l1 (bs : List (List ByteArray)) (hn : bs.length ≤ 1000000) (i : Nat) (hi : i < bs.length) (hb : bs[i].length ≤ 1000000) (s : List ByteArray) (hs : s.length + bs[i].length ≤ 1000000) (r : List ByteArray)
    (h : Ev (fun k => mapmakerref52_Words.l1 k bs (wordsOf (s ++ bs[i])) i (bs[i].length : Int)) r) : ∀ (d j : Nat), j + d = bs[i].length → Ev (fun k => mapmakerref52_Words.l1 k bs (wordsOf (s ++ bs[i].take j)) i (j : Int)) r := by
  have e0 : rd_L1 bs (i : Int) = bs[i] := by rw [rdL]; simp [hi]
  intro d
  induction d with
  | zero =>
    intro j hj
    obtain rfl : j = bs[i].length := by omega
    rw [List.take_length]
    exact h
  | succ d ih =>
    intro j hj
    have hj1 : j < bs[i].length := by omega
    have h1 := ih (j + 1) (by omega)
    rw [List.take_add_one, List.getElem?_eq_getElem hj1, Option.toList_some, ← List.append_assoc, wordsOf_snoc] at h1
    have ho : (wordsOf (s ++ bs[i].take j)).length ≤ 1000000 := by
      have := wordsOf_len (s ++ bs[i].take j)
      rw [List.length_append, List.length_take] at this
      omega
    have h2 := words_l2 bs i j hi hj1 hb _ ho r h1 (lbW (wordsOf (s ++ bs[i].take j)) bs[i][j]) 0 (by omega)
    refine Ev.step (fun k => ?_) h2
    show mapmakerref52_Words.l1 (k + 1) bs _ i (j : Int) = _
    rw [mapmakerref52_Words.l1, if_pos (by omega), if_pos (by omega), e0, if_pos (by omega)]
    rfl
theorem words_l0 (bs : List (List ByteArray)) (hn : bs.length ≤ 1000000) (hb : ∀ l ∈ bs, l.length ≤ 1000000) (hf : bs.flatten.length ≤ 1000000) : ∀ (d i : Nat), i + d = bs.length → Ev (fun k => mapmakerref52_Words.l0 k bs (wordsOf (bs.take i).flatten) (i : Int)) (wordsOf bs.flatten) := by
  intro d
  induction d with
  | zero =>
    intro i hi
    obtain rfl : i = bs.length := by omega
    refine Ev.step (f := fun _ => some _) (fun k => ?_) (Ev.now _)
    rw [mapmakerref52_Words.l0, if_neg (by omega), List.take_length]
  | succ d ih =>
    intro i hi
    have hi1 : i < bs.length := by omega
    have e0 : rd_L1 bs (i : Int) = bs[i] := by rw [rdL]; simp [hi1]
    have e2 : (bs.take (i + 1)).flatten = (bs.take i).flatten ++ bs[i] := by
      rw [List.take_add_one, List.getElem?_eq_getElem hi1, List.flatten_append]
      simp
    have h1 := ih (i + 1) (by omega)
    have hbi := hb _ (List.getElem_mem hi1)
    have hfl : (bs.take i).flatten.length + bs[i].length ≤ 1000000 := by
      rw [← List.length_append, ← e2]
      have h3 : ((bs.take (i + 1)).flatten ++ (bs.drop (i + 1)).flatten).length = bs.flatten.length := by rw [← List.flatten_append, List.take_append_drop]
      rw [List.length_append] at h3
      omega
    rw [e2] at h1
    have h2 := words_l1 bs hn i hi1 hbi (bs.take i).flatten hfl (wordsOf bs.flatten) (by
      refine Ev.step (fun k => ?_) h1
      rw [mapmakerref52_Words.l1, if_pos (by omega), if_pos (by omega), e0, if_neg (by omega), w1 i (by omega)]) bs[i].length 0 (by omega)
    rw [List.take_zero, List.append_nil] at h2
    refine Ev.step (fun k => ?_) h2
    show mapmakerref52_Words.l0 (k + 1) bs _ (i : Int) = _
    rw [mapmakerref52_Words.l0, if_pos (by omega)]
    rfl
theorem words_ev (bs : List (List ByteArray)) (hn : bs.length ≤ 1000000) (hb : ∀ l ∈ bs, l.length ≤ 1000000) (hf : bs.flatten.length ≤ 1000000) : Ev (fun k => mapmakerref52_Words.f k bs) (wordsOf bs.flatten) :=
  words_l0 bs hn hb hf bs.length 0 (by omega)
theorem range_l0 (p : ByteArray) (ws : List ByteArray) (hl : ws.length ≤ 1000000) (a b : Nat) (hR : RangeOf ws p a b) : ∀ (d i : Nat), i + d = ws.length → Ev (fun k => mapmakerref52_Range.l0 k p ws ((min i a : Nat) : Int) ((min i b - min i a : Nat) : Int) (i : Int)) ((a : Int), (b : Int)) := by
  have hab := hR.ab
  have hbl := hR.bl
  intro d
  induction d with
  | zero =>
    intro i hi
    obtain rfl : i = ws.length := by omega
    refine Ev.step (f := fun _ => some _) (fun k => ?_) (Ev.now _)
    rw [mapmakerref52_Range.l0, if_neg (by omega)]
    have e1 : min ws.length a = a := by omega
    have e2 : min ws.length b = b := by omega
    have e3 : wrap64 ((a : Int) + ((b - a : Nat) : Int)) = (b : Int) := by unfold wrap64; omega
    rw [e1, e2, e3]
  | succ d ih =>
    intro i hi
    have hi1 : i < ws.length := by omega
    refine Ev.step (fun k => ?_) (ih (i + 1) (by omega))
    show mapmakerref52_Range.l0 (k + 1) p ws _ _ (i : Int) = _
    rw [mapmakerref52_Range.l0, if_pos (by omega), if_pos (by omega), rdOf_at _ _ _ hi1, begins_f, Option.bind_some, w1 i (by omega)]
    have hbg := hR.begins_at i hi1
    rw [wat_at hi1] at hbg
    rw [hbg]
    by_cases h1 : a ≤ i
    · by_cases h2 : i < b
      · rw [if_pos (by simp [h1, h2])]
        have e1 : min (i + 1) a = min i a := by omega
        have e2 : wrap64 (((min i b - min i a : Nat) : Int) + 1) = ((min (i + 1) b - min (i + 1) a : Nat) : Int) := by unfold wrap64; omega
        rw [e2, e1]
      · rw [if_neg (by simp [h2])]
        have hge := hR.ge i h1 hi1
        rw [wat_at hi1] at hge
        rw [if_neg (by have hge' : Op.bytesLess (ws[i]).toList p.toList = false := hge; rw [hge']; decide)]
        have e1 : min (i + 1) a = min i a := by omega
        have e2 : min (i + 1) b = min i b := by omega
        rw [e1, e2]
    · rw [if_neg (by simp [h1])]
      have hlo := hR.lo i (by omega)
      rw [wat_at hi1] at hlo
      rw [if_pos (show Op.bytesLess (ws[i]).toList p.toList = true from hlo)]
      have e1 : wrap64 (((min i a : Nat) : Int) + 1) = ((min (i + 1) a : Nat) : Int) := by unfold wrap64; omega
      have e2 : min (i + 1) b - min (i + 1) a = min i b - min i a := by omega
      rw [e1, e2]
theorem range_ev (bs : List (List ByteArray)) (p : ByteArray) (hn : bs.length ≤ 1000000) (hb : ∀ l ∈ bs, l.length ≤ 1000000) (hf : bs.flatten.length ≤ 1000000) (a b : Nat) (hR : RangeOf (wordsOf bs.flatten) p a b) : ∃ k, mapmakerref52_Range.f k bs p = some ((a : Int), (b : Int)) := by
  have h1 := words_ev bs hn hb hf
  have h2 := range_l0 p (wordsOf bs.flatten) (by have := wordsOf_len bs.flatten; omega) a b hR (wordsOf bs.flatten).length 0 (by omega)
  refine Ev.rounds (g := fun k => mapmakerref52_Range.f k bs p) (Ev.bind h1 ?_)
  have e : min 0 b - min 0 a = 0 := by omega
  have e' : min 0 a = 0 := by omega
  rw [e, e'] at h2
  exact h2
end Go.Proofs.Ytpfmebpalejadaa.Plain
end
section
namespace Go.Proofs.Ytpfmebpalejadaa.Plain
open Go.Proofs.YtpfmebpalejadaaW Go.RowKit Go.Proofs.YtpfmebpalejadaaW.PrintWords Go.Proofs.Ytpfmebpalejadaa.PALL Go.Proofs.Ytpfmebpalejadaa.Hand
set_option linter.unusedVariables false
set_option linter.unusedSimpArgs false
theorem RB_sel {bs : List (List ByteArray)} (q : ByteArray → Bool) (x : Int) : x ∈ sel q bs bs.length ↔ ∃ w, q w = true ∧ RB bs w x := by
  rw [mem_sel]
  constructor
  · rintro ⟨i, rfl, hi, h⟩
    obtain ⟨w, hw, hq⟩ := List.any_eq_true.1 h
    have e : bs.getD i [] = bs[i] := by simp [hi]
    rw [e] at hw
    exact ⟨w, hq, i, bs[i], rfl, List.getElem?_eq_getElem hi, hw⟩
  · rintro ⟨w, hq, i, l, rfl, h1, h2⟩
    have hi := (List.getElem?_eq_some_iff.1 h1).1
    refine ⟨i, rfl, hi, List.any_eq_true.2 ⟨w, ?_, hq⟩⟩
    rw [show bs.getD i [] = l by rw [List.getD_eq_getElem?_getD, h1]; rfl]
    exact h2
/-! What an index tells is what the reference tells. -/
section
variable {m : List (ByteArray × List Int)} {bs : List (List ByteArray)} (hI : Inv m (RB bs))
include hI
theorem ix_words : m.map (·.1) = wordsOf bs.flatten := by
  refine SW_ext hI.sw (wordsOf_SW _) (fun x => ?_)
  rw [mem_wordsOf]
  constructor
  · intro hx
    obtain ⟨p, hp, rfl⟩ := List.mem_map.1 hx
    obtain ⟨_, h2, h3⟩ := hI.si p hp
    obtain ⟨y, hy⟩ := List.exists_mem_of_ne_nil _ h2
    exact (RB_sub ((h3 y).1 hy)).1
  · intro hx
    obtain ⟨l, hl, hx⟩ := List.mem_flatten.1 hx
    obtain ⟨i, hi, rfl⟩ := List.mem_iff_getElem.1 hl
    obtain ⟨p, hp, rfl⟩ := hI.all x (i : Int) ⟨i, bs[i], rfl, List.getElem?_eq_getElem hi, hx⟩
    exact List.mem_map.2 ⟨p, hp, rfl⟩
theorem ix_docs (p : ByteArray) : docsOf m p = sel (fun x => decide (x = p)) bs bs.length := by
  have key : ∀ x, x ∈ docsOf m p ↔ RB bs p x := by
    intro x
    unfold docsOf
    by_cases hf : (m.map (·.1))[lbW (m.map (·.1)) p]? = some p
    · rw [if_pos hf]
      obtain ⟨d, hmd⟩ := found_at hf
      rw [snd_at hmd]
      exact (hI.si _ (List.mem_of_getElem? hmd)).2.2 x
    · rw [if_neg hf]
      constructor
      · intro h; cases h
      · intro h
        exact absurd h (hI.absent (fun h => hf ((SW_found hI.sw p).2 h)) x)
  have hsi : SI (docsOf m p) := by
    unfold docsOf
    by_cases hf : (m.map (·.1))[lbW (m.map (·.1)) p]? = some p
    · rw [if_pos hf]
      obtain ⟨d, hmd⟩ := found_at hf
      rw [snd_at hmd]
      exact (hI.si _ (List.mem_of_getElem? hmd)).1
    · rw [if_neg hf]; exact List.Pairwise.nil
  refine SI_ext hsi (sel_SI _ _ _) (fun x => ?_)
  rw [key x, RB_sel]
  constructor
  · exact fun h => ⟨p, decide_eq_true rfl, h⟩
  · rintro ⟨w, hw, h⟩
    rw [of_decide_eq_true hw] at h
    exact h
theorem mem_acc (a b : Nat) (p : ByteArray) (hR : RangeOf (m.map (·.1)) p a b) (x : Int) : x ∈ accOf (m.map (·.2)) a (b - a) ↔ ∃ w, begins w p = true ∧ RB bs w x := by
  have hbl := hR.bl
  rw [List.length_map] at hbl
  unfold accOf
  rw [List.mem_flatten]
  constructor
  · rintro ⟨d, hd, hx⟩
    obtain ⟨k, hk, rfl⟩ := List.mem_iff_getElem.1 hd
    rw [List.length_take, List.length_drop, List.length_map] at hk
    rw [List.getElem_take, List.getElem_drop, List.getElem_map] at hx
    have hp := List.getElem_mem (show a + k < m.length by omega)
    have hb := hR.mid (a + k) (by omega) (by omega)
    rw [wat_at (by rw [List.length_map]; omega), List.getElem_map] at hb
    exact ⟨_, hb, ((hI.si _ hp).2.2 x).1 hx⟩
  · rintro ⟨w, hw, h⟩
    obtain ⟨p', hp, rfl⟩ := hI.all w x h
    obtain ⟨k, hk, rfl⟩ := List.mem_iff_getElem.1 hp
    have hb := hR.begins_at k (by rw [List.length_map]; exact hk)
    rw [wat_at (by rw [List.length_map]; exact hk), List.getElem_map, hw] at hb
    have hb := of_decide_eq_true hb.symm
    refine ⟨m[k].2, ?_, ((hI.si _ hp).2.2 x).2 h⟩
    refine List.mem_iff_getElem.2 ⟨k - a, by rw [List.length_take, List.length_drop, List.length_map]; omega, ?_⟩
    rw [List.getElem_take, List.getElem_drop, List.getElem_map]
    simp only [show a + (k - a) = k by omega]
theorem ix_prefix (a b : Nat) (p : ByteArray) (hR : RangeOf (m.map (·.1)) p a b) : Of.ofL (accOf (m.map (·.2)) a (b - a)) = sel (begins · p) bs bs.length := by
  refine SI_ext (Of.ofL_lt _) (sel_SI _ _ _) (fun x => ?_)
  rw [Of.mem_ofL, mem_acc hI a b p hR x, RB_sel]
end
theorem ints_l0 (l l' : List Int) (h : l.length = l'.length) (hl : l.length ≤ 1000000000000) : ∀ (d i : Nat), i + d = l.length → Ev (fun k => mapmakerlaw52_ints.l0 k l l' (i : Int)) (decide (l.drop i = l'.drop i)) := by
  intro d
  induction d with
  | zero =>
    intro i hi
    obtain rfl : i = l.length := by omega
    refine Ev.step (f := fun _ => some _) (fun k => ?_) (Ev.now _)
    rw [mapmakerlaw52_ints.l0, if_neg (by omega), List.drop_length, h, List.drop_length, decide_eq_true rfl]
  | succ d ih =>
    intro i hi
    have h1 : i < l.length := by omega
    have h2 : i < l'.length := by omega
    have hd : (l.drop i = l'.drop i) ↔ (l[i] = l'[i] ∧ l.drop (i + 1) = l'.drop (i + 1)) := by rw [List.drop_eq_getElem_cons h1, List.drop_eq_getElem_cons h2, List.cons.injEq]
    by_cases he : l[i] = l'[i]
    · refine Ev.step (fun k => ?_) (show Ev (fun k => mapmakerlaw52_ints.l0 k l l' ((i + 1 : Nat) : Int)) (decide (l.drop i = l'.drop i)) by
        have := ih (i + 1) (by omega)
        rwa [show decide (l.drop i = l'.drop i) = decide (l.drop (i + 1) = l'.drop (i + 1)) from decide_eq_decide.2 (hd.trans ⟨And.right, fun h => ⟨he, h⟩⟩)])
      rw [mapmakerlaw52_ints.l0, if_pos (by omega), if_pos (by omega), if_pos (by omega), rd_at _ _ h1, rd_at _ _ h2, if_pos he, w1 i (by omega)]
    · refine Ev.step (f := fun _ => some _) (fun k => ?_) (Ev.now _)
      rw [mapmakerlaw52_ints.l0, if_pos (by omega), if_pos (by omega), if_pos (by omega), rd_at _ _ h1, rd_at _ _ h2, if_neg he, decide_eq_false (fun hx => he (hd.1 hx).1)]
theorem ints_ev (l l' : List Int) (hl : l.length ≤ 1000000000000) : ∃ k, mapmakerlaw52_ints.f k l l' = some (decide (l = l')) := by
  by_cases h : l.length = l'.length
  · obtain ⟨k, hk⟩ := (ints_l0 l l' h hl l.length 0 (by omega)).rounds
    exact ⟨k, by rw [mapmakerlaw52_ints.f, if_pos (by omega)]; exact hk⟩
  · exact ⟨0, by rw [mapmakerlaw52_ints.f, if_neg (by omega), decide_eq_false (fun e => h (by rw [e]))]⟩
theorem texts_l0 (l l' : List ByteArray) (h : l.length = l'.length) (hl : l.length ≤ 1000000) : ∀ (d i : Nat), i + d = l.length → Ev (fun k => mapmakerlaw52_texts.l0 k l l' (i : Int)) (decide (l.drop i = l'.drop i)) := by
  intro d
  induction d with
  | zero =>
    intro i hi
    obtain rfl : i = l.length := by omega
    refine Ev.step (f := fun _ => some _) (fun k => ?_) (Ev.now _)
    rw [mapmakerlaw52_texts.l0, if_neg (by omega), List.drop_length, h, List.drop_length, decide_eq_true rfl]
  | succ d ih =>
    intro i hi
    have h1 : i < l.length := by omega
    have h2 : i < l'.length := by omega
    have hd : (l.drop i = l'.drop i) ↔ (l[i] = l'[i] ∧ l.drop (i + 1) = l'.drop (i + 1)) := by rw [List.drop_eq_getElem_cons h1, List.drop_eq_getElem_cons h2, List.cons.injEq]
    by_cases he : l[i] = l'[i]
    · refine Ev.step (fun k => ?_) (show Ev (fun k => mapmakerlaw52_texts.l0 k l l' ((i + 1 : Nat) : Int)) (decide (l.drop i = l'.drop i)) by
        have := ih (i + 1) (by omega)
        rwa [show decide (l.drop i = l'.drop i) = decide (l.drop (i + 1) = l'.drop (i + 1)) from decide_eq_decide.2 (hd.trans ⟨And.right, fun h => ⟨he, h⟩⟩)])
      rw [mapmakerlaw52_texts.l0, if_pos (by omega), if_pos (by omega), if_pos (by omega), rdOf_at _ _ _ h1, rdOf_at _ _ _ h2, if_pos (by rw [he]), w1 i (by omega)]
    · refine Ev.step (f := fun _ => some _) (fun k => ?_) (Ev.now _)
      rw [mapmakerlaw52_texts.l0, if_pos (by omega), if_pos (by omega), if_pos (by omega), rdOf_at _ _ _ h1, rdOf_at _ _ _ h2, if_neg (fun e => he (str_ext e)), decide_eq_false (fun hx => he (hd.1 hx).1)]
theorem texts_ev (l l' : List ByteArray) (hl : l.length ≤ 1000000) : ∃ k, mapmakerlaw52_texts.f k l l' = some (decide (l = l')) := by
  by_cases h : l.length = l'.length
  · obtain ⟨k, hk⟩ := (texts_l0 l l' h hl l.length 0 (by omega)).rounds
    exact ⟨k, by rw [mapmakerlaw52_texts.f, if_pos (by omega)]; exact hk⟩
  · exact ⟨0, by rw [mapmakerlaw52_texts.f, if_neg (by omega), decide_eq_false (fun e => h (by rw [e]))]⟩
/-! Bounds. -/
def wordsB (l : List ByteArray) : Bool := decide (l.length ≤ 30) && l.all (fun x => decide (x.size ≤ 40))
theorem lw_l0 (l : List ByteArray) (hl : l.length ≤ 30) : ∀ (d i : Nat), i + d = l.length → Ev (fun k => mapmakerlaw52_words.l0 k l (i : Int)) ((l.drop i).all (fun x => decide (x.size ≤ 40))) := by
  intro d
  induction d with
  | zero =>
    intro i hi
    obtain rfl : i = l.length := by omega
    refine Ev.step (f := fun _ => some _) (fun k => ?_) (Ev.now _)
    rw [mapmakerlaw52_words.l0, if_neg (by omega), List.drop_length]
    rfl
  | succ d ih =>
    intro i hi
    have h1 : i < l.length := by omega
    rw [List.drop_eq_getElem_cons h1, List.all_cons]
    by_cases hx : l[i].size ≤ 40
    · refine Ev.step (fun k => ?_) (show Ev (fun k => mapmakerlaw52_words.l0 k l ((i + 1 : Nat) : Int)) _ by
        have := ih (i + 1) (by omega)
        rwa [decide_eq_true hx, Bool.true_and])
      rw [mapmakerlaw52_words.l0, if_pos (by omega), if_pos (by omega), rdOf_at _ _ _ h1, if_neg (by omega), w1 i (by omega)]
    · refine Ev.step (f := fun _ => some _) (fun k => ?_) (Ev.now _)
      rw [mapmakerlaw52_words.l0, if_pos (by omega), if_pos (by omega), rdOf_at _ _ _ h1, if_pos (by omega), decide_eq_false hx, Bool.false_and]
theorem lw_ev (l : List ByteArray) : Ev (fun k => mapmakerlaw52_words.f k l) (wordsB l) := by
  unfold wordsB
  by_cases h : l.length ≤ 30
  · rw [decide_eq_true h, Bool.true_and]
    refine Ev.congr (fun k => ?_) (lw_l0 l h l.length 0 (by omega))
    rw [mapmakerlaw52_words.f, if_neg (by omega)]
    rfl
  · rw [decide_eq_false h, Bool.false_and]
    exact Ev.congr (fun k => by rw [mapmakerlaw52_words.f, if_pos (by omega)]) (Ev.now _)
def fewB (bs : List (List ByteArray)) : Bool := decide (bs.length ≤ 20) && bs.all wordsB
theorem few_l0 (bs : List (List ByteArray)) (hl : bs.length ≤ 20) : ∀ (d i : Nat), i + d = bs.length → Ev (fun k => mapmakerlaw52_Few.l0 k bs (i : Int)) ((bs.drop i).all wordsB) := by
  intro d
  induction d with
  | zero =>
    intro i hi
    obtain rfl : i = bs.length := by omega
    refine Ev.step (f := fun _ => some _) (fun k => ?_) (Ev.now _)
    rw [mapmakerlaw52_Few.l0, if_neg (by omega), List.drop_length]
    rfl
  | succ d ih =>
    intro i hi
    have h1 : i < bs.length := by omega
    rw [List.drop_eq_getElem_cons h1, List.all_cons]
    have e0 : rd_L1 bs (i : Int) = bs[i] := by rw [rdL]; simp [h1]
    refine Ev.step (f := fun k => (mapmakerlaw52_words.f k bs[i]).bind fun t => if t = true then mapmakerlaw52_Few.l0 k bs ((i + 1 : Nat) : Int) else some false) (fun k => ?_) (Ev.bind (lw_ev bs[i]) ?_)
    · rw [mapmakerlaw52_Few.l0, if_pos (by omega), if_pos (by omega), e0, w1 i (by omega)]
    · by_cases hx : wordsB bs[i] = true
      · rw [hx, Bool.true_and]
        exact ih (i + 1) (by omega)
      · have hx' := Bool.eq_false_iff.2 hx
        rw [hx', Bool.false_and]
        exact Ev.now _
theorem few_ev (bs : List (List ByteArray)) : ∃ k, mapmakerlaw52_Few.f k bs = some (fewB bs) := by
  unfold fewB
  by_cases h : bs.length ≤ 20
  · rw [decide_eq_true h, Bool.true_and]
    exact (Ev.congr (f := fun k => mapmakerlaw52_Few.l0 k bs ((0 : Nat) : Int)) (g := fun k => mapmakerlaw52_Few.f k bs) (fun k => by rw [mapmakerlaw52_Few.f, if_neg (by omega)]; rfl) (few_l0 bs h bs.length 0 (by omega))).rounds
  · rw [decide_eq_false h, Bool.false_and]
    exact ⟨0, by rw [mapmakerlaw52_Few.f, if_pos (by omega)]⟩
theorem wordsB_len {l : List ByteArray} (h : wordsB l = true) : l.length ≤ 30 := by
  unfold wordsB at h
  exact of_decide_eq_true (Bool.and_eq_true _ _ ▸ h).1
theorem fewB_small {bs : List (List ByteArray)} (h : fewB bs = true) : bs.length ≤ 20 ∧ ∀ l ∈ bs, l.length ≤ 30 := by
  unfold fewB at h
  rw [Bool.and_eq_true] at h
  exact ⟨of_decide_eq_true h.1, fun l hl => wordsB_len (List.all_eq_true.1 h.2 l hl)⟩
end Go.Proofs.Ytpfmebpalejadaa.Plain
end
section
namespace Go.Proofs.Ytpfmebpalejadaa.Hand
open Go.Proofs.YtpfmebpalejadaaW Go.RowKit Go.Proofs.YtpfmebpalejadaaW.PrintWords Go.Proofs.YtpfmebpalejadaaW.PrintLast Go.Proofs.YtpfmebpalejadaaW.PrintMore Go.Proofs.YtpfmebpalejadaaW.SepW Go.Proofs.Ytpfmebpalejadaa.PALL Go.Proofs.Ytpfmebpalejadaa.Plain
set_option linter.unusedVariables false
set_option linter.unusedSimpArgs false

theorem SepI.perm {base : Nat} {w : World} {l l' : List (Thing base)} (h : l.Perm l') : ∀ {F : Nat → Prop}, SepI base w l F → SepI base w l' F := by
  induction h with
  | nil => exact fun h => h
  | cons x _ ih => exact fun ⟨ok, h1, h2, h3⟩ => ⟨ok, h1, h2, ih h3⟩
  | swap x y l =>
    rintro F ⟨ok, h1, h2, ok2, k1, k2, k3⟩
    exact ⟨ok2, fun k hk => ⟨(k1 k hk).1.1, (k1 k hk).2⟩, k2, ok, fun k hk => ⟨⟨(h1 k hk).1, fun hk' => (k1 k hk').1.2 hk⟩, (h1 k hk).2⟩, h2, SepI.mono (fun k hk => ⟨⟨hk.1.1, hk.2⟩, hk.1.2⟩) k3⟩
  | trans _ _ ih1 ih2 => exact fun h => ih2 (ih1 h)
theorem perm {w0 w : World} {L L' : List (Thing w0.heap.size)} (S : Sep w0 w L) (h : L.Perm L') : Sep w0 w L' := ⟨S.below, SepI.perm h S.items⟩
theorem RB_small {bs : List (List ByteArray)} {m : List (ByteArray × List Int)} (h : Inv m (RB bs)) (hs : Small bs) : m.length ≤ 1000000 ∧ ∀ p ∈ m, p.2.length ≤ 1000000 := by
  obtain ⟨h1, h2⟩ := Inv_small h bs.flatten bs.length (fun w x hR => RB_sub hR)
  have h3 := flat_le bs 1000 hs.2
  have h4 := hs.1
  exact ⟨by omega, fun p hp => by have := h2 p hp; omega⟩
theorem Small.flat {bs : List (List ByteArray)} (hs : Small bs) : bs.length ≤ 1000000 ∧ (∀ l ∈ bs, l.length ≤ 1000000) ∧ bs.flatten.length ≤ 1000000 := by
  have h3 := flat_le bs 1000 hs.2
  have h4 := hs.1
  exact ⟨by omega, fun l hl => by have := hs.2 l hl; omega, by omega⟩
theorem range_m {w0 w : World} {L : List (Thing w0.heap.size)} {g : Nat} {wv dv bv : Value} {dvs : List Value} {m : List (ByteArray × List Int)} (S : Sep w0 w (IxL _ g wv dv bv dvs m L)) (hm : m.length ≤ 1000000) (hsw : SW (m.map (·.1))) (p : ByteArray) :
    Calls Try.prog 16 #[.pointer (some ⟨g, 0, none⟩), .string p] w fun e w' => ∃ a b : Nat, e = .returned (.tuple #[.int .i64 (a : Int), .int .i64 (b : Int)]) ∧ RangeOf (m.map (·.1)) p a b ∧ Below w.heap.size w w' := by
  have hl : (m.map (·.1)).length ≤ 1000000 := by rw [List.length_map]; exact hm
  obtain ⟨A, c, rfl, hc, hCE, hC⟩ := fz_strs S 1 rfl hl
  exact range_ix A _ c p S (m.map (·.1)) rfl rfl hc hl hsw (fun i hi => str_at hC i hi)
theorem prefix_m {w0 w : World} {L : List (Thing w0.heap.size)} {g : Nat} {wv dv bv : Value} {dvs : List Value} {m : List (ByteArray × List Int)} (S : Sep w0 w (IxL _ g wv dv bv dvs m L)) {bs : List (List ByteArray)} (hI : Inv m (RB bs)) (hs : Small bs) (p : ByteArray) :
    Calls Try.prog 20 #[.pointer (some ⟨g, 0, none⟩), .string p] w fun e w' => ∃ v : Value, e = .returned v ∧ (Kd.int .i64).R 3 w' w.heap.size (fun _ => True) v (sel (begins · p) bs bs.length) ∧ Below w.heap.size w w' := by
  obtain ⟨h1, h2⟩ := RB_small hI hs
  refine (prefix_ix S (m.map (·.1)) rfl (m.map (·.2)) rfl h1 (fun d hd => by
    obtain ⟨q, hq, rfl⟩ := List.mem_map.1 hd
    exact h2 q hq) hI.sw p).mono ?_
  rintro e w' ⟨a, b, v, rfl, hR, ho, hb⟩
  rw [ix_prefix hI a b p hR] at ho
  exact ⟨v, rfl, ho, hb⟩
theorem word_m {w0 w : World} {L : List (Thing w0.heap.size)} {g : Nat} {wv dv bv : Value} {dvs : List Value} {m : List (ByteArray × List Int)} (S : Sep w0 w (IxL _ g wv dv bv dvs m L)) {bs : List (List ByteArray)} (hI : Inv m (RB bs)) (hs : Small bs) (p : ByteArray) :
    Calls Try.prog 18 #[.pointer (some ⟨g, 0, none⟩), .string p] w fun e w' => ∃ v : Value, e = .returned v ∧ (Kd.int .i64).R 3 w' w.heap.size (fun _ => True) v (sel (fun x => decide (x = p)) bs bs.length) ∧ Below w.heap.size w w' := by
  obtain ⟨h1, h2⟩ := RB_small hI hs
  have := word_ix S h1 h2 hI.sw p
  rwa [ix_docs hI p] at this
theorem words_m {w0 w : World} {L : List (Thing w0.heap.size)} {g : Nat} {wv dv bv : Value} {dvs : List Value} {m : List (ByteArray × List Int)} (S : Sep w0 w (IxL _ g wv dv bv dvs m L)) {bs : List (List ByteArray)} (hI : Inv m (RB bs)) (hs : Small bs) :
    Calls Try.prog 15 #[.pointer (some ⟨g, 0, none⟩)] w fun e w' => ∃ v, e = .returned v ∧ Kd.string.R 9 w' w.heap.size (fun _ => True) v (wordsOf bs.flatten) ∧ Below w.heap.size w w' := by
  have := words_ix S (RB_small hI hs).1
  rwa [ix_words hI] at this
theorem rng_m {w0 w : World} {L : List (Thing w0.heap.size)} {g : Nat} {wv dv bv : Value} {dvs : List Value} {m : List (ByteArray × List Int)} (S : Sep w0 w (IxL _ g wv dv bv dvs m L)) {bs : List (List ByteArray)} (hI : Inv m (RB bs)) (hs : Small bs) (p : ByteArray) :
    Calls Try.prog 16 #[.pointer (some ⟨g, 0, none⟩), .string p] w fun e w' => ∃ a b : Nat, e = .returned (.tuple #[.int .i64 (a : Int), .int .i64 (b : Int)]) ∧ RangeOf (wordsOf bs.flatten) p a b ∧ Below w.heap.size w w' := by
  have := range_m S (RB_small hI hs).1 hI.sw p
  rwa [ix_words hI] at this
theorem ints_same (l : List Int) (hl : l.length ≤ 1000000000000) (A : Option Addr) (c : Nat) (A' : Option Addr) (c' : Nat) (w : World) (h : (Kd.int .i64).C w A l.length l) (hc : l.length ≤ c) (h' : (Kd.int .i64).C w A' l.length l) (hc' : l.length ≤ c') :
    Calls Try.prog 19 #[.slice A l.length c, .slice A' l.length c'] w fun e w' => e = .returned (.bool true) ∧ ∃ n, w' = w.drewN n := by
  obtain ⟨k, hk⟩ := ints_ev l l hl
  rw [decide_eq_true rfl] at hk
  exact (mapmakerlaw52_ints.calls k A c l A' c' l true w h hc h' hc' hk).mono (fun _ _ h => ⟨h.1, h.2.out⟩)
theorem texts_same (l : List ByteArray) (hl : l.length ≤ 1000000) (A : Option Addr) (c : Nat) (A' : Option Addr) (c' : Nat) (w : World) (h : Kd.string.C w A l.length l) (hc : l.length ≤ c) (h' : Kd.string.C w A' l.length l) (hc' : l.length ≤ c') :
    Calls Try.prog 23 #[.slice A l.length c, .slice A' l.length c'] w fun e w' => e = .returned (.bool true) ∧ ∃ n, w' = w.drewN n := by
  obtain ⟨k, hk⟩ := texts_ev l l hl
  rw [decide_eq_true rfl] at hk
  exact (mapmakerlaw52_texts.calls k A c l A' c' l true w h hc h' hc' hk).mono (fun _ _ h => ⟨h.1, h.2.out⟩)
theorem own_cap {α : Type} {d : Kd α} {e : Nat} {w0 w : World} {L : List (Thing w0.heap.size)} {A : Option Addr} {c m : Nat} {xs : List α} (S : Sep w0 w L) (n : Nat) (h : L[n]? = some (Own _ d e (.slice A m c) xs)) : xs.length ≤ c := by
  obtain ⟨A', c', he, hc, _⟩ := Kd.R_reads (S.at_own n h)
  injection he with _ _ h3
  rw [h3]; exact hc
/-- A row of rows of words that nothing turns. -/
def DocsC (w0 : World) (L : List (Thing w0.heap.size)) (A : Option Addr) (bs : List (List ByteArray)) : Prop := ∀ (w' : World) (M : List (Thing w0.heap.size)), Sep w0 w' (M ++ L) → Kd.C (Kd.slice 9 Kd.string) w' A bs.length bs
theorem DocsC.here {w0 w : World} {a b d e f k : Thing w0.heap.size} {L : List (Thing w0.heap.size)} {A : Option Addr} {bs : List (List ByteArray)} (h : DocsC w0 L A bs) (S : Sep w0 w (a :: b :: d :: e :: f :: k :: L)) : Kd.C (Kd.slice 9 Kd.string) w A bs.length bs := h w [a, b, d, e, f, k] S
theorem DocsC.here7 {w0 w : World} {x a b d e f k : Thing w0.heap.size} {L : List (Thing w0.heap.size)} {A : Option Addr} {bs : List (List ByteArray)} (h : DocsC w0 L A bs) (S : Sep w0 w (x :: a :: b :: d :: e :: f :: k :: L)) : Kd.C (Kd.slice 9 Kd.string) w A bs.length bs := h w [x, a, b, d, e, f, k] S
set_option maxHeartbeats 8000000 in
set_option maxRecDepth 100000 in
theorem agrees_ix {w0 w : World} {L : List (Thing w0.heap.size)} {g : Nat} {wv dv bv : Value} {dvs bvs : List Value} {m : List (ByteArray × List Int)} {bs bs' : List (List ByteArray)} (S : Sep w0 w (IxL _ g wv dv bv dvs m (Hdr _ 33 bv bvs :: FzN _ bvs (bs'.map pw_strs) :: L))) (hbs : bs'.length = bs.length) (hI : Inv m (RB bs)) (hs : Small bs) (A : Option Addr) (c : Nat) (hc : bs.length ≤ c) (hd : DocsC w0 L A bs) (p : ByteArray) :
    Calls Try.prog 10 #[.pointer (some ⟨g, 0, none⟩), .slice A bs.length c, .string p] w fun e w' => e = .returned (.bool true) ∧ Sep w0 w' L := by
  have hbl : bvs.length = bs.length := (fzn_len S 5 rfl).trans hbs
  have hF := hs.flat
  obtain ⟨kW, hkW⟩ := (words_ev bs hF.1 hF.2.1 hF.2.2).rounds
  obtain ⟨kD, hkD⟩ := word_ev bs p hF.1 hF.2.1
  obtain ⟨kP, hkP⟩ := prefix_ev bs p hF.1 hF.2.1
  have HKW := Aside0.mk hkW
  have HKD := Aside0.mk hkD
  have HKP := Aside0.mk hkP
  have HI := Aside0.mk hI
  have HS := Aside0.mk hs
  have HC := Aside0.mk hc
  have HD := Aside0.mk hd
  have HBL := Aside0.mk hbl
  have HF := Aside0.mk hF
  have HWL : Aside0 ((wordsOf bs.flatten).length ≤ 1000000) := ⟨by have := wordsOf_len bs.flatten; have := hF.2.2; omega⟩
  have HL1 : Aside0 ((sel (fun x => decide (x = p)) bs bs.length).length ≤ 1000000000000) := ⟨by have := sel_len (fun x => decide (x = p)) bs bs.length; have := hF.1; omega⟩
  have HL2 : Aside0 ((sel (begins · p) bs bs.length).length ≤ 1000000000000) := ⟨by have := sel_len (begins · p) bs bs.length; have := hF.1; omega⟩
  have S := Aside0.mk S
  have d0 : ((bs.length : Int) != (bs.length : Int)) = false := by simp
  clear hkW hkD hkP hI hs hc hd hbl hF hbs
  go_enter Try.func10, Try.ntmps10
  go_wp2_with (first | (go_at_call 22; have X_ := len_ix S.out; rw [HBL.out] at X_; (with_reducible refine X_.mono ?_); clear X_; rintro e_ w_ ⟨rfl, rfl⟩) | (go_at_call 15; have X_ := words_m S.out HI.out HS.out; (with_reducible refine X_.mono ?_); clear X_; rintro e_ w22 ⟨v22, rfl, ho, hb⟩; obtain ⟨A22, c22, e22⟩ := Kd.R_slice ho; subst e22; replace S := Aside0.mk (S.out.own ho hb); clear ho hb) | (go_at_call 24; have X_ := mapmakerref52_Words.calls kW A c bs (wordsOf bs.flatten) _ (HD.out.here7 S.out) HC.out HKW.out; (with_reducible refine X_.mono ?_); clear X_; rintro e_ w24 ⟨v24, rfl, ho, hb⟩; obtain ⟨A24, c24, e24⟩ := Kd.R_slice ho; subst e24; replace S := Aside0.mk (S.out.own ho hb); clear ho hb) | (go_at_call 23; have X_ := texts_same (wordsOf bs.flatten) HWL.out A22 c22 A24 c24 _ (S.out.own_C 1 rfl) (own_cap S.out 1 rfl) (S.out.own_C 0 rfl) (own_cap S.out 0 rfl); (with_reducible refine X_.mono ?_); clear X_; rintro e_ w25 ⟨rfl, n_, rfl⟩; replace S := Aside0.mk (((S.out.drewN n_).drop 0).drop 0)) | (go_at_call 16; have X_ := rng_m S.out HI.out HS.out p; (with_reducible refine X_.mono ?_); clear X_; rintro e_ w31 ⟨a, b, rfl, hrg, hb⟩; have HRG := Aside0.mk hrg; replace S := Aside0.mk (S.out.step hb); clear hrg hb; obtain ⟨kR, hkR⟩ := range_ev bs p HF.out.1 HF.out.2.1 HF.out.2.2 a b HRG.out; have HKR := Aside0.mk hkR; clear hkR) | (go_at_call 25; have X_ := mapmakerref52_Range.calls kR A c bs p (a : Int) (b : Int) _ (HD.out.here S.out) HC.out HKR.out; (with_reducible refine X_.mono ?_); clear X_; rintro e_ w37 ⟨rfl, hb⟩; replace S := Aside0.mk (S.out.step hb); clear hb) | (go_at_call 18; have X_ := word_m S.out HI.out HS.out p; (with_reducible refine X_.mono ?_); clear X_; rintro e_ w51 ⟨v51, rfl, ho, hb⟩; obtain ⟨A51, c51, e51⟩ := Kd.R_slice ho; subst e51; replace S := Aside0.mk (S.out.own ho hb); clear ho hb) | (go_at_call 26; have X_ := mapmakerref52_Word.calls kD A c bs p (sel (fun x => decide (x = p)) bs bs.length) _ (HD.out.here7 S.out) HC.out HKD.out; (with_reducible refine X_.mono ?_); clear X_; rintro e_ w54 ⟨v54, rfl, ho, hb⟩; obtain ⟨A54, c54, e54⟩ := Kd.R_slice ho; subst e54; replace S := Aside0.mk (S.out.own ho hb); clear ho hb) | (go_at_call 19; have X_ := ints_same (sel (fun x => decide (x = p)) bs bs.length) HL1.out A51 c51 A54 c54 _ (S.out.own_C 1 rfl) (own_cap S.out 1 rfl) (S.out.own_C 0 rfl) (own_cap S.out 0 rfl); (with_reducible refine X_.mono ?_); clear X_; rintro e_ w55 ⟨rfl, n_, rfl⟩; replace S := Aside0.mk (((S.out.drewN n_).drop 0).drop 0)) | (go_at_call 20; have X_ := prefix_m S.out HI.out HS.out p; (with_reducible refine X_.mono ?_); clear X_; rintro e_ w60 ⟨v60, rfl, ho, hb⟩; obtain ⟨A60, c60, e60⟩ := Kd.R_slice ho; subst e60; replace S := Aside0.mk (S.out.own ho hb); clear ho hb) | (go_at_call 27; have X_ := mapmakerref52_Prefix.calls kP A c bs p (sel (begins · p) bs bs.length) _ (HD.out.here7 S.out) HC.out HKP.out; (with_reducible refine X_.mono ?_); clear X_; rintro e_ w63 ⟨v63, rfl, ho, hb⟩; obtain ⟨A63, c63, e63⟩ := Kd.R_slice ho; subst e63; replace S := Aside0.mk (S.out.own ho hb); clear ho hb) | (go_at_call 19; have X_ := ints_same (sel (begins · p) bs bs.length) HL2.out A60 c60 A63 c63 _ (S.out.own_C 1 rfl) (own_cap S.out 1 rfl) (S.out.own_C 0 rfl) (own_cap S.out 0 rfl); (with_reducible refine X_.mono ?_); clear X_; rintro e_ w64 ⟨rfl, n_, rfl⟩; replace S := Aside0.mk (((S.out.drewN n_).drop 0).drop 0)))
  go_ret
  exact ⟨rfl, ((((((S.out.drop 0).drop 0).drop 0).drop 0).drop 0).drop 0)⟩
end Go.Proofs.Ytpfmebpalejadaa.Hand
end
section
namespace Go.Proofs.Ytpfmebpalejadaa.Hand
open Go.Proofs.YtpfmebpalejadaaW Go.RowKit Go.Proofs.YtpfmebpalejadaaW.PrintWords Go.Proofs.YtpfmebpalejadaaW.PrintLast Go.Proofs.YtpfmebpalejadaaW.PrintMore Go.Proofs.YtpfmebpalejadaaW.SepW Go.Proofs.Ytpfmebpalejadaa.PALL Go.Proofs.Ytpfmebpalejadaa.Plain
set_option linter.unusedVariables false
set_option linter.unusedSimpArgs false

theorem begins_pre (a p : ByteArray) : begins a p = p.data.toList.isPrefixOf a.data.toList := by
  rw [Bool.eq_iff_iff, begins_iff, List.isPrefixOf_iff_prefix, toL, toL]
theorem begins_fun (p : ByteArray) : (fun x => begins x p) = fun x => p.data.toList.isPrefixOf x.data.toList := funext (fun x => begins_pre x p)
/-- The documents of the example. -/
def exB : List (List ByteArray) := [[⟨#[111, 97, 107]⟩, ⟨#[114, 111, 97, 100]⟩], [⟨#[111, 120, 102, 111, 114, 100]⟩]]
def exC : List (List ByteArray) := [[⟨#[111, 97, 107]⟩, ⟨#[114, 111, 97, 100]⟩], [⟨#[111, 120, 102, 111, 114, 100]⟩], [⟨#[111, 97, 116]⟩]]
theorem ex1 : sel (begins · ⟨#[111]⟩) exC exC.length = [0, 1, 2] := by
  rw [begins_fun]; rfl
theorem ex2 : sel (begins · ⟨#[111, 97]⟩) exC exC.length = [0, 2] := by
  rw [begins_fun]; rfl
theorem ex3 : wordsOf exC.flatten = [⟨#[111, 97, 107]⟩, ⟨#[111, 97, 116]⟩, ⟨#[111, 120, 102, 111, 114, 100]⟩, ⟨#[114, 111, 97, 100]⟩] := by
  refine SW_ext (wordsOf_SW _) (by simp [SW, wl, toL, Op.bytesLess]) (fun x => ?_)
  rw [mem_wordsOf]
  simp only [exC, List.flatten_cons, List.flatten_nil, List.cons_append, List.nil_append, List.mem_cons, List.not_mem_nil, or_false]
  constructor <;> (rintro (h | h | h | h) <;> simp [h])
theorem ex4 : sel (fun x => decide (x = ⟨#[111, 97, 107]⟩)) exC exC.length = [0] := rfl
theorem range_one {ws : List ByteArray} {p : ByteArray} {a b a' b' : Nat} (h : RangeOf ws p a b) (h' : RangeOf ws p a' b') : a = a' ∧ b = b' := by
  have q1 := h.ab; have q2 := h.bl; have q3 := h'.ab; have q4 := h'.bl
  have ha : a = a' := by
    rcases Nat.lt_trichotomy a a' with hlt | e | hlt
    · have h1 := h.ge a (Nat.le_refl _) (by omega)
      rw [h'.lo a hlt] at h1
      cases h1
    · exact e
    · have h1 := h'.ge a' (Nat.le_refl _) (by omega)
      rw [h.lo a' hlt] at h1
      cases h1
  subst ha
  refine ⟨rfl, ?_⟩
  rcases Nat.lt_trichotomy b b' with hlt | e | hlt
  · have h1 := h.hi b (Nat.le_refl _) (by omega)
    rw [h'.mid b (by omega) hlt] at h1
    cases h1
  · exact e
  · have h1 := h'.hi b' (Nat.le_refl _) (by omega)
    rw [h.mid b' (by omega) hlt] at h1
    cases h1
theorem ex5 : RangeOf (wordsOf exC.flatten) ⟨#[111, 97]⟩ 0 2 := by
  rw [ex3]
  refine ⟨by decide, by decide, fun j hj => by omega, fun j h0 hj => ?_, fun j h0 hj => ?_, fun j h0 hj => ?_⟩
  · simp only [List.length_cons, List.length_nil] at hj
    obtain rfl | rfl | rfl | rfl : j = 0 ∨ j = 1 ∨ j = 2 ∨ j = 3 := by omega
    all_goals simp [wat, wl, toL, Op.bytesLess]
  · obtain rfl | rfl : j = 0 ∨ j = 1 := by omega
    all_goals (rw [begins_pre]; rfl)
  · simp only [List.length_cons, List.length_nil] at hj
    obtain rfl | rfl : j = 2 ∨ j = 3 := by omega
    all_goals (rw [begins_pre]; rfl)
theorem box_strs {w : World} {g : Nat} {l : List ByteArray} (h : w.heap[g]? = some (.cells (pw_strs l).toArray 9 (0, 0))) (hl : l.length ≤ 1000000) : Kd.string.C w (some ⟨g, 0, none⟩) l.length l := by
  refine CellsAt.strs (A := some ⟨g, 0, none⟩) ⟨strs_one l, fun _ => ⟨_, rfl, fun j u hu => ?_⟩⟩ (by omega)
  rw [add_plain, blk_cell h j]
  simpa using hu
theorem RowIn.box {w0 : World} {L : List (Thing w0.heap.size)} {g : Nat} {l : List ByteArray} (n : Nat) (h : L[n]? = some (Box _ g 9 (pw_strs l).toArray)) (hl : l.length ≤ 1000000) : RowIn w0 L (some ⟨g, 0, none⟩) l := fun w' M S =>
  box_strs (S.at_box (M.length + n) (by rw [List.getElem?_append_right (by omega), Nat.add_sub_cancel_left]; exact h)) hl
theorem box_cells {w0 : World} {L : List (Thing w0.heap.size)} {g t : Nat} {vs : List Value} (n : Nat) (h : L[n]? = some (Box _ g t vs.toArray)) : ∀ (w' : World) (M : List (Thing w0.heap.size)), Sep w0 w' (M ++ L) → ∀ i v, vs[i]? = some v → ∃ ad, some (⟨g, 0, none⟩ : Addr) = some ad ∧ w'.cell? (ad.add i) = some v := fun w' M S i v hv =>
  ⟨_, rfl, by rw [add_plain, blk_cell (S.at_box (M.length + n) (by rw [List.getElem?_append_right (by omega), Nat.add_sub_cancel_left]; exact h)) i]; simpa using hv⟩
theorem int_at {w : World} {A : Option Addr} {l : List Int} (h : (Kd.int .i64).C w A l.length l) (i : Nat) (hi : i < l.length) : ∃ ad, A = some ad ∧ w.cell? (ad.add i) = some (.int .i64 l[i]) := by
  obtain ⟨ad, he, hc⟩ := h.2.2 (by omega)
  obtain ⟨us, h1, h2, h3⟩ := hc i l[i] (List.getElem?_eq_getElem hi)
  refine ⟨ad, he, ?_⟩
  have h4 : us = [.int .i64 l[i]] := h2
  subst h4
  have := h3 0 _ rfl
  rw [show (Kd.int .i64).sz = 1 from rfl, Nat.mul_one, Nat.add_zero] at this
  exact this
theorem exB_small : Small exB := ⟨by decide, by simp [exB]⟩
theorem exC_small : Small exC := ⟨by decide, by simp [exC]⟩
theorem exG : Small (grow exB 2) := ⟨by decide, by simp [exB, grow]⟩
theorem exS : (grow exB 2).set 2 [⟨#[111, 97, 116]⟩] = exC := rfl
set_option maxHeartbeats 8000000 in
set_option maxRecDepth 100000 in
theorem lives_ix (w : World) : Calls Try.prog 9 #[] w fun e w' => e = .returned (.bool true) ∧ Below w.heap.size w w' := by
  have S := Aside0.mk ((((Sep.start w).alloc #[.string ⟨#[111, 97, 107]⟩, .string ⟨#[114, 111, 97, 100]⟩] 9).alloc' #[.string ⟨#[111, 120, 102, 111, 114, 100]⟩] 9 (g := w.heap.size + 1) (by simp)).alloc' #[.slice (some ⟨w.heap.size, 0, none⟩) 2 2, .slice (some ⟨w.heap.size + 1, 0, none⟩) 1 1] 33 (g := w.heap.size + 1 + 1) (by simp))
  have HDI : Aside0 (DocsIn w [Box w.heap.size (w.heap.size + 1 + 1) 33 #[.slice (some ⟨w.heap.size, 0, none⟩) 2 2, .slice (some ⟨w.heap.size + 1, 0, none⟩) 1 1], Box w.heap.size (w.heap.size + 1) 9 #[.string ⟨#[111, 120, 102, 111, 114, 100]⟩], Box w.heap.size w.heap.size 9 #[.string ⟨#[111, 97, 107]⟩, .string ⟨#[114, 111, 97, 100]⟩]] (some ⟨w.heap.size + 1 + 1, 0, none⟩) exB [.slice (some ⟨w.heap.size, 0, none⟩) 2 2, .slice (some ⟨w.heap.size + 1, 0, none⟩) 1 1]) := ⟨⟨box_cells 0 rfl, fun i l hl => by
    have hi := (List.getElem?_eq_some_iff.1 hl).1
    obtain rfl | rfl : i = 0 ∨ i = 1 := by simp only [exB, List.length_cons, List.length_nil] at hi; omega
    · obtain rfl : [⟨#[111, 97, 107]⟩, ⟨#[114, 111, 97, 100]⟩] = l := by simpa [exB] using hl
      exact ⟨_, _, rfl, Nat.le_refl _, RowIn.box 2 rfl (by decide)⟩
    · obtain rfl : [⟨#[111, 120, 102, 111, 114, 100]⟩] = l := by simpa [exB] using hl
      exact ⟨_, _, rfl, Nat.le_refl _, RowIn.box 1 rfl (by decide)⟩⟩⟩
  go_enter Try.func9, Try.ntmps9
  go_upto_region 2 with (first | (go_at_call 11; have X_ := new_ix S.out (some ⟨w.heap.size + 1 + 1, 0, none⟩) 2 exB [.slice (some ⟨w.heap.size, 0, none⟩) 2 2, .slice (some ⟨w.heap.size + 1, 0, none⟩) 1 1] HDI.out exB_small; rw [show exB.length = 2 from rfl] at X_; (with_reducible refine X_.mono ?_); clear X_; rintro e_ w9 ⟨g, wv, dv, bv, dvs, bvs, m, rfl, hI, hS⟩; have HI := Aside0.mk hI; replace S := Aside0.mk hS; clear hI hS) | fail)
  have HBL : Aside0 (bvs.length = 2) := ⟨fzn_len S.out 5 rfl⟩
  have SA := Aside0.mk (perm (S.out.alloc #[.string ⟨#[111, 97, 116]⟩] 9) (List.perm_middle (l₁ := [_, _, _, _, _, _])).symm)
  go_upto_region 4 with (first | (go_at_call 22; have X_ := len_ix S.out; rw [HBL.out] at X_; (with_reducible refine X_.mono ?_); clear X_; rintro e_ w_ ⟨rfl, hw_⟩; obtain rfl := hw_.symm) | (go_at_call 14; have X_ := set_yes SA.out HI.out 2 (Nat.le_refl 2) exG (some ⟨w9.heap.size, 0, none⟩) 1 [⟨#[111, 97, 116]⟩] (RowIn.box 0 rfl (by decide)) (Nat.le_refl 1) (by decide); rw [show ([⟨#[111, 97, 116]⟩] : List ByteArray).length = 1 from rfl, show ((2 : Nat) : Int) = 2 from rfl] at X_; (with_reducible refine X_.mono ?_); clear X_; rintro e_ w20 ⟨rfl, wv1, dv1, bv1, dvs1, bvs1, m1, hI, hS⟩; have HI1 := Aside0.mk hI; have S1 := Aside0.mk hS; clear hI hS; have HBL1 : Aside0 (bvs1.length = 3) := ⟨fzn_len S1.out 5 rfl⟩) | (go_at_call 14; have X_ := set_no S1.out 4 (.slice none 0 0) (.inr (by have := HBL1.out; omega)); (with_reducible refine X_.mono ?_); clear X_; rintro e_ w_ ⟨rfl, hw_⟩; obtain rfl := hw_.symm) | fail)
  rw [exS] at HI1 S1
  clear S SA HI
  have S := S1
  have HI := HI1
  clear S1 HI1
  go_upto_region 6 with (first | (go_at_call 20; have X_ := prefix_m S.out HI.out exC_small ⟨#[111]⟩; rw [ex1] at X_; (with_reducible refine X_.mono ?_); clear X_; rintro e_ w28 ⟨v28, rfl, ho, hb⟩; obtain ⟨A28, c28, e28⟩ := Kd.R_slice ho; subst e28; replace S := Aside0.mk (S.out.step hb); clear ho hb) | (go_at_call 20; have X_ := prefix_m S.out HI.out exC_small ⟨#[111, 97]⟩; rw [ex2] at X_; (with_reducible refine X_.mono ?_); clear X_; rintro e_ w30 ⟨v30, rfl, ho, hb⟩; obtain ⟨A30, c30, e30⟩ := Kd.R_slice ho; subst e30; replace S := Aside0.mk (S.out.own ho hb); clear ho hb) | (go_at_call 16; have X_ := rng_m (S.out.drop 0) HI.out exC_small ⟨#[111, 97]⟩; (with_reducible refine X_.mono ?_); clear X_; rintro e_ w33 ⟨a, b, rfl, hrg, hb⟩; obtain ⟨ea, eb⟩ := range_one hrg ex5; subst ea; subst eb; replace S := Aside0.mk (S.out.step hb); clear hrg hb) | fail)
  have hC := S.out.own_C 0 rfl
  obtain ⟨ad, ead, h0⟩ := int_at hC 0 (by decide)
  obtain ⟨ad', ead', h1⟩ := int_at hC 1 (by decide)
  subst ead
  injection ead' with ead'
  subst ead'
  have h0' : w33.cell? ad = some (.int .i64 0) := h0
  have h1' : w33.cell? { block := ad.block, off := ad.off + 1 } = some (.int .i64 2) := h1
  clear hC h0 h1
  go_wp2_with (first | (go_at_call 15; have X_ := words_m (S.out.drop 0) HI.out exC_small; rw [ex3] at X_; (with_reducible refine X_.mono ?_); clear X_; rintro e_ w66 ⟨v66, rfl, ho, hb⟩; obtain ⟨A66, c66, e66⟩ := Kd.R_slice ho; subst e66; replace S := Aside0.mk (S.out.step hb); clear ho hb) | (go_at_call 18; have X_ := word_m (S.out.drop 0) HI.out exC_small ⟨#[111, 97, 107]⟩; rw [ex4] at X_; (with_reducible refine X_.mono ?_); clear X_; rintro e_ w72 ⟨v72, rfl, ho, hb⟩; obtain ⟨A72, c72, e72⟩ := Kd.R_slice ho; subst e72; replace S := Aside0.mk (S.out.step hb); clear ho hb) | fail)
  go_ret
  exact ⟨rfl, S.out.below⟩
end Go.Proofs.Ytpfmebpalejadaa.Hand
end
