-- Laid by a program of this work (wip/gen): out of the translation, with texts of our own.
import Derived.Test.YtdkegdnfbpobnaaPARSx0
import Derived.Test.YtdkegdnfbpobnaaPARSx1
import Derived.Test.YtdkegdnfbpobnaaPARSx3
import Derived.Test.YtdkegdnfbpobnaaPARSx4
import Derived.Test.YtdkegdnfbpobnaaPARSx6
namespace Go.Proofs.Ytdkegdnfbpobnaa.PARS
open Go.RowKit Go.Proofs.YtdkegdnfbpobnaaW.PrintWords Go.Proofs.YtdkegdnfbpobnaaW.PrintLast Go.Proofs.YtdkegdnfbpobnaaW.PrintMore Go.Proofs.YtdkegdnfbpobnaaW.SepW
attribute [local go_sem] max2_int min2_int max_two min_two max_three min_three max_four min_four   -- for this text's walks alone
set_option linter.unusedVariables false
set_option linter.unusedSimpArgs false

attribute [local go_sem high] eqA25
/-! by hand -/
/-! ### clip_Line: function 26 -/

/-- Does a part go on: the segment before gave something, its end was not cut, and this one begins there. -/
def clip_Line.meets (t cur : List S25) (i last p0 p1 : Int) : Option Bool :=
 if last = i - 1 then
  if p0 = (rd_T25 t (i - 1)).f0 ∧ p1 = (rd_T25 t (i - 1)).f1 then
   if cur.length = 0 then none
   else some (decide ((rd_T25 cur ((cur.length : Int) - 1)).f0 = p0 ∧ (rd_T25 cur ((cur.length : Int) - 1)).f1 = p1))
  else some false
 else some false
/-- From segment i on: the last segment that gave something, the parts that are done, the part that may go on. -/
def clip_Line.go (b0 b1 b2 b3 : Int) : Nat → List S25 → Nat → Int → List (List S25) → List S25 → Option (List (List S25))
 | 0, _, _, _, _, _ => none
 | k + 1, t, i, last, done, cur =>
  if i < t.length then
   if done.length < 1099511627776 ∧ cur.length < 1099511627776 then
    (clip_piece.f k (rd_T25 t ((i : Int) - 1)).f0 (rd_T25 t ((i : Int) - 1)).f1 (rd_T25 t i).f0 (rd_T25 t i).f1 b0 b1 b2 b3).bind fun r =>
     if r.2.2.2.2 = true then
      (clip_Line.meets t cur i last r.1 r.2.1).bind fun c =>
       if c = true then clip_Line.go b0 b1 b2 b3 k t (i + 1) i done (cur ++ [⟨r.2.2.1, r.2.2.2.1⟩])
       else clip_Line.go b0 b1 b2 b3 k t (i + 1) i (if cur.length = 0 then done else done ++ [cur]) [⟨r.1, r.2.1⟩, ⟨r.2.2.1, r.2.2.2.1⟩]
     else clip_Line.go b0 b1 b2 b3 k t (i + 1) last done cur
   else none
  else some (if cur.length = 0 then done else done ++ [cur])
def clip_Line.f (k : Nat) (l0 : List S25) (b0 b1 b2 b3 : Int) : Option (List (List S25)) :=
 (clip_permitted.f k l0 b0 b1 b2 b3).bind fun ok => if ok = true then (clip_Tidy.f k l0).bind fun t => clip_Line.go b0 b1 b2 b3 k t 1 (-1) [] [] else some []

set_option maxHeartbeats 4000000 in
set_option maxRecDepth 100000 in
theorem clip_Line.calls (k : Nat) (A0 : Option Addr) (c0 : Nat) (l0 : List S25) (b0 b1 b2 b3 : Int) (r : List (List S25)) (w : World) (hr0 : Kd.C k25 w A0 l0.length l0) (hc0 : l0.length ≤ c0) (h : clip_Line.f k l0 b0 b1 b2 b3 = some r) :
  Calls Try.prog 26 #[.slice A0 l0.length c0, .agg #[.int .i64 b0, .int .i64 b1, .int .i64 b2, .int .i64 b3]] w fun e w' => ∃ v0_ : Value, e = .returned (v0_) ∧ Kd.S (Kd.slice 25 k25) 30 w' w.heap.size (fun _ => True) v0_ r ∧ Below w.heap.size w w' := by
 have hu22 := Try.underlying30
 have hu28 := Try.underlying40
 have hu32 := Try.underlying32
 have hu37 := Try.underlying25
 have HR := Aside0.mk hr0
 have HC := Aside0.mk hc0
 clear hr0 hc0
 unfold clip_Line.f at h
 obtain ⟨ok, hp, h⟩ := Option.bind_eq_some_iff.mp h
 have HP := Aside0.mk hp
 have S := Sep.start w
 clear hp
 cases ok with
 | false =>
  have H := Aside0.mk (show some [] = some r from by simpa using h)
  clear h
  go_enter Try.func26, Try.ntmps26
  go_wp2_with (first | ((with_reducible refine gate_dst (N := 3) rfl ?_); refine box_event ?hg (N := 3) ?hd (cs := #[.int .i64 b0, .int .i64 b1, .int .i64 b2, .int .i64 b3]) (t := 40) ?hr ?_; (case hd => rfl); (case hg => rfl); (case hr => first | (go_simp; done) | (go_simp; rfl)); intro g3 hg w3 hbox hb; replace S := (S).box hg hbox hb; clear hbox hb hg; have cb_0 := blk_cell (S.at_box 0 rfl) 0; have cb_1 := blk_cell (S.at_box 0 rfl) 1; have cb_2 := blk_cell (S.at_box 0 rfl) 2; have cb_3 := blk_cell (S.at_box 0 rfl) 3; simp only [List.getElem?_toArray, List.getElem?_cons_zero, List.getElem?_cons_succ] at cb_0 cb_1 cb_2 cb_3) | (go_at_call 44; (with_reducible refine (clip_permitted.calls k _ _ l0 b0 b1 b2 b3 _ _ (Kd.C_below HR.out S.below) HC.out HP.out).mono ?_); rintro e w4 ⟨rfl, hb⟩; replace S := S.step hb; clear hb))
  go_ret
  obtain rfl := Option.some.inj H.out
  exact ⟨_, rfl, Kd.S_nil _ _ _ _ _, S.below⟩
 | true =>
  obtain ⟨t, ht, h⟩ := Option.bind_eq_some_iff.mp (show (clip_Tidy.f k l0).bind (fun t => clip_Line.go b0 b1 b2 b3 k t 1 (-1) [] []) = some r from by simpa using h)
  have HT := Aside0.mk ht
  have H' := Aside0.mk h
  clear h ht
  go_enter Try.func26, Try.ntmps26
  go_wp2_with (first | ((with_reducible refine gate_dst (N := 3) rfl ?_); refine box_event ?hg (N := 3) ?hd (cs := #[.int .i64 b0, .int .i64 b1, .int .i64 b2, .int .i64 b3]) (t := 40) ?hr ?_; (case hd => rfl); (case hg => rfl); (case hr => first | (go_simp; done) | (go_simp; rfl)); intro g3 hg w3 hbox hb; replace S := (S).box hg hbox hb; clear hbox hb hg; have cb_0 := blk_cell (S.at_box 0 rfl) 0; have cb_1 := blk_cell (S.at_box 0 rfl) 1; have cb_2 := blk_cell (S.at_box 0 rfl) 2; have cb_3 := blk_cell (S.at_box 0 rfl) 3; simp only [List.getElem?_toArray, List.getElem?_cons_zero, List.getElem?_cons_succ] at cb_0 cb_1 cb_2 cb_3) | (go_at_call 44; (with_reducible refine (clip_permitted.calls k _ _ l0 b0 b1 b2 b3 _ _ (Kd.C_below HR.out S.below) HC.out HP.out).mono ?_); rintro e w4 ⟨rfl, hb⟩; replace S := S.step hb; clear hb) | (go_at_call 27; (with_reducible refine (clip_Tidy.calls k _ _ l0 t _ (Kd.C_below HR.out S.below) HC.out HT.out).mono ?_); rintro e w5 ⟨v7, rfl, ho, hb⟩; replace S := S.own ho hb; clear ho hb; obtain ⟨A7, n7, c7, ev7⟩ := R_form (S.at_own 0 rfl); have hlen : n7 = t.length := (by obtain ⟨_, _, h_, _⟩ := (S.own_reads 0 rfl); rw [ev7] at h_; injection h_); subst ev7; subst hlen))
  clear cb_0 cb_1 cb_2 cb_3
  have hlen : t.length ≤ 9223372036854775807 := (S.own_C 0 rfl).2.1
  go_loopg [5, 6, 8] k (fun kq v5 v6 v8 w' => ∃ (i : Nat) (last : Int) (done : List (List S25)) (cur : List S25) (vs hs : List Value) (u : Value), v6 = .int .i64 last ∧ v8 = .int .i64 (i : Int) ∧ 1 ≤ i ∧ kq ≤ k ∧ Aside0 (hs = [] ∧ cur = [] ∨ hs = [u] ∧ 0 < cur.length) ∧ Aside0 (clip_Line.go b0 b1 b2 b3 kq t i last done cur = some r) ∧ Sep w w' [Hdr _ 30 v5 (vs ++ hs), Own _ k25 25 u cur, RowsB _ k25 25 vs done, Own _ k25 25 (.slice A7 t.length c7) t, Box _ g3 40 #[.int .i64 b0, .int .i64 b1, .int .i64 b2, .int .i64 b3]])
  case atStart => exact ⟨1, -1, [], [], [], [], .slice none 0 0, rfl, rfl, Nat.le_refl _, Nat.le_refl _, ⟨.inl ⟨rfl, rfl⟩⟩, H', (((S.rowsB_nil k25 25).nil k25 25).hdr_nil 30)⟩
  case round =>
   clear H' S
   obtain ⟨i, last, done, cur, vs, hs, u, rfl, rfl, hi, hkk, HD, H, S⟩ := hrel
   cases gk with
   | zero => exact absurd H.out (by simp [clip_Line.go])
   | succ kk =>
    by_cases hlt : i < t.length
    ·have h := H.out
     rw [clip_Line.go, if_pos hlt] at h
     by_cases hlim : done.length < 1099511627776 ∧ cur.length < 1099511627776
     ·rw [if_pos hlim] at h
      obtain ⟨⟨p0, p1, q0, q1, okb⟩, hpc, h⟩ := Option.bind_eq_some_iff.mp h
      have HPC := Aside0.mk hpc
      have HH := Aside0.mk h
      clear h hpc H
      dsimp only at HH
      obtain ⟨ad1, e1, hx1_0, hx1_1⟩ := at_T25 (S.own_C 3 rfl) ((i : Int) - 1) (by omega) (by omega)
      cases e1
      obtain ⟨ad2, e2, hx2_0, hx2_1⟩ := at_T25 (S.own_C 3 rfl) (i : Int) (by omega) (by omega)
      obtain rfl := Option.some.inj e2
      have hi1 : ((i : Int) - 1).toNat = i - 1 := by omega
      simp only [Int.toNat_natCast, hi1] at hx1_0 hx1_1 hx2_0 hx2_1
      have cb_0 := blk_cell (S.at_box 4 rfl) 0
      have cb_1 := blk_cell (S.at_box 4 rfl) 1
      have cb_2 := blk_cell (S.at_box 4 rfl) 2
      have cb_3 := blk_cell (S.at_box 4 rfl) 3
      simp only [List.getElem?_toArray, List.getElem?_cons_zero, List.getElem?_cons_succ] at cb_0 cb_1 cb_2 cb_3
      have hw1 : IntKind.i64.wrap ((i : Int) - 1) = (i : Int) - 1 := IntWalk.i64_in _ (by omega)
      have p1_ : (0 : Int) ≤ (i : Int) - 1 := by omega
      have q1_ : (i : Int) - 1 < (t.length : Int) := by omega
      have p1_a : (1 : Int) ≤ (i : Int) := by omega
      have p1_b : (0 : Int) < (i : Int) := by omega
      have p1_c : 0 < i := by omega
      go_wp2_with fail
      go_cut [9, 10, 11] (fun v9 v10 v11 w' => ∃ g9 g10 : Nat, v9 = .pointer (some ⟨g9, 0, none⟩) ∧ v10 = .pointer (some ⟨g10, 0, none⟩) ∧ v11 = .bool okb ∧ Sep w w' [Box _ g9 25 #[.int .i64 p0, .int .i64 p1], Box _ g10 25 #[.int .i64 q0, .int .i64 q1], Hdr _ 30 u5 (vs ++ hs), Own _ k25 25 u cur, RowsB _ k25 25 vs done, Own _ k25 25 (.slice (some ad1) t.length c7) t, Box _ g3 40 #[.int .i64 b0, .int .i64 b1, .int .i64 b2, .int .i64 b3]])
      case first =>
       have nn0 : wr.heap.size ≠ (ad1.add ((i - 1) * 2)).block := World.new_ne _ _ hx1_0
       have nm0 : wr.heap.size + 1 ≠ (ad1.add ((i - 1) * 2)).block := Nat.ne_of_gt (Nat.lt_succ_of_lt (World.block_lt_of_cell? _ _ hx1_0))
       have nn1 : wr.heap.size ≠ (ad1.add (i * 2)).block := World.new_ne _ _ hx2_0
       have nm1 : wr.heap.size + 1 ≠ (ad1.add (i * 2)).block := Nat.ne_of_gt (Nat.lt_succ_of_lt (World.block_lt_of_cell? _ _ hx2_0))
       have nn3 : wr.heap.size ≠ g3 := World.new_ne _ _ cb_0
       have nm3 : wr.heap.size + 1 ≠ g3 := Nat.ne_of_gt (Nat.lt_succ_of_lt (World.block_lt_of_cell? _ _ cb_0))
       go_region_held3 (fun w' => w'.cell? (ad1.add ((i - 1) * 2)) = some (.int .i64 (rd_T25 t ((i : Int) - 1)).f0) ∧ w'.cell? { block := (ad1.add ((i - 1) * 2)).block, off := (ad1.add ((i - 1) * 2)).off + 1 } = some (.int .i64 (rd_T25 t ((i : Int) - 1)).f1) ∧ w'.cell? (ad1.add (i * 2)) = some (.int .i64 (rd_T25 t (i : Int)).f0) ∧ w'.cell? { block := (ad1.add (i * 2)).block, off := (ad1.add (i * 2)).off + 1 } = some (.int .i64 (rd_T25 t (i : Int)).f1) ∧ w'.cell? ⟨g3, 0, none⟩ = some (.int .i64 b0) ∧ w'.cell? ⟨g3, 1, none⟩ = some (.int .i64 b1) ∧ w'.cell? ⟨g3, 2, none⟩ = some (.int .i64 b2) ∧ w'.cell? ⟨g3, 3, none⟩ = some (.int .i64 b3)) (first | assumption | go_keep) (first | (go_at_call 45; (with_reducible refine (clip_piece.calls kk _ _ _ _ b0 b1 b2 b3 p0 p1 q0 q1 okb _ HPC.out).mono ?_); rintro e w9 ⟨rfl, hb⟩; have hS9 : w9.cell? (ad1.add ((i - 1) * 2)) = some (.int .i64 (rd_T25 t ((i : Int) - 1)).f0) ∧ w9.cell? { block := (ad1.add ((i - 1) * 2)).block, off := (ad1.add ((i - 1) * 2)).off + 1 } = some (.int .i64 (rd_T25 t ((i : Int) - 1)).f1) ∧ w9.cell? (ad1.add (i * 2)) = some (.int .i64 (rd_T25 t (i : Int)).f0) ∧ w9.cell? { block := (ad1.add (i * 2)).block, off := (ad1.add (i * 2)).off + 1 } = some (.int .i64 (rd_T25 t (i : Int)).f1) ∧ w9.cell? ⟨g3, 0, none⟩ = some (.int .i64 b0) ∧ w9.cell? ⟨g3, 1, none⟩ = some (.int .i64 b1) ∧ w9.cell? ⟨g3, 2, none⟩ = some (.int .i64 b2) ∧ w9.cell? ⟨g3, 3, none⟩ = some (.int .i64 b3) := ⟨pw_cell_below hb (by go_keep), pw_cell_below hb (by go_keep), pw_cell_below hb (by go_keep), pw_cell_below hb (by go_keep), pw_cell_below hb (by go_keep), pw_cell_below hb (by go_keep), pw_cell_below hb (by go_keep), pw_cell_below hb (by go_keep)⟩; (first | (have hA0 := alloc_kept hb; obtain ⟨ca0_0, ca0_1, fa0_0, fa0_1⟩ := two_cells hA0; obtain ⟨cb0, cb1, cb2, cb3, cb4, cb5, cb6, cb7, cb8, cb9⟩ := two_cells_new hA0 (.int .i64 0) (.int .i64 0); have nw0 : w9.heap.size ≠ (ad1.add ((i - 1) * 2)).block := World.new_ne _ _ hS9.1; have nw1 : w9.heap.size ≠ (ad1.add (i * 2)).block := World.new_ne _ _ hS9.2.2.1; have nw3 : w9.heap.size ≠ g3 := World.new_ne _ _ hS9.2.2.2.2.1) | (have hAA := alloc_kept2 hb; obtain ⟨hA0, hA1⟩ := hAA; obtain ⟨ca0_0, ca0_1, fa0_0, fa0_1⟩ := two_cells hA0; obtain ⟨ca1_0, ca1_1, fa1_0, fa1_1⟩ := two_cells hA1) | skip)))
       ·go_wp2_with fail
        go_meet
        case rel => exact ⟨_, _, rfl, rfl, rfl, (((S.drew.step hb).alloc _ 25).alloc' _ 25 (by simp)).swap⟩
       ·go_wp2_with fail
        go_meet
        case rel => exact ⟨_, _, rfl, rfl, rfl, ((S.drew.step hb).alloc _ 25).alloc' _ 25 (by simp)⟩
       ·go_wp2_with fail
        go_meet
        case rel => exact ⟨_, _, rfl, rfl, rfl, (((((((S.drew.alloc #[.int .i64 0, .int .i64 0] 25).step hb).alloc #[.int .i64 0, .int .i64 0] 25).set 1 rfl 0 (.int .i64 p0)).set 1 rfl 1 (.int .i64 p1)).set 0 rfl 0 (.int .i64 q0)).set 0 rfl 1 (.int .i64 q1)).swap⟩
       ·go_wp2_with fail
        go_meet
        case rel => exact ⟨_, _, rfl, rfl, rfl, (((((((S.drew.alloc #[.int .i64 0, .int .i64 0] 25).alloc' #[.int .i64 0, .int .i64 0] 25 (by simp)).step hb).set 1 rfl 0 (.int .i64 p0)).set 1 rfl 1 (.int .i64 p1)).set 0 rfl 0 (.int .i64 q0)).set 0 rfl 1 (.int .i64 q1)).swap⟩
       ·go_wp2_with fail
        go_meet
        case rel => exact ⟨_, _, rfl, rfl, rfl, (((((S.drew.alloc #[.int .i64 0, .int .i64 0] 25).step hb).alloc #[.int .i64 p0, .int .i64 p1] 25).set 1 rfl 0 (.int .i64 q0)).set 1 rfl 1 (.int .i64 q1))⟩
       ·go_wp2_with fail
        go_meet
        case rel => exact ⟨_, _, rfl, rfl, rfl, (((((((S.drew.alloc #[.int .i64 0, .int .i64 0] 25).alloc' #[.int .i64 0, .int .i64 0] 25 (by simp)).step hb).set 0 rfl 0 (.int .i64 p0)).set 0 rfl 1 (.int .i64 p1)).set 1 rfl 0 (.int .i64 q0)).set 1 rfl 1 (.int .i64 q1))⟩
      case rest =>
       clear S hx1_0 hx1_1 hx2_0 hx2_1 cb_0 cb_1 cb_2 cb_3 HPC
       obtain ⟨g9, g10, rfl, rfl, rfl, S⟩ := hcut
       have c9_0 := blk_cell (S.at_box 0 rfl) 0
       have c9_1 := blk_cell (S.at_box 0 rfl) 1
       have c10_0 := blk_cell (S.at_box 1 rfl) 0
       have c10_1 := blk_cell (S.at_box 1 rfl) 1
       simp only [List.getElem?_toArray, List.getElem?_cons_zero, List.getElem?_cons_succ] at c9_0 c9_1 c10_0 c10_1
       cases okb with
       | false =>
        have H2 := Aside0.mk (show clip_Line.go b0 b1 b2 b3 kk t (i + 1) last done cur = some r from by simpa using HH.out)
        clear HH
        go_wp2
        go_roundg kk
        case measure => omega
        case rel => exact ⟨i + 1, last, done, cur, vs, hs, u, rfl, by go_num, by omega, by omega, HD, H2, (S.drop 0).drop 0⟩
       | true =>
        obtain ⟨c, hc, hh⟩ := Option.bind_eq_some_iff.mp (show (clip_Line.meets t cur i last p0 p1).bind (fun c => if c = true then clip_Line.go b0 b1 b2 b3 kk t (i + 1) i done (cur ++ [⟨q0, q1⟩]) else clip_Line.go b0 b1 b2 b3 kk t (i + 1) i (if cur.length = 0 then done else done ++ [cur]) [⟨p0, p1⟩, ⟨q0, q1⟩]) = some r from by simpa using HH.out)
        have HM := Aside0.mk hc
        have H2 := Aside0.mk hh
        clear hc hh HH
        have hvl : vs.length = done.length := S.rowsB_len 4 rfl
        obtain ⟨A5, c5, ev5⟩ := S.hdr_form 2 rfl
        subst ev5
        obtain ⟨nO, hnO⟩ : ∃ n, n = (vs ++ hs).length := ⟨_, rfl⟩
        rw [← hnO] at S ⊢
        have hnb : nO ≤ 1099511627777 := by
         have : hs.length ≤ 1 := by rcases HD.out with ⟨rfl, _⟩ | ⟨rfl, _⟩ <;> simp
         rw [hnO, List.length_append]; omega
        have HN := Aside0.mk hnO
        clear hnO hvl
        go_wp2_with fail
        go_cut [73] (fun v73 w' => v73 = .bool c ∧ Sep w w' [Box _ g9 25 #[.int .i64 p0, .int .i64 p1], Box _ g10 25 #[.int .i64 q0, .int .i64 q1], Hdr _ 30 (.slice A5 nO c5) (vs ++ hs), Own _ k25 25 u cur, RowsB _ k25 25 vs done, Own _ k25 25 (.slice (some ad1) t.length c7) t, Box _ g3 40 #[.int .i64 b0, .int .i64 b1, .int .i64 b2, .int .i64 b3]])
        case first =>
         have HA1 := at_T25 (S.own_C 5 rfl) ((i : Int) - 1) (by omega) (by omega)
         obtain ⟨ad1_, e1, hx1_0, hx1_1⟩ := HA1
         obtain rfl := Option.some.inj e1
         simp only [hi1] at hx1_0 hx1_1
         rcases HD.out with ⟨rfl, rfl⟩ | ⟨rfl, hcur⟩
         ·skip
          by_cases h1 : last = (i : Int) - 1
          ·have d1 : (last == (i : Int) - 1) = true := beq_iff_eq.mpr h1
           by_cases h2 : p0 = (rd_T25 t ((i : Int) - 1)).f0 ∧ p1 = (rd_T25 t ((i : Int) - 1)).f1
           ·exact absurd HM.out (by simp [clip_Line.meets, h1, h2])
           ·obtain rfl : false = c := by
             have h3 := HM.out
             rw [clip_Line.meets, if_pos h1, if_neg h2] at h3
             exact Option.some.inj h3
            have d2 : (p0 == (rd_T25 t ((i : Int) - 1)).f0 && p1 == (rd_T25 t ((i : Int) - 1)).f1) = false := by
             rw [Bool.eq_false_iff]; intro h_; exact h2 (by simpa using h_)
            clear h2
            clear h1
            go_quiet (fail)
            go_wp2_with fail
            go_meet
            case rel => exact ⟨rfl, S.drewN _⟩
          ·obtain rfl : false = c := by
            have h3 := HM.out
            rw [clip_Line.meets, if_neg h1] at h3
            exact Option.some.inj h3
           have d1 : (last == (i : Int) - 1) = false := beq_eq_false_iff_ne.mpr h1
           clear h1
           go_quiet (fail)
           go_wp2_with fail
           go_meet
           case rel => exact ⟨rfl, S.drewN _⟩
         ·skip
          by_cases h1 : last = (i : Int) - 1
          ·have d1 : (last == (i : Int) - 1) = true := beq_iff_eq.mpr h1
           by_cases h2 : p0 = (rd_T25 t ((i : Int) - 1)).f0 ∧ p1 = (rd_T25 t ((i : Int) - 1)).f1
           ·have h3 := HM.out
            rw [clip_Line.meets, if_pos h1, if_pos h2, if_neg (by omega)] at h3
            have HCC := Aside0.mk (Option.some.inj h3)
            clear h3
            have d2 : (p0 == (rd_T25 t ((i : Int) - 1)).f0 && p1 == (rd_T25 t ((i : Int) - 1)).f1) = true := by
             rw [h2.1, h2.2]; simp
            obtain ⟨gO, cO, evO, hcO, hfO⟩ := S.hdr_cells 2 rfl (by simp)
            have hcu := hcO vs.length u (by simp)
            obtain ⟨Au, cu, evu, hcu2, hCu⟩ := S.own_reads 3 rfl
            subst evu
            injection evO with evO1 evO2 evO3
            subst evO1 evO3
            clear evO2
            have hn1 : nO = vs.length + 1 := by have := HN.out; simp at this; omega
            have hcu1 : wc.cell? ⟨gO, nO - 1, none⟩ = some (.slice Au cur.length cu) := by rw [hn1]; exact hcu
            have hcu3 : wc.cell? ((⟨gO, 0, none⟩ : Addr).add (nO - 1)) = some (.slice Au cur.length cu) := by rw [add_plain]; exact hcu1
            have pO : (0 : Int) ≤ (nO : Int) - 1 := by omega
            have pO1 : (1 : Int) ≤ (nO : Int) := by omega
            have pO2 : 0 < nO := by omega
            have qO : (nO : Int) - 1 < (nO : Int) := by omega
            have pC : (0 : Int) ≤ (cur.length : Int) - 1 := by omega
            have pC1 : (1 : Int) ≤ (cur.length : Int) := by omega
            have pC2 : 0 < cur.length := by omega
            have qC : (cur.length : Int) - 1 < (cur.length : Int) := by omega
            clear hcu hn1
            obtain ⟨ad2, e2_, hx2_0, hx2_1⟩ := at_T25 hCu ((cur.length : Int) - 1) (by omega) (by omega)
            subst e2_
            have hi2 : ((cur.length : Int) - 1).toNat = cur.length - 1 := by omega
            simp only [hi2] at hx2_0 hx2_1
            have hw2 : IntKind.i64.wrap ((cur.length : Int) - 1) = (cur.length : Int) - 1 := IntWalk.i64_in _ (by omega)
            clear h2
            cases c with
            | true =>
             have d3 : ((rd_T25 cur ((cur.length : Int) - 1)).f0 == p0 && (rd_T25 cur ((cur.length : Int) - 1)).f1 == p1) = true := by
              have h3 := HCC.out
              have h4 := of_decide_eq_true h3
              rw [h4.1, h4.2]; simp
             clear h1
             go_quiet (fail)
             go_wp2_with fail
             go_meet
             case rel => exact ⟨rfl, S.drewN _⟩
            | false =>
             have d3 : ((rd_T25 cur ((cur.length : Int) - 1)).f0 == p0 && (rd_T25 cur ((cur.length : Int) - 1)).f1 == p1) = false := by
              have h3 := HCC.out
              have h4 := of_decide_eq_false h3
              rw [Bool.eq_false_iff]; intro h_; exact h4 (by simpa using h_)
             clear h1
             go_quiet (fail)
             go_wp2_with fail
             go_meet
             case rel => exact ⟨rfl, S.drewN _⟩
           ·obtain rfl : false = c := by
             have h3 := HM.out
             rw [clip_Line.meets, if_pos h1, if_neg h2] at h3
             exact Option.some.inj h3
            have d2 : (p0 == (rd_T25 t ((i : Int) - 1)).f0 && p1 == (rd_T25 t ((i : Int) - 1)).f1) = false := by
             rw [Bool.eq_false_iff]; intro h_; exact h2 (by simpa using h_)
            clear h2
            clear h1
            go_quiet (fail)
            go_wp2_with fail
            go_meet
            case rel => exact ⟨rfl, S.drewN _⟩
          ·obtain rfl : false = c := by
            have h3 := HM.out
            rw [clip_Line.meets, if_neg h1] at h3
            exact Option.some.inj h3
           have d1 : (last == (i : Int) - 1) = false := beq_eq_false_iff_ne.mpr h1
           clear h1
           go_quiet (fail)
           go_wp2_with fail
           go_meet
           case rel => exact ⟨rfl, S.drewN _⟩
        case rest =>
         clear S c9_0 c9_1 c10_0 c10_1
         obtain ⟨rfl, S⟩ := hcut
         have c9_0 := blk_cell (S.at_box 0 rfl) 0
         have c9_1 := blk_cell (S.at_box 0 rfl) 1
         have c10_0 := blk_cell (S.at_box 1 rfl) 0
         have c10_1 := blk_cell (S.at_box 1 rfl) 1
         simp only [List.getElem?_toArray, List.getElem?_cons_zero, List.getElem?_cons_succ] at c9_0 c9_1 c10_0 c10_1
         cases c with
         | false =>
          have H3 := Aside0.mk (show clip_Line.go b0 b1 b2 b3 kk t (i + 1) i (if cur.length = 0 then done else done ++ [cur]) [⟨p0, p1⟩, ⟨q0, q1⟩] = some r by simpa using H2.out)
          clear H2 HM
          go_wp2_with (first | ((with_reducible refine gate_dst (N := 87) rfl ?_); refine Kd.R_lit k25 _ 25 ?hg (N := 87) ?hd (xs := [⟨p0, p1⟩, ⟨q0, q1⟩]) (inner := [.int .i64 p0, .int .i64 p1, .int .i64 q0, .int .i64 q1]) (ok := fun _ => True) (okp := fun _ => True) ?hr ?hp (fun _ _ => trivial) trivial (Below.refl _ _) (Nat.le_refl _) (by simp) ?_; (case hd => rfl); (case hg => rfl); (case hr => first | (go_simp; done) | (go_simp; rfl)); (case hp => exact (Reps.c2 (show Kd.M k25 _ _ _ (⟨p0, p1⟩ : S25) [.int .i64 p0, .int .i64 p1] from k25_mkM _ _ _ _) (Reps.c2 (show Kd.M k25 _ _ _ (⟨q0, q1⟩ : S25) [.int .i64 q0, .int .i64 q1] from k25_mkM _ _ _ _) (Reps.none _ _)))); intro v87 w87 ho hb hg hat; replace S := S.own ho hb; clear ho hb hg hat; obtain ⟨A87, n87, c87, ev87⟩ := R_form (S.at_own 0 rfl); subst ev87) | ((with_reducible refine gate_builtin (b := .append) (xs := #[.tmp 84, .tmp 88]) rfl ?_); at_builtin; obtain ⟨ho, hup⟩ := S.hdr_append 3 rfl; refine print_append_cells (w0 := w) w.heap.size rfl (.tmp 84) (.tmp 88) 32 30 (.slice none 0 0) 1 24 rfl Try.underlying32 info30 rfl (by decide) (by omega) _ _ (vs ++ hs) [.slice A87 n87 c87] rfl rfl rfl (by simp [Value.oneCell']) ho S.below S.size (by have := HN.out; omega) ?_; intro v5 w5_ hown hb hg hat; have hown' := Aside0.mk hown; replace S := hup v5 w5_ (vs ++ hs ++ [.slice A87 n87 c87]) (by rw [show (vs ++ hs ++ [Value.slice A87 n87 c87]).length = (vs ++ hs).length + 1 from (by rw [List.length_append]; rfl)]; exact hown'.out) hb hg hat; clear ho hup hown hown' hb hg hat))
          go_roundg kk
          case measure => omega
          case rel =>
           rcases HD.out with ⟨rfl, rfl⟩ | ⟨rfl, hcur⟩
           ·exact ⟨i + 1, i, done, [⟨p0, p1⟩, ⟨q0, q1⟩], vs ++ [], [.slice A87 n87 c87], .slice A87 n87 c87, rfl, by go_num, by omega, by omega, ⟨.inr ⟨rfl, by simp⟩⟩, H3, (by have S2 := ((((S.drop 1).drop 1).swap).drop 2); rw [List.append_nil] at S2 ⊢; exact S2)⟩
           ·refine ⟨i + 1, i, done ++ [cur], [⟨p0, p1⟩, ⟨q0, q1⟩], vs ++ [u], [.slice A87 n87 c87], .slice A87 n87 c87, rfl, by go_num, by omega, by omega, ⟨.inr ⟨rfl, by simp⟩⟩, ?_, ?_⟩
            ·have h := H3.out
             rw [if_neg (by omega)] at h
             exact ⟨h⟩
            ·exact (((S.drop 1).drop 1).swap).under (SepI.under (SepI.under SepI.rows))
         | true =>
          have H3 := Aside0.mk (show clip_Line.go b0 b1 b2 b3 kk t (i + 1) i done (cur ++ [⟨q0, q1⟩]) = some r by simpa using H2.out)
          clear H2
          rcases HD.out with ⟨rfl, rfl⟩ | ⟨rfl, hcur⟩
          ·have h3 := HM.out
           rw [clip_Line.meets] at h3
           split at h3
           ·split at h3 <;> simp at h3
           ·simp at h3
          ·clear HM
           obtain ⟨gO, cO, evO, hcO, hfO⟩ := S.hdr_cells 2 rfl (by simp)
           injection evO with evO1 evO2 evO3
           subst evO1 evO3
           clear evO2
           obtain ⟨Au, cu, evu, hcu2, hCu⟩ := S.own_reads 3 rfl
           subst evu
           have hn1 : nO = vs.length + 1 := by have := HN.out; simp at this; omega
           have hn2 : nO - 1 = vs.length := by omega
           have pO : (0 : Int) ≤ (vs.length : Int) := by omega
           have qO : (vs.length : Int) < (nO : Int) := by omega
           have qO2 : vs.length < nO := by omega
           have eO : (nO : Int) - 1 = (vs.length : Int) := by omega
           have h79 := hcO vs.length (.slice Au cur.length cu) (by simp)
           have h79a := fun o => alloc_cell h79 o
           obtain ⟨APok, APR, APnew, APup⟩ := S.drew.append 3 rfl
           rw [eO]
           have EN := Aside0.mk hn1
           clear hcu2 hCu hcO hfO hn1 hn2 eO hcur
           go_wp2_with fail
           go_region_law (first | (refine Kd.R_append_step k25 (w0 := w) w.heap.size (by rfl) (.tmp 79) (.tmp 81) 30 25 (.agg #[.int .i64 0, .int .i64 0]) 16 rfl Try.underlying30 info25 rfl (by decide) (by omega) (.slice Au cur.length cu) cur ⟨q0, q1⟩ [.int .i64 q0, .int .i64 q1] APok (fun _ => False) rfl rfl (k25_mkM _ _ _ _) (fun _ h => h.elim) APnew APR S.drew.below S.drew.size (by omega) ?_; intro v82 w82 ho hb hg hat; obtain ⟨A82, n82, c82, ev82⟩ := R_form ho; subst ev82; have S2 := APup _ w82 _ ho hb hg; clear ho hb hg hat; have hcf := S2.hdr_at (u := .slice Au cur.length cu) 2 rfl vs.length (by simp); have hc82 := hcf.1; have hf82 := hcf.2))
           all_goals go_wp2_with fail
           all_goals go_roundg kk
           all_goals first
            | (case measure => omega)
            | (case rel => exact ⟨i + 1, i, done, cur ++ [⟨q0, q1⟩], vs, [.slice A82 n82 c82], .slice A82 n82 c82, rfl, by go_num, by omega, by omega, ⟨.inr ⟨rfl, by simp⟩⟩, H3, (by
              have S3 := ((S2.hdr_put 2 rfl vs.length (Value.slice A82 n82 c82)).drop 0).drop 0
              rw [show (vs ++ [(Value.slice Au cur.length cu)]).set vs.length (Value.slice A82 n82 c82) = vs ++ [(Value.slice A82 n82 c82)] by simp] at S3
              exact S3)⟩)
     ·rw [if_neg hlim] at h
      exact absurd h (by simp)
    ·have H2 := Aside0.mk (show (if cur.length = 0 then done else done ++ [cur]) = r by
      have h := H.out
      rw [clip_Line.go, if_neg hlt] at h
      exact Option.some.inj h)
     clear H
     go_wp2
     go_ret
     rcases HD.out with ⟨rfl, rfl⟩ | ⟨rfl, hc⟩
     ·have e : done = r := by simpa using H2.out
      subst e
      rw [List.append_nil] at S
      exact ⟨_, rfl, ((S.drop 1)).joinedS, S.below⟩
     ·have e : done ++ [cur] = r := by
       have h := H2.out
       rwa [if_neg (by omega)] at h
      subst e
      exact ⟨_, rfl, (Sep.joinedS (L := _) (show Sep w _ (Hdr _ 30 _ (vs ++ [u]) :: RowsB _ k25 25 (vs ++ [u]) (done ++ [cur]) :: _) from S.rows1)), S.below⟩
theorem clip_Line.go_mono (b0 b1 b2 b3 : Int) : ∀ k t i last done cur, LeO (clip_Line.go b0 b1 b2 b3 k t i last done cur) (clip_Line.go b0 b1 b2 b3 (k + 1) t i last done cur)
 | 0, _, _, _, _, _ => fun r h => by simp [clip_Line.go] at h
 | k + 1, t, i, last, done, cur => by
  have ih := clip_Line.go_mono b0 b1 b2 b3 k
  unfold clip_Line.go
  repeat' first
   | exact ih _ _ _ _ _
   | exact clip_piece.mono _ _ _ _ _ _ _ _ _
   | exact LeO.refl _
   | exact LeO.none _
   | refine LeO.ite ?_ ?_
   | refine LeO.bind ?_ (fun _ => ?_)
theorem clip_Line.mono : ∀ a0 a1 a2 a3 a4 k, LeO (clip_Line.f k a0 a1 a2 a3 a4) (clip_Line.f (k + 1) a0 a1 a2 a3 a4) := by
 intro a0 a1 a2 a3 a4 k
 unfold clip_Line.f
 exact LeO.bind (clip_permitted.mono _ _ _ _ _ _) (fun _ => LeO.ite (LeO.bind (clip_Tidy.mono _ _) (fun _ => clip_Line.go_mono _ _ _ _ _ _ _ _ _ _)) (LeO.refl _))


end Go.Proofs.Ytdkegdnfbpobnaa.PARS
