-- Laid by a program of this work (wip/gen): out of the translation, with texts of our own.
import Derived.Test.YtbgabhdhheplgaaPALLx0
import Derived.Test.YtbgabhdhheplgaaPALLx1
import Derived.Test.YtbgabhdhheplgaaPALLx2
import Derived.Test.YtbgabhdhheplgaaPALLx6
namespace Go.Proofs.Ytbgabhdhheplgaa.PALL
open Go.RowKit Go.Proofs.YtbgabhdhheplgaaW.PrintWords Go.Proofs.YtbgabhdhheplgaaW.PrintLast Go.Proofs.YtbgabhdhheplgaaW.PrintMore Go.Proofs.YtbgabhdhheplgaaW.SepW
attribute [local go_sem] max2_int min2_int max_two min_two max_three min_three max_four min_four   -- for this text's walks alone
set_option linter.unusedVariables false
set_option linter.unusedSimpArgs false

attribute [local go_sem high] eqA37
/-! by hand -/
/-! ### clip_Line: function 18 -/

/-- Does a part go on: the segment before gave something, its end was not cut, and this one begins there. -/
def clip_Line.meets (t cur : List S37) (i last p0 p1 : Int) : Option Bool :=
  if last = i - 1 then
    if p0 = (rd_T37 t (i - 1)).f0 ∧ p1 = (rd_T37 t (i - 1)).f1 then
      if cur.length = 0 then none
      else some (decide ((rd_T37 cur ((cur.length : Int) - 1)).f0 = p0 ∧ (rd_T37 cur ((cur.length : Int) - 1)).f1 = p1))
    else some false
  else some false
/-- From segment i on: the last segment that gave something, the parts that are done, the part that may go on. -/
def clip_Line.go (b0 b1 b2 b3 : Int) : Nat → List S37 → Nat → Int → List (List S37) → List S37 → Option (List (List S37))
  | 0, _, _, _, _, _ => none
  | k + 1, t, i, last, done, cur =>
    if i < t.length then
      if done.length < 1099511627776 ∧ cur.length < 1099511627776 then
        (clip_piece.f k (rd_T37 t ((i : Int) - 1)).f0 (rd_T37 t ((i : Int) - 1)).f1 (rd_T37 t i).f0 (rd_T37 t i).f1 b0 b1 b2 b3).bind fun r =>
          if r.2.2.2.2 = true then
            (clip_Line.meets t cur i last r.1 r.2.1).bind fun c =>
              if c = true then clip_Line.go b0 b1 b2 b3 k t (i + 1) i done (cur ++ [⟨r.2.2.1, r.2.2.2.1⟩])
              else clip_Line.go b0 b1 b2 b3 k t (i + 1) i (if cur.length = 0 then done else done ++ [cur]) [⟨r.1, r.2.1⟩, ⟨r.2.2.1, r.2.2.2.1⟩]
          else clip_Line.go b0 b1 b2 b3 k t (i + 1) last done cur
      else none
    else some (if cur.length = 0 then done else done ++ [cur])
def clip_Line.f (k : Nat) (l0 : List S37) (b0 b1 b2 b3 : Int) : Option (List (List S37)) :=
  (clip_permitted.f k l0 b0 b1 b2 b3).bind fun ok => if ok = true then (clip_Tidy.f k l0).bind fun t => clip_Line.go b0 b1 b2 b3 k t 1 (-1) [] [] else some []

set_option maxHeartbeats 4000000 in
set_option maxRecDepth 100000 in
theorem clip_Line.calls (k : Nat) (A0 : Option Addr) (c0 : Nat) (l0 : List S37) (b0 b1 b2 b3 : Int) (r : List (List S37)) (w : World) (hr0 : Kd.C k37 w A0 l0.length l0) (hc0 : l0.length ≤ c0) (h : clip_Line.f k l0 b0 b1 b2 b3 = some r) :
    Calls Try.prog 18 #[.slice A0 l0.length c0, .agg #[.int .i64 b0, .int .i64 b1, .int .i64 b2, .int .i64 b3]] w fun e w' => ∃ v0_ : Value, e = .returned (v0_) ∧ Kd.S (Kd.slice 37 k37) 22 w' w.heap.size (fun _ => True) v0_ r ∧ Below w.heap.size w w' := by
  have hu22 := Try.underlying22
  have hu28 := Try.underlying28
  have hu32 := Try.underlying32
  have hu37 := Try.underlying37
  have HR := Aside0.mk hr0
  have HC := Aside0.mk hc0
  clear hr0 hc0
  unfold clip_Line.f at h
  obtain ⟨ok, hp, h⟩ := Option.bind_eq_some_iff.mp h
  have HP := Aside0.mk hp
  have S := Sep.start w
  clear hp
  cases ok with
  | false =>
    have H := Aside0.mk (show some [] = some r from by simpa using h)
    clear h
    go_enter Try.func18, Try.ntmps18
    go_wp2_with (first | ((with_reducible refine gate_dst (N := 3) rfl ?_); refine box_event ?hg (N := 3) ?hd (cs := #[.int .i64 b0, .int .i64 b1, .int .i64 b2, .int .i64 b3]) (t := 28) ?hr ?_; (case hd => rfl); (case hg => rfl); (case hr => first | (go_simp; done) | (go_simp; rfl)); intro g3 hg w3 hbox hb; replace S := (S).box hg hbox hb; clear hbox hb hg; have cb_0 := blk_cell (S.at_box 0 rfl) 0; have cb_1 := blk_cell (S.at_box 0 rfl) 1; have cb_2 := blk_cell (S.at_box 0 rfl) 2; have cb_3 := blk_cell (S.at_box 0 rfl) 3; simp only [List.getElem?_toArray, List.getElem?_cons_zero, List.getElem?_cons_succ] at cb_0 cb_1 cb_2 cb_3) | (go_at_call 25; (with_reducible refine (clip_permitted.calls k _ _ l0 b0 b1 b2 b3 _ _ (Kd.C_below HR.out S.below) HC.out HP.out).mono ?_); rintro e w4 ⟨rfl, hb⟩; replace S := S.step hb; clear hb))
    go_ret
    obtain rfl := Option.some.inj H.out
    exact ⟨_, rfl, Kd.S_nil _ _ _ _ _, S.below⟩
  | true =>
    obtain ⟨t, ht, h⟩ := Option.bind_eq_some_iff.mp (show (clip_Tidy.f k l0).bind (fun t => clip_Line.go b0 b1 b2 b3 k t 1 (-1) [] []) = some r from by simpa using h)
    have HT := Aside0.mk ht
    have H' := Aside0.mk h
    clear h ht
    go_enter Try.func18, Try.ntmps18
    go_wp2_with (first | ((with_reducible refine gate_dst (N := 3) rfl ?_); refine box_event ?hg (N := 3) ?hd (cs := #[.int .i64 b0, .int .i64 b1, .int .i64 b2, .int .i64 b3]) (t := 28) ?hr ?_; (case hd => rfl); (case hg => rfl); (case hr => first | (go_simp; done) | (go_simp; rfl)); intro g3 hg w3 hbox hb; replace S := (S).box hg hbox hb; clear hbox hb hg; have cb_0 := blk_cell (S.at_box 0 rfl) 0; have cb_1 := blk_cell (S.at_box 0 rfl) 1; have cb_2 := blk_cell (S.at_box 0 rfl) 2; have cb_3 := blk_cell (S.at_box 0 rfl) 3; simp only [List.getElem?_toArray, List.getElem?_cons_zero, List.getElem?_cons_succ] at cb_0 cb_1 cb_2 cb_3) | (go_at_call 25; (with_reducible refine (clip_permitted.calls k _ _ l0 b0 b1 b2 b3 _ _ (Kd.C_below HR.out S.below) HC.out HP.out).mono ?_); rintro e w4 ⟨rfl, hb⟩; replace S := S.step hb; clear hb) | (go_at_call 11; (with_reducible refine (clip_Tidy.calls k _ _ l0 t _ (Kd.C_below HR.out S.below) HC.out HT.out).mono ?_); rintro e w5 ⟨v7, rfl, ho, hb⟩; replace S := S.own ho hb; clear ho hb; obtain ⟨A7, n7, c7, ev7⟩ := R_form (S.at_own 0 rfl); have hlen : n7 = t.length := (by obtain ⟨_, _, h_, _⟩ := (S.own_reads 0 rfl); rw [ev7] at h_; injection h_); subst ev7; subst hlen))
    clear cb_0 cb_1 cb_2 cb_3
    have hlen : t.length ≤ 9223372036854775807 := (S.own_C 0 rfl).2.1
    go_loopg [5, 6, 8] k (fun kq v5 v6 v8 w' => ∃ (i : Nat) (last : Int) (done : List (List S37)) (cur : List S37) (vs hs : List Value) (u : Value), v6 = .int .i64 last ∧ v8 = .int .i64 (i : Int) ∧ 1 ≤ i ∧ kq ≤ k ∧ Aside0 (hs = [] ∧ cur = [] ∨ hs = [u] ∧ 0 < cur.length) ∧ Aside0 (clip_Line.go b0 b1 b2 b3 kq t i last done cur = some r) ∧ Sep w w' [Hdr _ 22 v5 (vs ++ hs), Own _ k37 37 u cur, RowsB _ k37 37 vs done, Own _ k37 37 (.slice A7 t.length c7) t, Box _ g3 28 #[.int .i64 b0, .int .i64 b1, .int .i64 b2, .int .i64 b3]])
    case atStart => exact ⟨1, -1, [], [], [], [], .slice none 0 0, rfl, rfl, Nat.le_refl _, Nat.le_refl _, ⟨.inl ⟨rfl, rfl⟩⟩, H', (((S.rowsB_nil k37 37).nil k37 37).hdr_nil 22)⟩
    case round =>
      clear H' S
      obtain ⟨i, last, done, cur, vs, hs, u, rfl, rfl, hi, hkk, HD, H, S⟩ := hrel
      cases gk with
      | zero => exact absurd H.out (by simp [clip_Line.go])
      | succ kk =>
        by_cases hlt : i < t.length
        · have h := H.out
          rw [clip_Line.go, if_pos hlt] at h
          by_cases hlim : done.length < 1099511627776 ∧ cur.length < 1099511627776
          · rw [if_pos hlim] at h
            obtain ⟨⟨p0, p1, q0, q1, okb⟩, hpc, h⟩ := Option.bind_eq_some_iff.mp h
            have HPC := Aside0.mk hpc
            have HH := Aside0.mk h
            clear h hpc H
            dsimp only at HH
            obtain ⟨ad1, e1, hx1_0, hx1_1⟩ := at_T37 (S.own_C 3 rfl) ((i : Int) - 1) (by omega) (by omega)
            cases e1
            obtain ⟨ad2, e2, hx2_0, hx2_1⟩ := at_T37 (S.own_C 3 rfl) (i : Int) (by omega) (by omega)
            obtain rfl := Option.some.inj e2
            have hi1 : ((i : Int) - 1).toNat = i - 1 := by omega
            simp only [Int.toNat_natCast, hi1] at hx1_0 hx1_1 hx2_0 hx2_1
            have cb_0 := blk_cell (S.at_box 4 rfl) 0
            have cb_1 := blk_cell (S.at_box 4 rfl) 1
            have cb_2 := blk_cell (S.at_box 4 rfl) 2
            have cb_3 := blk_cell (S.at_box 4 rfl) 3
            simp only [List.getElem?_toArray, List.getElem?_cons_zero, List.getElem?_cons_succ] at cb_0 cb_1 cb_2 cb_3
            have hw1 : IntKind.i64.wrap ((i : Int) - 1) = (i : Int) - 1 := IntWalk.i64_in _ (by omega)
            have p1_ : (0 : Int) ≤ (i : Int) - 1 := by omega
            have q1_ : (i : Int) - 1 < (t.length : Int) := by omega
            have p1_a : (1 : Int) ≤ (i : Int) := by omega
            have p1_b : (0 : Int) < (i : Int) := by omega
            have p1_c : 0 < i := by omega
            go_wp2_with fail
            go_cut [9, 10, 11] (fun v9 v10 v11 w' => ∃ g9 g10 : Nat, v9 = .pointer (some ⟨g9, 0, none⟩) ∧ v10 = .pointer (some ⟨g10, 0, none⟩) ∧ v11 = .bool okb ∧ Sep w w' [Box _ g9 37 #[.int .i64 p0, .int .i64 p1], Box _ g10 37 #[.int .i64 q0, .int .i64 q1], Hdr _ 22 u5 (vs ++ hs), Own _ k37 37 u cur, RowsB _ k37 37 vs done, Own _ k37 37 (.slice (some ad1) t.length c7) t, Box _ g3 28 #[.int .i64 b0, .int .i64 b1, .int .i64 b2, .int .i64 b3]])
            case first =>
              have nn0 : wr.heap.size ≠ (ad1.add ((i - 1) * 2)).block := World.new_ne _ _ hx1_0
              have nm0 : wr.heap.size + 1 ≠ (ad1.add ((i - 1) * 2)).block := Nat.ne_of_gt (Nat.lt_succ_of_lt (World.block_lt_of_cell? _ _ hx1_0))
              have nn1 : wr.heap.size ≠ (ad1.add (i * 2)).block := World.new_ne _ _ hx2_0
              have nm1 : wr.heap.size + 1 ≠ (ad1.add (i * 2)).block := Nat.ne_of_gt (Nat.lt_succ_of_lt (World.block_lt_of_cell? _ _ hx2_0))
              have nn3 : wr.heap.size ≠ g3 := World.new_ne _ _ cb_0
              have nm3 : wr.heap.size + 1 ≠ g3 := Nat.ne_of_gt (Nat.lt_succ_of_lt (World.block_lt_of_cell? _ _ cb_0))
              go_region_held3 (fun w' => w'.cell? (ad1.add ((i - 1) * 2)) = some (.int .i64 (rd_T37 t ((i : Int) - 1)).f0) ∧ w'.cell? { block := (ad1.add ((i - 1) * 2)).block, off := (ad1.add ((i - 1) * 2)).off + 1 } = some (.int .i64 (rd_T37 t ((i : Int) - 1)).f1) ∧ w'.cell? (ad1.add (i * 2)) = some (.int .i64 (rd_T37 t (i : Int)).f0) ∧ w'.cell? { block := (ad1.add (i * 2)).block, off := (ad1.add (i * 2)).off + 1 } = some (.int .i64 (rd_T37 t (i : Int)).f1) ∧ w'.cell? ⟨g3, 0, none⟩ = some (.int .i64 b0) ∧ w'.cell? ⟨g3, 1, none⟩ = some (.int .i64 b1) ∧ w'.cell? ⟨g3, 2, none⟩ = some (.int .i64 b2) ∧ w'.cell? ⟨g3, 3, none⟩ = some (.int .i64 b3)) (first | assumption | go_keep) (first | (go_at_call 33; (with_reducible refine (clip_piece.calls kk _ _ _ _ b0 b1 b2 b3 p0 p1 q0 q1 okb _ HPC.out).mono ?_); rintro e w9 ⟨rfl, hb⟩; have hS9 : w9.cell? (ad1.add ((i - 1) * 2)) = some (.int .i64 (rd_T37 t ((i : Int) - 1)).f0) ∧ w9.cell? { block := (ad1.add ((i - 1) * 2)).block, off := (ad1.add ((i - 1) * 2)).off + 1 } = some (.int .i64 (rd_T37 t ((i : Int) - 1)).f1) ∧ w9.cell? (ad1.add (i * 2)) = some (.int .i64 (rd_T37 t (i : Int)).f0) ∧ w9.cell? { block := (ad1.add (i * 2)).block, off := (ad1.add (i * 2)).off + 1 } = some (.int .i64 (rd_T37 t (i : Int)).f1) ∧ w9.cell? ⟨g3, 0, none⟩ = some (.int .i64 b0) ∧ w9.cell? ⟨g3, 1, none⟩ = some (.int .i64 b1) ∧ w9.cell? ⟨g3, 2, none⟩ = some (.int .i64 b2) ∧ w9.cell? ⟨g3, 3, none⟩ = some (.int .i64 b3) := ⟨pw_cell_below hb (by go_keep), pw_cell_below hb (by go_keep), pw_cell_below hb (by go_keep), pw_cell_below hb (by go_keep), pw_cell_below hb (by go_keep), pw_cell_below hb (by go_keep), pw_cell_below hb (by go_keep), pw_cell_below hb (by go_keep)⟩; (first | (have hA0 := alloc_kept hb; obtain ⟨ca0_0, ca0_1, fa0_0, fa0_1⟩ := two_cells hA0; obtain ⟨cb0, cb1, cb2, cb3, cb4, cb5, cb6, cb7, cb8, cb9⟩ := two_cells_new hA0 (.int .i64 0) (.int .i64 0); have nw0 : w9.heap.size ≠ (ad1.add ((i - 1) * 2)).block := World.new_ne _ _ hS9.1; have nw1 : w9.heap.size ≠ (ad1.add (i * 2)).block := World.new_ne _ _ hS9.2.2.1; have nw3 : w9.heap.size ≠ g3 := World.new_ne _ _ hS9.2.2.2.2.1) | (have hAA := alloc_kept2 hb; obtain ⟨hA0, hA1⟩ := hAA; obtain ⟨ca0_0, ca0_1, fa0_0, fa0_1⟩ := two_cells hA0; obtain ⟨ca1_0, ca1_1, fa1_0, fa1_1⟩ := two_cells hA1) | skip)))
              · go_wp2_with fail
                go_meet
                case rel => exact ⟨_, _, rfl, rfl, rfl, (((S.drew.step hb).alloc _ 37).alloc' _ 37 (by simp)).swap⟩
              · go_wp2_with fail
                go_meet
                case rel => exact ⟨_, _, rfl, rfl, rfl, ((S.drew.step hb).alloc _ 37).alloc' _ 37 (by simp)⟩
              · go_wp2_with fail
                go_meet
                case rel => exact ⟨_, _, rfl, rfl, rfl, (((((((S.drew.alloc #[.int .i64 0, .int .i64 0] 37).step hb).alloc #[.int .i64 0, .int .i64 0] 37).set 1 rfl 0 (.int .i64 p0)).set 1 rfl 1 (.int .i64 p1)).set 0 rfl 0 (.int .i64 q0)).set 0 rfl 1 (.int .i64 q1)).swap⟩
              · go_wp2_with fail
                go_meet
                case rel => exact ⟨_, _, rfl, rfl, rfl, (((((((S.drew.alloc #[.int .i64 0, .int .i64 0] 37).alloc' #[.int .i64 0, .int .i64 0] 37 (by simp)).step hb).set 1 rfl 0 (.int .i64 p0)).set 1 rfl 1 (.int .i64 p1)).set 0 rfl 0 (.int .i64 q0)).set 0 rfl 1 (.int .i64 q1)).swap⟩
              · go_wp2_with fail
                go_meet
                case rel => exact ⟨_, _, rfl, rfl, rfl, (((((S.drew.alloc #[.int .i64 0, .int .i64 0] 37).step hb).alloc #[.int .i64 p0, .int .i64 p1] 37).set 1 rfl 0 (.int .i64 q0)).set 1 rfl 1 (.int .i64 q1))⟩
              · go_wp2_with fail
                go_meet
                case rel => exact ⟨_, _, rfl, rfl, rfl, (((((((S.drew.alloc #[.int .i64 0, .int .i64 0] 37).alloc' #[.int .i64 0, .int .i64 0] 37 (by simp)).step hb).set 0 rfl 0 (.int .i64 p0)).set 0 rfl 1 (.int .i64 p1)).set 1 rfl 0 (.int .i64 q0)).set 1 rfl 1 (.int .i64 q1))⟩
            case rest =>
              clear S hx1_0 hx1_1 hx2_0 hx2_1 cb_0 cb_1 cb_2 cb_3 HPC
              obtain ⟨g9, g10, rfl, rfl, rfl, S⟩ := hcut
              have c9_0 := blk_cell (S.at_box 0 rfl) 0
              have c9_1 := blk_cell (S.at_box 0 rfl) 1
              have c10_0 := blk_cell (S.at_box 1 rfl) 0
              have c10_1 := blk_cell (S.at_box 1 rfl) 1
              simp only [List.getElem?_toArray, List.getElem?_cons_zero, List.getElem?_cons_succ] at c9_0 c9_1 c10_0 c10_1
              cases okb with
              | false =>
                have H2 := Aside0.mk (show clip_Line.go b0 b1 b2 b3 kk t (i + 1) last done cur = some r from by simpa using HH.out)
                clear HH
                go_wp2
                go_roundg kk
                case measure => omega
                case rel => exact ⟨i + 1, last, done, cur, vs, hs, u, rfl, by go_num, by omega, by omega, HD, H2, (S.drop 0).drop 0⟩
              | true =>
                obtain ⟨c, hc, hh⟩ := Option.bind_eq_some_iff.mp (show (clip_Line.meets t cur i last p0 p1).bind (fun c => if c = true then clip_Line.go b0 b1 b2 b3 kk t (i + 1) i done (cur ++ [⟨q0, q1⟩]) else clip_Line.go b0 b1 b2 b3 kk t (i + 1) i (if cur.length = 0 then done else done ++ [cur]) [⟨p0, p1⟩, ⟨q0, q1⟩]) = some r from by simpa using HH.out)
                have HM := Aside0.mk hc
                have H2 := Aside0.mk hh
                clear hc hh HH
                have hvl : vs.length = done.length := S.rowsB_len 4 rfl
                obtain ⟨A5, c5, ev5⟩ := S.hdr_form 2 rfl
                subst ev5
                obtain ⟨nO, hnO⟩ : ∃ n, n = (vs ++ hs).length := ⟨_, rfl⟩
                rw [← hnO] at S ⊢
                have hnb : nO ≤ 1099511627777 := by
                  have : hs.length ≤ 1 := by rcases HD.out with ⟨rfl, _⟩ | ⟨rfl, _⟩ <;> simp
                  rw [hnO, List.length_append]; omega
                have HN := Aside0.mk hnO
                clear hnO hvl
                go_wp2_with fail
                go_cut [73] (fun v73 w' => v73 = .bool c ∧ Sep w w' [Box _ g9 37 #[.int .i64 p0, .int .i64 p1], Box _ g10 37 #[.int .i64 q0, .int .i64 q1], Hdr _ 22 (.slice A5 nO c5) (vs ++ hs), Own _ k37 37 u cur, RowsB _ k37 37 vs done, Own _ k37 37 (.slice (some ad1) t.length c7) t, Box _ g3 28 #[.int .i64 b0, .int .i64 b1, .int .i64 b2, .int .i64 b3]])
                case first =>
                  have HA1 := at_T37 (S.own_C 5 rfl) ((i : Int) - 1) (by omega) (by omega)
                  obtain ⟨ad1_, e1, hx1_0, hx1_1⟩ := HA1
                  obtain rfl := Option.some.inj e1
                  simp only [hi1] at hx1_0 hx1_1
                  rcases HD.out with ⟨rfl, rfl⟩ | ⟨rfl, hcur⟩
                  · skip
                    by_cases h1 : last = (i : Int) - 1
                    · have d1 : (last == (i : Int) - 1) = true := beq_iff_eq.mpr h1
                      by_cases h2 : p0 = (rd_T37 t ((i : Int) - 1)).f0 ∧ p1 = (rd_T37 t ((i : Int) - 1)).f1
                      · exact absurd HM.out (by simp [clip_Line.meets, h1, h2])
                      · obtain rfl : false = c := by
                          have h3 := HM.out
                          rw [clip_Line.meets, if_pos h1, if_neg h2] at h3
                          exact Option.some.inj h3
                        have d2 : (p0 == (rd_T37 t ((i : Int) - 1)).f0 && p1 == (rd_T37 t ((i : Int) - 1)).f1) = false := by
                          rw [Bool.eq_false_iff]; intro h_; exact h2 (by simpa using h_)
                        clear h2
                        clear h1
                        go_quiet (fail)
                        go_wp2_with fail
                        go_meet
                        case rel => exact ⟨rfl, S.drewN _⟩
                    · obtain rfl : false = c := by
                        have h3 := HM.out
                        rw [clip_Line.meets, if_neg h1] at h3
                        exact Option.some.inj h3
                      have d1 : (last == (i : Int) - 1) = false := beq_eq_false_iff_ne.mpr h1
                      clear h1
                      go_quiet (fail)
                      go_wp2_with fail
                      go_meet
                      case rel => exact ⟨rfl, S.drewN _⟩
                  · skip
                    by_cases h1 : last = (i : Int) - 1
                    · have d1 : (last == (i : Int) - 1) = true := beq_iff_eq.mpr h1
                      by_cases h2 : p0 = (rd_T37 t ((i : Int) - 1)).f0 ∧ p1 = (rd_T37 t ((i : Int) - 1)).f1
                      · have h3 := HM.out
                        rw [clip_Line.meets, if_pos h1, if_pos h2, if_neg (by omega)] at h3
                        have HCC := Aside0.mk (Option.some.inj h3)
                        clear h3
                        have d2 : (p0 == (rd_T37 t ((i : Int) - 1)).f0 && p1 == (rd_T37 t ((i : Int) - 1)).f1) = true := by
                          rw [h2.1, h2.2]; simp
                        obtain ⟨gO, cO, evO, hcO, hfO⟩ := S.hdr_cells 2 rfl (by simp)
                        have hcu := hcO vs.length u (by simp)
                        obtain ⟨Au, cu, evu, hcu2, hCu⟩ := S.own_reads 3 rfl
                        subst evu
                        injection evO with evO1 evO2 evO3
                        subst evO1 evO3
                        clear evO2
                        have hn1 : nO = vs.length + 1 := by have := HN.out; simp at this; omega
                        have hcu1 : wc.cell? ⟨gO, nO - 1, none⟩ = some (.slice Au cur.length cu) := by rw [hn1]; exact hcu
                        have hcu3 : wc.cell? ((⟨gO, 0, none⟩ : Addr).add (nO - 1)) = some (.slice Au cur.length cu) := by rw [add_plain]; exact hcu1
                        have pO : (0 : Int) ≤ (nO : Int) - 1 := by omega
                        have pO1 : (1 : Int) ≤ (nO : Int) := by omega
                        have pO2 : 0 < nO := by omega
                        have qO : (nO : Int) - 1 < (nO : Int) := by omega
                        have pC : (0 : Int) ≤ (cur.length : Int) - 1 := by omega
                        have pC1 : (1 : Int) ≤ (cur.length : Int) := by omega
                        have pC2 : 0 < cur.length := by omega
                        have qC : (cur.length : Int) - 1 < (cur.length : Int) := by omega
                        clear hcu hn1
                        obtain ⟨ad2, e2_, hx2_0, hx2_1⟩ := at_T37 hCu ((cur.length : Int) - 1) (by omega) (by omega)
                        subst e2_
                        have hi2 : ((cur.length : Int) - 1).toNat = cur.length - 1 := by omega
                        simp only [hi2] at hx2_0 hx2_1
                        have hw2 : IntKind.i64.wrap ((cur.length : Int) - 1) = (cur.length : Int) - 1 := IntWalk.i64_in _ (by omega)
                        clear h2
                        cases c with
                        | true =>
                          have d3 : ((rd_T37 cur ((cur.length : Int) - 1)).f0 == p0 && (rd_T37 cur ((cur.length : Int) - 1)).f1 == p1) = true := by
                            have h3 := HCC.out
                            have h4 := of_decide_eq_true h3
                            rw [h4.1, h4.2]; simp
                          clear h1
                          go_quiet (fail)
                          go_wp2_with fail
                          go_meet
                          case rel => exact ⟨rfl, S.drewN _⟩
                        | false =>
                          have d3 : ((rd_T37 cur ((cur.length : Int) - 1)).f0 == p0 && (rd_T37 cur ((cur.length : Int) - 1)).f1 == p1) = false := by
                            have h3 := HCC.out
                            have h4 := of_decide_eq_false h3
                            rw [Bool.eq_false_iff]; intro h_; exact h4 (by simpa using h_)
                          clear h1
                          go_quiet (fail)
                          go_wp2_with fail
                          go_meet
                          case rel => exact ⟨rfl, S.drewN _⟩
                      · obtain rfl : false = c := by
                          have h3 := HM.out
                          rw [clip_Line.meets, if_pos h1, if_neg h2] at h3
                          exact Option.some.inj h3
                        have d2 : (p0 == (rd_T37 t ((i : Int) - 1)).f0 && p1 == (rd_T37 t ((i : Int) - 1)).f1) = false := by
                          rw [Bool.eq_false_iff]; intro h_; exact h2 (by simpa using h_)
                        clear h2
                        clear h1
                        go_quiet (fail)
                        go_wp2_with fail
                        go_meet
                        case rel => exact ⟨rfl, S.drewN _⟩
                    · obtain rfl : false = c := by
                        have h3 := HM.out
                        rw [clip_Line.meets, if_neg h1] at h3
                        exact Option.some.inj h3
                      have d1 : (last == (i : Int) - 1) = false := beq_eq_false_iff_ne.mpr h1
                      clear h1
                      go_quiet (fail)
                      go_wp2_with fail
                      go_meet
                      case rel => exact ⟨rfl, S.drewN _⟩
                case rest =>
                  clear S c9_0 c9_1 c10_0 c10_1
                  obtain ⟨rfl, S⟩ := hcut
                  have c9_0 := blk_cell (S.at_box 0 rfl) 0
                  have c9_1 := blk_cell (S.at_box 0 rfl) 1
                  have c10_0 := blk_cell (S.at_box 1 rfl) 0
                  have c10_1 := blk_cell (S.at_box 1 rfl) 1
                  simp only [List.getElem?_toArray, List.getElem?_cons_zero, List.getElem?_cons_succ] at c9_0 c9_1 c10_0 c10_1
                  cases c with
                  | false =>
                    have H3 := Aside0.mk (show clip_Line.go b0 b1 b2 b3 kk t (i + 1) i (if cur.length = 0 then done else done ++ [cur]) [⟨p0, p1⟩, ⟨q0, q1⟩] = some r by simpa using H2.out)
                    clear H2 HM
                    go_wp2_with (first | ((with_reducible refine gate_dst (N := 87) rfl ?_); refine Kd.R_lit k37 _ 37 ?hg (N := 87) ?hd (xs := [⟨p0, p1⟩, ⟨q0, q1⟩]) (inner := [.int .i64 p0, .int .i64 p1, .int .i64 q0, .int .i64 q1]) (ok := fun _ => True) (okp := fun _ => True) ?hr ?hp (fun _ _ => trivial) trivial (Below.refl _ _) (Nat.le_refl _) (by simp) ?_; (case hd => rfl); (case hg => rfl); (case hr => first | (go_simp; done) | (go_simp; rfl)); (case hp => exact (Reps.c2 (show Kd.M k37 _ _ _ (⟨p0, p1⟩ : S37) [.int .i64 p0, .int .i64 p1] from k37_mkM _ _ _ _) (Reps.c2 (show Kd.M k37 _ _ _ (⟨q0, q1⟩ : S37) [.int .i64 q0, .int .i64 q1] from k37_mkM _ _ _ _) (Reps.none _ _)))); intro v87 w87 ho hb hg hat; replace S := S.own ho hb; clear ho hb hg hat; obtain ⟨A87, n87, c87, ev87⟩ := R_form (S.at_own 0 rfl); subst ev87) | ((with_reducible refine gate_builtin (b := .append) (xs := #[.tmp 84, .tmp 88]) rfl ?_); at_builtin; obtain ⟨ho, hup⟩ := S.hdr_append 3 rfl; refine print_append_cells (w0 := w) w.heap.size rfl (.tmp 84) (.tmp 88) 32 22 (.slice none 0 0) 1 24 rfl Try.underlying32 info22 rfl (by decide) (by omega) _ _ (vs ++ hs) [.slice A87 n87 c87] rfl rfl rfl (by simp [Value.oneCell']) ho S.below S.size (by have := HN.out; omega) ?_; intro v5 w5_ hown hb hg hat; have hown' := Aside0.mk hown; replace S := hup v5 w5_ (vs ++ hs ++ [.slice A87 n87 c87]) (by rw [show (vs ++ hs ++ [Value.slice A87 n87 c87]).length = (vs ++ hs).length + 1 from (by rw [List.length_append]; rfl)]; exact hown'.out) hb hg hat; clear ho hup hown hown' hb hg hat))
                    go_roundg kk
                    case measure => omega
                    case rel =>
                      rcases HD.out with ⟨rfl, rfl⟩ | ⟨rfl, hcur⟩
                      · exact ⟨i + 1, i, done, [⟨p0, p1⟩, ⟨q0, q1⟩], vs ++ [], [.slice A87 n87 c87], .slice A87 n87 c87, rfl, by go_num, by omega, by omega, ⟨.inr ⟨rfl, by simp⟩⟩, H3, (by have S2 := ((((S.drop 1).drop 1).swap).drop 2); rw [List.append_nil] at S2 ⊢; exact S2)⟩
                      · refine ⟨i + 1, i, done ++ [cur], [⟨p0, p1⟩, ⟨q0, q1⟩], vs ++ [u], [.slice A87 n87 c87], .slice A87 n87 c87, rfl, by go_num, by omega, by omega, ⟨.inr ⟨rfl, by simp⟩⟩, ?_, ?_⟩
                        · have h := H3.out
                          rw [if_neg (by omega)] at h
                          exact ⟨h⟩
                        · exact (((S.drop 1).drop 1).swap).under (SepI.under (SepI.under SepI.rows))
                  | true =>
                    have H3 := Aside0.mk (show clip_Line.go b0 b1 b2 b3 kk t (i + 1) i done (cur ++ [⟨q0, q1⟩]) = some r by simpa using H2.out)
                    clear H2
                    rcases HD.out with ⟨rfl, rfl⟩ | ⟨rfl, hcur⟩
                    · have h3 := HM.out
                      rw [clip_Line.meets] at h3
                      split at h3
                      · split at h3 <;> simp at h3
                      · simp at h3
                    · clear HM
                      obtain ⟨gO, cO, evO, hcO, hfO⟩ := S.hdr_cells 2 rfl (by simp)
                      injection evO with evO1 evO2 evO3
                      subst evO1 evO3
                      clear evO2
                      obtain ⟨Au, cu, evu, hcu2, hCu⟩ := S.own_reads 3 rfl
                      subst evu
                      have hn1 : nO = vs.length + 1 := by have := HN.out; simp at this; omega
                      have hn2 : nO - 1 = vs.length := by omega
                      have pO : (0 : Int) ≤ (vs.length : Int) := by omega
                      have qO : (vs.length : Int) < (nO : Int) := by omega
                      have qO2 : vs.length < nO := by omega
                      have eO : (nO : Int) - 1 = (vs.length : Int) := by omega
                      have h79 := hcO vs.length (.slice Au cur.length cu) (by simp)
                      have h79a := fun o => alloc_cell h79 o
                      obtain ⟨APok, APR, APnew, APup⟩ := S.drew.append 3 rfl
                      rw [eO]
                      have EN := Aside0.mk hn1
                      clear hcu2 hCu hcO hfO hn1 hn2 eO hcur
                      go_wp2_with fail
                      go_region_law (first | (refine Kd.R_append_step k37 (w0 := w) w.heap.size (by rfl) (.tmp 79) (.tmp 81) 22 37 (.agg #[.int .i64 0, .int .i64 0]) 16 rfl Try.underlying22 info37 rfl (by decide) (by omega) (.slice Au cur.length cu) cur ⟨q0, q1⟩ [.int .i64 q0, .int .i64 q1] APok (fun _ => False) rfl rfl (k37_mkM _ _ _ _) (fun _ h => h.elim) APnew APR S.drew.below S.drew.size (by omega) ?_; intro v82 w82 ho hb hg hat; obtain ⟨A82, n82, c82, ev82⟩ := R_form ho; subst ev82; have S2 := APup _ w82 _ ho hb hg; clear ho hb hg hat; have hcf := S2.hdr_at (u := .slice Au cur.length cu) 2 rfl vs.length (by simp); have hc82 := hcf.1; have hf82 := hcf.2))
                      all_goals go_wp2_with fail
                      all_goals go_roundg kk
                      all_goals first
                        | (case measure => omega)
                        | (case rel => exact ⟨i + 1, i, done, cur ++ [⟨q0, q1⟩], vs, [.slice A82 n82 c82], .slice A82 n82 c82, rfl, by go_num, by omega, by omega, ⟨.inr ⟨rfl, by simp⟩⟩, H3, (by
                            have S3 := ((S2.hdr_put 2 rfl vs.length (Value.slice A82 n82 c82)).drop 0).drop 0
                            rw [show (vs ++ [(Value.slice Au cur.length cu)]).set vs.length (Value.slice A82 n82 c82) = vs ++ [(Value.slice A82 n82 c82)] by simp] at S3
                            exact S3)⟩)
          · rw [if_neg hlim] at h
            exact absurd h (by simp)
        · have H2 := Aside0.mk (show (if cur.length = 0 then done else done ++ [cur]) = r by
            have h := H.out
            rw [clip_Line.go, if_neg hlt] at h
            exact Option.some.inj h)
          clear H
          go_wp2
          go_ret
          rcases HD.out with ⟨rfl, rfl⟩ | ⟨rfl, hc⟩
          · have e : done = r := by simpa using H2.out
            subst e
            rw [List.append_nil] at S
            exact ⟨_, rfl, ((S.drop 1)).joinedS, S.below⟩
          · have e : done ++ [cur] = r := by
              have h := H2.out
              rwa [if_neg (by omega)] at h
            subst e
            exact ⟨_, rfl, (Sep.joinedS (L := _) (show Sep w _ (Hdr _ 22 _ (vs ++ [u]) :: RowsB _ k37 37 (vs ++ [u]) (done ++ [cur]) :: _) from S.rows1)), S.below⟩
theorem clip_Line.go_mono (b0 b1 b2 b3 : Int) : ∀ k t i last done cur, LeO (clip_Line.go b0 b1 b2 b3 k t i last done cur) (clip_Line.go b0 b1 b2 b3 (k + 1) t i last done cur)
  | 0, _, _, _, _, _ => fun r h => by simp [clip_Line.go] at h
  | k + 1, t, i, last, done, cur => by
    have ih := clip_Line.go_mono b0 b1 b2 b3 k
    unfold clip_Line.go
    repeat' first
      | exact ih _ _ _ _ _
      | exact clip_piece.mono _ _ _ _ _ _ _ _ _
      | exact LeO.refl _
      | exact LeO.none _
      | refine LeO.ite ?_ ?_
      | refine LeO.bind ?_ (fun _ => ?_)
theorem clip_Line.mono : ∀ a0 a1 a2 a3 a4 k, LeO (clip_Line.f k a0 a1 a2 a3 a4) (clip_Line.f (k + 1) a0 a1 a2 a3 a4) := by
  intro a0 a1 a2 a3 a4 k
  unfold clip_Line.f
  exact LeO.bind (clip_permitted.mono _ _ _ _ _ _) (fun _ => LeO.ite (LeO.bind (clip_Tidy.mono _ _) (fun _ => clip_Line.go_mono _ _ _ _ _ _ _ _ _ _)) (LeO.refl _))


/-! ### mapmakerref08_Less: function 37 -/
def mapmakerref08_Less.f (a0_0 : Int) (a0_1 : Int) (a1_0 : Int) (a1_1 : Int) : Option (Bool) := if a0_0 < a1_0 then (some true) else (if a0_0 = a1_0 then (some (decide (a0_1 < a1_1))) else (some false))
set_option maxHeartbeats 8000000 in
set_option maxRecDepth 100000 in
theorem mapmakerref08_Less.calls (a0_0 : Int) (a0_1 : Int) (a1_0 : Int) (a1_1 : Int) (r : Bool) (w : World) (h : mapmakerref08_Less.f a0_0 a0_1 a1_0 a1_1 = some r) :
    Calls Try.prog 37 #[.agg #[.int .i64 a0_0, .int .i64 a0_1], .agg #[.int .i64 a1_0, .int .i64 a1_1]] w fun e w' => e = .returned (.bool r) ∧ Below w.heap.size w w' := by
  have hu37 := Try.underlying37
  have HB := Aside0.mk (Below.refl w.heap.size w)
  have H : (if a0_0 < a1_0 then (some true) else (if a0_0 = a1_0 then (some (decide (a0_1 < a1_1))) else (some false))) = some r := h
  clear h
  by_cases c3 : a0_0 < a1_0
  · rw [if_pos c3] at H
    have c3b0 : decide (a0_0 < a1_0) = true := decide_eq_true c3
    clear c3
    obtain rfl := Option.some.inj H
    go_enter Try.func37, Try.ntmps37
    go_wp2_with (first | ((with_reducible refine gate_dst (N := 2) rfl ?_); refine box_event ?hg (N := 2) ?hd (cs := #[.int .i64 a0_0, .int .i64 a0_1]) (t := 37) ?hr ?_; (case hd => rfl); (case hg => rfl); (case hr => first | (go_simp; done) | (go_simp; rfl)); intro gb179 hg w4 hbox hb; have n0_ := Aside0.mk (below_step (by repeat (first | (with_reducible first | exact HB.out | apply below_alloc | apply pw_below_drewN | apply below_drew1) | exact HB.out)) hb); have n1_ := Aside0.mk (hbox); have n2_ := Aside0.mk ((by rw [hg]; exact (below_size (by repeat (first | (with_reducible first | exact HB.out | apply below_alloc | apply pw_below_drewN | apply below_drew1) | exact HB.out))) : w.heap.size ≤ gb179)); have n3_ := Aside0.mk ((by rw [hg]; exact (below_size (by repeat (first | (with_reducible first | exact HB.out | apply below_alloc | apply pw_below_drewN | apply below_drew1) | exact HB.out))) : w.heap.size ≤ gb179)); clear HB; have HB := n0_; have BK179 := n1_; have GW179 := n2_; have GE179 := n3_; clear n0_ n1_ n2_ n3_; clear hb hbox hg) | ((with_reducible refine gate_dst (N := 3) rfl ?_); refine box_event ?hg (N := 3) ?hd (cs := #[.int .i64 a1_0, .int .i64 a1_1]) (t := 37) ?hr ?_; (case hd => rfl); (case hg => rfl); (case hr => first | (go_simp; done) | (go_simp; rfl)); intro gb180 hg w5 hbox hb; have n0_ := Aside0.mk (blk_below (g := gb179) (o := .cells #[.int .i64 a0_0, .int .i64 a0_1] 37 (0, 0)) (by (with_reducible repeat (first | refine blk_drewN ?_ _ | refine blk_drew ?_ | refine blk_alloc ?_ _)); exact BK179.out) hb); have n1_ := Aside0.mk (below_step (by repeat (first | (with_reducible first | exact HB.out | apply below_alloc | apply pw_below_drewN | apply below_drew1 | refine below_set ?_ GE179.out) | exact HB.out)) hb); have n2_ := Aside0.mk (hbox); have n3_ := Aside0.mk ((by rw [hg]; exact (below_size (by repeat (first | (with_reducible first | exact HB.out | apply below_alloc | apply pw_below_drewN | apply below_drew1 | refine below_set ?_ GE179.out) | exact HB.out))) : w.heap.size ≤ gb180)); have n4_ := Aside0.mk ((by rw [hg]; exact (below_size (by repeat (first | (with_reducible first | exact HB.out | apply below_alloc | apply pw_below_drewN | apply below_drew1 | refine below_set ?_ GE179.out) | exact HB.out))) : w.heap.size ≤ gb180)); have n5_ := Aside0.mk ((by rw [hg]; exact Nat.ne_of_lt (blk_lt (g := gb179) (o := .cells #[.int .i64 a0_0, .int .i64 a0_1] 37 (0, 0)) (by (with_reducible repeat (first | refine blk_drewN ?_ _ | refine blk_drew ?_ | refine blk_alloc ?_ _)); exact BK179.out)) : gb179 ≠ gb180)); have n6_ := Aside0.mk ((by rw [hg]; exact Nat.ne_of_gt (blk_lt (g := gb179) (o := .cells #[.int .i64 a0_0, .int .i64 a0_1] 37 (0, 0)) (by (with_reducible repeat (first | refine blk_drewN ?_ _ | refine blk_drew ?_ | refine blk_alloc ?_ _)); exact BK179.out)) : gb180 ≠ gb179)); clear BK179; clear HB; have BK179 := n0_; have HB := n1_; have BK180 := n2_; have GW180 := n3_; have GE180 := n4_; have NB179_180 := n5_; have NB180_179 := n6_; clear n0_ n1_ n2_ n3_ n4_ n5_ n6_; clear hb hbox hg; have hnb6 := NB179_180.out; have hnc6 := NB180_179.out; have hcz7_0 : w5.cell? ⟨gb179, 0, none⟩ = some (.int .i64 a0_0) := (blk_cell BK179.out 0).trans rfl; have hcz7_1 : w5.cell? ⟨gb179, 1, none⟩ = some (.int .i64 a0_1) := (blk_cell BK179.out 1).trans rfl; have hfz7_0 := blk_frozen BK179.out 0; have hfz7_1 := blk_frozen BK179.out 1; have hcz8_0 : w5.cell? ⟨gb180, 0, none⟩ = some (.int .i64 a1_0) := (blk_cell BK180.out 0).trans rfl; have hcz8_1 : w5.cell? ⟨gb180, 1, none⟩ = some (.int .i64 a1_1) := (blk_cell BK180.out 1).trans rfl; have hfz8_0 := blk_frozen BK180.out 0; have hfz8_1 := blk_frozen BK180.out 1))
    go_ret
    exact ⟨by first | rfl | (simp [errW_none, errW_some] <;> rfl) | (simp [*, errW_none, errW_some] <;> rfl), by repeat (first | (with_reducible first | exact HB.out | apply below_alloc | apply pw_below_drewN | apply below_drew1 | refine below_set ?_ GE179.out | refine below_set ?_ GE180.out) | exact HB.out)⟩
  · rw [if_neg c3] at H
    have c3b0 : decide (a0_0 < a1_0) = false := decide_eq_false c3
    clear c3
    by_cases c9 : a0_0 = a1_0
    · rw [if_pos c9] at H
      have c9b0 : (a0_0 == a1_0) = true := beq_iff_eq.mpr c9
      have c9b1 : (a0_0 != a1_0) = false := bne_eq_false_iff_eq.mpr c9
      clear c9
      obtain rfl := Option.some.inj H
      go_enter Try.func37, Try.ntmps37
      go_wp2_with (first | ((with_reducible refine gate_dst (N := 2) rfl ?_); refine box_event ?hg (N := 2) ?hd (cs := #[.int .i64 a0_0, .int .i64 a0_1]) (t := 37) ?hr ?_; (case hd => rfl); (case hg => rfl); (case hr => first | (go_simp; done) | (go_simp; rfl)); intro gb179 hg w10 hbox hb; have n0_ := Aside0.mk (below_step (by repeat (first | (with_reducible first | exact HB.out | apply below_alloc | apply pw_below_drewN | apply below_drew1) | exact HB.out)) hb); have n1_ := Aside0.mk (hbox); have n2_ := Aside0.mk ((by rw [hg]; exact (below_size (by repeat (first | (with_reducible first | exact HB.out | apply below_alloc | apply pw_below_drewN | apply below_drew1) | exact HB.out))) : w.heap.size ≤ gb179)); have n3_ := Aside0.mk ((by rw [hg]; exact (below_size (by repeat (first | (with_reducible first | exact HB.out | apply below_alloc | apply pw_below_drewN | apply below_drew1) | exact HB.out))) : w.heap.size ≤ gb179)); clear HB; have HB := n0_; have BK179 := n1_; have GW179 := n2_; have GE179 := n3_; clear n0_ n1_ n2_ n3_; clear hb hbox hg) | ((with_reducible refine gate_dst (N := 3) rfl ?_); refine box_event ?hg (N := 3) ?hd (cs := #[.int .i64 a1_0, .int .i64 a1_1]) (t := 37) ?hr ?_; (case hd => rfl); (case hg => rfl); (case hr => first | (go_simp; done) | (go_simp; rfl)); intro gb180 hg w11 hbox hb; have n0_ := Aside0.mk (blk_below (g := gb179) (o := .cells #[.int .i64 a0_0, .int .i64 a0_1] 37 (0, 0)) (by (with_reducible repeat (first | refine blk_drewN ?_ _ | refine blk_drew ?_ | refine blk_alloc ?_ _)); exact BK179.out) hb); have n1_ := Aside0.mk (below_step (by repeat (first | (with_reducible first | exact HB.out | apply below_alloc | apply pw_below_drewN | apply below_drew1 | refine below_set ?_ GE179.out) | exact HB.out)) hb); have n2_ := Aside0.mk (hbox); have n3_ := Aside0.mk ((by rw [hg]; exact (below_size (by repeat (first | (with_reducible first | exact HB.out | apply below_alloc | apply pw_below_drewN | apply below_drew1 | refine below_set ?_ GE179.out) | exact HB.out))) : w.heap.size ≤ gb180)); have n4_ := Aside0.mk ((by rw [hg]; exact (below_size (by repeat (first | (with_reducible first | exact HB.out | apply below_alloc | apply pw_below_drewN | apply below_drew1 | refine below_set ?_ GE179.out) | exact HB.out))) : w.heap.size ≤ gb180)); have n5_ := Aside0.mk ((by rw [hg]; exact Nat.ne_of_lt (blk_lt (g := gb179) (o := .cells #[.int .i64 a0_0, .int .i64 a0_1] 37 (0, 0)) (by (with_reducible repeat (first | refine blk_drewN ?_ _ | refine blk_drew ?_ | refine blk_alloc ?_ _)); exact BK179.out)) : gb179 ≠ gb180)); have n6_ := Aside0.mk ((by rw [hg]; exact Nat.ne_of_gt (blk_lt (g := gb179) (o := .cells #[.int .i64 a0_0, .int .i64 a0_1] 37 (0, 0)) (by (with_reducible repeat (first | refine blk_drewN ?_ _ | refine blk_drew ?_ | refine blk_alloc ?_ _)); exact BK179.out)) : gb180 ≠ gb179)); clear BK179; clear HB; have BK179 := n0_; have HB := n1_; have BK180 := n2_; have GW180 := n3_; have GE180 := n4_; have NB179_180 := n5_; have NB180_179 := n6_; clear n0_ n1_ n2_ n3_ n4_ n5_ n6_; clear hb hbox hg; have hnb12 := NB179_180.out; have hnc12 := NB180_179.out; have hcz13_0 : w11.cell? ⟨gb179, 0, none⟩ = some (.int .i64 a0_0) := (blk_cell BK179.out 0).trans rfl; have hcz13_1 : w11.cell? ⟨gb179, 1, none⟩ = some (.int .i64 a0_1) := (blk_cell BK179.out 1).trans rfl; have hfz13_0 := blk_frozen BK179.out 0; have hfz13_1 := blk_frozen BK179.out 1; have hcz14_0 : w11.cell? ⟨gb180, 0, none⟩ = some (.int .i64 a1_0) := (blk_cell BK180.out 0).trans rfl; have hcz14_1 : w11.cell? ⟨gb180, 1, none⟩ = some (.int .i64 a1_1) := (blk_cell BK180.out 1).trans rfl; have hfz14_0 := blk_frozen BK180.out 0; have hfz14_1 := blk_frozen BK180.out 1))
      go_ret
      exact ⟨by first | rfl | (simp [errW_none, errW_some] <;> rfl) | (simp [*, errW_none, errW_some] <;> rfl), by repeat (first | (with_reducible first | exact HB.out | apply below_alloc | apply pw_below_drewN | apply below_drew1 | refine below_set ?_ GE179.out | refine below_set ?_ GE180.out) | exact HB.out)⟩
    · rw [if_neg c9] at H
      have c9b0 : (a0_0 == a1_0) = false := beq_eq_false_iff_ne.mpr c9
      have c9b1 : (a0_0 != a1_0) = true := bne_iff_ne.mpr c9
      obtain rfl := Option.some.inj H
      go_enter Try.func37, Try.ntmps37
      go_wp2_with (first | ((with_reducible refine gate_dst (N := 2) rfl ?_); refine box_event ?hg (N := 2) ?hd (cs := #[.int .i64 a0_0, .int .i64 a0_1]) (t := 37) ?hr ?_; (case hd => rfl); (case hg => rfl); (case hr => first | (go_simp; done) | (go_simp; rfl)); intro gb179 hg w15 hbox hb; have n0_ := Aside0.mk (below_step (by repeat (first | (with_reducible first | exact HB.out | apply below_alloc | apply pw_below_drewN | apply below_drew1) | exact HB.out)) hb); have n1_ := Aside0.mk (hbox); have n2_ := Aside0.mk ((by rw [hg]; exact (below_size (by repeat (first | (with_reducible first | exact HB.out | apply below_alloc | apply pw_below_drewN | apply below_drew1) | exact HB.out))) : w.heap.size ≤ gb179)); have n3_ := Aside0.mk ((by rw [hg]; exact (below_size (by repeat (first | (with_reducible first | exact HB.out | apply below_alloc | apply pw_below_drewN | apply below_drew1) | exact HB.out))) : w.heap.size ≤ gb179)); clear HB; have HB := n0_; have BK179 := n1_; have GW179 := n2_; have GE179 := n3_; clear n0_ n1_ n2_ n3_; clear hb hbox hg) | ((with_reducible refine gate_dst (N := 3) rfl ?_); refine box_event ?hg (N := 3) ?hd (cs := #[.int .i64 a1_0, .int .i64 a1_1]) (t := 37) ?hr ?_; (case hd => rfl); (case hg => rfl); (case hr => first | (go_simp; done) | (go_simp; rfl)); intro gb180 hg w16 hbox hb; have n0_ := Aside0.mk (blk_below (g := gb179) (o := .cells #[.int .i64 a0_0, .int .i64 a0_1] 37 (0, 0)) (by (with_reducible repeat (first | refine blk_drewN ?_ _ | refine blk_drew ?_ | refine blk_alloc ?_ _)); exact BK179.out) hb); have n1_ := Aside0.mk (below_step (by repeat (first | (with_reducible first | exact HB.out | apply below_alloc | apply pw_below_drewN | apply below_drew1 | refine below_set ?_ GE179.out) | exact HB.out)) hb); have n2_ := Aside0.mk (hbox); have n3_ := Aside0.mk ((by rw [hg]; exact (below_size (by repeat (first | (with_reducible first | exact HB.out | apply below_alloc | apply pw_below_drewN | apply below_drew1 | refine below_set ?_ GE179.out) | exact HB.out))) : w.heap.size ≤ gb180)); have n4_ := Aside0.mk ((by rw [hg]; exact (below_size (by repeat (first | (with_reducible first | exact HB.out | apply below_alloc | apply pw_below_drewN | apply below_drew1 | refine below_set ?_ GE179.out) | exact HB.out))) : w.heap.size ≤ gb180)); have n5_ := Aside0.mk ((by rw [hg]; exact Nat.ne_of_lt (blk_lt (g := gb179) (o := .cells #[.int .i64 a0_0, .int .i64 a0_1] 37 (0, 0)) (by (with_reducible repeat (first | refine blk_drewN ?_ _ | refine blk_drew ?_ | refine blk_alloc ?_ _)); exact BK179.out)) : gb179 ≠ gb180)); have n6_ := Aside0.mk ((by rw [hg]; exact Nat.ne_of_gt (blk_lt (g := gb179) (o := .cells #[.int .i64 a0_0, .int .i64 a0_1] 37 (0, 0)) (by (with_reducible repeat (first | refine blk_drewN ?_ _ | refine blk_drew ?_ | refine blk_alloc ?_ _)); exact BK179.out)) : gb180 ≠ gb179)); clear BK179; clear HB; have BK179 := n0_; have HB := n1_; have BK180 := n2_; have GW180 := n3_; have GE180 := n4_; have NB179_180 := n5_; have NB180_179 := n6_; clear n0_ n1_ n2_ n3_ n4_ n5_ n6_; clear hb hbox hg; have hnb17 := NB179_180.out; have hnc17 := NB180_179.out; have hcz18_0 : w16.cell? ⟨gb179, 0, none⟩ = some (.int .i64 a0_0) := (blk_cell BK179.out 0).trans rfl; have hcz18_1 : w16.cell? ⟨gb179, 1, none⟩ = some (.int .i64 a0_1) := (blk_cell BK179.out 1).trans rfl; have hfz18_0 := blk_frozen BK179.out 0; have hfz18_1 := blk_frozen BK179.out 1; have hcz19_0 : w16.cell? ⟨gb180, 0, none⟩ = some (.int .i64 a1_0) := (blk_cell BK180.out 0).trans rfl; have hcz19_1 : w16.cell? ⟨gb180, 1, none⟩ = some (.int .i64 a1_1) := (blk_cell BK180.out 1).trans rfl; have hfz19_0 := blk_frozen BK180.out 0; have hfz19_1 := blk_frozen BK180.out 1))
      go_ret
      exact ⟨by first | rfl | (simp [errW_none, errW_some] <;> rfl) | (simp [*, errW_none, errW_some] <;> rfl), by repeat (first | (with_reducible first | exact HB.out | apply below_alloc | apply pw_below_drewN | apply below_drew1 | refine below_set ?_ GE179.out | refine below_set ?_ GE180.out) | exact HB.out)⟩

/-! ### mapmakerref11_Canon: function 24 -/
mutual
def mapmakerref11_Canon.l0 : Nat → List (S37) → Int → Int → Option ((List (S37)))
  | 0, _, _, _ => none
  | k + 1, x0, x3, x4 => if x4 < (x0.length : Int) then (if 0 ≤ x4 then (if 0 ≤ x3 then (if x3 < (x0.length : Int) then ((mapmakerref08_Less.f ((rd_T37 x0 x4).f0) ((rd_T37 x0 x4).f1) ((rd_T37 x0 x3).f0) ((rd_T37 x0 x3).f1)).bind fun t183 => (if t183 = true then (mapmakerref11_Canon.l0 k x0 x4 (wrap64 (x4 + 1))) else (mapmakerref11_Canon.l0 k x0 x3 (wrap64 (x4 + 1))))) else (none)) else (none)) else (none)) else (mapmakerref11_Canon.l1 k x0 x3 ([] : List (S37)) 0)
def mapmakerref11_Canon.l1 : Nat → List (S37) → Int → List (S37) → Int → Option ((List (S37)))
  | 0, _, _, _, _ => none
  | k + 1, x0, x3, x5, x6 => if x6 < (x0.length : Int) then (if (x0.length : Int) = 0 then (none) else (if 0 ≤ (Int.tmod (wrap64 (x3 + x6)) (x0.length : Int)) then (if (Int.tmod (wrap64 (x3 + x6)) (x0.length : Int)) < (x0.length : Int) then (if x5.length < 8796093022208 then (mapmakerref11_Canon.l1 k x0 x3 (x5 ++ [(⟨(rd_T37 x0 (Int.tmod (wrap64 (x3 + x6)) (x0.length : Int))).f0, (rd_T37 x0 (Int.tmod (wrap64 (x3 + x6)) (x0.length : Int))).f1⟩ : S37)]) (wrap64 (x6 + 1))) else (none)) else (none)) else (none))) else (some x5)
end
def mapmakerref11_Canon.f (k : Nat) (l0 : List (S37)) : Option ((List (S37))) := mapmakerref11_Canon.l0 k l0 0 1
theorem mapmakerref11_Canon.mono_l : ∀ k, (∀ y0 y1 y2, LeO (mapmakerref11_Canon.l0 k y0 y1 y2) (mapmakerref11_Canon.l0 (k + 1) y0 y1 y2)) ∧ (∀ y0 y1 y2 y3, LeO (mapmakerref11_Canon.l1 k y0 y1 y2 y3) (mapmakerref11_Canon.l1 (k + 1) y0 y1 y2 y3))
  | 0 => ⟨fun _ _ _ r h => by simp [mapmakerref11_Canon.l0] at h, fun _ _ _ _ r h => by simp [mapmakerref11_Canon.l1] at h⟩
  | k + 1 => by
    obtain ⟨ih0, ih1⟩ := mapmakerref11_Canon.mono_l k
    refine ⟨?_, ?_⟩
    · intro y0 y1 y2
      unfold mapmakerref11_Canon.l0
      repeat' first
      | (with_reducible exact ih0 _ _ _)
      | (with_reducible exact ih1 _ _ _ _)
      | (with_reducible exact LeO.refl _)
      | (with_reducible exact LeO.none _)
      | (with_reducible refine LeO.ite ?_ ?_)
      | (with_reducible refine LeO.bind ?_ (fun _ => ?_))
      | exact ih0 _ _ _
      | exact ih1 _ _ _ _
      | exact LeO.none _
      | refine LeO.ite ?_ ?_
      | refine LeO.bind ?_ (fun _ => ?_)
    · intro y0 y1 y2 y3
      unfold mapmakerref11_Canon.l1
      repeat' first
      | (with_reducible exact ih0 _ _ _)
      | (with_reducible exact ih1 _ _ _ _)
      | (with_reducible exact LeO.refl _)
      | (with_reducible exact LeO.none _)
      | (with_reducible refine LeO.ite ?_ ?_)
      | (with_reducible refine LeO.bind ?_ (fun _ => ?_))
      | exact ih0 _ _ _
      | exact ih1 _ _ _ _
      | exact LeO.none _
      | refine LeO.ite ?_ ?_
      | refine LeO.bind ?_ (fun _ => ?_)
theorem mapmakerref11_Canon.mono : ∀ a0 k, LeO (mapmakerref11_Canon.f k a0) (mapmakerref11_Canon.f (k + 1) a0) := by
  intro a0 k
  obtain ⟨ih0, ih1⟩ := mapmakerref11_Canon.mono_l k
  unfold mapmakerref11_Canon.f
  repeat' first
      | (with_reducible exact ih0 _ _ _)
      | (with_reducible exact ih1 _ _ _ _)
      | (with_reducible exact LeO.refl _)
      | (with_reducible exact LeO.none _)
      | (with_reducible refine LeO.ite ?_ ?_)
      | (with_reducible refine LeO.bind ?_ (fun _ => ?_))
      | exact ih0 _ _ _
      | exact ih1 _ _ _ _
      | exact LeO.none _
      | refine LeO.ite ?_ ?_
      | refine LeO.bind ?_ (fun _ => ?_)
def mapmakerref11_Canon.T5 : Bool × List (List Nat × List Nat) := (true, [([], []), ([], []), ([0, 1], [0, 1]), ([2], [2]), ([], []), ([], []), ([4, 5], [4, 5]), ([6], [6]), ([3, 7], [3, 7])])
def mapmakerref11_Canon.B5 : List Nat := [0, 0, 3, 7, 0, 0, 48, 112, 255]
theorem mapmakerref11_Canon.tab5 : rtab .any (opsOf Try.f24 5) = mapmakerref11_Canon.T5 := by kernel_rfl
theorem mapmakerref11_Canon.bits5 : waitsOk mapmakerref11_Canon.T5.2 mapmakerref11_Canon.B5 = true := by kernel_rfl
set_option maxHeartbeats 8000000 in
set_option maxRecDepth 100000 in
theorem mapmakerref11_Canon.calls (k : Nat) (A0 : Option Addr) (c0 : Nat) (l0 : List (S37)) (r : List (S37)) (w : World) (hr0 : Kd.C k37 w A0 l0.length l0) (hc0 : l0.length ≤ c0) (h : mapmakerref11_Canon.f k l0 = some r) :
    Calls Try.prog 24 #[.slice A0 l0.length c0] w fun e w' => ∃ v0_ : Value, e = .returned (v0_) ∧ Kd.R k37 37 w' w.heap.size (fun _ => True) v0_ r ∧ Below w.heap.size w w' := by
  have hu37 := Try.underlying37
  have HR0 := Aside0.mk hr0
  have HC0 := Aside0.mk hc0
  clear hr0 hc0
  have HB := Aside0.mk (Below.refl w.heap.size w)
  have H : (mapmakerref11_Canon.l0 k l0 0 1) = some r := h
  clear h
  have H' := Aside0.mk H
  clear H
  go_enter Try.func24, Try.ntmps24
  go_wp2
  go_loopg [3, 4] k (fun kq v3 v4 w' => ∃ (x3_1 : Int) (x4_1 : Int), v3 = .int .i64 x3_1 ∧ v4 = .int .i64 x4_1 ∧ Aside0 (mapmakerref11_Canon.l0 kq l0 x3_1 x4_1 = some r) ∧ Aside0 (kq ≤ k) ∧ Aside0 (Below w.heap.size w w'))
  case atStart => exact ⟨(0), (1), (by first | rfl | (simp; done) | (simp [*]; done)), (by first | rfl | (simp; done) | (simp [*]; done)), H', ⟨Nat.le_refl _⟩, ⟨by repeat (first | (with_reducible first | exact HB.out | apply below_alloc | apply pw_below_drewN | apply below_drew1) | exact HB.out)⟩⟩
  case round =>
    clear H'
    obtain ⟨x3_1, x4_1, rfl, rfl, HA, HK1, HB⟩ := hrel
    cases gk with
    | zero => exact absurd HA.out (by simp [mapmakerref11_Canon.l0])
    | succ k1 =>
      have H := HA.out
      clear HA
      simp only [mapmakerref11_Canon.l0] at H
      by_cases c2 : x4_1 < (l0.length : Int)
      · rw [if_pos c2] at H
        have c2b0 : decide (x4_1 < (l0.length : Int)) = true := decide_eq_true c2
        clear c2
        by_cases c3 : 0 ≤ x4_1
        · rw [if_pos c3] at H
          have c3b0 : decide (0 ≤ x4_1) = true := decide_eq_true c3
          clear c3
          by_cases c4 : 0 ≤ x3_1
          · rw [if_pos c4] at H
            have c4b0 : decide (0 ≤ x3_1) = true := decide_eq_true c4
            clear c4
            by_cases c5 : x3_1 < (l0.length : Int)
            · rw [if_pos c5] at H
              have c5b0 : decide (x3_1 < (l0.length : Int)) = true := decide_eq_true c5
              clear c5
              replace H := Option.bind_eq_some_iff.mp H
              obtain ⟨t183, A60, H⟩ := H
              replace H : (if t183 = true then (mapmakerref11_Canon.l0 k1 l0 x4_1 (wrap64 (x4_1 + 1))) else (mapmakerref11_Canon.l0 k1 l0 x3_1 (wrap64 (x4_1 + 1)))) = some r := H
              have A6 := Aside0.mk A60
              clear A60
              by_cases c7 : t183 = true
              · subst c7
                have H1 : (mapmakerref11_Canon.l0 k1 l0 x4_1 (wrap64 (x4_1 + 1))) = some r := by rw [if_pos rfl] at H; exact H
                clear H
                have H := H1
                clear H1
                have H' := Aside0.mk H
                clear H
                try go_wp2
                have n0_ := Aside0.mk (below_drew1 HB.out)
                clear HB
                have HB := n0_
                clear n0_
                have p181 : 0 ≤ (x4_1 : Int) := of_decide_eq_true (by first | (with_reducible assumption) | assumption)
                have q181 : x4_1 < (l0.length : Int) := of_decide_eq_true (by first | (with_reducible assumption) | assumption)
                obtain ⟨ad181, e181, hx181_0, hx181_1⟩ := at_T37 HR0.out x4_1 p181 q181
                have hw181_1 := hx181_1
                have hw181_0 := hx181_0
                cases e181
                replace hx181_0 := (HB.out.cell (World.block_lt_of_cell? w _ hx181_0)).trans hx181_0
                replace hx181_1 := (HB.out.cell (World.block_lt_of_cell? w _ hx181_1)).trans hx181_1
                replace p181 := eq_true p181
                replace q181 := eq_true q181
                have p182 : 0 ≤ (x3_1 : Int) := of_decide_eq_true (by first | (with_reducible assumption) | assumption)
                have q182 : x3_1 < (l0.length : Int) := of_decide_eq_true (by first | (with_reducible assumption) | assumption)
                obtain ⟨ad182, e182, hx182_0, hx182_1⟩ := at_T37 HR0.out x3_1 p182 q182
                have hw182_1 := hx182_1
                have hw182_0 := hx182_0
                obtain rfl : ad181 = ad182 := (by injection e182)
                replace hx182_0 := (HB.out.cell (World.block_lt_of_cell? w _ hx182_0)).trans hx182_0
                replace hx182_1 := (HB.out.cell (World.block_lt_of_cell? w _ hx182_1)).trans hx182_1
                replace p182 := eq_true p182
                replace q182 := eq_true q182
                refine start_ (n := 9) (S := fun w' => w'.cell? (ad181.add ((x4_1).toNat * 2)) = some (.int .i64 ((rd_T37 l0 x4_1).f0)) ∧ w'.cell? ⟨(ad181.add ((x4_1).toNat * 2)).block, (ad181.add ((x4_1).toNat * 2)).off + 1, none⟩ = some (.int .i64 ((rd_T37 l0 x4_1).f1)) ∧ w'.cell? (ad181.add ((x3_1).toNat * 2)) = some (.int .i64 ((rd_T37 l0 x3_1).f0)) ∧ w'.cell? ⟨(ad181.add ((x3_1).toNat * 2)).block, (ad181.add ((x3_1).toNat * 2)).off + 1, none⟩ = some (.int .i64 ((rd_T37 l0 x3_1).f1))) (ds := []) #[false, false, false, false, false, false, false, false, false] (by kernel_rfl) rfl rfl ⟨((HB.out.cell (World.block_lt_of_cell? w _ hw181_0)).trans hw181_0), ((HB.out.cell (World.block_lt_of_cell? w _ hw181_1)).trans hw181_1), ((HB.out.cell (World.block_lt_of_cell? w _ hw182_0)).trans hw182_0), ((HB.out.cell (World.block_lt_of_cell? w _ hw182_1)).trans hw182_1)⟩ (fun hHeld => ?_); refine with_tabW mapmakerref11_Canon.tab5 mapmakerref11_Canon.bits5 (fun HT_ HW_ => ?_)
                generalize wr.drew = w8 at HB hx181_0 hx181_1 hx182_0 hx182_1 hHeld ⊢
                refine pure_ (i := 0) (N := some 13) (v := ?_) (a' := ?_) #[true, false, false, false, false, false, false, false, false] rfl rfl (any_of HT_.out (by kernel_rfl)) (fun _ _ _ h => h) (Or.inl ⟨by rfl, ?_⟩) ?_ ?_
                rotate_left
                · intro w'
                  go_simp
                  with_reducible rfl
                rotate_left
                · simp only [Act.put, List.setIfInBounds_toArray, List.set_cons_zero, List.set_cons_succ, i64_w, i32_w]
                  rfl
                refine pure_ (i := 1) (N := some 14) (v := ?_) (a' := ?_) #[true, true, false, false, false, false, false, false, false] rfl rfl (any_of HT_.out (by kernel_rfl)) (fun _ _ _ h => h) (Or.inl ⟨by rfl, ?_⟩) ?_ ?_
                rotate_left
                · intro w'
                  go_simp
                  with_reducible rfl
                rotate_left
                · simp only [Act.put, List.setIfInBounds_toArray, List.set_cons_zero, List.set_cons_succ, i64_w, i32_w]
                  rfl
                refine pure_ (i := 2) (N := some 15) (v := ?_) (a' := ?_) #[true, true, true, false, false, false, false, false, false] rfl rfl (any_of HT_.out (by kernel_rfl)) (fun _ _ _ h => h) (Or.inl ⟨by rfl, ?_⟩) ?_ ?_
                rotate_left
                · intro w'
                  go_simp
                  with_reducible rfl
                rotate_left
                · simp only [Act.put, List.setIfInBounds_toArray, List.set_cons_zero, List.set_cons_succ, i64_w, i32_w]
                  rfl
                refine pure_ (i := 4) (N := some 17) (v := ?_) (a' := ?_) #[true, true, true, false, true, false, false, false, false] rfl rfl (any_of HT_.out (by kernel_rfl)) (fun _ _ _ h => h) (Or.inl ⟨by rfl, ?_⟩) ?_ ?_
                rotate_left
                · intro w'
                  go_simp
                  with_reducible rfl
                rotate_left
                · simp only [Act.put, List.setIfInBounds_toArray, List.set_cons_zero, List.set_cons_succ, i64_w, i32_w]
                  rfl
                refine pure_ (i := 5) (N := some 18) (v := ?_) (a' := ?_) #[true, true, true, false, true, true, false, false, false] rfl rfl (any_of HT_.out (by kernel_rfl)) (fun _ _ _ h => h) (Or.inl ⟨by rfl, ?_⟩) ?_ ?_
                rotate_left
                · intro w'
                  go_simp
                  with_reducible rfl
                rotate_left
                · simp only [Act.put, List.setIfInBounds_toArray, List.set_cons_zero, List.set_cons_succ, i64_w, i32_w]
                  rfl
                refine pure_ (i := 6) (N := some 19) (v := ?_) (a' := ?_) #[true, true, true, false, true, true, true, false, false] rfl rfl (any_of HT_.out (by kernel_rfl)) (fun _ _ _ h => h) (Or.inl ⟨by rfl, ?_⟩) ?_ ?_
                rotate_left
                · intro w'
                  go_simp
                  with_reducible rfl
                rotate_left
                · simp only [Act.put, List.setIfInBounds_toArray, List.set_cons_zero, List.set_cons_succ, i64_w, i32_w]
                  rfl
                refine take_ (i := 3) (N := some 16) (v := ?_) (a' := ?_) #[true, true, true, true, true, true, true, false, false] rfl rfl (take_ofW HT_.out HW_.out (by kernel_rfl)) (fun _ _ _ h => h) (Or.inl ⟨by rfl, ?_⟩) hHeld ?_ ?_
                rotate_left
                · rintro w' ⟨s0, s1, s2, s3⟩
                  go_simp
                  with_reducible rfl
                rotate_left
                · simp only [Act.put, List.setIfInBounds_toArray, List.set_cons_zero, List.set_cons_succ, i64_w, i32_w]
                  rfl
                refine take_ (i := 7) (N := some 20) (v := ?_) (a' := ?_) #[true, true, true, true, true, true, true, true, false] rfl rfl (take_ofW HT_.out HW_.out (by kernel_rfl)) (fun _ _ _ h => h) (Or.inl ⟨by rfl, ?_⟩) hHeld ?_ ?_
                rotate_left
                · rintro w' ⟨s0, s1, s2, s3⟩
                  go_simp
                  with_reducible rfl
                rotate_left
                · simp only [Act.put, List.setIfInBounds_toArray, List.set_cons_zero, List.set_cons_succ, i64_w, i32_w]
                  rfl
                refine one_ (i := 8) (N := some 21) #[true, true, true, true, true, true, true, true, true] rfl rfl (one_of HT_.out (by kernel_rfl)) (by decide) (fun K hK => ?_)
                refine goes_ Try.func37 (by kernel_rfl) rfl #[.agg #[.int .i64 ((rd_T37 l0 x4_1).f0), .int .i64 ((rd_T37 l0 x4_1).f1)], .agg #[.int .i64 ((rd_T37 l0 x3_1).f0), .int .i64 ((rd_T37 l0 x3_1).f1)]] (by rfl) rfl rfl (by (try simp only [List.map_toArray, List.map_cons, List.map_nil]); first | done | rfl | (simp only [List.length_drop, List.length_take]; rfl)) ?_
                with_reducible refine (mapmakerref08_Less.calls ((rd_T37 l0 x4_1).f0) ((rd_T37 l0 x4_1).f1) ((rd_T37 l0 x3_1).f0) ((rd_T37 l0 x3_1).f1) true _ A6.out).mono ?_
                rintro e w9 ⟨rfl, hb⟩
                refine ⟨_, rfl, ?_⟩
                have n0_ := Aside0.mk (below_step (by repeat (first | (with_reducible first | exact HB.out | apply below_alloc | apply pw_below_drewN | apply below_drew1) | exact HB.out)) hb)
                clear HB
                have HB := n0_
                clear n0_
                (try clear hb)
                (try clear hb2)
                (try clear hk)
                (try clear hi)
                refine hK.out _ _ ⟨((HB.out.cell (World.block_lt_of_cell? w _ hw181_0)).trans hw181_0), ((HB.out.cell (World.block_lt_of_cell? w _ hw181_1)).trans hw181_1), ((HB.out.cell (World.block_lt_of_cell? w _ hw182_0)).trans hw182_0), ((HB.out.cell (World.block_lt_of_cell? w _ hw182_1)).trans hw182_1)⟩ (fun hHeld => ?_)
                clear hK K
                refine norm_ (a' := ?_) ?_ ?_
                rotate_left
                · show Act.put _ (some 21) _ = _
                  simp only [Act.put, List.setIfInBounds_toArray, List.set_cons_zero, List.set_cons_succ, i64_w, i32_w]
                  rfl
                refine done_ (done_of HT_.out (by kernel_rfl)) ?_
                try go_wp2
                go_roundg k1
                case measure => have := HK1.out; omega
                case rel => exact ⟨(x4_1), (wrap64 (x4_1 + 1)), (by first | rfl | (simp; done) | (simp [*]; done)), (by first | rfl | (simp; done) | (simp [*]; done)), H', ⟨by have := HK1.out; omega⟩, ⟨by repeat (first | (with_reducible first | exact HB.out | apply below_alloc | apply pw_below_drewN | apply below_drew1) | exact HB.out)⟩⟩
              · replace c7 := Bool.eq_false_iff.mpr c7
                subst c7
                have H1 : (mapmakerref11_Canon.l0 k1 l0 x3_1 (wrap64 (x4_1 + 1))) = some r := by rw [if_neg (show ¬ (false = true) by decide)] at H; exact H
                clear H
                have H := H1
                clear H1
                have H' := Aside0.mk H
                clear H
                try go_wp2
                have n0_ := Aside0.mk (below_drew1 HB.out)
                clear HB
                have HB := n0_
                clear n0_
                have p181 : 0 ≤ (x4_1 : Int) := of_decide_eq_true (by first | (with_reducible assumption) | assumption)
                have q181 : x4_1 < (l0.length : Int) := of_decide_eq_true (by first | (with_reducible assumption) | assumption)
                obtain ⟨ad181, e181, hx181_0, hx181_1⟩ := at_T37 HR0.out x4_1 p181 q181
                have hw181_1 := hx181_1
                have hw181_0 := hx181_0
                cases e181
                replace hx181_0 := (HB.out.cell (World.block_lt_of_cell? w _ hx181_0)).trans hx181_0
                replace hx181_1 := (HB.out.cell (World.block_lt_of_cell? w _ hx181_1)).trans hx181_1
                replace p181 := eq_true p181
                replace q181 := eq_true q181
                have p182 : 0 ≤ (x3_1 : Int) := of_decide_eq_true (by first | (with_reducible assumption) | assumption)
                have q182 : x3_1 < (l0.length : Int) := of_decide_eq_true (by first | (with_reducible assumption) | assumption)
                obtain ⟨ad182, e182, hx182_0, hx182_1⟩ := at_T37 HR0.out x3_1 p182 q182
                have hw182_1 := hx182_1
                have hw182_0 := hx182_0
                obtain rfl : ad181 = ad182 := (by injection e182)
                replace hx182_0 := (HB.out.cell (World.block_lt_of_cell? w _ hx182_0)).trans hx182_0
                replace hx182_1 := (HB.out.cell (World.block_lt_of_cell? w _ hx182_1)).trans hx182_1
                replace p182 := eq_true p182
                replace q182 := eq_true q182
                refine start_ (n := 9) (S := fun w' => w'.cell? (ad181.add ((x4_1).toNat * 2)) = some (.int .i64 ((rd_T37 l0 x4_1).f0)) ∧ w'.cell? ⟨(ad181.add ((x4_1).toNat * 2)).block, (ad181.add ((x4_1).toNat * 2)).off + 1, none⟩ = some (.int .i64 ((rd_T37 l0 x4_1).f1)) ∧ w'.cell? (ad181.add ((x3_1).toNat * 2)) = some (.int .i64 ((rd_T37 l0 x3_1).f0)) ∧ w'.cell? ⟨(ad181.add ((x3_1).toNat * 2)).block, (ad181.add ((x3_1).toNat * 2)).off + 1, none⟩ = some (.int .i64 ((rd_T37 l0 x3_1).f1))) (ds := []) #[false, false, false, false, false, false, false, false, false] (by kernel_rfl) rfl rfl ⟨((HB.out.cell (World.block_lt_of_cell? w _ hw181_0)).trans hw181_0), ((HB.out.cell (World.block_lt_of_cell? w _ hw181_1)).trans hw181_1), ((HB.out.cell (World.block_lt_of_cell? w _ hw182_0)).trans hw182_0), ((HB.out.cell (World.block_lt_of_cell? w _ hw182_1)).trans hw182_1)⟩ (fun hHeld => ?_); refine with_tabW mapmakerref11_Canon.tab5 mapmakerref11_Canon.bits5 (fun HT_ HW_ => ?_)
                generalize wr.drew = w10 at HB hx181_0 hx181_1 hx182_0 hx182_1 hHeld ⊢
                refine pure_ (i := 0) (N := some 13) (v := ?_) (a' := ?_) #[true, false, false, false, false, false, false, false, false] rfl rfl (any_of HT_.out (by kernel_rfl)) (fun _ _ _ h => h) (Or.inl ⟨by rfl, ?_⟩) ?_ ?_
                rotate_left
                · intro w'
                  go_simp
                  with_reducible rfl
                rotate_left
                · simp only [Act.put, List.setIfInBounds_toArray, List.set_cons_zero, List.set_cons_succ, i64_w, i32_w]
                  rfl
                refine pure_ (i := 1) (N := some 14) (v := ?_) (a' := ?_) #[true, true, false, false, false, false, false, false, false] rfl rfl (any_of HT_.out (by kernel_rfl)) (fun _ _ _ h => h) (Or.inl ⟨by rfl, ?_⟩) ?_ ?_
                rotate_left
                · intro w'
                  go_simp
                  with_reducible rfl
                rotate_left
                · simp only [Act.put, List.setIfInBounds_toArray, List.set_cons_zero, List.set_cons_succ, i64_w, i32_w]
                  rfl
                refine pure_ (i := 2) (N := some 15) (v := ?_) (a' := ?_) #[true, true, true, false, false, false, false, false, false] rfl rfl (any_of HT_.out (by kernel_rfl)) (fun _ _ _ h => h) (Or.inl ⟨by rfl, ?_⟩) ?_ ?_
                rotate_left
                · intro w'
                  go_simp
                  with_reducible rfl
                rotate_left
                · simp only [Act.put, List.setIfInBounds_toArray, List.set_cons_zero, List.set_cons_succ, i64_w, i32_w]
                  rfl
                refine pure_ (i := 4) (N := some 17) (v := ?_) (a' := ?_) #[true, true, true, false, true, false, false, false, false] rfl rfl (any_of HT_.out (by kernel_rfl)) (fun _ _ _ h => h) (Or.inl ⟨by rfl, ?_⟩) ?_ ?_
                rotate_left
                · intro w'
                  go_simp
                  with_reducible rfl
                rotate_left
                · simp only [Act.put, List.setIfInBounds_toArray, List.set_cons_zero, List.set_cons_succ, i64_w, i32_w]
                  rfl
                refine pure_ (i := 5) (N := some 18) (v := ?_) (a' := ?_) #[true, true, true, false, true, true, false, false, false] rfl rfl (any_of HT_.out (by kernel_rfl)) (fun _ _ _ h => h) (Or.inl ⟨by rfl, ?_⟩) ?_ ?_
                rotate_left
                · intro w'
                  go_simp
                  with_reducible rfl
                rotate_left
                · simp only [Act.put, List.setIfInBounds_toArray, List.set_cons_zero, List.set_cons_succ, i64_w, i32_w]
                  rfl
                refine pure_ (i := 6) (N := some 19) (v := ?_) (a' := ?_) #[true, true, true, false, true, true, true, false, false] rfl rfl (any_of HT_.out (by kernel_rfl)) (fun _ _ _ h => h) (Or.inl ⟨by rfl, ?_⟩) ?_ ?_
                rotate_left
                · intro w'
                  go_simp
                  with_reducible rfl
                rotate_left
                · simp only [Act.put, List.setIfInBounds_toArray, List.set_cons_zero, List.set_cons_succ, i64_w, i32_w]
                  rfl
                refine take_ (i := 3) (N := some 16) (v := ?_) (a' := ?_) #[true, true, true, true, true, true, true, false, false] rfl rfl (take_ofW HT_.out HW_.out (by kernel_rfl)) (fun _ _ _ h => h) (Or.inl ⟨by rfl, ?_⟩) hHeld ?_ ?_
                rotate_left
                · rintro w' ⟨s0, s1, s2, s3⟩
                  go_simp
                  with_reducible rfl
                rotate_left
                · simp only [Act.put, List.setIfInBounds_toArray, List.set_cons_zero, List.set_cons_succ, i64_w, i32_w]
                  rfl
                refine take_ (i := 7) (N := some 20) (v := ?_) (a' := ?_) #[true, true, true, true, true, true, true, true, false] rfl rfl (take_ofW HT_.out HW_.out (by kernel_rfl)) (fun _ _ _ h => h) (Or.inl ⟨by rfl, ?_⟩) hHeld ?_ ?_
                rotate_left
                · rintro w' ⟨s0, s1, s2, s3⟩
                  go_simp
                  with_reducible rfl
                rotate_left
                · simp only [Act.put, List.setIfInBounds_toArray, List.set_cons_zero, List.set_cons_succ, i64_w, i32_w]
                  rfl
                refine one_ (i := 8) (N := some 21) #[true, true, true, true, true, true, true, true, true] rfl rfl (one_of HT_.out (by kernel_rfl)) (by decide) (fun K hK => ?_)
                refine goes_ Try.func37 (by kernel_rfl) rfl #[.agg #[.int .i64 ((rd_T37 l0 x4_1).f0), .int .i64 ((rd_T37 l0 x4_1).f1)], .agg #[.int .i64 ((rd_T37 l0 x3_1).f0), .int .i64 ((rd_T37 l0 x3_1).f1)]] (by rfl) rfl rfl (by (try simp only [List.map_toArray, List.map_cons, List.map_nil]); first | done | rfl | (simp only [List.length_drop, List.length_take]; rfl)) ?_
                with_reducible refine (mapmakerref08_Less.calls ((rd_T37 l0 x4_1).f0) ((rd_T37 l0 x4_1).f1) ((rd_T37 l0 x3_1).f0) ((rd_T37 l0 x3_1).f1) false _ A6.out).mono ?_
                rintro e w11 ⟨rfl, hb⟩
                refine ⟨_, rfl, ?_⟩
                have n0_ := Aside0.mk (below_step (by repeat (first | (with_reducible first | exact HB.out | apply below_alloc | apply pw_below_drewN | apply below_drew1) | exact HB.out)) hb)
                clear HB
                have HB := n0_
                clear n0_
                (try clear hb)
                (try clear hb2)
                (try clear hk)
                (try clear hi)
                refine hK.out _ _ ⟨((HB.out.cell (World.block_lt_of_cell? w _ hw181_0)).trans hw181_0), ((HB.out.cell (World.block_lt_of_cell? w _ hw181_1)).trans hw181_1), ((HB.out.cell (World.block_lt_of_cell? w _ hw182_0)).trans hw182_0), ((HB.out.cell (World.block_lt_of_cell? w _ hw182_1)).trans hw182_1)⟩ (fun hHeld => ?_)
                clear hK K
                refine norm_ (a' := ?_) ?_ ?_
                rotate_left
                · show Act.put _ (some 21) _ = _
                  simp only [Act.put, List.setIfInBounds_toArray, List.set_cons_zero, List.set_cons_succ, i64_w, i32_w]
                  rfl
                refine done_ (done_of HT_.out (by kernel_rfl)) ?_
                try go_wp2
                go_roundg k1
                case measure => have := HK1.out; omega
                case rel => exact ⟨(x3_1), (wrap64 (x4_1 + 1)), (by first | rfl | (simp; done) | (simp [*]; done)), (by first | rfl | (simp; done) | (simp [*]; done)), H', ⟨by have := HK1.out; omega⟩, ⟨by repeat (first | (with_reducible first | exact HB.out | apply below_alloc | apply pw_below_drewN | apply below_drew1) | exact HB.out)⟩⟩
            · rw [if_neg c5] at H
              exact absurd H (by simp)
          · rw [if_neg c4] at H
            exact absurd H (by simp)
        · rw [if_neg c3] at H
          exact absurd H (by simp)
      · rw [if_neg c2] at H
        have c2b0 : decide (x4_1 < (l0.length : Int)) = false := decide_eq_false c2
        clear c2
        have H' := Aside0.mk H
        clear H
        go_wp2
        go_loopg [5, 6] k1 (fun kq v5 v6 w' => ∃ (x5_2 : List (S37)) (x6_2 : Int), v6 = .int .i64 x6_2 ∧ Aside0 (mapmakerref11_Canon.l1 kq l0 x3_1 x5_2 x6_2 = some r) ∧ Aside0 (kq ≤ k1) ∧ Aside0 (Kd.R k37 37 w' w.heap.size (fun _ => True) v5 x5_2) ∧ Aside0 (Below w.heap.size w w'))
        case atStart => exact ⟨(([] : List (S37))), (0), (by first | rfl | (simp; done) | (simp [*]; done)), H', ⟨Nat.le_refl _⟩, ⟨by first | exact Kd.R_nil _ _ _ _ _ | exact Kd.N_nil _ _ _ _ _ | exact Kd.V_nil _ _ _ _ _ | exact Kd.Q_nil _ _ _ _ _ | exact Kd.S_nil _ _ _ _ _⟩, ⟨by repeat (first | (with_reducible first | exact HB.out | apply below_alloc | apply pw_below_drewN | apply below_drew1) | exact HB.out)⟩⟩
        case round =>
          clear H'
          try clear p1
          try clear q1
          try clear hx1
          try clear c2
          try clear c2b0
          try clear p2
          try clear c3
          try clear c3b0
          try clear c4
          try clear c4b0
          try clear c5
          try clear c5b0
          try clear p6
          try clear c7
          try clear hx181_0
          try clear hx181_1
          try clear hx182_0
          try clear hx182_1
          try clear p181
          try clear p182
          try clear q181
          try clear q182
          obtain ⟨x5_2, x6_2, rfl, HA, HK2, HO_5, HB⟩ := hrel
          cases gk with
          | zero => exact absurd HA.out (by simp [mapmakerref11_Canon.l1])
          | succ k2 =>
            have H := HA.out
            clear HA
            simp only [mapmakerref11_Canon.l1] at H
            by_cases c12 : x6_2 < (l0.length : Int)
            · rw [if_pos c12] at H
              have c12b0 : decide (x6_2 < (l0.length : Int)) = true := decide_eq_true c12
              clear c12
              by_cases c13 : (l0.length : Int) = 0
              · rw [if_pos c13] at H
                exact absurd H (by simp)
              · rw [if_neg c13] at H
                have c13b0 : ((l0.length : Int) == 0) = false := beq_eq_false_iff_ne.mpr c13
                have c13b1 : ((l0.length : Int) != 0) = true := bne_iff_ne.mpr c13
                have c13b2 : ¬ (l0 = []) := fun h_ => c13 (by rw [h_]; rfl)
                obtain ⟨ji14, hji14⟩ : ∃ j_ : Int, (Int.tmod (wrap64 (x3_1 + x6_2)) (l0.length : Int)) = j_ := ⟨_, rfl⟩
                replace H : (if 0 ≤ (ji14) then (if (ji14) < (l0.length : Int) then (if x5_2.length < 8796093022208 then (mapmakerref11_Canon.l1 k2 l0 x3_1 (x5_2 ++ [(⟨(rd_T37 l0 (ji14)).f0, (rd_T37 l0 (ji14)).f1⟩ : S37)]) (wrap64 (x6_2 + 1))) else (none)) else (none)) else (none)) = some r := by first | (rw [hji14] at H; exact H) | (simp only [hji14] at H ⊢; exact H)
                by_cases c15 : 0 ≤ (ji14)
                · rw [if_pos c15] at H
                  have c15b0 : decide (0 ≤ (ji14)) = true := decide_eq_true c15
                  clear c15
                  by_cases c16 : (ji14) < (l0.length : Int)
                  · rw [if_pos c16] at H
                    have c16b0 : decide ((ji14) < (l0.length : Int)) = true := decide_eq_true c16
                    clear c16
                    by_cases c17 : x5_2.length < 8796093022208
                    · rw [if_pos c17] at H
                      have LMc17 := Aside0.mk c17
                      clear c17
                      obtain ⟨y185, hy185⟩ : ∃ y_ : List (S37), y_ = (x5_2 ++ [(⟨(rd_T37 l0 (ji14)).f0, (rd_T37 l0 (ji14)).f1⟩ : S37)]) := ⟨_, rfl⟩
                      replace H : (mapmakerref11_Canon.l1 k2 l0 x3_1 y185 (wrap64 (x6_2 + 1))) = some r := by first | (rw [hy185]; with_reducible exact H) | (have H2_ := (Option.bind_some _ _).symm.trans H; rw [hy185]; with_reducible exact H2_) | (have H2_ := (Option.bind_some _ _).symm.trans H; with_reducible exact H2_) | with_reducible exact H | (rw [hy185]; exact H) | exact H
                      have Ny185 := Aside0.mk hy185
                      clear hy185
                      have H' := Aside0.mk H
                      clear H
                      have p184 : 0 ≤ ((ji14) : Int) := of_decide_eq_true (by first | (with_reducible assumption) | assumption)
                      have q184 : (ji14) < (l0.length : Int) := of_decide_eq_true (by first | (with_reducible assumption) | assumption)
                      obtain ⟨ad184, e184, hx184_0, hx184_1⟩ := at_T37 HR0.out (ji14) p184 q184
                      cases e184
                      replace hx184_0 := (HB.out.cell (World.block_lt_of_cell? w _ hx184_0)).trans hx184_0
                      replace hx184_1 := (HB.out.cell (World.block_lt_of_cell? w _ hx184_1)).trans hx184_1
                      replace p184 := eq_true p184
                      replace q184 := eq_true q184
                      go_wp2_with (first | ((with_reducible refine gate_builtin (b := .append) (xs := #[.tmp 29, .tmp 39]) rfl ?_); at_builtin; refine Kd.R_append k37 (w0 := w) w.heap.size rfl (.tmp 29) (.tmp 39) 22 37 (.agg #[(.int .i64 0), (.int .i64 0)]) 16 rfl Try.underlying22 info37 rfl (by decide) (by omega) u5 x5_2 (⟨(rd_T37 l0 (ji14)).f0, (rd_T37 l0 (ji14)).f1⟩ : S37) [.int .i64 ((rd_T37 l0 (ji14)).f0), .int .i64 ((rd_T37 l0 (ji14)).f1)] (fun _ => True) (fun _ => False) rfl rfl ?aP (fun _ hk => hk.elim) ?aF ?aO ?aB ?aS ?aL ?_; (case aP => exact k37_mkM _ _ _ (⟨(rd_T37 l0 (ji14)).f0, (rd_T37 l0 (ji14)).f1⟩ : S37)); (case aB => exact (by repeat (first | (with_reducible first | exact HB.out | apply below_alloc | apply pw_below_drewN | apply below_drew1) | exact HB.out))); (case aF => exact (fun _ _ => trivial)); (case aO => exact (by (with_reducible repeat (first | apply Kd.R_alloc | apply Kd.R_drewN | apply Kd.R_drew)); exact HO_5.out)); (case aS => exact (below_size (by repeat (first | (with_reducible first | exact HB.out | apply below_alloc | apply pw_below_drewN | apply below_drew1) | exact HB.out)))); (case aL => have := LMc17.out; omega); intro v186 w18 ho hb hg hat; rw [← Ny185.out] at ho; have n0_ := Aside0.mk (hb); have n1_ := Aside0.mk (ho); clear HB; clear HO_5; have HB := n0_; have HO187 := n1_; clear n0_ n1_; clear ho hb hg hat))
                      go_roundg k2
                      case measure => have := HK1.out; have := HK2.out; omega
                      case rel => exact ⟨(y185), (wrap64 (x6_2 + 1)), (by first | rfl | (simp; done) | (simp [*]; done)), H', ⟨by have := HK1.out; have := HK2.out; omega⟩, ⟨by (with_reducible repeat (first | apply Kd.R_alloc | apply Kd.R_drewN | apply Kd.R_drew)); exact HO187.out⟩, ⟨by repeat (first | (with_reducible first | exact HB.out | apply below_alloc | apply pw_below_drewN | apply below_drew1) | exact HB.out)⟩⟩
                    · rw [if_neg c17] at H
                      exact absurd H (by simp)
                  · rw [if_neg c16] at H
                    exact absurd H (by simp)
                · rw [if_neg c15] at H
                  exact absurd H (by simp)
            · rw [if_neg c12] at H
              have c12b0 : decide (x6_2 < (l0.length : Int)) = false := decide_eq_false c12
              clear c12
              obtain rfl := Option.some.inj H
              go_wp2
              go_ret
              exact ⟨_, by first | rfl | (simp [errW_none, errW_some] <;> rfl) | (simp [*, errW_none, errW_some] <;> rfl), by (with_reducible repeat (first | apply Kd.R_alloc | apply Kd.R_drewN | apply Kd.R_drew)); exact HO_5.out, by repeat (first | (with_reducible first | exact HB.out | apply below_alloc | apply pw_below_drewN | apply below_drew1) | exact HB.out)⟩

end Go.Proofs.Ytbgabhdhheplgaa.PALL
