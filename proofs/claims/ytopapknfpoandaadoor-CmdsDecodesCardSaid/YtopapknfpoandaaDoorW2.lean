import Derived.Test.YtopapknfpoandaaDoorW1
namespace Go.Proofs.YtopapknfpoandaaDoor.Hand
open Go.RowKit Go.Proofs.YtopapknfpoandaaDoorW.PrintWords Go.Proofs.YtopapknfpoandaaDoorW.PrintLast Go.Proofs.YtopapknfpoandaaDoorW.PrintMore Go.Proofs.YtopapknfpoandaaDoorW.SepW Go.Proofs.YtopapknfpoandaaDoor.PALL
set_option linter.unusedVariables false
set_option linter.unusedSimpArgs false
theorem sepI_swap {base : Nat} {w : World} {a b : Thing base} {l : List (Thing base)} {F : Nat → Prop} (S : SepI base w (a :: b :: l) F) : SepI base w (b :: a :: l) F := by
  obtain ⟨ok, h1, h2, ok2, k1, k2, k3⟩ := S
  exact ⟨ok2, fun k hk => ⟨(k1 k hk).1.1, (k1 k hk).2⟩, k2, ok, fun k hk => ⟨⟨(h1 k hk).1, fun hk' => (k1 k hk').1.2 hk⟩, (h1 k hk).2⟩, h2, SepI.mono (fun k hk => ⟨⟨hk.1.1, hk.2⟩, hk.1.2⟩) k3⟩
theorem sepI_tail {base : Nat} {w : World} {a : Thing base} {l l' : List (Thing base)} {F : Nat → Prop} (h : ∀ F, SepI base w l F → SepI base w l' F) (S : SepI base w (a :: l) F) : SepI base w (a :: l') F := by
  obtain ⟨ok, h1, h2, h3⟩ := S
  exact ⟨ok, h1, h2, h _ h3⟩
/-- The first behind the two next. -/
theorem sep_back {w0 w : World} {a b c : Thing w0.heap.size} {l : List (Thing w0.heap.size)} (S : Sep w0 w (a :: b :: c :: l)) : Sep w0 w (b :: c :: a :: l) :=
  ⟨S.below, sepI_tail (fun _ h => sepI_swap h) (sepI_swap S.items)⟩
theorem sep_front {w0 w : World} {a b c : Thing w0.heap.size} {l : List (Thing w0.heap.size)} (S : Sep w0 w (a :: b :: c :: l)) : Sep w0 w (c :: a :: b :: l) :=
  ⟨S.below, sepI_swap (sepI_tail (fun _ h => sepI_swap h) S.items)⟩
set_option maxHeartbeats 8000000 in
set_option maxRecDepth 100000 in
theorem command_closed {w0 w : World} {L : List (Thing w0.heap.size)} {g : Nat} {v : Value} {l : List Int} {x y : Int}
    (S : Sep w0 w (Box _ g 46 #[v, .int .i64 x, .int .i64 y] :: Own _ (Kd.int .i64) 3 v l :: L)) (hlen : l.length ≤ 1000000000) :
    Calls Tryd.prog 17 #[.pointer (some ⟨g, 0, none⟩), .int .i64 7, .slice none 0 0] w fun e w' => e = .returned (.tuple #[]) ∧ ∃ v', Sep w0 w' (Box _ g 46 #[v', .int .i64 x, .int .i64 y] :: Own _ (Kd.int .i64) 3 v' (l ++ [15]) :: L) := by
  have c0 := blk_cell (S.at_box 0 rfl) 0
  simp only [List.getElem?_toArray, List.getElem?_cons_zero, List.getElem?_cons_succ] at  c0
  have LB := Aside0.mk hlen
  have S := Aside0.mk S
  clear hlen
  go_enter Tryd.func17, Tryd.ntmps17
  go_wp2_with (first | ((with_reducible refine gate_builtin (b := .append) (xs := #[.tmp 17, .tmp 22]) rfl ?_); at_builtin; obtain ⟨ok, hR, hnew, hup⟩ := S.out.append 1 rfl; refine Kd.R_append (Kd.int .i64) (w0 := w0) w0.heap.size rfl (.tmp 17) (.tmp 22) 27 3 (.int .i64 0) 8 rfl Tryd.underlying27 info3 rfl (by decide) (by omega) v l 15 [.int .i64 15] ok (fun _ => False) rfl rfl (show Kd.M (Kd.int .i64) _ _ _ 15 [.int .i64 15] from rfl) (fun _ h => h.elim) hnew hR S.out.below S.out.size (by have := LB.out; omega) ?_; intro v23 w23 ho hb hg_ hat; obtain ⟨A23, n23, c23, e23⟩ := R_form ho; subst e23; replace S := Aside0.mk (hup _ w23 _ ho hb hg_); clear hup hR hnew ho hb hg_ hat; have f0 := blk_frozen (S.out.at_box 0 rfl) 0; have c0 := blk_cell (S.out.at_box 0 rfl) 0; simp only [List.getElem?_toArray, List.getElem?_cons_zero, List.getElem?_cons_succ] at c0))
  go_loopg [28] 1 (fun kq v28 w' => v28 = .int .i64 0 ∧ Aside0 (Sep w0 w' (Box _ g 46 #[.slice A23 n23 c23, .int .i64 x, .int .i64 y] :: Own _ (Kd.int .i64) 3 (.slice A23 n23 c23) (l ++ [15]) :: L)))
  case atStart => exact ⟨rfl, ⟨S.out.set 0 rfl 0 _⟩⟩
  case round =>
    clear S c0 f0
    obtain ⟨rfl, S⟩ := hrel
    go_wp2
    go_end0
    exact ⟨rfl, _, S.out⟩
theorem command_m {w0 w : World} {L : List (Thing w0.heap.size)} {g : Nat} {v : Value} {l : List Int} {x y : Int} (id : Int) (pts : List S44) (A : Option Addr) (c q m : Nat)
    (S : Sep w0 w (Box _ g 46 #[v, .int .i64 x, .int .i64 y] :: Own _ (Kd.int .i64) 3 v l :: L)) (hq : L[q]? = some (Src w0 k44 44 (.slice A pts.length c) pts)) (hlen : l.length + 2 * pts.length + 1 ≤ 1000000000)
    (hid : ¬ id = 7) (hm : pts.length = m) :
    Calls Tryd.prog 17 #[.pointer (some ⟨g, 0, none⟩), .int .i64 id, .slice A m c] w fun e w' => e = .returned (.tuple #[]) ∧ ∃ v', Sep w0 w' (Box _ g 46 #[v', .int .i64 (outS pts x y).2.1, .int .i64 (outS pts x y).2.2] :: Own _ (Kd.int .i64) 3 v' (l ++ wrap64 (id + 8 * (pts.length : Int)) :: (outS pts x y).1) :: L) := by
  subst hm; exact command_c id pts A c q S hq hlen hid
theorem take_one {part : List S44} {p0 : S44} (h : rd_T44 part 0 = p0) (hl : 1 ≤ part.length) : part.take 1 = [p0] := by
  cases part with
  | nil => simp at hl
  | cons a t => rw [← h]; rfl
theorem nine : wrap64 (1 + 8 * (([z44] : List S44).length : Int)) = 9 := by unfold wrap64; decide
def encP (k3 : Bool) : List (List S44) → Int → Int → List Int
  | [], _, _ => []
  | p :: t, x, y => (9 :: (outS (p.take 1) x y).1) ++ (wrap64 (2 + 8 * ((p.drop 1).length : Int)) :: (outS (p.drop 1) (outS (p.take 1) x y).2.1 (outS (p.take 1) x y).2.2).1) ++ (if k3 then [15] else []) ++
      encP k3 t (outS (p.drop 1) (outS (p.take 1) x y).2.1 (outS (p.take 1) x y).2.2).2.1 (outS (p.drop 1) (outS (p.take 1) x y).2.1 (outS (p.take 1) x y).2.2).2.2
def total : List (List S44) → Nat
  | [] => 0
  | p :: t => p.length + 1 + total t
theorem outS_len : ∀ (l : List S44) (x y : Int), (outS l x y).1.length = 2 * l.length
  | [], _, _ => rfl
  | p :: t, x, y => by rw [outS]; simp only [List.length_cons, outS_len t]; omega
theorem encP_len (k3 : Bool) : ∀ (l : List (List S44)) (x y : Int), (encP k3 l x y).length ≤ 4 * total l
  | [], _, _ => Nat.le_refl _
  | p :: t, x, y => by
    have h := encP_len k3 t (outS (p.drop 1) (outS (p.take 1) x y).2.1 (outS (p.take 1) x y).2.2).2.1 (outS (p.drop 1) (outS (p.take 1) x y).2.1 (outS (p.take 1) x y).2.2).2.2
    have h2 : (if k3 = true then [(15 : Int)] else []).length ≤ 1 := by split <;> simp
    rw [encP, total]
    simp only [List.length_append, List.length_cons, outS_len, List.length_take, List.length_drop]
    omega
theorem parts_long {kind : Int} : ∀ {parts : List (List S44)}, partsS kind parts = 0 → ∀ p ∈ parts, kind ≤ (p.length : Int) ∧ p.length ≤ 8000
  | [], _, p, hp => by cases hp
  | a :: t, h, p, hp => by
    rw [partsS] at h
    split at h
    · rename_i ha
      rcases List.mem_cons.1 hp with rfl | hp
      · unfold partS at ha
        split at ha
        · omega
        · split at ha
          · omega
          · omega
      · exact parts_long h p hp
    · rename_i ha; exact absurd h ha
theorem total_mem : ∀ {parts : List (List S44)} {p : List S44}, p ∈ parts → p.length ≤ total parts
  | a :: t, p, hp => by
    rw [total]
    rcases List.mem_cons.1 hp with rfl | hp
    · omega
    · have := total_mem hp; omega
theorem total_len : ∀ (parts : List (List S44)), parts.length ≤ total parts
  | [] => Nat.le_refl _
  | a :: t => by have := total_len t; rw [total, List.length_cons]; omega
theorem encP_at (k3 : Bool) {parts : List (List S44)} {i : Nat} (h : i < parts.length) (x y : Int) : encP k3 (parts.drop i) x y = encP k3 (rd_L2 parts (i : Int) :: parts.drop (i + 1)) x y := by
  rw [List.drop_eq_getElem_cons h]
  have : rd_L2 parts (i : Int) = parts[i] := by simp [rd_L2, h]
  rw [this]
set_option maxHeartbeats 8000000 in
set_option maxRecDepth 100000 in
theorem encode_2 (parts : List (List S44)) (A : Option Addr) (c : Nat) (w : World) (hG : Least w) (hr : Kd.C (Kd.slice 44 k44) w A parts.length parts) (hc : parts.length ≤ c) (hN : total parts ≤ 1000000) (hck : checkS 2 parts = 0) :
    Calls Tryd.prog 9 #[.agg #[.int .i64 2, .slice A parts.length c]] w fun e w' => ∃ v, e = .returned (.tuple #[v, .int .i64 0]) ∧ Kd.R (Kd.int .i64) 3 w' w.heap.size (fun _ => True) v (encP false parts 0 0) ∧ Below w.heap.size w w' := by
  have hL : parts.length ≤ 140737488351232 := by have := total_len parts; omega
  have hps : ∀ p ∈ parts, (2 : Int) ≤ (p.length : Int) ∧ p.length ≤ 8000 := by
    unfold checkS at hck
    rw [if_neg (by decide)] at hck
    split at hck
    · omega
    · exact parts_long hck
  have HPS := Aside0.mk hps
  have HCK := Aside0.mk hck
  have HR := Aside0.mk hr
  have EL := Aside0.mk (encP_len false parts 0 0)
  have S := Aside0.mk (Sep.start w)
  have hu24 := Tryd.underlying24
  have hu44 := Tryd.underlying44
  have hu46 := Tryd.underlying46
  clear hps hck hr
  go_enter Tryd.func9, Tryd.ntmps9
  go_wp2_with (first | ((with_reducible refine gate_dst (N := 1) rfl ?_); refine box_event ?hg (N := 1) ?hd (cs := #[.int .i64 2, .slice A parts.length c]) (t := 24) ?hr ?_; (case hd => rfl); (case hg => rfl); (case hr => first | (go_simp; done) | (go_simp; rfl)); intro g1 hg w1 hbox hb; replace S := Aside0.mk (S.out.box hg hbox hb); clear hbox hb hg; have k0 := blk_cell (S.out.at_box 0 rfl) 0; have k1 := blk_cell (S.out.at_box 0 rfl) 1; simp only [List.getElem?_toArray, List.getElem?_cons_zero, List.getElem?_cons_succ] at  k0 k1) | (go_at_call 11; have X_ := check_c 2 parts A c _ (hG.step S.out.below) (Kd.C_below HR.out S.out.below) hc hL; rw [HCK.out] at X_; (with_reducible refine X_.mono ?_); clear X_; rintro e_ w2 ⟨rfl, hb⟩; replace S := Aside0.mk (S.out.step hb); clear hb; have k0 := blk_cell (S.out.at_box 0 rfl) 0; have k1 := blk_cell (S.out.at_box 0 rfl) 1; simp only [List.getElem?_toArray, List.getElem?_cons_zero, List.getElem?_cons_succ] at  k0 k1) | ((with_reducible refine gate_dst (N := 5) rfl ?_); refine box_event ?hg (N := 5) ?hd (cs := #[.slice none 0 0, .int .i64 0, .int .i64 0]) (t := 46) ?hr ?_; (case hd => rfl); (case hg => rfl); (case hr => first | (go_simp; done) | (go_simp; rfl)); intro g5 hg w5 hbox hb; replace S := Aside0.mk ((S.out.box hg hbox hb).nil (Kd.int .i64) 3).swap; clear hbox hb hg; have k0 := blk_cell (S.out.at_box 2 rfl) 0; have k1 := blk_cell (S.out.at_box 2 rfl) 1; simp only [List.getElem?_toArray, List.getElem?_cons_zero, List.getElem?_cons_succ] at  k0 k1))
  go_loopg [40] (parts.length + 1) (fun kq v40 w' => ∃ (i : Nat) (j : Int) (v : Value) (l : List Int) (x1 y1 : Int), v40 = .int .i64 j ∧ Aside0 (j = i) ∧ Aside0 (kq + i = parts.length + 1) ∧ Aside0 (i ≤ parts.length) ∧ Aside0 (l ++ encP false (parts.drop i) x1 y1 = encP false parts 0 0) ∧ Aside0 (Sep w w' [Box _ g5 46 #[v, .int .i64 x1, .int .i64 y1], Own _ (Kd.int .i64) 3 v l, Box _ g1 24 #[.int .i64 2, .slice A parts.length c]]))
  case atStart => exact ⟨0, 0, _, [], 0, 0, rfl, ⟨rfl⟩, ⟨rfl⟩, ⟨Nat.zero_le _⟩, ⟨rfl⟩, S⟩
  case round =>
    clear S
    obtain ⟨i, j, v, l, x1, y1, rfl, J, K, IL, OUT, S⟩ := hrel
    cases gk with
    | zero => exact absurd K.out (by have := IL.out; omega)
    | succ q1 =>
    have LB : Aside0 (l.length ≤ 4000000) := ⟨by have h := congrArg List.length OUT.out; rw [List.length_append] at h; have := EL.out; omega⟩
    by_cases hi : i < parts.length
    · have hj0 : 0 ≤ j := by rw [J.out]; omega
      have hj1 : j < (parts.length : Int) := by rw [J.out]; omega
      have dj := decide_eq_true hj1
      obtain ⟨ad, A0, c0, rfl, hcell, hl0, hC0⟩ := at_L2 HR.out j hj0 hj1
      replace hcell := (S.out.below.cell (World.block_lt_of_cell? w _ hcell)).trans hcell
      have HE := Aside0.mk (encP_at false hi x1 y1)
      rw [← J.out] at HE
      have hpl : (2 : Int) ≤ ((rd_L2 parts j).length : Int) ∧ (rd_L2 parts j).length ≤ 8000 := HPS.out _ (by
        have : rd_L2 parts j = parts[i] := by rw [J.out]; simp [rd_L2, hi]
        rw [this]; exact List.getElem_mem hi)
      obtain ⟨part, hpart⟩ : ∃ part, rd_L2 parts j = part := ⟨_, rfl⟩
      rw [hpart] at hcell hl0 hC0 HE hpl
      clear hpart
      obtain ⟨ad2, rfl, hp0, hp1⟩ := at_T44 (Kd.C_below hC0 S.out.below) 0 (by decide) (by omega)
      obtain ⟨p0, hpp⟩ : ∃ p, rd_T44 part 0 = p := ⟨_, rfl⟩
      rw [hpp] at hp0 hp1
      replace hp0 : wr.cell? ad2 = some (.int .i64 p0.f0) := hp0
      replace hp1 : wr.cell? ⟨ad2.block, ad2.off + 1, none⟩ = some (.int .i64 p0.f1) := hp1
      have HPP := Aside0.mk hpp
      have HC0 := Aside0.mk hC0
      clear hpp hC0
      have q0 : (0 : Int) < (part.length : Int) := by omega
      have q1_ : (1 : Int) ≤ (part.length : Int) := by omega
      have q2 : (1 : Int) ≤ (c0 : Int) := by omega
      have q3 : ¬ c0 = 1 := by omega
      replace hj0 := eq_true hj0
      replace hj1 := eq_true hj1
      have k0 := blk_cell (S.out.at_box 2 rfl) 0
      simp only [List.getElem?_toArray, List.getElem?_cons_zero, List.getElem?_cons_succ] at  k0
      have HD : Aside0 (Kd.C k44 w (some ⟨ad2.block, ad2.off + 2, none⟩) (part.drop 1).length (part.drop 1) ∧ (part.drop 1).length ≤ c0 - 1) := ⟨by
        have h := Kd.C_drop HC0.out (m := 1) (by omega) hl0
        rw [if_neg q3] at h
        exact ⟨h, by rw [List.length_drop]; omega⟩⟩
      go_wp2_with (first | ((with_reducible refine gate_dst (N := 47) rfl ?_); refine Kd.R_lit k44 _ 44 ?hg (N := 47) ?hd (xs := [p0]) (inner := [.int .i64 p0.f0, .int .i64 p0.f1]) (ok := fun _ => True) (okp := fun _ => True) ?hr ?hp (fun _ _ => trivial) trivial (Below.refl _ _) (Nat.le_refl _) (by simp) ?_; (case hd => rfl); (case hg => rfl); (case hr => first | (go_simp; done) | (go_simp; rfl)); (case hp => exact (Reps.c2 (show Kd.M k44 _ _ _ p0 [.int .i64 p0.f0, .int .i64 p0.f1] from k44_mkM _ _ _ _) (Reps.none _ _))); intro v47 w47 ho hb hg_ hat; obtain ⟨A47, c47, e47⟩ := Kd.R_slice ho; subst e47; replace S := Aside0.mk (show Sep w w47 (Box _ g5 46 #[v, .int .i64 x1, .int .i64 y1] :: Own _ (Kd.int .i64) 3 v l :: [Src w k44 44 (.slice A47 [p0].length c47) [p0], Box _ g1 24 #[.int .i64 2, .slice (some ad) parts.length c]]) from (sep_back (S.out.own ho hb)).to_src 2 rfl); clear ho hb hg_ hat) | (go_at_call 17; have X_ : Calls Tryd.prog 17 #[.pointer (some ⟨g5, 0, none⟩), .int .i64 1, .slice A47 1 c47] _ _ := command_c 1 [p0] A47 c47 0 S.out rfl (by simp only [List.length_cons, List.length_nil]; have := LB.out; omega) (by decide); (with_reducible refine X_.mono ?_); clear X_; rintro e_ w17 ⟨rfl, v17, S_⟩; have S9 := Aside0.mk (S_.drop 2); clear S S_) | (go_at_call 17; have S10 := Aside0.mk (show Sep w w17 (Box _ g5 46 #[v17, .int .i64 (outS [p0] x1 y1).2.1, .int .i64 (outS [p0] x1 y1).2.2] :: Own _ (Kd.int .i64) 3 v17 (l ++ wrap64 (1 + 8 * (([p0] : List S44).length : Int)) :: (outS [p0] x1 y1).1) :: [Src w k44 44 (.slice (some ⟨ad2.block, ad2.off + 2, none⟩) (part.drop 1).length (c0 - 1)) (part.drop 1), Box _ g1 24 #[.int .i64 2, .slice (some ad) parts.length c]]) from sep_back (S9.out.src 44 HD.out.1 HD.out.2)); have X_ := command_m 2 (part.drop 1) _ (c0 - 1) 0 (part.length - 1) S10.out rfl (by rw [List.length_append, List.length_cons, outS_len, List.length_drop]; have := LB.out; simp only [List.length_cons, List.length_nil]; omega) (by decide) (List.length_drop ..); (with_reducible refine X_.mono ?_); clear X_; rintro e_ w18 ⟨rfl, v18, S_⟩; have S11 := Aside0.mk (S_.drop 2); clear S9 S10 S_; have k5 := (blk_cell (S11.out.at_box 2 rfl) 0).trans rfl) | (go_at_call 17; have X_ := command_closed S11.out (by rw [List.length_append, List.length_append, List.length_cons, List.length_cons, outS_len, outS_len, List.length_drop]; have := LB.out; simp only [List.length_cons, List.length_nil]; omega); (with_reducible refine X_.mono ?_); clear X_; rintro e_ w19 ⟨rfl, v19, S_⟩; have S12 := Aside0.mk S_; clear S11 S_))
      go_roundg q1
      case measure => omega
      case rel =>
        have hO := OUT.out
        rw [HE.out, encP, take_one HPP.out (by omega)] at hO
        refine ⟨i + 1, wrap64 (j + 1), _, _, _, _, rfl, ⟨wrap_next j i J.out (by omega)⟩, ⟨by have := K.out; omega⟩, ⟨by omega⟩, ⟨?_⟩, ⟨S11.out⟩⟩
        rw [← hO]
        simp only [List.append_assoc, List.cons_append, show wrap64 (1 + 8 * (([p0] : List S44).length : Int)) = 9 from nine, Bool.false_eq_true, if_false, List.nil_append]
    · have dj := decide_eq_false (show ¬ j < (parts.length : Int) by rw [J.out]; omega)
      obtain rfl : i = parts.length := by have := IL.out; omega
      have k0 := blk_cell (S.out.at_box 0 rfl) 0
      simp only [List.getElem?_toArray, List.getElem?_cons_zero, List.getElem?_cons_succ] at  k0
      go_wp2
      go_ret2
      have hO := OUT.out
      rw [List.drop_length] at hO
      have hO : l ++ [] = encP false parts 0 0 := hO
      rw [List.append_nil] at hO
      refine ⟨_, rfl, ?_, S.out.below⟩
      rw [← hO]
      exact S.out.at_own 1 rfl
set_option maxHeartbeats 8000000 in
set_option maxRecDepth 100000 in
theorem encode_3 (parts : List (List S44)) (A : Option Addr) (c : Nat) (w : World) (hG : Least w) (hr : Kd.C (Kd.slice 44 k44) w A parts.length parts) (hc : parts.length ≤ c) (hN : total parts ≤ 1000000) (hck : checkS 3 parts = 0) :
    Calls Tryd.prog 9 #[.agg #[.int .i64 3, .slice A parts.length c]] w fun e w' => ∃ v, e = .returned (.tuple #[v, .int .i64 0]) ∧ Kd.R (Kd.int .i64) 3 w' w.heap.size (fun _ => True) v (encP true parts 0 0) ∧ Below w.heap.size w w' := by
  have hL : parts.length ≤ 140737488351232 := by have := total_len parts; omega
  have hps : ∀ p ∈ parts, (3 : Int) ≤ (p.length : Int) ∧ p.length ≤ 8000 := by
    unfold checkS at hck
    rw [if_neg (by decide)] at hck
    split at hck
    · omega
    · exact parts_long hck
  have HPS := Aside0.mk hps
  have HCK := Aside0.mk hck
  have HR := Aside0.mk hr
  have EL := Aside0.mk (encP_len true parts 0 0)
  have S := Aside0.mk (Sep.start w)
  have hu24 := Tryd.underlying24
  have hu44 := Tryd.underlying44
  have hu46 := Tryd.underlying46
  clear hps hck hr
  go_enter Tryd.func9, Tryd.ntmps9
  go_wp2_with (first | ((with_reducible refine gate_dst (N := 1) rfl ?_); refine box_event ?hg (N := 1) ?hd (cs := #[.int .i64 3, .slice A parts.length c]) (t := 24) ?hr ?_; (case hd => rfl); (case hg => rfl); (case hr => first | (go_simp; done) | (go_simp; rfl)); intro g1 hg w1 hbox hb; replace S := Aside0.mk (S.out.box hg hbox hb); clear hbox hb hg; have k0 := blk_cell (S.out.at_box 0 rfl) 0; have k1 := blk_cell (S.out.at_box 0 rfl) 1; simp only [List.getElem?_toArray, List.getElem?_cons_zero, List.getElem?_cons_succ] at  k0 k1) | (go_at_call 11; have X_ := check_c 3 parts A c _ (hG.step S.out.below) (Kd.C_below HR.out S.out.below) hc hL; rw [HCK.out] at X_; (with_reducible refine X_.mono ?_); clear X_; rintro e_ w2 ⟨rfl, hb⟩; replace S := Aside0.mk (S.out.step hb); clear hb; have k0 := blk_cell (S.out.at_box 0 rfl) 0; have k1 := blk_cell (S.out.at_box 0 rfl) 1; simp only [List.getElem?_toArray, List.getElem?_cons_zero, List.getElem?_cons_succ] at  k0 k1) | ((with_reducible refine gate_dst (N := 5) rfl ?_); refine box_event ?hg (N := 5) ?hd (cs := #[.slice none 0 0, .int .i64 0, .int .i64 0]) (t := 46) ?hr ?_; (case hd => rfl); (case hg => rfl); (case hr => first | (go_simp; done) | (go_simp; rfl)); intro g5 hg w5 hbox hb; replace S := Aside0.mk ((S.out.box hg hbox hb).nil (Kd.int .i64) 3).swap; clear hbox hb hg; have k0 := blk_cell (S.out.at_box 2 rfl) 0; have k1 := blk_cell (S.out.at_box 2 rfl) 1; simp only [List.getElem?_toArray, List.getElem?_cons_zero, List.getElem?_cons_succ] at  k0 k1))
  go_loopg [40] (parts.length + 1) (fun kq v40 w' => ∃ (i : Nat) (j : Int) (v : Value) (l : List Int) (x1 y1 : Int), v40 = .int .i64 j ∧ Aside0 (j = i) ∧ Aside0 (kq + i = parts.length + 1) ∧ Aside0 (i ≤ parts.length) ∧ Aside0 (l ++ encP true (parts.drop i) x1 y1 = encP true parts 0 0) ∧ Aside0 (Sep w w' [Box _ g5 46 #[v, .int .i64 x1, .int .i64 y1], Own _ (Kd.int .i64) 3 v l, Box _ g1 24 #[.int .i64 3, .slice A parts.length c]]))
  case atStart => exact ⟨0, 0, _, [], 0, 0, rfl, ⟨rfl⟩, ⟨rfl⟩, ⟨Nat.zero_le _⟩, ⟨rfl⟩, S⟩
  case round =>
    clear S
    obtain ⟨i, j, v, l, x1, y1, rfl, J, K, IL, OUT, S⟩ := hrel
    cases gk with
    | zero => exact absurd K.out (by have := IL.out; omega)
    | succ q1 =>
    have LB : Aside0 (l.length ≤ 4000000) := ⟨by have h := congrArg List.length OUT.out; rw [List.length_append] at h; have := EL.out; omega⟩
    by_cases hi : i < parts.length
    · have hj0 : 0 ≤ j := by rw [J.out]; omega
      have hj1 : j < (parts.length : Int) := by rw [J.out]; omega
      have dj := decide_eq_true hj1
      obtain ⟨ad, A0, c0, rfl, hcell, hl0, hC0⟩ := at_L2 HR.out j hj0 hj1
      replace hcell := (S.out.below.cell (World.block_lt_of_cell? w _ hcell)).trans hcell
      have HE := Aside0.mk (encP_at true hi x1 y1)
      rw [← J.out] at HE
      have hpl : (3 : Int) ≤ ((rd_L2 parts j).length : Int) ∧ (rd_L2 parts j).length ≤ 8000 := HPS.out _ (by
        have : rd_L2 parts j = parts[i] := by rw [J.out]; simp [rd_L2, hi]
        rw [this]; exact List.getElem_mem hi)
      obtain ⟨part, hpart⟩ : ∃ part, rd_L2 parts j = part := ⟨_, rfl⟩
      rw [hpart] at hcell hl0 hC0 HE hpl
      clear hpart
      obtain ⟨ad2, rfl, hp0, hp1⟩ := at_T44 (Kd.C_below hC0 S.out.below) 0 (by decide) (by omega)
      obtain ⟨p0, hpp⟩ : ∃ p, rd_T44 part 0 = p := ⟨_, rfl⟩
      rw [hpp] at hp0 hp1
      replace hp0 : wr.cell? ad2 = some (.int .i64 p0.f0) := hp0
      replace hp1 : wr.cell? ⟨ad2.block, ad2.off + 1, none⟩ = some (.int .i64 p0.f1) := hp1
      have HPP := Aside0.mk hpp
      have HC0 := Aside0.mk hC0
      clear hpp hC0
      have q0 : (0 : Int) < (part.length : Int) := by omega
      have q1_ : (1 : Int) ≤ (part.length : Int) := by omega
      have q2 : (1 : Int) ≤ (c0 : Int) := by omega
      have q3 : ¬ c0 = 1 := by omega
      replace hj0 := eq_true hj0
      replace hj1 := eq_true hj1
      have k0 := blk_cell (S.out.at_box 2 rfl) 0
      simp only [List.getElem?_toArray, List.getElem?_cons_zero, List.getElem?_cons_succ] at  k0
      have HD : Aside0 (Kd.C k44 w (some ⟨ad2.block, ad2.off + 2, none⟩) (part.drop 1).length (part.drop 1) ∧ (part.drop 1).length ≤ c0 - 1) := ⟨by
        have h := Kd.C_drop HC0.out (m := 1) (by omega) hl0
        rw [if_neg q3] at h
        exact ⟨h, by rw [List.length_drop]; omega⟩⟩
      go_wp2_with (first | ((with_reducible refine gate_dst (N := 47) rfl ?_); refine Kd.R_lit k44 _ 44 ?hg (N := 47) ?hd (xs := [p0]) (inner := [.int .i64 p0.f0, .int .i64 p0.f1]) (ok := fun _ => True) (okp := fun _ => True) ?hr ?hp (fun _ _ => trivial) trivial (Below.refl _ _) (Nat.le_refl _) (by simp) ?_; (case hd => rfl); (case hg => rfl); (case hr => first | (go_simp; done) | (go_simp; rfl)); (case hp => exact (Reps.c2 (show Kd.M k44 _ _ _ p0 [.int .i64 p0.f0, .int .i64 p0.f1] from k44_mkM _ _ _ _) (Reps.none _ _))); intro v47 w47 ho hb hg_ hat; obtain ⟨A47, c47, e47⟩ := Kd.R_slice ho; subst e47; replace S := Aside0.mk (show Sep w w47 (Box _ g5 46 #[v, .int .i64 x1, .int .i64 y1] :: Own _ (Kd.int .i64) 3 v l :: [Src w k44 44 (.slice A47 [p0].length c47) [p0], Box _ g1 24 #[.int .i64 3, .slice (some ad) parts.length c]]) from (sep_back (S.out.own ho hb)).to_src 2 rfl); clear ho hb hg_ hat) | (go_at_call 17; have X_ : Calls Tryd.prog 17 #[.pointer (some ⟨g5, 0, none⟩), .int .i64 1, .slice A47 1 c47] _ _ := command_c 1 [p0] A47 c47 0 S.out rfl (by simp only [List.length_cons, List.length_nil]; have := LB.out; omega) (by decide); (with_reducible refine X_.mono ?_); clear X_; rintro e_ w17 ⟨rfl, v17, S_⟩; have S9 := Aside0.mk (S_.drop 2); clear S S_) | (go_at_call 17; have S10 := Aside0.mk (show Sep w w17 (Box _ g5 46 #[v17, .int .i64 (outS [p0] x1 y1).2.1, .int .i64 (outS [p0] x1 y1).2.2] :: Own _ (Kd.int .i64) 3 v17 (l ++ wrap64 (1 + 8 * (([p0] : List S44).length : Int)) :: (outS [p0] x1 y1).1) :: [Src w k44 44 (.slice (some ⟨ad2.block, ad2.off + 2, none⟩) (part.drop 1).length (c0 - 1)) (part.drop 1), Box _ g1 24 #[.int .i64 3, .slice (some ad) parts.length c]]) from sep_back (S9.out.src 44 HD.out.1 HD.out.2)); have X_ := command_m 2 (part.drop 1) _ (c0 - 1) 0 (part.length - 1) S10.out rfl (by rw [List.length_append, List.length_cons, outS_len, List.length_drop]; have := LB.out; simp only [List.length_cons, List.length_nil]; omega) (by decide) (List.length_drop ..); (with_reducible refine X_.mono ?_); clear X_; rintro e_ w18 ⟨rfl, v18, S_⟩; have S11 := Aside0.mk (S_.drop 2); clear S9 S10 S_; have k5 := (blk_cell (S11.out.at_box 2 rfl) 0).trans rfl) | (go_at_call 17; have X_ := command_closed S11.out (by rw [List.length_append, List.length_append, List.length_cons, List.length_cons, outS_len, outS_len, List.length_drop]; have := LB.out; simp only [List.length_cons, List.length_nil]; omega); (with_reducible refine X_.mono ?_); clear X_; rintro e_ w19 ⟨rfl, v19, S_⟩; have S12 := Aside0.mk S_; clear S11 S_))
      go_roundg q1
      case measure => omega
      case rel =>
        have hO := OUT.out
        rw [HE.out, encP, take_one HPP.out (by omega)] at hO
        refine ⟨i + 1, wrap64 (j + 1), _, _, _, _, rfl, ⟨wrap_next j i J.out (by omega)⟩, ⟨by have := K.out; omega⟩, ⟨by omega⟩, ⟨?_⟩, ⟨S12.out⟩⟩
        rw [← hO]
        simp only [List.append_assoc, List.cons_append, show wrap64 (1 + 8 * (([p0] : List S44).length : Int)) = 9 from nine, if_true]
    · have dj := decide_eq_false (show ¬ j < (parts.length : Int) by rw [J.out]; omega)
      obtain rfl : i = parts.length := by have := IL.out; omega
      have k0 := blk_cell (S.out.at_box 0 rfl) 0
      simp only [List.getElem?_toArray, List.getElem?_cons_zero, List.getElem?_cons_succ] at  k0
      go_wp2
      go_ret2
      have hO := OUT.out
      rw [List.drop_length] at hO
      have hO : l ++ [] = encP true parts 0 0 := hO
      rw [List.append_nil] at hO
      refine ⟨_, rfl, ?_, S.out.below⟩
      rw [← hO]
      exact S.out.at_own 1 rfl
theorem map_len {α β : Type} (f : α → β) (l : List α) : (l.map f).length = l.length := List.length_map ..
/-- The points of a geometry of points. -/
def firsts (parts : List (List S44)) : List S44 := parts.map (fun p => rd_T44 p 0)
set_option maxHeartbeats 8000000 in
set_option maxRecDepth 100000 in
theorem encode_1 (parts : List (List S44)) (A : Option Addr) (c : Nat) (w : World) (hG : Least w) (hr : Kd.C (Kd.slice 44 k44) w A parts.length parts) (hc : parts.length ≤ c) (hN : total parts ≤ 1000000) (hck : checkS 1 parts = 0) :
    Calls Tryd.prog 9 #[.agg #[.int .i64 1, .slice A parts.length c]] w fun e w' => ∃ v, e = .returned (.tuple #[v, .int .i64 0]) ∧ Kd.R (Kd.int .i64) 3 w' w.heap.size (fun _ => True) v (wrap64 (1 + 8 * (parts.length : Int)) :: (outS (firsts parts) 0 0).1) ∧ Below w.heap.size w w' := by
  have hpn : parts.length ≤ 1000000 := by have := total_len parts; omega
  have hL : parts.length ≤ 140737488351232 := by omega
  have hps : ∀ p ∈ parts, (1 : Int) ≤ (p.length : Int) ∧ p.length ≤ 8000 := by
    unfold checkS at hck
    rw [if_neg (by decide)] at hck
    split at hck
    · omega
    · exact parts_long hck
  have HPS := Aside0.mk hps
  have HCK := Aside0.mk hck
  have HR := Aside0.mk hr
  have S := Aside0.mk (Sep.start w)
  have hu24 := Tryd.underlying24
  have hu44 := Tryd.underlying44
  have hu46 := Tryd.underlying46
  have hu42 := Tryd.underlying42
  clear hps hck hr
  go_enter Tryd.func9, Tryd.ntmps9
  go_wp2_with (first | ((with_reducible refine gate_dst (N := 1) rfl ?_); refine box_event ?hg (N := 1) ?hd (cs := #[.int .i64 1, .slice A parts.length c]) (t := 24) ?hr ?_; (case hd => rfl); (case hg => rfl); (case hr => first | (go_simp; done) | (go_simp; rfl)); intro g1 hg w1 hbox hb; replace S := Aside0.mk (S.out.box hg hbox hb); clear hbox hb hg; have k0 := blk_cell (S.out.at_box 0 rfl) 0; have k1 := blk_cell (S.out.at_box 0 rfl) 1; simp only [List.getElem?_toArray, List.getElem?_cons_zero, List.getElem?_cons_succ] at  k0 k1) | (go_at_call 11; have X_ := check_c 1 parts A c _ (hG.step S.out.below) (Kd.C_below HR.out S.out.below) hc hL; rw [HCK.out] at X_; (with_reducible refine X_.mono ?_); clear X_; rintro e_ w2 ⟨rfl, hb⟩; replace S := Aside0.mk (S.out.step hb); clear hb; have k0 := blk_cell (S.out.at_box 0 rfl) 0; have k1 := blk_cell (S.out.at_box 0 rfl) 1; simp only [List.getElem?_toArray, List.getElem?_cons_zero, List.getElem?_cons_succ] at  k0 k1) | ((with_reducible refine gate_dst (N := 5) rfl ?_); refine box_event ?hg (N := 5) ?hd (cs := #[.slice none 0 0, .int .i64 0, .int .i64 0]) (t := 46) ?hr ?_; (case hd => rfl); (case hg => rfl); (case hr => first | (go_simp; done) | (go_simp; rfl)); intro g5 hg w5 hbox hb; replace S := Aside0.mk ((S.out.box hg hbox hb).nil (Kd.int .i64) 3).swap; clear hbox hb hg; have k0 := blk_cell (S.out.at_box 2 rfl) 0; have k1 := blk_cell (S.out.at_box 2 rfl) 1; simp only [List.getElem?_toArray, List.getElem?_cons_zero, List.getElem?_cons_succ] at  k0 k1))
  go_loopg [6, 22] (parts.length + 1) (fun kq v6 v22 w' => ∃ (i : Nat) (j : Int) (acc : List S44), v22 = .int .i64 j ∧ Aside0 (j = i) ∧ Aside0 (kq + i = parts.length + 1) ∧ Aside0 (i ≤ parts.length) ∧ Aside0 (acc = firsts (parts.take i)) ∧ Aside0 (Sep w w' [Own _ k44 44 v6 acc, Box _ g5 46 #[.slice none 0 0, .int .i64 0, .int .i64 0], Own _ (Kd.int .i64) 3 (.slice none 0 0) [], Box _ g1 24 #[.int .i64 1, .slice A parts.length c]]))
  case atStart => exact ⟨0, 0, [], rfl, ⟨rfl⟩, ⟨rfl⟩, ⟨Nat.zero_le _⟩, ⟨rfl⟩, ⟨S.out.nil k44 44⟩⟩
  case round =>
    clear S
    obtain ⟨i, j, acc, rfl, J, K, IL, AC, S⟩ := hrel
    cases gk with
    | zero => exact absurd K.out (by have := IL.out; omega)
    | succ q1 =>
    have hal : acc.length ≤ 1000000 := by rw [AC.out, firsts, List.length_map, List.length_take]; omega
    by_cases hi : i < parts.length
    · have hj0 : 0 ≤ j := by rw [J.out]; omega
      have hj1 : j < (parts.length : Int) := by rw [J.out]; omega
      have dj := decide_eq_true hj1
      obtain ⟨ad, A0, c0, rfl, hcell, hl0, hC0⟩ := at_L2 HR.out j hj0 hj1
      replace hcell := (S.out.below.cell (World.block_lt_of_cell? w _ hcell)).trans hcell
      have hrd : rd_L2 parts j = parts[i] := by rw [J.out]; simp [rd_L2, hi]
      have hpl : (1 : Int) ≤ ((rd_L2 parts j).length : Int) ∧ (rd_L2 parts j).length ≤ 8000 := HPS.out _ (by rw [hrd]; exact List.getElem_mem hi)
      obtain ⟨part, hpart⟩ : ∃ part, rd_L2 parts j = part := ⟨_, rfl⟩
      have HPI : Aside0 (parts[i] = part) := ⟨by rw [← hrd, hpart]⟩
      rw [hpart] at hcell hl0 hC0 hpl
      clear hpart hrd
      obtain ⟨ad2, rfl, hp0, hp1⟩ := at_T44 (Kd.C_below hC0 S.out.below) 0 (by decide) (by omega)
      obtain ⟨p0, hpp⟩ : ∃ p, rd_T44 part 0 = p := ⟨_, rfl⟩
      rw [hpp] at hp0 hp1
      replace hp0 : wr.cell? ad2 = some (.int .i64 p0.f0) := hp0
      replace hp1 : wr.cell? ⟨ad2.block, ad2.off + 1, none⟩ = some (.int .i64 p0.f1) := hp1
      have HPP := Aside0.mk hpp
      clear hpp hC0
      have q0 : (0 : Int) < (part.length : Int) := by omega
      replace hj0 := eq_true hj0
      replace hj1 := eq_true hj1
      go_wp2_with (first | ((with_reducible refine gate_builtin (b := .append) (xs := #[.tmp 26, .tmp 30]) rfl ?_); at_builtin; obtain ⟨ok, hR, hnew, hup⟩ := S.out.append 0 rfl; refine Kd.R_append k44 (w0 := w) w.heap.size rfl (.tmp 26) (.tmp 30) 42 44 (.agg #[(.int .i64 0), (.int .i64 0)]) 16 rfl Tryd.underlying42 info44 rfl (by decide) (by omega) u6 acc p0 [.int .i64 p0.f0, .int .i64 p0.f1] ok (fun _ => False) rfl rfl (k44_mkM _ _ _ _) (fun _ h => h.elim) hnew hR S.out.below S.out.size (by omega) ?_; intro v31 w31 ho hb hg_ hat; have S9 := Aside0.mk (hup v31 w31 _ ho hb hg_); clear S hup hR hnew ho hb hg_ hat))
      go_roundg q1
      case measure => omega
      case rel =>
        refine ⟨i + 1, wrap64 (j + 1), acc ++ [p0], rfl, ⟨wrap_next j i J.out (by omega)⟩, ⟨by have := K.out; omega⟩, ⟨by omega⟩, ⟨?_⟩, ⟨S9.out⟩⟩
        rw [AC.out, List.take_succ_eq_append_getElem hi, firsts, firsts, List.map_append, HPI.out, List.map_singleton, HPP.out]
    · have dj := decide_eq_false (show ¬ j < (parts.length : Int) by rw [J.out]; omega)
      obtain rfl : i = parts.length := by have := IL.out; omega
      obtain ⟨A6, c6, e6⟩ := Kd.R_slice (S.out.at_own 0 rfl)
      subst e6
      have S8 := Aside0.mk (show Sep w wr (Box _ g5 46 #[.slice none 0 0, .int .i64 0, .int .i64 0] :: Own _ (Kd.int .i64) 3 (.slice none 0 0) [] :: [Src w k44 44 (.slice A6 acc.length c6) acc, Box _ g1 24 #[.int .i64 1, .slice A parts.length c]]) from (sep_back S.out).to_src 2 rfl)
      clear S
      go_wp2_with (first | (go_at_call 17; have X_ := command_c 1 acc A6 c6 0 S8.out rfl (by simp only [List.length_nil]; omega) (by decide); (with_reducible refine X_.mono ?_); clear X_; rintro e_ w17 ⟨rfl, v17, S_⟩; have S9 := Aside0.mk S_; have k9 : w17.cell? ⟨g5, 0, none⟩ = some v17 := (blk_cell (S9.out.at_box 0 rfl) 0).trans rfl; clear S8 S_))
      go_ret2
      have hA := AC.out
      rw [List.take_length] at hA
      refine ⟨v17, rfl, ?_, S9.out.below⟩
      have h := S9.out.at_own 1 rfl
      rw [hA, firsts, List.length_map] at h
      exact h
set_option maxHeartbeats 8000000 in
set_option maxRecDepth 100000 in
theorem encode_bad (kind : Int) (parts : List (List S44)) (A : Option Addr) (c : Nat) (w : World) (hG : Least w) (hr : Kd.C (Kd.slice 44 k44) w A parts.length parts) (hc : parts.length ≤ c) (hL : parts.length ≤ 140737488351232) (hck : ¬ checkS kind parts = 0) :
    Calls Tryd.prog 9 #[.agg #[.int .i64 kind, .slice A parts.length c]] w fun e w' => ∃ v, e = .returned (.tuple #[v, .int .i64 (checkS kind parts)]) ∧ Kd.R (Kd.int .i64) 3 w' w.heap.size (fun _ => True) v [] ∧ Below w.heap.size w w' := by
  obtain ⟨ck, hk⟩ : ∃ ck, checkS kind parts = ck := ⟨_, rfl⟩
  rw [hk] at hck ⊢
  have HCK := Aside0.mk hk
  have HR := Aside0.mk hr
  have S := Aside0.mk (Sep.start w)
  have hu24 := Tryd.underlying24
  have d := bne_iff_ne.2 hck
  clear hck hr hk
  go_enter Tryd.func9, Tryd.ntmps9
  go_wp2_with (first | ((with_reducible refine gate_dst (N := 1) rfl ?_); refine box_event ?hg (N := 1) ?hd (cs := #[.int .i64 kind, .slice A parts.length c]) (t := 24) ?hr ?_; (case hd => rfl); (case hg => rfl); (case hr => first | (go_simp; done) | (go_simp; rfl)); intro g1 hg w1 hbox hb; replace S := Aside0.mk (S.out.box hg hbox hb); clear hbox hb hg; have k0 := blk_cell (S.out.at_box 0 rfl) 0; have k1 := blk_cell (S.out.at_box 0 rfl) 1; simp only [List.getElem?_toArray, List.getElem?_cons_zero, List.getElem?_cons_succ] at  k0 k1) | (go_at_call 11; have X_ := check_c kind parts A c _ (hG.step S.out.below) (Kd.C_below HR.out S.out.below) hc hL; rw [HCK.out] at X_; (with_reducible refine X_.mono ?_); clear X_; rintro e_ w2 ⟨rfl, hb⟩; replace S := Aside0.mk (S.out.step hb); clear hb; have k0 := blk_cell (S.out.at_box 0 rfl) 0; have k1 := blk_cell (S.out.at_box 0 rfl) 1; simp only [List.getElem?_toArray, List.getElem?_cons_zero, List.getElem?_cons_succ] at  k0 k1))
  go_ret2
  exact ⟨_, rfl, (S.out.nil (Kd.int .i64) 3).at_own 0 rfl, S.out.below⟩
def encS (kind : Int) (parts : List (List S44)) : List Int :=
  if checkS kind parts = 0 then (if kind = 1 then wrap64 (1 + 8 * (parts.length : Int)) :: (outS (firsts parts) 0 0).1 else encP (decide (kind = 3)) parts 0 0) else []
theorem encode_c (kind : Int) (parts : List (List S44)) (A : Option Addr) (c : Nat) (w : World) (hG : Least w) (hr : Kd.C (Kd.slice 44 k44) w A parts.length parts) (hc : parts.length ≤ c) (hN : total parts ≤ 1000000) :
    Calls Tryd.prog 9 #[.agg #[.int .i64 kind, .slice A parts.length c]] w fun e w' => ∃ v, e = .returned (.tuple #[v, .int .i64 (checkS kind parts)]) ∧ Kd.R (Kd.int .i64) 3 w' w.heap.size (fun _ => True) v (encS kind parts) ∧ Below w.heap.size w w' := by
  unfold encS
  by_cases hck : checkS kind parts = 0
  · rw [if_pos hck]
    have hk : kind = 1 ∨ kind = 2 ∨ kind = 3 := by
      unfold checkS at hck
      split at hck
      · omega
      · omega
    rw [hck]
    rcases hk with rfl | rfl | rfl
    · rw [if_pos rfl]; exact encode_1 parts A c w hG hr hc hN hck
    · rw [if_neg (by decide)]; exact encode_2 parts A c w hG hr hc hN hck
    · rw [if_neg (by decide)]; exact encode_3 parts A c w hG hr hc hN hck
  · rw [if_neg hck]
    exact encode_bad kind parts A c w hG hr hc (by have := total_len parts; omega) hck
end Go.Proofs.YtopapknfpoandaaDoor.Hand
