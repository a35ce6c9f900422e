import Derived.Test.YtopapknfpoandaaDoorR3
import Derived.Test.YtopapknfpoandaaDoorW2
namespace Go.Proofs.YtopapknfpoandaaDoor.Hand
open Go.Proofs.YtopapknfpoandaaDoorW Go.RowKit Go.Proofs.YtopapknfpoandaaDoorW.PrintWords Go.Proofs.YtopapknfpoandaaDoorW.PrintLast Go.Proofs.YtopapknfpoandaaDoorW.PrintMore Go.Proofs.YtopapknfpoandaaDoorW.SepW Go.Proofs.YtopapknfpoandaaDoor.PALL
set_option linter.unusedVariables false
set_option linter.unusedSimpArgs false
theorem info42 : (Tryd.prog.info? 42).map (fun i => (i.zero, i.size, i.bytes)) = some (some (.slice none 0 0), 1, 24) := by kernel_rfl
theorem size24 : (Tryd.prog.info? 24).map (·.size) = some 2 := by kernel_rfl
theorem results_row_tmp {P : Program} {fn : Func} {p u : Tmp} {ty : TypeId} (h : fn.results = #[.cell p ty, .tmp u]) (tmps : Array Value) (w : World) (g : Nat) (t : TypeId) (cs : Array Value) (fr : Nat × Nat) (d : TypeDesc)
    (hp : tmps.getD p undef = .pointer (some ⟨g, 0, none⟩)) (hg : w.heap[g]? = some (.cells cs t fr))
    (hu : P.underlying ty = some d) (hd : (match d with | .struct _ | .array _ _ => true | _ => false) = true) (hi : (P.info? ty).map (·.size) = some cs.size) :
    (results fn tmps).run P w = .ok (.tuple #[.agg cs, tmps.getD u undef]) w := by
  rw [results_cell_tmp h, hp]
  simp [asAddr, run_loadVar_row w g t ty cs fr d hg hu hd hi, Result.andThen]
theorem next_suf (r : RS) : (nextS r).2.l <:+ r.l := by
  obtain ⟨l, x, y, b⟩ := r
  cases l with
  | nil => exact List.suffix_refl _
  | cons z t => exact List.suffix_cons _ _
theorem step_suf (r : RS) : (stepS r).2.l <:+ r.l := by
  have h := next_suf r
  unfold stepS
  split
  · exact h
  · split <;> exact h
theorem point_suf (r : RS) : (pointS r).l <:+ r.l := List.IsSuffix.trans (step_suf (half1 r)) (step_suf r)
theorem pts_suf : ∀ (m : Nat) (r : RS), (ptsS m r).2.l <:+ r.l
  | 0, r => List.suffix_refl _
  | m + 1, r => by
    rw [ptsS]
    split
    · exact List.suffix_refl _
    · exact List.IsSuffix.trans (pts_suf m _) (point_suf r)
theorem cmd_suf (id : Int) (r : RS) : (cmdS id r).2.l <:+ r.l := by
  have h := next_suf r
  unfold cmdS
  split
  · exact h
  · split
    · exact h
    · exact List.IsSuffix.trans (pts_suf _ _) h
theorem pts_len : ∀ (m : Nat) (r : RS), (ptsS m r).1.length ≤ r.l.length + 1
  | 0, r => Nat.zero_le _
  | m + 1, r => by
    rw [ptsS]
    split
    · exact Nat.zero_le _
    · have h := pts_len m (pointS r)
      have h2 := pointS_len r
      by_cases hb : (pointS r).b = true
      · cases m with
        | zero => simp [ptsS]
        | succ m => rw [ptsS, if_pos hb]; simp
      · have h3 := h2.2 (by simpa using hb)
        simp only [List.length_cons]
        omega
theorem cmd_cnt (id : Int) (r : RS) : (cmdS id r).1.length ≤ r.l.length + 1 := by
  have h := (next_len r).1
  unfold cmdS
  split
  · exact Nat.zero_le _
  · split
    · exact Nat.zero_le _
    · exact Nat.le_trans (pts_len _ _) (by omega)
theorem cmd_less (id : Int) (r : RS) (h : (cmdS id r).1 ≠ []) : (cmdS id r).2.l.length < r.l.length := by
  have hn := next_len r
  unfold cmdS at h ⊢
  split
  · rename_i hb; rw [if_pos hb] at h; exact absurd rfl h
  · rename_i hb
    have h1 := (hn.2 (by
      cases h : (nextS r).2.b with
      | true => exact absurd (.inl h) hb
      | false => rfl)).2
    split
    · show (nextS r).2.l.length < _; omega
    · have := (pts_suf ((nextS r).1 / 8).toNat (nextS r).2).length_le
      omega
/-- Numbers of 64 bits. -/
def Num (l : List Int) : Prop := ∀ z ∈ l, z ≤ 9223372036854775807
theorem Num.suf {l l' : List Int} (h : Num l) (hs : l' <:+ l) : Num l' := fun z hz => h z (hs.subset hz)
theorem Num.next {r : RS} (h : Num r.l) : (nextS r).1 ≤ 9223372036854775807 := by
  obtain ⟨l, x, y, b⟩ := r
  cases l with
  | nil => show (0 : Int) ≤ _; decide
  | cons z t => exact h z (List.mem_cons_self ..)
/-- The parts of a line or an area. -/
def decL (k3 : Bool) : Nat → RS → List (List S44) → List (List S44) × RS
  | 0, r, acc => (acc, r)
  | n + 1, r, acc => if r.l = [] ∨ r.b = true then (acc, r) else
    if (cmdS 1 r).1.length ≠ 1 then (acc, { (cmdS 1 r).2 with b := true }) else
    decL k3 n (if k3 then (cmdS 7 (cmdS 2 (cmdS 1 r).2).2).2 else (cmdS 2 (cmdS 1 r).2).2) (acc ++ [(cmdS 1 r).1 ++ (cmdS 2 (cmdS 1 r).2).1])
def r0 (l : List Int) : RS := ⟨l, 0, 0, false⟩
def decP (kind : Int) (l : List Int) : List (List S44) × RS :=
  if kind = 1 then ((cmdS 1 (r0 l)).1.map (fun p => [p]), (cmdS 1 (r0 l)).2) else decL (decide (kind = 3)) (l.length + 1) (r0 l) []
def decBad (kind : Int) (q : List (List S44) × RS) : Prop := q.2.b = true ∨ q.2.l ≠ [] ∨ checkS kind q.1 ≠ 0
instance (kind : Int) (q : List (List S44) × RS) : Decidable (decBad kind q) := by unfold decBad; infer_instance
def decS (kind : Int) (l : List Int) : Int × List (List S44) × Int :=
  if kind < 1 ∨ 3 < kind then (0, [], 1) else if decBad kind (decP kind l) then (0, [], 4) else (kind, (decP kind l).1, 0)
theorem decS_bad {kind : Int} {l : List Int} {ps : List (List S44)} {q : RS} (hk : ¬ (kind < 1 ∨ 3 < kind)) (h : decP kind l = (ps, q)) (hb : decBad kind (ps, q)) : decS kind l = (0, [], 4) := by
  unfold decS
  rw [if_neg hk, h, if_pos hb]
theorem decS_ok {kind : Int} {l : List Int} {ps : List (List S44)} {q : RS} (hk : ¬ (kind < 1 ∨ 3 < kind)) (h : decP kind l = (ps, q)) (hb : ¬ decBad kind (ps, q)) : decS kind l = (kind, ps, 0) := by
  unfold decS
  rw [if_neg hk, h, if_neg hb]
theorem check_m {w0 w : World} (kind : Int) (ps : List (List S44)) (A : Option Addr) (c m : Nat) (ok : Nat → Prop) (hG : Least w) (hr : Kd.R (Kd.slice 44 k44) 42 w w0.heap.size ok (.slice A m c) ps) (hm : m = ps.length) (hL : m ≤ 140737488351232) :
    Calls Tryd.prog 11 #[.agg #[.int .i64 kind, .slice A m c]] w fun e w' => e = .returned (.int .i64 (checkS kind ps)) ∧ Below w.heap.size w w' := by
  obtain ⟨A', c', e, h1, h2⟩ := Kd.R_reads hr
  injection e with e1 e2 e3
  subst e1 e3 hm
  exact check_c kind ps A c w hG h2 h1 hL
set_option maxHeartbeats 4000000 in
set_option maxRecDepth 100000 in
theorem decode_out (kind : Int) (l : List Int) (A : Option Addr) (c : Nat) (w : World) (hk : kind < 1 ∨ 3 < kind) :
    Calls Tryd.prog 14 #[.int .i64 kind, .slice A l.length c] w fun e w' => e = .returned (.tuple #[.agg #[.int .i64 0, .slice none 0 0], .int .i64 1]) ∧ Below w.heap.size w w' := by
  have S := Aside0.mk (Sep.start w)
  have hu24 := Tryd.underlying24
  by_cases h : kind < 1
  · have d := decide_eq_true h
    clear hk
    go_enter Tryd.func14, Tryd.ntmps14
    go_wp2_with (first | ((with_reducible refine gate_dst (N := 4) rfl ?_); refine box_event ?hg (N := 4) ?hd (cs := #[.int .i64 0, .slice none 0 0]) (t := 24) ?hr ?_; (case hd => rfl); (case hg => rfl); (case hr => first | (go_simp; done) | (go_simp; rfl)); intro g4 hg w4 hbox hb; replace S := Aside0.mk (S.out.box hg hbox hb); have f4 := blk_frozen hbox 0; have f41 := blk_frozen hbox 1; have c4 := blk_cell hbox 0; have c41 := blk_cell hbox 1; simp only [List.getElem?_toArray, List.getElem?_cons_zero, List.getElem?_cons_succ] at c4 c41; clear hbox hb hg))
    replace S := Aside0.mk ((S.out.set 0 rfl 0 (.int .i64 0)).set 0 rfl 1 (.slice none 0 0))
    (try simp only [Exit.inBlock, Exit.then]); refine bodyPost_ret (results_row_tmp rfl _ _ g4 24 #[.int .i64 0, .slice none 0 0] (0, 0) _ rfl (by exact S.out.at_box 0 rfl) (by exact hu24) rfl (by exact size24)) rfl ?_
    exact ⟨rfl, S.out.below⟩
  · have d := decide_eq_false h
    have d2 : decide (3 < kind) = true := decide_eq_true (by omega)
    clear hk
    go_enter Tryd.func14, Tryd.ntmps14
    go_wp2_with (first | ((with_reducible refine gate_dst (N := 4) rfl ?_); refine box_event ?hg (N := 4) ?hd (cs := #[.int .i64 0, .slice none 0 0]) (t := 24) ?hr ?_; (case hd => rfl); (case hg => rfl); (case hr => first | (go_simp; done) | (go_simp; rfl)); intro g4 hg w4 hbox hb; replace S := Aside0.mk (S.out.box hg hbox hb); have f4 := blk_frozen hbox 0; have f41 := blk_frozen hbox 1; have c4 := blk_cell hbox 0; have c41 := blk_cell hbox 1; simp only [List.getElem?_toArray, List.getElem?_cons_zero, List.getElem?_cons_succ] at c4 c41; clear hbox hb hg))
    replace S := Aside0.mk ((S.out.set 0 rfl 0 (.int .i64 0)).set 0 rfl 1 (.slice none 0 0))
    (try simp only [Exit.inBlock, Exit.then]); refine bodyPost_ret (results_row_tmp rfl _ _ g4 24 #[.int .i64 0, .slice none 0 0] (0, 0) _ rfl (by exact S.out.at_box 0 rfl) (by exact hu24) rfl (by exact size24)) rfl ?_
    exact ⟨rfl, S.out.below⟩
set_option maxHeartbeats 4000000 in
set_option maxRecDepth 100000 in
theorem decode_1 (l : List Int) (A : Option Addr) (c : Nat) (w : World) (hG : Least w) (hr : Came w A l c) (hl : l.length ≤ 1000000) (hn : Num l) :
    Calls Tryd.prog 14 #[.int .i64 1, .slice A l.length c] w fun e w' => ∃ v, e = .returned (.tuple #[.agg #[.int .i64 (decS 1 l).1, v], .int .i64 (decS 1 l).2.2]) ∧ Kd.R (Kd.slice 44 k44) 42 w' w.heap.size (fun _ => True) v (decS 1 l).2.1 ∧ Below w.heap.size w w' := by
  have hcnt := cmd_cnt 1 (r0 l)
  have hcnt : (cmdS 1 (r0 l)).1.length ≤ 1000001 := Nat.le_trans hcnt (Nat.succ_le_succ hl)
  have hpn : (cmdS 1 (r0 l)).1.length ≤ 9223372036854775807 := by omega
  have S := Aside0.mk (Sep.start w)
  have hu24 := Tryd.underlying24
  have hu44 := Tryd.underlying44
  have hu22 := Tryd.underlying22
  have hu53 := Tryd.underlying53
  have HR := Aside0.mk hr
  have HL : Aside0 ((r0 l).l.length ≤ 1000000000) := ⟨Nat.le_trans hl (by decide)⟩
  have HN : Aside0 (Num (r0 l).l) := ⟨hn⟩
  have HK : Aside0 (¬ ((1 : Int) < 1 ∨ 3 < (1 : Int))) := ⟨by decide⟩
  clear hr hl hn
  go_enter Tryd.func14, Tryd.ntmps14
  go_wp2_with (first | ((with_reducible refine gate_dst (N := 4) rfl ?_); refine box_event ?hg (N := 4) ?hd (cs := #[.int .i64 0, .slice none 0 0]) (t := 24) ?hr ?_; (case hd => rfl); (case hg => rfl); (case hr => first | (go_simp; done) | (go_simp; rfl)); intro g4 hg w4 hbox hb; replace S := Aside0.mk (S.out.box hg hbox hb); have f4 := blk_frozen hbox 0; have f41 := blk_frozen hbox 1; have c4 := blk_cell hbox 0; have c41 := blk_cell hbox 1; simp only [List.getElem?_toArray, List.getElem?_cons_zero, List.getElem?_cons_succ] at c4 c41; clear hbox hb hg) | ((with_reducible refine gate_dst (N := 6) rfl ?_); refine box_event ?hg (N := 6) ?hd (cs := #[.int .i64 0, .slice none 0 0]) (t := 24) ?hr ?_; (case hd => rfl); (case hg => rfl); (case hr => first | (go_simp; done) | (go_simp; rfl)); intro g6 hg w6 hbox hb; replace S := Aside0.mk (S.out.box hg hbox hb); have f6 := blk_frozen hbox 0; have f61 := blk_frozen hbox 1; have c6 := blk_cell hbox 0; have c61 := blk_cell hbox 1; simp only [List.getElem?_toArray, List.getElem?_cons_zero, List.getElem?_cons_succ] at c6 c61; clear hbox hb hg) | ((with_reducible refine gate_dst (N := 22) rfl ?_); refine box_event ?hg (N := 22) ?hd (cs := #[.slice A l.length c, .int .i64 0, .int .i64 0, .bool false]) (t := 53) ?hr ?_; (case hd => rfl); (case hg => rfl); (case hr => first | (go_simp; done) | (go_simp; rfl)); intro g22 hg w22 hbox hb; replace S := Aside0.mk (((S.out.set 0 rfl 0 (.int .i64 1)).set 0 rfl 1 (.slice none 0 0)).box hg hbox hb); clear hbox hb hg f6 f61 c6 c61) | (go_at_call 19; have X_ := cmd_c 1 (.inl rfl) (n := 0) (show Sep w _ (Rd w A c g22 (r0 l) :: [Box _ g6 24 #[.int .i64 1, .slice none 0 0], Box _ g4 24 #[.int .i64 0, .slice none 0 0]]) from S.out) rfl HR.out HL.out HN.out.next; (with_reducible refine X_.mono ?_); clear X_; rintro e_ w26 ⟨A1, c1, v26, rfl, HC_, S_⟩; have hfm := R_form (S_.at_own 0 rfl); obtain ⟨A26, c26, e26⟩ := Kd.R_slice (S_.at_own 0 rfl); subst e26; have HC := Aside0.mk HC_; replace S := Aside0.mk ((((show Sep w w26 (Own _ k44 44 _ (cmdS 1 (r0 l)).1 :: Rd w A1 c1 g22 (cmdS 1 (r0 l)).2 :: [Box _ g6 24 #[.int .i64 1, .slice none 0 0], Box _ g4 24 #[.int .i64 0, .slice none 0 0]]) from S_).to_src 0 rfl).rows_nil k44 44).hdr_nil 42); clear S_ HC_ hfm))
  have HPT : Aside0 (decP 1 l = ((cmdS 1 (r0 l)).1.map (fun p => [p]), (cmdS 1 (r0 l)).2)) := ⟨rfl⟩
  generalize (cmdS 1 (r0 l)).1 = pts at *
  generalize (cmdS 1 (r0 l)).2 = q at *
  go_loopg [28] (pts.length + 1) (fun kq v28 w' => ∃ (i : Nat) (j : Int) (vh : Value) (vs : List Value), v28 = .int .i64 j ∧ Aside0 (j = i) ∧ Aside0 (kq + i = pts.length + 1) ∧ Aside0 (i ≤ pts.length) ∧ Aside0 (vs.length = i) ∧ Aside0 (Sep w w' [Hdr _ 42 vh vs, SepW.Rows _ k44 44 vs ((pts.take i).map (fun p => [p])), Src w k44 44 (.slice A26 pts.length c26) pts, Rd w A1 c1 g22 q, Box _ g6 24 #[.int .i64 1, vh], Box _ g4 24 #[.int .i64 0, .slice none 0 0]]))
  case atStart => exact ⟨0, 0, _, [], rfl, ⟨rfl⟩, ⟨rfl⟩, ⟨Nat.zero_le _⟩, ⟨rfl⟩, S⟩
  case round =>
    clear S
    obtain ⟨i, j, vh, vs, rfl, J, K, IL, VL, S⟩ := hrel
    cases gk with
    | zero => exact absurd K.out (by have := IL.out; omega)
    | succ k1 =>
    by_cases hi : i < pts.length
    · have hj0 : 0 ≤ j := by rw [J.out]; omega
      have hj1 : j < (pts.length : Int) := by rw [J.out]; omega
      have dj := decide_eq_true hj1
      obtain ⟨ad, rfl, hp0, hp1⟩ := at_T44 (S.out.src_C 2 rfl) j hj0 hj1
      obtain ⟨p, hpp⟩ : ∃ p, rd_T44 pts j = p := ⟨_, rfl⟩
      rw [hpp] at hp0 hp1
      have HP : Aside0 (p = pts[i]) := ⟨by rw [← hpp, J.out, part_at hi]⟩
      clear hpp
      obtain ⟨Av, cv, ev⟩ := S.out.hdr_form 0 rfl
      subst ev
      have hvl : vs.length ≤ 1000001 := by rw [VL.out]; omega
      replace hj0 := eq_true hj0
      replace hj1 := eq_true hj1
      have k61 := blk_cell (S.out.at_box 4 rfl) 1
      simp only [List.getElem?_toArray, List.getElem?_cons_zero, List.getElem?_cons_succ] at k61
      go_wp2_with (first | ((with_reducible refine gate_dst (N := 9) rfl ?_); refine box_event ?hg (N := 9) ?hd (cs := #[.int .i64 0, .int .i64 0]) (t := 44) ?hr ?_; (case hd => rfl); (case hg => rfl); (case hr => first | (go_simp; done) | (go_simp; rfl)); intro g9 hg w9 hbox hb; have yy0 := pw_cell_below hb hp0; have yy1 := pw_cell_below hb hp1; replace S := Aside0.mk (((S.out.box hg hbox hb).set 0 rfl 0 (.int .i64 p.f0)).set 0 rfl 1 (.int .i64 p.f1)); have z0 := blk_cell hbox 0; have z1 := blk_cell hbox 1; have y2 := blk_frozen hbox 0; have y3 := blk_frozen hbox 1; clear hbox hb hg k61; have k61 := blk_cell (S.out.at_box 5 rfl) 1; have k90 := blk_cell (S.out.at_box 0 rfl) 0; have k91 := blk_cell (S.out.at_box 0 rfl) 1; simp only [List.getElem?_toArray, List.getElem?_cons_zero, List.getElem?_cons_succ] at z0 z1 k61 k90 k91) | ((with_reducible refine gate_dst (N := 35) rfl ?_); refine Kd.R_lit k44 _ 44 ?hg (N := 35) ?hd (xs := [p]) (inner := [.int .i64 p.f0, .int .i64 p.f1]) (ok := fun _ => True) (okp := fun _ => True) ?hr ?hp (fun _ _ => trivial) trivial (Below.refl _ _) (Nat.le_refl _) (by simp) ?_; (case hd => rfl); (case hg => rfl); (case hr => first | (go_simp; done) | (go_simp; rfl)); (case hp => exact (Reps.c2 (show Kd.M k44 _ _ _ p [.int .i64 p.f0, .int .i64 p.f1] from k44_mkM _ _ _ _) (Reps.none _ _))); intro v35 w35 ho hb hg_ hat; obtain ⟨A35, c35, e35⟩ := Kd.R_slice ho; subst e35; replace S := Aside0.mk (S.out.own ho hb); clear ho hb hg_ hat) | ((with_reducible refine gate_builtin (b := .append) (xs := #[.tmp 33, .tmp 36]) rfl ?_); at_builtin; obtain ⟨ho, hup⟩ := S.out.hdr_append 2 rfl; refine print_append_cells (w0 := w) w.heap.size rfl (.tmp 33) (.tmp 36) 22 42 (.slice none 0 0) 1 24 rfl hu22 info42 rfl (by decide) (by omega) (.slice Av vs.length cv) vs.length vs [.slice A35 [p].length c35] rfl rfl rfl (by simp [Value.oneCell']) ho S.out.below S.out.size (by omega) ?_; intro v37 w37 hown hb hg hat; replace S := Aside0.mk (hup v37 w37 (vs ++ [.slice A35 [p].length c35]) (by rw [show (vs ++ [Value.slice A35 [p].length c35]).length = vs.length + 1 from (by rw [List.length_append]; rfl)]; exact hown) hb hg hat); clear ho hup hown hb hg hat; obtain ⟨A37, c37, e37⟩ := S.out.hdr_form 2 rfl; subst e37; have k6 := blk_cell (S.out.at_box 6 rfl) 1; have f6 := blk_frozen (S.out.at_box 6 rfl) 1; simp only [List.getElem?_toArray, List.getElem?_cons_zero, List.getElem?_cons_succ] at k6))
      go_roundg k1
      case measure => omega
      case rel =>
        have S1 := (S.out.set 6 rfl 1 (.slice A37 (vs.length + 1) c37)).drop 1
        have S2 := (sep_front S1).rows_take.swap
        rw [show (vs ++ [Value.slice A35 [p].length c35]).length = vs.length + 1 from (by rw [List.length_append]; rfl)] at S2
        refine ⟨i + 1, wrap64 (j + 1), .slice A37 (vs.length + 1) c37, vs ++ [.slice A35 [p].length c35], rfl, ⟨wrap_next j i J.out (by omega)⟩, ⟨by have := K.out; omega⟩, ⟨by omega⟩, ⟨by rw [List.length_append, List.length_singleton, VL.out]⟩, ⟨?_⟩⟩
        rw [List.take_succ_eq_append_getElem hi, List.map_append, List.map_singleton, ← HP.out]
        exact S2
    · have dj := decide_eq_false (show ¬ j < (pts.length : Int) by rw [J.out]; omega)
      obtain rfl : i = pts.length := by have := IL.out; omega
      rw [List.take_length] at S
      obtain ⟨ps, hps⟩ : ∃ ps, pts.map (fun p => [p]) = ps := ⟨_, rfl⟩
      have hpl : ps.length = pts.length := by rw [← hps, List.length_map]
      rw [hps] at S HPT
      obtain ⟨Av, cv, ev⟩ := S.out.hdr_form 0 rfl
      subst ev
      go_wp2
      go_loopg [10] 1 (fun kq v10 w' => v10 = undef ∧ w' = wr)
      case atStart => exact ⟨rfl, rfl⟩
      case round =>
        obtain ⟨rfl, rfl⟩ := hrel
        have k220 := blk_cell (S.out.at_box 3 rfl) 0
        have k223 := blk_cell (S.out.at_box 3 rfl) 3
        have k60 := blk_cell (S.out.at_box 4 rfl) 0
        have k61 := blk_cell (S.out.at_box 4 rfl) 1
        have c4 := blk_cell (S.out.at_box 5 rfl) 0
        have c41 := blk_cell (S.out.at_box 5 rfl) 1
        have f4 := blk_frozen (S.out.at_box 5 rfl) 0
        have f41 := blk_frozen (S.out.at_box 5 rfl) 1
        simp only [List.getElem?_toArray, List.getElem?_cons_zero, List.getElem?_cons_succ] at k220 k223 k60 k61 c4 c41
        by_cases hb : q.b = true
        · have HBD : Aside0 (decBad 1 (ps, q)) := ⟨.inl hb⟩
          rw [hb] at k223
          go_wp2
          replace S := Aside0.mk ((S.out.set 5 rfl 0 (.int .i64 0)).set 5 rfl 1 (.slice none 0 0))
          (try simp only [Exit.inBlock, Exit.then]); refine bodyPost_ret (results_row_tmp rfl _ _ g4 24 #[.int .i64 0, .slice none 0 0] (0, 0) _ rfl (by exact S.out.at_box 5 rfl) (by exact hu24) rfl (by exact size24)) rfl ?_
          rw [decS_bad HK.out HPT.out HBD.out]
          exact ⟨_, rfl, Kd.R_nil _ _ _ _ _, S.out.below⟩
        · have hb : q.b = false := by simpa using hb
          rw [hb] at k223
          by_cases hl : q.l = []
          · rw [hl] at k220
            simp only [List.length_nil] at k220
            by_cases hck : checkS 1 ps = 0
            · have HBD : Aside0 (¬ decBad 1 (ps, q)) := ⟨fun h => h.elim (fun h => absurd (hb.symm.trans h) (by decide)) (fun h => h.elim (fun h => h hl) (fun h => h hck))⟩
              have HCK := Aside0.mk hck
              clear hck hb hl
              go_wp2_with (first | (go_at_call 11; have X_ := check_m 1 ps Av cv vs.length (fun _ => True) (hG.step S.out.below) S.out.joined (by rw [VL.out]; exact hpl.symm) (by rw [VL.out]; omega); rw [HCK.out] at X_; (with_reducible refine X_.mono ?_); clear X_; rintro e_ w92 ⟨rfl, hb⟩; replace S := Aside0.mk (S.out.step hb); clear hb k220 k223 k60 k61 c4 c41 f4 f41; have k60 := blk_cell (S.out.at_box 4 rfl) 0; have k61 := blk_cell (S.out.at_box 4 rfl) 1; have c4 := blk_cell (S.out.at_box 5 rfl) 0; have c41 := blk_cell (S.out.at_box 5 rfl) 1; have f4 := blk_frozen (S.out.at_box 5 rfl) 0; have f41 := blk_frozen (S.out.at_box 5 rfl) 1; simp only [List.getElem?_toArray, List.getElem?_cons_zero, List.getElem?_cons_succ] at k60 k61 c4 c41))
              replace S := Aside0.mk ((S.out.set 5 rfl 0 (.int .i64 1)).set 5 rfl 1 (.slice Av vs.length cv))
              (try simp only [Exit.inBlock, Exit.then]); refine bodyPost_ret (results_row_tmp rfl _ _ g4 24 #[.int .i64 1, .slice Av vs.length cv] (0, 0) _ rfl (by exact S.out.at_box 5 rfl) (by exact hu24) rfl (by exact size24)) rfl ?_
              rw [decS_ok HK.out HPT.out HBD.out]
              exact ⟨_, rfl, S.out.joined, S.out.below⟩
            · have HBD : Aside0 (decBad 1 (ps, q)) := ⟨.inr (.inr hck)⟩
              obtain ⟨ck, hk⟩ : ∃ ck, checkS 1 ps = ck := ⟨_, rfl⟩
              rw [hk] at hck
              have HCK := Aside0.mk hk
              have d := bne_iff_ne.2 hck
              clear hck hb hl hk
              go_wp2_with (first | (go_at_call 11; have X_ := check_m 1 ps Av cv vs.length (fun _ => True) (hG.step S.out.below) S.out.joined (by rw [VL.out]; exact hpl.symm) (by rw [VL.out]; omega); rw [HCK.out] at X_; (with_reducible refine X_.mono ?_); clear X_; rintro e_ w92 ⟨rfl, hb⟩; replace S := Aside0.mk (S.out.step hb); clear hb k220 k223 k60 k61 c4 c41 f4 f41; have k60 := blk_cell (S.out.at_box 4 rfl) 0; have k61 := blk_cell (S.out.at_box 4 rfl) 1; have c4 := blk_cell (S.out.at_box 5 rfl) 0; have c41 := blk_cell (S.out.at_box 5 rfl) 1; have f4 := blk_frozen (S.out.at_box 5 rfl) 0; have f41 := blk_frozen (S.out.at_box 5 rfl) 1; simp only [List.getElem?_toArray, List.getElem?_cons_zero, List.getElem?_cons_succ] at k60 k61 c4 c41))
              replace S := Aside0.mk ((S.out.set 5 rfl 0 (.int .i64 0)).set 5 rfl 1 (.slice none 0 0))
              (try simp only [Exit.inBlock, Exit.then]); refine bodyPost_ret (results_row_tmp rfl _ _ g4 24 #[.int .i64 0, .slice none 0 0] (0, 0) _ rfl (by exact S.out.at_box 5 rfl) (by exact hu24) rfl (by exact size24)) rfl ?_
              rw [decS_bad HK.out HPT.out HBD.out]
              exact ⟨_, rfl, Kd.R_nil _ _ _ _ _, S.out.below⟩
          · have HBD : Aside0 (decBad 1 (ps, q)) := ⟨.inr (.inl hl)⟩
            have hll : (0 : Int) < (q.l.length : Int) := by have := List.length_pos_iff.2 hl; omega
            have d := decide_eq_true hll
            have hln : 0 < q.l.length := List.length_pos_iff.2 hl
            have d2 := decide_eq_true hln
            clear hb
            go_wp2
            replace S := Aside0.mk ((S.out.set 5 rfl 0 (.int .i64 0)).set 5 rfl 1 (.slice none 0 0))
            (try simp only [Exit.inBlock, Exit.then]); refine bodyPost_ret (results_row_tmp rfl _ _ g4 24 #[.int .i64 0, .slice none 0 0] (0, 0) _ rfl (by exact S.out.at_box 5 rfl) (by exact hu24) rfl (by exact size24)) rfl ?_
            rw [decS_bad HK.out HPT.out HBD.out]
            exact ⟨_, rfl, Kd.R_nil _ _ _ _ _, S.out.below⟩
theorem sepI_pull {base : Nat} {w : World} : ∀ (n : Nat) {l : List (Thing base)} {F : Nat → Prop} {a : Thing base}, SepI base w l F → l[n]? = some a → SepI base w (a :: l.eraseIdx n) F
  | _, [], _, _, _, h => by simp at h
  | 0, b :: l, F, a, S, h => by
    obtain rfl : b = a := by simpa using h
    exact S
  | n + 1, b :: l, F, a, S, h => sepI_swap (sepI_tail (fun _ h' => sepI_pull n h' (by simpa using h)) S)
theorem sep_pull {w0 w : World} {l : List (Thing w0.heap.size)} {a : Thing w0.heap.size} (n : Nat) (S : Sep w0 w l) (h : l[n]? = some a) : Sep w0 w (a :: l.eraseIdx n) := ⟨S.below, sepI_pull n S.items h⟩
def dc15_T : Bool × List (List Nat × List Nat) := (true, [([], []), ([0], [0]), ([], []), ([], []), ([3], [3]), ([2, 4, 4], [2, 4]), ([5], [5]), ([1, 6, 5], [1, 6]), ([0, 1, 2, 3, 4, 5, 6, 7], []), ([8, 7, 7, 0, 1, 2, 3, 4, 5, 6, 7], [7, 8])])
def dc15_B : List Nat := [0, 1, 0, 0, 8, 28, 60, 127, 255, 511]
theorem dc15_tab : rtab .any (opsOf Tryd.f14 15) = dc15_T := by kernel_rfl
theorem dc15_bits : waitsOk dc15_T.2 dc15_B = true := by kernel_rfl
set_option maxHeartbeats 4000000 in
set_option maxRecDepth 100000 in
theorem decode_2 (l : List Int) (A : Option Addr) (c : Nat) (w : World) (hG : Least w) (hr : Came w A l c) (hl : l.length ≤ 1000000) (hn : Num l) :
    Calls Tryd.prog 14 #[.int .i64 2, .slice A l.length c] w fun e w' => ∃ v, e = .returned (.tuple #[.agg #[.int .i64 (decS 2 l).1, v], .int .i64 (decS 2 l).2.2]) ∧ Kd.R (Kd.slice 44 k44) 42 w' w.heap.size (fun _ => True) v (decS 2 l).2.1 ∧ Below w.heap.size w w' := by
  have S := Aside0.mk (Sep.start w)
  have hu24 := Tryd.underlying24
  have hu44 := Tryd.underlying44
  have hu22 := Tryd.underlying22
  have hu53 := Tryd.underlying53
  have HR := Aside0.mk hr
  have LL := Aside0.mk hl
  have HNL := Aside0.mk hn
  have HK : Aside0 (¬ ((2 : Int) < 1 ∨ 3 < (2 : Int))) := ⟨by decide⟩
  clear hr hl hn
  go_enter Tryd.func14, Tryd.ntmps14
  go_wp2_with (first | ((with_reducible refine gate_dst (N := 4) rfl ?_); refine box_event ?hg (N := 4) ?hd (cs := #[.int .i64 0, .slice none 0 0]) (t := 24) ?hr ?_; (case hd => rfl); (case hg => rfl); (case hr => first | (go_simp; done) | (go_simp; rfl)); intro g4 hg w4 hbox hb; replace S := Aside0.mk (S.out.box hg hbox hb); have f4 := blk_frozen hbox 0; have f41 := blk_frozen hbox 1; have c4 := blk_cell hbox 0; have c41 := blk_cell hbox 1; simp only [List.getElem?_toArray, List.getElem?_cons_zero, List.getElem?_cons_succ] at c4 c41; clear hbox hb hg) | ((with_reducible refine gate_dst (N := 6) rfl ?_); refine box_event ?hg (N := 6) ?hd (cs := #[.int .i64 0, .slice none 0 0]) (t := 24) ?hr ?_; (case hd => rfl); (case hg => rfl); (case hr => first | (go_simp; done) | (go_simp; rfl)); intro g6 hg w6 hbox hb; replace S := Aside0.mk (S.out.box hg hbox hb); have f6 := blk_frozen hbox 0; have f61 := blk_frozen hbox 1; have c6 := blk_cell hbox 0; have c61 := blk_cell hbox 1; simp only [List.getElem?_toArray, List.getElem?_cons_zero, List.getElem?_cons_succ] at c6 c61; clear hbox hb hg) | ((with_reducible refine gate_dst (N := 22) rfl ?_); refine box_event ?hg (N := 22) ?hd (cs := #[.slice A l.length c, .int .i64 0, .int .i64 0, .bool false]) (t := 53) ?hr ?_; (case hd => rfl); (case hg => rfl); (case hr => first | (go_simp; done) | (go_simp; rfl)); intro g22 hg w22 hbox hb; replace S := Aside0.mk (((S.out.set 0 rfl 0 (.int .i64 2)).set 0 rfl 1 (.slice none 0 0)).box hg hbox hb); clear hbox hb hg f6 f61 c6 c61))
  go_loopg [10] (l.length + 1) (fun kq v10 w' => ∃ (q : RS) (A1 : Option Addr) (c1 : Nat) (acc : List (List S44)) (vh : Value) (vs : List Value), Aside0 (Came w A1 q.l c1) ∧ Aside0 (decP 2 l = decL false kq q acc) ∧ Aside0 (q.l.length < kq) ∧ Aside0 (vs.length = acc.length) ∧ Aside0 (acc.length + q.l.length ≤ l.length) ∧ Aside0 (Num q.l) ∧ Aside0 (Sep w w' [Rd w A1 c1 g22 q, Hdr _ 42 vh vs, SepW.Rows _ k44 44 vs acc, Box _ g6 24 #[.int .i64 2, vh], Box _ g4 24 #[.int .i64 0, .slice none 0 0]]))
  case atStart => exact ⟨r0 l, A, c, [], .slice none 0 0, [], HR, ⟨rfl⟩, ⟨Nat.lt_succ_self _⟩, ⟨rfl⟩, ⟨by rw [List.length_nil, Nat.zero_add]; exact Nat.le_refl _⟩, HNL, ⟨sep_pull (a := Rd w A c g22 (r0 l)) 2 ((S.out.rows_nil k44 44).hdr_nil 42) rfl⟩⟩
  case round =>
    clear S
    obtain ⟨q, A1, c1, acc, vh, vs, HC, DL, QL, VL, AL, HN, S⟩ := hrel
    cases gk with
    | zero => exact absurd QL.out (Nat.not_lt_zero _)
    | succ k1 =>
    obtain ⟨Av, cv, ev⟩ := S.out.hdr_form 1 rfl
    subst ev
    have hvl : vs.length ≤ 1000000 := by rw [VL.out]; have := AL.out; have := LL.out; omega
    have HL2 : Aside0 (q.l.length ≤ 1000000000) := ⟨by have := AL.out; have := LL.out; omega⟩
    have hdl := DL.out
    rw [decL] at hdl
    have k220 := blk_cell (S.out.at_box 0 rfl) 0
    have k223 := blk_cell (S.out.at_box 0 rfl) 3
    have k60 := blk_cell (S.out.at_box 3 rfl) 0
    have k61 := blk_cell (S.out.at_box 3 rfl) 1
    have c4 := blk_cell (S.out.at_box 4 rfl) 0
    have c41 := blk_cell (S.out.at_box 4 rfl) 1
    have f4 := blk_frozen (S.out.at_box 4 rfl) 0
    have f41 := blk_frozen (S.out.at_box 4 rfl) 1
    simp only [List.getElem?_toArray, List.getElem?_cons_zero, List.getElem?_cons_succ] at k220 k223 k60 k61 c4 c41
    by_cases hq : q.l = [] ∨ q.b = true
    · rw [if_pos hq] at hdl
      obtain ⟨ps, hps⟩ : ∃ ps, acc = ps := ⟨_, rfl⟩
      rw [hps] at hdl S
      have hpl : ps.length = acc.length := by rw [hps]
      have HPT := Aside0.mk hdl
      clear hdl hps
      by_cases hl : q.l = []
      · rw [hl] at k220
        simp only [List.length_nil] at k220
        by_cases hb : q.b = true
        · have HBD : Aside0 (decBad 2 (ps, q)) := ⟨.inl hb⟩
          rw [hb] at k223
          clear hq hl hb
          go_wp2
          replace S := Aside0.mk ((S.out.set 4 rfl 0 (.int .i64 0)).set 4 rfl 1 (.slice none 0 0))
          (try simp only [Exit.inBlock, Exit.then]); refine bodyPost_ret (results_row_tmp rfl _ _ g4 24 #[.int .i64 0, .slice none 0 0] (0, 0) _ rfl (by exact S.out.at_box 4 rfl) (by exact hu24) rfl (by exact size24)) rfl ?_
          rw [decS_bad HK.out HPT.out HBD.out]
          exact ⟨_, rfl, Kd.R_nil _ _ _ _ _, S.out.below⟩
        · have hb : q.b = false := by simpa using hb
          rw [hb] at k223
          by_cases hck : checkS 2 ps = 0
          · have HBD : Aside0 (¬ decBad 2 (ps, q)) := ⟨fun h => h.elim (fun h => absurd (hb.symm.trans h) (by decide)) (fun h => h.elim (fun h => h hl) (fun h => h hck))⟩
            have HCK := Aside0.mk hck
            clear hck hb hl hq
            go_wp2_with (first | (go_at_call 11; have X_ := check_m 2 ps Av cv vs.length (fun _ => True) (hG.step S.out.below) (S.out.drop 0).joined (by rw [VL.out]; exact hpl.symm) (by omega); rw [HCK.out] at X_; (with_reducible refine X_.mono ?_); clear X_; rintro e_ w92 ⟨rfl, hb⟩; replace S := Aside0.mk (S.out.step hb); clear hb k220 k223 k60 k61 c4 c41 f4 f41; have k60 := blk_cell (S.out.at_box 3 rfl) 0; have k61 := blk_cell (S.out.at_box 3 rfl) 1; have c4 := blk_cell (S.out.at_box 4 rfl) 0; have c41 := blk_cell (S.out.at_box 4 rfl) 1; have f4 := blk_frozen (S.out.at_box 4 rfl) 0; have f41 := blk_frozen (S.out.at_box 4 rfl) 1; simp only [List.getElem?_toArray, List.getElem?_cons_zero, List.getElem?_cons_succ] at k60 k61 c4 c41))
            replace S := Aside0.mk ((S.out.set 4 rfl 0 (.int .i64 2)).set 4 rfl 1 (.slice Av vs.length cv))
            (try simp only [Exit.inBlock, Exit.then]); refine bodyPost_ret (results_row_tmp rfl _ _ g4 24 #[.int .i64 2, .slice Av vs.length cv] (0, 0) _ rfl (by exact S.out.at_box 4 rfl) (by exact hu24) rfl (by exact size24)) rfl ?_
            rw [decS_ok HK.out HPT.out HBD.out]
            exact ⟨_, rfl, (S.out.drop 0).joined, S.out.below⟩
          · have HBD : Aside0 (decBad 2 (ps, q)) := ⟨.inr (.inr hck)⟩
            obtain ⟨ck, hk⟩ : ∃ ck, checkS 2 ps = ck := ⟨_, rfl⟩
            rw [hk] at hck
            have HCK := Aside0.mk hk
            have d := bne_iff_ne.2 hck
            clear hck hb hl hk hq
            go_wp2_with (first | (go_at_call 11; have X_ := check_m 2 ps Av cv vs.length (fun _ => True) (hG.step S.out.below) (S.out.drop 0).joined (by rw [VL.out]; exact hpl.symm) (by omega); rw [HCK.out] at X_; (with_reducible refine X_.mono ?_); clear X_; rintro e_ w92 ⟨rfl, hb⟩; replace S := Aside0.mk (S.out.step hb); clear hb k220 k223 k60 k61 c4 c41 f4 f41; have k60 := blk_cell (S.out.at_box 3 rfl) 0; have k61 := blk_cell (S.out.at_box 3 rfl) 1; have c4 := blk_cell (S.out.at_box 4 rfl) 0; have c41 := blk_cell (S.out.at_box 4 rfl) 1; have f4 := blk_frozen (S.out.at_box 4 rfl) 0; have f41 := blk_frozen (S.out.at_box 4 rfl) 1; simp only [List.getElem?_toArray, List.getElem?_cons_zero, List.getElem?_cons_succ] at k60 k61 c4 c41))
            replace S := Aside0.mk ((S.out.set 4 rfl 0 (.int .i64 0)).set 4 rfl 1 (.slice none 0 0))
            (try simp only [Exit.inBlock, Exit.then]); refine bodyPost_ret (results_row_tmp rfl _ _ g4 24 #[.int .i64 0, .slice none 0 0] (0, 0) _ rfl (by exact S.out.at_box 4 rfl) (by exact hu24) rfl (by exact size24)) rfl ?_
            rw [decS_bad HK.out HPT.out HBD.out]
            exact ⟨_, rfl, Kd.R_nil _ _ _ _ _, S.out.below⟩
      · have hb : q.b = true := hq.elim (fun h => absurd h hl) id
        have HBD : Aside0 (decBad 2 (ps, q)) := ⟨.inl hb⟩
        rw [hb] at k223
        have hll : (0 : Int) < (q.l.length : Int) := by have := List.length_pos_iff.2 hl; omega
        have d := decide_eq_true hll
        have hln : 0 < q.l.length := List.length_pos_iff.2 hl
        have d2 := decide_eq_true hln
        clear hb hq
        go_wp2
        replace S := Aside0.mk ((S.out.set 4 rfl 0 (.int .i64 0)).set 4 rfl 1 (.slice none 0 0))
        (try simp only [Exit.inBlock, Exit.then]); refine bodyPost_ret (results_row_tmp rfl _ _ g4 24 #[.int .i64 0, .slice none 0 0] (0, 0) _ rfl (by exact S.out.at_box 4 rfl) (by exact hu24) rfl (by exact size24)) rfl ?_
        rw [decS_bad HK.out HPT.out HBD.out]
        exact ⟨_, rfl, Kd.R_nil _ _ _ _ _, S.out.below⟩
    · rw [if_neg hq] at hdl
      have hl : ¬ q.l = [] := fun h => hq (.inl h)
      have hb : q.b = false := by
        cases h : q.b with
        | true => exact absurd (.inr h) hq
        | false => rfl
      rw [hb] at k223
      have hln : 0 < q.l.length := List.length_pos_iff.2 hl
      have hll : (0 : Int) < (q.l.length : Int) := by omega
      have d := decide_eq_true hll
      have d2 := decide_eq_true hln
      have hless := cmd_less 1 q
      have hsuf := cmd_suf 1 q
      have hcnt := cmd_cnt 1 q
      rcases hc1 : cmdS 1 q with ⟨part, q1⟩
      rw [hc1] at hdl hless hsuf hcnt
      have HP1 := Aside0.mk hc1
      clear hc1 hq hb
      simp only at hdl hless hsuf hcnt
      by_cases hpart : part.length = 1
      · rw [if_neg (fun h => h hpart)] at hdl
        have hsuf2 := cmd_suf 2 q1
        have hcnt2 := cmd_cnt 2 q1
        rcases hc2 : cmdS 2 q1 with ⟨rest, q2⟩
        rw [hc2] at hdl hsuf2 hcnt2
        have HP2 := Aside0.mk hc2
        simp only at hdl hsuf2 hcnt2
        have hle1 := hsuf.length_le
        have hle2 := hsuf2.length_le
        have hless1 := hless (fun h => by rw [h] at hpart; cases hpart)
        have HL3 : Aside0 (q1.l.length ≤ 1000000000) := ⟨by have := HL2.out; omega⟩
        have HL4 : Aside0 (q2.l.length ≤ 1000000000) := ⟨by have := HL2.out; omega⟩
        have N3 := HN.out.suf hsuf
        have N4 := N3.suf hsuf2
        have HN3 : Aside0 ((nextS q1).1 ≤ 9223372036854775807) := ⟨N3.next⟩
        have HN4 : Aside0 ((nextS q2).1 ≤ 9223372036854775807) := ⟨N4.next⟩
        have d1 : ((part.length : Int) != 1) = false := by rw [hpart]; rfl
        have hrl : rest.length ≤ 1000001 := by have := AL.out; have := LL.out; omega
        have hpl1 : part.length ≤ 1000001 := by omega
        clear hpart hless hcnt
        have DL2 : Aside0 (decP 2 l = decL false k1 q2 (acc ++ [part ++ rest])) := ⟨hdl⟩
        clear hdl
        go_wp2_with (first | (go_at_call 19; have X_ := cmd_c 1 (.inl rfl) (n := 0) S.out rfl HC.out HL2.out HN.out.next; rw [HP1.out] at X_; (with_reducible refine X_.mono ?_); clear X_; rintro e_ w58 ⟨A2, c2, v58, rfl, HC_, S_⟩; obtain ⟨A58, c58, e58⟩ := Kd.R_slice (S_.at_own 0 rfl); subst e58; have HC2 : Aside0 (Came w A2 q1.l c2) := ⟨HC_⟩; replace S := Aside0.mk (show Sep w w58 [Own _ k44 44 (.slice A58 part.length c58) part, Rd w A2 c2 g22 q1, Hdr _ 42 (.slice Av vs.length cv) vs, SepW.Rows _ k44 44 vs acc, Box _ g6 24 #[.int .i64 2, .slice Av vs.length cv], Box _ g4 24 #[.int .i64 0, .slice none 0 0]] from S_); clear S_ HC_ HC k220 k223; have k223 := blk_cell (S.out.at_box 1 rfl) 3; have f223 := blk_frozen (S.out.at_box 1 rfl) 3; simp only [List.getElem?_toArray, List.getElem?_cons_zero, List.getElem?_cons_succ] at k223))
        refine start_ (n := 10) (S := fun w' => w'.cell? ⟨g6, 1, none⟩ = some (.slice Av vs.length cv)) (ds := [9]) #[false, false, false, false, false, false, false, false, false, false] (by kernel_rfl) rfl rfl ((blk_cell (S.out.drew.at_box 4 rfl) 1).trans rfl) (fun hHeld => ?_); refine with_tabW dc15_tab dc15_bits (fun HT_ HW_ => ?_)
        have SD := Aside0.mk S.out.drew
        clear S k223 f223
        generalize w58.drew = W6 at SD hHeld ⊢
        have S := SD
        clear SD
        refine pure_ (i := 0) (N := some 65) (v := ?_) (a' := ?_) #[true, false, false, false, false, false, false, false, false, false] rfl rfl (any_of HT_.out (by kernel_rfl)) (fun _ _ _ h => h) (Or.inl ⟨by rfl, ?_⟩) ?_ ?_
        rotate_left
        · intro w'
          go_simp
          with_reducible rfl
        rotate_left
        · simp only [Act.put, List.setIfInBounds_toArray, List.set_cons_zero, List.set_cons_succ, i64_w, i32_w]
          rfl
        refine pure_ (i := 2) (N := some 67) (v := ?_) (a' := ?_) #[true, false, true, false, false, false, false, false, false, false] rfl rfl (any_of HT_.out (by kernel_rfl)) (fun _ _ _ h => h) (Or.inl ⟨by rfl, ?_⟩) ?_ ?_
        rotate_left
        · intro w'
          go_simp
          with_reducible rfl
        rotate_left
        · simp only [Act.put, List.setIfInBounds_toArray, List.set_cons_zero, List.set_cons_succ, i64_w, i32_w]
          rfl
        refine pure_ (i := 3) (N := some 68) (v := ?_) (a' := ?_) #[true, false, true, true, false, false, false, false, false, false] rfl rfl (any_of HT_.out (by kernel_rfl)) (fun _ _ _ h => h) (Or.inl ⟨by rfl, ?_⟩) ?_ ?_
        rotate_left
        · intro w'
          go_simp
          with_reducible rfl
        rotate_left
        · simp only [Act.put, List.setIfInBounds_toArray, List.set_cons_zero, List.set_cons_succ, i64_w, i32_w]
          rfl
        refine take_ (i := 1) (N := some 66) (v := ?_) (a' := ?_) #[true, true, true, true, false, false, false, false, false, false] rfl rfl (take_ofW HT_.out HW_.out (by kernel_rfl)) (fun _ _ _ h => h) (Or.inl ⟨by rfl, ?_⟩) hHeld ?_ ?_
        rotate_left
        · intro w' s0
          go_simp
          with_reducible rfl
        rotate_left
        · simp only [Act.put, List.setIfInBounds_toArray, List.set_cons_zero, List.set_cons_succ, i64_w, i32_w]
          rfl
        refine one_ (i := 4) (N := some 69) #[true, true, true, true, true, false, false, false, false, false] rfl rfl (one_of HT_.out (by kernel_rfl)) (by decide) (fun K hK => ?_)
        refine goes_ Tryd.func19 (by kernel_rfl) rfl #[.pointer (some ⟨g22, 0, none⟩), .int .i64 2] (by rfl) rfl rfl (by (try simp only [List.map_toArray, List.map_cons, List.map_nil]); first | done | rfl) ?_
        have X_ := cmd_c 2 (.inr (.inl rfl)) (n := 1) S.out rfl HC2.out HL3.out HN3.out
        rw [HP2.out] at X_
        with_reducible refine X_.mono ?_
        clear X_
        rintro e_ w69 ⟨A3, c3, v69, rfl, HC_, S_⟩
        refine ⟨_, rfl, ?_⟩
        obtain ⟨A69, c69, e69⟩ := Kd.R_slice (S_.at_own 0 rfl)
        subst e69
        have HC3 : Aside0 (Came w A3 q2.l c3) := ⟨HC_⟩
        replace S := Aside0.mk (show Sep w w69 [Own _ k44 44 (.slice A69 rest.length c69) rest, Own _ k44 44 (.slice A58 part.length c58) part, Rd w A3 c3 g22 q2, Hdr _ 42 (.slice Av vs.length cv) vs, SepW.Rows _ k44 44 vs acc, Box _ g6 24 #[.int .i64 2, .slice Av vs.length cv], Box _ g4 24 #[.int .i64 0, .slice none 0 0]] from S_)
        clear S_ HC_ HC2
        refine hK.out _ _ ((blk_cell (S.out.at_box 5 rfl) 1).trans rfl) (fun hHeld => ?_)
        clear hK K
        refine norm_ (a' := ?_) ?_ ?_
        rotate_left
        · show Act.put _ (some 69) _ = _
          simp only [Act.put, List.setIfInBounds_toArray, List.set_cons_zero, List.set_cons_succ, i64_w, i32_w]
          rfl
        refine one_ (i := 5) (N := some 70) #[true, true, true, true, true, true, false, false, false, false] rfl rfl (one_of HT_.out (by kernel_rfl)) (by decide) (fun K hK => ?_)
        obtain ⟨ok, hR, hnew, hup⟩ := S.out.append 1 rfl
        refine Kd.R_append_rows_step k44 (w0 := w) w.heap.size (by rfl) (.tmp 67) (.tmp 69) 42 44 (.agg #[(.int .i64 0), (.int .i64 0)]) 16 rfl Tryd.underlying42 info44 rfl (by decide) (by omega) (.slice A58 part.length c58) part rest _ _ _ ok (fun _ => False) rfl rfl hR ?aR (fun _ _ h => h) (fun _ h => h.elim) hnew S.out.below S.out.size ?aL ?_
        (case aR => exact (Kd.R_reads' (S.out.at_own 0 rfl)).2.2)
        (case aL => omega)
        intro v70 w70 ho hb hg_ hat
        obtain ⟨A70, c70, e70⟩ := Kd.R_slice ho
        rw [List.length_append] at e70
        subst e70
        replace S := Aside0.mk (hup _ w70 _ ho hb hg_)
        clear hup hR hnew ho hb hg_ hat
        refine hK.out _ _ ((blk_cell (S.out.at_box 5 rfl) 1).trans rfl) (fun hHeld => ?_)
        clear hK K
        refine norm_ (a' := ?_) ?_ ?_
        rotate_left
        · show Act.put _ (some 70) _ = _
          simp only [Act.put, List.setIfInBounds_toArray, List.set_cons_zero, List.set_cons_succ, i64_w, i32_w]
          rfl
        refine one_ (i := 6) (N := some 71) #[true, true, true, true, true, true, true, false, false, false] rfl rfl (one_of HT_.out (by kernel_rfl)) (by decide) (fun K hK => ?_)
        go_simp
        refine hK.out _ _ (alloc_cell ((blk_cell (S.out.at_box 5 rfl) 1).trans rfl) _) (fun hHeld => ?_)
        clear hK K
        refine one_ (i := 7) (N := some 72) #[true, true, true, true, true, true, true, true, false, false] rfl rfl (one_of HT_.out (by kernel_rfl)) (by decide) (fun K hK => ?_)
        obtain ⟨ho, hup⟩ := S.out.hdr_append 3 rfl
        refine step_append_cells (w0 := w) w.heap.size (by rfl) (.tmp 66) (.tmp 71) 22 42 (.slice none 0 0) 1 24 rfl hu22 info42 rfl (by decide) (by omega) (.slice Av vs.length cv) vs.length vs [.slice A70 (part.length + rest.length) c70] rfl rfl rfl (by simp [Value.oneCell']) ho S.out.below S.out.size (by omega) ?_
        intro v72 w72 hown hb hg hat
        replace S := Aside0.mk (hup v72 w72 (vs ++ [.slice A70 (part.length + rest.length) c70]) (by rw [show (vs ++ [Value.slice A70 (part.length + rest.length) c70]).length = vs.length + 1 from (by rw [List.length_append]; rfl)]; exact hown) hb hg hat)
        clear ho hup hown hb hg hat
        obtain ⟨A72, c72, e72⟩ := S.out.hdr_form 3 rfl
        subst e72
        have f61 := blk_frozen (S.out.at_box 5 rfl) 1
        refine hK.out _ _ ((blk_cell (S.out.at_box 5 rfl) 1).trans rfl) (fun hHeld => ?_)
        clear hK K
        refine norm_ (a' := ?_) ?_ ?_
        rotate_left
        · show Act.put _ (some 72) _ = _
          simp only [Act.put, List.setIfInBounds_toArray, List.set_cons_zero, List.set_cons_succ, i64_w, i32_w]
          rfl
        refine pure_ (i := 8) (N := some 73) (v := ?_) (a' := ?_) #[true, true, true, true, true, true, true, true, true, false] rfl rfl (any_of HT_.out (by kernel_rfl)) (fun _ _ _ h => h) (Or.inl ⟨by rfl, ?_⟩) ?_ ?_
        rotate_left
        · intro w'
          go_simp
          with_reducible rfl
        rotate_left
        · simp only [Act.put, List.setIfInBounds_toArray, List.set_cons_zero, List.set_cons_succ, i64_w, i32_w]
          rfl
        refine last_ (i := 9) (N := none) #[true, true, true, true, true, true, true, true, true, true] rfl rfl (one_of HT_.out (by kernel_rfl)) (by decide) (fun K hK => ?_)
        go_simp
        refine hK.out _ _ ?_
        clear hK K
        refine done_ (done_of HT_.out (by kernel_rfl)) ?_
        have hvs : (vs ++ [Value.slice A70 (part.length + rest.length) c70]).length = vs.length + 1 := by rw [List.length_append]; rfl
        have S1 := (S.out.set 5 rfl 1 (.slice A72 (vs.length + 1) c72)).drop 0
        have S3 := (show Sep w _ (SepW.Rows _ k44 44 vs acc :: Own _ k44 44 (.slice A70 (part.length + rest.length) c70) (part ++ rest) :: _) from sep_pull 3 S1 rfl).rows_take
        have S4 := sep_pull 2 (sep_pull 2 S3 rfl) rfl
        rw [hvs] at S4
        replace S := Aside0.mk (show Sep w _ [Rd w A3 c3 g22 q2, Hdr _ 42 (.slice A72 (vs.length + 1) c72) (vs ++ [.slice A70 (part.length + rest.length) c70]), SepW.Rows _ k44 44 (vs ++ [.slice A70 (part.length + rest.length) c70]) (acc ++ [part ++ rest]), Box _ g6 24 #[.int .i64 2, .slice A72 (vs.length + 1) c72], Box _ g4 24 #[.int .i64 0, .slice none 0 0]] from S4)
        clear S1 S3 S4
        have VL2 : Aside0 ((vs ++ [Value.slice A70 (part.length + rest.length) c70]).length = (acc ++ [part ++ rest]).length) := ⟨by rw [hvs, VL.out, List.length_append, List.length_singleton]⟩
        clear hvs hHeld
        go_wp2
        go_roundg k1
        case measure => omega
        case rel =>
          refine ⟨q2, _, _, acc ++ [part ++ rest], .slice A72 (vs.length + 1) c72, vs ++ [.slice A70 (part.length + rest.length) c70], HC3, DL2, ⟨?_⟩, VL2, ⟨?_⟩, ⟨N4⟩, S⟩
          · have := QL.out; omega
          · have := AL.out; rw [List.length_append, List.length_singleton]; omega
      · rw [if_pos hpart] at hdl
        have HPT := Aside0.mk hdl
        have HBD : Aside0 (decBad 2 (acc, { q1 with b := true })) := ⟨.inl rfl⟩
        have d1 : ((part.length : Int) != 1) = true := by rw [bne_iff_ne]; omega
        clear hdl
        go_wp2_with (first | (go_at_call 19; have X_ := cmd_c 1 (.inl rfl) (n := 0) S.out rfl HC.out HL2.out HN.out.next; rw [HP1.out] at X_; (with_reducible refine X_.mono ?_); clear X_; rintro e_ w58 ⟨A2, c2, v58, rfl, HC_, S_⟩; obtain ⟨A58, c58, e58⟩ := Kd.R_slice (S_.at_own 0 rfl); subst e58; have HC2 : Aside0 (Came w A2 q1.l c2) := ⟨HC_⟩; replace S := Aside0.mk (show Sep w w58 [Own _ k44 44 (.slice A58 part.length c58) part, Rd w A2 c2 g22 q1, Hdr _ 42 (.slice Av vs.length cv) vs, SepW.Rows _ k44 44 vs acc, Box _ g6 24 #[.int .i64 2, .slice Av vs.length cv], Box _ g4 24 #[.int .i64 0, .slice none 0 0]] from S_); clear S_ HC_ HC k220 k223; have k223 := blk_cell (S.out.at_box 1 rfl) 3; have f223 := blk_frozen (S.out.at_box 1 rfl) 3; simp only [List.getElem?_toArray, List.getElem?_cons_zero, List.getElem?_cons_succ] at k223; have S5 := Aside0.mk (S.out.set 1 rfl 3 (.bool true)); clear c4 c41 f4 f41; have c4 := blk_cell (S5.out.at_box 5 rfl) 0; have c41 := blk_cell (S5.out.at_box 5 rfl) 1; have f4 := blk_frozen (S5.out.at_box 5 rfl) 0; have f41 := blk_frozen (S5.out.at_box 5 rfl) 1; simp only [List.getElem?_toArray, List.getElem?_cons_zero, List.getElem?_cons_succ] at c4 c41))
        replace S := S5
        clear S5
        replace S := Aside0.mk ((S.out.set 5 rfl 0 (.int .i64 0)).set 5 rfl 1 (.slice none 0 0))
        (try simp only [Exit.inBlock, Exit.then]); refine bodyPost_ret (results_row_tmp rfl _ _ g4 24 #[.int .i64 0, .slice none 0 0] (0, 0) _ rfl (by exact S.out.at_box 5 rfl) (by exact hu24) rfl (by exact size24)) rfl ?_
        rw [decS_bad HK.out HPT.out HBD.out]
        exact ⟨_, rfl, Kd.R_nil _ _ _ _ _, S.out.below⟩
set_option maxHeartbeats 4000000 in
set_option maxRecDepth 100000 in
theorem decode_3 (l : List Int) (A : Option Addr) (c : Nat) (w : World) (hG : Least w) (hr : Came w A l c) (hl : l.length ≤ 1000000) (hn : Num l) :
    Calls Tryd.prog 14 #[.int .i64 3, .slice A l.length c] w fun e w' => ∃ v, e = .returned (.tuple #[.agg #[.int .i64 (decS 3 l).1, v], .int .i64 (decS 3 l).2.2]) ∧ Kd.R (Kd.slice 44 k44) 42 w' w.heap.size (fun _ => True) v (decS 3 l).2.1 ∧ Below w.heap.size w w' := by
  have S := Aside0.mk (Sep.start w)
  have hu24 := Tryd.underlying24
  have hu44 := Tryd.underlying44
  have hu22 := Tryd.underlying22
  have hu53 := Tryd.underlying53
  have HR := Aside0.mk hr
  have LL := Aside0.mk hl
  have HNL := Aside0.mk hn
  have HK : Aside0 (¬ ((3 : Int) < 1 ∨ 3 < (3 : Int))) := ⟨by decide⟩
  clear hr hl hn
  go_enter Tryd.func14, Tryd.ntmps14
  go_wp2_with (first | ((with_reducible refine gate_dst (N := 4) rfl ?_); refine box_event ?hg (N := 4) ?hd (cs := #[.int .i64 0, .slice none 0 0]) (t := 24) ?hr ?_; (case hd => rfl); (case hg => rfl); (case hr => first | (go_simp; done) | (go_simp; rfl)); intro g4 hg w4 hbox hb; replace S := Aside0.mk (S.out.box hg hbox hb); have f4 := blk_frozen hbox 0; have f41 := blk_frozen hbox 1; have c4 := blk_cell hbox 0; have c41 := blk_cell hbox 1; simp only [List.getElem?_toArray, List.getElem?_cons_zero, List.getElem?_cons_succ] at c4 c41; clear hbox hb hg) | ((with_reducible refine gate_dst (N := 6) rfl ?_); refine box_event ?hg (N := 6) ?hd (cs := #[.int .i64 0, .slice none 0 0]) (t := 24) ?hr ?_; (case hd => rfl); (case hg => rfl); (case hr => first | (go_simp; done) | (go_simp; rfl)); intro g6 hg w6 hbox hb; replace S := Aside0.mk (S.out.box hg hbox hb); have f6 := blk_frozen hbox 0; have f61 := blk_frozen hbox 1; have c6 := blk_cell hbox 0; have c61 := blk_cell hbox 1; simp only [List.getElem?_toArray, List.getElem?_cons_zero, List.getElem?_cons_succ] at c6 c61; clear hbox hb hg) | ((with_reducible refine gate_dst (N := 22) rfl ?_); refine box_event ?hg (N := 22) ?hd (cs := #[.slice A l.length c, .int .i64 0, .int .i64 0, .bool false]) (t := 53) ?hr ?_; (case hd => rfl); (case hg => rfl); (case hr => first | (go_simp; done) | (go_simp; rfl)); intro g22 hg w22 hbox hb; replace S := Aside0.mk (((S.out.set 0 rfl 0 (.int .i64 3)).set 0 rfl 1 (.slice none 0 0)).box hg hbox hb); clear hbox hb hg f6 f61 c6 c61))
  go_loopg [10] (l.length + 1) (fun kq v10 w' => ∃ (q : RS) (A1 : Option Addr) (c1 : Nat) (acc : List (List S44)) (vh : Value) (vs : List Value), Aside0 (Came w A1 q.l c1) ∧ Aside0 (decP 3 l = decL true kq q acc) ∧ Aside0 (q.l.length < kq) ∧ Aside0 (vs.length = acc.length) ∧ Aside0 (acc.length + q.l.length ≤ l.length) ∧ Aside0 (Num q.l) ∧ Aside0 (Sep w w' [Rd w A1 c1 g22 q, Hdr _ 42 vh vs, SepW.Rows _ k44 44 vs acc, Box _ g6 24 #[.int .i64 3, vh], Box _ g4 24 #[.int .i64 0, .slice none 0 0]]))
  case atStart => exact ⟨r0 l, A, c, [], .slice none 0 0, [], HR, ⟨rfl⟩, ⟨Nat.lt_succ_self _⟩, ⟨rfl⟩, ⟨by rw [List.length_nil, Nat.zero_add]; exact Nat.le_refl _⟩, HNL, ⟨sep_pull (a := Rd w A c g22 (r0 l)) 2 ((S.out.rows_nil k44 44).hdr_nil 42) rfl⟩⟩
  case round =>
    clear S
    obtain ⟨q, A1, c1, acc, vh, vs, HC, DL, QL, VL, AL, HN, S⟩ := hrel
    cases gk with
    | zero => exact absurd QL.out (Nat.not_lt_zero _)
    | succ k1 =>
    obtain ⟨Av, cv, ev⟩ := S.out.hdr_form 1 rfl
    subst ev
    have hvl : vs.length ≤ 1000000 := by rw [VL.out]; have := AL.out; have := LL.out; omega
    have HL2 : Aside0 (q.l.length ≤ 1000000000) := ⟨by have := AL.out; have := LL.out; omega⟩
    have hdl := DL.out
    rw [decL] at hdl
    have k220 := blk_cell (S.out.at_box 0 rfl) 0
    have k223 := blk_cell (S.out.at_box 0 rfl) 3
    have k60 := blk_cell (S.out.at_box 3 rfl) 0
    have k61 := blk_cell (S.out.at_box 3 rfl) 1
    have c4 := blk_cell (S.out.at_box 4 rfl) 0
    have c41 := blk_cell (S.out.at_box 4 rfl) 1
    have f4 := blk_frozen (S.out.at_box 4 rfl) 0
    have f41 := blk_frozen (S.out.at_box 4 rfl) 1
    simp only [List.getElem?_toArray, List.getElem?_cons_zero, List.getElem?_cons_succ] at k220 k223 k60 k61 c4 c41
    by_cases hq : q.l = [] ∨ q.b = true
    · rw [if_pos hq] at hdl
      obtain ⟨ps, hps⟩ : ∃ ps, acc = ps := ⟨_, rfl⟩
      rw [hps] at hdl S
      have hpl : ps.length = acc.length := by rw [hps]
      have HPT := Aside0.mk hdl
      clear hdl hps
      by_cases hl : q.l = []
      · rw [hl] at k220
        simp only [List.length_nil] at k220
        by_cases hb : q.b = true
        · have HBD : Aside0 (decBad 3 (ps, q)) := ⟨.inl hb⟩
          rw [hb] at k223
          clear hq hl hb
          go_wp2
          replace S := Aside0.mk ((S.out.set 4 rfl 0 (.int .i64 0)).set 4 rfl 1 (.slice none 0 0))
          (try simp only [Exit.inBlock, Exit.then]); refine bodyPost_ret (results_row_tmp rfl _ _ g4 24 #[.int .i64 0, .slice none 0 0] (0, 0) _ rfl (by exact S.out.at_box 4 rfl) (by exact hu24) rfl (by exact size24)) rfl ?_
          rw [decS_bad HK.out HPT.out HBD.out]
          exact ⟨_, rfl, Kd.R_nil _ _ _ _ _, S.out.below⟩
        · have hb : q.b = false := by simpa using hb
          rw [hb] at k223
          by_cases hck : checkS 3 ps = 0
          · have HBD : Aside0 (¬ decBad 3 (ps, q)) := ⟨fun h => h.elim (fun h => absurd (hb.symm.trans h) (by decide)) (fun h => h.elim (fun h => h hl) (fun h => h hck))⟩
            have HCK := Aside0.mk hck
            clear hck hb hl hq
            go_wp2_with (first | (go_at_call 11; have X_ := check_m 3 ps Av cv vs.length (fun _ => True) (hG.step S.out.below) (S.out.drop 0).joined (by rw [VL.out]; exact hpl.symm) (by omega); rw [HCK.out] at X_; (with_reducible refine X_.mono ?_); clear X_; rintro e_ w92 ⟨rfl, hb⟩; replace S := Aside0.mk (S.out.step hb); clear hb k220 k223 k60 k61 c4 c41 f4 f41; have k60 := blk_cell (S.out.at_box 3 rfl) 0; have k61 := blk_cell (S.out.at_box 3 rfl) 1; have c4 := blk_cell (S.out.at_box 4 rfl) 0; have c41 := blk_cell (S.out.at_box 4 rfl) 1; have f4 := blk_frozen (S.out.at_box 4 rfl) 0; have f41 := blk_frozen (S.out.at_box 4 rfl) 1; simp only [List.getElem?_toArray, List.getElem?_cons_zero, List.getElem?_cons_succ] at k60 k61 c4 c41))
            replace S := Aside0.mk ((S.out.set 4 rfl 0 (.int .i64 3)).set 4 rfl 1 (.slice Av vs.length cv))
            (try simp only [Exit.inBlock, Exit.then]); refine bodyPost_ret (results_row_tmp rfl _ _ g4 24 #[.int .i64 3, .slice Av vs.length cv] (0, 0) _ rfl (by exact S.out.at_box 4 rfl) (by exact hu24) rfl (by exact size24)) rfl ?_
            rw [decS_ok HK.out HPT.out HBD.out]
            exact ⟨_, rfl, (S.out.drop 0).joined, S.out.below⟩
          · have HBD : Aside0 (decBad 3 (ps, q)) := ⟨.inr (.inr hck)⟩
            obtain ⟨ck, hk⟩ : ∃ ck, checkS 3 ps = ck := ⟨_, rfl⟩
            rw [hk] at hck
            have HCK := Aside0.mk hk
            have d := bne_iff_ne.2 hck
            clear hck hb hl hk hq
            go_wp2_with (first | (go_at_call 11; have X_ := check_m 3 ps Av cv vs.length (fun _ => True) (hG.step S.out.below) (S.out.drop 0).joined (by rw [VL.out]; exact hpl.symm) (by omega); rw [HCK.out] at X_; (with_reducible refine X_.mono ?_); clear X_; rintro e_ w92 ⟨rfl, hb⟩; replace S := Aside0.mk (S.out.step hb); clear hb k220 k223 k60 k61 c4 c41 f4 f41; have k60 := blk_cell (S.out.at_box 3 rfl) 0; have k61 := blk_cell (S.out.at_box 3 rfl) 1; have c4 := blk_cell (S.out.at_box 4 rfl) 0; have c41 := blk_cell (S.out.at_box 4 rfl) 1; have f4 := blk_frozen (S.out.at_box 4 rfl) 0; have f41 := blk_frozen (S.out.at_box 4 rfl) 1; simp only [List.getElem?_toArray, List.getElem?_cons_zero, List.getElem?_cons_succ] at k60 k61 c4 c41))
            replace S := Aside0.mk ((S.out.set 4 rfl 0 (.int .i64 0)).set 4 rfl 1 (.slice none 0 0))
            (try simp only [Exit.inBlock, Exit.then]); refine bodyPost_ret (results_row_tmp rfl _ _ g4 24 #[.int .i64 0, .slice none 0 0] (0, 0) _ rfl (by exact S.out.at_box 4 rfl) (by exact hu24) rfl (by exact size24)) rfl ?_
            rw [decS_bad HK.out HPT.out HBD.out]
            exact ⟨_, rfl, Kd.R_nil _ _ _ _ _, S.out.below⟩
      · have hb : q.b = true := hq.elim (fun h => absurd h hl) id
        have HBD : Aside0 (decBad 3 (ps, q)) := ⟨.inl hb⟩
        rw [hb] at k223
        have hll : (0 : Int) < (q.l.length : Int) := by have := List.length_pos_iff.2 hl; omega
        have d := decide_eq_true hll
        have hln : 0 < q.l.length := List.length_pos_iff.2 hl
        have d2 := decide_eq_true hln
        clear hb hq
        go_wp2
        replace S := Aside0.mk ((S.out.set 4 rfl 0 (.int .i64 0)).set 4 rfl 1 (.slice none 0 0))
        (try simp only [Exit.inBlock, Exit.then]); refine bodyPost_ret (results_row_tmp rfl _ _ g4 24 #[.int .i64 0, .slice none 0 0] (0, 0) _ rfl (by exact S.out.at_box 4 rfl) (by exact hu24) rfl (by exact size24)) rfl ?_
        rw [decS_bad HK.out HPT.out HBD.out]
        exact ⟨_, rfl, Kd.R_nil _ _ _ _ _, S.out.below⟩
    · rw [if_neg hq] at hdl
      have hl : ¬ q.l = [] := fun h => hq (.inl h)
      have hb : q.b = false := by
        cases h : q.b with
        | true => exact absurd (.inr h) hq
        | false => rfl
      rw [hb] at k223
      have hln : 0 < q.l.length := List.length_pos_iff.2 hl
      have hll : (0 : Int) < (q.l.length : Int) := by omega
      have d := decide_eq_true hll
      have d2 := decide_eq_true hln
      have hless := cmd_less 1 q
      have hsuf := cmd_suf 1 q
      have hcnt := cmd_cnt 1 q
      rcases hc1 : cmdS 1 q with ⟨part, q1⟩
      rw [hc1] at hdl hless hsuf hcnt
      have HP1 := Aside0.mk hc1
      clear hc1 hq hb
      simp only at hdl hless hsuf hcnt
      by_cases hpart : part.length = 1
      · rw [if_neg (fun h => h hpart)] at hdl
        have hsuf2 := cmd_suf 2 q1
        have hcnt2 := cmd_cnt 2 q1
        rcases hc2 : cmdS 2 q1 with ⟨rest, q2⟩
        rw [hc2] at hdl hsuf2 hcnt2
        have HP2 := Aside0.mk hc2
        simp only at hdl hsuf2 hcnt2
        have hle1 := hsuf.length_le
        have hle2 := hsuf2.length_le
        have hless1 := hless (fun h => by rw [h] at hpart; cases hpart)
        have HL3 : Aside0 (q1.l.length ≤ 1000000000) := ⟨by have := HL2.out; omega⟩
        have HL4 : Aside0 (q2.l.length ≤ 1000000000) := ⟨by have := HL2.out; omega⟩
        have N3 := HN.out.suf hsuf
        have N4 := N3.suf hsuf2
        have HN3 : Aside0 ((nextS q1).1 ≤ 9223372036854775807) := ⟨N3.next⟩
        have HN4 : Aside0 ((nextS q2).1 ≤ 9223372036854775807) := ⟨N4.next⟩
        have d1 : ((part.length : Int) != 1) = false := by rw [hpart]; rfl
        have hrl : rest.length ≤ 1000001 := by have := AL.out; have := LL.out; omega
        have hpl1 : part.length ≤ 1000001 := by omega
        clear hpart hless hcnt
        have hsuf3 := cmd_suf 7 q2
        rcases hc3 : cmdS 7 q2 with ⟨nn, q3⟩
        rw [hc3] at hdl hsuf3
        have HP3 := Aside0.mk hc3
        simp only at hdl hsuf3
        have hle3 := hsuf3.length_le
        have DL2 : Aside0 (decP 3 l = decL true k1 q3 (acc ++ [part ++ rest])) := ⟨hdl⟩
        clear hdl
        go_wp2_with (first | (go_at_call 19; have X_ := cmd_c 1 (.inl rfl) (n := 0) S.out rfl HC.out HL2.out HN.out.next; rw [HP1.out] at X_; (with_reducible refine X_.mono ?_); clear X_; rintro e_ w58 ⟨A2, c2, v58, rfl, HC_, S_⟩; obtain ⟨A58, c58, e58⟩ := Kd.R_slice (S_.at_own 0 rfl); subst e58; have HC2 : Aside0 (Came w A2 q1.l c2) := ⟨HC_⟩; replace S := Aside0.mk (show Sep w w58 [Own _ k44 44 (.slice A58 part.length c58) part, Rd w A2 c2 g22 q1, Hdr _ 42 (.slice Av vs.length cv) vs, SepW.Rows _ k44 44 vs acc, Box _ g6 24 #[.int .i64 3, .slice Av vs.length cv], Box _ g4 24 #[.int .i64 0, .slice none 0 0]] from S_); clear S_ HC_ HC k220 k223; have k223 := blk_cell (S.out.at_box 1 rfl) 3; have f223 := blk_frozen (S.out.at_box 1 rfl) 3; simp only [List.getElem?_toArray, List.getElem?_cons_zero, List.getElem?_cons_succ] at k223))
        refine start_ (n := 10) (S := fun w' => w'.cell? ⟨g6, 1, none⟩ = some (.slice Av vs.length cv)) (ds := [9]) #[false, false, false, false, false, false, false, false, false, false] (by kernel_rfl) rfl rfl ((blk_cell (S.out.drew.at_box 4 rfl) 1).trans rfl) (fun hHeld => ?_); refine with_tabW dc15_tab dc15_bits (fun HT_ HW_ => ?_)
        have SD := Aside0.mk S.out.drew
        clear S k223 f223
        generalize w58.drew = W6 at SD hHeld ⊢
        have S := SD
        clear SD
        refine pure_ (i := 0) (N := some 65) (v := ?_) (a' := ?_) #[true, false, false, false, false, false, false, false, false, false] rfl rfl (any_of HT_.out (by kernel_rfl)) (fun _ _ _ h => h) (Or.inl ⟨by rfl, ?_⟩) ?_ ?_
        rotate_left
        · intro w'
          go_simp
          with_reducible rfl
        rotate_left
        · simp only [Act.put, List.setIfInBounds_toArray, List.set_cons_zero, List.set_cons_succ, i64_w, i32_w]
          rfl
        refine pure_ (i := 2) (N := some 67) (v := ?_) (a' := ?_) #[true, false, true, false, false, false, false, false, false, false] rfl rfl (any_of HT_.out (by kernel_rfl)) (fun _ _ _ h => h) (Or.inl ⟨by rfl, ?_⟩) ?_ ?_
        rotate_left
        · intro w'
          go_simp
          with_reducible rfl
        rotate_left
        · simp only [Act.put, List.setIfInBounds_toArray, List.set_cons_zero, List.set_cons_succ, i64_w, i32_w]
          rfl
        refine pure_ (i := 3) (N := some 68) (v := ?_) (a' := ?_) #[true, false, true, true, false, false, false, false, false, false] rfl rfl (any_of HT_.out (by kernel_rfl)) (fun _ _ _ h => h) (Or.inl ⟨by rfl, ?_⟩) ?_ ?_
        rotate_left
        · intro w'
          go_simp
          with_reducible rfl
        rotate_left
        · simp only [Act.put, List.setIfInBounds_toArray, List.set_cons_zero, List.set_cons_succ, i64_w, i32_w]
          rfl
        refine take_ (i := 1) (N := some 66) (v := ?_) (a' := ?_) #[true, true, true, true, false, false, false, false, false, false] rfl rfl (take_ofW HT_.out HW_.out (by kernel_rfl)) (fun _ _ _ h => h) (Or.inl ⟨by rfl, ?_⟩) hHeld ?_ ?_
        rotate_left
        · intro w' s0
          go_simp
          with_reducible rfl
        rotate_left
        · simp only [Act.put, List.setIfInBounds_toArray, List.set_cons_zero, List.set_cons_succ, i64_w, i32_w]
          rfl
        refine one_ (i := 4) (N := some 69) #[true, true, true, true, true, false, false, false, false, false] rfl rfl (one_of HT_.out (by kernel_rfl)) (by decide) (fun K hK => ?_)
        refine goes_ Tryd.func19 (by kernel_rfl) rfl #[.pointer (some ⟨g22, 0, none⟩), .int .i64 2] (by rfl) rfl rfl (by (try simp only [List.map_toArray, List.map_cons, List.map_nil]); first | done | rfl) ?_
        have X_ := cmd_c 2 (.inr (.inl rfl)) (n := 1) S.out rfl HC2.out HL3.out HN3.out
        rw [HP2.out] at X_
        with_reducible refine X_.mono ?_
        clear X_
        rintro e_ w69 ⟨A3, c3, v69, rfl, HC_, S_⟩
        refine ⟨_, rfl, ?_⟩
        obtain ⟨A69, c69, e69⟩ := Kd.R_slice (S_.at_own 0 rfl)
        subst e69
        have HC3 : Aside0 (Came w A3 q2.l c3) := ⟨HC_⟩
        replace S := Aside0.mk (show Sep w w69 [Own _ k44 44 (.slice A69 rest.length c69) rest, Own _ k44 44 (.slice A58 part.length c58) part, Rd w A3 c3 g22 q2, Hdr _ 42 (.slice Av vs.length cv) vs, SepW.Rows _ k44 44 vs acc, Box _ g6 24 #[.int .i64 3, .slice Av vs.length cv], Box _ g4 24 #[.int .i64 0, .slice none 0 0]] from S_)
        clear S_ HC_ HC2
        refine hK.out _ _ ((blk_cell (S.out.at_box 5 rfl) 1).trans rfl) (fun hHeld => ?_)
        clear hK K
        refine norm_ (a' := ?_) ?_ ?_
        rotate_left
        · show Act.put _ (some 69) _ = _
          simp only [Act.put, List.setIfInBounds_toArray, List.set_cons_zero, List.set_cons_succ, i64_w, i32_w]
          rfl
        refine one_ (i := 5) (N := some 70) #[true, true, true, true, true, true, false, false, false, false] rfl rfl (one_of HT_.out (by kernel_rfl)) (by decide) (fun K hK => ?_)
        obtain ⟨ok, hR, hnew, hup⟩ := S.out.append 1 rfl
        refine Kd.R_append_rows_step k44 (w0 := w) w.heap.size (by rfl) (.tmp 67) (.tmp 69) 42 44 (.agg #[(.int .i64 0), (.int .i64 0)]) 16 rfl Tryd.underlying42 info44 rfl (by decide) (by omega) (.slice A58 part.length c58) part rest _ _ _ ok (fun _ => False) rfl rfl hR ?aR (fun _ _ h => h) (fun _ h => h.elim) hnew S.out.below S.out.size ?aL ?_
        (case aR => exact (Kd.R_reads' (S.out.at_own 0 rfl)).2.2)
        (case aL => omega)
        intro v70 w70 ho hb hg_ hat
        obtain ⟨A70, c70, e70⟩ := Kd.R_slice ho
        rw [List.length_append] at e70
        subst e70
        replace S := Aside0.mk (hup _ w70 _ ho hb hg_)
        clear hup hR hnew ho hb hg_ hat
        refine hK.out _ _ ((blk_cell (S.out.at_box 5 rfl) 1).trans rfl) (fun hHeld => ?_)
        clear hK K
        refine norm_ (a' := ?_) ?_ ?_
        rotate_left
        · show Act.put _ (some 70) _ = _
          simp only [Act.put, List.setIfInBounds_toArray, List.set_cons_zero, List.set_cons_succ, i64_w, i32_w]
          rfl
        refine one_ (i := 6) (N := some 71) #[true, true, true, true, true, true, true, false, false, false] rfl rfl (one_of HT_.out (by kernel_rfl)) (by decide) (fun K hK => ?_)
        go_simp
        refine hK.out _ _ (alloc_cell ((blk_cell (S.out.at_box 5 rfl) 1).trans rfl) _) (fun hHeld => ?_)
        clear hK K
        refine one_ (i := 7) (N := some 72) #[true, true, true, true, true, true, true, true, false, false] rfl rfl (one_of HT_.out (by kernel_rfl)) (by decide) (fun K hK => ?_)
        obtain ⟨ho, hup⟩ := S.out.hdr_append 3 rfl
        refine step_append_cells (w0 := w) w.heap.size (by rfl) (.tmp 66) (.tmp 71) 22 42 (.slice none 0 0) 1 24 rfl hu22 info42 rfl (by decide) (by omega) (.slice Av vs.length cv) vs.length vs [.slice A70 (part.length + rest.length) c70] rfl rfl rfl (by simp [Value.oneCell']) ho S.out.below S.out.size (by omega) ?_
        intro v72 w72 hown hb hg hat
        replace S := Aside0.mk (hup v72 w72 (vs ++ [.slice A70 (part.length + rest.length) c70]) (by rw [show (vs ++ [Value.slice A70 (part.length + rest.length) c70]).length = vs.length + 1 from (by rw [List.length_append]; rfl)]; exact hown) hb hg hat)
        clear ho hup hown hb hg hat
        obtain ⟨A72, c72, e72⟩ := S.out.hdr_form 3 rfl
        subst e72
        have f61 := blk_frozen (S.out.at_box 5 rfl) 1
        refine hK.out _ _ ((blk_cell (S.out.at_box 5 rfl) 1).trans rfl) (fun hHeld => ?_)
        clear hK K
        refine norm_ (a' := ?_) ?_ ?_
        rotate_left
        · show Act.put _ (some 72) _ = _
          simp only [Act.put, List.setIfInBounds_toArray, List.set_cons_zero, List.set_cons_succ, i64_w, i32_w]
          rfl
        refine pure_ (i := 8) (N := some 73) (v := ?_) (a' := ?_) #[true, true, true, true, true, true, true, true, true, false] rfl rfl (any_of HT_.out (by kernel_rfl)) (fun _ _ _ h => h) (Or.inl ⟨by rfl, ?_⟩) ?_ ?_
        rotate_left
        · intro w'
          go_simp
          with_reducible rfl
        rotate_left
        · simp only [Act.put, List.setIfInBounds_toArray, List.set_cons_zero, List.set_cons_succ, i64_w, i32_w]
          rfl
        refine last_ (i := 9) (N := none) #[true, true, true, true, true, true, true, true, true, true] rfl rfl (one_of HT_.out (by kernel_rfl)) (by decide) (fun K hK => ?_)
        go_simp
        refine hK.out _ _ ?_
        clear hK K
        refine done_ (done_of HT_.out (by kernel_rfl)) ?_
        have hvs : (vs ++ [Value.slice A70 (part.length + rest.length) c70]).length = vs.length + 1 := by rw [List.length_append]; rfl
        have S1 := (S.out.set 5 rfl 1 (.slice A72 (vs.length + 1) c72)).drop 0
        have S3 := (show Sep w _ (SepW.Rows _ k44 44 vs acc :: Own _ k44 44 (.slice A70 (part.length + rest.length) c70) (part ++ rest) :: _) from sep_pull 3 S1 rfl).rows_take
        have S4 := sep_pull 2 (sep_pull 2 S3 rfl) rfl
        rw [hvs] at S4
        replace S := Aside0.mk (show Sep w _ [Rd w A3 c3 g22 q2, Hdr _ 42 (.slice A72 (vs.length + 1) c72) (vs ++ [.slice A70 (part.length + rest.length) c70]), SepW.Rows _ k44 44 (vs ++ [.slice A70 (part.length + rest.length) c70]) (acc ++ [part ++ rest]), Box _ g6 24 #[.int .i64 3, .slice A72 (vs.length + 1) c72], Box _ g4 24 #[.int .i64 0, .slice none 0 0]] from S4)
        clear S1 S3 S4
        have VL2 : Aside0 ((vs ++ [Value.slice A70 (part.length + rest.length) c70]).length = (acc ++ [part ++ rest]).length) := ⟨by rw [hvs, VL.out, List.length_append, List.length_singleton]⟩
        clear hvs hHeld
        go_wp2_with (first | (go_at_call 19; have X_ := cmd_c 7 (.inr (.inr rfl)) (n := 0) S.out rfl HC3.out HL4.out HN4.out; rw [HP3.out] at X_; (with_reducible refine X_.mono ?_); clear X_; rintro e_ w77 ⟨A4, c4_, v77, rfl, HC_, S_⟩; have HC4 : Aside0 (Came w A4 q3.l c4_) := ⟨HC_⟩; replace S := Aside0.mk (show Sep w w77 (Rd w A4 c4_ g22 q3 :: [Hdr _ 42 (.slice A72 (vs.length + 1) c72) (vs ++ [.slice A70 (part.length + rest.length) c70]), SepW.Rows _ k44 44 (vs ++ [.slice A70 (part.length + rest.length) c70]) (acc ++ [part ++ rest]), Box _ g6 24 #[.int .i64 3, .slice A72 (vs.length + 1) c72], Box _ g4 24 #[.int .i64 0, .slice none 0 0]]) from S_.drop 0); clear S_ HC_ HC3))
        go_roundg k1
        case measure => omega
        case rel =>
          refine ⟨q3, _, _, acc ++ [part ++ rest], .slice A72 (vs.length + 1) c72, vs ++ [.slice A70 (part.length + rest.length) c70], HC4, DL2, ⟨?_⟩, VL2, ⟨?_⟩, ⟨N4.suf hsuf3⟩, S⟩
          · have := QL.out; omega
          · have := AL.out; rw [List.length_append, List.length_singleton]; omega
      · rw [if_pos hpart] at hdl
        have HPT := Aside0.mk hdl
        have HBD : Aside0 (decBad 3 (acc, { q1 with b := true })) := ⟨.inl rfl⟩
        have d1 : ((part.length : Int) != 1) = true := by rw [bne_iff_ne]; omega
        clear hdl
        go_wp2_with (first | (go_at_call 19; have X_ := cmd_c 1 (.inl rfl) (n := 0) S.out rfl HC.out HL2.out HN.out.next; rw [HP1.out] at X_; (with_reducible refine X_.mono ?_); clear X_; rintro e_ w58 ⟨A2, c2, v58, rfl, HC_, S_⟩; obtain ⟨A58, c58, e58⟩ := Kd.R_slice (S_.at_own 0 rfl); subst e58; have HC2 : Aside0 (Came w A2 q1.l c2) := ⟨HC_⟩; replace S := Aside0.mk (show Sep w w58 [Own _ k44 44 (.slice A58 part.length c58) part, Rd w A2 c2 g22 q1, Hdr _ 42 (.slice Av vs.length cv) vs, SepW.Rows _ k44 44 vs acc, Box _ g6 24 #[.int .i64 3, .slice Av vs.length cv], Box _ g4 24 #[.int .i64 0, .slice none 0 0]] from S_); clear S_ HC_ HC k220 k223; have k223 := blk_cell (S.out.at_box 1 rfl) 3; have f223 := blk_frozen (S.out.at_box 1 rfl) 3; simp only [List.getElem?_toArray, List.getElem?_cons_zero, List.getElem?_cons_succ] at k223; have S5 := Aside0.mk (S.out.set 1 rfl 3 (.bool true)); clear c4 c41 f4 f41; have c4 := blk_cell (S5.out.at_box 5 rfl) 0; have c41 := blk_cell (S5.out.at_box 5 rfl) 1; have f4 := blk_frozen (S5.out.at_box 5 rfl) 0; have f41 := blk_frozen (S5.out.at_box 5 rfl) 1; simp only [List.getElem?_toArray, List.getElem?_cons_zero, List.getElem?_cons_succ] at c4 c41))
        replace S := S5
        clear S5
        replace S := Aside0.mk ((S.out.set 5 rfl 0 (.int .i64 0)).set 5 rfl 1 (.slice none 0 0))
        (try simp only [Exit.inBlock, Exit.then]); refine bodyPost_ret (results_row_tmp rfl _ _ g4 24 #[.int .i64 0, .slice none 0 0] (0, 0) _ rfl (by exact S.out.at_box 5 rfl) (by exact hu24) rfl (by exact size24)) rfl ?_
        rw [decS_bad HK.out HPT.out HBD.out]
        exact ⟨_, rfl, Kd.R_nil _ _ _ _ _, S.out.below⟩
theorem decode_c (kind : Int) (l : List Int) (A : Option Addr) (c : Nat) (w : World) (hG : Least w) (hr : Kd.C (Kd.int .i64) w A l.length l) (hc : l.length ≤ c) (hl : l.length ≤ 1000000) (hn : Num l) :
    Calls Tryd.prog 14 #[.int .i64 kind, .slice A l.length c] w fun e w' => ∃ v, e = .returned (.tuple #[.agg #[.int .i64 (decS kind l).1, v], .int .i64 (decS kind l).2.2]) ∧ Kd.R (Kd.slice 44 k44) 42 w' w.heap.size (fun _ => True) v (decS kind l).2.1 ∧ Below w.heap.size w w' := by
  by_cases hk : kind < 1 ∨ 3 < kind
  · have e : decS kind l = (0, [], 1) := by unfold decS; rw [if_pos hk]
    rw [e]
    exact (decode_out kind l A c w hk).mono fun e w' h => ⟨_, h.1, Kd.R_nil _ _ _ _ _, h.2⟩
  · have h : kind = 1 ∨ kind = 2 ∨ kind = 3 := by omega
    rcases h with rfl | rfl | rfl
    · exact decode_1 l A c w hG ⟨hr, hc⟩ hl hn
    · exact decode_2 l A c w hG ⟨hr, hc⟩ hl hn
    · exact decode_3 l A c w hG ⟨hr, hc⟩ hl hn
end Go.Proofs.YtopapknfpoandaaDoor.Hand
