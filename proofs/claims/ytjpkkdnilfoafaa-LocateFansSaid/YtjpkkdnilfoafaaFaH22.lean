-- Out of the translation and of texts of our own, merged (wip/gen/pack.py): what the row names and no more.
import Derived.WideKeyRuns
import Derived.MapKept
import Derived.Carry
import Derived.Test.YtjpkkdnilfoafaaFaH21
section
namespace Go.Proofs.Ytjpkkdnilfoafaa.Plain
open Go.RowKit Go.Proofs.YtjpkkdnilfoafaaW.PrintWords Go.Proofs.YtjpkkdnilfoafaaW.PrintLast Go.Proofs.YtjpkkdnilfoafaaW.PrintMore Go.Proofs.Ytjpkkdnilfoafaa.PALL Go.Proofs.Ytjpkkdnilfoafaa.Hand
set_option linter.unusedVariables false
set_option linter.unusedSimpArgs false
/-- The box of a point; of points. -/
def pbox (p : S29) : S57 := ⟨p.f0, p.f1, p.f0, p.f1⟩
def boxP (l : List S29) : S57 := boxOf (l.map pbox)
theorem pbox_valid {p : S29} (h : gv p = true) : validB (pbox p) = true := by
  rw [gv_iff] at h
  rw [valid_iff]
  show 0 ≤ p.f0 ∧ p.f0 ≤ p.f0 ∧ p.f0 ≤ 32768 ∧ 0 ≤ p.f1 ∧ p.f1 ≤ p.f1 ∧ p.f1 ≤ 32768
  omega
theorem join_self {p : S29} (h : gv p = true) : joinB (pbox p) (pbox p) = pbox p := joinB_absorb (holdsB.refl (pbox_valid h))
theorem box_l0 (l : List S29) (hl : l.length ≤ 1000000) (hv : l.all gv = true) : ∀ (d i : Nat), i + d = l.length → 0 < i → Ev (fun k => grid_Box.l0 k l l (l.length : Int) (i : Int) (boxP (l.take i)).f0 (boxP (l.take i)).f1 (boxP (l.take i)).f2 (boxP (l.take i)).f3) ((boxP l).f0, (boxP l).f1, (boxP l).f2, (boxP l).f3, true) := by
  intro d
  induction d with
  | zero =>
    intro i hi h0
    obtain rfl : i = l.length := by omega
    rw [List.take_length]
    exact Ev.step (f := fun _ => some ((boxP l).f0, (boxP l).f1, (boxP l).f2, (boxP l).f3, true)) (fun k => by rw [grid_Box.l0, if_neg (by omega), decide_eq_true (by omega)]) (Ev.now _)
  | succ d ih =>
    intro i hi h0
    have h1 : i < l.length := by omega
    have hx := rd29 l i h1
    have hn : wrap64 ((i : Int) + 1) = ((i + 1 : Nat) : Int) := wnext i (by omega)
    have hg : gv l[i] = true := List.all_eq_true.1 hv _ (List.getElem_mem h1)
    have hb : boxP (l.take (i + 1)) = joinB (boxP (l.take i)) (pbox l[i]) := by
      unfold boxP
      rw [List.take_add_one, List.getElem?_eq_getElem h1]
      show boxOf (List.map pbox (l.take i ++ [l[i]])) = _
      rw [List.map_append]
      show boxOf (List.map pbox (l.take i) ++ [pbox l[i]]) = _
      rw [boxOf_snoc, if_neg]
      intro e
      have e2 := congrArg List.length e
      rw [List.length_map, List.length_take] at e2
      simp only [List.length_nil] at e2
      omega
    have hj := join_f (boxP (l.take i)) (pbox l[i])
    rw [← hb] at hj
    refine Ev.step (fun k => ?_) (ih (i + 1) (by omega) (by omega))
    rw [grid_Box.l0, if_pos (by omega), if_pos (by omega), if_pos (by omega), hx, gv_f, hg, Option.bind_some, if_pos rfl, if_neg (by omega), hn]
    show ((grid_Join.f (boxP (l.take i)).f0 (boxP (l.take i)).f1 (boxP (l.take i)).f2 (boxP (l.take i)).f3 (pbox l[i]).f0 (pbox l[i]).f1 (pbox l[i]).f2 (pbox l[i]).f3).bind _) = _
    rw [hj, Option.bind_some]
theorem box_ok (l : List S29) (hl : l.length ≤ 1000000) (hv : l.all gv = true) (h0 : 0 < l.length) : Ev (fun k => grid_Box.f k l) ((boxP l).f0, (boxP l).f1, (boxP l).f2, (boxP l).f3, true) := by
  have hx := rd29 l 0 h0
  have hn : wrap64 ((0 : Int) + 1) = ((1 : Nat) : Int) := wnext 0 (by omega)
  have hg : gv l[0] = true := List.all_eq_true.1 hv _ (List.getElem_mem h0)
  have h1 : boxP (l.take 1) = pbox l[0] := by
    cases l with
    | nil => exact absurd h0 (by simp)
    | cons a t => rfl
  have hj := join_f (pbox l[0]) (pbox l[0])
  rw [join_self hg] at hj
  have ih := box_l0 l hl hv (l.length - 1) 1 (by omega) (by decide)
  rw [h1] at ih
  refine Ev.step (fun k => ?_) ih
  show grid_Box.l0 (k + 1) l l (l.length : Int) 0 0 0 0 0 = _
  have hx0 : rd_T29 l 0 = l[0] := hx
  rw [grid_Box.l0, if_pos (by omega), if_pos (by decide), if_pos (by omega), hx0, gv_f, hg, Option.bind_some, if_pos rfl, if_pos rfl, hn]
  show ((grid_Join.f (pbox l[0]).f0 (pbox l[0]).f1 (pbox l[0]).f2 (pbox l[0]).f3 (pbox l[0]).f0 (pbox l[0]).f1 (pbox l[0]).f2 (pbox l[0]).f3).bind _) = _
  rw [hj, Option.bind_some]
theorem box_no_l0 (l : List S29) (hl : l.length ≤ 1000000) : ∀ (d i : Nat), i + d = l.length → (l.drop i).all gv = false → ∀ (a b c e : Int), ∃ r : Int × Int × Int × Int, Ev (fun k => grid_Box.l0 k l l (l.length : Int) (i : Int) a b c e) (r.1, r.2.1, r.2.2.1, r.2.2.2, false) := by
  intro d
  induction d with
  | zero =>
    intro i hi hf
    rw [show l.drop i = [] from List.drop_eq_nil_of_le (by omega)] at hf
    cases hf
  | succ d ih =>
    intro i hi hf a b c e
    have h1 : i < l.length := by omega
    have hx := rd29 l i h1
    have hn : wrap64 ((i : Int) + 1) = ((i + 1 : Nat) : Int) := wnext i (by omega)
    rw [List.drop_eq_getElem_cons h1, List.all_cons] at hf
    cases hg : gv l[i] with
    | false =>
      exact ⟨(0, 0, 0, 0), Ev.step (f := fun _ => some (0, 0, 0, 0, false)) (fun k => by rw [grid_Box.l0, if_pos (by omega), if_pos (by omega), if_pos (by omega), hx, gv_f, hg, Option.bind_some, if_neg (by decide)]) (Ev.now _)⟩
    | true =>
      rw [hg, Bool.true_and] at hf
      by_cases h0 : i = 0
      · have hj := join_f (pbox l[i]) (pbox l[i])
        obtain ⟨r, hr⟩ := ih (i + 1) (by omega) hf (joinB (pbox l[i]) (pbox l[i])).f0 (joinB (pbox l[i]) (pbox l[i])).f1 (joinB (pbox l[i]) (pbox l[i])).f2 (joinB (pbox l[i]) (pbox l[i])).f3
        refine ⟨r, Ev.step (fun k => ?_) hr⟩
        rw [grid_Box.l0, if_pos (by omega), if_pos (by omega), if_pos (by omega), hx, gv_f, hg, Option.bind_some, if_pos rfl, if_pos (by omega), hn]
        show ((grid_Join.f (pbox l[i]).f0 (pbox l[i]).f1 (pbox l[i]).f2 (pbox l[i]).f3 (pbox l[i]).f0 (pbox l[i]).f1 (pbox l[i]).f2 (pbox l[i]).f3).bind _) = _
        rw [hj, Option.bind_some]
      · have hj := join_f ⟨a, b, c, e⟩ (pbox l[i])
        obtain ⟨r, hr⟩ := ih (i + 1) (by omega) hf (joinB ⟨a, b, c, e⟩ (pbox l[i])).f0 (joinB ⟨a, b, c, e⟩ (pbox l[i])).f1 (joinB ⟨a, b, c, e⟩ (pbox l[i])).f2 (joinB ⟨a, b, c, e⟩ (pbox l[i])).f3
        refine ⟨r, Ev.step (fun k => ?_) hr⟩
        rw [grid_Box.l0, if_pos (by omega), if_pos (by omega), if_pos (by omega), hx, gv_f, hg, Option.bind_some, if_pos rfl, if_neg (by omega), hn]
        show ((grid_Join.f a b c e (pbox l[i]).f0 (pbox l[i]).f1 (pbox l[i]).f2 (pbox l[i]).f3).bind _) = _
        rw [show grid_Join.f a b c e (pbox l[i]).f0 (pbox l[i]).f1 (pbox l[i]).f2 (pbox l[i]).f3 = _ from hj, Option.bind_some]
theorem box_no (l : List S29) (hl : l.length ≤ 1000000) (h : l.all gv = false ∨ l.length = 0) : ∃ r : Int × Int × Int × Int, Ev (fun k => grid_Box.f k l) (r.1, r.2.1, r.2.2.1, r.2.2.2, false) := by
  rcases h with h | h
  · exact box_no_l0 l hl l.length 0 (by omega) h 0 0 0 0
  · refine ⟨(0, 0, 0, 0), Ev.step (f := fun _ => some (0, 0, 0, 0, false)) (fun k => ?_) (Ev.now _)⟩
    show grid_Box.l0 (k + 1) l l (l.length : Int) 0 0 0 0 0 = _
    rw [grid_Box.l0, if_neg (by omega), decide_eq_false (by omega)]
/-- A box of points holds them. -/
theorem boxP_holds {l : List S29} (hv : l.all gv = true) (h0 : l ≠ []) : validB (boxP l) = true ∧ ∀ p ∈ l, (boxP l).f0 ≤ p.f0 ∧ p.f0 ≤ (boxP l).f2 ∧ (boxP l).f1 ≤ p.f1 ∧ p.f1 ≤ (boxP l).f3 := by
  have hm : ∀ x ∈ l.map pbox, validB x = true := by
    intro x hx
    obtain ⟨p, hp, rfl⟩ := List.mem_map.1 hx
    exact pbox_valid (List.all_eq_true.1 hv p hp)
  obtain ⟨h1, h2⟩ := boxOf_holds (c := l.map pbox) (by simpa using h0) hm
  refine ⟨h1, fun p hp => ?_⟩
  obtain ⟨_, _, a, b, c, d⟩ := h2 _ (List.mem_map_of_mem hp)
  exact ⟨a, c, b, d⟩
end Go.Proofs.Ytjpkkdnilfoafaa.Plain
end
section
namespace Go.Proofs.Ytjpkkdnilfoafaa.Hand
open Go.Proofs.YtjpkkdnilfoafaaW Go.RowKit Go.Proofs.YtjpkkdnilfoafaaW.PrintWords Go.Proofs.YtjpkkdnilfoafaaW.PrintLast Go.Proofs.YtjpkkdnilfoafaaW.PrintMore Go.Proofs.YtjpkkdnilfoafaaW.SepW Go.Proofs.Ytjpkkdnilfoafaa.PALL Go.Proofs.Ytjpkkdnilfoafaa.Plain
set_option linter.unusedVariables false
set_option linter.unusedSimpArgs false
def kV (k : S23) : Value := .agg #[.int .i64 k.f0, .int .i64 k.f1]
def eqM (k k' : S23) : Bool := k.f0 == k'.f0 && (k.f1 == k'.f1)
def ents : List (S23 × Value) → Nat → List MapEntry
  | [], _ => []
  | (k, v) :: t, i => { key := kV k, val := v, born := i } :: ents t (i + 1)
def findM : List (S23 × Value) → S23 → Nat → Option (Nat × Value)
  | [], _, _ => none
  | (k', v) :: t, k, i => if eqM k k' = true then some (i, v) else findM t k (i + 1)
theorem eq23 (w : World) (k k' : S23) : (Op.equal 23 (kV k) (kV k')).run Try.prog w = .ok (eqM k k') w := eqA23 _ w _ _ _ _
theorem find_run (w : World) (k : S23) : ∀ (es : List (S23 × Value)) (b i : Nat), (Instr.findAsking 23 (kV k) (ents es b) i).run Try.prog w = .ok (findM es k i) w
  | [], b, i => rfl
  | (k', v) :: t, b, i => by
    rw [ents, Instr.findAsking, findM]
    simp only [Sem.run_bind, eq23, Result.andThen]
    cases eqM k k' with
    | true => rfl
    | false => exact find_run w k t (b + 1) (i + 1)
theorem findKey_run (w : World) (k : S23) (es : List (S23 × Value)) : (Instr.findKey 23 (kV k) (ents es 0)).run Try.prog w = .ok (findM es k 0) w := by
  exact (run_findKey_eq (P := Try.prog) (w := w) (k := 23) (by rw [Try.underlying23]) (kV k) (ents es 0)).trans (find_run w k es 0 0)
set_option maxRecDepth 100000 in
theorem check_run (em : Bool) (w : World) (k : S23) : (Instr.checkKey em 10000 23 (kV k)).run Try.prog w = .ok () w := by
  have hu23 := Try.underlying23
  have hu3 := Try.underlying3
  unfold Instr.checkKey kV
  go_simp
  have h1 : ∀ (x : Int) (w : World), (Instr.checkKey em 9999 3 (Value.int IntKind.i64 x)).run Try.prog w = .ok () w := fun x w => MapKept.run_checkKey hu3 (k := .int .i64 x) (by simp [MapKept.IsKey]) em 9998
  rw [h1 k.f0]
  exact h1 k.f1 w
set_option maxRecDepth 100000 in
theorem stays_run (w : World) (k k' : S23) (h : eqM k k' = true) : (Instr.keyThatStays (kV k') (kV k)).run Try.prog w = .ok (kV k) w := by
  have hs : Instr.sameBits 10000 (kV k') (kV k) = true := by
    unfold eqM at h
    simp only [Bool.and_eq_true, beq_iff_eq] at h
    simp [kV, Instr.sameBits, h.1, h.2]
  simp [Instr.keyThatStays, hs]
def putM : List (S23 × Value) → S23 → Value → List (S23 × Value)
  | [], k, v => [(k, v)]
  | (k', v') :: t, k, v => if eqM k k' = true then (k', v) :: t else (k', v') :: putM t k v
def mapO (es : List (S23 × Value)) : Obj := .map (ents es 0).toArray es.length
theorem kV_eq {k k' : S23} (h : eqM k k' = true) : kV k = kV k' := by
  unfold eqM at h
  simp only [Bool.and_eq_true, beq_iff_eq] at h
  simp [kV, h.1, h.2]
theorem find_none : ∀ (es : List (S23 × Value)) (k : S23) (v : Value) (b i : Nat), findM es k i = none → ents (putM es k v) b = ents es b ++ [{ key := kV k, val := v, born := b + es.length }] ∧ (putM es k v).length = es.length + 1
  | [], k, v, b, i, _ => ⟨rfl, rfl⟩
  | (k', v') :: t, k, v, b, i, h => by
    rw [findM] at h
    cases hc : eqM k k' with
    | true => rw [hc, if_pos rfl] at h; cases h
    | false =>
      rw [hc, if_neg (by decide)] at h
      obtain ⟨h1, h2⟩ := find_none t k v (b + 1) (i + 1) h
      rw [putM, hc, if_neg (by decide), ents, ents, h1]
      refine ⟨?_, by rw [List.length_cons, List.length_cons, h2]⟩
      rw [List.cons_append, List.length_cons, show b + 1 + t.length = b + (t.length + 1) by omega]
theorem find_some : ∀ (es : List (S23 × Value)) (k : S23) (v : Value) (b i j : Nat) (u : Value), findM es k i = some (j, u) → i ≤ j ∧ (∃ k', eqM k k' = true ∧ (ents es b)[j - i]? = some { key := kV k', val := u, born := b + (j - i) }) ∧ ents (putM es k v) b = (ents es b).modify (j - i) (fun e => { e with key := kV k, val := v }) ∧ (putM es k v).length = es.length
  | [], k, v, b, i, j, u, h => by cases h
  | (k', v') :: t, k, v, b, i, j, u, h => by
    rw [findM] at h
    cases hc : eqM k k' with
    | true =>
      rw [hc, if_pos rfl] at h
      injection h with h
      injection h with h1 h2
      subst h1
      subst h2
      rw [putM, hc, if_pos rfl, Nat.sub_self, ents, ents]
      exact ⟨Nat.le_refl _, ⟨k', hc, rfl⟩, by rw [List.modify_zero_cons, kV_eq hc], rfl⟩
    | false =>
      rw [hc, if_neg (by decide)] at h
      obtain ⟨h0, ⟨k2, h1, h2⟩, h3, h4⟩ := find_some t k v (b + 1) (i + 1) j u h
      have e : j - i = (j - (i + 1)) + 1 := by omega
      rw [putM, hc, if_neg (by decide), ents, ents, e]
      refine ⟨by omega, ⟨k2, h1, ?_⟩, ?_, by rw [List.length_cons, List.length_cons, h4]⟩
      · rw [List.getElem?_cons_succ, h2, show b + 1 + (j - (i + 1)) = b + (j - (i + 1) + 1) by omega]
      · rw [List.modify_succ_cons, h3]
set_option maxRecDepth 100000 in
theorem put_run {w : World} {gm : Nat} {es : List (S23 × Value)} (hb : w.heap[gm]? = some (mapO es)) (k : S23) (v : Value) : (Instr.mapUpdate 52 (.map (some gm)) (kV k) v).run Try.prog w = .ok () (w.putObj gm (mapO (putM es k v))) := by
  have hm := Try.underlying52
  have hf := findKey_run w k es
  have hl : (ents es 0).toArray.toList = ents es 0 := rfl
  simp only [Instr.mapUpdate, Sem.run_bind, run_underlying hm, Result.andThen, MapKept.run_getObj_map (show w.heap[gm]? = some (.map (ents es 0).toArray es.length) from hb), check_run, hl, hf]
  cases hfm : findM es k 0 with
  | none =>
    obtain ⟨h1, h2⟩ := find_none es k v 0 0 hfm
    simp only [Sem.run_bind, Result.andThen]
    rw [MapKept.run_setObj_map _ hb]
    unfold mapO World.putObj
    rw [h1, h2, Nat.zero_add, List.push_toArray]
  | some q =>
    obtain ⟨j, u⟩ := q
    obtain ⟨_, ⟨k2, h0, h1⟩, h2, h3⟩ := find_some es k v 0 0 j u hfm
    rw [Nat.sub_zero] at h1 h2
    have h4 : ((ents es 0).toArray[j]?.map (fun x => x.key)).getD (kV k) = kV k2 := by rw [List.getElem?_toArray, h1]; rfl
    simp only [Sem.run_bind, Result.andThen]
    rw [h4, stays_run w k k2 h0]
    show (setObj gm _).run Try.prog w = _
    rw [MapKept.run_setObj_map _ hb]
    unfold mapO World.putObj
    rw [h2, h3]
    congr 3
    simp
/-- What the map has at a key. -/
def getM : List (S23 × Value) → S23 → Option Value
  | [], _ => none
  | (k', v) :: t, k => if eqM k k' = true then some v else getM t k
theorem find_get : ∀ (es : List (S23 × Value)) (k : S23) (i : Nat) (v : Value), getM es k = some v → ∃ j, findM es k i = some (j, v)
  | [], k, i, v, h => by cases h
  | (k', v') :: t, k, i, v, h => by
    rw [getM] at h
    rw [findM]
    cases hc : eqM k k' with
    | true =>
      rw [hc, if_pos rfl] at h
      injection h with h
      subst h
      exact ⟨i, if_pos rfl⟩
    | false =>
      rw [hc, if_neg (by decide)] at h
      rw [if_neg (by decide)]
      exact find_get t k (i + 1) v h
set_option maxRecDepth 100000 in
theorem get_run {w : World} {gm : Nat} {es : List (S23 × Value)} (hb : w.heap[gm]? = some (mapO es)) (k : S23) (v : Value) (hv : getM es k = some v) : (Instr.lookup 52 (.map (some gm)) (kV k) false).run Try.prog w = .ok v w := by
  have hm := Try.underlying52
  have hf := findKey_run w k es
  have hl : (ents es 0).toArray.toList = ents es 0 := rfl
  obtain ⟨j, hj⟩ := find_get es k 0 v hv
  rw [hj] at hf
  simp [Instr.lookup, run_underlying hm, Result.andThen, MapKept.run_getObj_map (show w.heap[gm]? = some (.map (ents es 0).toArray es.length) from hb), check_run, hf]
theorem get_put : ∀ (es : List (S23 × Value)) (k k' : S23) (v : Value), getM (putM es k v) k' = if eqM k' k = true then some v else getM es k'
  | [], k, k', v => rfl
  | (k2, v2) :: t, k, k', v => by
    rw [putM]
    cases hc : eqM k k2 with
    | true =>
      have he : k = k2 := by
        unfold eqM at hc
        simp only [Bool.and_eq_true, beq_iff_eq] at hc
        show (⟨k.f0, k.f1⟩ : S23) = ⟨k2.f0, k2.f1⟩
        rw [hc.1, hc.2]
      subst he
      rw [if_pos rfl, getM, getM]
      cases eqM k' k <;> rfl
    | false =>
      rw [if_neg (by decide), getM, getM, get_put t k k' v]
      cases h2 : eqM k' k2 with
      | false => cases eqM k' k <;> simp
      | true =>
        have h3 : eqM k' k = false := by
          cases h3 : eqM k' k with
          | false => rfl
          | true =>
            exfalso
            have he : k' = k2 := by
              unfold eqM at h2
              simp only [Bool.and_eq_true, beq_iff_eq] at h2
              show (⟨k'.f0, k'.f1⟩ : S23) = ⟨k2.f0, k2.f1⟩
              rw [h2.1, h2.2]
            subst he
            unfold eqM at h3 hc
            simp only [Bool.and_eq_true, beq_iff_eq] at h3
            rw [h3.1, h3.2] at hc
            simp at hc
        rw [h3]
        simp
end Go.Proofs.Ytjpkkdnilfoafaa.Hand
end
section
namespace Go.Proofs.Ytjpkkdnilfoafaa.Plain
open Go.RowKit Go.Proofs.YtjpkkdnilfoafaaW.PrintWords Go.Proofs.YtjpkkdnilfoafaaW.PrintLast Go.Proofs.YtjpkkdnilfoafaaW.PrintMore Go.Proofs.Ytjpkkdnilfoafaa.PALL Go.Proofs.Ytjpkkdnilfoafaa.Hand
set_option linter.unusedVariables false
set_option linter.unusedSimpArgs false
/-- A reference into a row in order. -/
def wr (x : S23) : Bool → List S23 → List S23
  | true, [] => []
  | false, [] => [x]
  | true, y :: t => (if y.f0 = x.f0 ∧ y.f1 = x.f1 then [] else [y]) ++ wr x true t
  | false, y :: t => if ltR y x = true then (if y.f0 = x.f0 ∧ y.f1 = x.f1 then [] else [y]) ++ wr x false t else x :: ((if y.f0 = x.f0 ∧ y.f1 = x.f1 then [] else [y]) ++ wr x true t)
theorem wr_true (x : S23) : ∀ l : List S23, x ∉ l → wr x true l = l
  | [], _ => rfl
  | y :: t, h => by
    rw [wr, if_neg, wr_true x t (fun h2 => h (List.mem_cons_of_mem _ h2))]
    · rfl
    · rintro ⟨h1, h2⟩
      exact h (by rw [show x = y from by cases x; cases y; simp_all]; exact List.mem_cons_self)
theorem wr_false (x : S23) : ∀ l : List S23, x ∉ l → l.Pairwise (fun a b => ltR b a = false) → (wr x false l).Perm (x :: l) ∧ (wr x false l).Pairwise (fun a b => ltR b a = false)
  | [], _, _ => by rw [wr]; exact ⟨.refl _, List.pairwise_singleton _ _⟩
  | y :: t, h, hp => by
    have hne : ¬ (y.f0 = x.f0 ∧ y.f1 = x.f1) := by
      rintro ⟨h1, h2⟩
      exact h (by rw [show x = y from by cases x; cases y; simp_all]; exact List.mem_cons_self)
    have hxt : x ∉ t := fun h2 => h (List.mem_cons_of_mem _ h2)
    obtain ⟨hp1, hp2⟩ := List.pairwise_cons.1 hp
    rw [wr]
    by_cases hlt : ltR y x = true
    · rw [if_pos hlt, if_neg hne]
      obtain ⟨k1, k2⟩ := wr_false x t hxt hp2
      refine ⟨(List.Perm.cons _ k1).trans (.swap _ _ _), List.pairwise_cons.2 ⟨fun b hb => ?_, k2⟩⟩
      rcases List.mem_cons.1 (k1.mem_iff.1 hb) with rfl | hb
      · cases h2 : ltR b y with
        | false => rfl
        | true => have := swoR.trans _ _ _ hlt h2; rw [swoR.irrefl] at this; cases this
      · exact hp1 b hb
    · have hlt' : ltR y x = false := Bool.eq_false_iff.2 hlt
      rw [if_neg hlt, if_neg hne, wr_true x t hxt]
      refine ⟨.refl _, List.pairwise_cons.2 ⟨fun b hb => ?_, hp⟩⟩
      rcases List.mem_cons.1 hb with rfl | hb
      · exact hlt'
      · exact swoR.ntrans _ _ _ (hp1 b hb) hlt'
end Go.Proofs.Ytjpkkdnilfoafaa.Plain
end
section
namespace Go.Proofs.Ytjpkkdnilfoafaa.Hand
open Go.Proofs.YtjpkkdnilfoafaaW Go.RowKit Go.Proofs.YtjpkkdnilfoafaaW.PrintWords Go.Proofs.YtjpkkdnilfoafaaW.PrintLast Go.Proofs.YtjpkkdnilfoafaaW.PrintMore Go.Proofs.YtjpkkdnilfoafaaW.SepW Go.Proofs.Ytjpkkdnilfoafaa.PALL Go.Proofs.Ytjpkkdnilfoafaa.Plain
set_option linter.unusedVariables false
set_option linter.unusedSimpArgs false
/-- An area that New refuses; its item; what the map has. -/
def shortA (a : S27) : Bool := a.f3.any (fun r => decide (r.length < 3)) || (!(a.f3.flatten.all gv)) || decide (a.f3.flatten.length = 0)
def itemA (a : S27) : S61 := ⟨a.f0, boxP a.f3.flatten⟩
def mapA (l : List S27) (vf : Nat → Value) : Nat → List (S23 × Value)
  | 0 => []
  | n + 1 => putM (mapA l vf n) (l.getD n z27).f0 (vf n)
/-- The values of the areas, as they lie in memory. -/
def AV (w : World) (A : Option Addr) (l : List S27) (vf : Nat → Value) : Prop := ∀ i (hi : i < l.length), ∃ ad A3 n3 c3 A4 c4, A = some ad ∧ vf i = .agg #[.int .i64 l[i].f0.f0, .int .i64 l[i].f0.f1, .int .i64 l[i].f1, .slice A3 n3 c3, .slice A4 l[i].f3.length c4] ∧
  w.cell? (ad.add (i * 5)) = some (.int .i64 l[i].f0.f0) ∧ w.cell? ⟨(ad.add (i * 5)).block, (ad.add (i * 5)).off + 1, none⟩ = some (.int .i64 l[i].f0.f1) ∧ w.cell? ⟨(ad.add (i * 5)).block, (ad.add (i * 5)).off + 2, none⟩ = some (.int .i64 l[i].f1) ∧ w.cell? ⟨(ad.add (i * 5)).block, (ad.add (i * 5)).off + 3, none⟩ = some (.slice A3 n3 c3) ∧ w.cell? ⟨(ad.add (i * 5)).block, (ad.add (i * 5)).off + 4, none⟩ = some (.slice A4 l[i].f3.length c4) ∧ Kd.C (Kd.slice 29 k29) w A4 l[i].f3.length l[i].f3
theorem av_of {w : World} {A : Option Addr} {l : List S27} (h : k27.C w A l.length l) : ∃ vf, AV w A l vf := by
  have h1 : ∀ i, ∃ v : Value, ∀ (hi : i < l.length), ∃ ad A3 n3 c3 A4 c4, A = some ad ∧ v = .agg #[.int .i64 l[i].f0.f0, .int .i64 l[i].f0.f1, .int .i64 l[i].f1, .slice A3 n3 c3, .slice A4 l[i].f3.length c4] ∧
      w.cell? (ad.add (i * 5)) = some (.int .i64 l[i].f0.f0) ∧ w.cell? ⟨(ad.add (i * 5)).block, (ad.add (i * 5)).off + 1, none⟩ = some (.int .i64 l[i].f0.f1) ∧ w.cell? ⟨(ad.add (i * 5)).block, (ad.add (i * 5)).off + 2, none⟩ = some (.int .i64 l[i].f1) ∧ w.cell? ⟨(ad.add (i * 5)).block, (ad.add (i * 5)).off + 3, none⟩ = some (.slice A3 n3 c3) ∧ w.cell? ⟨(ad.add (i * 5)).block, (ad.add (i * 5)).off + 4, none⟩ = some (.slice A4 l[i].f3.length c4) ∧ Kd.C (Kd.slice 29 k29) w A4 l[i].f3.length l[i].f3 := by
    intro i
    by_cases hi : i < l.length
    · obtain ⟨ad, A3, c3, A4, c4, e, k0, k1, k2, k3, k4, _, _, _, hC⟩ := at_T27 h (i : Int) (by omega) (by omega)
      have er := rd27 l i hi
      rw [er] at k0 k1 k2 k3 k4 hC
      rw [Int.toNat_natCast] at k0 k1 k2 k3 k4
      exact ⟨.agg #[.int .i64 l[i].f0.f0, .int .i64 l[i].f0.f1, .int .i64 l[i].f1, .slice A3 l[i].f2.length c3, .slice A4 l[i].f3.length c4], fun _ => ⟨ad, A3, _, c3, A4, c4, e, rfl, k0, k1, k2, k3, k4, hC⟩⟩
    · exact ⟨undef, fun h => absurd h hi⟩
  exact ⟨fun i => (h1 i).choose, fun i hi => (h1 i).choose_spec hi⟩
theorem few_len {l : List S27} (h : fewA l = true) : l.length ≤ 20 ∧ ∀ a ∈ l, a.f3.length ≤ 12 ∧ ∀ r ∈ a.f3, r.length ≤ 30 := by
  unfold fewA at h
  rw [Bool.and_eq_true, decide_eq_true_eq, List.all_eq_true] at h
  refine ⟨h.1, fun a ha => ?_⟩
  have h2 := h.2 a ha
  unfold fewR at h2
  rw [Bool.and_eq_true, decide_eq_true_eq, List.all_eq_true] at h2
  exact ⟨h2.1, fun r hr => by have := h2.2 r hr; rwa [decide_eq_true_eq] at this⟩
theorem rings_len : ∀ (R : List (List S29)), (∀ r ∈ R, r.length ≤ 30) → R.flatten.length ≤ 30 * R.length
  | [], _ => by simp
  | r :: t, h => by
    rw [List.flatten_cons, List.length_append, List.length_cons]
    have := rings_len t (fun x hx => h x (List.mem_cons_of_mem _ hx))
    have := h r List.mem_cons_self
    omega
theorem take_next {α : Type} (l : List α) (i : Nat) (h : i < l.length) : l.take (i + 1) = l.take i ++ [l[i]] := by
  rw [List.take_add_one, List.getElem?_eq_getElem h]; rfl
theorem newR_form {l : List S61} {fan : Int} {w w' : World} {e : Ending} (h : NewR l fan w e w') : ∃ p c, e = .returned (.tuple #[.pointer p, .int .i64 c]) := by
  rcases h.2 with ⟨c, he, _⟩ | ⟨_, _, _, _, _, g, items, he, _⟩
  · exact ⟨_, _, he⟩
  · exact ⟨_, _, he⟩
theorem len0_of {acc : List S29} (hok : ¬ (acc.all gv = true ∧ 0 < acc.length)) (hg : acc.all gv = true) : acc.length = 0 := by
  rcases Nat.eq_zero_or_pos acc.length with h | h
  · exact h
  · exact absurd ⟨hg, h⟩ hok
/-- An index in memory. -/
def IndexAt (w : World) (g gt gm m : Nat) (its : List S61) (M : List (S23 × Value)) : Prop := w.cell? ⟨g, 0, none⟩ = some (.pointer (some ⟨gt, 0, none⟩)) ∧ w.cell? ⟨g, 1, none⟩ = some (.map (some gm)) ∧ w.heap[gm]? = some (mapO M) ∧ TreeAt w gt m its (levelsOf m (its.map S61.f1))
theorem IndexAt.below {w w' : World} {g gt gm m : Nat} {its : List S61} {M : List (S23 × Value)} (h : IndexAt w g gt gm m its M) (hb : Below w.heap.size w w') : IndexAt w' g gt gm m its M :=
  ⟨pw_cell_below hb h.1, pw_cell_below hb h.2.1, (hb.block gm (Array.getElem?_eq_some_iff.1 h.2.2.1).1).trans h.2.2.1, h.2.2.2.below hb⟩
/-- What New answers. -/
def NewL (l : List S27) (vf : Nat → Value) (fan : Int) (w : World) (e : Ending) (w' : World) : Prop := Below w.heap.size w w' ∧
  ((∃ c : Int, e = .returned (.tuple #[.pointer none, .int .i64 c]) ∧ ((c = 12 ∧ ∃ a ∈ l, shortA a = true) ∨ ((∀ a ∈ l, shortA a = false) ∧ ((c = 1 ∧ (fan < 2 ∨ 16 < fan)) ∨ (2 ≤ fan ∧ fan ≤ 16 ∧ c = 7 ∧ ¬ (l.map S27.f0).Nodup))))) ∨
   ((∀ a ∈ l, shortA a = false) ∧ 2 ≤ fan ∧ fan ≤ 16 ∧ (l.map S27.f0).Nodup ∧ ∃ g gt gm its, e = .returned (.tuple #[.pointer (some ⟨g, 0, none⟩), .int .i64 0]) ∧ its.Perm (l.map itemA) ∧ its.Pairwise (fun a b => ltT b a = false) ∧ IndexAt w' g gt gm fan.toNat its (mapA l vf l.length)))
def ln18_T : Bool × List (List Nat × List Nat) := (true, [([], []), ([0], [0]), ([1], [1]), ([2], [2]), ([], []), ([4], [4]), ([], []), ([3, 5, 6, 0, 1, 2, 3, 4, 5, 6], [3, 5, 6])])
def ln18_B : List Nat := [0, 1, 3, 7, 0, 16, 0, 127]
theorem ln18_tab : rtab .any (opsOf Try.f12 18) = ln18_T := by kernel_rfl
theorem ln18_bits : waitsOk ln18_T.2 ln18_B = true := by kernel_rfl
set_option maxHeartbeats 40000000 in
set_option maxRecDepth 100000 in
theorem lnew_ct (A : Option Addr) (c : Nat) (l : List S27) (vf : Nat → Value) (fan : Int) (w : World) (hAV : AV w A l vf) (hf : fewA l = true) :
    Calls Try.prog 12 #[.slice A l.length c, .int .i64 fan] w fun e w' => NewL l vf fan w e w' := by
  have S := Aside0.mk ((SepW.Sep.start w).newBlk (.map #[] 0))
  have HAV := Aside0.mk hAV
  have HFW := Aside0.mk (few_len hf)
  have hu27 := Try.underlying27
  have hu55 := Try.underlying55
  have hmm := @run_makeMap Try.prog
  clear hAV hf
  go_enter Try.func12, Try.ntmps12
  go_upto_region 3 with (first | ((with_reducible refine gate_dst (N := 19) rfl ?_); refine box_event ?hg (N := 19) ?hd (cs := #[.pointer none, .map (some w.heap.size)]) (t := 55) ?hr ?_; (case hd => rfl); (case hg => rfl); (case hr => first | (go_simp; done) | (go_simp; rfl)); intro g19 hg w19 hbox hb; replace S := Aside0.mk (S.out.box hg hbox hb); have k19_0 := blk_cell hbox 0; have k19_1 := blk_cell hbox 1; simp only [List.getElem?_toArray, List.getElem?_cons_zero, List.getElem?_cons_succ] at k19_0 k19_1; clear hbox hb hg) | fail)
  clear k19_0 k19_1
  have S1 := Aside0.mk (S.out.nil k61 61)
  refine wp_genS S1 (fun W1 S => ?_)
  clear S1
  go_wp2
  go_loopg [6, 22] (l.length + 1) (fun kq v6 v22 w' => ∃ (i : Nat) (M : List (S23 × Value)) (its : List S61), v22 = .int .i64 (i : Int) ∧ Aside0 (kq + i = l.length + 1) ∧ Aside0 (i ≤ l.length) ∧ Aside0 (M = mapA l vf i) ∧ Aside0 (its = (l.take i).map itemA) ∧ Aside0 (∀ a ∈ l.take i, shortA a = false) ∧ Aside0 (SepW.Sep w w' [YtjpkkdnilfoafaaW.SepW.Own _ k61 61 v6 its, Box _ g19 55 #[.pointer none, .map (some w.heap.size)], Blk _ w.heap.size (mapO M)]))
  case atStart => exact ⟨0, [], [], rfl, ⟨Nat.add_zero _⟩, ⟨Nat.zero_le _⟩, ⟨rfl⟩, ⟨rfl⟩, ⟨fun a ha => by simp at ha⟩, S⟩
  case round =>
    clear S
    obtain ⟨i, M, its, rfl, KQ, IL, ME, IE, NS, S⟩ := hrel
    cases gk with
    | zero => exact absurd KQ.out (by have := IL.out; omega)
    | succ q1 =>
    by_cases hi : i < l.length
    · have p0 : (0 : Int) ≤ (i : Int) := by omega
      have p1 : (i : Int) < (l.length : Int) := by omega
      have e1 : decide (i < l.length) = true := decide_eq_true hi
      have e2 : decide ((i : Int) < (l.length : Int)) = true := decide_eq_true p1
      obtain ⟨ad, A3, n3, c3, A4, c4, ea, hv, h0, h1, h2, h3, h4, hCr⟩ := HAV.out i hi
      subst ea
      obtain ⟨a, ha⟩ : ∃ a, a = l[i] := ⟨_, rfl⟩
      rw [← ha] at hv h0 h1 h2 h4 hCr
      have r0 := pw_cell_below S.out.below h0
      have r1 := pw_cell_below S.out.below h1
      have r2 := pw_cell_below S.out.below h2
      have r3 := pw_cell_below S.out.below h3
      have r4 := pw_cell_below S.out.below h4
      have HVF := Aside0.mk hv
      have HCR := Aside0.mk hCr
      have HAE : Aside0 (a ∈ l ∧ l.getD i z27 = a ∧ l.take (i + 1) = l.take i ++ [a]) := ⟨by rw [ha]; exact List.getElem_mem hi, by rw [ha, List.getD_eq_getElem?_getD, List.getElem?_eq_getElem hi]; rfl, by rw [ha]; exact take_next l i hi⟩
      have HFA := Aside0.mk (HFW.out.2 a HAE.out.1)
      have HI := Aside0.mk hi
      have HIL : Aside0 (its.length ≤ 20) := ⟨by rw [IE.out, List.length_map, List.length_take]; have := HFW.out.1; omega⟩
      have i1 : Aside0 (wrap64 ((i : Int) + 1) = ((i + 1 : Nat) : Int)) := ⟨wnext i (by have := HFW.out.1; omega)⟩
      clear hv h0 h1 h2 h3 h4 hCr ha hi
      go_upto_region 6 with fail
      clear r0 r1 r2 r3 r4
      have S1 := Aside0.mk ((S.out.alloc #[.int .i64 a.f0.f0, .int .i64 a.f0.f1, .int .i64 a.f1, .slice A3 n3 c3, .slice A4 a.f3.length c4] 27).nil k29 29)
      refine wp_genS S1 (fun W2 S => ?_)
      clear S1
      generalize wr.heap.size = g9 at S ⊢
      have k9_0 := blk_cell (S.out.at_box 1 rfl) 0
      have k9_1 := blk_cell (S.out.at_box 1 rfl) 1
      have k9_2 := blk_cell (S.out.at_box 1 rfl) 2
      have k9_3 := blk_cell (S.out.at_box 1 rfl) 3
      have k9_4 := blk_cell (S.out.at_box 1 rfl) 4
      simp only [List.getElem?_toArray, List.getElem?_cons_zero, List.getElem?_cons_succ] at k9_0 k9_1 k9_2 k9_3 k9_4
      go_wp2
      clear k9_0 k9_1 k9_2 k9_3 k9_4
      obtain ⟨R, hR⟩ : ∃ R, R = a.f3 := ⟨_, rfl⟩
      have HR := Aside0.mk hR
      rw [← hR] at HCR HFA S ⊢
      clear hR
      have hrl : R.length ≤ 12 := HFA.out.1
      go_loopg [10, 29] (R.length + 1) (fun kr v10 v29 w' => ∃ (j : Nat) (acc : List S29), v29 = .int .i64 (j : Int) ∧ Aside0 (kr + j = R.length + 1) ∧ Aside0 (j ≤ R.length) ∧ Aside0 (acc = (R.take j).flatten) ∧ Aside0 (∀ r ∈ R.take j, ¬ r.length < 3) ∧ Aside0 (SepW.Sep w w' [YtjpkkdnilfoafaaW.SepW.Own _ k29 29 v10 acc, Box _ g9 27 #[.int .i64 a.f0.f0, .int .i64 a.f0.f1, .int .i64 a.f1, .slice A3 n3 c3, .slice A4 R.length c4], YtjpkkdnilfoafaaW.SepW.Own _ k61 61 u6 its, Box _ g19 55 #[.pointer none, .map (some w.heap.size)], Blk _ w.heap.size (mapO M)]))
      case atStart => exact ⟨0, [], rfl, ⟨Nat.add_zero _⟩, ⟨Nat.zero_le _⟩, ⟨rfl⟩, ⟨fun r hr => by simp at hr⟩, S⟩
      case round =>
        clear S
        obtain ⟨j, acc, rfl, KR, JL, AC, NS2, S⟩ := hrel
        cases gk with
        | zero => exact absurd KR.out (by have := JL.out; omega)
        | succ q2 =>
        by_cases hj : j < R.length
        · have t0 : (0 : Int) ≤ (j : Int) := by omega
          have t1 : (j : Int) < (R.length : Int) := by omega
          have e3 : decide (j < R.length) = true := decide_eq_true hj
          have e4 : decide ((j : Int) < (R.length : Int)) = true := decide_eq_true t1
          obtain ⟨ad4, Ai, ci, ea, kh, hcc, hCi⟩ := ring_at (Kd.C_below HCR.out S.out.below) j hj hj
          subst ea
          obtain ⟨r, hr⟩ : ∃ r, r = R[j] := ⟨_, rfl⟩
          have HRJ : Aside0 (r ∈ R ∧ R.take (j + 1) = R.take j ++ [r]) := ⟨by rw [hr]; exact List.getElem_mem hj, by rw [hr]; exact take_next R j hj⟩
          rw [← hr] at kh hCi
          have HCI := Aside0.mk hCi
          have HJ := Aside0.mk hj
          have j1 : Aside0 (wrap64 ((j : Int) + 1) = ((j + 1 : Nat) : Int)) := ⟨wnext j (by omega)⟩
          clear hCi hcc hr hj
          by_cases h3 : r.length < 3
          · have d1 : decide ((r.length : Int) < 3) = true := decide_eq_true (by omega)
            have d2 : decide (r.length < 3) = true := decide_eq_true h3
            have hsh : shortA a = true := by
              unfold shortA
              rw [Bool.or_eq_true, Bool.or_eq_true]
              exact .inl (.inl (List.any_eq_true.2 ⟨r, by rw [← HR.out]; exact HRJ.out.1, decide_eq_true h3⟩))
            have HSH := Aside0.mk hsh
            clear h3 hsh
            go_wp2
            go_ret2
            exact ⟨S.out.below, .inl ⟨12, rfl, .inl ⟨rfl, a, HAE.out.1, HSH.out⟩⟩⟩
          · have d1 : decide ((r.length : Int) < 3) = false := decide_eq_false (by omega)
            have d2 : decide (r.length < 3) = false := decide_eq_false h3
            have H3 := Aside0.mk h3
            have HAL : Aside0 (acc.length ≤ 1000) := ⟨by
              rw [AC.out]
              have := rings_len (R.take j) (fun x hx => HFA.out.2 x (List.mem_of_mem_take hx))
              rw [List.length_take] at this
              omega⟩
            have HRL : Aside0 (r.length ≤ 30) := ⟨HFA.out.2 r HRJ.out.1⟩
            clear h3
            go_wp2_with (first | ((with_reducible refine gate_builtin (b := .append) (xs := #[.tmp 36, .tmp 37]) rfl ?_); at_builtin; obtain ⟨ok, hR, hnew, hup⟩ := S.out.append 0 rfl; refine Kd.R_append_rows k29 (w0 := w) w.heap.size rfl (.tmp 36) (.tmp 37) 48 29 (.agg #[.int .i64 0, .int .i64 0]) 16 rfl Try.underlying48 info29 rfl (by decide) (by omega) (u10) acc r _ _ _ ok (fun _ => False) rfl rfl hR ?aR (fun _ _ h => h) (fun _ h => h.elim) hnew S.out.below S.out.size ?aL ?_; (case aR => exact Kd.C_below HCI.out (Below.refl _ _)); (case aL => have h1 := HAL.out; have h2 := HRL.out; omega); intro v38 w38 ho hb hg hat; replace S := Aside0.mk (hup _ w38 _ ho hb hg); clear hup hR hnew ho hb hg hat) | fail)
            go_roundg q2
            case measure => omega
            case rel => exact ⟨j + 1, acc ++ r, by first | rw [j1.out] | rfl, ⟨by have := KR.out; omega⟩, ⟨HJ.out⟩, ⟨by rw [AC.out, HRJ.out.2, List.flatten_append, List.flatten_cons, List.flatten_nil, List.append_nil]⟩, ⟨fun x hx => by
              rw [HRJ.out.2] at hx
              rcases List.mem_append.1 hx with hx | hx
              · exact NS2.out x hx
              · rw [List.mem_singleton.1 hx]; exact H3.out⟩, S⟩
        · obtain rfl : j = R.length := by have := JL.out; omega
          have e3 : decide (R.length < R.length) = false := decide_eq_false (by omega)
          clear hj
          have hac := AC.out
          have hns := NS2.out
          rw [List.take_length] at hac hns
          have HAC := Aside0.mk hac
          have HNS := Aside0.mk hns
          have hal : acc.length ≤ 1000 := by
            rw [hac]
            have := rings_len R HFA.out.2
            omega
          have HAL := Aside0.mk hal
          clear hac hns hal AC NS2 KR JL
          obtain ⟨A10, c10, e10, hcl, _⟩ := S.out.own_reads 0 rfl
          subst e10
          have HCL := Aside0.mk hcl
          clear hcl
          by_cases hok : acc.all gv = true ∧ 0 < acc.length
          · obtain ⟨kb, hkb⟩ := (box_ok acc (by have := HAL.out; omega) hok.1 hok.2).rounds
            have HKB := Aside0.mk hkb
            have hsh : shortA a = false := by
              unfold shortA
              rw [Bool.or_eq_false_iff, Bool.or_eq_false_iff, ← HR.out, ← HAC.out]
              refine ⟨⟨?_, by rw [hok.1]; rfl⟩, decide_eq_false (by omega)⟩
              rw [List.any_eq_false]
              intro x hx
              rw [decide_eq_true_eq]
              exact HNS.out x hx
            have HSH := Aside0.mk hsh
            clear hkb hok hsh
            obtain ⟨B, hB⟩ : ∃ B, B = boxP acc := ⟨_, rfl⟩
            rw [← hB] at HKB
            have HBE := Aside0.mk hB
            clear hB
            go_upto_region 15 with (first | (go_at_call 21; (with_reducible refine (grid_Box.calls kb A10 c10 acc B.f0 B.f1 B.f2 B.f3 true _ (S.out.own_C 0 rfl) HCL.out HKB.out).mono ?_); rintro e_ w42 ⟨rfl, hb⟩; replace S := Aside0.mk (S.out.step hb); clear hb) | fail)
            have S1 := Aside0.mk (S.out.alloc #[.int .i64 B.f0, .int .i64 B.f1, .int .i64 B.f2, .int .i64 B.f3] 57)
            refine wp_genS S1 (fun W3 S => ?_)
            clear S1
            generalize w42.heap.size = g13 at S ⊢
            have k13_0 := blk_cell (S.out.at_box 0 rfl) 0
            have k13_1 := blk_cell (S.out.at_box 0 rfl) 1
            have k13_2 := blk_cell (S.out.at_box 0 rfl) 2
            have k13_3 := blk_cell (S.out.at_box 0 rfl) 3
            have k9_0 := blk_cell (S.out.at_box 2 rfl) 0
            have k9_1 := blk_cell (S.out.at_box 2 rfl) 1
            have k9_2 := blk_cell (S.out.at_box 2 rfl) 2
            have k9_3 := blk_cell (S.out.at_box 2 rfl) 3
            have k9_4 := blk_cell (S.out.at_box 2 rfl) 4
            simp only [List.getElem?_toArray, List.getElem?_cons_zero, List.getElem?_cons_succ] at k13_0 k13_1 k13_2 k13_3 k9_0 k9_1 k9_2 k9_3 k9_4
            go_upto_region 18 with (first | ((with_reducible refine gate_builtin (b := .append) (xs := #[.tmp 47, .tmp 52]) rfl ?_); at_builtin; obtain ⟨ok, hR, hnew, hup⟩ := S.out.append 3 rfl; refine Kd.R_append k61 (w0 := w) w.heap.size rfl (.tmp 47) (.tmp 52) 51 61 (.agg #[.int .i64 0, .int .i64 0, .int .i64 0, .int .i64 0, .int .i64 0, .int .i64 0]) 48 rfl Try.underlying51 info61 rfl (by decide) (by omega) u6 its ⟨a.f0, B⟩ [.int .i64 a.f0.f0, .int .i64 a.f0.f1, .int .i64 B.f0, .int .i64 B.f1, .int .i64 B.f2, .int .i64 B.f3] ok (fun _ => False) rfl rfl (k61_mkM _ _ _ ⟨a.f0, B⟩) (fun _ h => h.elim) hnew hR S.out.below S.out.size (by have := HIL.out; omega) ?_; intro v53 w53 ho hb hg hat; replace S := Aside0.mk (hup _ w53 _ ho hb hg); clear hup hR hnew ho hb hg hat) | fail)
            clear k13_0 k13_1 k13_2 k13_3 k9_0 k9_1 k9_2 k9_3 k9_4
            have k19_0 := blk_cell (S.out.at_box 4 rfl) 0
            have k19_1 := blk_cell (S.out.at_box 4 rfl) 1
            have k9_0 := blk_cell (S.out.at_box 2 rfl) 0
            have k9_1 := blk_cell (S.out.at_box 2 rfl) 1
            have k9_2 := blk_cell (S.out.at_box 2 rfl) 2
            have k9_3 := blk_cell (S.out.at_box 2 rfl) 3
            have k9_4 := blk_cell (S.out.at_box 2 rfl) 4
            simp only [List.getElem?_toArray, List.getElem?_cons_zero, List.getElem?_cons_succ] at k19_0 k19_1 k9_0 k9_1 k9_2 k9_3 k9_4
            refine start_ (n := 8) (S := fun w' => w'.cell? ⟨g19, 1, none⟩ = some (.map (some w.heap.size)) ∧ w'.cell? ⟨g9, 0, none⟩ = some (.int .i64 a.f0.f0) ∧ w'.cell? ⟨g9, 1, none⟩ = some (.int .i64 a.f0.f1) ∧ w'.cell? ⟨g9, 2, none⟩ = some (.int .i64 a.f1) ∧ w'.cell? ⟨g9, 3, none⟩ = some (.slice A3 n3 c3) ∧ w'.cell? ⟨g9, 4, none⟩ = some (.slice A4 R.length c4)) (ds := [7]) #[false, false, false, false, false, false, false, false] (by kernel_rfl) rfl rfl ⟨k19_1, k9_0, k9_1, k9_2, k9_3, k9_4⟩ (fun hHeld => ?_); refine with_tabW ln18_tab ln18_bits (fun HT_ HW_ => ?_)
            have HBW := Aside0.mk (below_drew (Below.refl w53.heap.size w53))
            generalize w53.drew = W9 at HBW hHeld ⊢
            replace S := Aside0.mk (S.out.step HBW.out)
            refine pure_ (i := 0) (N := some 54) (v := ?_) (a' := ?_) #[true, false, false, false, false, false, false, false] rfl rfl (any_of HT_.out (by kernel_rfl)) (fun _ _ _ h => h) (Or.inl ⟨by rfl, ?_⟩) ?_ ?_
            rotate_left
            · intro w'
              go_simp
              with_reducible rfl
            rotate_left
            · simp only [Act.put, List.setIfInBounds_toArray, List.set_cons_zero, List.set_cons_succ, i64_w, i32_w]
              rfl
            refine pure_ (i := 1) (N := some 55) (v := ?_) (a' := ?_) #[true, true, false, false, false, false, false, false] rfl rfl (any_of HT_.out (by kernel_rfl)) (fun _ _ _ h => h) (Or.inl ⟨by rfl, ?_⟩) ?_ ?_
            rotate_left
            · intro w'
              go_simp
              with_reducible rfl
            rotate_left
            · simp only [Act.put, List.setIfInBounds_toArray, List.set_cons_zero, List.set_cons_succ, i64_w, i32_w]
              rfl
            refine pure_ (i := 2) (N := some 56) (v := ?_) (a' := ?_) #[true, true, true, false, false, false, false, false] rfl rfl (any_of HT_.out (by kernel_rfl)) (fun _ _ _ h => h) (Or.inl ⟨by rfl, ?_⟩) ?_ ?_
            rotate_left
            · intro w'
              go_simp
              with_reducible rfl
            rotate_left
            · simp only [Act.put, List.setIfInBounds_toArray, List.set_cons_zero, List.set_cons_succ, i64_w, i32_w]
              rfl
            refine pure_ (i := 4) (N := some 58) (v := ?_) (a' := ?_) #[true, true, true, false, true, false, false, false] rfl rfl (any_of HT_.out (by kernel_rfl)) (fun _ _ _ h => h) (Or.inl ⟨by rfl, ?_⟩) ?_ ?_
            rotate_left
            · intro w'
              go_simp
              with_reducible rfl
            rotate_left
            · simp only [Act.put, List.setIfInBounds_toArray, List.set_cons_zero, List.set_cons_succ, i64_w, i32_w]
              rfl
            refine take_ (i := 3) (N := some 57) (v := ?_) (a' := ?_) #[true, true, true, true, true, false, false, false] rfl rfl (take_ofW HT_.out HW_.out (by kernel_rfl)) (fun _ _ _ h => h) (Or.inl ⟨by rfl, ?_⟩) hHeld ?_ ?_
            rotate_left
            · rintro w' ⟨s0, s1, s2, s3, s4, s5⟩
              go_simp
              with_reducible rfl
            rotate_left
            · simp only [Act.put, List.setIfInBounds_toArray, List.set_cons_zero, List.set_cons_succ, i64_w, i32_w]
              rfl
            refine take_ (i := 5) (N := some 59) (v := ?_) (a' := ?_) #[true, true, true, true, true, true, false, false] rfl rfl (take_ofW HT_.out HW_.out (by kernel_rfl)) (fun _ _ _ h => h) (Or.inl ⟨by rfl, ?_⟩) hHeld ?_ ?_
            rotate_left
            · rintro w' ⟨s0, s1, s2, s3, s4, s5⟩
              go_simp
              with_reducible rfl
            rotate_left
            · simp only [Act.put, List.setIfInBounds_toArray, List.set_cons_zero, List.set_cons_succ, i64_w, i32_w]
              rfl
            refine take_ (i := 6) (N := some 60) (v := ?_) (a' := ?_) #[true, true, true, true, true, true, true, false] rfl rfl (take_ofW HT_.out HW_.out (by kernel_rfl)) (fun _ _ _ h => h) (Or.inl ⟨by rfl, ?_⟩) hHeld ?_ ?_
            rotate_left
            · rintro w' ⟨s0, s1, s2, s3, s4, s5⟩
              go_simp
              with_reducible rfl
            rotate_left
            · simp only [Act.put, List.setIfInBounds_toArray, List.set_cons_zero, List.set_cons_succ, i64_w, i32_w]
              rfl
            refine last_ (i := 7) (N := none) #[true, true, true, true, true, true, true, true] rfl rfl (one_of HT_.out (by kernel_rfl)) (by decide) (fun K hK => ?_)
            have hrun := put_run (S.out.at_blk 5 rfl) a.f0 (.agg #[.int .i64 a.f0.f0, .int .i64 a.f0.f1, .int .i64 a.f1, .slice A3 n3 c3, .slice A4 R.length c4])
            unfold kV at hrun
            go_simp
            refine hK.out _ _ ?_
            clear hK K
            refine done_ (done_of HT_.out (by kernel_rfl)) ?_
            go_wp2
            have S2 := Aside0.mk (S.out.put 5 rfl (mapO (putM M a.f0 (.agg #[.int .i64 a.f0.f0, .int .i64 a.f0.f1, .int .i64 a.f1, .slice A3 n3 c3, .slice A4 R.length c4]))))
            go_roundg q1
            case measure => omega
            case rel => exact ⟨i + 1, putM M a.f0 (.agg #[.int .i64 a.f0.f0, .int .i64 a.f0.f1, .int .i64 a.f1, .slice A3 n3 c3, .slice A4 R.length c4]), its ++ [(⟨a.f0, B⟩ : S61)], by first | rw [i1.out] | rfl, ⟨by have := KQ.out; omega⟩, ⟨HI.out⟩, ⟨by rw [mapA, HAE.out.2.1, ← ME.out, HVF.out, HR.out]⟩, ⟨by rw [HAE.out.2.2, List.map_append, ← IE.out, HBE.out, HAC.out, HR.out]; rfl⟩, ⟨fun x hx => by
              rw [HAE.out.2.2] at hx
              rcases List.mem_append.1 hx with hx | hx
              · exact NS.out x hx
              · rw [List.mem_singleton.1 hx]; exact HSH.out⟩, ⟨((S2.out.drop 0).drop 0).drop 0⟩⟩
          · obtain ⟨rb, hrb⟩ := box_no acc (by have := HAL.out; omega) (by
              cases hg : acc.all gv with
              | false => exact .inl rfl
              | true => exact .inr (len0_of hok hg))
            obtain ⟨kb, hkb⟩ := hrb.rounds
            have HKB := Aside0.mk hkb
            have hsh : shortA a = true := by
              unfold shortA
              rw [Bool.or_eq_true, Bool.or_eq_true, ← HR.out, ← HAC.out]
              cases hg : acc.all gv with
              | false => exact .inl (.inr rfl)
              | true => exact .inr (decide_eq_true (len0_of hok hg))
            have HSH := Aside0.mk hsh
            clear hkb hok hrb hsh
            go_wp2_with (first | (go_at_call 21; (with_reducible refine (grid_Box.calls kb A10 c10 acc _ _ _ _ false _ (S.out.own_C 0 rfl) HCL.out HKB.out).mono ?_); rintro e_ w42 ⟨rfl, hb⟩; replace S := Aside0.mk (S.out.step hb); clear hb) | fail)
            go_ret2
            exact ⟨(S.out.alloc _ 57).below, .inl ⟨12, rfl, .inl ⟨rfl, a, HAE.out.1, HSH.out⟩⟩⟩
    · obtain rfl : i = l.length := by have := IL.out; omega
      have e1 : decide (l.length < l.length) = false := decide_eq_false (by omega)
      clear hi KQ IL
      have hie := IE.out
      have hns := NS.out
      rw [List.take_length] at hie hns
      have HIE := Aside0.mk hie
      have HNS := Aside0.mk hns
      have hil : its.length = l.length := by rw [hie, List.length_map]
      clear hie hns IE NS
      obtain ⟨A6, c6, e6, hcl, _⟩ := S.out.own_reads 0 rfl
      subst e6
      have HCL := Aside0.mk hcl
      have HVI : Aside0 (∀ x ∈ its, validB x.f1 = true) := ⟨by
        rw [HIE.out]
        intro x hx
        obtain ⟨a, ha, rfl⟩ := List.mem_map.1 hx
        have hs := HNS.out a ha
        unfold shortA at hs
        rw [Bool.or_eq_false_iff, Bool.or_eq_false_iff] at hs
        obtain ⟨⟨_, h2⟩, h3⟩ := hs
        refine (boxP_holds (by simpa using h2) (fun h => ?_)).1
        rw [h] at h3
        simp at h3⟩
      have HMF : Aside0 (its.map S61.f0 = l.map S27.f0) := ⟨by rw [HIE.out, List.map_map]; rfl⟩
      have HL2 : Aside0 (its.length ≤ 20) := ⟨by rw [hil]; exact HFW.out.1⟩
      clear hcl hil
      have HG19 : Aside0 (g19 < wr.heap.size) := ⟨blk_lt (S.out.at_box 1 rfl)⟩
      go_upto_region 21 with (first | (go_at_call 22; (with_reducible refine (new_ct A6 c6 its fan _ (S.out.own_C 0 rfl) HCL.out).mono ?_); rintro e_ w65 hN_; have HN := Aside0.mk hN_; replace S := Aside0.mk (S.out.step hN_.1); obtain ⟨pt, rc, he_⟩ := newR_form hN_; subst he_; clear hN_) | fail)
      rcases HN.out.2 with ⟨x, he, h⟩ | ⟨h2, h16, hl, hv, hn, gt, it2, he, hp, hs, hT⟩
      · obtain ⟨rfl, rfl⟩ : pt = none ∧ rc = x := by simpa using he
        clear he
        rcases h with ⟨rfl, h⟩ | ⟨rfl, _, _, h⟩ | ⟨h2, h16, _, h⟩
        · clear HN
          go_wp2
          go_ret2
          exact ⟨S.out.below, .inl ⟨1, rfl, .inr ⟨HNS.out, .inl ⟨rfl, h⟩⟩⟩⟩
        · exact absurd h (by have := HL2.out; omega)
        · rcases h with ⟨rfl, x, hx, hx2⟩ | ⟨rfl, _, h⟩
          · rw [HVI.out x hx] at hx2
            cases hx2
          · rw [HMF.out] at h
            clear HN
            go_wp2
            go_ret2
            exact ⟨S.out.below, .inl ⟨7, rfl, .inr ⟨HNS.out, .inr ⟨h2, h16, rfl, h⟩⟩⟩⟩
      · obtain ⟨rfl, rfl⟩ : pt = some ⟨gt, 0, none⟩ ∧ rc = 0 := by simpa using he
        rw [HMF.out] at hn
        have HT := Aside0.mk hT
        have HN2 := Aside0.mk hn
        have HP := Aside0.mk hp
        have HS := Aside0.mk hs
        have H2 := Aside0.mk h2
        have H16 := Aside0.mk h16
        clear he hn hp hs hT hl hv h2 h16 HN
        have k19_0 := blk_cell (S.out.at_box 1 rfl) 0
        have f19_0 := blk_frozen (S.out.at_box 1 rfl) 0
        have k19_1 := blk_cell (S.out.at_box 1 rfl) 1
        have f19_1 := blk_frozen (S.out.at_box 1 rfl) 1
        simp only [List.getElem?_toArray, List.getElem?_cons_zero, List.getElem?_cons_succ] at k19_0 k19_1
        go_wp2
        clear k19_0 k19_1 f19_0 f19_1
        go_ret2
        have S1 := Aside0.mk (show SepW.Sep w _ [YtjpkkdnilfoafaaW.SepW.Own _ k61 61 (.slice A6 its.length c6) its, Box _ g19 55 #[.pointer (some ⟨gt, 0, none⟩), .map (some w.heap.size)], Blk _ w.heap.size (mapO M)] from S.out.set 1 rfl 0 (.pointer (some ⟨gt, 0, none⟩)))
        refine ⟨S1.out.below, .inr ⟨HNS.out, H2.out, H16.out, HN2.out, g19, gt, w.heap.size, it2, rfl, by rw [← HIE.out]; exact HP.out, HS.out, blk_cell (S1.out.at_box 1 rfl) 0, blk_cell (S1.out.at_box 1 rfl) 1, by rw [← ME.out]; exact S1.out.at_blk 2 rfl, ?_⟩⟩
        refine HT.out _ (by rw [World.size_setCell]; exact Nat.le_refl _) (fun k h1 h2 => Below.heap_setCell w65 ⟨g19, 0, none⟩ _ k (fun e => ?_))
        have := HG19.out
        have e2 : k = g19 := e
        omega
end Go.Proofs.Ytjpkkdnilfoafaa.Hand
end
section
namespace Go.Proofs.Ytjpkkdnilfoafaa.Hand
open Go.Proofs.YtjpkkdnilfoafaaW Go.RowKit Go.Proofs.YtjpkkdnilfoafaaW.PrintWords Go.Proofs.YtjpkkdnilfoafaaW.PrintLast Go.Proofs.YtjpkkdnilfoafaaW.PrintMore Go.Proofs.YtjpkkdnilfoafaaW.SepW Go.Proofs.Ytjpkkdnilfoafaa.PALL Go.Proofs.Ytjpkkdnilfoafaa.Plain
set_option linter.unusedVariables false
set_option linter.unusedSimpArgs false
theorem visT_len {fan : Nat} {items : List S61} (hf : 2 ≤ fan) (hv : ∀ x ∈ items, validB x.f1 = true) (b : S57) : (visT (levelsOf fan (items.map S61.f1)) items fan b).1.length ≤ items.length := by
  rw [visT_items hf hv]
  exact List.length_filter_le _ _
/-- A well made index over areas. -/
structure Good (l : List S27) (vf : Nat → Value) (m : Nat) (its : List S61) : Prop where
  m2 : 2 ≤ m
  m16 : m ≤ 16
  len : l.length ≤ 20
  nodup : (l.map S27.f0).Nodup
  short : ∀ a ∈ l, shortA a = false
  perm : its.Perm (l.map itemA)
  sorted : its.Pairwise (fun a b => ltT b a = false)
theorem Good.itl {l : List S27} {vf : Nat → Value} {m : Nat} {its : List S61} (h : Good l vf m its) : its.length = l.length := by
  rw [h.perm.length_eq, List.length_map]
theorem short_parts {a : S27} (h : shortA a = false) : (∀ r ∈ a.f3, ¬ r.length < 3) ∧ a.f3.flatten.all gv = true ∧ a.f3.flatten ≠ [] := by
  unfold shortA at h
  rw [Bool.or_eq_false_iff, Bool.or_eq_false_iff] at h
  obtain ⟨⟨h1, h2⟩, h3⟩ := h
  rw [List.any_eq_false] at h1
  refine ⟨fun r hr => by have := h1 r hr; rwa [decide_eq_true_eq] at this, by simpa using h2, fun e => ?_⟩
  rw [e] at h3
  simp at h3
theorem Good.valid {l : List S27} {vf : Nat → Value} {m : Nat} {its : List S61} (h : Good l vf m its) : ∀ x ∈ its, validB x.f1 = true := by
  intro x hx
  obtain ⟨a, ha, rfl⟩ := List.mem_map.1 (h.perm.mem_iff.1 hx)
  obtain ⟨_, h2, h3⟩ := short_parts (h.short a ha)
  exact (boxP_holds h2 h3).1
set_option maxHeartbeats 40000000 in
set_option maxRecDepth 100000 in
theorem ilen_ct {w0 : World} {g gt gm m : Nat} {its : List S61} {M : List (S23 × Value)} (h : IndexAt w0 g gt gm m its M) (w : World) (hb : Below w0.heap.size w0 w) :
    Calls Try.prog 14 #[.pointer (some ⟨g, 0, none⟩)] w fun e w' => e = .returned (.int .i64 (its.length : Int)) ∧ w' = w := by
  have k0 := pw_cell_below hb h.1
  have HT := Aside0.mk h.2.2.2
  have HB := Aside0.mk hb
  clear h hb
  go_enter Try.func14, Try.ntmps14
  go_wp2_with (first | (go_at_call 24; (with_reducible refine (len_ct HT.out _ HB.out).mono ?_); rintro e_ w_ ⟨rfl, hw_⟩; subst hw_) | fail)
  go_ret
  exact ⟨rfl, rfl⟩
theorem ilen_nil (w : World) : Calls Try.prog 14 #[.pointer none] w fun e w' => e = .returned (.int .i64 0) ∧ w' = w := by
  go_enter Try.func14, Try.ntmps14
  go_wp2
  go_ret
  exact ⟨rfl, rfl⟩
theorem at_nil (p : S29) (w : World) : Calls Try.prog 16 #[.pointer none, .agg #[.int .i64 p.f0, .int .i64 p.f1]] w fun e w' => e = .returned (.slice none 0 0) ∧ Below w.heap.size w w' := by
  have S := Aside0.mk (SepW.Sep.start w)
  have hu29 := Try.underlying29
  go_enter Try.func16, Try.ntmps16
  go_wp2_with (first | ((with_reducible refine gate_dst (N := 3) rfl ?_); refine box_event ?hg (N := 3) ?hd (cs := #[.int .i64 p.f0, .int .i64 p.f1]) (t := 29) ?hr ?_; (case hd => rfl); (case hg => rfl); (case hr => first | (go_simp; done) | (go_simp; rfl)); intro g3 hg w3 hbox hb; replace S := Aside0.mk (S.out.box hg hbox hb); have k3_0 := blk_cell hbox 0; have k3_1 := blk_cell hbox 1; simp only [List.getElem?_toArray, List.getElem?_cons_zero, List.getElem?_cons_succ] at k3_0 k3_1; clear hbox hb hg) | fail)
  go_ret
  exact ⟨rfl, S.out.below⟩
theorem window_p {w0 : World} {g fan : Nat} {items : List S61} {lv : List (List S57)} (hT : TreeAt w0 g fan items lv) (hF : Fine fan items lv) (p : S29) (hb9 : (visT lv items fan (pbox p)).2 ≤ 1000000000) (hl9 : (visT lv items fan (pbox p)).1.length ≤ 1000000) (w : World) (hb : Below w0.heap.size w0 w) :
    Calls Try.prog 25 #[.pointer (some ⟨g, 0, none⟩), .agg #[.int .i64 p.f0, .int .i64 p.f1, .int .i64 p.f0, .int .i64 p.f1]] w fun e w' => ∃ v ys, e = .returned v ∧ k23.R 23 w' w.heap.size (fun _ => True) v ys ∧ ys.Perm ((visT lv items fan (pbox p)).1.map S61.f0) ∧ ys.Pairwise (fun a b => ltR b a = false) ∧ Below w.heap.size w w' := window_ct hT hF (pbox p) hb9 hl9 w hb
theorem wp_genT2 {P : Program} {c : Code} {Q : Exit → Act → World → Prop} {a : Act} {w0 w1 w : World} {L : List (Thing w0.heap.size)} {L1 : List (Thing w1.heap.size)} (S : Aside0 (SepW.Sep w0 w L)) (SB : Aside0 (SepW.Sep w1 w L1)) (h : ∀ W, Aside0 (SepW.Sep w0 W L) → Aside0 (SepW.Sep w1 W L1) → c.wp P Q a W) : c.wp P Q a w := h w S SB
theorem AV.below {w w' : World} {A : Option Addr} {l : List S27} {vf : Nat → Value} (h : AV w A l vf) (hb : Below w.heap.size w w') : AV w' A l vf := by
  intro i hi
  obtain ⟨ad, A3, n3, c3, A4, c4, ea, hv, h0, h1, h2, h3, h4, hC⟩ := h i hi
  exact ⟨ad, A3, n3, c3, A4, c4, ea, hv, pw_cell_below hb h0, pw_cell_below hb h1, pw_cell_below hb h2, pw_cell_below hb h3, pw_cell_below hb h4, Kd.C_below hC hb⟩
theorem eqM_iff (a b : S23) : eqM a b = true ↔ a = b := by
  unfold eqM
  rw [Bool.and_eq_true, beq_iff_eq, beq_iff_eq]
  constructor
  · rintro ⟨h1, h2⟩
    show (⟨a.f0, a.f1⟩ : S23) = ⟨b.f0, b.f1⟩
    rw [h1, h2]
  · rintro rfl
    exact ⟨rfl, rfl⟩
theorem getM_mapA {l : List S27} (vf : Nat → Value) (hn : (l.map S27.f0).Nodup) : ∀ (n j : Nat), n ≤ l.length → (hj : j < n) → ∀ (h : j < l.length), getM (mapA l vf n) l[j].f0 = some (vf j)
  | 0, j, _, hj, _ => absurd hj (by omega)
  | n + 1, j, hl, hj, h => by
    have hd : l.getD n z27 = l[n] := by rw [List.getD_eq_getElem?_getD, List.getElem?_eq_getElem (by omega)]; rfl
    rw [mapA, get_put, hd]
    by_cases e : j = n
    · subst e
      rw [if_pos ((eqM_iff _ _).2 rfl)]
    · rw [if_neg, getM_mapA vf hn n j (by omega) (by omega) h]
      intro hq
      have h1 := (eqM_iff _ _).1 hq
      have h2 := (List.getElem_inj (xs := l.map S27.f0) (i := j) (j := n) (h₀ := by rw [List.length_map]; exact h) (h₁ := by rw [List.length_map]; omega) hn).1 (by rw [List.getElem_map, List.getElem_map]; exact h1)
      exact e h2
/-- What At keeps of the references found. -/
def selA (l : List S27) (p : S29) (r : S23) : Bool := l.any (fun a => eqM r a.f0 && !(locW a.f3 p == 0))
theorem selA_at {l : List S27} (hn : (l.map S27.f0).Nodup) (p : S29) {a : S27} (ha : a ∈ l) : selA l p a.f0 = !(locW a.f3 p == 0) := by
  unfold selA
  cases hq : (!(locW a.f3 p == 0)) with
  | true => exact List.any_eq_true.2 ⟨a, ha, by rw [(eqM_iff _ _).2 rfl, hq]; rfl⟩
  | false =>
    rw [List.any_eq_false]
    intro b hb h
    rw [Bool.and_eq_true] at h
    have h1 := (eqM_iff _ _).1 h.1
    obtain ⟨i, hi, rfl⟩ := List.mem_iff_getElem.1 ha
    obtain ⟨j, hj, rfl⟩ := List.mem_iff_getElem.1 hb
    have h2 := (List.getElem_inj (xs := l.map S27.f0) (i := i) (j := j) (h₀ := by rw [List.length_map]; exact hi) (h₁ := by rw [List.length_map]; exact hj) hn).1 (by rw [List.getElem_map, List.getElem_map]; exact h1)
    subst h2
    rw [hq] at h
    exact absurd h.2 (by decide)
def at4_T : Bool × List (List Nat × List Nat) := (true, [([], []), ([0], [0]), ([1], [1]), ([2], [2]), ([], []), ([4], [4]), ([], []), ([6], [6]), ([], []), ([8], [8]), ([], []), ([10], [10]), ([5, 7, 9, 11], [5, 7, 9, 11]), ([3, 12], [3, 12]), ([13], [13]), ([], [])])
def at4_B : List Nat := [0, 1, 3, 7, 0, 16, 0, 64, 0, 256, 0, 1024, 4080, 8191, 16383, 0]
theorem at4_tab : rtab .any (opsOf Try.f16 4) = at4_T := by kernel_rfl
theorem at4_bits : waitsOk at4_T.2 at4_B = true := by kernel_rfl
def at7_T : Bool × List (List Nat × List Nat) := (true, [([], []), ([0], [0]), ([1], [1]), ([2], [2]), ([], []), ([3, 4], [3, 4]), ([], []), ([5, 6], [5, 6]), ([7], [7])])
def at7_B : List Nat := [0, 1, 3, 7, 0, 31, 0, 127, 255]
theorem at7_tab : rtab .any (opsOf Try.f16 7) = at7_T := by kernel_rfl
theorem at7_bits : waitsOk at7_T.2 at7_B = true := by kernel_rfl
set_option maxHeartbeats 40000000 in
set_option maxRecDepth 100000 in
theorem at_ct {w0 : World} {A : Option Addr} {l : List S27} {vf : Nat → Value} {g gt gm m : Nat} {its : List S61} (hG : Good l vf m its) (hfw : fewA l = true) (hI : IndexAt w0 g gt gm m its (mapA l vf l.length)) (hAV : AV w0 A l vf) (p : S29) (w : World) (hb : Below w0.heap.size w0 w) :
    Calls Try.prog 16 #[.pointer (some ⟨g, 0, none⟩), .agg #[.int .i64 p.f0, .int .i64 p.f1]] w fun e w' => ∃ (v : Value) (ys : List S23), e = .returned v ∧ k23.R 23 w' w.heap.size (fun _ => True) v (ys.filter (selA l p)) ∧ ys.Perm ((its.filter (fun x => meetsB x.f1 (pbox p))).map S61.f0) ∧ ys.Pairwise (fun a b => ltR b a = false) ∧ Below w.heap.size w w' := by
  have S := Aside0.mk (SepW.Sep.start w)
  have SB := Aside0.mk (show SepW.Sep w0 w [] from ⟨hb, trivial⟩)
  have HBW0 := Aside0.mk hb
  have hu29 := Try.underlying29
  have hu27 := Try.underlying27
  have hu23 := Try.underlying23
  have HG := Aside0.mk hG
  have HIX := Aside0.mk hI
  have HTR : Aside0 (TreeAt w0 gt m its (levelsOf m (its.map S61.f1))) := ⟨hI.2.2.2⟩
  have HAV := Aside0.mk hAV
  have HFW := Aside0.mk (few_len hfw)
  have hil : its.length ≤ 20 := by rw [hG.itl]; exact hG.len
  have HF := Aside0.mk (fine_of hG.m2 hG.m16 (show its.length ≤ 10000 by omega))
  have HB9 := Aside0.mk (vis_small hG.m2 hG.m16 (show its.length ≤ 60 by omega) (pbox p))
  have HW9 : Aside0 ((visT (levelsOf m (its.map S61.f1)) its m (pbox p)).1.length ≤ 1000000) := ⟨Nat.le_trans (visT_len hG.m2 hG.valid (pbox p)) (by omega)⟩
  have HIL := Aside0.mk hil
  have HVT := Aside0.mk (visT_items hG.m2 hG.valid (pbox p))
  clear hG hI hAV hfw hb hil
  go_enter Try.func16, Try.ntmps16
  go_upto_region 1 with (first | ((with_reducible refine gate_dst (N := 3) rfl ?_); refine box_event ?hg (N := 3) ?hd (cs := #[.int .i64 p.f0, .int .i64 p.f1]) (t := 29) ?hr ?_; (case hd => rfl); (case hg => rfl); (case hr => first | (go_simp; done) | (go_simp; rfl)); intro g3 hg w3 hbox hb; replace SB := Aside0.mk (SB.out.step hb); replace S := Aside0.mk (S.out.box hg hbox hb); have k3_0 := blk_cell hbox 0; have k3_1 := blk_cell hbox 1; simp only [List.getElem?_toArray, List.getElem?_cons_zero, List.getElem?_cons_succ] at k3_0 k3_1; clear hbox hb hg) | fail)
  clear k3_0 k3_1
  refine wp_genT2 S SB (fun W1 S SB => ?_)
  have kg0 := pw_cell_below SB.out.below HIX.out.1
  have k3_0 := blk_cell (S.out.at_box 0 rfl) 0
  have k3_1 := blk_cell (S.out.at_box 0 rfl) 1
  simp only [List.getElem?_toArray, List.getElem?_cons_zero, List.getElem?_cons_succ] at k3_0 k3_1
  go_upto_region 4 with fail
  refine start_ (n := 16) (S := fun w' => w'.cell? ⟨g, 0, none⟩ = some (.pointer (some ⟨gt, 0, none⟩)) ∧ w'.cell? ⟨g3, 0, none⟩ = some (.int .i64 p.f0) ∧ w'.cell? ⟨g3, 1, none⟩ = some (.int .i64 p.f1)) (ds := []) #[false, false, false, false, false, false, false, false, false, false, false, false, false, false, false, false] (by kernel_rfl) rfl rfl ⟨kg0, k3_0, k3_1⟩ (fun hHeld => ?_); refine with_tabW at4_tab at4_bits (fun HT_ HW_ => ?_)
  have HBW := Aside0.mk (below_drew (Below.refl W1.heap.size W1))
  generalize W1.drew = W9 at HBW hHeld ⊢
  replace S := Aside0.mk (S.out.step HBW.out)
  replace SB := Aside0.mk (SB.out.step HBW.out)
  refine pure_ (i := 0) (N := some 10) (v := ?_) (a' := ?_) #[true, false, false, false, false, false, false, false, false, false, false, false, false, false, false, false] rfl rfl (any_of HT_.out (by kernel_rfl)) (fun _ _ _ h => h) (Or.inl ⟨by rfl, ?_⟩) ?_ ?_
  rotate_left
  · intro w'
    go_simp
    with_reducible rfl
  rotate_left
  · simp only [Act.put, List.setIfInBounds_toArray, List.set_cons_zero, List.set_cons_succ, i64_w, i32_w]
    rfl
  refine pure_ (i := 1) (N := some 11) (v := ?_) (a' := ?_) #[true, true, false, false, false, false, false, false, false, false, false, false, false, false, false, false] rfl rfl (any_of HT_.out (by kernel_rfl)) (fun _ _ _ h => h) (Or.inl ⟨by rfl, ?_⟩) ?_ ?_
  rotate_left
  · intro w'
    go_simp
    with_reducible rfl
  rotate_left
  · simp only [Act.put, List.setIfInBounds_toArray, List.set_cons_zero, List.set_cons_succ, i64_w, i32_w]
    rfl
  refine pure_ (i := 2) (N := some 12) (v := ?_) (a' := ?_) #[true, true, true, false, false, false, false, false, false, false, false, false, false, false, false, false] rfl rfl (any_of HT_.out (by kernel_rfl)) (fun _ _ _ h => h) (Or.inl ⟨by rfl, ?_⟩) ?_ ?_
  rotate_left
  · intro w'
    go_simp
    with_reducible rfl
  rotate_left
  · simp only [Act.put, List.setIfInBounds_toArray, List.set_cons_zero, List.set_cons_succ, i64_w, i32_w]
    rfl
  refine pure_ (i := 4) (N := some 14) (v := ?_) (a' := ?_) #[true, true, true, false, true, false, false, false, false, false, false, false, false, false, false, false] rfl rfl (any_of HT_.out (by kernel_rfl)) (fun _ _ _ h => h) (Or.inl ⟨by rfl, ?_⟩) ?_ ?_
  rotate_left
  · intro w'
    go_simp
    with_reducible rfl
  rotate_left
  · simp only [Act.put, List.setIfInBounds_toArray, List.set_cons_zero, List.set_cons_succ, i64_w, i32_w]
    rfl
  refine pure_ (i := 6) (N := some 16) (v := ?_) (a' := ?_) #[true, true, true, false, true, false, true, false, false, false, false, false, false, false, false, false] rfl rfl (any_of HT_.out (by kernel_rfl)) (fun _ _ _ h => h) (Or.inl ⟨by rfl, ?_⟩) ?_ ?_
  rotate_left
  · intro w'
    go_simp
    with_reducible rfl
  rotate_left
  · simp only [Act.put, List.setIfInBounds_toArray, List.set_cons_zero, List.set_cons_succ, i64_w, i32_w]
    rfl
  refine pure_ (i := 8) (N := some 18) (v := ?_) (a' := ?_) #[true, true, true, false, true, false, true, false, true, false, false, false, false, false, false, false] rfl rfl (any_of HT_.out (by kernel_rfl)) (fun _ _ _ h => h) (Or.inl ⟨by rfl, ?_⟩) ?_ ?_
  rotate_left
  · intro w'
    go_simp
    with_reducible rfl
  rotate_left
  · simp only [Act.put, List.setIfInBounds_toArray, List.set_cons_zero, List.set_cons_succ, i64_w, i32_w]
    rfl
  refine pure_ (i := 10) (N := some 20) (v := ?_) (a' := ?_) #[true, true, true, false, true, false, true, false, true, false, true, false, false, false, false, false] rfl rfl (any_of HT_.out (by kernel_rfl)) (fun _ _ _ h => h) (Or.inl ⟨by rfl, ?_⟩) ?_ ?_
  rotate_left
  · intro w'
    go_simp
    with_reducible rfl
  rotate_left
  · simp only [Act.put, List.setIfInBounds_toArray, List.set_cons_zero, List.set_cons_succ, i64_w, i32_w]
    rfl
  refine pure_ (i := 15) (N := some 25) (v := ?_) (a' := ?_) #[true, true, true, false, true, false, true, false, true, false, true, false, false, false, false, true] rfl rfl (any_of HT_.out (by kernel_rfl)) (fun _ _ _ h => h) (Or.inl ⟨by rfl, ?_⟩) ?_ ?_
  rotate_left
  · intro w'
    go_simp
    with_reducible rfl
  rotate_left
  · simp only [Act.put, List.setIfInBounds_toArray, List.set_cons_zero, List.set_cons_succ, i64_w, i32_w]
    rfl
  refine take_ (i := 3) (N := some 13) (v := ?_) (a' := ?_) #[true, true, true, true, true, false, true, false, true, false, true, false, false, false, false, true] rfl rfl (take_ofW HT_.out HW_.out (by kernel_rfl)) (fun _ _ _ h => h) (Or.inl ⟨by rfl, ?_⟩) hHeld ?_ ?_
  rotate_left
  · rintro w' ⟨s0, s1, s2⟩
    go_simp
    with_reducible rfl
  rotate_left
  · simp only [Act.put, List.setIfInBounds_toArray, List.set_cons_zero, List.set_cons_succ, i64_w, i32_w]
    rfl
  refine take_ (i := 5) (N := some 15) (v := ?_) (a' := ?_) #[true, true, true, true, true, true, true, false, true, false, true, false, false, false, false, true] rfl rfl (take_ofW HT_.out HW_.out (by kernel_rfl)) (fun _ _ _ h => h) (Or.inl ⟨by rfl, ?_⟩) hHeld ?_ ?_
  rotate_left
  · rintro w' ⟨s0, s1, s2⟩
    go_simp
    with_reducible rfl
  rotate_left
  · simp only [Act.put, List.setIfInBounds_toArray, List.set_cons_zero, List.set_cons_succ, i64_w, i32_w]
    rfl
  refine take_ (i := 7) (N := some 17) (v := ?_) (a' := ?_) #[true, true, true, true, true, true, true, true, true, false, true, false, false, false, false, true] rfl rfl (take_ofW HT_.out HW_.out (by kernel_rfl)) (fun _ _ _ h => h) (Or.inl ⟨by rfl, ?_⟩) hHeld ?_ ?_
  rotate_left
  · rintro w' ⟨s0, s1, s2⟩
    go_simp
    with_reducible rfl
  rotate_left
  · simp only [Act.put, List.setIfInBounds_toArray, List.set_cons_zero, List.set_cons_succ, i64_w, i32_w]
    rfl
  refine take_ (i := 9) (N := some 19) (v := ?_) (a' := ?_) #[true, true, true, true, true, true, true, true, true, true, true, false, false, false, false, true] rfl rfl (take_ofW HT_.out HW_.out (by kernel_rfl)) (fun _ _ _ h => h) (Or.inl ⟨by rfl, ?_⟩) hHeld ?_ ?_
  rotate_left
  · rintro w' ⟨s0, s1, s2⟩
    go_simp
    with_reducible rfl
  rotate_left
  · simp only [Act.put, List.setIfInBounds_toArray, List.set_cons_zero, List.set_cons_succ, i64_w, i32_w]
    rfl
  refine take_ (i := 11) (N := some 21) (v := ?_) (a' := ?_) #[true, true, true, true, true, true, true, true, true, true, true, true, false, false, false, true] rfl rfl (take_ofW HT_.out HW_.out (by kernel_rfl)) (fun _ _ _ h => h) (Or.inl ⟨by rfl, ?_⟩) hHeld ?_ ?_
  rotate_left
  · rintro w' ⟨s0, s1, s2⟩
    go_simp
    with_reducible rfl
  rotate_left
  · simp only [Act.put, List.setIfInBounds_toArray, List.set_cons_zero, List.set_cons_succ, i64_w, i32_w]
    rfl
  refine pure_ (i := 12) (N := some 22) (v := ?_) (a' := ?_) #[true, true, true, true, true, true, true, true, true, true, true, true, true, false, false, true] rfl rfl (any_of HT_.out (by kernel_rfl)) (fun _ _ _ h => h) (Or.inl ⟨by rfl, ?_⟩) ?_ ?_
  rotate_left
  · intro w'
    go_simp
    with_reducible rfl
  rotate_left
  · simp only [Act.put, List.setIfInBounds_toArray, List.set_cons_zero, List.set_cons_succ, i64_w, i32_w]
    rfl
  refine one_ (i := 13) (N := some 23) #[true, true, true, true, true, true, true, true, true, true, true, true, true, true, false, true] rfl rfl (one_of HT_.out (by kernel_rfl)) (by decide) (fun K hK => ?_)
  refine goes_ Try.func25 (by kernel_rfl) rfl #[.pointer (some ⟨gt, 0, none⟩), .agg #[.int .i64 p.f0, .int .i64 p.f1, .int .i64 p.f0, .int .i64 p.f1]] (by rfl) rfl rfl (by (try simp only [List.map_toArray, List.map_cons, List.map_nil]); first | done | rfl) ?_
  with_reducible refine (window_p HTR.out HF.out p HB9.out HW9.out _ SB.out.below).mono ?_
  rintro e w23 ⟨v23, ys, rfl, ho, hp, hso, hb⟩
  refine ⟨_, rfl, ?_⟩
  obtain ⟨A23, c23, e23⟩ := Kd.R_slice ho
  subst e23
  have HP := Aside0.mk hp
  have HSO := Aside0.mk hso
  replace S := Aside0.mk (S.out.own ho hb)
  replace SB := Aside0.mk (SB.out.step hb)
  refine hK.out _ _ ⟨pw_cell_below hb hHeld.1, pw_cell_below hb hHeld.2.1, pw_cell_below hb hHeld.2.2⟩ (fun hHeld => ?_)
  clear hK K
  refine norm_ (a' := ?_) ?_ ?_
  rotate_left
  · show Act.put _ (some 23) _ = _
    simp only [Act.put, List.setIfInBounds_toArray, List.set_cons_zero, List.set_cons_succ, i64_w, i32_w]
    rfl
  refine pure_ (i := 14) (N := some 24) (v := ?_) (a' := ?_) #[true, true, true, true, true, true, true, true, true, true, true, true, true, true, true, true] rfl rfl (any_of HT_.out (by kernel_rfl)) (fun _ _ _ h => h) (Or.inl ⟨by rfl, ?_⟩) ?_ ?_
  rotate_left
  · intro w'
    go_simp
    with_reducible rfl
  rotate_left
  · simp only [Act.put, List.setIfInBounds_toArray, List.set_cons_zero, List.set_cons_succ, i64_w, i32_w]
    rfl
  refine done_ (done_of HT_.out (by kernel_rfl)) ?_
  clear kg0 k3_0 k3_1
  obtain ⟨ks0, ks1, ks2⟩ := hHeld
  go_wp2
  have HY : Aside0 (ys.length ≤ 20) := ⟨by
    rw [HP.out.length_eq, List.length_map, HVT.out]
    exact Nat.le_trans (List.length_filter_le _ _) HIL.out⟩
  replace S := Aside0.mk (S.out.nil k23 23)
  go_loopg [5, 25] (ys.length + 1) (fun kq v5 v25 w' => ∃ (i : Nat) (out : List S23), v25 = .int .i64 (i : Int) ∧ Aside0 (kq + i = ys.length + 1) ∧ Aside0 (i ≤ ys.length) ∧ Aside0 (out = (ys.take i).filter (selA l p)) ∧ Aside0 (SepW.Sep w w' [YtjpkkdnilfoafaaW.SepW.Own _ k23 23 v5 out, YtjpkkdnilfoafaaW.SepW.Own _ k23 23 (.slice A23 ys.length c23) ys, Box _ g3 29 #[.int .i64 p.f0, .int .i64 p.f1]]) ∧ Aside0 (SepW.Sep w0 w' []))
  case atStart => exact ⟨0, [], rfl, ⟨Nat.add_zero _⟩, ⟨Nat.zero_le _⟩, ⟨rfl⟩, S, SB⟩
  case round =>
    clear S SB ks0 ks1 ks2
    obtain ⟨i, out, rfl, KQ, IL, OE, S, SB⟩ := hrel
    cases gk with
    | zero => exact absurd KQ.out (by have := IL.out; omega)
    | succ q1 =>
    by_cases hi : i < ys.length
    · have p0 : (0 : Int) ≤ (i : Int) := by omega
      have p1 : (i : Int) < (ys.length : Int) := by omega
      have e1 : decide (i < ys.length) = true := decide_eq_true hi
      have e2 : decide ((i : Int) < (ys.length : Int)) = true := decide_eq_true p1
      obtain ⟨ad, ead⟩ := list_some (S.out.own_C 1 rfl) (by omega)
      subst ead
      obtain ⟨r, hr⟩ : ∃ r, r = ys[i] := ⟨_, rfl⟩
      have hcl := ref_cells (S.out.own_C 1 rfl) i hi hi
      rw [← hr] at hcl
      obtain ⟨r0, r1⟩ := hcl
      have HTK : Aside0 (ys.take (i + 1) = ys.take i ++ [r]) := ⟨by rw [hr]; exact take_next ys i hi⟩
      obtain ⟨j, hj, hjr⟩ : ∃ j, ∃ hj : j < l.length, l[j].f0 = r := by
        have h1 : r ∈ ys := by rw [hr]; exact List.getElem_mem hi
        have h2 := HP.out.mem_iff.1 h1
        rw [HVT.out] at h2
        obtain ⟨x, hx, hx2⟩ := List.mem_map.1 h2
        obtain ⟨a, ha, rfl⟩ := List.mem_map.1 (HG.out.perm.mem_iff.1 (List.mem_filter.1 hx).1)
        obtain ⟨j, hj, rfl⟩ := List.mem_iff_getElem.1 ha
        exact ⟨j, hj, hx2⟩
      obtain ⟨ad', A3, n3, c3, A4, c4, ea, hv, x0, x1, x2, x3, x4, hCr⟩ := HAV.out j hj
      clear x0 x1 x2 x3 x4
      have hlk := getM_mapA vf HG.out.nodup l.length j (Nat.le_refl _) hj hj
      rw [hv, hjr] at hlk
      obtain ⟨a, ha⟩ : ∃ a, a = l[j] := ⟨_, rfl⟩
      have hal := HFW.out.2 l[j] (List.getElem_mem hj)
      have hsel := selA_at HG.out.nodup p (List.getElem_mem hj)
      rw [hjr] at hsel
      rw [← ha] at hlk hCr hal hsel
      have HLK := Aside0.mk hlk
      have HCR := Aside0.mk hCr
      have HSEL := Aside0.mk hsel
      have HAL : Aside0 (a.f3.length ≤ 1000000 ∧ ∀ r ∈ a.f3, r.length ≤ 1000000) := ⟨by omega, fun r hr => by have := hal.2 r hr; omega⟩
      have HI := Aside0.mk hi
      have HOL : Aside0 (out.length ≤ 20) := ⟨by
        rw [OE.out]
        refine Nat.le_trans (List.length_filter_le _ _) ?_
        rw [List.length_take]
        have := HY.out
        omega⟩
      have i1 : Aside0 (wrap64 ((i : Int) + 1) = ((i + 1 : Nat) : Int)) := ⟨wnext i (by have := HY.out; omega)⟩
      subst ea
      clear hlk hCr hsel hal hr hv hi ha hjr hj
      go_upto_region 7 with fail
      clear r0 r1
      have S1 := Aside0.mk (S.out.alloc #[.int .i64 r.f0, .int .i64 r.f1] 23)
      have SB1 := Aside0.mk (SB.out.step (below_alloc (Below.refl _ _) _) (w1 := wr.alloc (.cells #[.int .i64 r.f0, .int .i64 r.f1] 23)))
      refine wp_genT2 S1 SB1 (fun W3 S SB => ?_)
      clear S1 SB1
      generalize wr.heap.size = g7 at S ⊢
      have kg1 := pw_cell_below SB.out.below (show w0.cell? ⟨g, 1, none⟩ = some (.map (some gm)) from HIX.out.2.1)
      have k7_0 := blk_cell (S.out.at_box 0 rfl) 0
      have k7_1 := blk_cell (S.out.at_box 0 rfl) 1
      have k3_0 := blk_cell (S.out.at_box 3 rfl) 0
      have k3_1 := blk_cell (S.out.at_box 3 rfl) 1
      simp only [List.getElem?_toArray, List.getElem?_cons_zero, List.getElem?_cons_succ] at k7_0 k7_1 k3_0 k3_1
      refine start_ (n := 9) (S := fun w' => w'.cell? ⟨g, 1, none⟩ = some (.map (some gm)) ∧ w'.cell? ⟨g7, 0, none⟩ = some (.int .i64 r.f0) ∧ w'.cell? ⟨g7, 1, none⟩ = some (.int .i64 r.f1) ∧ w'.cell? ⟨g3, 0, none⟩ = some (.int .i64 p.f0) ∧ w'.cell? ⟨g3, 1, none⟩ = some (.int .i64 p.f1)) (ds := []) #[false, false, false, false, false, false, false, false, false] (by kernel_rfl) rfl rfl ⟨kg1, k7_0, k7_1, k3_0, k3_1⟩ (fun hHeld => ?_); refine with_tabW at7_tab at7_bits (fun HT_ HW_ => ?_)
      have HBW := Aside0.mk (below_drew (Below.refl W3.heap.size W3))
      generalize W3.drew = W9 at HBW hHeld ⊢
      replace S := Aside0.mk (S.out.step HBW.out)
      replace SB := Aside0.mk (SB.out.step HBW.out)
      refine pure_ (i := 0) (N := some 29) (v := ?_) (a' := ?_) #[true, false, false, false, false, false, false, false, false] rfl rfl (any_of HT_.out (by kernel_rfl)) (fun _ _ _ h => h) (Or.inl ⟨by rfl, ?_⟩) ?_ ?_
      rotate_left
      · intro w'
        go_simp
        with_reducible rfl
      rotate_left
      · simp only [Act.put, List.setIfInBounds_toArray, List.set_cons_zero, List.set_cons_succ, i64_w, i32_w]
        rfl
      refine pure_ (i := 1) (N := some 30) (v := ?_) (a' := ?_) #[true, true, false, false, false, false, false, false, false] rfl rfl (any_of HT_.out (by kernel_rfl)) (fun _ _ _ h => h) (Or.inl ⟨by rfl, ?_⟩) ?_ ?_
      rotate_left
      · intro w'
        go_simp
        with_reducible rfl
      rotate_left
      · simp only [Act.put, List.setIfInBounds_toArray, List.set_cons_zero, List.set_cons_succ, i64_w, i32_w]
        rfl
      refine pure_ (i := 2) (N := some 31) (v := ?_) (a' := ?_) #[true, true, true, false, false, false, false, false, false] rfl rfl (any_of HT_.out (by kernel_rfl)) (fun _ _ _ h => h) (Or.inl ⟨by rfl, ?_⟩) ?_ ?_
      rotate_left
      · intro w'
        go_simp
        with_reducible rfl
      rotate_left
      · simp only [Act.put, List.setIfInBounds_toArray, List.set_cons_zero, List.set_cons_succ, i64_w, i32_w]
        rfl
      refine take_ (i := 3) (N := some 32) (v := ?_) (a' := ?_) #[true, true, true, true, false, false, false, false, false] rfl rfl (take_ofW HT_.out HW_.out (by kernel_rfl)) (fun _ _ _ h => h) (Or.inl ⟨by rfl, ?_⟩) hHeld ?_ ?_
      rotate_left
      · rintro w' ⟨s0, s1, s2, s3, s4⟩
        go_simp
        with_reducible rfl
      rotate_left
      · simp only [Act.put, List.setIfInBounds_toArray, List.set_cons_zero, List.set_cons_succ, i64_w, i32_w]
        rfl
      refine take_ (i := 4) (N := some 33) (v := ?_) (a' := ?_) #[true, true, true, true, true, false, false, false, false] rfl rfl (take_ofW HT_.out HW_.out (by kernel_rfl)) (fun _ _ _ h => h) (Or.inl ⟨by rfl, ?_⟩) hHeld ?_ ?_
      rotate_left
      · rintro w' ⟨s0, s1, s2, s3, s4⟩
        go_simp
        with_reducible rfl
      rotate_left
      · simp only [Act.put, List.setIfInBounds_toArray, List.set_cons_zero, List.set_cons_succ, i64_w, i32_w]
        rfl
      refine take_ (i := 6) (N := some 35) (v := ?_) (a' := ?_) #[true, true, true, true, true, false, true, false, false] rfl rfl (take_ofW HT_.out HW_.out (by kernel_rfl)) (fun _ _ _ h => h) (Or.inl ⟨by rfl, ?_⟩) hHeld ?_ ?_
      rotate_left
      · rintro w' ⟨s0, s1, s2, s3, s4⟩
        go_simp
        with_reducible rfl
      rotate_left
      · simp only [Act.put, List.setIfInBounds_toArray, List.set_cons_zero, List.set_cons_succ, i64_w, i32_w]
        rfl
      refine one_ (i := 5) (N := some 34) #[true, true, true, true, true, true, true, false, false] rfl rfl (one_of HT_.out (by kernel_rfl)) (by decide) (fun K hK => ?_)
      have hrun := get_run (IndexAt.below HIX.out SB.out.below).2.2.1 r (.agg #[.int .i64 r.f0, .int .i64 r.f1, .int .i64 a.f1, .slice A3 n3 c3, .slice A4 a.f3.length c4]) HLK.out
      unfold kV at hrun
      go_simp
      refine hK.out _ _ hHeld (fun hHeld => ?_)
      clear hK K
      refine one_ (i := 7) (N := some 36) #[true, true, true, true, true, true, true, true, false] rfl rfl (one_of HT_.out (by kernel_rfl)) (by decide) (fun K hK => ?_)
      refine goes_ Try.func10 (by kernel_rfl) rfl #[.agg #[.int .i64 r.f0, .int .i64 r.f1, .int .i64 a.f1, .slice A3 n3 c3, .slice A4 a.f3.length c4], .agg #[.int .i64 p.f0, .int .i64 p.f1]] (by rfl) rfl rfl (by (try simp only [List.map_toArray, List.map_cons, List.map_nil]); first | done | rfl) ?_
      with_reducible refine (locWhere_ct _ _ _ A3 n3 c3 A4 c4 a.f3 p _ (Kd.C_below HCR.out SB.out.below) HAL.out.1 HAL.out.2).mono ?_
      rintro e w36 ⟨rfl, hb⟩
      refine ⟨_, rfl, ?_⟩
      replace S := Aside0.mk (S.out.step hb)
      replace SB := Aside0.mk (SB.out.step hb)
      refine hK.out _ _ ⟨pw_cell_below hb hHeld.1, pw_cell_below hb hHeld.2.1, pw_cell_below hb hHeld.2.2.1, pw_cell_below hb hHeld.2.2.2.1, pw_cell_below hb hHeld.2.2.2.2⟩ (fun hHeld => ?_)
      clear hK K
      refine norm_ (a' := ?_) ?_ ?_
      rotate_left
      · show Act.put _ (some 36) _ = _
        simp only [Act.put, List.setIfInBounds_toArray, List.set_cons_zero, List.set_cons_succ, i64_w, i32_w]
        rfl
      refine pure_ (i := 8) (N := some 37) (v := ?_) (a' := ?_) #[true, true, true, true, true, true, true, true, true] rfl rfl (any_of HT_.out (by kernel_rfl)) (fun _ _ _ h => h) (Or.inl ⟨by rfl, ?_⟩) ?_ ?_
      rotate_left
      · intro w'
        go_simp
        with_reducible rfl
      rotate_left
      · simp only [Act.put, List.setIfInBounds_toArray, List.set_cons_zero, List.set_cons_succ, i64_w, i32_w]
        rfl
      refine done_ (done_of HT_.out (by kernel_rfl)) ?_
      clear kg1 k7_0 k7_1 k3_0 k3_1
      obtain ⟨ks0, ks1, ks2, ks3, ks4⟩ := hHeld
      clear ks0 ks1 ks2 ks3 ks4
      have k7_0 := blk_cell (S.out.at_box 0 rfl) 0
      have k7_1 := blk_cell (S.out.at_box 0 rfl) 1
      simp only [List.getElem?_toArray, List.getElem?_cons_zero, List.getElem?_cons_succ] at k7_0 k7_1
      cases hq : (locW a.f3 p == 0) with
      | true =>
        have hq2 : (locW a.f3 p != 0) = false := by show (!(locW a.f3 p == 0)) = false; rw [hq]; rfl
        have HQ := Aside0.mk hq
        clear hq
        go_wp2
        go_roundg q1
        case measure => omega
        case rel => exact ⟨i + 1, out, by first | rw [i1.out] | rfl, ⟨by have := KQ.out; omega⟩, ⟨HI.out⟩, ⟨by rw [HTK.out, List.filter_append, ← OE.out, List.filter_cons, HSEL.out, HQ.out]; simp⟩, ⟨S.out.drop 0⟩, SB⟩
      | false =>
        have hq2 : (locW a.f3 p != 0) = true := by show (!(locW a.f3 p == 0)) = true; rw [hq]; rfl
        have HQ := Aside0.mk hq
        clear hq
        go_wp2_with (first | ((with_reducible refine gate_builtin (b := .append) (xs := #[.tmp 38, .tmp 40]) rfl ?_); at_builtin; obtain ⟨ok, hR, hnew, hup⟩ := S.out.append 1 rfl; refine Kd.R_append k23 (w0 := w) w.heap.size rfl (.tmp 38) (.tmp 40) 43 23 (.agg #[.int .i64 0, .int .i64 0]) 16 rfl Try.underlying43 info23 rfl (by decide) (by omega) u5 out r [.int .i64 r.f0, .int .i64 r.f1] ok (fun _ => False) rfl rfl (k23_mkM _ _ _ r) (fun _ h => h.elim) hnew hR S.out.below S.out.size (by have := HOL.out; omega) ?_; intro v41 w41 ho hb hg hat; replace S := Aside0.mk (hup _ w41 _ ho hb hg); clear hup hR hnew ho hb hg hat) | fail)
        replace SB := Aside0.mk (show SepW.Sep w0 w41 [] from ⟨below_step HBW0.out S.out.below, trivial⟩)
        go_roundg q1
        case measure => omega
        case rel => exact ⟨i + 1, out ++ [r], by first | rw [i1.out] | rfl, ⟨by have := KQ.out; omega⟩, ⟨HI.out⟩, ⟨by rw [HTK.out, List.filter_append, ← OE.out, List.filter_cons, HSEL.out, HQ.out]; simp⟩, ⟨S.out.drop 0⟩, SB⟩
    · obtain rfl : i = ys.length := by have := IL.out; omega
      have e1 : decide (ys.length < ys.length) = false := decide_eq_false (by omega)
      have hoe := OE.out
      rw [List.take_length] at hoe
      have HOE := Aside0.mk hoe
      clear hi KQ IL OE hoe
      go_wp2
      go_ret
      refine ⟨_, ys, rfl, ?_, ?_, HSO.out, S.out.below⟩
      · rw [← HOE.out]
        exact S.out.at_own 0 rfl
      · have := HP.out
        rw [HVT.out] at this
        exact this
end Go.Proofs.Ytjpkkdnilfoafaa.Hand
end
section
namespace Go.Proofs.Ytjpkkdnilfoafaa.Hand
open Go.Proofs.YtjpkkdnilfoafaaW Go.RowKit Go.Proofs.YtjpkkdnilfoafaaW.PrintWords Go.Proofs.YtjpkkdnilfoafaaW.PrintLast Go.Proofs.YtjpkkdnilfoafaaW.PrintMore Go.Proofs.YtjpkkdnilfoafaaW.SepW Go.Proofs.Ytjpkkdnilfoafaa.PALL Go.Proofs.Ytjpkkdnilfoafaa.Plain
set_option linter.unusedVariables false
set_option linter.unusedSimpArgs false
def enc29 (x : S29) : List Value := [.int .i64 x.f0, .int .i64 x.f1]
theorem flat2 : ∀ (l : List S29) (i : Nat) (x : S29) (j : Nat) (v : Value), l[i]? = some x → (enc29 x)[j]? = some v → (l.flatMap enc29)[i * 2 + j]? = some v
  | [], i, x, j, v, h, _ => by simp at h
  | y :: t, 0, x, j, v, h, hv => by
    obtain rfl : y = x := by simpa using h
    have hj : j < (enc29 y).length := (List.getElem?_eq_some_iff.1 hv).1
    rw [List.flatMap_cons, Nat.zero_mul, Nat.zero_add, List.getElem?_append_left hj]
    exact hv
  | y :: t, i + 1, x, j, v, h, hv => by
    rw [List.flatMap_cons, List.getElem?_append_right (by show 2 ≤ _; omega)]
    rw [show (i + 1) * 2 + j - (enc29 y).length = i * 2 + j by show (i + 1) * 2 + j - 2 = _; omega]
    exact flat2 t i x j v (by simpa using h) hv
theorem box29 {w : World} {g t : Nat} {l : List S29} (h : w.heap[g]? = some (.cells (l.flatMap enc29).toArray t (0, 0))) (hl : l.length ≤ 1000000) : k29.C w (some ⟨g, 0, none⟩) l.length l :=
  ⟨rfl, by omega, fun _ => ⟨_, rfl, fun j p hp => ⟨enc29 p, rfl, k29_mk w p, fun i u hu => by
    show w.cell? ((⟨g, 0, none⟩ : Addr).add (j * 2 + i)) = some u
    rw [add_plain, blk_cell h (j * 2 + i)]
    have := flat2 l j p i u hp hu
    simpa using this⟩⟩⟩
/-- The example. -/
def exR1 : List S29 := [⟨0, 0⟩, ⟨9, 0⟩, ⟨9, 9⟩, ⟨0, 9⟩]
def exR2 : List S29 := [⟨2, 2⟩, ⟨2, 6⟩, ⟨6, 6⟩, ⟨6, 2⟩]
def exR : List (List S29) := [exR1, exR2]
def exA : S27 := ⟨⟨2, 3⟩, 0, [], exR⟩
theorem box_exR {w : World} {g g1 g2 t : Nat} (h : w.heap[g]? = some (.cells #[.slice (some ⟨g1, 0, none⟩) 4 4, .slice (some ⟨g2, 0, none⟩) 4 4] t (0, 0))) (h1 : k29.C w (some ⟨g1, 0, none⟩) 4 exR1) (h2 : k29.C w (some ⟨g2, 0, none⟩) 4 exR2) : Kd.C (Kd.slice 29 k29) w (some ⟨g, 0, none⟩) 2 exR := by
  refine ⟨rfl, by decide, fun _ => ⟨_, rfl, fun j p hp => ?_⟩⟩
  have hj := (List.getElem?_eq_some_iff.1 hp).1
  obtain rfl | rfl : j = 0 ∨ j = 1 := by simp only [exR, List.length_cons, List.length_nil] at hj; omega
  · obtain rfl : exR1 = p := by simpa [exR] using hp
    refine ⟨[.slice (some ⟨g1, 0, none⟩) 4 4], rfl, ⟨some ⟨g1, 0, none⟩, 4, rfl, Nat.le_refl _, h1⟩, fun i u hu => ?_⟩
    obtain rfl : i = 0 := by have := (List.getElem?_eq_some_iff.1 hu).1; simp at this; omega
    obtain rfl : Value.slice (some ⟨g1, 0, none⟩) 4 4 = u := by simpa using hu
    have := blk_cell h 0
    simpa [Kd.slice, add_plain] using this
  · obtain rfl : exR2 = p := by simpa [exR] using hp
    refine ⟨[.slice (some ⟨g2, 0, none⟩) 4 4], rfl, ⟨some ⟨g2, 0, none⟩, 4, rfl, Nat.le_refl _, h2⟩, fun i u hu => ?_⟩
    obtain rfl : i = 0 := by have := (List.getElem?_eq_some_iff.1 hu).1; simp at this; omega
    obtain rfl : Value.slice (some ⟨g2, 0, none⟩) 4 4 = u := by simpa using hu
    have := blk_cell h 1
    simpa [Kd.slice, add_plain] using this
def exV (g3 : Nat) : Value := .agg #[.int .i64 2, .int .i64 3, .int .i64 0, .slice none 0 0, .slice (some ⟨g3, 0, none⟩) 2 2]
theorem av_ex {w : World} {g g3 : Nat} {t : Nat} (h : w.heap[g]? = some (.cells #[.int .i64 2, .int .i64 3, .int .i64 0, .slice none 0 0, .slice (some ⟨g3, 0, none⟩) 2 2] t (0, 0))) (hC : Kd.C (Kd.slice 29 k29) w (some ⟨g3, 0, none⟩) 2 exR) : AV w (some ⟨g, 0, none⟩) [exA] (fun _ => exV g3) := by
  intro i hi
  obtain rfl : i = 0 := by simp only [List.length_cons, List.length_nil] at hi; omega
  have c0 := blk_cell h 0
  have c1 := blk_cell h 1
  have c2 := blk_cell h 2
  have c3 := blk_cell h 3
  have c4 := blk_cell h 4
  simp only [List.getElem?_toArray, List.getElem?_cons_zero, List.getElem?_cons_succ] at c0 c1 c2 c3 c4
  exact ⟨⟨g, 0, none⟩, none, 0, 0, some ⟨g3, 0, none⟩, 2, rfl, rfl, c0, c1, c2, c3, c4, hC⟩
theorem ex_short : shortA exA = false := by decide
theorem ex_new {w w' : World} {e : Ending} {vf : Nat → Value} (h : NewL [exA] vf 4 w e w') : ∃ g gt gm, e = .returned (.tuple #[.pointer (some ⟨g, 0, none⟩), .int .i64 0]) ∧ Good [exA] vf 4 [itemA exA] ∧ IndexAt w' g gt gm 4 [itemA exA] (mapA [exA] vf 1) ∧ Below w.heap.size w w' := by
  obtain ⟨hb, h⟩ := h
  rcases h with ⟨c, he, h⟩ | ⟨hs, h2, h16, hn, g, gt, gm, its, he, hp, hso, hI⟩
  · exfalso
    rcases h with ⟨_, a, ha, h⟩ | ⟨_, h⟩
    · rw [List.mem_singleton.1 ha, ex_short] at h
      cases h
    · rcases h with ⟨_, h⟩ | ⟨_, _, _, h⟩
      · omega
      · exact h (by simp)
  · have e1 : its = [itemA exA] := List.perm_singleton.1 hp
    subst e1
    exact ⟨g, gt, gm, he, ⟨by decide, by decide, by decide, hn, hs, List.Perm.refl _, hso⟩, hI, hb⟩
theorem ex_at {p : S29} {ys : List S23} (h : ys.Perm (([itemA exA].filter (fun x => meetsB x.f1 (pbox p))).map S61.f0)) (hm : meetsB (itemA exA).f1 (pbox p) = true) : ys = [⟨2, 3⟩] := by
  rw [List.filter_cons, if_pos hm] at h
  exact List.perm_singleton.1 h
theorem ex_w1 : locW exR ⟨2, 4⟩ = 1 := by decide
theorem ex_w2 : locW exR ⟨4, 4⟩ = 0 := by decide
theorem ex_w3 : locW exR ⟨1, 4⟩ = 2 := by decide
theorem ex_m1 : meetsB (itemA exA).f1 (pbox ⟨2, 4⟩) = true := by decide
theorem ex_m2 : meetsB (itemA exA).f1 (pbox ⟨4, 4⟩) = true := by decide
theorem ex_s1 : ([⟨2, 3⟩] : List S23).filter (selA [exA] ⟨2, 4⟩) = [⟨2, 3⟩] := rfl
theorem ex_s2 : ([⟨2, 3⟩] : List S23).filter (selA [exA] ⟨4, 4⟩) = [] := rfl
set_option maxHeartbeats 40000000 in
set_option maxRecDepth 100000 in
theorem lives_ct (w : World) : Calls Try.prog 9 #[] w fun e w' => e = .returned (.bool true) ∧ Below w.heap.size w w' := by
  have S := Aside0.mk (SepW.Sep.start w)
  have hu23 := Try.underlying23
  have hu27 := Try.underlying27
  have hu29 := Try.underlying29
  go_enter Try.func9, Try.ntmps9
  go_upto_region 2 with fail
  have S1 := Aside0.mk ((((S.out.alloc #[.int .i64 0, .int .i64 0, .int .i64 9, .int .i64 0, .int .i64 9, .int .i64 9, .int .i64 0, .int .i64 9] 29).alloc' #[.int .i64 2, .int .i64 2, .int .i64 2, .int .i64 6, .int .i64 6, .int .i64 6, .int .i64 6, .int .i64 2] 29 (g := w.heap.size + 1) (by simp)).alloc' #[.slice (some ⟨w.heap.size, 0, none⟩) 4 4, .slice (some ⟨w.heap.size + 1, 0, none⟩) 4 4] 48 (g := w.heap.size + 1 + 1) (by simp)).alloc' #[.int .i64 2, .int .i64 3, .int .i64 0, .slice none 0 0, .slice (some ⟨w.heap.size + 1 + 1, 0, none⟩) 2 2] 27 (g := w.heap.size + 1 + 1 + 1) (by simp))
  refine wp_genS S1 (fun W1 S => ?_)
  clear S1
  generalize w.heap.size + 1 + 1 + 1 = h3 at S ⊢
  generalize w.heap.size + 1 + 1 = h2 at S ⊢
  generalize w.heap.size + 1 = h1 at S ⊢
  have k1_0 := blk_cell (S.out.at_box 0 rfl) 0
  have k1_1 := blk_cell (S.out.at_box 0 rfl) 1
  have k1_2 := blk_cell (S.out.at_box 0 rfl) 2
  have k1_3 := blk_cell (S.out.at_box 0 rfl) 3
  have k1_4 := blk_cell (S.out.at_box 0 rfl) 4
  simp only [List.getElem?_toArray, List.getElem?_cons_zero, List.getElem?_cons_succ] at k1_0 k1_1 k1_2 k1_3 k1_4
  go_upto_region 3 with (first | (go_at_call 12; replace S := Aside0.mk (S.out.alloc #[.int .i64 2, .int .i64 3, .int .i64 0, .slice none 0 0, .slice (some ⟨h2, 0, none⟩) 2 2] 27); have X_ := lnew_ct (some ⟨W1.heap.size, 0, none⟩) 1 [exA] (fun _ => exV h2) 4 _ (av_ex (S.out.at_box 0 rfl) (box_exR (S.out.at_box 2 rfl) (box29 (l := exR1) (S.out.at_box 4 rfl) (by decide)) (box29 (l := exR2) (S.out.at_box 3 rfl) (by decide)))) (by decide); rw [show ([exA] : List S27).length = 1 from rfl] at X_; (with_reducible refine X_.mono ?_); clear X_; rintro e_ w21 hN_; obtain ⟨g, gt, gm, rfl, hG, hI, hb⟩ := ex_new hN_; clear hN_; replace S := Aside0.mk (S.out.step hb); clear hb; have HG := Aside0.mk hG; have HIX := Aside0.mk hI; clear hG hI; have SB := Aside0.mk (SepW.Sep.start w21)) | fail)
  clear k1_0 k1_1 k1_2 k1_3 k1_4
  have HAV2 : Aside0 (AV w21 (some ⟨W1.heap.size, 0, none⟩) [exA] (fun _ => exV h2)) := ⟨av_ex (S.out.at_box 0 rfl) (box_exR (S.out.at_box 2 rfl) (box29 (l := exR1) (S.out.at_box 4 rfl) (by decide)) (box29 (l := exR2) (S.out.at_box 3 rfl) (by decide)))⟩
  have HCR2 : Aside0 (∀ W, Below w21.heap.size w21 W → Kd.C (Kd.slice 29 k29) W (some ⟨h2, 0, none⟩) 2 exR) := ⟨fun W hb => Kd.C_below (box_exR (S.out.at_box 2 rfl) (box29 (l := exR1) (S.out.at_box 4 rfl) (by decide)) (box29 (l := exR2) (S.out.at_box 3 rfl) (by decide))) hb⟩
  go_upto_region 6 with (first | (go_at_call 14; (with_reducible refine (ilen_ct HIX.out _ SB.out.below).mono ?_); rintro e_ w_ ⟨rfl, hw_⟩; subst hw_) | (go_at_call 16; have X_ := at_ct HG.out (by decide) HIX.out HAV2.out ⟨2, 4⟩ _ SB.out.below; dsimp only at X_; (with_reducible refine X_.mono ?_); clear X_; rintro e_ w37 ⟨v37, ys, rfl, ho, hp, _, hb⟩; obtain rfl := ex_at (ys := ys) hp ex_m1; rw [ex_s1] at ho; obtain ⟨A37, c37, e37⟩ := Kd.R_slice ho; subst e37; replace S := Aside0.mk (S.out.own ho hb); replace SB := Aside0.mk (SB.out.step hb); clear ho hb hp) | fail)
  obtain ⟨ad, ead⟩ := list_some (S.out.own_C 0 rfl) (Nat.lt_succ_self 0)
  subst ead
  have hcl := ref_cells (S.out.own_C 0 rfl) 0 (Nat.lt_succ_self 0) (Nat.lt_succ_self 0)
  have r1 : w37.cell? ⟨ad.block, ad.off + 1, none⟩ = some (.int .i64 3) := hcl.2
  clear hcl
  have k1_0 := blk_cell (S.out.at_box 2 rfl) 0
  have k1_1 := blk_cell (S.out.at_box 2 rfl) 1
  have k1_2 := blk_cell (S.out.at_box 2 rfl) 2
  have k1_3 := blk_cell (S.out.at_box 2 rfl) 3
  have k1_4 := blk_cell (S.out.at_box 2 rfl) 4
  simp only [List.getElem?_toArray, List.getElem?_cons_zero, List.getElem?_cons_succ] at k1_0 k1_1 k1_2 k1_3 k1_4
  go_wp2_with (first | (go_at_call 16; have X_ := at_ct HG.out (by decide) HIX.out HAV2.out ⟨4, 4⟩ _ SB.out.below; dsimp only at X_; (with_reducible refine X_.mono ?_); clear X_; rintro e_ w51 ⟨v51, ys, rfl, ho, hp, _, hb⟩; obtain rfl := ex_at (ys := ys) hp ex_m2; rw [ex_s2] at ho; obtain ⟨A51, c51, e51⟩ := Kd.R_slice ho; subst e51; replace S := Aside0.mk (S.out.step hb); replace SB := Aside0.mk (SB.out.step hb); clear ho hb hp r1 k1_0 k1_1 k1_2 k1_3 k1_4; have k1_0 := blk_cell (S.out.at_box 2 rfl) 0; have k1_1 := blk_cell (S.out.at_box 2 rfl) 1; have k1_2 := blk_cell (S.out.at_box 2 rfl) 2; have k1_3 := blk_cell (S.out.at_box 2 rfl) 3; have k1_4 := blk_cell (S.out.at_box 2 rfl) 4; simp only [List.getElem?_toArray, List.getElem?_cons_zero, List.getElem?_cons_succ] at k1_0 k1_1 k1_2 k1_3 k1_4) | (go_at_call 10; have X_ := locWhere_ct 2 3 0 none 0 0 (some ⟨h2, 0, none⟩) 2 exR ⟨4, 4⟩ _ (HCR2.out _ SB.out.below) (by decide) (by decide); rw [ex_w2] at X_; rw [show exR.length = 2 from rfl] at X_; dsimp only at X_; (with_reducible refine X_.mono ?_); clear X_; rintro e_ w_ ⟨rfl, hb⟩; replace S := Aside0.mk (S.out.step hb); replace SB := Aside0.mk (SB.out.step hb); clear hb k1_0 k1_1 k1_2 k1_3 k1_4; have k1_0 := blk_cell (S.out.at_box 2 rfl) 0; have k1_1 := blk_cell (S.out.at_box 2 rfl) 1; have k1_2 := blk_cell (S.out.at_box 2 rfl) 2; have k1_3 := blk_cell (S.out.at_box 2 rfl) 3; have k1_4 := blk_cell (S.out.at_box 2 rfl) 4; simp only [List.getElem?_toArray, List.getElem?_cons_zero, List.getElem?_cons_succ] at k1_0 k1_1 k1_2 k1_3 k1_4) | (go_at_call 10; have X_ := locWhere_ct 2 3 0 none 0 0 (some ⟨h2, 0, none⟩) 2 exR ⟨1, 4⟩ _ (HCR2.out _ SB.out.below) (by decide) (by decide); rw [ex_w3] at X_; rw [show exR.length = 2 from rfl] at X_; dsimp only at X_; (with_reducible refine X_.mono ?_); clear X_; rintro e_ w_ ⟨rfl, hb⟩; replace S := Aside0.mk (S.out.step hb); replace SB := Aside0.mk (SB.out.step hb); clear hb k1_0 k1_1 k1_2 k1_3 k1_4; have k1_0 := blk_cell (S.out.at_box 2 rfl) 0; have k1_1 := blk_cell (S.out.at_box 2 rfl) 1; have k1_2 := blk_cell (S.out.at_box 2 rfl) 2; have k1_3 := blk_cell (S.out.at_box 2 rfl) 3; have k1_4 := blk_cell (S.out.at_box 2 rfl) 4; simp only [List.getElem?_toArray, List.getElem?_cons_zero, List.getElem?_cons_succ] at k1_0 k1_1 k1_2 k1_3 k1_4) | (go_at_call 10; have X_ := locWhere_ct 2 3 0 none 0 0 (some ⟨h2, 0, none⟩) 2 exR ⟨2, 4⟩ _ (HCR2.out _ SB.out.below) (by decide) (by decide); rw [ex_w1] at X_; rw [show exR.length = 2 from rfl] at X_; dsimp only at X_; (with_reducible refine X_.mono ?_); clear X_; rintro e_ w_ ⟨rfl, hb⟩; replace S := Aside0.mk (S.out.step hb); replace SB := Aside0.mk (SB.out.step hb); clear hb k1_0 k1_1 k1_2 k1_3 k1_4; have k1_0 := blk_cell (S.out.at_box 2 rfl) 0; have k1_1 := blk_cell (S.out.at_box 2 rfl) 1; have k1_2 := blk_cell (S.out.at_box 2 rfl) 2; have k1_3 := blk_cell (S.out.at_box 2 rfl) 3; have k1_4 := blk_cell (S.out.at_box 2 rfl) 4; simp only [List.getElem?_toArray, List.getElem?_cons_zero, List.getElem?_cons_succ] at k1_0 k1_1 k1_2 k1_3 k1_4) | fail)
  go_ret
  exact ⟨rfl, S.out.below⟩
end Go.Proofs.Ytjpkkdnilfoafaa.Hand
end
section
namespace Go.Proofs.Ytjpkkdnilfoafaa.Plain
open Go.RowKit Go.Proofs.YtjpkkdnilfoafaaW.PrintWords Go.Proofs.YtjpkkdnilfoafaaW.PrintLast Go.Proofs.YtjpkkdnilfoafaaW.PrintMore Go.Proofs.Ytjpkkdnilfoafaa.PALL Go.Proofs.Ytjpkkdnilfoafaa.Hand
set_option linter.unusedVariables false
set_option linter.unusedSimpArgs false
def shortR (R : List (List S29)) : Bool := R.any (fun r => decide (r.length < 3) || !(r.all gv))
theorem shortA_R (a : S27) : shortA a = (shortR a.f3 || decide (a.f3.length = 0)) := by
  obtain ⟨R, hR⟩ : ∃ R, R = a.f3 := ⟨_, rfl⟩
  unfold shortA shortR
  rw [← hR]
  clear hR
  cases R with
  | nil => rfl
  | cons r t =>
    have e0 : decide ((r :: t).length = 0) = false := rfl
    rw [e0, Bool.or_false]
    by_cases h3 : r.length < 3
    · rw [List.any_cons, List.any_cons, decide_eq_true h3]
      simp
    · have e1 : decide ((r :: t).flatten.length = 0) = false := decide_eq_false (by rw [List.flatten_cons, List.length_append]; omega)
      rw [e1, Bool.or_false]
      have key : ∀ (L : List (List S29)), (L.any (fun r => decide (r.length < 3)) || !(L.flatten.all gv)) = L.any (fun r => decide (r.length < 3) || !(r.all gv)) := by
        intro L
        induction L with
        | nil => rfl
        | cons x y ih =>
          rw [List.any_cons, List.any_cons, ← ih, List.flatten_cons, List.all_append]
          cases decide (x.length < 3) <;> cases x.all gv <;> cases y.any (fun r => decide (r.length < 3)) <;> cases y.flatten.all gv <;> rfl
      exact key _
theorem rshort_l0 (a b c : Int) (T : List S159) (R : List (List S29)) (hl : R.length ≤ 1000000) (hll : ∀ r ∈ R, r.length ≤ 1000000) : ∀ (d i : Nat), i + d = R.length → Ev (fun k => mapmakerref36_short.l0 k (i : Int) a b c T R) (shortR (R.drop i) || decide (R.length = 0)) := by
  intro d
  induction d with
  | zero =>
    intro i hi
    rw [show R.drop i = [] from List.drop_eq_nil_of_le (by omega)]
    refine Ev.step (f := fun _ => some (decide (R.length = 0))) (fun k => ?_) (Ev.now _)
    rw [mapmakerref36_short.l0, if_neg (by omega)]
    congr 1
    by_cases h : R.length = 0
    · rw [h]; rfl
    · rw [decide_eq_false h, beq_eq_false_iff_ne]; omega
  | succ d ih =>
    intro i hi
    have h1 : i < R.length := by omega
    have hn : wrap64 ((i : Int) + 1) = ((i + 1 : Nat) : Int) := wnext i (by omega)
    have e0 : decide (R.length = 0) = false := decide_eq_false (by omega)
    have ih' := ih (i + 1) (by omega)
    rw [e0, Bool.or_false] at ih' ⊢
    rw [List.drop_eq_getElem_cons h1, shortR, List.any_cons]
    by_cases h3 : R[i].length < 3
    · rw [decide_eq_true h3, Bool.true_or, Bool.true_or]
      exact Ev.step (f := fun _ => some true) (fun k => by rw [mapmakerref36_short.l0, if_pos (by omega), if_pos (by omega), rd_L2_at R i h1, if_pos (by omega)]) (Ev.now _)
    · rw [decide_eq_false h3, Bool.false_or]
      refine Ev.step (f := fun k => (mapmakerref08_All.f k R[i]).bind fun t194 => (if t194 = true then (mapmakerref36_short.l0 k (wrap64 ((i : Int) + 1)) a b c T R) else (some true))) (fun k => by rw [mapmakerref36_short.l0, if_pos (by omega), if_pos (by omega), rd_L2_at R i h1, if_neg (by omega)]) ?_
      refine Ev.bind (all_ev R[i] (hll _ (List.getElem_mem h1))) ?_
      cases R[i].all gv with
      | true => exact Ev.congr (fun k => by rw [if_pos rfl, hn]) ih'
      | false => exact Ev.congr (fun k => by rw [if_neg (by decide)]; rfl) (Ev.now _)
theorem rshort_ev (a : S27) (hl : a.f3.length ≤ 1000000) (hll : ∀ r ∈ a.f3, r.length ≤ 1000000) : Ev (fun k => mapmakerref36_short.f k a.f0.f0 a.f0.f1 a.f1 a.f2 a.f3) (shortA a) := by
  rw [shortA_R]
  exact rshort_l0 _ _ _ _ a.f3 hl hll a.f3.length 0 (by omega)
theorem rnew_l1 (l : List S27) (hl : l.length ≤ 10000) (r : Int) (hd : ¬ (l.map S27.f0).Nodup → r = 7) (hn : (l.map S27.f0).Nodup → r = 0) : ∀ (d i : Nat), i + d = l.length → ((l.take i).map S27.f0).Nodup → Ev (fun k => mapmakerref36_New.l1 k l (i : Int)) r := by
  intro d
  induction d with
  | zero =>
    intro i hi hv
    obtain rfl : i = l.length := by omega
    rw [List.take_length] at hv
    rw [hn hv]
    refine Ev.step (f := fun _ => some 0) (fun k => ?_) (Ev.now _)
    rw [mapmakerref36_New.l1, if_neg (by omega)]
  | succ d ih =>
    intro i hi hv
    have hi1 : i < l.length := by omega
    have hx := rd27 l i hi1
    have key : ∀ (e j : Nat), j + e = i → (∀ y ∈ l.take j, y.f0 ≠ l[i].f0) → Ev (fun k => mapmakerref36_New.l2 k l (i : Int) (j : Int)) r := by
      intro e
      induction e with
      | zero =>
        intro j hj hne
        obtain rfl : j = i := by omega
        refine Ev.step (fun k => ?_) (ih (j + 1) (by omega) ?_)
        · rw [mapmakerref36_New.l2, if_neg (by omega), wnext j (by omega)]
        · rw [take_next l j hi1, List.map_append, List.nodup_append]
          refine ⟨hv, by simp, ?_⟩
          intro a ha b hb
          obtain ⟨y, hy, rfl⟩ := List.mem_map.1 ha
          simp only [List.map_cons, List.map_nil, List.mem_singleton] at hb
          rw [hb]
          exact hne y hy
      | succ e ihe =>
        intro j hj hne
        have hj1 : j < l.length := by omega
        have hy := rd27 l j hj1
        by_cases hc : l[j].f0 = l[i].f0
        · have hnd : ¬ (l.map S27.f0).Nodup := by
            intro hnn
            have := List.pairwise_iff_getElem.1 hnn j i (by simp; omega) (by simp; omega) (by omega)
            rw [List.getElem_map, List.getElem_map] at this
            exact this hc
          rw [hd hnd]
          refine Ev.step (f := fun _ => some 7) (fun k => ?_) (Ev.now _)
          rw [mapmakerref36_New.l2, if_pos (by omega), if_pos (by omega), if_pos (by omega), if_pos (by omega), if_pos (by omega), hx, hy, hc, if_pos (by simp)]
        · refine Ev.step (fun k => ?_) (ihe (j + 1) (by omega) (fun y hy2 => ?_))
          · have hb : ¬ ((l[j].f0.f0 == l[i].f0.f0 && (l[j].f0.f1 == l[i].f0.f1)) = true) := by
              rw [Bool.and_eq_true, beq_iff_eq, beq_iff_eq]
              rintro ⟨e1, e2⟩
              refine hc ?_
              cases hA : l[j].f0; cases hB : l[i].f0
              rw [hA, hB] at e1 e2
              simp only at e1 e2
              rw [e1, e2]
            rw [mapmakerref36_New.l2, if_pos (by omega), if_pos (by omega), if_pos (by omega), if_pos (by omega), if_pos (by omega), hx, hy, if_neg hb, wnext j (by omega)]
          · rw [take_next l j hj1] at hy2
            rcases List.mem_append.1 hy2 with h | h
            · exact hne y h
            · rw [List.mem_singleton.1 h]; exact hc
    refine Ev.step (fun k => ?_) (key i 0 (by omega) (by simp))
    rw [mapmakerref36_New.l1, if_pos (by omega)]
    rfl
theorem rnew_l0 (l : List S27) (fan : Int) (hf : fewA l = true) (r : Int) (hs : (∃ a ∈ l, shortA a = true) → r = 12) (hk : (∀ a ∈ l, shortA a = false) → Ev (fun k => mapmakerref36_New.l0 k l fan (l.length : Int)) r) : ∀ (d i : Nat), i + d = l.length → (∀ a ∈ l.take i, shortA a = false) → Ev (fun k => mapmakerref36_New.l0 k l fan (i : Int)) r := by
  have hfl := few_len hf
  intro d
  induction d with
  | zero =>
    intro i hi hv
    obtain rfl : i = l.length := by omega
    rw [List.take_length] at hv
    exact hk hv
  | succ d ih =>
    intro i hi hv
    have h1 : i < l.length := by omega
    have hx := rd27 l i h1
    have hm := hfl.2 l[i] (List.getElem_mem h1)
    have hn : wrap64 ((i : Int) + 1) = ((i + 1 : Nat) : Int) := wnext i (by omega)
    refine Ev.step (f := fun k => (mapmakerref36_short.f k (l[i].f0.f0) (l[i].f0.f1) (l[i].f1) (l[i].f2) (l[i].f3)).bind fun t196 => (if t196 = true then (some 12) else (mapmakerref36_New.l0 k l fan (wrap64 ((i : Int) + 1))))) (fun k => by rw [mapmakerref36_New.l0, if_pos (by omega), if_pos (by omega), hx]) ?_
    refine Ev.bind (rshort_ev l[i] (by omega) (fun r hr => by have := hm.2 r hr; omega)) ?_
    cases hc : shortA l[i] with
    | true =>
      rw [hs ⟨l[i], List.getElem_mem h1, hc⟩]
      exact Ev.congr (fun k => by rw [if_pos rfl]) (Ev.now _)
    | false =>
      refine Ev.congr (fun k => by rw [if_neg (by decide), hn]) (ih (i + 1) (by omega) (fun a ha => ?_))
      rw [take_next l i h1] at ha
      rcases List.mem_append.1 ha with h | h
      · exact hv a h
      · rw [List.mem_singleton.1 h]; exact hc
/-- The reference's New, case by case. -/
theorem rnew_short (l : List S27) (fan : Int) (hf : fewA l = true) (h : ∃ a ∈ l, shortA a = true) : Ev (fun k => mapmakerref36_New.f k l fan) 12 :=
  rnew_l0 l fan hf 12 (fun _ => rfl) (fun hn => by obtain ⟨a, ha, h2⟩ := h; rw [hn a ha] at h2; cases h2) l.length 0 (by omega) (fun a ha => by simp at ha)
theorem rnew_fan (l : List S27) (fan : Int) (hf : fewA l = true) (h : ∀ a ∈ l, shortA a = false) (h2 : fan < 2 ∨ 16 < fan) : Ev (fun k => mapmakerref36_New.f k l fan) 1 := by
  refine rnew_l0 l fan hf 1 (fun ⟨a, ha, h3⟩ => by rw [h a ha] at h3; cases h3) (fun _ => ?_) l.length 0 (by omega) (fun a ha => by simp at ha)
  by_cases h4 : fan < 2
  · refine Ev.step (fun k => by rw [mapmakerref36_New.l0, if_neg (by omega), if_pos h4]) (Ev.step (g := fun k => mapmakerref36_New.j1 k l true) (f := fun _ => some 1) (fun k => by rw [mapmakerref36_New.j1, if_pos rfl]) (Ev.now _))
  · refine Ev.step (fun k => by rw [mapmakerref36_New.l0, if_neg (by omega), if_neg h4, decide_eq_true (show fan > 16 by omega)]) (Ev.step (g := fun k => mapmakerref36_New.j1 k l true) (f := fun _ => some 1) (fun k => by rw [mapmakerref36_New.j1, if_pos rfl]) (Ev.now _))
theorem rnew_in (l : List S27) (fan : Int) (hf : fewA l = true) (h : ∀ a ∈ l, shortA a = false) (h2 : 2 ≤ fan) (h16 : fan ≤ 16) (r : Int) (hd : ¬ (l.map S27.f0).Nodup → r = 7) (hn : (l.map S27.f0).Nodup → r = 0) : Ev (fun k => mapmakerref36_New.f k l fan) r := by
  have hl := (few_len hf).1
  refine rnew_l0 l fan hf r (fun ⟨a, ha, h3⟩ => by rw [h a ha] at h3; cases h3) (fun _ => ?_) l.length 0 (by omega) (fun a ha => by simp at ha)
  refine Ev.step (fun k => by rw [mapmakerref36_New.l0, if_neg (by omega), if_neg (by omega), decide_eq_false (show ¬ fan > 16 by omega)]) (Ev.step (g := fun k => mapmakerref36_New.j1 k l false) (fun k => ?_) (rnew_l1 l (by omega) r hd hn l.length 0 (by omega) (by simp)))
  rw [mapmakerref36_New.j1, if_neg (by decide), if_neg (by omega)]
  rfl
end Go.Proofs.Ytjpkkdnilfoafaa.Plain
end
section
namespace Go.Proofs.Ytjpkkdnilfoafaa.Hand
open Go.Proofs.YtjpkkdnilfoafaaW Go.RowKit Go.Proofs.YtjpkkdnilfoafaaW.PrintWords Go.Proofs.YtjpkkdnilfoafaaW.PrintLast Go.Proofs.YtjpkkdnilfoafaaW.PrintMore Go.Proofs.YtjpkkdnilfoafaaW.SepW Go.Proofs.Ytjpkkdnilfoafaa.PALL Go.Proofs.Ytjpkkdnilfoafaa.Plain
set_option linter.unusedVariables false
set_option linter.unusedSimpArgs false
theorem few_ct (A : Option Addr) (c : Nat) (l : List S27) (b : Bool) (hb : fewA l = b) (w : World) (hC : k27.C w A l.length l) (hc : l.length ≤ c) :
    Calls Try.prog 8 #[.slice A l.length c] w fun e w' => e = .returned (.bool b) ∧ Below w.heap.size w w' := by
  obtain ⟨k, hk⟩ := (few36_ev l).rounds
  rw [hb] at hk
  exact (mapmakerlaw36_Few.calls k A c l b w hC hc hk).mono (fun _ _ h => ⟨h.1, by first | exact h.2 | exact h.2.below⟩)
theorem rNew_ct (A : Option Addr) (c : Nat) (l : List S27) (fan r : Int) (h : Ev (fun k => mapmakerref36_New.f k l fan) r) (w : World) (hC : k27.C w A l.length l) (hc : l.length ≤ c) :
    Calls Try.prog 13 #[.slice A l.length c, .int .i64 fan] w fun e w' => e = .returned (.int .i64 r) ∧ Below w.heap.size w w' := by
  obtain ⟨k, hk⟩ := h.rounds
  exact (mapmakerref36_New.calls k A c l fan r w hC hc hk).mono (fun _ _ h => ⟨h.1, by first | exact h.2 | exact h.2.below⟩)
end Go.Proofs.Ytjpkkdnilfoafaa.Hand
end
section
namespace Go.Proofs.Ytjpkkdnilfoafaa.Plain
open Go.RowKit Go.Proofs.YtjpkkdnilfoafaaW.PrintWords Go.Proofs.YtjpkkdnilfoafaaW.PrintLast Go.Proofs.YtjpkkdnilfoafaaW.PrintMore Go.Proofs.Ytjpkkdnilfoafaa.PALL Go.Proofs.Ytjpkkdnilfoafaa.Hand
set_option linter.unusedVariables false
set_option linter.unusedSimpArgs false
theorem sameRefs_ev (l : List S23) (hl : l.length ≤ 1000000) : Ev (fun k => mapmakerref14_SameRefs.f k l l) true := by
  have key : ∀ (d i : Nat), i + d = l.length → Ev (fun k => mapmakerref14_SameRefs.l0 k l l (i : Int)) true := by
    intro d
    induction d with
    | zero =>
      intro i hi
      refine Ev.step (f := fun _ => some true) (fun k => ?_) (Ev.now _)
      rw [mapmakerref14_SameRefs.l0, if_neg (by omega)]
    | succ d ih =>
      intro i hi
      refine Ev.step (fun k => ?_) (ih (i + 1) (by omega))
      rw [mapmakerref14_SameRefs.l0, if_pos (by omega), if_pos (by omega), if_pos (by omega), w1 i (by omega), if_neg (by simp)]
  refine Ev.congr (fun k => ?_) (key l.length 0 (by omega))
  rw [mapmakerref14_SameRefs.f, if_pos rfl]
  rfl
end Go.Proofs.Ytjpkkdnilfoafaa.Plain
end
section
namespace Go.Proofs.Ytjpkkdnilfoafaa.Plain
open Go.RowKit Go.Proofs.YtjpkkdnilfoafaaW.PrintWords Go.Proofs.YtjpkkdnilfoafaaW.PrintLast Go.Proofs.YtjpkkdnilfoafaaW.PrintMore Go.Proofs.Ytjpkkdnilfoafaa.PALL Go.Proofs.Ytjpkkdnilfoafaa.Hand
set_option linter.unusedVariables false
set_option linter.unusedSimpArgs false
/-- The reference's At. -/
def onA (p : S29) (a : S27) : Bool := !(locW a.f3 p == 0)
def atR (p : S29) (l : List S27) : List S23 := l.foldl (fun out x => if onA p x = true then wr x.f0 false out else out) []
theorem atR_snoc (p : S29) (l : List S27) (x : S27) : atR p (l ++ [x]) = if onA p x = true then wr x.f0 false (atR p l) else atR p l := by unfold atR; rw [List.foldl_append]; rfl
theorem atR_spec (p : S29) : ∀ (n : Nat) (l : List S27), n ≤ l.length → (l.map S27.f0).Nodup → (atR p (l.take n)).Perm (((l.take n).filter (onA p)).map S27.f0) ∧ (atR p (l.take n)).Pairwise (fun a b => ltR b a = false)
  | 0, l, _, _ => by rw [List.take_zero]; exact ⟨.refl _, .nil⟩
  | n + 1, l, h, hn => by
    obtain ⟨h1, h2⟩ := atR_spec p n l (by omega) hn
    rw [take_next l n (by omega), atR_snoc, List.filter_append, List.map_append]
    by_cases hm : onA p l[n] = true
    · have hx : l[n].f0 ∉ atR p (l.take n) := by
        intro hmem
        obtain ⟨y, hy, hy2⟩ := List.mem_map.1 (h1.mem_iff.1 hmem)
        obtain ⟨j, hj, hj2⟩ := List.mem_iff_getElem.1 (List.mem_filter.1 hy).1
        have hjn : j < n := by simp at hj; omega
        rw [List.getElem_take] at hj2
        have := List.pairwise_iff_getElem.1 hn j n (by simp; omega) (by simp; omega) hjn
        rw [List.getElem_map, List.getElem_map, hj2] at this
        exact this hy2
      obtain ⟨k1, k2⟩ := wr_false _ _ hx h2
      rw [if_pos hm]
      refine ⟨k1.trans ?_, k2⟩
      have e : ([l[n]].filter (onA p)).map S27.f0 = [l[n].f0] := by simp [hm]
      rw [e]
      exact (List.Perm.cons _ h1).trans (List.perm_append_singleton _ _).symm
    · rw [if_neg hm]
      have e : ([l[n]].filter (onA p)).map S27.f0 = [] := by simp [hm]
      rw [e, List.append_nil]
      exact ⟨h1, h2⟩
theorem atR_len (p : S29) (n : Nat) (l : List S27) (h : n ≤ l.length) (hn : (l.map S27.f0).Nodup) : (atR p (l.take n)).length ≤ n := by
  rw [(atR_spec p n l h hn).1.length_eq, List.length_map]
  have := List.length_filter_le (onA p) (l.take n)
  rw [List.length_take] at this
  omega
theorem int_lt_or_ge (a b : Int) : a < b ∨ b ≤ a := by omega
/-- The parity of a closed walk is even. -/
theorem xor_walk (s : Nat → Bool) : ∀ (n i : Nat) (ins : Bool), ((List.range' i n).foldl (fun c j => c != (s j != s (j + 1))) ins) = (ins != (s i != s (i + n)))
  | 0, i, ins => by simp
  | n + 1, i, ins => by
    rw [List.range'_succ, List.foldl_cons, xor_walk s n (i + 1)]
    rw [show i + 1 + n = i + (n + 1) by omega]
    cases ins <;> cases s i <;> cases s (i + 1) <;> cases s (i + (n + 1)) <;> rfl
theorem turn_right {a b p : S29} (h1 : a.f1 ≤ p.f1) (h2 : p.f1 < b.f1) (ha : a.f0 < p.f0) (hb : b.f0 < p.f0) : turn a b p ≤ 0 := by
  have e : turn a b p = (p.f1 - a.f1) * (b.f0 - p.f0) + (b.f1 - p.f1) * (a.f0 - p.f0) := by
    unfold turn
    simp only [Int.sub_mul, Int.mul_sub, Int.mul_comm]
    omega
  have m1 : (p.f1 - a.f1) * (b.f0 - p.f0) ≤ 0 := Int.mul_nonpos_of_nonneg_of_nonpos (by omega) (by omega)
  have m2 : (b.f1 - p.f1) * (a.f0 - p.f0) ≤ 0 := Int.mul_nonpos_of_nonneg_of_nonpos (by omega) (by omega)
  omega
theorem turn_left {a b p : S29} (h1 : a.f1 ≤ p.f1) (h2 : p.f1 < b.f1) (ha : p.f0 < a.f0) (hb : p.f0 < b.f0) : 0 < turn a b p := by
  have e : turn a b p = (p.f1 - a.f1) * (b.f0 - p.f0) + (b.f1 - p.f1) * (a.f0 - p.f0) := by
    unfold turn
    simp only [Int.sub_mul, Int.mul_sub, Int.mul_comm]
    omega
  have m1 : 0 ≤ (p.f1 - a.f1) * (b.f0 - p.f0) := Int.mul_nonneg (by omega) (by omega)
  have m2 : 0 < (b.f1 - p.f1) * (a.f0 - p.f0) := Int.mul_pos (by omega) (by omega)
  omega
/-- A crossing: the heights, and no end of it is left of the point alone. -/
theorem cr_up {a b p : S29} (h : crB a b p = true) : (a.f1 ≤ p.f1 ∧ p.f1 ≤ b.f1 ∨ b.f1 ≤ p.f1 ∧ p.f1 ≤ a.f1) ∧ (p.f0 ≤ a.f0 ∨ p.f0 ≤ b.f0) := by
  unfold crB at h
  split at h
  · rw [decide_eq_true_eq] at h
    refine ⟨.inr ⟨by omega, by omega⟩, ?_⟩
    rcases int_lt_or_ge a.f0 p.f0 with h1 | h1
    · rcases int_lt_or_ge b.f0 p.f0 with h2 | h2
      · have := turn_right (a := b) (b := a) (p := p) h.1 h.2.1 h2 h1
        omega
      · exact .inr h2
    · exact .inl h1
  · rw [decide_eq_true_eq] at h
    refine ⟨.inl ⟨by omega, by omega⟩, ?_⟩
    rcases int_lt_or_ge a.f0 p.f0 with h1 | h1
    · rcases int_lt_or_ge b.f0 p.f0 with h2 | h2
      · have := turn_right (a := a) (b := b) (p := p) h.1 h.2.1 h1 h2
        omega
      · exact .inr h2
    · exact .inl h1
/-- Left of all points every change of side is a crossing. -/
theorem cr_left {a b p : S29} (ha : p.f0 < a.f0) (hb : p.f0 < b.f0) : crB a b p = (decide (a.f1 ≤ p.f1) != decide (b.f1 ≤ p.f1)) := by
  unfold crB
  by_cases h1 : a.f1 ≤ p.f1 <;> by_cases h2 : b.f1 ≤ p.f1
  · rw [decide_eq_true h1, decide_eq_true h2]
    split <;> (rw [decide_eq_false (fun x => by omega)]; rfl)
  · rw [decide_eq_true h1, decide_eq_false h2, if_neg (by omega)]
    exact decide_eq_true ⟨h1, by omega, turn_left h1 (by omega) ha hb⟩
  · rw [decide_eq_false h1, decide_eq_true h2, if_pos (by omega)]
    exact decide_eq_true ⟨h2, by omega, turn_left h2 (by omega) hb ha⟩
  · rw [decide_eq_false h1, decide_eq_false h2]
    split <;> (rw [decide_eq_false (fun x => by omega)]; rfl)
theorem on_in {p a b : S29} (h : onB p a b = true) : (p.f0 ≤ a.f0 ∨ p.f0 ≤ b.f0) ∧ (a.f0 ≤ p.f0 ∨ b.f0 ≤ p.f0) ∧ (p.f1 ≤ a.f1 ∨ p.f1 ≤ b.f1) ∧ (a.f1 ≤ p.f1 ∨ b.f1 ≤ p.f1) := by
  unfold onB at h
  rw [decide_eq_true_eq] at h
  obtain ⟨_, h1, h2, h3, h4⟩ := h
  unfold mn at h1 h3
  unfold mx at h2 h4
  refine ⟨?_, ?_, ?_, ?_⟩
  · split at h2 <;> omega
  · split at h1 <;> omega
  · split at h4 <;> omega
  · split at h3 <;> omega
theorem whS_spec (l : List S29) (p : S29) : ∀ (n i : Nat) (ins : Bool), i + n = l.length →
    ((whS l p n i ins).1 = true ∧ ∃ j, j < l.length ∧ onB p (rd_T29 l (j : Int)) (rd_T29 l (((j + 1) % l.length : Nat) : Int)) = true) ∨
    ((whS l p n i ins).1 = false ∧ (whS l p n i ins).2 = (List.range' i n).foldl (fun (c : Bool) (j : Nat) => c != crB (rd_T29 l (j : Int)) (rd_T29 l (((j + 1) % l.length : Nat) : Int)) p) ins)
  | 0, i, ins, h => .inr ⟨rfl, rfl⟩
  | n + 1, i, ins, h => by
    rw [whS]
    by_cases ho : onB p (rd_T29 l (i : Int)) (rd_T29 l (((i + 1) % l.length : Nat) : Int)) = true
    · rw [if_pos ho]
      exact .inl ⟨rfl, i, by omega, ho⟩
    · rw [if_neg ho, List.range'_succ, List.foldl_cons]
      exact whS_spec l p n (i + 1) _ (by omega)
theorem fold_none (f : Nat → Bool) : ∀ (r : List Nat) (ins : Bool), (∀ j ∈ r, f j = false) → r.foldl (fun c j => c != f j) ins = ins
  | [], ins, _ => rfl
  | j :: t, ins, h => by
    rw [List.foldl_cons, h j List.mem_cons_self, show (ins != false) = ins by cases ins <;> rfl]
    exact fold_none f t ins (fun x hx => h x (List.mem_cons_of_mem _ hx))
/-- A point that a ring holds or has on it: the ring reaches it on all sides. -/
theorem poly_in {l : List S29} {p : S29} (h : polyW l p ≠ 0) : gv p = true ∧ (∃ a ∈ l, p.f0 ≤ a.f0) ∧ (∃ a ∈ l, a.f0 ≤ p.f0) ∧ (∃ a ∈ l, p.f1 ≤ a.f1) ∧ (∃ a ∈ l, a.f1 ≤ p.f1) := by
  unfold polyW at h
  split at h
  · exact absurd rfl h
  · rename_i hl
    split at h
    · rename_i hv
      have h0 : 0 < l.length := by omega
      have hm : ∀ j, j < l.length → rd_T29 l (j : Int) ∈ l := fun j hj => by rw [rd29 l j hj]; exact List.getElem_mem hj
      have hq : ∀ j, (j + 1) % l.length < l.length := fun j => Nat.mod_lt _ h0
      have both : ∀ {P : S29 → Prop} (j : Nat), j < l.length → (P (rd_T29 l (j : Int)) ∨ P (rd_T29 l (((j + 1) % l.length : Nat) : Int))) → ∃ a ∈ l, P a := by
        intro P j hj hp
        rcases hp with hp | hp
        · exact ⟨_, hm j hj, hp⟩
        · exact ⟨_, hm _ (hq j), hp⟩
      refine ⟨hv.2, ?_⟩
      rcases whS_spec l p l.length 0 false (by omega) with ⟨_, j, hj, ho⟩ | ⟨h1, h2⟩
      · obtain ⟨k1, k2, k3, k4⟩ := on_in ho
        exact ⟨both (P := fun a => p.f0 ≤ a.f0) j hj k1, both (P := fun a => a.f0 ≤ p.f0) j hj k2, both (P := fun a => p.f1 ≤ a.f1) j hj k3, both (P := fun a => a.f1 ≤ p.f1) j hj k4⟩
      · rw [h1, if_neg (by decide)] at h
        have hi : (whS l p l.length 0 false).2 = true := by
          cases hc : (whS l p l.length 0 false).2 with
          | true => rfl
          | false => rw [hc, if_neg (by decide)] at h; exact absurd rfl h
        rw [hi] at h2
        have hex : ∃ j, j < l.length ∧ crB (rd_T29 l (j : Int)) (rd_T29 l (((j + 1) % l.length : Nat) : Int)) p = true := by
          refine Classical.byContradiction (fun hno => ?_)
          rw [fold_none (fun j : Nat => crB (rd_T29 l (j : Int)) (rd_T29 l (((j + 1) % l.length : Nat) : Int)) p) _ _ (fun j hj => by
            rw [List.mem_range'_1] at hj
            cases hc : crB (rd_T29 l (j : Int)) (rd_T29 l (((j + 1) % l.length : Nat) : Int)) p with
            | false => rfl
            | true => exact absurd ⟨j, by omega, hc⟩ hno)] at h2
          cases h2
        obtain ⟨j, hj, hc⟩ := hex
        obtain ⟨hy, hx⟩ := cr_up hc
        refine ⟨both (P := fun a => p.f0 ≤ a.f0) j hj hx, ?_, both (P := fun a => p.f1 ≤ a.f1) j hj (by omega), both (P := fun a => a.f1 ≤ p.f1) j hj (by omega)⟩
        refine Classical.byContradiction (fun hno => ?_)
        have hall : ∀ a ∈ l, p.f0 < a.f0 := fun a ha => by
          rcases int_lt_or_ge p.f0 a.f0 with h3 | h3
          · exact h3
          · exact absurd ⟨a, ha, h3⟩ hno
        have hf : ∀ (r : List Nat) (ins : Bool), (∀ j ∈ r, j < l.length) → r.foldl (fun (c : Bool) (j : Nat) => c != crB (rd_T29 l (j : Int)) (rd_T29 l (((j + 1) % l.length : Nat) : Int)) p) ins = r.foldl (fun (c : Bool) (j : Nat) => c != (decide ((rd_T29 l ((j % l.length : Nat) : Int)).f1 ≤ p.f1) != decide ((rd_T29 l (((j + 1) % l.length : Nat) : Int)).f1 ≤ p.f1))) ins := by
          intro r
          induction r with
          | nil => intro ins _; rfl
          | cons x t ih =>
            intro ins hr
            have hx := hr x List.mem_cons_self
            rw [List.foldl_cons, List.foldl_cons, cr_left (hall _ (hm x hx)) (hall _ (hm _ (hq x))), ih _ (fun y hy => hr y (List.mem_cons_of_mem _ hy)), Nat.mod_eq_of_lt hx]
        rw [hf _ _ (fun j hj => by rw [List.mem_range'_1] at hj; omega), xor_walk (fun (j : Nat) => decide ((rd_T29 l ((j % l.length : Nat) : Int)).f1 ≤ p.f1))] at h2
        rw [Nat.zero_add] at h2
        simp only [Nat.mod_self, Nat.zero_mod, bne_self_eq_false] at h2
        have e : ∀ (x : Bool), (false != (x != x)) = false := fun x => by cases x <;> rfl
        exact Bool.noConfusion (h2.trans (e (decide ((rd_T29 l ((0 : Nat) : Int)).f1 ≤ p.f1))))
    · exact absurd rfl h
/-- An area that has the point: its box meets the point's. -/
theorem area_meets {a : S27} {p : S29} (hs : shortA a = false) (h : onA p a = true) : meetsB (itemA a).f1 (pbox p) = true := by
  have hex : ∀ (R : List (List S29)) (odd : Int), locS R p odd ≠ odd → ∃ r ∈ R, polyW r p ≠ 0 := by
    intro R
    induction R with
    | nil => intro odd h; exact absurd rfl h
    | cons r t ih =>
      intro odd h
      by_cases h0 : polyW r p = 0
      · rw [locS, if_neg (by omega), if_neg (by omega)] at h
        obtain ⟨r', hr', h'⟩ := ih odd h
        exact ⟨r', List.mem_cons_of_mem _ hr', h'⟩
      · exact ⟨r, List.mem_cons_self, h0⟩
  have h1 : locW a.f3 p ≠ 0 := by
    unfold onA at h
    intro e
    rw [e] at h
    cases h
  obtain ⟨r, hr, hp⟩ := hex a.f3 0 h1
  obtain ⟨hg, ⟨a1, m1, k1⟩, ⟨a2, m2, k2⟩, ⟨a3, m3, k3⟩, ⟨a4, m4, k4⟩⟩ := poly_in hp
  obtain ⟨_, hv, hne⟩ := short_parts hs
  obtain ⟨hb, hin⟩ := boxP_holds hv hne
  have mem : ∀ x ∈ r, x ∈ a.f3.flatten := fun x hx => List.mem_flatten.2 ⟨r, hr, hx⟩
  have i1 := hin a1 (mem a1 m1)
  have i2 := hin a2 (mem a2 m2)
  have i3 := hin a3 (mem a3 m3)
  have i4 := hin a4 (mem a4 m4)
  rw [meets_iff]
  refine ⟨hb, pbox_valid hg, ?_, ?_, ?_, ?_⟩
  · show (boxP a.f3.flatten).f0 ≤ p.f0; omega
  · show p.f0 ≤ (boxP a.f3.flatten).f2; omega
  · show (boxP a.f3.flatten).f1 ≤ p.f1; omega
  · show p.f1 ≤ (boxP a.f3.flatten).f3; omega
/-- What At answers is what the reference answers. -/
theorem at_one {l : List S27} {vf : Nat → Value} {m : Nat} {its : List S61} {p : S29} {ys : List S23} (hG : Go.Proofs.Ytjpkkdnilfoafaa.Hand.Good l vf m its) (hp : ys.Perm ((its.filter (fun x => meetsB x.f1 (pbox p))).map S61.f0)) (hs : ys.Pairwise (fun a b => ltR b a = false)) : ys.filter (selA l p) = atR p l := by
  have hr := atR_spec p l.length l (Nat.le_refl _) hG.nodup
  rw [List.take_length] at hr
  have h1 : (its.filter (fun x => meetsB x.f1 (pbox p))).Perm ((l.filter (fun a => meetsB (itemA a).f1 (pbox p))).map itemA) := by
    refine (hG.perm.filter _).trans ?_
    rw [List.filter_map]
    first | done | exact List.Perm.refl _
  have h2 := hp.trans (h1.map S61.f0)
  rw [List.map_map] at h2
  have h3 := h2.filter (selA l p)
  have e1 : ((l.filter (fun a => meetsB (itemA a).f1 (pbox p))).map (S61.f0 ∘ itemA)).filter (selA l p) = (l.filter (onA p)).map S27.f0 := by
    rw [List.filter_map, List.filter_filter]
    show List.map S27.f0 _ = _
    congr 1
    refine List.filter_congr (fun a ha => ?_)
    show (selA l p a.f0 && meetsB (itemA a).f1 (pbox p)) = onA p a
    rw [selA_at hG.nodup p ha]
    show (onA p a && _) = _
    cases hq : onA p a with
    | false => rfl
    | true => rw [area_meets (hG.short a ha) hq]; rfl
  rw [e1] at h3
  have h4 := h3.trans hr.1.symm
  have hsub : ((l.filter (onA p)).map S27.f0).Nodup := (List.Sublist.map S27.f0 List.filter_sublist).nodup hG.nodup
  exact sortedR_one (hs.sublist List.filter_sublist) hr.2 h4 ((h3.nodup_iff).2 hsub)
end Go.Proofs.Ytjpkkdnilfoafaa.Plain
end
section
namespace Go.Proofs.Ytjpkkdnilfoafaa.Hand
open Go.Proofs.YtjpkkdnilfoafaaW Go.RowKit Go.Proofs.YtjpkkdnilfoafaaW.PrintWords Go.Proofs.YtjpkkdnilfoafaaW.PrintLast Go.Proofs.YtjpkkdnilfoafaaW.PrintMore Go.Proofs.YtjpkkdnilfoafaaW.SepW Go.Proofs.Ytjpkkdnilfoafaa.PALL Go.Proofs.Ytjpkkdnilfoafaa.Plain
set_option linter.unusedVariables false
set_option linter.unusedSimpArgs false
theorem rnew_cases (l : List S27) (fan : Int) (hf : fewA l = true) : (∃ rc : Int, rc ≠ 0 ∧ Ev (fun k => mapmakerref36_New.f k l fan) rc) ∨ (Ev (fun k => mapmakerref36_New.f k l fan) 0 ∧ (∀ a ∈ l, shortA a = false) ∧ 2 ≤ fan ∧ fan ≤ 16 ∧ (l.map S27.f0).Nodup) := by
  by_cases hs : ∃ a ∈ l, shortA a = true
  · exact .inl ⟨12, by decide, rnew_short l fan hf hs⟩
  · have hs' : ∀ a ∈ l, shortA a = false := fun a ha => by
      cases h : shortA a with
      | false => rfl
      | true => exact absurd ⟨a, ha, h⟩ hs
    by_cases h2 : fan < 2 ∨ 16 < fan
    · exact .inl ⟨1, by decide, rnew_fan l fan hf hs' h2⟩
    · by_cases hn : (l.map S27.f0).Nodup
      · exact .inr ⟨rnew_in l fan hf hs' (by omega) (by omega) 0 (fun h => absurd hn h) (fun _ => rfl), hs', by omega, by omega, hn⟩
      · exact .inl ⟨7, by decide, rnew_in l fan hf hs' (by omega) (by omega) 7 (fun _ => rfl) (fun h => absurd h hn)⟩
theorem newL_good {l : List S27} {vf : Nat → Value} {fan : Int} {w w' : World} {e : Ending} (hf : fewA l = true) (hs : ∀ a ∈ l, shortA a = false) (h2 : 2 ≤ fan) (h16 : fan ≤ 16) (hn : (l.map S27.f0).Nodup) (h : NewL l vf fan w e w') : ∃ g gt gm m its, e = .returned (.tuple #[.pointer (some ⟨g, 0, none⟩), .int .i64 0]) ∧ Go.Proofs.Ytjpkkdnilfoafaa.Hand.Good l vf m its ∧ IndexAt w' g gt gm m its (mapA l vf l.length) ∧ Below w.heap.size w w' := by
  obtain ⟨hb, h⟩ := h
  rcases h with ⟨c, he, h⟩ | ⟨_, _, _, _, g, gt, gm, its, he, hp, hso, hI⟩
  · exfalso
    rcases h with ⟨_, a, ha, h⟩ | ⟨_, h⟩
    · rw [hs a ha] at h
      cases h
    · rcases h with ⟨_, h⟩ | ⟨_, _, _, h⟩
      · omega
      · exact h hn
  · exact ⟨g, gt, gm, fan.toNat, its, he, ⟨by omega, by omega, (few_len hf).1, hn, hs, hp, hso⟩, hI, hb⟩
theorem sameRefs_ct (A : Option Addr) (c : Nat) (B : Option Addr) (d : Nat) (l : List S23) (hl : l.length ≤ 1000000) (w : World) (hC : k23.C w A l.length l) (hc : l.length ≤ c) (hD : k23.C w B l.length l) (hd : l.length ≤ d) :
    Calls Try.prog 15 #[.slice A l.length c, .slice B l.length d] w fun e w' => e = .returned (.bool true) ∧ Below w.heap.size w w' := by
  obtain ⟨k, hk⟩ := (sameRefs_ev l hl).rounds
  exact (mapmakerref14_SameRefs.calls k A c l B d l true w hC hc hD hd hk).mono (fun _ _ h => ⟨h.1, by first | exact h.2 | exact h.2.below⟩)
theorem atR_short {l : List S27} (p : S29) (hf : fewA l = true) (hn : (l.map S27.f0).Nodup) : (atR p l).length ≤ 1000000 := by
  have h := atR_len p l.length l (Nat.le_refl _) hn
  rw [List.take_length] at h
  have := (few_len hf).1
  omega
/-- At, in the reference's words. -/
theorem at_ref {w0 : World} {A : Option Addr} {l : List S27} {vf : Nat → Value} {g gt gm m : Nat} {its : List S61} (hG : Go.Proofs.Ytjpkkdnilfoafaa.Hand.Good l vf m its) (hfw : fewA l = true) (hI : IndexAt w0 g gt gm m its (mapA l vf l.length)) (hAV : AV w0 A l vf) (p : S29) (w : World) (hb : Below w0.heap.size w0 w) :
    Calls Try.prog 16 #[.pointer (some ⟨g, 0, none⟩), .agg #[.int .i64 p.f0, .int .i64 p.f1]] w fun e w' => ∃ v, e = .returned v ∧ k23.R 23 w' w.heap.size (fun _ => True) v (atR p l) ∧ Below w.heap.size w w' :=
  (at_ct hG hfw hI hAV p w hb).mono (fun e w' ⟨v, ys, he, hr, hp, hs, hbb⟩ => ⟨v, he, by rw [← at_one hG hp hs]; exact hr, hbb⟩)
end Go.Proofs.Ytjpkkdnilfoafaa.Hand
end
section
namespace Go.Proofs.YtjpkkdnilfoafaaW.SepW
open Go.Proofs.YtjpkkdnilfoafaaW Go.RowKit Go.Proofs.YtjpkkdnilfoafaaW.PrintWords Go.Proofs.YtjpkkdnilfoafaaW.PrintLast Go.Proofs.YtjpkkdnilfoafaaW.PrintMore
set_option linter.unusedVariables false
/-- A row of the call's own whose cells are told as they stand, several to an element. -/
def RowV (base : Nat) (e size : Nat) (v : Value) (n : Nat) (xs : List Value) : Thing base where
  P := fun w ok => (∀ k, v.ownBlock = some k → ok k) ∧ w.ownsRow base e size v n xs
  mono := fun h hp => ⟨fun k hk => h k (hp.1 k hk), hp.2⟩
  bound := fun h => ⟨fun k hk => ⟨h.1 k hk, own_base h.2 k hk, own_lt h.2 k hk⟩, h.2⟩
  move := fun h hp => ⟨hp.1, own_move hp.2 (fun k hk => h k (hp.1 k hk))⟩
variable {w0 w : World} {L : List (Thing w0.heap.size)}
theorem Sep.at_rowv {e size n : Nat} {v : Value} {xs : List Value} (S : Sep w0 w L) (m : Nat) (h : L[m]? = some (RowV _ e size v n xs)) : w.ownsRow w0.heap.size e size v n xs := by
  obtain ⟨ok, hp⟩ := SepI.get m S.items h
  exact hp.2
theorem Sep.rowv_nil (S : Sep w0 w L) (e size : Nat) : Sep w0 w (RowV _ e size (.slice none 0 0) 0 [] :: L) :=
  S.new (Below.refl _ _) (i := RowV _ e size (.slice none 0 0) 0 []) ⟨fun k hk => by simp [Value.ownBlock] at hk, own_nil _ _ _ _⟩
theorem Sep.rowv_append {e size n : Nat} {v : Value} {xs : List Value} (S : Sep w0 w L) (m : Nat) (h : L[m]? = some (RowV _ e size v n xs)) :
    w.ownsRow w0.heap.size e size v n xs ∧ ∀ (v1 : Value) (w1 : World) (k : Nat) (us : List Value), w1.ownsRow w0.heap.size e size v1 k us → Below w0.heap.size w0 w1 → w.grownBy w1 v.ownBlock → (v1.ownBlock = v.ownBlock ∨ ∃ b, v1.ownBlock = some b ∧ w.heap.size ≤ b) → Sep w0 w1 (L.set m (RowV _ e size v1 k us)) := by
  obtain ⟨ok, h1, hp, hu⟩ := SepI.upd m S.items h
  have hp' : (∀ k, v.ownBlock = some k → ok k) ∧ w.ownsRow w0.heap.size e size v n xs := hp
  refine ⟨hp'.2, fun v1 w1 k us ho hb hg hat => ⟨hb, hu w1 _ hg.size (fun k _ hlt hk => hg.block k hlt (fun he => hk (hp'.1 k he.symm))) (fun _ _ => trivial) ⟨fun k hk => ?_, ho⟩⟩⟩
  rcases hat with hat | ⟨b, hb1, hb2⟩
  · exact .inl (hp'.1 k (hat ▸ hk))
  · rw [hb1] at hk
    injection hk with hk
    exact .inr (hk ▸ hb2)
end Go.Proofs.YtjpkkdnilfoafaaW.SepW
namespace Go.Proofs.Ytjpkkdnilfoafaa.Hand
open Go.Proofs.YtjpkkdnilfoafaaW Go.RowKit Go.Proofs.YtjpkkdnilfoafaaW.PrintWords Go.Proofs.YtjpkkdnilfoafaaW.PrintLast Go.Proofs.YtjpkkdnilfoafaaW.PrintMore Go.Proofs.YtjpkkdnilfoafaaW.SepW Go.Proofs.Ytjpkkdnilfoafaa.PALL Go.Proofs.Ytjpkkdnilfoafaa.Plain
set_option linter.unusedVariables false
set_option linter.unusedSimpArgs false
theorem info27 : (Try.prog.info? 27).map (fun i => (i.zero, i.size, i.bytes)) = some (some (.agg #[(.int .i64 0), (.int .i64 0), (.int .i64 0), (.slice none 0 0), (.slice none 0 0)]), 5, 72) := by kernel_rfl
/-- The cells of an area's value; the cells of the areas from behind. -/
def five : Value → List Value
  | .agg cs => cs.toList
  | _ => []
def bk (vf : Nat → Value) (n : Nat) : Nat → List Value
  | 0 => []
  | k + 1 => bk vf n k ++ five (vf (n - 1 - k))
theorem bk_spec {vf : Nat → Value} {n : Nat} (h5 : ∀ i, i < n → (five (vf i)).length = 5) : ∀ (k : Nat), k ≤ n → (bk vf n k).length = k * 5 ∧ ∀ (j t : Nat), j < k → t < 5 → (bk vf n k)[j * 5 + t]? = (five (vf (n - 1 - j)))[t]?
  | 0, _ => ⟨rfl, fun j t h _ => absurd h (Nat.not_lt_zero j)⟩
  | k + 1, hk => by
    obtain ⟨h1, h2⟩ := bk_spec h5 k (by omega)
    have h3 := h5 (n - 1 - k) (by omega)
    refine ⟨by rw [bk, List.length_append, h1, h3]; omega, fun j t hj ht => ?_⟩
    by_cases hjk : j < k
    · rw [bk, List.getElem?_append_left (by omega)]
      exact h2 j t hjk ht
    · obtain rfl : j = k := by omega
      rw [bk, List.getElem?_append_right (by omega)]
      congr 1
      omega
theorem back_av {w : World} {A : Option Addr} {l : List S27} {vf : Nat → Value} (hAV : AV w A l vf) {v : Value} {base : Nat} (ho : w.ownsRow base 27 5 v l.length (bk vf l.length l.length)) : ∃ B d, v = .slice B l.length d ∧ AV w B l.reverse (fun j => vf (l.length - 1 - j)) := by
  obtain ⟨B, d, rfl⟩ := own_slice ho
  refine ⟨B, d, rfl, fun i hi => ?_⟩
  have hi' : i < l.length := by rw [List.length_reverse] at hi; exact hi
  have h5 : ∀ i, i < l.length → (five (vf i)).length = 5 := fun i hi => by
    obtain ⟨ad, A3, n3, c3, A4, c4, ea, hv, _⟩ := hAV i hi
    rw [hv]
    rfl
  obtain ⟨g, cap, e, _, _⟩ := ho.form (by omega)
  injection e with e1 e2 e3
  subst e1
  have hc := ho.cells (g := g) rfl
  have hs := (bk_spec h5 l.length (Nat.le_refl _)).2 i
  obtain ⟨ad, A3, n3, c3, A4, c4, ea, hv, h0, h1, h2, h3, h4, hCr⟩ := hAV (l.length - 1 - i) (by omega)
  have er : l.reverse[i] = l[l.length - 1 - i]'(by omega) := by rw [List.getElem_reverse]
  rw [er]
  have hf : ∀ t, t < 5 → ∀ u, (five (vf (l.length - 1 - i)))[t]? = some u → w.cell? ⟨g, i * 5 + t, none⟩ = some u := fun t ht u hu => by
    have := hc (i * 5 + t) u (by rw [hs t hi' ht]; exact hu)
    rwa [add_plain] at this
  rw [hv] at hf
  refine ⟨⟨g, 0, none⟩, A3, n3, c3, A4, c4, rfl, hv, ?_, ?_, ?_, ?_, ?_, hCr⟩
  · rw [add_plain]
    exact hf 0 (by decide) _ rfl
  · rw [add_plain]
    exact hf 1 (by decide) _ rfl
  · rw [add_plain]
    exact hf 2 (by decide) _ rfl
  · rw [add_plain]
    exact hf 3 (by decide) _ rfl
  · rw [add_plain]
    exact hf 4 (by decide) _ rfl
theorem fewA_reverse {l : List S27} (h : fewA l = true) : fewA l.reverse = true := by
  unfold fewA at h ⊢
  rw [List.length_reverse, List.all_reverse]
  exact h
theorem atR_reverse {l : List S27} (p : S29) (hn : (l.map S27.f0).Nodup) : atR p l.reverse = atR p l := by
  have h1 := atR_spec p l.length l (Nat.le_refl _) hn
  rw [List.take_length] at h1
  have hn2 : (l.reverse.map S27.f0).Nodup := by
    rw [List.map_reverse]
    exact (List.reverse_perm _).nodup_iff.2 hn
  have h2 := atR_spec p l.reverse.length l.reverse (Nat.le_refl _) hn2
  rw [List.take_length] at h2
  have hp : (atR p l.reverse).Perm (atR p l) := h2.1.trans ((((List.reverse_perm l).filter _).map _).trans h1.1.symm)
  refine sortedR_one h2.2 h1.2 hp (h2.1.nodup_iff.2 ?_)
  exact hn2.sublist (List.filter_sublist.map _)
theorem wsub_nat {q : Nat} (h : q ≤ 1000) : wrap64 ((q : Int) - 1) = (q : Int) - 1 := by unfold wrap64; omega
theorem ilen_b {w0 : World} {g gt gm m : Nat} {its : List S61} {M : List (S23 × Value)} (h : IndexAt w0 g gt gm m its M) (w : World) (hb : Below w0.heap.size w0 w) :
    Calls Try.prog 14 #[.pointer (some ⟨g, 0, none⟩)] w fun e w' => e = .returned (.int .i64 (its.length : Int)) ∧ Below w.heap.size w w' :=
  (ilen_ct h w hb).mono fun _ _ h => ⟨h.1, h.2 ▸ Below.refl _ _⟩
theorem ilen_nil_b (w : World) : Calls Try.prog 14 #[.pointer none] w fun e w' => e = .returned (.int .i64 0) ∧ Below w.heap.size w w' :=
  (ilen_nil w).mono fun _ _ h => ⟨h.1, h.2 ▸ Below.refl _ _⟩
def fa13_T : Bool × List (List Nat × List Nat) := (true, [([], []), ([], []), ([0, 1], [0, 1]), ([], []), ([], []), ([3, 4, 2], [3, 4]), ([2, 5, 5], [2, 5]), ([6, 6], [6]), ([7], [7]), ([8, 7, 7], [7, 8]), ([7], [7]), ([10, 9, 7], [7, 10]), ([9, 11, 7], [7, 9, 11]), ([7, 12], [7, 12]), ([13, 11], [13]), ([14], [14]), ([14], [14]), ([15, 16, 14, 14], [14, 15, 16]), ([17, 14], [14, 17]), ([18, 14], [14, 18]), ([14, 19], [14, 19]), ([20, 17], [20]), ([21], [21]), ([22, 21, 21], [21, 22]), ([23, 21], [21, 23]), ([21, 24], [21, 24]), ([25, 23], [25]), ([26, 26], [26]), ([26, 27], [26, 27]), ([28, 27, 0, 1, 2, 3, 4, 5, 6, 7, 8, 9, 10, 11, 12, 13, 14, 15, 16, 17, 18, 19, 20, 21, 22, 23, 24, 25, 26, 27, 28], [28])])
def fa13_B : List Nat := [0, 0, 3, 0, 0, 31, 63, 127, 255, 511, 255, 2047, 4095, 8191, 16383, 32767, 32767, 131071, 262143, 524287, 1048575, 2097151, 4194303, 8388607, 16777215, 33554431, 67108863, 134217727, 268435455, 536870911]
theorem fa13_tab : rtab .any (opsOf Try.f6 13) = fa13_T := by kernel_rfl
theorem fa13_bits : waitsOk fa13_T.2 fa13_B = true := by kernel_rfl
set_option maxHeartbeats 40000000 in
set_option maxRecDepth 100000 in
theorem fans_law (l : List S27) (p : S29) (A : Option Addr) (c : Nat) (w : World) (hC : k27.C w A l.length l) (hc : l.length ≤ c) :
    Calls Try.prog 6 #[.slice A l.length c, .agg #[.int .i64 p.f0, .int .i64 p.f1]] w fun e w' => e = .returned (.bool true) ∧ Below w.heap.size w w' := by
  have S := Aside0.mk (SepW.Sep.start w)
  have hu29 := Try.underlying29
  obtain ⟨vf, hav⟩ := av_of hC
  have HAV := Aside0.mk hav
  have HC := Aside0.mk hC
  have HCC := Aside0.mk hc
  clear hav hC hc
  cases hfw : fewA l with
  | true =>
    have HFW := Aside0.mk hfw
    rcases rnew_cases l 2 hfw with ⟨rc, h0, hev⟩ | ⟨hev, hgd⟩
    · have HEV := Aside0.mk hev
      have b0 : (rc == 0) = false := by rw [beq_eq_false_iff_ne]; exact h0
      have b1 : (rc != 0) = true := by show (!(rc == 0)) = true; rw [b0]; rfl
      clear hfw hev h0
      go_enter Try.func6, Try.ntmps6
      go_wp2_with (first | ((with_reducible refine gate_dst (N := 3) rfl ?_); refine box_event ?hg (N := 3) ?hd (cs := #[.int .i64 p.f0, .int .i64 p.f1]) (t := 29) ?hr ?_; (case hd => rfl); (case hg => rfl); (case hr => first | (go_simp; done) | (go_simp; rfl)); intro g3 hg w3 hbox hb; replace S := Aside0.mk (S.out.box hg hbox hb); have k3_0 := blk_cell hbox 0; have k3_1 := blk_cell hbox 1; simp only [List.getElem?_toArray, List.getElem?_cons_zero, List.getElem?_cons_succ] at k3_0 k3_1; clear hbox hb hg) | (go_at_call 8; (with_reducible refine (few_ct A c l true HFW.out _ (Kd.C_below HC.out S.out.below) HCC.out).mono ?_); rintro e_ w8 ⟨rfl, hb⟩; replace S := Aside0.mk (S.out.step hb); clear hb) | (go_at_call 13; (with_reducible refine (rNew_ct A c l _ _ HEV.out _ (Kd.C_below HC.out S.out.below) HCC.out).mono ?_); rintro e_ w20 ⟨rfl, hb⟩; replace S := Aside0.mk (S.out.step hb); clear hb) | (go_at_call 9; (with_reducible refine (lives_ct _).mono ?_); rintro e_ w9 ⟨rfl, hb⟩; replace S := Aside0.mk (S.out.step hb); clear hb) | fail)
      go_ret
      exact ⟨rfl, S.out.below⟩
    · have HEV := Aside0.mk hev
      have HGD : Aside0 ((∀ a ∈ l, shortA a = false) ∧ (l.map S27.f0).Nodup) := ⟨hgd.1, hgd.2.2.2⟩
      have HGR : Aside0 ((∀ a ∈ l.reverse, shortA a = false) ∧ (l.reverse.map S27.f0).Nodup) := ⟨fun a ha => hgd.1 a (List.mem_reverse.1 ha), by
        rw [List.map_reverse]
        exact (List.reverse_perm _).nodup_iff.2 hgd.2.2.2⟩
      have HAL := Aside0.mk (atR_short p hfw hgd.2.2.2)
      have HFR := Aside0.mk (fewA_reverse hfw)
      have HRV := Aside0.mk (atR_reverse p hgd.2.2.2)
      have HLN := Aside0.mk (few_len hfw).1
      have i0 : wrap64 ((l.length : Int) - 1) = (l.length : Int) - 1 := wsub_nat (by have := HLN.out; omega)
      clear hfw hev hgd
      go_enter Try.func6, Try.ntmps6
      go_upto_region 4 with (first | ((with_reducible refine gate_dst (N := 3) rfl ?_); refine box_event ?hg (N := 3) ?hd (cs := #[.int .i64 p.f0, .int .i64 p.f1]) (t := 29) ?hr ?_; (case hd => rfl); (case hg => rfl); (case hr => first | (go_simp; done) | (go_simp; rfl)); intro g3 hg w3 hbox hb; replace S := Aside0.mk (S.out.box hg hbox hb); have k3_0 := blk_cell hbox 0; have k3_1 := blk_cell hbox 1; simp only [List.getElem?_toArray, List.getElem?_cons_zero, List.getElem?_cons_succ] at k3_0 k3_1; clear hbox hb hg) | (go_at_call 8; (with_reducible refine (few_ct A c l true HFW.out _ (Kd.C_below HC.out S.out.below) HCC.out).mono ?_); rintro e_ w8 ⟨rfl, hb⟩; replace S := Aside0.mk (S.out.step hb); clear hb) | (go_at_call 13; (with_reducible refine (rNew_ct A c l _ _ HEV.out _ (Kd.C_below HC.out S.out.below) HCC.out).mono ?_); rintro e_ w20 ⟨rfl, hb⟩; replace S := Aside0.mk (S.out.step hb); clear hb) | fail)
      replace S := Aside0.mk (S.out.rowv_nil 27 5)
      clear k3_0 k3_1
      go_wp2
      go_loopg [5, 6] (l.length + 1) (fun kq v5 v6 w' => ∃ (m : Nat), v6 = .int .i64 ((m : Int) - 1) ∧ Aside0 (kq = m + 1) ∧ Aside0 (m ≤ l.length) ∧ Aside0 (SepW.Sep w w' [RowV _ 27 5 v5 (l.length - m) (bk vf l.length (l.length - m)), Box _ g3 29 #[.int .i64 p.f0, .int .i64 p.f1]]))
      case atStart => exact ⟨l.length, by first | rfl | rw [i0], ⟨rfl⟩, ⟨Nat.le_refl _⟩, by rw [Nat.sub_self]; exact S⟩
      case round =>
        clear S i0
        obtain ⟨m, rfl, KQ, KM, S⟩ := hrel
        cases gk with
        | zero => exact absurd KQ.out (by omega)
        | succ q1 =>
        cases m with
        | succ q =>
          have em : ((q + 1 : Nat) : Int) - 1 = (q : Int) := by omega
          rw [em]
          have p0 : (0 : Int) ≤ (q : Int) := by omega
          have p1 : (q : Int) < (l.length : Int) := by have := KM.out; omega
          have e0 : decide ((0 : Int) ≤ (q : Int)) = true := decide_eq_true p0
          have hq : q < l.length := by have := KM.out; omega
          have e1 : decide (q < l.length) = true := decide_eq_true hq
          have i1 : wrap64 ((q : Int) - 1) = (q : Int) - 1 := wsub_nat (by have := HLN.out; omega)
          obtain ⟨ad, A3, n3, c3, A4, c4, ea, hv, h0, h1, h2, h3, h4, hCr⟩ := HAV.out q hq
          subst ea
          obtain ⟨a, ha⟩ : ∃ a, a = l[q] := ⟨_, rfl⟩
          rw [← ha] at hv h0 h1 h2 h4 hCr
          have r0 := pw_cell_below S.out.below h0
          have r1 := pw_cell_below S.out.below h1
          have r2 := pw_cell_below S.out.below h2
          have r3 := pw_cell_below S.out.below h3
          have r4 := pw_cell_below S.out.below h4
          have HVF := Aside0.mk hv
          clear hv h0 h1 h2 h3 h4 hCr ha hq em
          go_wp2_with (first | ((with_reducible refine gate_builtin (b := .append) (xs := #[.tmp 28, .tmp 33]) rfl ?_); at_builtin; obtain ⟨ho, hup⟩ := S.out.rowv_append 0 rfl; refine print_append_cells (w0 := w) w.heap.size rfl (.tmp 28) (.tmp 33) 31 27 (.agg #[.int .i64 0, .int .i64 0, .int .i64 0, .slice none 0 0, .slice none 0 0]) 5 72 rfl Try.underlying31 info27 rfl (by decide) (by omega) _ _ _ [.int .i64 a.f0.f0, .int .i64 a.f0.f1, .int .i64 a.f1, .slice A3 n3 c3, .slice A4 a.f3.length c4] rfl rfl rfl (by simp [Value.oneCell']) ho S.out.below S.out.size (by have := HLN.out; have := KM.out; omega) ?_; intro v34 w34_ hown hb hg hat; have S1 := Aside0.mk (hup v34 w34_ _ _ hown hb hg hat); clear ho hup hown hb hg hat S) | fail)
          go_roundg q1
          case measure => omega
          case rel => exact ⟨q, by first | rfl | rw [i1], ⟨by have := KQ.out; omega⟩, ⟨by have := KM.out; omega⟩, by
            have ek : l.length - q = l.length - (q + 1) + 1 := by have := KM.out; omega
            have eb : l.length - 1 - (l.length - (q + 1)) = q := by have := KM.out; omega
            rw [ek, bk, eb, HVF.out]
            exact S1⟩
        | zero =>
          have em : ((0 : Nat) : Int) - 1 = -1 := rfl
          rw [em]
          have e0 : decide ((0 : Int) ≤ -1) = false := rfl
          rw [Nat.sub_zero] at S
          have SC := Aside0.mk (SepW.Sep.start wr)
          have hav' : AV wr A l vf := AV.below HAV.out S.out.below
          obtain ⟨A5, c5, e5, hab⟩ := back_av hav' (S.out.at_rowv 0 rfl)
          subst e5
          have HAB := Aside0.mk hab
          clear em hav' hab
          go_upto_region 13 with (first | (go_at_call 12; (with_reducible refine (lnew_ct A c l vf 2 _ (AV.below HAV.out S.out.below) HFW.out).mono ?_); rintro e_ w37 hN_; obtain ⟨g1, gt1, gm1, m1, its1, rfl, hG, hI, hb⟩ := newL_good HFW.out HGD.out.1 (by decide) (by decide) HGD.out.2 hN_; clear hN_; have HG1 := Aside0.mk hG; have HIX1 := Aside0.mk hI; replace S := Aside0.mk (S.out.step hb); replace SC := Aside0.mk (SC.out.step hb); clear hb hG hI) | (go_at_call 12; rw [show (l.length : Nat) = l.reverse.length from List.length_reverse.symm]; (with_reducible refine (lnew_ct A5 c5 l.reverse (fun j => vf (l.length - 1 - j)) 16 _ (AV.below HAB.out SC.out.below) (fewA_reverse HFW.out)).mono ?_); rintro e_ w42 hN_; obtain ⟨g2, gt2, gm2, m2, its2, rfl, hG, hI, hb⟩ := newL_good (fewA_reverse HFW.out) HGR.out.1 (by decide) (by decide) HGR.out.2 hN_; clear hN_; have HG2 := Aside0.mk hG; have HIX2 := Aside0.mk hI; replace S := Aside0.mk (S.out.step hb); replace SC := Aside0.mk (SC.out.step hb); have HI1 := Aside0.mk (HIX1.out.below hb); clear hb hG hI) | fail)
          have SB := Aside0.mk (SepW.Sep.start w42)
          have HA1 : Aside0 (AV w42 A l vf) := ⟨AV.below HAV.out S.out.below⟩
          have HA2 : Aside0 (AV w42 A5 l.reverse (fun j => vf (l.length - 1 - j))) := ⟨AV.below HAB.out SC.out.below⟩
          have hil : its1.length = its2.length := by rw [HG1.out.itl, HG2.out.itl, List.length_reverse]
          have b5 : ((its1.length : Int) == (its2.length : Int)) = true := by rw [hil]; exact beq_self_eq_true _
          have b6 : (its1.length == its2.length) = true := by rw [hil]; exact beq_self_eq_true _
          clear KQ KM hil
          have k3_0 := blk_cell (S.out.at_box 1 rfl) 0
          have k3_1 := blk_cell (S.out.at_box 1 rfl) 1
          simp only [List.getElem?_toArray, List.getElem?_cons_zero, List.getElem?_cons_succ] at k3_0 k3_1
          refine start_ (n := 30) (S := fun w' => w'.cell? ⟨g3, 0, none⟩ = some (.int .i64 p.f0) ∧ w'.cell? ⟨g3, 1, none⟩ = some (.int .i64 p.f1)) (ds := []) #[false, false, false, false, false, false, false, false, false, false, false, false, false, false, false, false, false, false, false, false, false, false, false, false, false, false, false, false, false, false] (by kernel_rfl) rfl rfl ⟨k3_0, k3_1⟩ (fun hHeld => ?_); refine with_tabW fa13_tab fa13_bits (fun HT_ HW_ => ?_)
          have HBW := Aside0.mk (below_drew (Below.refl w42.heap.size w42))
          generalize w42.drew = W9 at HBW hHeld ⊢
          replace S := Aside0.mk (S.out.step HBW.out)
          replace SB := Aside0.mk (SB.out.step HBW.out)
          refine pure_ (i := 0) (N := some 59) (v := ?_) (a' := ?_) #[true, false, false, false, false, false, false, false, false, false, false, false, false, false, false, false, false, false, false, false, false, false, false, false, false, false, false, false, false, false] rfl rfl (any_of HT_.out (by kernel_rfl)) (fun _ _ _ h => h) (Or.inl ⟨by rfl, ?_⟩) ?_ ?_
          rotate_left
          · intro w'
            go_simp
            with_reducible rfl
          rotate_left
          · simp only [Act.put, List.setIfInBounds_toArray, List.set_cons_zero, List.set_cons_succ, i64_w, i32_w]
            rfl
          refine pure_ (i := 3) (N := some 62) (v := ?_) (a' := ?_) #[true, false, false, true, false, false, false, false, false, false, false, false, false, false, false, false, false, false, false, false, false, false, false, false, false, false, false, false, false, false] rfl rfl (any_of HT_.out (by kernel_rfl)) (fun _ _ _ h => h) (Or.inl ⟨by rfl, ?_⟩) ?_ ?_
          rotate_left
          · intro w'
            go_simp
            with_reducible rfl
          rotate_left
          · simp only [Act.put, List.setIfInBounds_toArray, List.set_cons_zero, List.set_cons_succ, i64_w, i32_w]
            rfl
          refine take_ (i := 1) (N := some 60) (v := ?_) (a' := ?_) #[true, true, false, true, false, false, false, false, false, false, false, false, false, false, false, false, false, false, false, false, false, false, false, false, false, false, false, false, false, false] rfl rfl (take_ofW HT_.out HW_.out (by kernel_rfl)) (fun _ _ _ h => h) (Or.inl ⟨by rfl, ?_⟩) hHeld ?_ ?_
          rotate_left
          · rintro w' ⟨s0, s1⟩
            go_simp
            with_reducible rfl
          rotate_left
          · simp only [Act.put, List.setIfInBounds_toArray, List.set_cons_zero, List.set_cons_succ, i64_w, i32_w]
            rfl
          refine take_ (i := 4) (N := some 63) (v := ?_) (a' := ?_) #[true, true, false, true, true, false, false, false, false, false, false, false, false, false, false, false, false, false, false, false, false, false, false, false, false, false, false, false, false, false] rfl rfl (take_ofW HT_.out HW_.out (by kernel_rfl)) (fun _ _ _ h => h) (Or.inl ⟨by rfl, ?_⟩) hHeld ?_ ?_
          rotate_left
          · rintro w' ⟨s0, s1⟩
            go_simp
            with_reducible rfl
          rotate_left
          · simp only [Act.put, List.setIfInBounds_toArray, List.set_cons_zero, List.set_cons_succ, i64_w, i32_w]
            rfl
          refine one_ (i := 2) (N := some 61) #[true, true, true, true, true, false, false, false, false, false, false, false, false, false, false, false, false, false, false, false, false, false, false, false, false, false, false, false, false, false] rfl rfl (one_of HT_.out (by kernel_rfl)) (by decide) (fun K hK => ?_)
          refine goes_ Try.func16 (by kernel_rfl) rfl #[.pointer (some ⟨g1, 0, none⟩), .agg #[.int .i64 p.f0, .int .i64 p.f1]] (by rfl) rfl rfl (by (try simp only [List.map_toArray, List.map_cons, List.map_nil]); first | done | rfl) ?_
          with_reducible refine (at_ref HG1.out HFW.out HI1.out HA1.out p _ SB.out.below).mono ?_
          rintro e w61 ⟨v61, rfl, ho, hb⟩
          refine ⟨_, rfl, ?_⟩
          obtain ⟨A61, c61, e61, hc61, _⟩ := Kd.R_reads ho
          subst e61
          have HC61 := Aside0.mk hc61
          replace S := Aside0.mk (S.out.own ho hb)
          replace SB := Aside0.mk (SB.out.step hb)
          refine hK.out _ _ ⟨pw_cell_below hb hHeld.1, pw_cell_below hb hHeld.2⟩ (fun hHeld => ?_)
          clear hK K
          refine norm_ (a' := ?_) ?_ ?_
          rotate_left
          · show Act.put _ (some 61) _ = _
            simp only [Act.put, List.setIfInBounds_toArray, List.set_cons_zero, List.set_cons_succ, i64_w, i32_w]
            rfl
          refine one_ (i := 5) (N := some 64) #[true, true, true, true, true, true, false, false, false, false, false, false, false, false, false, false, false, false, false, false, false, false, false, false, false, false, false, false, false, false] rfl rfl (one_of HT_.out (by kernel_rfl)) (by decide) (fun K hK => ?_)
          refine goes_ Try.func16 (by kernel_rfl) rfl #[.pointer (some ⟨g2, 0, none⟩), .agg #[.int .i64 p.f0, .int .i64 p.f1]] (by rfl) rfl rfl (by (try simp only [List.map_toArray, List.map_cons, List.map_nil]); first | done | rfl) ?_
          with_reducible refine (at_ref HG2.out HFR.out HIX2.out HA2.out p _ SB.out.below).mono ?_
          rintro e w64 ⟨v64, rfl, ho, hb⟩
          refine ⟨_, rfl, ?_⟩
          rw [HRV.out] at ho
          obtain ⟨A64, c64, e64, hc64, _⟩ := Kd.R_reads ho
          subst e64
          have HC64 := Aside0.mk hc64
          replace S := Aside0.mk (S.out.own ho hb)
          replace SB := Aside0.mk (SB.out.step hb)
          refine hK.out _ _ ⟨pw_cell_below hb hHeld.1, pw_cell_below hb hHeld.2⟩ (fun hHeld => ?_)
          clear hK K
          refine norm_ (a' := ?_) ?_ ?_
          rotate_left
          · show Act.put _ (some 64) _ = _
            simp only [Act.put, List.setIfInBounds_toArray, List.set_cons_zero, List.set_cons_succ, i64_w, i32_w]
            rfl
          refine one_ (i := 6) (N := some 65) #[true, true, true, true, true, true, true, false, false, false, false, false, false, false, false, false, false, false, false, false, false, false, false, false, false, false, false, false, false, false] rfl rfl (one_of HT_.out (by kernel_rfl)) (by decide) (fun K hK => ?_)
          refine goes_ Try.func15 (by kernel_rfl) rfl #[.slice A61 (atR p l).length c61, .slice A64 (atR p l).length c64] (by rfl) rfl rfl (by (try simp only [List.map_toArray, List.map_cons, List.map_nil]); first | done | rfl) ?_
          with_reducible refine (sameRefs_ct A61 c61 A64 c64 (atR p l) HAL.out _ (S.out.own_C 1 rfl) HC61.out (S.out.own_C 0 rfl) HC64.out).mono ?_
          rintro e w65 ⟨rfl, hb⟩
          refine ⟨_, rfl, ?_⟩
          replace S := Aside0.mk (S.out.step hb)
          replace SB := Aside0.mk (SB.out.step hb)
          refine hK.out _ _ ⟨pw_cell_below hb hHeld.1, pw_cell_below hb hHeld.2⟩ (fun hHeld => ?_)
          clear hK K
          refine norm_ (a' := ?_) ?_ ?_
          rotate_left
          · show Act.put _ (some 65) _ = _
            simp only [Act.put, List.setIfInBounds_toArray, List.set_cons_zero, List.set_cons_succ, i64_w, i32_w]
            rfl
          refine pure_ (i := 7) (N := some 66) (v := ?_) (a' := ?_) #[true, true, true, true, true, true, true, true, false, false, false, false, false, false, false, false, false, false, false, false, false, false, false, false, false, false, false, false, false, false] rfl rfl (any_of HT_.out (by kernel_rfl)) (fun _ _ _ h => h) (Or.inl ⟨by rfl, ?_⟩) ?_ ?_
          rotate_left
          · intro w'
            go_simp
            with_reducible rfl
          rotate_left
          · simp only [Act.put, List.setIfInBounds_toArray, List.set_cons_zero, List.set_cons_succ, i64_w, i32_w]
            rfl
          refine pure_ (i := 8) (N := some 67) (v := ?_) (a' := ?_) #[true, true, true, true, true, true, true, true, true, false, false, false, false, false, false, false, false, false, false, false, false, false, false, false, false, false, false, false, false, false] rfl rfl (any_of HT_.out (by kernel_rfl)) (fun _ _ _ h => h) (Or.inl ⟨by rfl, ?_⟩) ?_ ?_
          rotate_left
          · intro w'
            go_simp
            with_reducible rfl
          rotate_left
          · simp only [Act.put, List.setIfInBounds_toArray, List.set_cons_zero, List.set_cons_succ, i64_w, i32_w]
            rfl
          refine pure_ (i := 10) (N := some 69) (v := ?_) (a' := ?_) #[true, true, true, true, true, true, true, true, true, false, true, false, false, false, false, false, false, false, false, false, false, false, false, false, false, false, false, false, false, false] rfl rfl (any_of HT_.out (by kernel_rfl)) (fun _ _ _ h => h) (Or.inl ⟨by rfl, ?_⟩) ?_ ?_
          rotate_left
          · intro w'
            go_simp
            with_reducible rfl
          rotate_left
          · simp only [Act.put, List.setIfInBounds_toArray, List.set_cons_zero, List.set_cons_succ, i64_w, i32_w]
            rfl
          refine one_ (i := 9) (N := some 68) #[true, true, true, true, true, true, true, true, true, true, true, false, false, false, false, false, false, false, false, false, false, false, false, false, false, false, false, false, false, false] rfl rfl (one_of HT_.out (by kernel_rfl)) (by decide) (fun K hK => ?_)
          refine goes_ Try.func14 (by kernel_rfl) rfl #[.pointer (some ⟨g1, 0, none⟩)] (by rfl) rfl rfl (by (try simp only [List.map_toArray, List.map_cons, List.map_nil]); first | done | rfl) ?_
          with_reducible refine (ilen_b HI1.out _ SB.out.below).mono ?_
          rintro e w68 ⟨rfl, hb⟩
          refine ⟨_, rfl, ?_⟩
          replace S := Aside0.mk (S.out.step hb)
          replace SB := Aside0.mk (SB.out.step hb)
          refine hK.out _ _ ⟨pw_cell_below hb hHeld.1, pw_cell_below hb hHeld.2⟩ (fun hHeld => ?_)
          clear hK K
          refine norm_ (a' := ?_) ?_ ?_
          rotate_left
          · show Act.put _ (some 68) _ = _
            simp only [Act.put, List.setIfInBounds_toArray, List.set_cons_zero, List.set_cons_succ, i64_w, i32_w]
            rfl
          refine one_ (i := 11) (N := some 70) #[true, true, true, true, true, true, true, true, true, true, true, true, false, false, false, false, false, false, false, false, false, false, false, false, false, false, false, false, false, false] rfl rfl (one_of HT_.out (by kernel_rfl)) (by decide) (fun K hK => ?_)
          refine goes_ Try.func14 (by kernel_rfl) rfl #[.pointer (some ⟨g2, 0, none⟩)] (by rfl) rfl rfl (by (try simp only [List.map_toArray, List.map_cons, List.map_nil]); first | done | rfl) ?_
          with_reducible refine (ilen_b HIX2.out _ SB.out.below).mono ?_
          rintro e w70 ⟨rfl, hb⟩
          refine ⟨_, rfl, ?_⟩
          replace S := Aside0.mk (S.out.step hb)
          replace SB := Aside0.mk (SB.out.step hb)
          refine hK.out _ _ ⟨pw_cell_below hb hHeld.1, pw_cell_below hb hHeld.2⟩ (fun hHeld => ?_)
          clear hK K
          refine norm_ (a' := ?_) ?_ ?_
          rotate_left
          · show Act.put _ (some 70) _ = _
            simp only [Act.put, List.setIfInBounds_toArray, List.set_cons_zero, List.set_cons_succ, i64_w, i32_w]
            rfl
          refine pure_ (i := 12) (N := some 71) (v := ?_) (a' := ?_) #[true, true, true, true, true, true, true, true, true, true, true, true, true, false, false, false, false, false, false, false, false, false, false, false, false, false, false, false, false, false] rfl rfl (any_of HT_.out (by kernel_rfl)) (fun _ _ _ h => h) (Or.inl ⟨by rfl, ?_⟩) ?_ ?_
          rotate_left
          · intro w'
            go_simp
            with_reducible rfl
          rotate_left
          · simp only [Act.put, List.setIfInBounds_toArray, List.set_cons_zero, List.set_cons_succ, i64_w, i32_w]
            rfl
          refine pure_ (i := 13) (N := some 72) (v := ?_) (a' := ?_) #[true, true, true, true, true, true, true, true, true, true, true, true, true, true, false, false, false, false, false, false, false, false, false, false, false, false, false, false, false, false] rfl rfl (any_of HT_.out (by kernel_rfl)) (fun _ _ _ h => h) (Or.inl ⟨by rfl, ?_⟩) ?_ ?_
          rotate_left
          · intro w'
            go_simp
            with_reducible rfl
          rotate_left
          · simp only [Act.put, List.setIfInBounds_toArray, List.set_cons_zero, List.set_cons_succ, i64_w, i32_w]
            rfl
          refine pure_ (i := 14) (N := some 73) (v := ?_) (a' := ?_) #[true, true, true, true, true, true, true, true, true, true, true, true, true, true, true, false, false, false, false, false, false, false, false, false, false, false, false, false, false, false] rfl rfl (any_of HT_.out (by kernel_rfl)) (fun _ _ _ h => h) (Or.inl ⟨by rfl, ?_⟩) ?_ ?_
          rotate_left
          · intro w'
            go_simp
            with_reducible rfl
          rotate_left
          · simp only [Act.put, List.setIfInBounds_toArray, List.set_cons_zero, List.set_cons_succ, i64_w, i32_w]
            rfl
          refine pure_ (i := 15) (N := some 74) (v := ?_) (a' := ?_) #[true, true, true, true, true, true, true, true, true, true, true, true, true, true, true, true, false, false, false, false, false, false, false, false, false, false, false, false, false, false] rfl rfl (any_of HT_.out (by kernel_rfl)) (fun _ _ _ h => h) (Or.inl ⟨by rfl, ?_⟩) ?_ ?_
          rotate_left
          · intro w'
            go_simp
            with_reducible rfl
          rotate_left
          · simp only [Act.put, List.setIfInBounds_toArray, List.set_cons_zero, List.set_cons_succ, i64_w, i32_w]
            rfl
          refine take_ (i := 16) (N := some 75) (v := ?_) (a' := ?_) #[true, true, true, true, true, true, true, true, true, true, true, true, true, true, true, true, true, false, false, false, false, false, false, false, false, false, false, false, false, false] rfl rfl (take_ofW HT_.out HW_.out (by kernel_rfl)) (fun _ _ _ h => h) (Or.inl ⟨by rfl, ?_⟩) hHeld ?_ ?_
          rotate_left
          · rintro w' ⟨s0, s1⟩
            go_simp
            with_reducible rfl
          rotate_left
          · simp only [Act.put, List.setIfInBounds_toArray, List.set_cons_zero, List.set_cons_succ, i64_w, i32_w]
            rfl
          refine one_ (i := 17) (N := some 76) #[true, true, true, true, true, true, true, true, true, true, true, true, true, true, true, true, true, true, false, false, false, false, false, false, false, false, false, false, false, false] rfl rfl (one_of HT_.out (by kernel_rfl)) (by decide) (fun K hK => ?_)
          refine goes_ Try.func16 (by kernel_rfl) rfl #[.pointer none, .agg #[.int .i64 p.f0, .int .i64 p.f1]] (by rfl) rfl rfl (by (try simp only [List.map_toArray, List.map_cons, List.map_nil]); first | done | rfl) ?_
          with_reducible refine (at_nil p _).mono ?_
          rintro e w76 ⟨rfl, hb⟩
          refine ⟨_, rfl, ?_⟩
          replace S := Aside0.mk (S.out.step hb)
          replace SB := Aside0.mk (SB.out.step hb)
          refine hK.out _ _ ⟨pw_cell_below hb hHeld.1, pw_cell_below hb hHeld.2⟩ (fun hHeld => ?_)
          clear hK K
          refine norm_ (a' := ?_) ?_ ?_
          rotate_left
          · show Act.put _ (some 76) _ = _
            simp only [Act.put, List.setIfInBounds_toArray, List.set_cons_zero, List.set_cons_succ, i64_w, i32_w]
            rfl
          refine pure_ (i := 18) (N := some 77) (v := ?_) (a' := ?_) #[true, true, true, true, true, true, true, true, true, true, true, true, true, true, true, true, true, true, true, false, false, false, false, false, false, false, false, false, false, false] rfl rfl (any_of HT_.out (by kernel_rfl)) (fun _ _ _ h => h) (Or.inl ⟨by rfl, ?_⟩) ?_ ?_
          rotate_left
          · intro w'
            go_simp
            with_reducible rfl
          rotate_left
          · simp only [Act.put, List.setIfInBounds_toArray, List.set_cons_zero, List.set_cons_succ, i64_w, i32_w]
            rfl
          refine pure_ (i := 19) (N := some 78) (v := ?_) (a' := ?_) #[true, true, true, true, true, true, true, true, true, true, true, true, true, true, true, true, true, true, true, true, false, false, false, false, false, false, false, false, false, false] rfl rfl (any_of HT_.out (by kernel_rfl)) (fun _ _ _ h => h) (Or.inl ⟨by rfl, ?_⟩) ?_ ?_
          rotate_left
          · intro w'
            go_simp
            with_reducible rfl
          rotate_left
          · simp only [Act.put, List.setIfInBounds_toArray, List.set_cons_zero, List.set_cons_succ, i64_w, i32_w]
            rfl
          refine pure_ (i := 20) (N := some 79) (v := ?_) (a' := ?_) #[true, true, true, true, true, true, true, true, true, true, true, true, true, true, true, true, true, true, true, true, true, false, false, false, false, false, false, false, false, false] rfl rfl (any_of HT_.out (by kernel_rfl)) (fun _ _ _ h => h) (Or.inl ⟨by rfl, ?_⟩) ?_ ?_
          rotate_left
          · intro w'
            go_simp
            with_reducible rfl
          rotate_left
          · simp only [Act.put, List.setIfInBounds_toArray, List.set_cons_zero, List.set_cons_succ, i64_w, i32_w]
            rfl
          refine pure_ (i := 21) (N := some 80) (v := ?_) (a' := ?_) #[true, true, true, true, true, true, true, true, true, true, true, true, true, true, true, true, true, true, true, true, true, true, false, false, false, false, false, false, false, false] rfl rfl (any_of HT_.out (by kernel_rfl)) (fun _ _ _ h => h) (Or.inl ⟨by rfl, ?_⟩) ?_ ?_
          rotate_left
          · intro w'
            go_simp
            with_reducible rfl
          rotate_left
          · simp only [Act.put, List.setIfInBounds_toArray, List.set_cons_zero, List.set_cons_succ, i64_w, i32_w]
            rfl
          refine pure_ (i := 22) (N := some 81) (v := ?_) (a' := ?_) #[true, true, true, true, true, true, true, true, true, true, true, true, true, true, true, true, true, true, true, true, true, true, true, false, false, false, false, false, false, false] rfl rfl (any_of HT_.out (by kernel_rfl)) (fun _ _ _ h => h) (Or.inl ⟨by rfl, ?_⟩) ?_ ?_
          rotate_left
          · intro w'
            go_simp
            with_reducible rfl
          rotate_left
          · simp only [Act.put, List.setIfInBounds_toArray, List.set_cons_zero, List.set_cons_succ, i64_w, i32_w]
            rfl
          refine one_ (i := 23) (N := some 82) #[true, true, true, true, true, true, true, true, true, true, true, true, true, true, true, true, true, true, true, true, true, true, true, true, false, false, false, false, false, false] rfl rfl (one_of HT_.out (by kernel_rfl)) (by decide) (fun K hK => ?_)
          refine goes_ Try.func14 (by kernel_rfl) rfl #[.pointer none] (by rfl) rfl rfl (by (try simp only [List.map_toArray, List.map_cons, List.map_nil]); first | done | rfl) ?_
          with_reducible refine (ilen_nil_b _).mono ?_
          rintro e w82 ⟨rfl, hb⟩
          refine ⟨_, rfl, ?_⟩
          replace S := Aside0.mk (S.out.step hb)
          replace SB := Aside0.mk (SB.out.step hb)
          refine hK.out _ _ ⟨pw_cell_below hb hHeld.1, pw_cell_below hb hHeld.2⟩ (fun hHeld => ?_)
          clear hK K
          refine norm_ (a' := ?_) ?_ ?_
          rotate_left
          · show Act.put _ (some 82) _ = _
            simp only [Act.put, List.setIfInBounds_toArray, List.set_cons_zero, List.set_cons_succ, i64_w, i32_w]
            rfl
          refine pure_ (i := 24) (N := some 83) (v := ?_) (a' := ?_) #[true, true, true, true, true, true, true, true, true, true, true, true, true, true, true, true, true, true, true, true, true, true, true, true, true, false, false, false, false, false] rfl rfl (any_of HT_.out (by kernel_rfl)) (fun _ _ _ h => h) (Or.inl ⟨by rfl, ?_⟩) ?_ ?_
          rotate_left
          · intro w'
            go_simp
            with_reducible rfl
          rotate_left
          · simp only [Act.put, List.setIfInBounds_toArray, List.set_cons_zero, List.set_cons_succ, i64_w, i32_w]
            rfl
          refine pure_ (i := 25) (N := some 84) (v := ?_) (a' := ?_) #[true, true, true, true, true, true, true, true, true, true, true, true, true, true, true, true, true, true, true, true, true, true, true, true, true, true, false, false, false, false] rfl rfl (any_of HT_.out (by kernel_rfl)) (fun _ _ _ h => h) (Or.inl ⟨by rfl, ?_⟩) ?_ ?_
          rotate_left
          · intro w'
            go_simp
            with_reducible rfl
          rotate_left
          · simp only [Act.put, List.setIfInBounds_toArray, List.set_cons_zero, List.set_cons_succ, i64_w, i32_w]
            rfl
          refine pure_ (i := 26) (N := some 85) (v := ?_) (a' := ?_) #[true, true, true, true, true, true, true, true, true, true, true, true, true, true, true, true, true, true, true, true, true, true, true, true, true, true, true, false, false, false] rfl rfl (any_of HT_.out (by kernel_rfl)) (fun _ _ _ h => h) (Or.inl ⟨by rfl, ?_⟩) ?_ ?_
          rotate_left
          · intro w'
            go_simp
            with_reducible rfl
          rotate_left
          · simp only [Act.put, List.setIfInBounds_toArray, List.set_cons_zero, List.set_cons_succ, i64_w, i32_w]
            rfl
          refine one_ (i := 27) (N := some 86) #[true, true, true, true, true, true, true, true, true, true, true, true, true, true, true, true, true, true, true, true, true, true, true, true, true, true, true, true, false, false] rfl rfl (one_of HT_.out (by kernel_rfl)) (by decide) (fun K hK => ?_)
          refine goes_ Try.func9 (by kernel_rfl) rfl #[] (by rfl) rfl rfl (by (try simp only [List.map_toArray, List.map_cons, List.map_nil]); first | done | rfl) ?_
          with_reducible refine (lives_ct _).mono ?_
          rintro e w86 ⟨rfl, hb⟩
          refine ⟨_, rfl, ?_⟩
          replace S := Aside0.mk (S.out.step hb)
          replace SB := Aside0.mk (SB.out.step hb)
          refine hK.out _ _ ⟨pw_cell_below hb hHeld.1, pw_cell_below hb hHeld.2⟩ (fun hHeld => ?_)
          clear hK K
          refine norm_ (a' := ?_) ?_ ?_
          rotate_left
          · show Act.put _ (some 86) _ = _
            simp only [Act.put, List.setIfInBounds_toArray, List.set_cons_zero, List.set_cons_succ, i64_w, i32_w]
            rfl
          refine pure_ (i := 28) (N := some 87) (v := ?_) (a' := ?_) #[true, true, true, true, true, true, true, true, true, true, true, true, true, true, true, true, true, true, true, true, true, true, true, true, true, true, true, true, true, false] rfl rfl (any_of HT_.out (by kernel_rfl)) (fun _ _ _ h => h) (Or.inl ⟨by rfl, ?_⟩) ?_ ?_
          rotate_left
          · intro w'
            go_simp
            with_reducible rfl
          rotate_left
          · simp only [Act.put, List.setIfInBounds_toArray, List.set_cons_zero, List.set_cons_succ, i64_w, i32_w]
            rfl
          refine pure_ (i := 29) (N := some 4) (v := ?_) (a' := ?_) #[true, true, true, true, true, true, true, true, true, true, true, true, true, true, true, true, true, true, true, true, true, true, true, true, true, true, true, true, true, true] rfl rfl (any_of HT_.out (by kernel_rfl)) (fun _ _ _ h => h) (Or.inl ⟨by rfl, ?_⟩) ?_ ?_
          rotate_left
          · intro w'
            go_simp
            with_reducible rfl
          rotate_left
          · simp only [Act.put, List.setIfInBounds_toArray, List.set_cons_zero, List.set_cons_succ, i64_w, i32_w]
            rfl
          refine done_ (done_of HT_.out (by kernel_rfl)) ?_
          go_wp2
          go_ret
          exact ⟨rfl, S.out.below⟩
  | false =>
    have HFW := Aside0.mk hfw
    clear hfw
    go_enter Try.func6, Try.ntmps6
    go_wp2_with (first | ((with_reducible refine gate_dst (N := 3) rfl ?_); refine box_event ?hg (N := 3) ?hd (cs := #[.int .i64 p.f0, .int .i64 p.f1]) (t := 29) ?hr ?_; (case hd => rfl); (case hg => rfl); (case hr => first | (go_simp; done) | (go_simp; rfl)); intro g3 hg w3 hbox hb; replace S := Aside0.mk (S.out.box hg hbox hb); have k3_0 := blk_cell hbox 0; have k3_1 := blk_cell hbox 1; simp only [List.getElem?_toArray, List.getElem?_cons_zero, List.getElem?_cons_succ] at k3_0 k3_1; clear hbox hb hg) | (go_at_call 8; (with_reducible refine (few_ct A c l false HFW.out _ (Kd.C_below HC.out S.out.below) HCC.out).mono ?_); rintro e_ w8 ⟨rfl, hb⟩; replace S := Aside0.mk (S.out.step hb); clear hb) | (go_at_call 9; (with_reducible refine (lives_ct _).mono ?_); rintro e_ w9 ⟨rfl, hb⟩; replace S := Aside0.mk (S.out.step hb); clear hb) | fail)
    go_ret
    exact ⟨rfl, S.out.below⟩
end Go.Proofs.Ytjpkkdnilfoafaa.Hand
end
