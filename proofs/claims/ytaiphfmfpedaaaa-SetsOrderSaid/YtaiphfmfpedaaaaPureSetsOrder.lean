/-
  The law SetsOrder in plain words: for all rows of whole numbers there is a number of rounds after which the printed law gives true.
-/
import Derived.Test.YtaiphfmfpedaaaaPALLx10
import Derived.Test.YtaiphfmfpedaaaaPl1
namespace Go.Proofs.Ytaiphfmfpedaaaa.Pure
open Go.RowKit Go.Proofs.Ytaiphfmfpedaaaa.PALL Go.Proofs.YtaiphfmfpedaaaaW.PrintWords Go.Proofs.YtaiphfmfpedaaaaW.PrintLast Go.Proofs.Ytaiphfmfpedaaaa.Pl

theorem order_l1 (a b u : List Int) (ha : a.length ≤ 200) (hb : b.length ≤ 200) (hu : u.length ≤ 400) (hm : ∀ x, x ∈ a → x ∈ u) : ∀ (n i : Nat), i + n = a.length → Ev (fun k => mapmakerlaw05_SetsOrder.l1 k a b u (i : Int)) true := by
  have h3 := diffL_length a b
  intro n
  induction n with
  | zero =>
    intro i h
    refine Ev.step (f := fun k => (mapmakerlaw05_lives.f k).bind fun t => some t) (fun k => ?_) (Ev.bind lives_ev (Ev.now _))
    rw [mapmakerlaw05_SetsOrder.l1, if_neg (by omega)]
  | succ n ih =>
    intro i h
    have hi : i < a.length := by omega
    have hx : a[i] ∈ a := List.getElem_mem hi
    have hux := has_ev u a[i] (by omega)
    rw [decide_eq_true (hm _ hx)] at hux
    refine Ev.step (f := fun k => (sets_Has.f k u a[i]).bind fun t256 => if t256 = true then (sets_Has.f k (diffL a b) a[i]).bind fun t261 => (sets_Has.f k b a[i]).bind fun t263 => if (t261 == t263) = true then some false else mapmakerlaw05_SetsOrder.l1 k a b u ((i + 1 : Nat) : Int) else some false) (fun k => ?_) (Ev.bind hux (Ev.congr (fun k => if_pos rfl) (Ev.bind (has_ev (diffL a b) a[i] (by omega)) (Ev.bind (has_ev b a[i] (by omega)) (Ev.congr (fun k => if_neg ?_) (ih (i + 1) (by omega)))))))
    · rw [mapmakerlaw05_SetsOrder.l1, if_pos (by omega), if_pos (by omega), rd_get a i hi, w_suc hi (by omega), diff_f a b (by omega) (by omega)]
      rfl
    · have hd := mem_diffL a b a[i]
      by_cases hxb : a[i] ∈ b <;> simp [hd, hxb, hx]
theorem order_l0 (a b u : List Int) (ha : a.length ≤ 200) (hb : b.length ≤ 200) (hu : u.length ≤ 400) (hs : u.Pairwise (· < ·)) (hm : ∀ x, x ∈ u ↔ x ∈ a ∨ x ∈ b) : ∀ (n i : Nat), i + n = u.length → Ev (fun k => mapmakerlaw05_SetsOrder.l0 k a b u (i : Int)) true := by
  intro n
  induction n with
  | zero =>
    intro i h
    refine Ev.step (f := fun k => mapmakerlaw05_SetsOrder.l1 k a b u ((0 : Nat) : Int)) (fun k => ?_) (order_l1 a b u ha hb hu (fun x hx => (hm x).2 (.inl hx)) a.length 0 (by omega))
    rw [mapmakerlaw05_SetsOrder.l0, if_neg (by omega)]
    rfl
  | succ n ih =>
    intro i h
    have hi : i < u.length := by omega
    have hx : u[i] ∈ u := List.getElem_mem hi
    have key : Ev (fun k => (sets_Has.f k a u[i]).bind fun t251 => if t251 = true then mapmakerlaw05_SetsOrder.l0 k a b u ((i + 1 : Nat) : Int) else (sets_Has.f k b u[i]).bind fun t253 => if t253 = true then mapmakerlaw05_SetsOrder.l0 k a b u ((i + 1 : Nat) : Int) else some false) true := by
      refine Ev.bind (has_ev a u[i] (by omega)) ?_
      by_cases hxa : u[i] ∈ a
      · rw [decide_eq_true hxa]; exact Ev.congr (fun k => if_pos rfl) (ih (i + 1) (by omega))
      · rw [decide_eq_false hxa]
        have hxb : u[i] ∈ b := ((hm _).1 hx).resolve_left hxa
        have hbx := has_ev b u[i] (by omega)
        rw [decide_eq_true hxb] at hbx
        exact Ev.congr (fun k => if_neg (by simp)) (Ev.bind hbx (Ev.congr (fun k => if_pos rfl) (ih (i + 1) (by omega))))
    refine Ev.step (fun k => ?_) key
    by_cases h0 : 0 < i
    · have hlt := List.pairwise_iff_getElem.1 hs (i - 1) i (by omega) hi (by omega)
      rw [mapmakerlaw05_SetsOrder.l0, if_pos (by omega), if_pos (by omega), w_pre h0 (by omega), if_pos (by omega), if_pos (by omega), if_pos (by omega), rd_get u (i - 1) (by omega), rd_get u i hi, if_neg (by omega), w_suc hi (by omega)]
    · rw [mapmakerlaw05_SetsOrder.l0, if_pos (by omega), if_neg (by omega), if_pos (by omega), rd_get u i hi, w_suc hi (by omega)]
theorem SetsOrder : mapmakerlaw05_SetsOrder.Pure := by
  intro a b _ _ _ _ _ _
  refine Ev.rounds ?_
  have bad : Ev (fun k => mapmakerlaw05_SetsOrder.j0 k a b true) true :=
    Ev.step (f := fun k => (mapmakerlaw05_lives.f k).bind fun t => some t) (fun k => by rw [mapmakerlaw05_SetsOrder.j0, if_pos rfl]) (Ev.bind lives_ev (Ev.now _))
  by_cases ha : a.length ≤ 200
  · by_cases hb : b.length ≤ 200
    · have h1 := unionL_length a b
      refine Ev.congr (f := fun k => mapmakerlaw05_SetsOrder.j0 k a b false) (fun k => by rw [mapmakerlaw05_SetsOrder.f, few_f, Option.bind_some, if_pos (decide_eq_true ha), few_f, Option.bind_some, decide_eq_true hb]; rfl) ?_
      refine Ev.step (f := fun k => mapmakerlaw05_SetsOrder.l0 k a b (unionL a b) ((0 : Nat) : Int)) (fun k => by rw [mapmakerlaw05_SetsOrder.j0, if_neg (by simp), union_f a b (by omega) (by omega)]; rfl) ?_
      exact order_l0 a b (unionL a b) ha hb (by omega) (unionL_lt a b) (mem_unionL a b) (unionL a b).length 0 (by omega)
    · exact Ev.congr (fun k => by rw [mapmakerlaw05_SetsOrder.f, few_f, Option.bind_some, if_pos (decide_eq_true ha), few_f, Option.bind_some, decide_eq_false hb]; rfl) bad
  · exact Ev.congr (fun k => by rw [mapmakerlaw05_SetsOrder.f, few_f, Option.bind_some, if_neg (by simpa using ha)]) bad

end Go.Proofs.Ytaiphfmfpedaaaa.Pure
