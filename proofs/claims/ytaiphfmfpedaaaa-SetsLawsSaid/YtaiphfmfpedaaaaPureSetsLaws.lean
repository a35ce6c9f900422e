/-
  The law SetsLaws in plain words: for all rows of whole numbers there is a number of rounds after which the printed law gives true.
-/
import Derived.Test.YtaiphfmfpedaaaaPALLx13
import Derived.Test.YtaiphfmfpedaaaaPl1
namespace Go.Proofs.Ytaiphfmfpedaaaa.Pure
open Go.RowKit Go.Proofs.Ytaiphfmfpedaaaa.PALL Go.Proofs.YtaiphfmfpedaaaaW.PrintWords Go.Proofs.YtaiphfmfpedaaaaW.PrintLast Go.Proofs.Ytaiphfmfpedaaaa.Pl

theorem un (a b : List Int) (ha : a.length ≤ 5000) (hb : b.length ≤ 5000) : sets_Union.f a b = some (unionL a b) := union_f a b (by omega) (by omega)
theorem it (a b : List Int) (ha : a.length ≤ 5000) (hb : b.length ≤ 5000) : sets_Inter.f a b = some (interL a b) := inter_f a b (by omega) (by omega)
theorem laws_j2 (a b c : List Int) (ha : a.length ≤ 200) (hb : b.length ≤ 200) (hc : c.length ≤ 200) : Ev (fun k => mapmakerlaw05_SetsLaws.j2 k a b c false) true := by
  have h1 := unionL_length b c
  have h2 := interL_length a b
  have h3 := interL_length a c
  have h4 := diffL_length a b
  have h5 := unionL_length (interL a b) (interL a c)
  have h6 := ofL_length a
  have e1 : interL a (unionL b c) = unionL (interL a b) (interL a c) := uniq _ _ (interL_lt _ _) (unionL_lt _ _) (fun x => by simp only [mem_interL, mem_unionL]; exact ⟨fun ⟨p, q⟩ => q.elim (fun q => .inl ⟨p, q⟩) (fun q => .inr ⟨p, q⟩), fun h => h.elim (fun h => ⟨h.1, .inl h.2⟩) (fun h => ⟨h.1, .inr h.2⟩)⟩)
  have e2 : interL (diffL a b) (interL a b) = [] := uniq _ _ (interL_lt _ _) .nil (fun x => by simp only [mem_interL, mem_diffL]; simp; exact fun _ p _ q => p q)
  have e3 : unionL (diffL a b) (interL a b) = ofL a := uniq _ _ (unionL_lt _ _) (ofL_lt _) (fun x => by simp only [mem_interL, mem_unionL, mem_diffL, mem_ofL]; exact ⟨fun h => h.elim (·.1) (·.1), fun h => (Classical.em (x ∈ b)).elim (fun q => .inr ⟨h, q⟩) (fun q => .inl ⟨h, q⟩)⟩)
  refine Ev.step (f := fun k => (mapmakerref05_Equal.f k (interL a (unionL b c)) (unionL (interL a b) (interL a c))).bind fun t372 => if t372 = true then (mapmakerref05_Equal.f k (unionL (diffL a b) (interL a b)) (ofL a)).bind fun t388 => if t388 = true then (mapmakerlaw05_lives.f k).bind fun t389 => some t389 else some false else some false) (fun k => ?_) (Ev.bind (equal_true e1 (by omega)) (Ev.congr (fun k => if_pos rfl) (Ev.bind (equal_true e3 (by omega)) (Ev.congr (fun k => if_pos rfl) (Ev.bind lives_ev (Ev.now _))))))
  rw [mapmakerlaw05_SetsLaws.j2, if_neg (by simp), un b c (by omega) (by omega), Option.bind_some, it a (unionL b c) (by omega) (by omega), Option.bind_some, it a b (by omega) (by omega), Option.bind_some, it a c (by omega) (by omega), Option.bind_some, un _ _ (by omega) (by omega), Option.bind_some, diff_f a b (by omega) (by omega), Option.bind_some, Option.bind_some, it _ _ (by omega) (by omega), e2, Option.bind_some, if_pos (by simp), un _ _ (by omega) (by omega), Option.bind_some, of_f a (by omega), Option.bind_some]
theorem laws_j1 (a b c : List Int) (ha : a.length ≤ 200) (hb : b.length ≤ 200) (hc : c.length ≤ 200) : Ev (fun k => mapmakerlaw05_SetsLaws.j1 k a b c false) true := by
  have h1 := unionL_length a b
  have h2 := unionL_length (unionL a b) c
  have h3 := unionL_length b c
  have h4 := unionL_length a (unionL b c)
  have h5 := interL_length a b
  have h6 := interL_length (interL a b) c
  have h7 := interL_length b c
  have h8 := interL_length a (interL b c)
  have e1 : unionL (unionL a b) c = unionL a (unionL b c) := uniq _ _ (unionL_lt _ _) (unionL_lt _ _) (fun x => by simp only [mem_unionL, or_assoc])
  have e2 : interL (interL a b) c = interL a (interL b c) := uniq _ _ (interL_lt _ _) (interL_lt _ _) (fun x => by simp only [mem_interL, and_assoc])
  refine Ev.step (f := fun k => (mapmakerref05_Equal.f k (unionL (unionL a b) c) (unionL a (unionL b c))).bind fun t343 => if t343 = true then (mapmakerref05_Equal.f k (interL (interL a b) c) (interL a (interL b c))).bind fun t356 => mapmakerlaw05_SetsLaws.j2 k a b c (!t356) else mapmakerlaw05_SetsLaws.j2 k a b c true) (fun k => ?_) (Ev.bind (equal_true e1 (by omega)) (Ev.congr (fun k => if_pos rfl) (Ev.bind (equal_true e2 (by omega)) (laws_j2 a b c ha hb hc))))
  rw [mapmakerlaw05_SetsLaws.j1, if_neg (by simp), un a b (by omega) (by omega), Option.bind_some, un _ c (by omega) (by omega), Option.bind_some, un b c (by omega) (by omega), Option.bind_some, un a _ (by omega) (by omega), Option.bind_some, it a b (by omega) (by omega), Option.bind_some, it _ c (by omega) (by omega), Option.bind_some, it b c (by omega) (by omega), Option.bind_some, it a _ (by omega) (by omega), Option.bind_some]
theorem laws_j0 (a b c : List Int) (ha : a.length ≤ 200) (hb : b.length ≤ 200) (hc : c.length ≤ 200) : Ev (fun k => mapmakerlaw05_SetsLaws.j0 k a b c false) true := by
  have h1 := unionL_length b a
  have h2 := interL_length b a
  have h3 := ofL_length a
  have e1 : unionL a b = unionL b a := uniq _ _ (unionL_lt _ _) (unionL_lt _ _) (fun x => by simp only [mem_unionL]; exact Or.comm)
  have e2 : interL a b = interL b a := uniq _ _ (interL_lt _ _) (interL_lt _ _) (fun x => by simp only [mem_interL]; exact And.comm)
  have e3 : unionL a a = ofL a := uniq _ _ (unionL_lt _ _) (ofL_lt _) (fun x => by simp only [mem_unionL, mem_ofL, or_self])
  have e4 : interL a a = ofL a := uniq _ _ (interL_lt _ _) (ofL_lt _) (fun x => by simp only [mem_interL, mem_ofL, and_self])
  refine Ev.step (f := fun k => (mapmakerref05_Equal.f k (unionL a b) (unionL b a)).bind fun t309 => if t309 = true then (mapmakerref05_Equal.f k (interL a b) (interL b a)).bind fun t316 => if t316 = true then (mapmakerref05_Equal.f k (unionL a a) (ofL a)).bind fun t323 => if t323 = true then (mapmakerref05_Equal.f k (interL a a) (ofL a)).bind fun t330 => mapmakerlaw05_SetsLaws.j1 k a b c (!t330) else mapmakerlaw05_SetsLaws.j1 k a b c true else mapmakerlaw05_SetsLaws.j1 k a b c true else mapmakerlaw05_SetsLaws.j1 k a b c true) (fun k => ?_) (Ev.bind (equal_true e1 (by omega)) (Ev.congr (fun k => if_pos rfl) (Ev.bind (equal_true e2 (by omega)) (Ev.congr (fun k => if_pos rfl) (Ev.bind (equal_true e3 (by omega)) (Ev.congr (fun k => if_pos rfl) (Ev.bind (equal_true e4 (by omega)) (laws_j1 a b c ha hb hc))))))))
  rw [mapmakerlaw05_SetsLaws.j0, if_neg (by simp), un a b (by omega) (by omega), Option.bind_some, un b a (by omega) (by omega), Option.bind_some, it a b (by omega) (by omega), Option.bind_some, it b a (by omega) (by omega), Option.bind_some, un a a (by omega) (by omega), Option.bind_some, of_f a (by omega), Option.bind_some, it a a (by omega) (by omega), Option.bind_some, Option.bind_some]
theorem SetsLaws : mapmakerlaw05_SetsLaws.Pure := by
  intro a b c _ _ _ _ _ _ _ _ _
  refine Ev.rounds ?_
  have bad : Ev (fun k => mapmakerlaw05_SetsLaws.j0 k a b c true) true :=
    Ev.step (f := fun k => (mapmakerlaw05_lives.f k).bind fun t => some t) (fun k => by rw [mapmakerlaw05_SetsLaws.j0, if_pos rfl]) (Ev.bind lives_ev (Ev.now _))
  by_cases ha : a.length ≤ 200
  · by_cases hb : b.length ≤ 200
    · by_cases hc : c.length ≤ 200
      · exact Ev.congr (fun k => by rw [mapmakerlaw05_SetsLaws.f, few_f, Option.bind_some, if_pos (decide_eq_true ha), few_f, Option.bind_some, if_pos (decide_eq_true hb), few_f, Option.bind_some, decide_eq_true hc]; rfl) (laws_j0 a b c ha hb hc)
      · exact Ev.congr (fun k => by rw [mapmakerlaw05_SetsLaws.f, few_f, Option.bind_some, if_pos (decide_eq_true ha), few_f, Option.bind_some, if_pos (decide_eq_true hb), few_f, Option.bind_some, decide_eq_false hc]; rfl) bad
    · exact Ev.congr (fun k => by rw [mapmakerlaw05_SetsLaws.f, few_f, Option.bind_some, if_pos (decide_eq_true ha), few_f, Option.bind_some, if_neg (by simpa using hb)]) bad
  · exact Ev.congr (fun k => by rw [mapmakerlaw05_SetsLaws.f, few_f, Option.bind_some, if_neg (by simpa using ha)]) bad

end Go.Proofs.Ytaiphfmfpedaaaa.Pure
