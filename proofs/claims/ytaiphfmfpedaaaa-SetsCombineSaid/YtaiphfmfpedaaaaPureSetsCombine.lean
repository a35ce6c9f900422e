/-
  The law SetsCombine in plain words: for all rows of whole numbers there is a number of rounds after which the printed law gives true.
-/
import Derived.Test.YtaiphfmfpedaaaaPALLx12
import Derived.Test.YtaiphfmfpedaaaaPl1
namespace Go.Proofs.Ytaiphfmfpedaaaa.Pure
open Go.RowKit Go.Proofs.Ytaiphfmfpedaaaa.PALL Go.Proofs.YtaiphfmfpedaaaaW.PrintWords Go.Proofs.YtaiphfmfpedaaaaW.PrintLast Go.Proofs.Ytaiphfmfpedaaaa.Pl

theorem SetsCombine : mapmakerlaw05_SetsCombine.Pure := by
  intro a b _ _ _ _ _ _
  refine Ev.rounds ?_
  have bad : Ev (fun k => mapmakerlaw05_SetsCombine.j0 k a b true) true :=
    Ev.step (f := fun k => (mapmakerlaw05_lives.f k).bind fun t => some t) (fun k => by rw [mapmakerlaw05_SetsCombine.j0, if_pos rfl]) (Ev.bind lives_ev (Ev.now _))
  by_cases ha : a.length ≤ 200
  · by_cases hb : b.length ≤ 200
    · have h1 := unionL_length a b
      have h2 := interL_length a b
      have h3 := diffL_length a b
      refine Ev.congr (f := fun k => mapmakerlaw05_SetsCombine.j0 k a b false) (fun k => by rw [mapmakerlaw05_SetsCombine.f, few_f, Option.bind_some, if_pos (decide_eq_true ha), few_f, Option.bind_some, decide_eq_true hb]; rfl) ?_
      refine Ev.step (f := fun k => (mapmakerref05_Union.f k a b).bind fun t280 => (mapmakerref05_Equal.f k (unionL a b) t280).bind fun t283 => if t283 = true then (mapmakerref05_Inter.f k a b).bind fun t287 => (mapmakerref05_Equal.f k (interL a b) t287).bind fun t290 => if t290 = true then (mapmakerref05_Diff.f k a b).bind fun t294 => (mapmakerref05_Equal.f k (diffL a b) t294).bind fun t297 => if t297 = true then (mapmakerlaw05_lives.f k).bind fun t298 => some t298 else some false else some false else some false) (fun k => by rw [mapmakerlaw05_SetsCombine.j0, if_neg (by simp), union_f a b (by omega) (by omega), Option.bind_some, inter_f a b (by omega) (by omega), diff_f a b (by omega) (by omega)]; rfl) ?_
      exact Ev.bind (refUnion_ev a b (by omega) (by omega)) (Ev.bind (equal_true rfl (by omega)) (Ev.congr (fun k => if_pos rfl) (Ev.bind (refInter_ev a b (by omega) (by omega)) (Ev.bind (equal_true rfl (by omega)) (Ev.congr (fun k => if_pos rfl) (Ev.bind (refDiff_ev a b (by omega) (by omega)) (Ev.bind (equal_true rfl (by omega)) (Ev.congr (fun k => if_pos rfl) (Ev.bind lives_ev (Ev.now _))))))))))
    · exact Ev.congr (fun k => by rw [mapmakerlaw05_SetsCombine.f, few_f, Option.bind_some, if_pos (decide_eq_true ha), few_f, Option.bind_some, decide_eq_false hb]; rfl) bad
  · exact Ev.congr (fun k => by rw [mapmakerlaw05_SetsCombine.f, few_f, Option.bind_some, if_neg (by simpa using ha)]) bad

end Go.Proofs.Ytaiphfmfpedaaaa.Pure
