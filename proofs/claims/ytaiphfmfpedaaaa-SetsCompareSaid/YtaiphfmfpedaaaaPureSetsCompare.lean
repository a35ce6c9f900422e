/-
  The law SetsCompare in plain words: for all rows of whole numbers there is a number of rounds after which the printed law gives true.
-/
import Derived.Test.YtaiphfmfpedaaaaPALLx8
import Derived.Test.YtaiphfmfpedaaaaPl1
namespace Go.Proofs.Ytaiphfmfpedaaaa.Pure
open Go.RowKit Go.Proofs.Ytaiphfmfpedaaaa.PALL Go.Proofs.YtaiphfmfpedaaaaW.PrintWords Go.Proofs.YtaiphfmfpedaaaaW.PrintLast Go.Proofs.Ytaiphfmfpedaaaa.Pl

theorem SetsCompare : mapmakerlaw05_SetsCompare.Pure := by
  intro a b _ _ _ _ _ _
  refine Ev.rounds ?_
  have bad : Ev (fun k => mapmakerlaw05_SetsCompare.j0 k a b true) true :=
    Ev.step (f := fun k => (mapmakerlaw05_lives.f k).bind fun t => some t) (fun k => by rw [mapmakerlaw05_SetsCompare.j0, if_pos rfl]) (Ev.bind lives_ev (Ev.now _))
  by_cases ha : a.length ≤ 200
  · by_cases hb : b.length ≤ 200
    · have e : sets_Sub.f a a = some true := by
        rw [sub_f a a (by omega) (by omega), decide_eq_true (uniq _ _ (diffL_lt a a) .nil (fun x => by rw [mem_diffL]; simp))]
      refine Ev.congr (f := fun k => mapmakerlaw05_SetsCompare.j0 k a b false) (fun k => by rw [mapmakerlaw05_SetsCompare.f, few_f, Option.bind_some, if_pos (decide_eq_true ha), few_f, Option.bind_some, decide_eq_true hb]; rfl) ?_
      refine Ev.step (f := fun k => (mapmakerref05_Sub.f k a b).bind fun t223 => if (decide (diffL a b = []) == t223) = true then (sets_Same.f k a b).bind fun t224 => (mapmakerref05_Same.f k a b).bind fun t225 => if (t224 == t225) = true then (sets_Same.f k b b).bind fun t227 => if t227 = true then (mapmakerlaw05_lives.f k).bind fun t228 => some t228 else some false else some false else some false) (fun k => by rw [mapmakerlaw05_SetsCompare.j0, if_neg (by simp), sub_f a b (by omega) (by omega), Option.bind_some, e]; rfl) ?_
      have hbb := same_ev b b (by omega) (by omega)
      rw [decide_eq_true rfl] at hbb
      refine Ev.bind (refSub_ev a b (by omega) (by omega)) (Ev.congr (fun k => if_pos (by simp)) (Ev.bind (same_ev a b (by omega) (by omega)) (Ev.bind (refSame_ev a b (by omega) (by omega)) (Ev.congr (fun k => if_pos (by simp)) (Ev.bind hbb (Ev.congr (fun k => if_pos rfl) (Ev.bind lives_ev (Ev.now _))))))))
    · exact Ev.congr (fun k => by rw [mapmakerlaw05_SetsCompare.f, few_f, Option.bind_some, if_pos (decide_eq_true ha), few_f, Option.bind_some, decide_eq_false hb]; rfl) bad
  · exact Ev.congr (fun k => by rw [mapmakerlaw05_SetsCompare.f, few_f, Option.bind_some, if_neg (by simpa using ha)]) bad

end Go.Proofs.Ytaiphfmfpedaaaa.Pure
