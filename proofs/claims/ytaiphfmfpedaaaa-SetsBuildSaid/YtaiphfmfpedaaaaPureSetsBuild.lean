/-
  The law SetsBuild in plain words: for all rows of whole numbers there is a number of rounds after which the printed law gives true.
-/
import Derived.Test.YtaiphfmfpedaaaaPALLx7
import Derived.Test.YtaiphfmfpedaaaaPl1
namespace Go.Proofs.Ytaiphfmfpedaaaa.Pure
open Go.RowKit Go.Proofs.Ytaiphfmfpedaaaa.PALL Go.Proofs.YtaiphfmfpedaaaaW.PrintWords Go.Proofs.YtaiphfmfpedaaaaW.PrintLast Go.Proofs.Ytaiphfmfpedaaaa.Pl

theorem SetsBuild : mapmakerlaw05_SetsBuild.Pure := by
  intro l x _ _ _ _
  refine Ev.rounds ?_
  by_cases h : l.length ≤ 200
  · have h1 := ofL_length l
    refine Ev.congr (f := fun k => (mapmakerref05_Of.f k l).bind fun t190 => (mapmakerref05_Equal.f k (ofL l) t190).bind fun t193 => if t193 = true then (sets_Has.f k l x).bind fun t194 => (mapmakerref05_Has.f k l x).bind fun t195 => if (t194 == t195) = true then (mapmakerlaw05_lives.f k).bind fun t => some t else some false else some false) (fun k => by rw [mapmakerlaw05_SetsBuild.f, few_f, Option.bind_some, if_pos (decide_eq_true h), of_f l (by omega), Option.bind_some]) ?_
    refine Ev.bind (refOf_ev l (by omega)) (Ev.bind (equal_true rfl (by omega)) (Ev.congr (fun k => if_pos rfl) (Ev.bind (has_ev l x (by omega)) (Ev.bind (refHas_ev l x (by omega)) ?_))))
    exact Ev.congr (fun k => if_pos (by simp)) (Ev.bind lives_ev (Ev.now _))
  · exact Ev.congr (fun k => by rw [mapmakerlaw05_SetsBuild.f, few_f, Option.bind_some, if_neg (by simpa using h)]) (Ev.bind lives_ev (Ev.now _))

end Go.Proofs.Ytaiphfmfpedaaaa.Pure
