/-
  The law ClipTidies in plain words: for every row of points there is a number of rounds after which the printed law gives true.
-/
import Derived.Test.YtbgabhdhheplgaaPALLxoClipTidies
import Derived.Test.YtbgabhdhheplgaaPl2
namespace Go.Proofs.Ytbgabhdhheplgaa.Pure
open Go.RowKit Go.Proofs.Ytbgabhdhheplgaa.PALL Go.Proofs.YtbgabhdhheplgaaW.PrintWords Go.Proofs.YtbgabhdhheplgaaW.PrintLast Go.Proofs.YtbgabhdhheplgaaW.PrintMore Go.Proofs.YtbgabhdhheplgaaW.Open

theorem ClipTidies : mapmakerlaw12_ClipTidies.Pure := by
  intro y0 h
  refine Ev.rounds ?_
  by_cases hc : (y0.length : Int) > 60
  · exact Ev.congr (fun k => by rw [mapmakerlaw12_ClipTidies.f, if_pos hc]) (Ev.bind Pl.lives_ev (Ev.now _))
  · have hl : y0.length ≤ 1099511627776 := by omega
    have hl2 := Pl.tidy_length y0
    have hl3 := Pl.tidyRing_length (Pl.tidy y0)
    refine Ev.congr (fun k => by rw [mapmakerlaw12_ClipTidies.f, if_neg hc]) (Ev.bind (Pl.tidy_ev y0 hl) (Ev.bind (Pl.ref_tidy_ev y0 hl) (Ev.bind (Pl.same_ev (Pl.tidy y0) (by omega)) ?_)))
    refine Ev.congr (fun k => if_pos rfl) (Ev.bind (Pl.tidyRing_ev y0 hl) (Ev.bind (Pl.ref_tidyRing_ev y0 hl) (Ev.bind (Pl.same_ev (Pl.tidyRing (Pl.tidy y0)) (by omega)) ?_)))
    exact Ev.congr (fun k => if_pos rfl) (Ev.bind Pl.lives_ev (Ev.now _))

end Go.Proofs.Ytbgabhdhheplgaa.Pure
