/-
  The law ClipRings in plain words: for every row of points and every box there is a number of rounds after which the printed law gives true.
-/
import Derived.Test.YtbgabhdhheplgaaPALLxoClipRings
import Derived.Test.YtbgabhdhheplgaaPl5
namespace Go.Proofs.Ytbgabhdhheplgaa.Pure
open Go.RowKit Go.Proofs.Ytbgabhdhheplgaa.PALL Go.Proofs.YtbgabhdhheplgaaW.PrintWords Go.Proofs.YtbgabhdhheplgaaW.PrintLast Go.Proofs.YtbgabhdhheplgaaW.PrintMore Go.Proofs.YtbgabhdhheplgaaW.Open

theorem ClipRings : mapmakerlaw12_ClipRings.Pure := by
  intro y0 y1 h h1
  refine Ev.rounds ?_
  by_cases hc : (y0.length : Int) > 60
  · exact Ev.congr (fun k => by rw [mapmakerlaw12_ClipRings.f, if_pos hc]) (Ev.bind Pl.lives_ev (Ev.now _))
  · have hl := Pl.ring_length y0 y1.f0 y1.f1 y1.f2 y1.f3
    refine Ev.congr (fun k => by rw [mapmakerlaw12_ClipRings.f, if_neg hc]) (Ev.bind (Pl.ring_ev y0 y1.f0 y1.f1 y1.f2 y1.f3 (by omega)) (Ev.bind (Pl.ref_ring_ev y0 y1.f0 y1.f1 y1.f2 y1.f3 (by omega)) (Ev.bind (Pl.same_ev (Pl.ring y0 y1.f0 y1.f1 y1.f2 y1.f3) (by omega)) ?_)))
    exact Ev.congr (fun k => if_pos rfl) (Ev.bind Pl.lives_ev (Ev.now _))

end Go.Proofs.Ytbgabhdhheplgaa.Pure
