/-
  The law ClipLines in plain words: for every row of points and every box there is a number of rounds after which the printed law gives true.
-/
import Derived.Test.YtbgabhdhheplgaaPALLxoClipLines
import Derived.Test.YtbgabhdhheplgaaPl7
import Derived.Test.YtbgabhdhheplgaaPl8
namespace Go.Proofs.Ytbgabhdhheplgaa.Pure
open Go.RowKit Go.Proofs.Ytbgabhdhheplgaa.PALL Go.Proofs.YtbgabhdhheplgaaW.PrintWords Go.Proofs.YtbgabhdhheplgaaW.PrintLast Go.Proofs.YtbgabhdhheplgaaW.PrintMore Go.Proofs.YtbgabhdhheplgaaW.Open

theorem ClipLines : mapmakerlaw12_ClipLines.Pure := by
  intro y0 y1 h h1
  refine Ev.rounds ?_
  by_cases hc : (y0.length : Int) > 60
  · exact Ev.congr (fun k => by rw [mapmakerlaw12_ClipLines.f, if_pos hc]) (Ev.bind Pl.lives_ev (Ev.now _))
  · have hl := Pl.line_length y0 y1.f0 y1.f1 y1.f2 y1.f3
    have hp := Pl.line_part y0 y1.f0 y1.f1 y1.f2 y1.f3
    refine Ev.congr (fun k => by rw [mapmakerlaw12_ClipLines.f, if_neg hc]) (Ev.bind (Pl.line_ev y0 y1.f0 y1.f1 y1.f2 y1.f3 (by omega)) (Ev.bind (Pl.ref_line_ev y0 y1.f0 y1.f1 y1.f2 y1.f3 (by omega)) (Ev.bind (Pl.same2_ev (Pl.line y0 y1.f0 y1.f1 y1.f2 y1.f3) (by omega) (fun x hx => by have := hp x hx; omega)) ?_)))
    exact Ev.congr (fun k => if_pos rfl) (Ev.bind Pl.lives_ev (Ev.now _))

end Go.Proofs.Ytbgabhdhheplgaa.Pure
