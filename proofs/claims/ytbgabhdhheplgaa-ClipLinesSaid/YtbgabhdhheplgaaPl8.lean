/-
  Rows of rows: the reference's Same says that such a row is itself.
-/
import Derived.Test.YtbgabhdhheplgaaPl1
import Derived.Test.YtbgabhdhheplgaaPALLx7
namespace Go.Proofs.Ytbgabhdhheplgaa.Pl
open Go.RowKit Go.Proofs.Ytbgabhdhheplgaa.PALL Go.Proofs.YtbgabhdhheplgaaW.PrintWords Go.Proofs.YtbgabhdhheplgaaW.PrintLast Go.Proofs.YtbgabhdhheplgaaW.PrintMore

theorem same2_l0 (t : List (List S37)) (hl : t.length ≤ 1099511627776) (hp : ∀ x ∈ t, x.length ≤ 1099511627776) : ∀ (n i : Nat), i + n = t.length → Ev (fun k => mapmakerref12_Same.l0 k t t (i : Int)) true := by
  intro n
  induction n with
  | zero =>
    intro i h
    refine Ev.step (f := fun _ => some true) (fun k => ?_) (Ev.now _)
    rw [mapmakerref12_Same.l0, if_neg (by omega)]
  | succ n ih =>
    intro i h
    have hw := w_suc (show i < t.length by omega) (by omega)
    have hr : rd_L4 t (i : Int) = t[i] := by simp [rd_L4, show i < t.length by omega]
    refine Ev.step (f := fun k => (mapmakerref08_Same.f k t[i] t[i]).bind fun t145 => if t145 = true then mapmakerref12_Same.l0 k t t ((i + 1 : Nat) : Int) else some false) (fun k => ?_) (Ev.bind (same_ev t[i] (hp _ (List.getElem_mem _))) (Ev.congr (fun k => if_pos rfl) (ih (i + 1) (by omega))))
    rw [mapmakerref12_Same.l0, if_pos (by omega), if_pos (by omega), if_pos (by omega), hr, hw]
/-- The reference's Same says that a row of rows is itself. -/
theorem same2_ev (t : List (List S37)) (hl : t.length ≤ 1099511627776) (hp : ∀ x ∈ t, x.length ≤ 1099511627776) : Ev (fun k => mapmakerref12_Same.f k t t) true :=
  Ev.congr (fun k => by rw [mapmakerref12_Same.f, if_pos rfl]; rfl) (same2_l0 t hl hp t.length 0 (by omega))
end Go.Proofs.Ytbgabhdhheplgaa.Pl
