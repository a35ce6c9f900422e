import Derived.Test.YtopapknfpoandaaDoorRows
import Derived.Test.YtopapknfpoandaaDoorWOpen
import Derived.Test.YtopapknfpoandaaDoorL1
import Derived.LaidMore
import Derived.LaidHandle
import Derived.LaidLaws
import Derived.OpenShut
import Derived.Stop.Joined
namespace Go.Proofs.YtopapknfpoandaaDoor.Hand
open Go.ChangeShapes Go.WideShapes Go.RowKit Go.Proofs.YtopapknfpoandaaDoorW.PrintWords Go.Proofs.YtopapknfpoandaaDoorW.Open Go.Proofs.YtopapknfpoandaaDoor.PALL
set_option linter.unusedVariables false
abbrev laid1 : List (String × DataW Unit) := [("mapmaker/cmds.least", Rows.laid_mapmaker_cmds_least)]
theorem gLeast : Tryd.prog.globalNamed "mapmaker/cmds.least" = some 0 := by kernel_rfl
theorem tLeast : (Tryd.prog.globals[0]?).map (·.type) = some 50 := by kernel_rfl
theorem door_met (os : Os) (args : Array Value) : laidMetH Tryd.prog laid1 ((World.doorLaid Tryd.prog 400 os).forCall (fun _ _ => 0) ⟨#[], args, []⟩).memory :=
  laidMetH_of_parts3 (fuel := 8) (laidMet_of_run' 8 (by kernel_rfl) (by kernel_rfl)) (by kernel_rfl) (by kernel_rfl)
set_option maxRecDepth 100000 in
theorem of_laid {W : World} (h : laidMetH Tryd.prog laid1 W) : Least W := by
  rw [MakeChecks.laidMetH_plain _ _ _ (by kernel_rfl)] at h
  obtain ⟨ps, ⟨g1, t1, cs1, f1, p1, q1, hg1, ht1, hv1, hd1, _⟩, _, _⟩ := h
  obtain rfl := Option.some.inj (gLeast.symm.trans hg1)
  obtain rfl := Option.some.inj (tLeast.symm.trans ht1)
  obtain ⟨xs, m1, rfl, hx1, hlen, hn3, hel⟩ := DataW.trod_array Tryd.underlying50 hd1
  have c3 : Tryd.prog.cellsOf 3 = 1 := by kernel_rfl
  have c50 : Tryd.prog.cellsOf 50 = 4 := by kernel_rfl
  have h0 := hel 0 (by decide)
  have h1 := hel 1 (by decide)
  have h2 := hel 2 (by decide)
  have h3 := hel 3 (by decide)
  have hx1 : DataW.agg [.lit (.int .i64 0), .lit (.int .i64 1), .lit (.int .i64 2), .lit (.int .i64 3)] = DataW.agg (xs.map (·.1)) := (Prod.mk.inj hx1).1
  simp only [DataW.agg.injEq] at hx1
  match xs, hn3, hx1, h0, h1, h2, h3 with
  | [x0, x1, x2, x3], _, hx1, h0, h1, h2, h3 =>
    simp only [List.map_cons, List.map_nil, List.cons.injEq] at hx1
    have key : ∀ (k : Int) (i : Nat) (x : DataW Unit × List MemPlace), DataW.trod (fun _ => ()) Tryd.prog W 0 (fun _ => true) false m1 3 (List.take (Tryd.prog.cellsOf 3) (List.drop (i * Tryd.prog.cellsOf 3) cs1.toList)) = some x → DataW.lit (.int .i64 k) = x.1 → W.cell? ⟨0, i, none⟩ = some (.int .i64 k) := by
      intro k i x hx hk
      obtain ⟨k', e1, e2, _⟩ := DataW.trod_int Tryd.underlying3 hx
      have hk' : k = k' := by rw [e2] at hk; simpa using hk
      subst hk'
      have := World.var?_cell hg1 hv1 i
      obtain ⟨l1⟩ := cs1
      rw [c3, Nat.mul_one] at e1
      have e3 := congrArg (fun l => l[0]?) e1
      simp only [List.getElem?_cons_zero] at e3
      rw [List.getElem?_take_of_lt (by decide), List.getElem?_drop, Nat.add_zero] at e3
      rw [this]
      simpa using e3
    exact ⟨key 0 0 x0 h0 hx1.1, key 1 1 x1 h1 hx1.2.1, key 2 2 x2 h2 hx1.2.2.1, key 3 3 x3 h3 hx1.2.2.2.1⟩
theorem o_P3 : Opens Tryd.prog 3 (Kd.int .i64) okI64 := opens_i64 Tryd.underlying3
theorem o_P27 : Opens Tryd.prog 27 (Kd.slice 3 (Kd.int .i64)) (okL 8 okI64) := opens_slice Tryd.underlying27 (by kernel_rfl) (by kernel_rfl) o_P3
def ok_T44 (y : S44) : Prop := okI64 y.f0 ∧ okI64 y.f1
theorem o_P44 : Opens Tryd.prog 44 k44 ok_T44 := opens_iso (fun x : S44 => (x.f0, x.f1)) (fun p => ⟨p.1, p.2⟩) (fun _ => rfl) (opens_struct Tryd.underlying44 (by kernel_rfl) (opensF_cons rfl (by kernel_rfl) o_P3 (opensF_one rfl (by kernel_rfl) o_P3)))
theorem o_P42 : Opens Tryd.prog 42 (Kd.slice 44 k44) (okL 16 ok_T44) := opens_slice Tryd.underlying42 (by kernel_rfl) (by kernel_rfl) o_P44
theorem o_P22 : Opens Tryd.prog 22 (Kd.slice 42 kL) (okL 24 (okL 16 ok_T44)) := opens_slice Tryd.underlying22 (by kernel_rfl) (by kernel_rfl) o_P42
theorem o_P24 : Opens Tryd.prog 24 (Kd.pair (Kd.int .i64) (Kd.slice 42 kL)) (fun y => okI64 y.1 ∧ okL 24 (okL 16 ok_T44) y.2) := opens_struct Tryd.underlying24 (by kernel_rfl) (opensF_cons rfl (by kernel_rfl) o_P3 (opensF_one rfl (by kernel_rfl) o_P22))
theorem fit_opened {ps : List (List S44)} (h : okL 24 (okL 16 ok_T44) ps) : Fit ps := ⟨by have := h.1; omega, fun p hp => by have := (h.2 p hp).1; omega⟩
theorem len_opened {l : List Int} (h : okL 8 okI64 l) : l.length ≤ 140737488351232 := by have := h.1; omega
theorem num_opened {l : List Int} (h : okL 8 okI64 l) : Num l := fun z hz => (h.2 z hz).2
end Go.Proofs.YtopapknfpoandaaDoor.Hand
