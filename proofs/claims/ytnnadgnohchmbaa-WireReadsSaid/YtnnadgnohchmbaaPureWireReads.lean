import Derived.Test.YtnnadgnohchmbaaPALLxoWireReads
import Derived.Test.YtnnadgnohchmbaaPl4
namespace Go.Proofs.Ytnnadgnohchmbaa.Pure
open Go.RowKit Go.Proofs.Ytnnadgnohchmbaa.PALL Go.Proofs.Ytnnadgnohchmbaa.Pl Go.Proofs.YtnnadgnohchmbaaW.PrintWords Go.Proofs.YtnnadgnohchmbaaW.PrintLast Go.Proofs.YtnnadgnohchmbaaW.PrintMore Go.Proofs.YtnnadgnohchmbaaW.Open

def DoneS (s : ByteArray) (p : Nat) (e : Int) : Int := if e = 0 then (if wrap64 ((s.size : Int) - p) > 0 then 5 else 0) else e
theorem wire_Done (s : ByteArray) (p : Nat) (e : Int) : wire_Reader_Done.f s p e = some (DoneS s p e, s, (p : Int), e) := by
  unfold wire_Reader_Done.f wire_Reader_Err.f wire_Reader_Left.f DoneS
  simp only [Option.bind_some]
  split
  · split <;> rfl
  · rfl
theorem ref_Done (s : ByteArray) (p : Nat) (e : Int) : mapmakerref02_Done.f s p e = some (DoneS s p e) := by
  unfold mapmakerref02_Done.f mapmakerref02_Left.f DoneS
  simp only [Option.bind_some]
  split
  · rename_i h
    split
    · rfl
    · rw [h]
  · rfl
theorem step (l : List S45) (i : Nat) (s : ByteArray) (p : Nat) (e : Int) (k : Nat) (hi : i ≤ 60) (h : mapmakerlaw02_WireReads.l0 k l ((i + 1 : Nat) : Int) s p e s p e = some true) :
    mapmakerlaw02_WireReads.j2 (k + 1) l i s p e s p e = some true := by
  have hw : wrap64 ((i : Int) + 1) = ((i + 1 : Nat) : Int) := by unfold wrap64; omega
  rw [mapmakerlaw02_WireReads.j2]
  simp only [wire_Reader_Left.f, mapmakerref02_Left.f, wire_Reader_Err.f, mapmakerref02_Err.f, Option.bind_some, if_true, wire_Done, ref_Done]
  rw [hw]
  exact h
theorem loop (l : List S45) (hl : l.length ≤ 60) (ok : ∀ x ∈ l, ok_T45 x) (s : ByteArray) (hs : s.size ≤ 2000) : ∀ (j i k p : Nat) (e : Int), i + j = l.length → 2 * j + 40 ≤ k → p ≤ s.size →
    mapmakerlaw02_WireReads.l0 k l i s p e s p e = some true := by
  intro j
  induction j with
  | zero =>
    intro i k p e hi hk hp
    obtain ⟨k, rfl⟩ : ∃ i, k = i + 1 := ⟨k - 1, by omega⟩
    rw [mapmakerlaw02_WireReads.l0, if_neg (show ¬ (i : Int) < (l.length : Int) by omega), wire_Done, ref_Done]
    simp only [Option.bind_some, if_true]
    rfl
  | succ j ih =>
    intro i k p e hi hk hp
    obtain ⟨k, rfl⟩ : ∃ i, k = i + 2 := ⟨k - 2, by omega⟩
    have hs' : s.size ≤ 140737488351232 + 140737488351232 := by omega
    have hm : okI64 (rd_T45 l i).f1 := by
      have hi' : i < l.length := by omega
      have : rd_T45 l i = l[i] := by simp [rd_T45, hi']
      rw [this]
      exact (ok _ (List.getElem_mem hi')).2
    rw [show k + 2 = (k + 1) + 1 from rfl, mapmakerlaw02_WireReads.l0, if_pos (show (i : Int) < (l.length : Int) by omega), if_pos (show (0 : Int) ≤ (i : Int) by omega)]
    have hU := UintS_ok s p e hp
    have hC := CountS_ok s p e _ hm hp
    have hT := TextS_ok s p e _ hm hp
    split
    · rw [ref_Uint s p (k + 1) e hs' hp (by omega), wire_Uint s p (k + 1) e hs' hp (by omega)]
      simp only [Option.bind_some, if_true]
      exact step l i s _ _ k (by omega) (ih (i + 1) k _ _ (by omega) (by omega) hU.1)
    split
    · rw [ref_Int s p (k + 1) e hs' hp (by omega), wire_Int s p (k + 1) e hs' hp (by omega)]
      simp only [Option.bind_some, if_true]
      exact step l i s _ _ k (by omega) (ih (i + 1) k _ _ (by omega) (by omega) hU.1)
    split
    · rw [ref_Count s p (k + 1) e _ hm hs' hp (by omega), wire_Count s p (k + 1) e _ hm hs' hp (by omega)]
      simp only [Option.bind_some, if_true]
      exact step l i s _ _ k (by omega) (ih (i + 1) k _ _ (by omega) (by omega) hC.1)
    · rw [ref_Text s p (k + 1) e _ hm hs' hp (by omega), wire_Text s p (k + 1) e _ hm hs' hp (by omega)]
      simp only [Option.bind_some, if_true]
      exact step l i s _ _ k (by omega) (ih (i + 1) k _ _ (by omega) (by omega) hT)
theorem WireReads : mapmakerlaw02_WireReads.Pure := by
  intro s l h0 h1
  suffices H : ∀ k, 200 ≤ k → mapmakerlaw02_WireReads.f (k + 1) s l = some true from ⟨_, H 200 (Nat.le_refl _)⟩
  intro k hk
  have hl : (mapmakerlaw02_lives.f).bind (fun t => some t) = some true := rfl
  rw [mapmakerlaw02_WireReads.f]
  split
  · rw [mapmakerlaw02_WireReads.j0, if_pos rfl]; exact hl
  · rename_i c0
    by_cases c1 : (l.length : Int) > 60
    · rw [mapmakerlaw02_WireReads.j0, if_pos (decide_eq_true c1)]; exact hl
    · rw [mapmakerlaw02_WireReads.j0, if_neg (by simpa using c1)]
      exact loop l (by omega) h1.2 s (by omega) l.length 0 k 0 0 (by omega) (by omega) (by omega)
end Go.Proofs.Ytnnadgnohchmbaa.Pure
