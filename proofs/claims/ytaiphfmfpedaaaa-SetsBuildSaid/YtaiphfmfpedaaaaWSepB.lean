-- Of the words that print.sh laid for this seat: those that this work names (wip/gen/shrink.py left out the others).
/-
  More words on what a call holds of its own.
-/
import Derived.Test.YtaiphfmfpedaaaaWSep
import Derived.Deep.RegionLaw
import Derived.Test.YtaiphfmfpedaaaaWApart
import Derived.Test.YtaiphfmfpedaaaaWMore
namespace Go.Proofs.YtaiphfmfpedaaaaW.PrintWords.Kd
end Go.Proofs.YtaiphfmfpedaaaaW.PrintWords.Kd
namespace Go.Proofs.YtaiphfmfpedaaaaW.SepW
open Go.RowKit Go.Proofs.YtaiphfmfpedaaaaW.PrintWords
/-- Rows of the call's own, by their headers; no two of them lead to one block. -/
def RowsB {α : Type} (base : Nat) (d : Kd α) (e : Nat) (vs : List Value) (xss : List (List α)) : Thing base where
  P := fun w ok => vs.length = xss.length ∧ ∃ f : Nat → Nat, ∀ (i : Nat) v xs, vs[i]? = some v → xss[i]? = some xs → d.R e w base (fun k => ok k ∧ f k = i) v xs
  mono := fun h hp => ⟨hp.1, hp.2.elim fun f hf => ⟨f, fun i v xs h1 h2 => Kd.R_mono (hf i v xs h1 h2) (fun k hk => ⟨h k hk.1, hk.2⟩)⟩⟩
  bound := fun hp => ⟨hp.1, hp.2.elim fun f hf => ⟨f, fun i v xs h1 h2 => Kd.R_mono (Kd.R_bound (hf i v xs h1 h2)) (fun _ hk => ⟨⟨hk.1.1, hk.2.1, hk.2.2.1⟩, hk.1.2⟩)⟩⟩
  move := fun h hp => ⟨hp.1, hp.2.elim fun f hf => ⟨f, fun i v xs h1 h2 => Kd.R_move (hf i v xs h1 h2) (fun k hk => h k hk.1)⟩⟩
/-- The row at the head among the rows behind it. -/
theorem SepI.rows {α : Type} {base : Nat} {w : World} {L : List (Thing base)} {d : Kd α} {e : Nat} {vs : List Value} {xss : List (List α)} {v : Value} {xs : List α} (F : Nat → Prop) (S : SepI base w (Own base d e v xs :: RowsB base d e vs xss :: L) F) : SepI base w (RowsB base d e (vs ++ [v]) (xss ++ [xs]) :: L) F := by
  obtain ⟨ok, h1, h2, ok2, k1, k2, k3⟩ := S
  have k2' : vs.length = xss.length ∧ ∃ f : Nat → Nat, ∀ (i : Nat) v xs, vs[i]? = some v → xss[i]? = some xs → d.R e w base (fun k => ok2 k ∧ f k = i) v xs := k2
  obtain ⟨kl, f, kf⟩ := k2'
  refine ⟨fun k => ok k ∨ ok2 k, fun k hk => hk.elim (h1 k) (fun hk => ⟨(k1 k hk).1.1, (k1 k hk).2⟩), ⟨by simp [kl], fun k => @ite _ (ok k) (Classical.propDecidable _) vs.length (f k), fun j u ys hu hy => ?_⟩, SepI.mono (fun k hk => ⟨hk.1.1, fun hk' => hk'.elim hk.1.2 hk.2⟩) k3⟩
  rcases Nat.lt_trichotomy j vs.length with hj | hj | hj
  · rw [List.getElem?_append_left hj] at hu
    rw [List.getElem?_append_left (by rw [← kl]; exact hj)] at hy
    exact Kd.R_mono (kf j u ys hu hy) (fun k hk => ⟨.inr hk.1, by show @ite _ (ok k) (Classical.propDecidable _) vs.length (f k) = j; rw [if_neg (k1 k hk.1).1.2]; exact hk.2⟩)
  · subst hj
    have hu' : v = u := by simpa using hu
    rw [kl] at hy
    have hy' : xs = ys := by simpa using hy
    subst hu'; subst hy'
    exact Kd.R_mono (show d.R e w base ok v xs from h2) (fun k hk => ⟨.inl hk, by show @ite _ (ok k) (Classical.propDecidable _) vs.length (f k) = vs.length; rw [if_pos hk]⟩)
  · rw [List.getElem?_eq_none (by simp; omega)] at hu
    cases hu
theorem SepI.under {base : Nat} {w : World} {a : Thing base} {L L' : List (Thing base)} (h : ∀ F, SepI base w L F → SepI base w L' F) (F : Nat → Prop) : SepI base w (a :: L) F → SepI base w (a :: L') F :=
  fun ⟨ok, h1, h2, h3⟩ => ⟨ok, h1, h2, h _ h3⟩
namespace Sep
variable {w0 w w1 : World} {L : List (Thing w0.heap.size)}
theorem under {L' : List (Thing w0.heap.size)} (S : Sep w0 w L) (h : ∀ F, SepI w0.heap.size w L F → SepI w0.heap.size w L' F) : Sep w0 w L' := ⟨S.below, h _ S.items⟩
end Sep
end Go.Proofs.YtaiphfmfpedaaaaW.SepW
