/-
  More words on what a call holds of its own.
-/
import Derived.Test.YtpfmebpalejadaaWSep
import Derived.Deep.RegionLaw
import Derived.Test.YtpfmebpalejadaaWApart
import Derived.Test.YtpfmebpalejadaaWMore
namespace Go.Proofs.YtpfmebpalejadaaW.PrintWords.Kd
/-- A row that is only read lies in its footprint, if it has an element. -/
theorem V_block {α : Type} {d : Kd α} {e base : Nat} {W : World} {ok : Nat → Prop} {ad : Addr} {n c : Nat} {xs : List α} {g : Nat} (h : V d e W base ok (.slice (some ad) n c) xs) (hs : 0 < d.sz) (hn : 0 < n) (hok : ∀ k, ok k → k ≠ g) : ad.block ≠ g := by
  obtain ⟨hl, _, _⟩ := V_at h
  cases xs with
  | nil => simp at hl; omega
  | cons z t =>
    obtain ⟨ad', c', he, _, _, _, hb⟩ := F_get (V_F h) z 0 (by omega) (by omega)
    injection he with he
    subst he
    exact hok _ (hb hs)
end Go.Proofs.YtpfmebpalejadaaW.PrintWords.Kd
namespace Go.Proofs.YtpfmebpalejadaaW.SepW
open Go.RowKit Go.Proofs.YtpfmebpalejadaaW.PrintWords
/-- Rows of the call's own, by their headers; no two of them lead to one block. -/
def RowsB {α : Type} (base : Nat) (d : Kd α) (e : Nat) (vs : List Value) (xss : List (List α)) : Thing base where
  P := fun w ok => vs.length = xss.length ∧ ∃ f : Nat → Nat, ∀ (i : Nat) v xs, vs[i]? = some v → xss[i]? = some xs → d.R e w base (fun k => ok k ∧ f k = i) v xs
  mono := fun h hp => ⟨hp.1, hp.2.elim fun f hf => ⟨f, fun i v xs h1 h2 => Kd.R_mono (hf i v xs h1 h2) (fun k hk => ⟨h k hk.1, hk.2⟩)⟩⟩
  bound := fun hp => ⟨hp.1, hp.2.elim fun f hf => ⟨f, fun i v xs h1 h2 => Kd.R_mono (Kd.R_bound (hf i v xs h1 h2)) (fun _ hk => ⟨⟨hk.1.1, hk.2.1, hk.2.2.1⟩, hk.1.2⟩)⟩⟩
  move := fun h hp => ⟨hp.1, hp.2.elim fun f hf => ⟨f, fun i v xs h1 h2 => Kd.R_move (hf i v xs h1 h2) (fun k hk => h k hk.1)⟩⟩
/-- What stood before a variable was made stands behind it. -/
theorem alloc_old {w : World} {k : Nat} {c : _} (h : k < w.heap.size) : (w.alloc c).heap[k]? = w.heap[k]? := (below_alloc (Below.refl w.heap.size w) c).block k h
/-- A variable that was made ahead of a call stands behind it. -/
theorem alloc_kept {wr w9 : World} {o : Obj} (hb : Below (wr.drew.alloc o).heap.size (wr.drew.alloc o) w9) : w9.heap[wr.heap.size]? = some o := (hb.block wr.heap.size (by simp)).trans (blk_new wr.drew _)
/-- Two. -/
theorem alloc_kept2 {wr w9 : World} {o o2 : Obj} (hb : Below ((wr.drew.alloc o).alloc o2).heap.size ((wr.drew.alloc o).alloc o2) w9) : w9.heap[wr.heap.size]? = some o ∧ w9.heap[wr.heap.size + 1]? = some o2 := by
  have h_ := blk_new (wr.drew.alloc o) o2
  exact ⟨(hb.block wr.heap.size (by simp; omega)).trans ((alloc_old (by simp)).trans (blk_new wr.drew _)), (hb.block (wr.heap.size + 1) (by simp)).trans (by simpa using h_)⟩
/-- What a walk asks of a variable of two cells. -/
theorem two_cells {w : World} {g t : Nat} {z0 z1 : Value} (h : w.heap[g]? = some (.cells #[z0, z1] t (0, 0))) : w.cell? ⟨g, 0, none⟩ = some z0 ∧ w.cell? ⟨g, 1, none⟩ = some z1 ∧ w.frozen? ⟨g, 0, none⟩ = false ∧ w.frozen? ⟨g, 1, none⟩ = false := by
  have h0 := blk_cell h 0
  have h1 := blk_cell h 1
  exact ⟨h0, h1, blk_frozen h 0, blk_frozen h 1⟩
/-- The same behind one more variable, and of that variable behind stores into the first. -/
theorem two_cells_new {w : World} {g t : Nat} {z0 z1 : Value} (h : w.heap[g]? = some (.cells #[z0, z1] t (0, 0))) (y0 y1 : Value) :
    (∀ o, (w.alloc o).cell? ⟨g, 0, none⟩ = some z0) ∧ (∀ o, (w.alloc o).cell? ⟨g, 1, none⟩ = some z1) ∧ (∀ o, (w.alloc o).frozen? ⟨g, 0, none⟩ = false) ∧ (∀ o, (w.alloc o).frozen? ⟨g, 1, none⟩ = false) ∧
    (g ≠ w.heap.size) ∧ (w.heap.size ≠ g) ∧
    (∀ u0 u1, (((w.alloc (.cells #[y0, y1] t (0, 0))).setCell ⟨g, 0, none⟩ u0).setCell ⟨g, 1, none⟩ u1).cell? ⟨w.heap.size, 0, none⟩ = some y0) ∧
    (∀ u0 u1, (((w.alloc (.cells #[y0, y1] t (0, 0))).setCell ⟨g, 0, none⟩ u0).setCell ⟨g, 1, none⟩ u1).cell? ⟨w.heap.size, 1, none⟩ = some y1) ∧
    (∀ u0 u1, (((w.alloc (.cells #[y0, y1] t (0, 0))).setCell ⟨g, 0, none⟩ u0).setCell ⟨g, 1, none⟩ u1).frozen? ⟨w.heap.size, 0, none⟩ = false) ∧
    (∀ u0 u1, (((w.alloc (.cells #[y0, y1] t (0, 0))).setCell ⟨g, 0, none⟩ u0).setCell ⟨g, 1, none⟩ u1).frozen? ⟨w.heap.size, 1, none⟩ = false) := by
  have hN := fun u0 u1 => two_cells (blk_far (p := ⟨g, 1, none⟩) (blk_far (p := ⟨g, 0, none⟩) (blk_new w (.cells #[y0, y1] t (0, 0))) (Nat.ne_of_gt (blk_lt h)) u0) (Nat.ne_of_gt (blk_lt h)) u1)
  have hO := fun o => two_cells ((alloc_old (c := o) (blk_lt h)).trans h)
  exact ⟨fun o => (hO o).1, fun o => (hO o).2.1, fun o => (hO o).2.2.1, fun o => (hO o).2.2.2, Nat.ne_of_lt (blk_lt h), Nat.ne_of_gt (blk_lt h), fun u0 u1 => (hN u0 u1).1, fun u0 u1 => (hN u0 u1).2.1, fun u0 u1 => (hN u0 u1).2.2.1, fun u0 u1 => (hN u0 u1).2.2.2⟩
theorem pw_drawn_below {w w' : World} (h : Drawn0 w w') : Below w.heap.size w w' := by first | exact h.below | (obtain ⟨n, rfl⟩ := h; exact pw_below_drewN (Below.refl _ _) n)
theorem alloc_cell {w : World} {a : Addr} {v : Value} (h : w.cell? a = some v) (o : Obj) : (w.alloc o).cell? a = some v := pw_cell_below (below_alloc (Below.refl _ _) o) h
/-- The row at the head among the rows behind it. -/
theorem SepI.rows {α : Type} {base : Nat} {w : World} {L : List (Thing base)} {d : Kd α} {e : Nat} {vs : List Value} {xss : List (List α)} {v : Value} {xs : List α} (F : Nat → Prop) (S : SepI base w (Own base d e v xs :: RowsB base d e vs xss :: L) F) : SepI base w (RowsB base d e (vs ++ [v]) (xss ++ [xs]) :: L) F := by
  obtain ⟨ok, h1, h2, ok2, k1, k2, k3⟩ := S
  have k2' : vs.length = xss.length ∧ ∃ f : Nat → Nat, ∀ (i : Nat) v xs, vs[i]? = some v → xss[i]? = some xs → d.R e w base (fun k => ok2 k ∧ f k = i) v xs := k2
  obtain ⟨kl, f, kf⟩ := k2'
  refine ⟨fun k => ok k ∨ ok2 k, fun k hk => hk.elim (h1 k) (fun hk => ⟨(k1 k hk).1.1, (k1 k hk).2⟩), ⟨by simp [kl], fun k => @ite _ (ok k) (Classical.propDecidable _) vs.length (f k), fun j u ys hu hy => ?_⟩, SepI.mono (fun k hk => ⟨hk.1.1, fun hk' => hk'.elim hk.1.2 hk.2⟩) k3⟩
  rcases Nat.lt_trichotomy j vs.length with hj | hj | hj
  · rw [List.getElem?_append_left hj] at hu
    rw [List.getElem?_append_left (by rw [← kl]; exact hj)] at hy
    exact Kd.R_mono (kf j u ys hu hy) (fun k hk => ⟨.inr hk.1, by show @ite _ (ok k) (Classical.propDecidable _) vs.length (f k) = j; rw [if_neg (k1 k hk.1).1.2]; exact hk.2⟩)
  · subst hj
    have hu' : v = u := by simpa using hu
    rw [kl] at hy
    have hy' : xs = ys := by simpa using hy
    subst hu'; subst hy'
    exact Kd.R_mono (show d.R e w base ok v xs from h2) (fun k hk => ⟨.inl hk, by show @ite _ (ok k) (Classical.propDecidable _) vs.length (f k) = vs.length; rw [if_pos hk]⟩)
  · rw [List.getElem?_eq_none (by simp; omega)] at hu
    cases hu
theorem SepI.under {base : Nat} {w : World} {a : Thing base} {L L' : List (Thing base)} (h : ∀ F, SepI base w L F → SepI base w L' F) (F : Nat → Prop) : SepI base w (a :: L) F → SepI base w (a :: L') F :=
  fun ⟨ok, h1, h2, h3⟩ => ⟨ok, h1, h2, h _ h3⟩
namespace Sep
variable {w0 w w1 : World} {L : List (Thing w0.heap.size)}
theorem perm3 {a b c : Thing w0.heap.size} {l : List (Thing w0.heap.size)} (S : Sep w0 w (a :: b :: c :: l)) : Sep w0 w (a :: c :: b :: l) := by
  have h1 := S.swap
  obtain ⟨hb, ok, h1, h2, h3⟩ := S
  obtain ⟨ok2, k1, k2, ok3, m1, m2, m3⟩ := h3
  exact ⟨hb, ok, h1, h2, ok3, fun k hk => ⟨(m1 k hk).1.1, (m1 k hk).2⟩, m2, ok2, fun k hk => ⟨⟨(k1 k hk).1, fun hk' => (m1 k hk').1.2 hk⟩, (k1 k hk).2⟩, k2, SepI.mono (fun k hk => ⟨⟨hk.1.1, hk.2⟩, hk.1.2⟩) m3⟩
theorem under {L' : List (Thing w0.heap.size)} (S : Sep w0 w L) (h : ∀ F, SepI w0.heap.size w L F → SepI w0.heap.size w L' F) : Sep w0 w L' := ⟨S.below, h _ S.items⟩
/-- A header's cell. -/
theorem hdr_at {e g m c : Nat} {vs : List Value} (S : Sep w0 w L) (n : Nat) (h : L[n]? = some (Hdr _ e (.slice (some ⟨g, 0, none⟩) m c) vs)) (i : Nat) {u : Value} (hi : vs[i]? = some u) : w.cell? ⟨g, i, none⟩ = some u ∧ w.frozen? ⟨g, i, none⟩ = false := by
  obtain ⟨g', c', he, h1, h2⟩ := S.hdr_cells n h (by have := (List.getElem?_eq_some_iff.1 hi).1; omega)
  injection he with he1 he2 he3
  injection he1 with he1
  injection he1 with he1
  subst he1
  exact ⟨h1 i u hi, h2 i⟩
/-- A header is written over. -/
theorem hdr_put {e g m c : Nat} {vs : List Value} (S : Sep w0 w L) (n : Nat) (h : L[n]? = some (Hdr _ e (.slice (some ⟨g, 0, none⟩) m c) vs)) (i : Nat) (u : Value) :
    Sep w0 (w.setCell ⟨g, i, none⟩ u) (L.set n (Hdr _ e (.slice (some ⟨g, 0, none⟩) m c) (vs.set i u))) := by
  obtain ⟨A', c', he⟩ := S.hdr_form n h
  injection he with he1 he2 he3
  subst he2
  exact S.hdr_set n h i u
/-- Headers and rows are as many. -/
theorem rowsB_len {α : Type} {d : Kd α} {e : Nat} {vs : List Value} {xss : List (List α)} (S : Sep w0 w L) (n : Nat) (h : L[n]? = some (RowsB _ d e vs xss)) : vs.length = xss.length := by
  obtain ⟨ok, hp⟩ := SepI.get n S.items h
  exact hp.1
/-- The row at the end among the rows, behind a row of headers. -/
theorem rows1 {α : Type} {d : Kd α} {e : Nat} {i : Thing w0.heap.size} {vs : List Value} {xss : List (List α)} {v : Value} {xs : List α} (S : Sep w0 w (i :: Own _ d e v xs :: RowsB _ d e vs xss :: L)) : Sep w0 w (i :: RowsB _ d e (vs ++ [v]) (xss ++ [xs]) :: L) :=
  S.under (SepI.under SepI.rows)
theorem rowsB_nil {α : Type} (S : Sep w0 w L) (d : Kd α) (e : Nat) : Sep w0 w (RowsB _ d e [] ([] : List (List α)) :: L) :=
  S.new (Below.refl _ _) (i := RowsB _ d e [] ([] : List (List α))) ⟨rfl, fun _ => 0, fun i v xs h1 _ => by simp at h1⟩
/-- Headers and rows together: a row of rows, no two of which lead to one block. -/
theorem joinedS {α : Type} {d : Kd α} {e e2 : Nat} {v : Value} {vs : List Value} {xss : List (List α)} (S : Sep w0 w (Hdr _ e2 v vs :: RowsB _ d e vs xss :: L)) : Kd.S (Kd.slice e d) e2 w w0.heap.size (fun _ => True) v xss := by
  obtain ⟨hb, ok, h1, h2, ok2, k1, k2, k3⟩ := S
  have h2' : (∀ k, v.ownBlock = some k → ok k) ∧ w.ownsRow w0.heap.size e2 1 v vs.length vs := h2
  have k2' : vs.length = xss.length ∧ ∃ f : Nat → Nat, ∀ (i : Nat) v xs, vs[i]? = some v → xss[i]? = some xs → d.R e w w0.heap.size (fun k => ok2 k ∧ f k = i) v xs := k2
  obtain ⟨kl, f, kf⟩ := k2'
  refine ⟨f, fun _ _ => trivial, vs, ?_, ⟨?_, fun j p hj => ?_⟩⟩
  · rw [List.length_zipIdx, ← kl]
    exact h2'.2
  · show vs.length = xss.zipIdx.length * 1
    rw [List.length_zipIdx]
    omega
  · rw [List.getElem?_zipIdx, Option.map_eq_some_iff] at hj
    obtain ⟨q, hq, rfl⟩ := hj
    have hl : j < vs.length := by
      have := (List.getElem?_eq_some_iff.1 hq).1
      omega
    refine ⟨vs[j], ?_, Kd.R_mono (kf j vs[j] q (List.getElem?_eq_getElem hl) hq) (fun k hk => ⟨⟨trivial, fun he => (k1 k hk.1).1.2 (h2'.1 k he.symm)⟩, by rw [hk.2]; simp⟩)⟩
    show (vs.drop (j * 1)).take 1 = [vs[j]]
    rw [Nat.mul_one, List.drop_eq_getElem_cons hl]
    rfl
end Sep
end Go.Proofs.YtpfmebpalejadaaW.SepW
