import Derived.Test.YtdkegdnfbpobnaaB1
import Derived.Test.YtdkegdnfbpobnaaPARSx12
import Derived.Test.YtdkegdnfbpobnaaPARSx23
import Derived.Test.YtdkegdnfbpobnaaPARSx24
namespace Go.Proofs.Ytdkegdnfbpobnaa.Hand
open Go.Proofs.YtdkegdnfbpobnaaW Go.RowKit Go.Proofs.YtdkegdnfbpobnaaW.PrintWords Go.Proofs.YtdkegdnfbpobnaaW.PrintLast Go.Proofs.YtdkegdnfbpobnaaW.PrintMore Go.Proofs.YtdkegdnfbpobnaaW.SepW Go.Proofs.Ytdkegdnfbpobnaa.PARS Go.Proofs.Ytdkegdnfbpobnaa.Pl
set_option linter.unusedVariables false
set_option linter.unusedSimpArgs false
/-- A value that reads as these. -/
def Seen {α : Type} (d : Kd α) (w : World) (v : Value) (xs : List α) : Prop := ∃ A c, v = .slice A xs.length c ∧ xs.length ≤ c ∧ d.C w A xs.length xs
theorem Seen.step {α : Type} {d : Kd α} {w w1 : World} {v : Value} {xs : List α} (h : Seen d w v xs) (hb : Below w.heap.size w w1) : Seen d w1 v xs := by
  obtain ⟨A, c, h1, h2, h3⟩ := h
  exact ⟨A, c, h1, h2, Kd.C_below h3 hb⟩
theorem seen_nil {α : Type} (d : Kd α) (w : World) : Seen d w (.slice none 0 0) ([] : List α) := (Kd.R_reads (Kd.R_nil d 0 w 0 (fun _ => True)))
abbrev kL : Kd (List S25) := Kd.slice 25 k25
theorem rdL_at (l : List (List S25)) (i : Nat) (h : i < l.length) : rd_L5 l (i : Int) = l[i] := by simp [rd_L5, h]
def sgn (a : Int) : Int := mn (mx a (-1)) 1
theorem sign_l0 (l : List S25) (hl : l.length ≤ 1099511627776) : ∀ (n i : Nat) (s : Int), i + n = l.length → Ev (fun k => quant_sign.l0 k l s l (l.length : Int) (i : Int)) (sgn (areaN l n i s)) := by
  intro n
  induction n with
  | zero =>
    intro i s h
    refine Ev.step (f := fun _ => some (sgn s)) (fun k => ?_) (Ev.now _)
    rw [quant_sign.l0, if_neg (by omega)]
    rfl
  | succ n ih =>
    intro i s h
    have hi : i < l.length := by omega
    have hm : (i + 1) % l.length < l.length := Nat.mod_lt _ (by omega)
    refine Ev.step (fun k => ?_) (ih (i + 1) (wrap64 (s + wrap64 (wrap64 ((rd_T25 l (i : Int)).f0 * (nxt l i).f1) - wrap64 ((rd_T25 l (i : Int)).f1 * (nxt l i).f0)))) (by omega))
    rw [quant_sign.l0, area_idx l i hi hl, if_pos (by omega), if_pos (by omega), if_pos (by omega), if_neg (by omega), if_pos (by omega), if_pos (by omega), w_suc hi (by omega)]
    rfl
theorem sign_ev (l : List S25) (hl : l.length ≤ 1099511627776) : Ev (fun k => quant_sign.f k l) (sgn (area l)) := sign_l0 l hl l.length 0 0 (by omega)
theorem wrap_acc (s a b : Int) : wrap64 (wrap64 (s + a) - b) = wrap64 (s + wrap64 (a - b)) := by unfold wrap64; omega
theorem rarea_l0 (l : List S25) (hl : l.length ≤ 1099511627776) : ∀ (n i : Nat) (s : Int), i + n = l.length → Ev (fun k => mapmakerref29_area2.l0 k l s (i : Int)) (areaN l n i s) := by
  intro n
  induction n with
  | zero =>
    intro i s h
    refine Ev.step (f := fun _ => some s) (fun k => ?_) (Ev.now _)
    rw [mapmakerref29_area2.l0, if_neg (by omega)]
  | succ n ih =>
    intro i s h
    have hi : i < l.length := by omega
    have hm : (i + 1) % l.length < l.length := Nat.mod_lt _ (by omega)
    refine Ev.step (fun k => ?_) (ih (i + 1) (wrap64 (s + wrap64 (wrap64 ((rd_T25 l (i : Int)).f0 * (nxt l i).f1) - wrap64 ((rd_T25 l (i : Int)).f1 * (nxt l i).f0)))) (by omega))
    rw [mapmakerref29_area2.l0, area_idx l i hi hl, if_pos (by omega), if_neg (by omega), if_pos (by omega), if_pos (by omega), if_pos (by omega), w_suc hi (by omega), wrap_acc]
    rfl
theorem rarea_ev (l : List S25) (hl : l.length ≤ 1099511627776) : Ev (fun k => mapmakerref29_area2.f k l) (area l) := rarea_l0 l hl l.length 0 0 (by omega)
theorem areaS_N (l : List S25) : ∀ (n i : Nat) (s : Int), areaS l n i s = areaN l n i s
  | 0, _, _ => rfl
  | n + 1, i, s => by rw [areaS, areaN, areaS_N l n (i + 1)]; rfl
/-- The area of a ring that came in. -/
def parea (l : List S25) : Int := if l.all validP = true then area l else 0
theorem parea_f (l : List S25) (hl : l.length ≤ 1000000) : poly_Area2.f l = some (parea l) := by
  unfold poly_Area2.f parea
  rw [if_pos (by omega), areaS_N]
  rfl
theorem rparea_l0 (l : List S25) (hl : l.length ≤ 1099511627776) (hv : l.all validP = true) : ∀ (n i : Nat) (s : Int), i + n = l.length → Ev (fun k => mapmakerref11_Area2.l0 k l s (i : Int)) (areaN l n i s) := by
  intro n
  induction n with
  | zero =>
    intro i s h
    refine Ev.step (f := fun _ => some s) (fun k => ?_) (Ev.now _)
    rw [mapmakerref11_Area2.l0, if_neg (by omega)]
  | succ n ih =>
    intro i s h
    have hi : i < l.length := by omega
    have hm : (i + 1) % l.length < l.length := Nat.mod_lt _ (by omega)
    refine Ev.step (f := fun k => (mapmakerref08_All.f k l).bind fun t => if t = true then mapmakerref11_Area2.l0 k l (wrap64 (s + wrap64 (wrap64 ((rd_T25 l (i : Int)).f0 * (nxt l i).f1) - wrap64 ((rd_T25 l (i : Int)).f1 * (nxt l i).f0)))) ((i + 1 : Nat) : Int) else some s) (fun k => ?_) (Ev.bind (ref_all_ev l hl) (Ev.congr (fun k => if_pos hv) (ih (i + 1) _ (by omega))))
    rw [mapmakerref11_Area2.l0, if_pos (by omega), area_idx l i hi hl, if_pos (by omega), if_neg (by omega), if_pos (by omega), if_pos (by omega), w_suc hi (by omega), wrap_acc]
    rfl
theorem rparea_ev (l : List S25) (hl : l.length ≤ 1099511627776) : Ev (fun k => mapmakerref11_Area2.f k l) (parea l) := by
  unfold parea
  by_cases hv : l.all validP = true
  · rw [if_pos hv]
    exact rparea_l0 l hl hv l.length 0 0 (by omega)
  · rw [if_neg hv]
    by_cases h0 : l.length = 0
    · exact absurd (by rw [List.length_eq_zero_iff.1 h0]; rfl) hv
    · refine Ev.step (f := fun k => (mapmakerref08_All.f k l).bind fun t => if t = true then none else some (0 : Int)) (fun k => ?_) (Ev.bind (ref_all_ev l hl) (Ev.congr (fun k => if_neg hv) (Ev.now _)))
      show mapmakerref11_Area2.l0 (k + 1) l 0 0 = _
      rw [mapmakerref11_Area2.l0, if_pos (by omega)]
      cases h : mapmakerref08_All.f k l with
      | none => rfl
      | some t =>
        cases t with
        | false => rfl
        | true =>
          exfalso
          obtain ⟨K, hK⟩ := ref_all_ev l hl
          have h1 := more_rounds (g := fun k => mapmakerref08_All.f k l) (mapmakerref08_All.mono l) k (K + k - k) true h
          rw [show k + (K + k - k) = K + k by omega, show mapmakerref08_All.f (K + k) l = some (l.all validP) from hK _ (by omega)] at h1
          exact hv (Option.some.inj h1)
/-! ### contracts without rounds -/
theorem ev_rounds {α : Type} {g : Nat → Option α} {r : α} (h : Ev g r) : ∃ k, g k = some r := h.elim (fun K hK => ⟨K, hK K (Nat.le_refl _)⟩)
variable {w : World}
theorem box_s (z x y : Int) (w : World) : Calls Try.prog 20 #[.agg #[.int .i64 z, .int .i64 x, .int .i64 y]] w fun e w' => e = .returned (.tuple #[.agg #[.int .i64 (box z x y).1, .int .i64 (box z x y).2.1, .int .i64 (box z x y).2.2.1, .int .i64 (box z x y).2.2.2.1], .int .i64 (box z x y).2.2.2.2]) ∧ Below w.heap.size w w' :=
  tilegrid_Box.calls z x y _ _ _ _ _ w (box_f z x y)
theorem rbox_s (z x y : Int) (w : World) : Calls Try.prog 22 #[.agg #[.int .i64 z, .int .i64 x, .int .i64 y]] w fun e w' => e = .returned (.tuple #[.agg #[.int .i64 (box z x y).1, .int .i64 (box z x y).2.1, .int .i64 (box z x y).2.2.1, .int .i64 (box z x y).2.2.2.1], .int .i64 (box z x y).2.2.2.2]) ∧ Below w.heap.size w w' := by
  obtain ⟨k, hk⟩ := ev_rounds (ref_box_ev z x y)
  exact mapmakerref28_Box.calls k z x y _ _ _ _ _ w hk
theorem ring_s (l : List S25) (b0 b1 b2 b3 : Int) (v : Value) (w : World) (h : Seen k25 w v l) (hl : l.length ≤ 1000000) :
    Calls Try.prog 33 #[v, .agg #[.int .i64 b0, .int .i64 b1, .int .i64 b2, .int .i64 b3]] w fun e w' => ∃ u, e = .returned u ∧ Kd.R k25 25 w' w.heap.size (fun _ => True) u (ring l b0 b1 b2 b3) ∧ Below w.heap.size w w' := by
  obtain ⟨A, c, rfl, h2, h3⟩ := h
  obtain ⟨k, hk⟩ := ev_rounds (ring_ev l b0 b1 b2 b3 (by omega))
  exact clip_Ring.calls k A c l b0 b1 b2 b3 _ w h3 h2 hk
theorem rring_s (l : List S25) (b0 b1 b2 b3 : Int) (v : Value) (w : World) (h : Seen k25 w v l) (hl : l.length ≤ 1000000) :
    Calls Try.prog 37 #[v, .agg #[.int .i64 b0, .int .i64 b1, .int .i64 b2, .int .i64 b3]] w fun e w' => ∃ u, e = .returned u ∧ Kd.R k25 25 w' w.heap.size (fun _ => True) u (ring l b0 b1 b2 b3) ∧ Below w.heap.size w w' := by
  obtain ⟨A, c, rfl, h2, h3⟩ := h
  obtain ⟨k, hk⟩ := ev_rounds (ref_ring_ev l b0 b1 b2 b3 (by omega))
  exact (mapmakerref12_Ring.calls k (fun k => k < w.heap.size) A c l b0 b1 b2 b3 _ w (Kd.V_mk h2 (Kd.C_F (Kd.heap_iso _ (Kd.heap_pair (Kd.heap_int _) (Kd.heap_int _))) h3)) hk).mono fun e w' ⟨u, h1, h4, h5⟩ => ⟨u, h1, Kd.R_mono h4 (fun _ _ => trivial), h5⟩
theorem points_s (z x y : Int) (l : List S25) (v : Value) (w : World) (h : Seen k25 w v l) (hl : l.length ≤ 1000000000) :
    Calls Try.prog 28 #[.agg #[.int .i64 z, .int .i64 x, .int .i64 y], v] w fun e w' => ∃ u, e = .returned u ∧ Kd.R k25 25 w' w.heap.size (fun _ => True) u (l.map (pt z x y)) ∧ Below w.heap.size w w' := by
  obtain ⟨A, c, rfl, h2, h3⟩ := h
  obtain ⟨k, hk⟩ := ev_rounds (points_ev z x y l (by omega))
  exact quant_points.calls k z x y A c l _ w h3 h2 hk
theorem rpoints_s (z x y : Int) (l : List S25) (v : Value) (w : World) (h : Seen k25 w v l) (hl : l.length ≤ 1000000000) :
    Calls Try.prog 31 #[.agg #[.int .i64 z, .int .i64 x, .int .i64 y], v] w fun e w' => ∃ u, e = .returned u ∧ Kd.R k25 25 w' w.heap.size (fun _ => True) u (l.map (pt z x y)) ∧ Below w.heap.size w w' := by
  obtain ⟨A, c, rfl, h2, h3⟩ := h
  obtain ⟨k, hk⟩ := ev_rounds (ref_points_ev z x y l (by omega))
  exact mapmakerref29_points.calls k z x y A c l _ w h3 h2 hk
theorem tring_s (l : List S25) (v : Value) (w : World) (h : Seen k25 w v l) (hl : l.length ≤ 1000000000) :
    Calls Try.prog 32 #[v] w fun e w' => ∃ u, e = .returned u ∧ Kd.R k25 25 w' w.heap.size (fun _ => True) u (tidyRing (tidy l)) ∧ Below w.heap.size w w' := by
  obtain ⟨A, c, rfl, h2, h3⟩ := h
  obtain ⟨k, hk⟩ := ev_rounds (tidyRing_ev l (by omega))
  exact clip_TidyRing.calls k A c l _ w h3 h2 hk
theorem rtring_s (l : List S25) (v : Value) (w : World) (h : Seen k25 w v l) (hl : l.length ≤ 1000000000) :
    Calls Try.prog 36 #[v] w fun e w' => ∃ u, e = .returned u ∧ Kd.R k25 25 w' w.heap.size (fun _ => True) u (tidyRing (tidy l)) ∧ Below w.heap.size w w' := by
  obtain ⟨A, c, rfl, h2, h3⟩ := h
  obtain ⟨k, hk⟩ := ev_rounds (ref_tidyRing_ev l (by omega))
  exact mapmakerref12_TidyRing.calls k A c l _ w h3 h2 hk
theorem sign_s (l : List S25) (v : Value) (w : World) (h : Seen k25 w v l) (hl : l.length ≤ 1000000000) :
    Calls Try.prog 34 #[v] w fun e w' => e = .returned (.int .i64 (sgn (area l))) ∧ Below w.heap.size w w' := by
  obtain ⟨A, c, rfl, h2, h3⟩ := h
  obtain ⟨k, hk⟩ := ev_rounds (sign_ev l (by omega))
  exact quant_sign.calls k A c l _ w h3 h2 hk
theorem rarea_s (l : List S25) (v : Value) (w : World) (h : Seen k25 w v l) (hl : l.length ≤ 1000000000) :
    Calls Try.prog 38 #[v] w fun e w' => e = .returned (.int .i64 (area l)) ∧ Below w.heap.size w w' := by
  obtain ⟨A, c, rfl, h2, h3⟩ := h
  obtain ⟨k, hk⟩ := ev_rounds (rarea_ev l (by omega))
  exact mapmakerref29_area2.calls k A c l _ w h3 h2 hk
theorem parea_s (l : List S25) (v : Value) (w : World) (h : Seen k25 w v l) (hl : l.length ≤ 1000000) :
    Calls Try.prog 35 #[v] w fun e w' => e = .returned (.int .i64 (parea l)) ∧ Below w.heap.size w w' := by
  obtain ⟨A, c, rfl, h2, h3⟩ := h
  exact poly_Area2.calls A c l _ w h3 h2 (parea_f l hl)
theorem rparea_s (l : List S25) (v : Value) (w : World) (h : Seen k25 w v l) (hl : l.length ≤ 1000000) :
    Calls Try.prog 39 #[v] w fun e w' => e = .returned (.int .i64 (parea l)) ∧ Below w.heap.size w w' := by
  obtain ⟨A, c, rfl, h2, h3⟩ := h
  obtain ⟨k, hk⟩ := ev_rounds (rparea_ev l (by omega))
  exact mapmakerref11_Area2.calls k A c l _ w h3 h2 hk
/-! ### what the two answer -/
def ringQ (z x y : Int) (r : List S25) : List S25 := tidyRing (tidy ((ring r (box z x y).1 (box z x y).2.1 (box z x y).2.2.1 (box z x y).2.2.2.1).map (pt z x y)))
def keepQ (z x y : Int) (r : List S25) : Prop := sgn (area (ringQ z x y r)) ≠ 0 ∧ sgn (area (ringQ z x y r)) = sgn (parea r)
instance (z x y : Int) (r : List S25) : Decidable (keepQ z x y r) := by unfold keepQ; infer_instance
def areasQ (z x y : Int) : List (List S25) → List (List S25)
  | [] => []
  | r :: t => if keepQ z x y r then ringQ z x y r :: areasQ z x y t else areasQ z x y t
def areaQ (z x y : Int) (rings : List (List S25)) : List (List S25) := if (box z x y).2.2.2.2 = 0 then areasQ z x y rings else []
theorem sgn_cases (a : Int) : (0 < a ∧ sgn a = 1) ∨ (a < 0 ∧ sgn a = -1) ∨ (a = 0 ∧ sgn a = 0) := by
  unfold sgn mn mx
  rcases Int.lt_trichotomy a 0 with h | h | h
  · refine .inr (.inl ⟨h, ?_⟩)
    repeat' split
    all_goals omega
  · subst h
    exact .inr (.inr ⟨rfl, by decide⟩)
  · refine .inl ⟨h, ?_⟩
    repeat' split
    all_goals omega
theorem keep_iff (z x y : Int) (r : List S25) : keepQ z x y r ↔ (0 < area (ringQ z x y r) ∧ 0 < parea r) ∨ (area (ringQ z x y r) < 0 ∧ parea r < 0) := by
  unfold keepQ
  have h1 := sgn_cases (area (ringQ z x y r))
  have h2 := sgn_cases (parea r)
  omega
theorem ringQ_len (z x y : Int) (r : List S25) : (ringQ z x y r).length ≤ r.length * 16 := by
  have h1 := ring_length r (box z x y).1 (box z x y).2.1 (box z x y).2.2.1 (box z x y).2.2.2.1
  have h2 := tidy_length ((ring r (box z x y).1 (box z x y).2.1 (box z x y).2.2.1 (box z x y).2.2.2.1).map (pt z x y))
  rw [List.length_map] at h2
  have h3 := trim_length (tidy ((ring r (box z x y).1 (box z x y).2.1 (box z x y).2.2.1 (box z x y).2.2.2.1).map (pt z x y))).length (tidy ((ring r (box z x y).1 (box z x y).2.1 (box z x y).2.2.1 (box z x y).2.2.2.1).map (pt z x y)))
  unfold ringQ tidyRing
  split
  · exact Nat.zero_le _
  · omega
theorem area_nil : area [] = 0 := rfl
theorem areasQ_at {z x y : Int} {l : List (List S25)} {i : Nat} (h : i < l.length) : areasQ z x y (l.drop i) = if keepQ z x y l[i] then ringQ z x y l[i] :: areasQ z x y (l.drop (i + 1)) else areasQ z x y (l.drop (i + 1)) := by
  rw [List.drop_eq_getElem_cons h, areasQ]
theorem areasQ_len (z x y : Int) : ∀ l : List (List S25), (areasQ z x y l).length ≤ l.length
  | [] => Nat.le_refl _
  | r :: t => by
    have := areasQ_len z x y t
    rw [areasQ]
    split
    · simp only [List.length_cons]; omega
    · simp only [List.length_cons]; omega
theorem areasQ_mem {z x y : Int} : ∀ {l : List (List S25)} {p : List S25}, p ∈ areasQ z x y l → ∃ r ∈ l, p = ringQ z x y r ∧ keepQ z x y r
  | r :: t, p, h => by
    rw [areasQ] at h
    split at h
    · rename_i hk
      rcases List.mem_cons.1 h with rfl | h
      · exact ⟨r, List.mem_cons_self .., rfl, hk⟩
      · obtain ⟨r', h1, h2⟩ := areasQ_mem h
        exact ⟨r', List.mem_cons_of_mem _ h1, h2⟩
    · obtain ⟨r', h1, h2⟩ := areasQ_mem h
      exact ⟨r', List.mem_cons_of_mem _ h1, h2⟩
end Go.Proofs.Ytdkegdnfbpobnaa.Hand
