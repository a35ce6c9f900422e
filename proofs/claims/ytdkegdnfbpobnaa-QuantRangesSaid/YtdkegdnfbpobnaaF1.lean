import Derived.Test.YtdkegdnfbpobnaaE1
import Derived.Test.YtdkegdnfbpobnaaPARSx12
import Derived.Test.YtdkegdnfbpobnaaPARSx27
namespace Go.Proofs.Ytdkegdnfbpobnaa.Hand
open Go.Proofs.YtdkegdnfbpobnaaW Go.RowKit Go.Proofs.YtdkegdnfbpobnaaW.PrintWords Go.Proofs.YtdkegdnfbpobnaaW.PrintLast Go.Proofs.YtdkegdnfbpobnaaW.PrintMore Go.Proofs.YtdkegdnfbpobnaaW.SepW Go.Proofs.Ytdkegdnfbpobnaa.PARS Go.Proofs.Ytdkegdnfbpobnaa.Pl
set_option linter.unusedVariables false
set_option linter.unusedSimpArgs false
/-- A value that reads as these. -/
def Seen {α : Type} (d : Kd α) (w : World) (v : Value) (xs : List α) : Prop := ∃ A c, v = .slice A xs.length c ∧ xs.length ≤ c ∧ d.C w A xs.length xs
theorem Seen.step {α : Type} {d : Kd α} {w w1 : World} {v : Value} {xs : List α} (h : Seen d w v xs) (hb : Below w.heap.size w w1) : Seen d w1 v xs := by
  obtain ⟨A, c, h1, h2, h3⟩ := h
  exact ⟨A, c, h1, h2, Kd.C_below h3 hb⟩
theorem seen_nil {α : Type} (d : Kd α) (w : World) : Seen d w (.slice none 0 0) ([] : List α) := (Kd.R_reads (Kd.R_nil d 0 w 0 (fun _ => True)))
abbrev kL : Kd (List S25) := Kd.slice 25 k25
theorem rdL_at (l : List (List S25)) (i : Nat) (h : i < l.length) : rd_L5 l (i : Int) = l[i] := by simp [rd_L5, h]
def sgn (a : Int) : Int := mn (mx a (-1)) 1
theorem sign_l0 (l : List S25) (hl : l.length ≤ 1099511627776) : ∀ (n i : Nat) (s : Int), i + n = l.length → Ev (fun k => quant_sign.l0 k l s l (l.length : Int) (i : Int)) (sgn (areaN l n i s)) := by
  intro n
  induction n with
  | zero =>
    intro i s h
    refine Ev.step (f := fun _ => some (sgn s)) (fun k => ?_) (Ev.now _)
    rw [quant_sign.l0, if_neg (by omega)]
    rfl
  | succ n ih =>
    intro i s h
    have hi : i < l.length := by omega
    have hm : (i + 1) % l.length < l.length := Nat.mod_lt _ (by omega)
    refine Ev.step (fun k => ?_) (ih (i + 1) (wrap64 (s + wrap64 (wrap64 ((rd_T25 l (i : Int)).f0 * (nxt l i).f1) - wrap64 ((rd_T25 l (i : Int)).f1 * (nxt l i).f0)))) (by omega))
    rw [quant_sign.l0, area_idx l i hi hl, if_pos (by omega), if_pos (by omega), if_pos (by omega), if_neg (by omega), if_pos (by omega), if_pos (by omega), w_suc hi (by omega)]
    rfl
theorem sign_ev (l : List S25) (hl : l.length ≤ 1099511627776) : Ev (fun k => quant_sign.f k l) (sgn (area l)) := sign_l0 l hl l.length 0 0 (by omega)
theorem areaS_N (l : List S25) : ∀ (n i : Nat) (s : Int), areaS l n i s = areaN l n i s
  | 0, _, _ => rfl
  | n + 1, i, s => by rw [areaS, areaN, areaS_N l n (i + 1)]; rfl
/-- The area of a ring that came in. -/
def parea (l : List S25) : Int := if l.all validP = true then area l else 0
theorem parea_f (l : List S25) (hl : l.length ≤ 1000000) : poly_Area2.f l = some (parea l) := by
  unfold poly_Area2.f parea
  rw [if_pos (by omega), areaS_N]
  rfl
/-! ### contracts without rounds -/
theorem ev_rounds {α : Type} {g : Nat → Option α} {r : α} (h : Ev g r) : ∃ k, g k = some r := h.elim (fun K hK => ⟨K, hK K (Nat.le_refl _)⟩)
variable {w : World}
theorem box_s (z x y : Int) (w : World) : Calls Try.prog 20 #[.agg #[.int .i64 z, .int .i64 x, .int .i64 y]] w fun e w' => e = .returned (.tuple #[.agg #[.int .i64 (box z x y).1, .int .i64 (box z x y).2.1, .int .i64 (box z x y).2.2.1, .int .i64 (box z x y).2.2.2.1], .int .i64 (box z x y).2.2.2.2]) ∧ Below w.heap.size w w' :=
  tilegrid_Box.calls z x y _ _ _ _ _ w (box_f z x y)
theorem ring_s (l : List S25) (b0 b1 b2 b3 : Int) (v : Value) (w : World) (h : Seen k25 w v l) (hl : l.length ≤ 1000000) :
    Calls Try.prog 33 #[v, .agg #[.int .i64 b0, .int .i64 b1, .int .i64 b2, .int .i64 b3]] w fun e w' => ∃ u, e = .returned u ∧ Kd.R k25 25 w' w.heap.size (fun _ => True) u (ring l b0 b1 b2 b3) ∧ Below w.heap.size w w' := by
  obtain ⟨A, c, rfl, h2, h3⟩ := h
  obtain ⟨k, hk⟩ := ev_rounds (ring_ev l b0 b1 b2 b3 (by omega))
  exact clip_Ring.calls k A c l b0 b1 b2 b3 _ w h3 h2 hk
theorem points_s (z x y : Int) (l : List S25) (v : Value) (w : World) (h : Seen k25 w v l) (hl : l.length ≤ 1000000000) :
    Calls Try.prog 28 #[.agg #[.int .i64 z, .int .i64 x, .int .i64 y], v] w fun e w' => ∃ u, e = .returned u ∧ Kd.R k25 25 w' w.heap.size (fun _ => True) u (l.map (pt z x y)) ∧ Below w.heap.size w w' := by
  obtain ⟨A, c, rfl, h2, h3⟩ := h
  obtain ⟨k, hk⟩ := ev_rounds (points_ev z x y l (by omega))
  exact quant_points.calls k z x y A c l _ w h3 h2 hk
theorem tring_s (l : List S25) (v : Value) (w : World) (h : Seen k25 w v l) (hl : l.length ≤ 1000000000) :
    Calls Try.prog 32 #[v] w fun e w' => ∃ u, e = .returned u ∧ Kd.R k25 25 w' w.heap.size (fun _ => True) u (tidyRing (tidy l)) ∧ Below w.heap.size w w' := by
  obtain ⟨A, c, rfl, h2, h3⟩ := h
  obtain ⟨k, hk⟩ := ev_rounds (tidyRing_ev l (by omega))
  exact clip_TidyRing.calls k A c l _ w h3 h2 hk
theorem sign_s (l : List S25) (v : Value) (w : World) (h : Seen k25 w v l) (hl : l.length ≤ 1000000000) :
    Calls Try.prog 34 #[v] w fun e w' => e = .returned (.int .i64 (sgn (area l))) ∧ Below w.heap.size w w' := by
  obtain ⟨A, c, rfl, h2, h3⟩ := h
  obtain ⟨k, hk⟩ := ev_rounds (sign_ev l (by omega))
  exact quant_sign.calls k A c l _ w h3 h2 hk
theorem parea_s (l : List S25) (v : Value) (w : World) (h : Seen k25 w v l) (hl : l.length ≤ 1000000) :
    Calls Try.prog 35 #[v] w fun e w' => e = .returned (.int .i64 (parea l)) ∧ Below w.heap.size w w' := by
  obtain ⟨A, c, rfl, h2, h3⟩ := h
  exact poly_Area2.calls A c l _ w h3 h2 (parea_f l hl)
/-! ### what the two answer -/
def ringQ (z x y : Int) (r : List S25) : List S25 := tidyRing (tidy ((ring r (box z x y).1 (box z x y).2.1 (box z x y).2.2.1 (box z x y).2.2.2.1).map (pt z x y)))
def keepQ (z x y : Int) (r : List S25) : Prop := sgn (area (ringQ z x y r)) ≠ 0 ∧ sgn (area (ringQ z x y r)) = sgn (parea r)
instance (z x y : Int) (r : List S25) : Decidable (keepQ z x y r) := by unfold keepQ; infer_instance
def areasQ (z x y : Int) : List (List S25) → List (List S25)
  | [] => []
  | r :: t => if keepQ z x y r then ringQ z x y r :: areasQ z x y t else areasQ z x y t
def areaQ (z x y : Int) (rings : List (List S25)) : List (List S25) := if (box z x y).2.2.2.2 = 0 then areasQ z x y rings else []
theorem sgn_cases (a : Int) : (0 < a ∧ sgn a = 1) ∨ (a < 0 ∧ sgn a = -1) ∨ (a = 0 ∧ sgn a = 0) := by
  unfold sgn mn mx
  rcases Int.lt_trichotomy a 0 with h | h | h
  · refine .inr (.inl ⟨h, ?_⟩)
    repeat' split
    all_goals omega
  · subst h
    exact .inr (.inr ⟨rfl, by decide⟩)
  · refine .inl ⟨h, ?_⟩
    repeat' split
    all_goals omega
theorem ringQ_len (z x y : Int) (r : List S25) : (ringQ z x y r).length ≤ r.length * 16 := by
  have h1 := ring_length r (box z x y).1 (box z x y).2.1 (box z x y).2.2.1 (box z x y).2.2.2.1
  have h2 := tidy_length ((ring r (box z x y).1 (box z x y).2.1 (box z x y).2.2.1 (box z x y).2.2.2.1).map (pt z x y))
  rw [List.length_map] at h2
  have h3 := trim_length (tidy ((ring r (box z x y).1 (box z x y).2.1 (box z x y).2.2.1 (box z x y).2.2.2.1).map (pt z x y))).length (tidy ((ring r (box z x y).1 (box z x y).2.1 (box z x y).2.2.1 (box z x y).2.2.2.1).map (pt z x y)))
  unfold ringQ tidyRing
  split
  · exact Nat.zero_le _
  · omega
theorem area_nil : area [] = 0 := rfl
theorem areasQ_at {z x y : Int} {l : List (List S25)} {i : Nat} (h : i < l.length) : areasQ z x y (l.drop i) = if keepQ z x y l[i] then ringQ z x y l[i] :: areasQ z x y (l.drop (i + 1)) else areasQ z x y (l.drop (i + 1)) := by
  rw [List.drop_eq_getElem_cons h, areasQ]
theorem areasQ_len (z x y : Int) : ∀ l : List (List S25), (areasQ z x y l).length ≤ l.length
  | [] => Nat.le_refl _
  | r :: t => by
    have := areasQ_len z x y t
    rw [areasQ]
    split
    · simp only [List.length_cons]; omega
    · simp only [List.length_cons]; omega
theorem areasQ_mem {z x y : Int} : ∀ {l : List (List S25)} {p : List S25}, p ∈ areasQ z x y l → ∃ r ∈ l, p = ringQ z x y r ∧ keepQ z x y r
  | r :: t, p, h => by
    rw [areasQ] at h
    split at h
    · rename_i hk
      rcases List.mem_cons.1 h with rfl | h
      · exact ⟨r, List.mem_cons_self .., rfl, hk⟩
      · obtain ⟨r', h1, h2⟩ := areasQ_mem h
        exact ⟨r', List.mem_cons_of_mem _ h1, h2⟩
    · obtain ⟨r', h1, h2⟩ := areasQ_mem h
      exact ⟨r', List.mem_cons_of_mem _ h1, h2⟩
/-! ### ranges -/
theorem scale {d s : Int} (h0 : 0 ≤ d) (h1 : d ≤ s) (hs : 0 < s) : 0 ≤ Int.tdiv (d * 256) s ∧ Int.tdiv (d * 256) s ≤ 256 := by
  rw [Int.tdiv_eq_ediv_of_nonneg (by omega)]
  refine ⟨Int.ediv_nonneg (by omega) (by omega), ?_⟩
  have h : d * 256 ≤ 256 * s := by omega
  have := Int.ediv_le_of_le_mul hs h
  exact this
theorem in256 {x s p : Int} (hx : 0 ≤ x) (hs : 0 < s) (hss : s ≤ 32768) (hxs : (x + 1) * s ≤ 32768) (h0 : ¬ p < wrap64 (x * s)) (h1 : ¬ p > wrap64 (wrap64 (x + 1) * s)) :
    0 ≤ wrap64 (Int.tdiv (wrap64 ((wrap64 (p - wrap64 (x * s))) * 256)) s) ∧ wrap64 (Int.tdiv (wrap64 ((wrap64 (p - wrap64 (x * s))) * 256)) s) ≤ 256 := by
  have hm : (x + 1) * s = x * s + s := by rw [Int.add_mul, Int.one_mul]
  have hxle : x ≤ 32768 := by
    have h2 : (x + 1) * 1 ≤ (x + 1) * s := Int.mul_le_mul_of_nonneg_left (by omega) (by omega)
    omega
  have hxs0 : 0 ≤ x * s := Int.mul_nonneg hx (by omega)
  rw [wrap_id (x := x * s) (by omega) (by omega)] at h0 ⊢
  rw [wrap_id (x := x + 1) (by omega) (by omega), wrap_id (x := (x + 1) * s) (by omega) (by omega)] at h1
  rw [wrap_id (x := p - x * s) (by omega) (by omega), wrap_id (x := (p - x * s) * 256) (by omega) (by omega)]
  have h := scale (d := p - x * s) (s := s) (by omega) (by omega) hs
  rw [wrap_id (by omega) (by omega)]
  exact h
def inQ (p : S25) : Prop := (0 ≤ p.f0 ∧ p.f0 ≤ 256) ∧ (0 ≤ p.f1 ∧ p.f1 ≤ 256)
theorem pt_in (z x y : Int) (p : S25) : inQ (pt z x y p) := by
  unfold inQ pt ptB
  dsimp only
  by_cases h : (box z x y).2.2.2.2 = 0
  · have hg := box_ok h
    have hc := sz_cases hg.1.1 hg.1.2
    have hx := good_fits hg.1.1 hg.1.2 hg.2.1.1 hg.2.1.2
    have hy := good_fits hg.1.1 hg.1.2 hg.2.2.1 hg.2.2.2
    rw [if_pos h]
    have e : box z x y = (wrap64 (x * sz z), wrap64 (y * sz z), wrap64 (wrap64 (x + 1) * sz z), wrap64 (wrap64 (y + 1) * sz z), 0) := by rw [box, if_pos hg]
    rw [e]
    dsimp only
    split
    · dsimp only; omega
    · split
      · dsimp only; omega
      · split
        · dsimp only; omega
        · split
          · dsimp only; omega
          · rename_i g1 g2 g3 g4
            exact ⟨in256 hg.2.1.1 (by omega) (by omega) hx g1 g2, in256 hg.2.2.1 (by omega) (by omega) hy g3 g4⟩
  · rw [if_neg h]
    dsimp only; omega
/-- All on the grid of a tile, neighbours differ. -/
def okQ (l : List S25) : Prop := (∀ p ∈ l, inQ p) ∧ chain l
theorem tidyFrom_mem : ∀ (l : List S25) (q p : S25), p ∈ tidyFrom q l → p ∈ l
  | [], _, _, h => h
  | a :: t, q, p, h => by
    rw [tidyFrom] at h
    split at h
    · exact List.mem_cons_of_mem _ (tidyFrom_mem t q p h)
    · rcases List.mem_cons.1 h with rfl | h
      · exact List.mem_cons_self ..
      · exact List.mem_cons_of_mem _ (tidyFrom_mem t a p h)
theorem tidy_mem {l : List S25} {p : S25} (h : p ∈ tidy l) : p ∈ l := by
  cases l with
  | nil => exact h
  | cons a t =>
    rcases List.mem_cons.1 h with rfl | h
    · exact List.mem_cons_self ..
    · exact List.mem_cons_of_mem _ (tidyFrom_mem t a p h)
theorem okQ_tidy (z x y : Int) (l : List S25) : okQ (tidy (l.map (pt z x y))) := by
  refine ⟨fun p hp => ?_, chain_tidy _⟩
  obtain ⟨q, _, rfl⟩ := List.mem_map.1 (tidy_mem hp)
  exact pt_in z x y q
theorem chain_take : ∀ (l : List S25) (n : Nat), chain l → chain (l.take n)
  | [], n, h => by rw [List.take_nil]; trivial
  | [p], 0, h => trivial
  | [p], n + 1, h => by rw [List.take_succ_cons, List.take_nil]; trivial
  | p :: q :: t, 0, h => trivial
  | p :: q :: t, 1, h => trivial
  | p :: q :: t, n + 2, h => ⟨h.1, chain_take (q :: t) (n + 1) h.2⟩
theorem okQ_trim : ∀ (n : Nat) (t : List S25), okQ t → okQ (trim n t)
  | 0, t, h => h
  | n + 1, t, h => by
    rw [trim]
    split
    · exact okQ_trim n _ ⟨fun p hp => h.1 p (List.mem_of_mem_take hp), chain_take t _ h.2⟩
    · exact h
theorem trim_ends : ∀ (n : Nat) (t : List S25), t.length ≤ n → 1 < (trim n t).length → eqp (rd_T25 (trim n t) (((trim n t).length - 1 : Nat) : Int)) (rd_T25 (trim n t) ((0 : Nat) : Int)) = false
  | 0, t, ht, h => by rw [trim] at h; omega
  | n + 1, t, ht, h => by
    rw [trim] at h ⊢
    split at h
    · rename_i hc
      rw [if_pos hc]
      exact trim_ends n _ (by rw [List.length_take]; omega) h
    · rename_i hc
      rw [if_neg hc]
      cases he : eqp (rd_T25 t ((t.length - 1 : Nat) : Int)) (rd_T25 t ((0 : Nat) : Int)) with
      | false => rfl
      | true => exact absurd ⟨h, he⟩ hc
theorem ringQ_ok {z x y : Int} {r : List S25} (hk : keepQ z x y r) : 3 ≤ (ringQ z x y r).length ∧ okQ (ringQ z x y r) ∧ eqp (rd_T25 (ringQ z x y r) (((ringQ z x y r).length - 1 : Nat) : Int)) (rd_T25 (ringQ z x y r) ((0 : Nat) : Int)) = false := by
  have hne : ringQ z x y r ≠ [] := fun h => hk.1 (by rw [h]; decide)
  unfold ringQ tidyRing at hne ⊢
  split at hne
  · exact absurd rfl hne
  · rename_i h3
    rw [if_neg h3]
    exact ⟨by omega, okQ_trim _ _ (okQ_tidy _ _ _ _), trim_ends _ _ (Nat.le_refl _) (by omega)⟩
theorem partsQ_ok (z x y : Int) (ps : List (List S25)) : ∀ (n i : Nat) (acc : List (List S25)), (∀ p ∈ acc, 2 ≤ p.length ∧ okQ p) → ∀ p ∈ partsQ z x y ps n i acc, 2 ≤ p.length ∧ okQ p
  | 0, _, acc, h => h
  | n + 1, i, acc, h => by
    rw [partsQ]
    refine partsQ_ok z x y ps n (i + 1) _ ?_
    split
    · rename_i h2
      intro p hp
      rcases List.mem_append.1 hp with hp | hp
      · exact h p hp
      · obtain rfl := List.mem_singleton.1 hp
        exact ⟨h2, okQ_tidy _ _ _ _⟩
    · exact h
theorem lineQ_ok {z x y : Int} {l : List S25} : ∀ p ∈ lineQ z x y l, 2 ≤ p.length ∧ okQ p := by
  unfold lineQ
  split
  · exact partsQ_ok z x y _ _ _ _ (fun p hp => by cases hp)
  · exact fun p hp => by cases hp
theorem chain_get : ∀ (l : List S25) (i : Nat) (h : i + 1 < l.length), chain l → l[i + 1] ≠ l[i]
  | p :: q :: t, 0, h, hc => fun e => hc.1 e.symm
  | p :: q :: t, i + 1, h, hc => chain_get (q :: t) i (by simpa using h) hc.2
theorem within_l0 (l : List S25) (hl : l.length ≤ 1000000) (ho : okQ l) : ∀ (n i : Nat), i + n = l.length → Ev (fun k => mapmakerlaw29_within.l0 k l (i : Int)) true
  | 0, i, h => Ev.step (f := fun _ => some true) (fun k => by rw [mapmakerlaw29_within.l0, if_neg (by omega)]) (Ev.now _)
  | n + 1, i, h => by
    have hi : i < l.length := by omega
    have hp := ho.1 l[i] (List.getElem_mem hi)
    unfold inQ at hp
    refine Ev.step (fun k => ?_) (within_l0 l hl ho n (i + 1) (by omega))
    rw [mapmakerlaw29_within.l0, if_pos (by omega), if_pos (by omega), rd_get l i hi, if_neg (by omega), if_neg (by omega), if_neg (by omega), if_neg (by omega), w_suc hi (by omega)]
    by_cases h0 : (i : Int) > 0
    · rw [if_pos h0]
      have hw : wrap64 ((i : Int) - 1) = ((i - 1 : Nat) : Int) := by unfold wrap64; omega
      have hne := chain_get l (i - 1) (by omega) ho.2
      have e1 : l[i - 1 + 1]'(by omega) = l[i] := by congr 1; omega
      rw [e1] at hne
      rw [hw, if_pos (by omega), if_pos (by omega), rd_get l (i - 1) (by omega), if_neg (show ¬ ((l[i].f0 == l[i - 1].f0 && l[i].f1 == l[i - 1].f1) = true) from fun h => hne (eqp_iff.1 h))]
    · rw [if_neg h0]
theorem within_s (l : List S25) (A : Option Addr) (c : Nat) (w : World) (hr : Kd.C k25 w A l.length l) (hc : l.length ≤ c) (hl : l.length ≤ 1000000) (ho : okQ l) :
    Calls Try.prog 19 #[.slice A l.length c] w fun e w' => e = .returned (.bool true) ∧ Drawn0 w w' := by
  obtain ⟨k, hk⟩ := ev_rounds (within_l0 l hl ho l.length 0 (by omega))
  exact mapmakerlaw29_within.calls k A c l true w hr hc hk
theorem areaQ_one {z x y : Int} {l : List S25} : (areaQ z x y [l]).length ≤ 1 ∧ ∀ q ∈ areaQ z x y [l], 3 ≤ q.length ∧ okQ q ∧ eqp (rd_T25 q ((q.length - 1 : Nat) : Int)) (rd_T25 q ((0 : Nat) : Int)) = false := by
  unfold areaQ
  split
  · refine ⟨areasQ_len z x y [l], fun q hq => ?_⟩
    obtain ⟨r, _, rfl, hk⟩ := areasQ_mem hq
    exact ringQ_ok hk
  · exact ⟨Nat.zero_le _, fun q hq => by cases hq⟩
end Go.Proofs.Ytdkegdnfbpobnaa.Hand
