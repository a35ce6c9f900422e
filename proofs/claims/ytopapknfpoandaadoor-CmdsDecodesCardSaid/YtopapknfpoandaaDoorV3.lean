import Derived.Test.YtopapknfpoandaaDoorQ5
import Derived.Test.YtopapknfpoandaaDoorL2
namespace Go.Proofs.YtopapknfpoandaaDoor.Hand
open Go.Proofs.YtopapknfpoandaaDoorW Go.RowKit Go.Proofs.YtopapknfpoandaaDoorW.PrintWords Go.Proofs.YtopapknfpoandaaDoorW.PrintLast Go.Proofs.YtopapknfpoandaaDoorW.PrintMore Go.Proofs.YtopapknfpoandaaDoorW.SepW Go.Proofs.YtopapknfpoandaaDoor.PALL
set_option linter.unusedVariables false
set_option linter.unusedSimpArgs false
/-! # The reference reads what is written, and nothing else -/
theorem unz_odd (z : Int) (h0 : 0 ≤ z) (h1 : z ≤ 100000) (h : z % 2 = 1) : unz z = -((z + 1) / 2) := by
  unfold unz
  rw [Int.tmod_eq_emod_of_nonneg h0, if_pos h, wrap_id (z + 1) (by omega) (by omega), wrap_id (-(z + 1)) (by omega) (by omega), Int.neg_tdiv, Int.tdiv_eq_ediv_of_nonneg (by omega), wrap_id _ (by omega) (by omega)]
theorem unz_even (z : Int) (h0 : 0 ≤ z) (h1 : z ≤ 100000) (h : ¬ z % 2 = 1) : unz z = z / 2 := by
  unfold unz
  rw [Int.tmod_eq_emod_of_nonneg h0, if_neg h, Int.tdiv_eq_ediv_of_nonneg h0, wrap_id _ (by omega) (by omega)]
theorem encD_big_pos (d : Int) (h0 : 0 ≤ d) (h1 : d ≤ 100000) : encD d = 2 * d := by
  unfold encD; rw [if_neg (by omega), wrap_id _ (by omega) (by omega)]
theorem encD_big_neg (d : Int) (h0 : -100000 ≤ d) (h1 : d < 0) : encD d = -2 * d - 1 := by
  unfold encD; rw [if_pos h1, wrap_id (-2 * d) (by omega) (by omega), wrap_id _ (by omega) (by omega)]
theorem unz_enc (d : Int) (h0 : -256 ≤ d) (h1 : d ≤ 256) : unz (encD d) = d ∧ 0 ≤ encD d ∧ encD d ≤ 100000 := by
  by_cases hd : d < 0
  · rw [encD_neg d h0 hd]
    refine ⟨?_, by omega, by omega⟩
    rw [unz_odd _ (by omega) (by omega) (by omega)]; omega
  · rw [encD_pos d (by omega) h1]
    refine ⟨?_, by omega, by omega⟩
    rw [unz_even _ (by omega) (by omega) (by omega)]; omega
theorem enc_unz (z : Int) (h0 : 0 ≤ z) (h1 : z ≤ 100000) : encD (unz z) = z ∧ -100000 ≤ unz z ∧ unz z ≤ 100000 := by
  by_cases h : z % 2 = 1
  · rw [unz_odd z h0 h1 h]
    refine ⟨?_, by omega, by omega⟩
    rw [encD_big_neg _ (by omega) (by omega)]; omega
  · rw [unz_even z h0 h1 h]
    refine ⟨?_, by omega, by omega⟩
    rw [encD_big_pos _ (by omega) (by omega)]; omega
theorem nextR_cons (z : Int) (t : List Int) (x y : Int) (h0 : 0 ≤ z) (h1 : z ≤ 100000) : nextR ⟨z :: t, x, y, false⟩ = (⟨t, x, y, false⟩, z) := by
  unfold nextR; exact if_neg (by omega)
theorem pointR_enc (p : S44) (hp : ¬ badP p) (t : List Int) (x y : Int) (h : GoodXY x y) : pointR ⟨encD (wrap64 (p.f0 - x)) :: encD (wrap64 (p.f1 - y)) :: t, x, y, false⟩ = ⟨t, p.f0, p.f1, false⟩ := by
  have hp' := badP_not hp
  unfold GoodXY at h
  rw [wrap_id (p.f0 - x) (by omega) (by omega), wrap_id (p.f1 - y) (by omega) (by omega)]
  obtain ⟨u1, u2, u3⟩ := unz_enc (p.f0 - x) (by omega) (by omega)
  obtain ⟨v1, v2, v3⟩ := unz_enc (p.f1 - y) (by omega) (by omega)
  unfold pointR
  rw [nextR_cons _ _ _ _ u2 u3]
  dsimp only
  rw [nextR_cons _ _ _ _ v2 v3]
  dsimp only
  rw [u1, v1, show x + (p.f0 - x) = p.f0 by omega, show y + (p.f1 - y) = p.f1 by omega, wrap_id p.f0 (by omega) (by omega), wrap_id p.f1 (by omega) (by omega)]
theorem ptsR_enc : ∀ (pts : List S44) (t : List Int) (x y : Int), (∀ p ∈ pts, ¬ badP p) → GoodXY x y →
    ptsR pts.length ⟨(outS pts x y).1 ++ t, x, y, false⟩ = (pts, ⟨t, (outS pts x y).2.1, (outS pts x y).2.2, false⟩)
  | [], t, x, y, _, _ => rfl
  | p :: ps, t, x, y, hp, h => by
    have hb := hp p (List.mem_cons_self ..)
    rw [outS, List.length_cons, ptsR, if_neg (by simp)]
    dsimp only [List.cons_append]
    rw [pointR_enc p hb _ x y h, ptsR_enc ps t p.f0 p.f1 (fun q hq => hp q (List.mem_cons_of_mem _ hq)) (badP_not hb)]
theorem partR_enc (k3 : Bool) (p : List S44) (hp : GoodP p) (t : List Int) (x y : Int) (h : GoodXY x y) :
    partR k3 ⟨(9 :: (outS (p.take 1) x y).1) ++ (wrap64 (2 + 8 * ((p.drop 1).length : Int)) :: (outS (p.drop 1) (outS (p.take 1) x y).2.1 (outS (p.take 1) x y).2.2).1) ++ (if k3 then [15] else []) ++ t, x, y, false⟩ =
      (⟨t, (outS (p.drop 1) (outS (p.take 1) x y).2.1 (outS (p.take 1) x y).2.2).2.1, (outS (p.drop 1) (outS (p.take 1) x y).2.1 (outS (p.take 1) x y).2.2).2.2, false⟩, p) := by
  obtain ⟨g1, g2, g3⟩ := hp
  have ht := take_len1 g1
  have gt : ∀ q ∈ p.take 1, ¬ badP q := fun q hq => g3 q (List.mem_of_mem_take hq)
  have gd : ∀ q ∈ p.drop 1, ¬ badP q := fun q hq => g3 q (List.mem_of_mem_drop hq)
  have h1 := outS_good (p.take 1) x y gt h
  have hdl : (p.drop 1).length ≤ 8000 := by rw [List.length_drop]; omega
  have hn : 1 ≤ p.length := by rw [List.length_take] at ht; omega
  have e1 := ptsR_enc (p.take 1) (wrap64 (2 + 8 * ((p.drop 1).length : Int)) :: ((outS (p.drop 1) (outS (p.take 1) x y).2.1 (outS (p.take 1) x y).2.2).1 ++ ((if k3 then [15] else []) ++ t))) x y gt h
  have e2 := ptsR_enc (p.drop 1) ((if k3 then [15] else []) ++ t) _ _ gd h1
  rw [ht] at e1
  have hw : wrap64 (2 + 8 * ((p.drop 1).length : Int)) = 2 + 8 * ((p.drop 1).length : Int) := wrap_id _ (by omega) (by omega)
  rw [hw] at e1 ⊢
  unfold partR
  simp only [List.cons_append, List.append_assoc] at e1 e2 ⊢
  rw [nextR_cons 9 _ _ _ (by omega) (by omega)]
  dsimp only
  rw [e1]
  dsimp only
  rw [nextR_cons _ _ _ _ (by omega) (by omega)]
  dsimp only
  rw [if_neg (by omega), show ((2 + 8 * ((p.drop 1).length : Int)) / 8).toNat = (p.drop 1).length by omega, e2]
  dsimp only
  rw [List.take_append_drop]
  cases k3 with
  | false => rfl
  | true =>
    simp only [if_true, List.cons_append, List.nil_append]
    rw [nextR_cons 15 _ _ _ (by omega) (by omega)]
    rfl
theorem decLR_enc (k3 : Bool) : ∀ (parts : List (List S44)) (n : Nat) (x y : Int) (acc : List (List S44)), (∀ p ∈ parts, GoodP p) → GoodXY x y →
    ∃ x' y', decLR k3 (n + parts.length) ⟨encP k3 parts x y, x, y, false⟩ acc = decLR k3 n ⟨[], x', y', false⟩ (acc ++ parts)
  | [], n, x, y, acc, _, h => ⟨x, y, by rw [List.append_nil]; rfl⟩
  | p :: ps, n, x, y, acc, hp, h => by
    have g := hp p (List.mem_cons_self ..)
    have gt : ∀ q ∈ p.take 1, ¬ badP q := fun q hq => g.2.2 q (List.mem_of_mem_take hq)
    have gd : ∀ q ∈ p.drop 1, ¬ badP q := fun q hq => g.2.2 q (List.mem_of_mem_drop hq)
    have h2 := outS_good (p.drop 1) _ _ gd (outS_good (p.take 1) x y gt h)
    obtain ⟨x', y', e⟩ := decLR_enc k3 ps n _ _ (acc ++ [p]) (fun q hq => hp q (List.mem_cons_of_mem _ hq)) h2
    refine ⟨x', y', ?_⟩
    rw [show acc ++ p :: ps = acc ++ [p] ++ ps by simp, ← e, encP, List.length_cons, ← Nat.add_assoc, decLR, if_neg (by simp), partR_enc k3 p g _ x y h]
theorem decLR_stop (k3 : Bool) (n : Nat) (r : RS) (acc : List (List S44)) (h : r.l = [] ∨ r.b = true) : decLR k3 n r acc = (acc, r) := by
  cases n with
  | zero => rfl
  | succ n => rw [decLR, if_pos h]
theorem decR_enc {kind : Int} {parts : List (List S44)} (h : checkS kind parts = 0) (hl : (encS kind parts).length ≤ 2000) : decR kind (encS kind parts) = (parts, true) := by
  obtain ⟨hk, hne, hp⟩ := check_split h
  rw [encS_ok h] at hl ⊢
  by_cases h1 : kind = 1
  · subst h1
    rw [if_pos rfl] at hl ⊢
    obtain ⟨f1, f2⟩ := firsts_map (ones hp)
    have hlen : parts.length ≤ 1000 := by rw [List.length_cons, outS_len, firsts_len] at hl; omega
    have e := ptsR_enc (firsts parts) [] 0 0 f2 good00
    rw [firsts_len, List.append_nil] at e
    have hw : wrap64 (1 + 8 * (parts.length : Int)) = 1 + 8 * (parts.length : Int) := wrap_id _ (by omega) (by omega)
    unfold decR r0
    rw [if_pos rfl, hw, nextR_cons _ _ _ _ (by omega) (by omega)]
    dsimp only
    rw [if_neg (by omega), show ((1 + 8 * (parts.length : Int)) / 8).toNat = parts.length by omega, e]
    dsimp only
    rw [f1]
    rfl
  · rw [if_neg h1] at hl ⊢
    have hpl := encP_parts (decide (kind = 3)) parts 0 0
    obtain ⟨x', y', e⟩ := decLR_enc (decide (kind = 3)) parts ((encP (decide (kind = 3)) parts 0 0).length + 1 - parts.length) 0 0 [] (parts_good (by omega) hp) good00
    rw [List.nil_append, decLR_stop _ _ ⟨[], x', y', false⟩ _ (.inl rfl), show (encP (decide (kind = 3)) parts 0 0).length + 1 - parts.length + parts.length = (encP (decide (kind = 3)) parts 0 0).length + 1 by omega] at e
    unfold decR r0
    rw [if_neg h1, e]
    rfl
theorem nextR_inv (r : RS) (h : (nextR r).1.b = false) : r.b = false ∧ r.l = (nextR r).2 :: (nextR r).1.l ∧ (nextR r).1.x = r.x ∧ (nextR r).1.y = r.y := by
  obtain ⟨l, x, y, b⟩ := r
  cases l with
  | nil => cases h
  | cons z t =>
    unfold nextR at h ⊢
    dsimp only at h ⊢
    by_cases hz : z < 0 ∨ 100000 < z
    · rw [if_pos hz] at h; cases h
    · rw [if_neg hz] at h ⊢; exact ⟨h, rfl, rfl, rfl⟩
theorem wrap_back2 (x d : Int) (h0 : -100000 ≤ d) (h1 : d ≤ 100000) : wrap64 (wrap64 (x + d) - x) = d := by unfold wrap64; omega
theorem pointR_inv (r : RS) (h : (pointR r).b = false) : r.b = false ∧ r.l = encD (wrap64 ((pointR r).x - r.x)) :: encD (wrap64 ((pointR r).y - r.y)) :: (pointR r).l := by
  obtain ⟨a1, a2, a3, a4⟩ := nextR_inv (nextR r).1 h
  obtain ⟨b1, b2, b3, b4⟩ := nextR_inv r a1
  have z1 := nextR_z r
  have z2 := nextR_z (nextR r).1
  obtain ⟨e1, e2, e3⟩ := enc_unz _ z1.1 z1.2
  obtain ⟨f1, f2, f3⟩ := enc_unz _ z2.1 z2.2
  have ex : (pointR r).x = wrap64 (r.x + unz (nextR r).2) := by show wrap64 ((nextR r).1.x + _) = _; rw [b3]
  have ey : (pointR r).y = wrap64 (r.y + unz (nextR (nextR r).1).2) := by show wrap64 ((nextR r).1.y + _) = _; rw [b4]
  rw [ex, ey, wrap_back2 _ _ e2 e3, wrap_back2 _ _ f2 f3, e1, f1]
  refine ⟨b1, ?_⟩
  rw [b2, a2]
  rfl
theorem ptsR_b : ∀ (m : Nat) (r : RS), (ptsR m r).2.b = false → r.b = false
  | 0, r, h => h
  | m + 1, r, h => by
    rw [ptsR] at h
    split at h
    · rename_i hb; exact h
    · rename_i hb; simpa using hb
theorem ptsR_inv : ∀ (m : Nat) (r : RS), (ptsR m r).2.b = false → (ptsR m r).1.length = m ∧ r.l = (outS (ptsR m r).1 r.x r.y).1 ++ (ptsR m r).2.l ∧ (outS (ptsR m r).1 r.x r.y).2 = ((ptsR m r).2.x, (ptsR m r).2.y)
  | 0, r, h => ⟨rfl, rfl, rfl⟩
  | m + 1, r, h => by
    have hb := ptsR_b (m + 1) r h
    rw [ptsR, if_neg (by simp [hb])] at h ⊢
    dsimp only at h ⊢
    obtain ⟨i1, i2, i3⟩ := ptsR_inv m (pointR r) h
    obtain ⟨p1, p2⟩ := pointR_inv r (ptsR_b m _ h)
    refine ⟨by rw [List.length_cons, i1], ?_, ?_⟩
    · rw [outS]
      dsimp only [List.cons_append]
      rw [← i2]
      exact p2
    · rw [outS]
      exact i3
theorem partR_inv (k3 : Bool) (r : RS) (h : (partR k3 r).1.b = false) (ps : List (List S44)) (rest : List Int) (hr : (partR k3 r).1.l = encP k3 ps (partR k3 r).1.x (partR k3 r).1.y ++ rest) :
    r.l = encP k3 ((partR k3 r).2 :: ps) r.x r.y ++ rest := by
  unfold partR at h hr ⊢
  by_cases hc : (nextR r).2 ≠ 9 ∨ (nextR (ptsR 1 (nextR r).1).2).2 % 8 ≠ 2
  · rw [if_pos hc] at h; cases h
  · rw [if_neg hc] at h hr ⊢
    have h9 : (nextR r).2 = 9 := by omega
    have h2 : (nextR (ptsR 1 (nextR r).1).2).2 % 8 = 2 := by omega
    have hz := nextR_z (ptsR 1 (nextR r).1).2
    have key : ∀ (d : RS), (ptsR ((nextR (ptsR 1 (nextR r).1).2).2 / 8).toNat (nextR (ptsR 1 (nextR r).1).2).1).2 = d → d.b = false → ∀ tl, (if k3 then [15] else []) ++ (encP k3 ps d.x d.y ++ rest) = tl → d.l = tl →
        r.l = encP k3 (((ptsR 1 (nextR r).1).1 ++ (ptsR ((nextR (ptsR 1 (nextR r).1).2).2 / 8).toNat (nextR (ptsR 1 (nextR r).1).2).1).1) :: ps) r.x r.y ++ rest := by
      intro d hd hb tl htl hdl
      have hb4 := hb
      rw [← hd] at hb4
      obtain ⟨q1, q2, q3⟩ := ptsR_inv _ _ hb4
      obtain ⟨c1, c2, c3, c4⟩ := nextR_inv _ (ptsR_b _ _ hb4)
      obtain ⟨p1, p2, p3⟩ := ptsR_inv _ _ c1
      obtain ⟨a1, a2, a3, a4⟩ := nextR_inv _ (ptsR_b _ _ c1)
      rw [c3, c4] at q2 q3
      rw [a3, a4] at p2 p3
      obtain ⟨d1, d2⟩ := drop_one (q := (ptsR ((nextR (ptsR 1 (nextR r).1).2).2 / 8).toNat (nextR (ptsR 1 (nextR r).1).2).1).1) p1
      rw [encP, d1, d2, a2, h9, p2, c2, q2]
      have x1 : (outS (ptsR 1 (nextR r).1).1 r.x r.y).2.1 = (ptsR 1 (nextR r).1).2.x := by rw [p3]
      have y1 : (outS (ptsR 1 (nextR r).1).1 r.x r.y).2.2 = (ptsR 1 (nextR r).1).2.y := by rw [p3]
      rw [x1, y1, q3]
      have hw : wrap64 (2 + 8 * ((ptsR ((nextR (ptsR 1 (nextR r).1).2).2 / 8).toNat (nextR (ptsR 1 (nextR r).1).2).1).1.length : Int)) = (nextR (ptsR 1 (nextR r).1).2).2 := by
        rw [q1, wrap_id _ (by omega) (by omega)]; omega
      rw [hw, hd, hdl, ← htl]
      simp only [List.cons_append, List.append_assoc]
    cases k3 with
    | false =>
      rw [if_neg (by decide)] at h hr ⊢
      exact key _ rfl h _ rfl hr
    | true =>
      rw [if_pos rfl] at h hr ⊢
      by_cases h15 : (nextR (ptsR ((nextR (ptsR 1 (nextR r).1).2).2 / 8).toNat (nextR (ptsR 1 (nextR r).1).2).1).2).2 ≠ 15
      · rw [if_pos h15] at h; cases h
      · rw [if_neg h15] at h hr ⊢
        obtain ⟨e1, e2, e3, e4⟩ := nextR_inv _ h
        refine key _ rfl e1 _ rfl ?_
        rw [e2, hr, e3, e4]
        have : (nextR (ptsR ((nextR (ptsR 1 (nextR r).1).2).2 / 8).toNat (nextR (ptsR 1 (nextR r).1).2).1).2).2 = 15 := by omega
        rw [this]
        rfl
theorem decLR_inv (k3 : Bool) : ∀ (n : Nat) (r : RS) (acc : List (List S44)), r.l.length < n → (decLR k3 n r acc).2.b = false → ∃ ps, (decLR k3 n r acc).1 = acc ++ ps ∧ r.l = encP k3 ps r.x r.y
  | 0, r, acc, hl, _ => absurd hl (Nat.not_lt_zero _)
  | n + 1, r, acc, hl, h => by
    rw [decLR] at h ⊢
    by_cases hs : r.l = [] ∨ r.b = true
    · rw [if_pos hs] at h ⊢
      refine ⟨[], (List.append_nil _).symm, ?_⟩
      rcases hs with hs | hs
      · rw [hs]; rfl
      · exact absurd (hs.symm.trans h) (by decide)
    · rw [if_neg hs] at h ⊢
      have hlen := partR_len k3 r (fun e => hs (.inl e))
      obtain ⟨ps, e1, e2⟩ := decLR_inv k3 n _ _ (by omega) h
      have hb0 : (partR k3 r).1.b = false := by
        cases hq : (partR k3 r).1.b with
        | false => rfl
        | true => rw [decLR_stop _ _ _ _ (.inr hq)] at h; exact absurd (hq.symm.trans h) (by decide)
      have h3 := partR_inv k3 r hb0 ps [] (by rw [List.append_nil]; exact e2)
      rw [List.append_nil] at h3
      exact ⟨(partR k3 r).2 :: ps, by rw [e1]; simp, h3⟩
theorem decR_inv {kind : Int} {l : List Int} (hk : kind = 1 ∨ kind = 2 ∨ kind = 3) (h : (decR kind l).2 = true) (hc : checkS kind (decR kind l).1 = 0) : encS kind (decR kind l).1 = l := by
  rw [encS_ok hc]
  unfold decR at h ⊢
  by_cases h1 : kind = 1
  · subst h1
    rw [if_pos rfl] at h ⊢
    by_cases h8 : (nextR (r0 l)).2 % 8 ≠ 1
    · rw [if_pos h8] at h; cases h
    · rw [if_neg h8] at h ⊢
      rw [if_pos rfl]
      dsimp only at h ⊢
      rw [Bool.and_eq_true, Bool.not_eq_true', decide_eq_true_eq] at h
      obtain ⟨q1, q2, q3⟩ := ptsR_inv _ _ h.1
      obtain ⟨c1, c2, c3, c4⟩ := nextR_inv _ (ptsR_b _ _ h.1)
      have hz := nextR_z (r0 l)
      rw [List.length_eq_zero_iff.1 h.2, List.append_nil, c3, c4] at q2
      rw [map_firsts, List.length_map, q1, wrap_id _ (by omega) (by omega)]
      have e : (r0 l).l = l := rfl
      rw [e] at c2
      rw [show 1 + 8 * ((((nextR (r0 l)).2 / 8).toNat : Nat) : Int) = (nextR (r0 l)).2 by omega]
      conv => rhs; rw [c2, q2]
      rfl
  · rw [if_neg h1] at h ⊢
    rw [if_neg h1]
    dsimp only at h ⊢
    rw [Bool.not_eq_true'] at h
    obtain ⟨ps, e1, e2⟩ := decLR_inv (decide (kind = 3)) (l.length + 1) (r0 l) [] (Nat.lt_succ_self _) h
    rw [e1, List.nil_append]
    exact e2.symm
theorem decodes_eq {kind : Int} {l : List Int} (hn : Num l) (hl : l.length ≤ 2000) : outR kind l = decS kind l := by
  unfold outR
  by_cases hk : kind < 1 ∨ 3 < kind
  · unfold decS
    rw [if_pos hk, if_pos hk]
  · rw [if_neg hk]
    have hk' : kind = 1 ∨ kind = 2 ∨ kind = 3 := by omega
    rcases decS_cases (kind := kind) (l := l) with ⟨e, hk1⟩ | ⟨e, _, hb⟩ | ⟨e, _, hb⟩
    · exact absurd hk1 hk
    · rw [e]
      by_cases hc : (decR kind l).2 = false ∨ checkS kind (decR kind l).1 ≠ 0
      · exact if_pos hc
      · exfalso
        have h2 : (decR kind l).2 = true := by
          cases h : (decR kind l).2 with
          | true => rfl
          | false => exact absurd (.inl h) hc
        have h3 : checkS kind (decR kind l).1 = 0 := Classical.byContradiction fun h => hc (.inr h)
        have he := decR_inv hk' h2 h3
        have ht := total_enc h3
        rw [he] at ht
        have hr := round_trip h3 (by omega)
        rw [he, e] at hr
        have := congrArg (fun x => x.2.2) hr
        exact absurd (show (4 : Int) = 0 from this) (by decide)
    · rw [e]
      obtain ⟨h1, h2⟩ := inverse hn hk' hb
      have h3 := decR_enc h1 (by rw [h2]; exact hl)
      rw [h2] at h3
      rw [h3]
      exact if_neg (fun h => h.elim (fun h => Bool.noConfusion h) (fun h => h h1))
end Go.Proofs.YtopapknfpoandaaDoor.Hand
