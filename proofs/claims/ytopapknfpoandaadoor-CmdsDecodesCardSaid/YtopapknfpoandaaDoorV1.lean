import Derived.Test.YtopapknfpoandaaDoorR4
namespace Go.Proofs.YtopapknfpoandaaDoor.Hand
open Go.Proofs.YtopapknfpoandaaDoorW Go.RowKit Go.Proofs.YtopapknfpoandaaDoorW.PrintWords Go.Proofs.YtopapknfpoandaaDoorW.PrintLast Go.Proofs.YtopapknfpoandaaDoorW.PrintMore Go.Proofs.YtopapknfpoandaaDoorW.SepW Go.Proofs.YtopapknfpoandaaDoor.PALL
set_option linter.unusedVariables false
set_option linter.unusedSimpArgs false
/-! # Reading what was written -/
theorem wrap_id (d : Int) (h0 : -1000000000000 ≤ d) (h1 : d ≤ 1000000000000) : wrap64 d = d := by unfold wrap64; omega
theorem encD_pos (d : Int) (h0 : 0 ≤ d) (h1 : d ≤ 256) : encD d = 2 * d := by
  unfold encD; rw [if_neg (by omega), wrap_id _ (by omega) (by omega)]
theorem encD_neg (d : Int) (h0 : -256 ≤ d) (h1 : d < 0) : encD d = -2 * d - 1 := by
  unfold encD; rw [if_pos h1, wrap_id (-2 * d) (by omega) (by omega), wrap_id _ (by omega) (by omega)]
theorem step_enc (d : Int) (h0 : -256 ≤ d) (h1 : d ≤ 256) (t : List Int) (x y : Int) : stepS ⟨encD d :: t, x, y, false⟩ = (d, ⟨t, x, y, false⟩) := by
  by_cases hd : d < 0
  · rw [encD_neg d h0 hd]
    unfold stepS nextS
    dsimp only
    rw [if_neg (by omega), if_pos (by omega)]
    congr 1
    omega
  · rw [encD_pos d (by omega) h1]
    unfold stepS nextS
    dsimp only
    rw [if_neg (by omega), if_neg (by omega)]
    congr 1
    omega
theorem badP_not {p : S44} (h : ¬ badP p) : 0 ≤ p.f0 ∧ p.f0 ≤ 256 ∧ 0 ≤ p.f1 ∧ p.f1 ≤ 256 := by unfold badP at h; omega
/-- A position on the grid. -/
def GoodXY (x y : Int) : Prop := 0 ≤ x ∧ x ≤ 256 ∧ 0 ≤ y ∧ y ≤ 256
theorem point_enc (p : S44) (hp : ¬ badP p) (t : List Int) (x y : Int) (h : GoodXY x y) : pointS ⟨encD (wrap64 (p.f0 - x)) :: encD (wrap64 (p.f1 - y)) :: t, x, y, false⟩ = ⟨t, p.f0, p.f1, false⟩ := by
  have hp' := badP_not hp
  unfold GoodXY at h
  rw [wrap_id (p.f0 - x) (by omega) (by omega), wrap_id (p.f1 - y) (by omega) (by omega)]
  unfold pointS
  have e1 : half1 ⟨encD (p.f0 - x) :: encD (p.f1 - y) :: t, x, y, false⟩ = ⟨encD (p.f1 - y) :: t, p.f0, y, false⟩ := by
    unfold half1
    rw [step_enc _ (by omega) (by omega)]
    dsimp only
    rw [show x + (p.f0 - x) = p.f0 by omega, wrap_id p.f0 (by omega) (by omega)]
  rw [e1]
  unfold half2
  rw [step_enc _ (by omega) (by omega)]
  dsimp only
  rw [show y + (p.f1 - y) = p.f1 by omega, wrap_id p.f1 (by omega) (by omega)]
theorem outS_good : ∀ (pts : List S44) (x y : Int), (∀ p ∈ pts, ¬ badP p) → GoodXY x y → GoodXY (outS pts x y).2.1 (outS pts x y).2.2
  | [], x, y, _, h => h
  | p :: t, x, y, hp, h => outS_good t p.f0 p.f1 (fun q hq => hp q (List.mem_cons_of_mem _ hq)) (badP_not (hp p (List.mem_cons_self ..)))
theorem pts_enc : ∀ (pts : List S44) (t : List Int) (x y : Int), (∀ p ∈ pts, ¬ badP p) → GoodXY x y →
    ptsS pts.length ⟨(outS pts x y).1 ++ t, x, y, false⟩ = (pts, ⟨t, (outS pts x y).2.1, (outS pts x y).2.2, false⟩)
  | [], t, x, y, _, _ => rfl
  | p :: ps, t, x, y, hp, h => by
    have hb := hp p (List.mem_cons_self ..)
    rw [outS, List.length_cons, ptsS, if_neg (by simp)]
    dsimp only [List.cons_append]
    rw [point_enc p hb _ x y h, pts_enc ps t p.f0 p.f1 (fun q hq => hp q (List.mem_cons_of_mem _ hq)) (badP_not hb)]
theorem cmd_enc (id : Int) (hid : id = 1 ∨ id = 2) (pts : List S44) (t : List Int) (x y : Int) (hp : ∀ p ∈ pts, ¬ badP p) (h : GoodXY x y) (hn : pts.length ≤ 1000000) :
    cmdS id ⟨wrap64 (id + 8 * (pts.length : Int)) :: ((outS pts x y).1 ++ t), x, y, false⟩ = (pts, ⟨t, (outS pts x y).2.1, (outS pts x y).2.2, false⟩) := by
  rw [wrap_id _ (by omega) (by omega)]
  unfold cmdS nextS
  dsimp only
  rw [if_neg (by simp; omega), if_neg (by omega), show ((id + 8 * (pts.length : Int)) / 8).toNat = pts.length by omega, pts_enc pts t x y hp h]
theorem nine_l (l : List S44) (h : l.length = 1) : wrap64 (1 + 8 * (l.length : Int)) = 9 := by rw [h]; unfold wrap64; decide
theorem take_len1 {α : Type} {l : List α} (h : l ≠ []) : (l.take 1).length = 1 := by cases l with
  | nil => exact absurd rfl h
  | cons a t => simp
/-- A part that Check takes. -/
def GoodP (p : List S44) : Prop := p ≠ [] ∧ p.length ≤ 8000 ∧ ∀ q ∈ p, ¬ badP q
theorem decL_enc (k3 : Bool) : ∀ (parts : List (List S44)) (n : Nat) (t : List Int) (x y : Int) (acc : List (List S44)), (∀ p ∈ parts, GoodP p) → GoodXY x y →
    ∃ x' y', GoodXY x' y' ∧ decL k3 (n + parts.length) ⟨encP k3 parts x y ++ t, x, y, false⟩ acc = decL k3 n ⟨t, x', y', false⟩ (acc ++ parts)
  | [], n, t, x, y, acc, _, h => ⟨x, y, h, by rw [List.append_nil]; rfl⟩
  | p :: ps, n, t, x, y, acc, hp, h => by
    obtain ⟨g1, g2, g3⟩ := hp p (List.mem_cons_self ..)
    have ht := take_len1 g1
    have gt : ∀ q ∈ p.take 1, ¬ badP q := fun q hq => g3 q (List.mem_of_mem_take hq)
    have gd : ∀ q ∈ p.drop 1, ¬ badP q := fun q hq => g3 q (List.mem_of_mem_drop hq)
    have h1 := outS_good (p.take 1) x y gt h
    have h2 := outS_good (p.drop 1) _ _ gd h1
    obtain ⟨x', y', h3, e⟩ := decL_enc k3 ps n t _ _ (acc ++ [p]) (fun q hq => hp q (List.mem_cons_of_mem _ hq)) h2
    refine ⟨x', y', h3, ?_⟩
    rw [show acc ++ p :: ps = acc ++ [p] ++ ps by simp, ← e, encP, List.length_cons, ← Nat.add_assoc, decL]
    have c1 := cmd_enc 1 (.inl rfl) (p.take 1) (wrap64 (2 + 8 * ((p.drop 1).length : Int)) :: ((outS (p.drop 1) (outS (p.take 1) x y).2.1 (outS (p.take 1) x y).2.2).1 ++ ((if k3 then [15] else []) ++ (encP k3 ps (outS (p.drop 1) (outS (p.take 1) x y).2.1 (outS (p.take 1) x y).2.2).2.1 (outS (p.drop 1) (outS (p.take 1) x y).2.1 (outS (p.take 1) x y).2.2).2.2 ++ t)))) x y gt h (by omega)
    rw [nine_l _ ht] at c1
    have c2 := cmd_enc 2 (.inr rfl) (p.drop 1) ((if k3 then [15] else []) ++ (encP k3 ps (outS (p.drop 1) (outS (p.take 1) x y).2.1 (outS (p.take 1) x y).2.2).2.1 (outS (p.drop 1) (outS (p.take 1) x y).2.1 (outS (p.take 1) x y).2.2).2.2 ++ t)) _ _ gd h1 (by rw [List.length_drop]; omega)
    simp only [List.cons_append, List.append_assoc] at c1 c2 ⊢
    rw [if_neg (by simp), c1]
    dsimp only
    rw [if_neg (by omega), c2]
    dsimp only
    rw [List.take_append_drop]
    congr 1
    cases k3 with
    | false => rfl
    | true => rfl
theorem parts_good {kind : Int} (hk : 1 ≤ kind) {parts : List (List S44)} (h : partsS kind parts = 0) : ∀ p ∈ parts, GoodP p := by
  induction parts with
  | nil => intro p hp; cases hp
  | cons a t ih =>
    rw [partsS] at h
    split at h
    · rename_i ha
      intro p hp
      rcases List.mem_cons.1 hp with rfl | hp
      · unfold partS at ha
        split at ha
        · omega
        · rename_i h1
          split at ha
          · omega
          · rename_i h2
            split at ha
            · omega
            · rename_i h3
              refine ⟨fun he => h1 (.inl (by rw [he]; simp; omega)), by omega, fun q hq hb => h3 ⟨q, hq, hb⟩⟩
      · exact ih h p hp
    · rename_i ha; exact absurd h ha
theorem good00 : GoodXY 0 0 := by unfold GoodXY; omega
theorem check_split {kind : Int} {parts : List (List S44)} (h : checkS kind parts = 0) : (kind = 1 ∨ kind = 2 ∨ kind = 3) ∧ parts ≠ [] ∧ partsS kind parts = 0 := by
  unfold checkS at h
  split at h
  · omega
  · split at h
    · omega
    · rename_i h1 h2; exact ⟨by omega, h2, h⟩
theorem ones {parts : List (List S44)} (h : partsS 1 parts = 0) : ∀ p ∈ parts, ∃ q, p = [q] ∧ ¬ badP q := by
  have hg := parts_good (by omega) h
  have hl := parts_long h
  induction parts with
  | nil => intro p hp; cases hp
  | cons a t ih =>
    rw [partsS] at h
    split at h
    · rename_i ha
      intro p hp
      rcases List.mem_cons.1 hp with rfl | hp
      · unfold partS at ha
        split at ha
        · omega
        · rename_i h1
          have g := hg p (List.mem_cons_self ..)
          match p, g, h1 with
          | [], g, _ => exact absurd rfl g.1
          | [q], g, _ => exact ⟨q, rfl, g.2.2 q (List.mem_cons_self ..)⟩
          | q :: q' :: r, g, h1 => exact absurd (.inr ⟨rfl, by simp⟩) h1
      · exact ih h (fun p hp => hg p (List.mem_cons_of_mem _ hp)) (fun p hp => hl p (List.mem_cons_of_mem _ hp)) p hp
    · rename_i ha; exact absurd h ha
theorem firsts_map {parts : List (List S44)} (h : ∀ p ∈ parts, ∃ q, p = [q] ∧ ¬ badP q) : (firsts parts).map (fun p => [p]) = parts ∧ (∀ q ∈ firsts parts, ¬ badP q) := by
  induction parts with
  | nil => exact ⟨rfl, fun q hq => by cases hq⟩
  | cons a t ih =>
    obtain ⟨q, rfl, hq⟩ := h a (List.mem_cons_self ..)
    obtain ⟨h1, h2⟩ := ih (fun p hp => h p (List.mem_cons_of_mem _ hp))
    have e : firsts ([q] :: t) = q :: firsts t := rfl
    rw [e]
    exact ⟨by rw [List.map_cons, h1], fun p hp => (List.mem_cons.1 hp).elim (fun e => by rw [e]; exact hq) (h2 p)⟩
theorem firsts_len (parts : List (List S44)) : (firsts parts).length = parts.length := List.length_map ..
theorem encP_parts (k3 : Bool) : ∀ (l : List (List S44)) (x y : Int), l.length ≤ (encP k3 l x y).length
  | [], _, _ => Nat.le_refl _
  | p :: t, x, y => by
    have h := encP_parts k3 t (outS (p.drop 1) (outS (p.take 1) x y).2.1 (outS (p.take 1) x y).2.2).2.1 (outS (p.drop 1) (outS (p.take 1) x y).2.1 (outS (p.take 1) x y).2.2).2.2
    rw [encP]
    simp only [List.length_append, List.length_cons]
    omega
theorem decP1_enc {parts : List (List S44)} (h : partsS 1 parts = 0) (hN : total parts ≤ 1000000) (t : List Int) :
    ∃ x y, decP 1 (wrap64 (1 + 8 * (parts.length : Int)) :: ((outS (firsts parts) 0 0).1 ++ t)) = (parts, ⟨t, x, y, false⟩) := by
  obtain ⟨h1, h2⟩ := firsts_map (ones h)
  have hl := total_len parts
  have c := cmd_enc 1 (.inl rfl) (firsts parts) t 0 0 h2 good00 (by rw [firsts_len]; omega)
  rw [firsts_len] at c
  refine ⟨(outS (firsts parts) 0 0).2.1, (outS (firsts parts) 0 0).2.2, ?_⟩
  unfold decP r0
  rw [if_pos rfl, c]
  dsimp only
  rw [h1]
theorem decP2_enc {kind : Int} (hk : kind = 2 ∨ kind = 3) {parts : List (List S44)} (h : partsS kind parts = 0) (t : List Int) :
    ∃ x y n, GoodXY x y ∧ t.length + 1 ≤ n ∧ decP kind (encP (decide (kind = 3)) parts 0 0 ++ t) = decL (decide (kind = 3)) n ⟨t, x, y, false⟩ parts := by
  have hp := encP_parts (decide (kind = 3)) parts 0 0
  obtain ⟨x, y, hg, e⟩ := decL_enc (decide (kind = 3)) parts ((encP (decide (kind = 3)) parts 0 0).length + t.length + 1 - parts.length) t 0 0 [] (parts_good (by omega) h) good00
  refine ⟨x, y, (encP (decide (kind = 3)) parts 0 0).length + t.length + 1 - parts.length, hg, by omega, ?_⟩
  rw [List.nil_append] at e
  rw [← e]
  unfold decP r0
  rw [if_neg (by omega), List.length_append, show (encP (decide (kind = 3)) parts 0 0).length + t.length + 1 - parts.length + parts.length = (encP (decide (kind = 3)) parts 0 0).length + t.length + 1 by omega]
theorem decL_stop (k3 : Bool) (n : Nat) (r : RS) (acc : List (List S44)) (h : r.l = [] ∨ r.b = true) : decL k3 n r acc = (acc, r) := by
  cases n with
  | zero => rfl
  | succ n => rw [decL, if_pos h]
theorem encS_ok {kind : Int} {parts : List (List S44)} (h : checkS kind parts = 0) : encS kind parts = if kind = 1 then wrap64 (1 + 8 * (parts.length : Int)) :: (outS (firsts parts) 0 0).1 else encP (decide (kind = 3)) parts 0 0 := by
  unfold encS; rw [if_pos h]
theorem round_trip {kind : Int} {parts : List (List S44)} (h : checkS kind parts = 0) (hN : total parts ≤ 1000000) : decS kind (encS kind parts) = (kind, parts, 0) := by
  obtain ⟨hk, hne, hp⟩ := check_split h
  rw [encS_ok h]
  by_cases h1 : kind = 1
  · subst h1
    obtain ⟨x, y, e⟩ := decP1_enc hp hN []
    rw [List.append_nil] at e
    rw [if_pos rfl]
    exact decS_ok (by omega) e (by unfold decBad; simp [h])
  · obtain ⟨x, y, n, hg, hn, e⟩ := decP2_enc (kind := kind) (by omega) hp []
    rw [List.append_nil, decL_stop _ _ _ _ (.inl rfl)] at e
    rw [if_neg h1]
    exact decS_ok (by omega) e (by unfold decBad; simp [h])
theorem decS_4 {kind : Int} {l : List Int} (hk : kind = 1 ∨ kind = 2 ∨ kind = 3) (h : decBad kind (decP kind l)) : decS kind l = (0, [], 4) :=
  decS_bad (by omega) rfl h
theorem other_kind {kind : Int} {parts : List (List S44)} (h : checkS kind parts = 0) (hN : total parts ≤ 1000000) : (decS (wrap64 (Int.tmod kind 3 + 1)) (encS kind parts)).2.2 = 4 := by
  obtain ⟨hk, hne, hp⟩ := check_split h
  rw [encS_ok h]
  rcases hk with rfl | rfl | rfl
  · rw [if_pos rfl, show wrap64 (Int.tmod 1 3 + 1) = 2 by decide +kernel]
    rw [decS_4 (.inr (.inl rfl))]
    obtain ⟨h1, h2⟩ := firsts_map (ones hp)
    have hl := total_len parts
    have c := cmd_enc 1 (.inl rfl) (firsts parts) [] 0 0 h2 good00 (by rw [firsts_len]; omega)
    rw [firsts_len, List.append_nil] at c
    unfold decP r0
    rw [if_neg (by omega), List.length_cons, decL, if_neg (by simp), c]
    dsimp only
    split
    · exact .inl rfl
    · have e2 : cmdS 2 ⟨[], (outS (firsts parts) 0 0).2.1, (outS (firsts parts) 0 0).2.2, false⟩ = ([], ⟨[], (outS (firsts parts) 0 0).2.1, (outS (firsts parts) 0 0).2.2, true⟩) := rfl
      rw [e2]
      dsimp only
      have e3 : (if decide ((2 : Int) = 3) = true then (cmdS 7 ⟨[], (outS (firsts parts) 0 0).2.1, (outS (firsts parts) 0 0).2.2, true⟩).2 else ⟨[], (outS (firsts parts) 0 0).2.1, (outS (firsts parts) 0 0).2.2, true⟩) = (⟨[], (outS (firsts parts) 0 0).2.1, (outS (firsts parts) 0 0).2.2, true⟩ : RS) := rfl
      rw [e3, decL_stop _ _ _ _ (.inr rfl)]
      exact .inl rfl
  · rw [if_neg (by omega), show wrap64 (Int.tmod 2 3 + 1) = 3 by decide +kernel, show decide ((2 : Int) = 3) = false from rfl]
    rw [decS_4 (.inr (.inr rfl))]
    match parts, hne, hp with
    | p :: ps, _, hp =>
      obtain ⟨g1, g2, g3⟩ := parts_good (by omega) hp p (List.mem_cons_self ..)
      have ht := take_len1 g1
      have gt : ∀ q ∈ p.take 1, ¬ badP q := fun q hq => g3 q (List.mem_of_mem_take hq)
      have gd : ∀ q ∈ p.drop 1, ¬ badP q := fun q hq => g3 q (List.mem_of_mem_drop hq)
      have h1 := outS_good (p.take 1) 0 0 gt good00
      have c1 := cmd_enc 1 (.inl rfl) (p.take 1) (wrap64 (2 + 8 * ((p.drop 1).length : Int)) :: ((outS (p.drop 1) (outS (p.take 1) 0 0).2.1 (outS (p.take 1) 0 0).2.2).1 ++ encP false ps (outS (p.drop 1) (outS (p.take 1) 0 0).2.1 (outS (p.take 1) 0 0).2.2).2.1 (outS (p.drop 1) (outS (p.take 1) 0 0).2.1 (outS (p.take 1) 0 0).2.2).2.2)) 0 0 gt good00 (by omega)
      rw [nine_l _ ht] at c1
      have c2 := cmd_enc 2 (.inr rfl) (p.drop 1) (encP false ps (outS (p.drop 1) (outS (p.take 1) 0 0).2.1 (outS (p.take 1) 0 0).2.2).2.1 (outS (p.drop 1) (outS (p.take 1) 0 0).2.1 (outS (p.take 1) 0 0).2.2).2.2) _ _ gd h1 (by rw [List.length_drop]; omega)
      unfold decP r0
      rw [if_neg (by omega), show decide ((3 : Int) = 3) = true from rfl, encP, decL]
      simp only [List.cons_append, List.append_assoc, List.nil_append, Bool.false_eq_true, if_false] at c1 c2 ⊢
      rw [if_neg (by simp), c1]
      dsimp only
      rw [if_neg (by omega), c2]
      dsimp only
      have hb7 : ∀ (l : List Int) (x y : Int), (l = [] ∨ ∃ t, l = 9 :: t) → (cmdS 7 ⟨l, x, y, false⟩).2.b = true := by
        intro l x y hl
        rcases hl with rfl | ⟨t, rfl⟩
        · rfl
        · unfold cmdS nextS
          dsimp only
          rw [if_pos (by omega)]
      have hb := hb7 (encP false ps (outS (p.drop 1) (outS (p.take 1) 0 0).2.1 (outS (p.take 1) 0 0).2.2).2.1 (outS (p.drop 1) (outS (p.take 1) 0 0).2.1 (outS (p.take 1) 0 0).2.2).2.2) (outS (p.drop 1) (outS (p.take 1) 0 0).2.1 (outS (p.take 1) 0 0).2.2).2.1 (outS (p.drop 1) (outS (p.take 1) 0 0).2.1 (outS (p.take 1) 0 0).2.2).2.2 (by
        cases ps with
        | nil => exact .inl rfl
        | cons q qs => exact .inr ⟨_, by rw [encP]; simp only [List.cons_append]; rfl⟩)
      rw [if_pos trivial, decL_stop _ _ _ _ (.inr hb)]
      exact .inl hb
  · rw [if_neg (by omega), show wrap64 (Int.tmod 3 3 + 1) = 1 by decide +kernel, show decide ((3 : Int) = 3) = true from rfl]
    rw [decS_4 (.inl rfl)]
    match parts, hne, hp with
    | p :: ps, _, hp =>
      obtain ⟨g1, g2, g3⟩ := parts_good (by omega) hp p (List.mem_cons_self ..)
      have ht := take_len1 g1
      have gt : ∀ q ∈ p.take 1, ¬ badP q := fun q hq => g3 q (List.mem_of_mem_take hq)
      have c1 := cmd_enc 1 (.inl rfl) (p.take 1) (wrap64 (2 + 8 * ((p.drop 1).length : Int)) :: ((outS (p.drop 1) (outS (p.take 1) 0 0).2.1 (outS (p.take 1) 0 0).2.2).1 ++ ([15] ++ encP true ps (outS (p.drop 1) (outS (p.take 1) 0 0).2.1 (outS (p.take 1) 0 0).2.2).2.1 (outS (p.drop 1) (outS (p.take 1) 0 0).2.1 (outS (p.take 1) 0 0).2.2).2.2))) 0 0 gt good00 (by omega)
      rw [nine_l _ ht] at c1
      unfold decP r0
      rw [if_pos rfl, encP]
      simp only [List.cons_append, List.append_assoc, List.nil_append, if_true] at c1 ⊢
      rw [c1]
      exact .inr (.inl (by simp))
/-! # Writing what was read -/
theorem encD_step (d z : Int) (h0 : 0 ≤ z) (h1 : z ≤ 512) (h : (z % 2 = 1 ∧ d = -((z + 1) / 2)) ∨ (¬ z % 2 = 1 ∧ d = z / 2)) : encD d = z := by
  by_cases hd : d < 0
  · rw [encD_neg d (by omega) hd]; omega
  · rw [encD_pos d (by omega) (by omega)]; omega
theorem step_inv (r : RS) (h : (stepS r).2.b = false) : r.b = false ∧ -256 ≤ (stepS r).1 ∧ (stepS r).1 ≤ 256 ∧ r.l = encD (stepS r).1 :: (stepS r).2.l ∧ (stepS r).2.x = r.x ∧ (stepS r).2.y = r.y := by
  obtain ⟨l, x, y, b⟩ := r
  cases l with
  | nil =>
    exfalso
    unfold stepS nextS at h
    dsimp only at h
    rw [if_neg (by omega), if_neg (by omega)] at h
    cases h
  | cons z t =>
    unfold stepS nextS at h ⊢
    dsimp only at h ⊢
    by_cases hz : z < 0 ∨ 512 < z
    · rw [if_pos hz] at h; cases h
    · rw [if_neg hz] at h ⊢
      by_cases h2 : z % 2 = 1
      · rw [if_pos h2] at h ⊢
        refine ⟨h, ?_, ?_, ?_, rfl, rfl⟩
        · show -256 ≤ -((z + 1) / 2); omega
        · show -((z + 1) / 2) ≤ 256; omega
        · rw [encD_step _ z (by omega) (by omega) (.inl ⟨h2, rfl⟩)]
      · rw [if_neg h2] at h ⊢
        refine ⟨h, ?_, ?_, ?_, rfl, rfl⟩
        · show -256 ≤ z / 2; omega
        · show z / 2 ≤ 256; omega
        · rw [encD_step _ z (by omega) (by omega) (.inr ⟨h2, rfl⟩)]
theorem wrap_back (x d : Int) (h0 : -256 ≤ d) (h1 : d ≤ 256) : wrap64 (wrap64 (x + d) - x) = d := by unfold wrap64; omega
theorem point_inv (r : RS) (h : (pointS r).b = false) : r.b = false ∧ r.l = encD (wrap64 ((pointS r).x - r.x)) :: encD (wrap64 ((pointS r).y - r.y)) :: (pointS r).l := by
  have h2 := step_inv (half1 r) h
  obtain ⟨g1, g2, g3, g4, g5, g6⟩ := h2
  have h1 := step_inv r g1
  obtain ⟨k1, k2, k3, k4, k5, k6⟩ := h1
  have ex : (pointS r).x = wrap64 (r.x + (stepS r).1) := by
    show (stepS (half1 r)).2.x = _
    rw [g5]; rfl
  have ey : (pointS r).y = wrap64 (r.y + (stepS (half1 r)).1) := by
    show wrap64 ((half1 r).y + _) = _
    have : (half1 r).y = r.y := k6
    rw [this]
  rw [ex, ey, wrap_back _ _ k2 k3, wrap_back _ _ g2 g3]
  refine ⟨k1, ?_⟩
  rw [k4]
  have : (stepS r).2.l = encD (stepS (half1 r)).1 :: (stepS (half1 r)).2.l := g4
  rw [this]
  rfl
theorem pts_b : ∀ (m : Nat) (r : RS), (ptsS m r).2.b = false → r.b = false
  | 0, r, h => h
  | m + 1, r, h => by
    rw [ptsS] at h
    split at h
    · rename_i hb; exact h
    · rename_i hb; simpa using hb
theorem pts_inv : ∀ (m : Nat) (r : RS), (ptsS m r).2.b = false → (ptsS m r).1.length = m ∧ r.l = (outS (ptsS m r).1 r.x r.y).1 ++ (ptsS m r).2.l ∧ (outS (ptsS m r).1 r.x r.y).2 = ((ptsS m r).2.x, (ptsS m r).2.y)
  | 0, r, h => ⟨rfl, rfl, rfl⟩
  | m + 1, r, h => by
    have hb := pts_b (m + 1) r h
    rw [ptsS, if_neg (by simp [hb])] at h ⊢
    dsimp only at h ⊢
    obtain ⟨i1, i2, i3⟩ := pts_inv m (pointS r) h
    obtain ⟨p1, p2⟩ := point_inv r (pts_b m _ h)
    refine ⟨by rw [List.length_cons, i1], ?_, ?_⟩
    · rw [outS]
      dsimp only [List.cons_append]
      rw [← i2]
      exact p2
    · rw [outS]
      exact i3
theorem next_inv (r : RS) (h : (nextS r).2.b = false) : r.b = false ∧ r.l = (nextS r).1 :: (nextS r).2.l ∧ (nextS r).2.x = r.x ∧ (nextS r).2.y = r.y := by
  obtain ⟨l, x, y, b⟩ := r
  cases l with
  | nil => cases h
  | cons z t => exact ⟨h, rfl, rfl, rfl⟩
theorem cmd_inv (id : Int) (r : RS) (hid : id = 1 ∨ id = 2) (hn : Num r.l) (h : (cmdS id r).2.b = false) :
    r.b = false ∧ r.l = wrap64 (id + 8 * ((cmdS id r).1.length : Int)) :: ((outS (cmdS id r).1 r.x r.y).1 ++ (cmdS id r).2.l) ∧ (outS (cmdS id r).1 r.x r.y).2 = ((cmdS id r).2.x, (cmdS id r).2.y) := by
  have hz := Num.next hn
  unfold cmdS at h ⊢
  split at h
  · cases h
  · rename_i hc
    rw [if_neg hc]
    rw [if_neg (by omega)] at h ⊢
    obtain ⟨i1, i2, i3⟩ := pts_inv _ _ h
    obtain ⟨n1, n2, n3, n4⟩ := next_inv r (pts_b _ _ h)
    rw [n3, n4] at i2 i3
    refine ⟨n1, ?_, i3⟩
    rw [← i2, i1, n2]
    congr 1
    have : 0 ≤ (nextS r).1 ∧ (nextS r).1 % 8 = id := by omega
    unfold wrap64
    omega
theorem cmd7_inv (r : RS) (h : (cmdS 7 r).2.b = false) : r.b = false ∧ r.l = 15 :: (cmdS 7 r).2.l ∧ (cmdS 7 r).2.x = r.x ∧ (cmdS 7 r).2.y = r.y := by
  unfold cmdS at h ⊢
  split at h
  · cases h
  · rename_i hc
    rw [if_neg hc]
    rw [if_pos rfl] at h ⊢
    obtain ⟨n1, n2, n3, n4⟩ := next_inv r h
    refine ⟨n1, ?_, n3, n4⟩
    have : (nextS r).1 = 15 := by omega
    rw [n2, this]
theorem drop_one {p q : List S44} (h : p.length = 1) : (p ++ q).take 1 = p ∧ (p ++ q).drop 1 = q := by
  match p, h with
  | [a], _ => exact ⟨rfl, rfl⟩
theorem decL_inv (k3 : Bool) : ∀ (n : Nat) (r : RS) (acc : List (List S44)), Num r.l → (decL k3 n r acc).2.b = false → ∃ ps, (decL k3 n r acc).1 = acc ++ ps ∧ r.l = encP k3 ps r.x r.y ++ (decL k3 n r acc).2.l
  | 0, r, acc, _, _ => ⟨[], (List.append_nil _).symm, rfl⟩
  | n + 1, r, acc, hn, h => by
    rw [decL] at h ⊢
    split at h
    · rename_i hs; rw [if_pos hs]; exact ⟨[], (List.append_nil _).symm, rfl⟩
    · rename_i hs
      rw [if_neg hs]
      split at h
      · cases h
      · rename_i h1
        rw [if_neg h1]
        have h1' : (cmdS 1 r).1.length = 1 := by omega
        have n1 : Num (cmdS 1 r).2.l := hn.suf (cmd_suf 1 r)
        have n2 : Num (cmdS 2 (cmdS 1 r).2).2.l := n1.suf (cmd_suf 2 _)
        have hn' : Num (if k3 then (cmdS 7 (cmdS 2 (cmdS 1 r).2).2).2 else (cmdS 2 (cmdS 1 r).2).2).l := by
          cases k3 with
          | false => exact n2
          | true => exact n2.suf (cmd_suf 7 _)
        obtain ⟨ps, e1, e2⟩ := decL_inv k3 n _ _ hn' h
        have hb0 : (if k3 then (cmdS 7 (cmdS 2 (cmdS 1 r).2).2).2 else (cmdS 2 (cmdS 1 r).2).2).b = false := by
          cases hq : (if k3 then (cmdS 7 (cmdS 2 (cmdS 1 r).2).2).2 else (cmdS 2 (cmdS 1 r).2).2).b with
          | false => rfl
          | true => rw [decL_stop _ _ _ _ (.inr hq)] at h; exact absurd (hq.symm.trans h) (by decide)
        have hb2 : (cmdS 2 (cmdS 1 r).2).2.b = false := by
          cases k3 with
          | false => exact hb0
          | true => exact (cmd7_inv _ hb0).1
        obtain ⟨q1, q2, q3⟩ := cmd_inv 2 _ (.inr rfl) n1 hb2
        obtain ⟨p1, p2, p3⟩ := cmd_inv 1 _ (.inl rfl) hn q1
        obtain ⟨d1, d2⟩ := drop_one (q := (cmdS 2 (cmdS 1 r).2).1) h1'
        refine ⟨((cmdS 1 r).1 ++ (cmdS 2 (cmdS 1 r).2).1) :: ps, by rw [e1]; simp, ?_⟩
        rw [encP, d1, d2, p2, q2, nine_l _ h1']
        simp only [List.cons_append, List.append_assoc]
        have x1 : (outS (cmdS 1 r).1 r.x r.y).2.1 = (cmdS 1 r).2.x := by rw [p3]
        have y1 : (outS (cmdS 1 r).1 r.x r.y).2.2 = (cmdS 1 r).2.y := by rw [p3]
        rw [x1, y1]
        have x2 : (outS (cmdS 2 (cmdS 1 r).2).1 (cmdS 1 r).2.x (cmdS 1 r).2.y).2.1 = (cmdS 2 (cmdS 1 r).2).2.x := by rw [q3]
        have y2 : (outS (cmdS 2 (cmdS 1 r).2).1 (cmdS 1 r).2.x (cmdS 1 r).2.y).2.2 = (cmdS 2 (cmdS 1 r).2).2.y := by rw [q3]
        rw [x2, y2]
        congr 4
        cases k3 with
        | false => exact e2
        | true =>
          obtain ⟨c1, c2, c3, c4⟩ := cmd7_inv _ hb0
          rw [c2, ← c3, ← c4]
          simp only [if_true, List.cons_append, List.nil_append]
          congr 1
theorem map_firsts : ∀ (l : List S44), firsts (l.map (fun p => [p])) = l
  | [] => rfl
  | a :: t => by
    have := map_firsts t
    unfold firsts at this ⊢
    rw [List.map_cons, List.map_cons, this]
    rfl
theorem inverse {kind : Int} {l : List Int} (hn : Num l) (hk : kind = 1 ∨ kind = 2 ∨ kind = 3) (h : ¬ decBad kind (decP kind l)) : checkS kind (decP kind l).1 = 0 ∧ encS kind (decP kind l).1 = l := by
  have h1 : (decP kind l).2.b = false := by
    cases hb : (decP kind l).2.b with
    | false => rfl
    | true => exact absurd (.inl hb) h
  have h2 : (decP kind l).2.l = [] := Classical.byContradiction fun hc => h (.inr (.inl hc))
  have h3 : checkS kind (decP kind l).1 = 0 := Classical.byContradiction fun hc => h (.inr (.inr hc))
  refine ⟨h3, ?_⟩
  rw [encS_ok h3]
  by_cases hk1 : kind = 1
  · subst hk1
    rw [if_pos rfl]
    unfold decP at h1 h2 ⊢
    rw [if_pos rfl] at h1 h2 ⊢
    dsimp only at h1 h2 ⊢
    obtain ⟨p1, p2, p3⟩ := cmd_inv 1 (r0 l) (.inl rfl) hn h1
    rw [map_firsts, List.length_map]
    rw [h2, List.append_nil] at p2
    exact p2.symm
  · rw [if_neg hk1]
    unfold decP at h1 h2 ⊢
    rw [if_neg hk1] at h1 h2 ⊢
    obtain ⟨ps, e1, e2⟩ := decL_inv (decide (kind = 3)) (l.length + 1) (r0 l) [] hn h1
    rw [h2, List.append_nil] at e2
    rw [e1, List.nil_append]
    exact e2.symm
theorem pt_one (z : Int) (x y : Int) : (pointS ⟨[z], x, y, false⟩).b = true := by
  cases h : (pointS ⟨[z], x, y, false⟩).b with
  | true => rfl
  | false =>
    have := (point_inv _ h).2
    simp at this
theorem pt_nil (x y : Int) : (pointS ⟨[], x, y, false⟩).b = true := by
  cases h : (pointS ⟨[], x, y, false⟩).b with
  | true => rfl
  | false =>
    have := (point_inv _ h).2
    simp at this
theorem decL_one (k3 : Bool) (z x y : Int) (n : Nat) (acc : List (List S44)) (hn : 1 ≤ n) : (decL k3 n ⟨[z], x, y, false⟩ acc).2.b = true := by
  obtain ⟨n, rfl⟩ : ∃ m, n = m + 1 := ⟨n - 1, by omega⟩
  cases hb : (decL k3 (n + 1) ⟨[z], x, y, false⟩ acc).2.b with
  | true => rfl
  | false =>
    exfalso
    rw [decL, if_neg (by simp)] at hb
    split at hb
    · cases hb
    · rename_i h1
      have h1' : (cmdS 1 ⟨[z], x, y, false⟩).1.length = 1 := by omega
      have hb2 : (cmdS 1 ⟨[z], x, y, false⟩).2.b = true := by
        unfold cmdS nextS at h1' ⊢
        dsimp only at h1' ⊢
        split at h1'
        · rename_i hc; rw [if_pos hc]
        · rename_i hc
          rw [if_neg hc]
          rw [if_neg (by omega)] at h1' ⊢
          cases hq : (ptsS (z / 8).toNat ⟨[], x, y, false⟩).2.b with
          | true => rfl
          | false =>
            obtain ⟨i1, i2, i3⟩ := pts_inv _ _ hq
            have := congrArg List.length i2
            rw [List.length_append, outS_len, h1'] at this
            simp only [List.length_nil] at this
            omega
      have hb3 : (cmdS 2 (cmdS 1 ⟨[z], x, y, false⟩).2).2.b = true := by
        cases hq : (cmdS 2 (cmdS 1 ⟨[z], x, y, false⟩).2).2.b with
        | true => rfl
        | false =>
          generalize (cmdS 1 ⟨[z], x, y, false⟩).2 = q at hq hb2
          unfold cmdS at hq
          split at hq
          · cases hq
          · rename_i hc
            rw [if_neg (by omega)] at hq
            have := next_inv _ (pts_b _ _ hq)
            exact absurd (this.1.symm.trans hb2) (by decide)
      have hb4 : (if k3 then (cmdS 7 (cmdS 2 (cmdS 1 ⟨[z], x, y, false⟩).2).2).2 else (cmdS 2 (cmdS 1 ⟨[z], x, y, false⟩).2).2).b = true := by
        cases k3 with
        | false => exact hb3
        | true =>
          cases hq : (cmdS 7 (cmdS 2 (cmdS 1 ⟨[z], x, y, false⟩).2).2).2.b with
          | true => exact hq
          | false => exact absurd ((cmd7_inv _ hq).1.symm.trans hb3) (by decide)
      rw [decL_stop _ _ _ _ (.inr hb4)] at hb
      exact absurd (hb4.symm.trans hb) (by decide)
theorem enc_num {l : List Int} {z : Int} (h : Num (l ++ [z])) : Num l := fun a ha => h a (List.mem_append_left _ ha)
theorem longer {kind : Int} {l : List Int} {z : Int} (hn : Num (l ++ [z])) (hl : l.length ≤ 1000000) (hk : kind = 1 ∨ kind = 2 ∨ kind = 3) (h : ¬ decBad kind (decP kind l)) : decBad kind (decP kind (l ++ [z])) := by
  obtain ⟨hc, he⟩ := inverse (enc_num hn) hk h
  obtain ⟨_, hne, hp⟩ := check_split hc
  rw [encS_ok hc] at he
  generalize (decP kind l).1 = parts at *
  by_cases hk1 : kind = 1
  · subst hk1
    rw [if_pos rfl] at he
    have hN : (firsts parts).length ≤ 1000000 := by
      have := congrArg List.length he
      rw [List.length_cons, outS_len] at this
      omega
    obtain ⟨f1, f2⟩ := firsts_map (ones hp)
    have c := cmd_enc 1 (.inl rfl) (firsts parts) [z] 0 0 f2 good00 hN
    rw [firsts_len, ← List.cons_append, he] at c
    unfold decP r0
    rw [if_pos rfl, c]
    exact .inr (.inl (by simp))
  · rw [if_neg hk1] at he
    obtain ⟨x, y, n, hg, h1, e⟩ := decP2_enc (kind := kind) (by omega) hp [z]
    rw [he] at e
    rw [e]
    exact .inl (decL_one _ z x y n _ (by simp at h1; omega))
theorem decS_cases {kind : Int} {l : List Int} : (decS kind l = (0, [], 1) ∧ (kind < 1 ∨ 3 < kind)) ∨ (decS kind l = (0, [], 4) ∧ (kind = 1 ∨ kind = 2 ∨ kind = 3) ∧ decBad kind (decP kind l)) ∨ (decS kind l = (kind, (decP kind l).1, 0) ∧ (kind = 1 ∨ kind = 2 ∨ kind = 3) ∧ ¬ decBad kind (decP kind l)) := by
  by_cases hk : kind < 1 ∨ 3 < kind
  · exact .inl ⟨by unfold decS; rw [if_pos hk], hk⟩
  · by_cases hb : decBad kind (decP kind l)
    · exact .inr (.inl ⟨decS_bad hk rfl hb, by omega, hb⟩)
    · exact .inr (.inr ⟨decS_ok hk rfl hb, by omega, hb⟩)
/-- CmdsInverse, of what the functions answer. -/
theorem inverse_law {kind : Int} {l : List Int} (hn : Num l) (hl : l.length ≤ 1000000) (h0 : (decS kind l).2.2 = 0) : checkS kind (decS kind l).2.1 = 0 ∧ (decS kind l).1 = kind ∧ encS kind (decS kind l).2.1 = l ∧ (decS kind (l.take (l.length - 1))).2.2 = 4 := by
  rcases decS_cases (kind := kind) (l := l) with ⟨e, _⟩ | ⟨e, _, _⟩ | ⟨e, hk, hb⟩
  · rw [e] at h0; exact absurd h0 (by decide)
  · rw [e] at h0; exact absurd h0 (by decide)
  · rw [e]
    obtain ⟨h1, h2⟩ := inverse hn hk hb
    refine ⟨h1, rfl, h2, ?_⟩
    have hne : l ≠ [] := by
      rintro rfl
      apply hb
      by_cases hk1 : kind = 1
      · subst hk1; exact .inl rfl
      · refine .inr (.inr ?_)
        unfold decP
        rw [if_neg hk1, decL_stop _ _ _ _ (.inl rfl)]
        unfold checkS
        rw [if_neg (by omega), if_pos rfl]
        decide
    obtain ⟨z, t, hzt⟩ : ∃ z t, l = t ++ [z] := ⟨l.getLast hne, l.dropLast, (List.dropLast_concat_getLast hne).symm⟩
    subst hzt
    have et : (t ++ [z]).take ((t ++ [z]).length - 1) = t := by simp
    rw [et]
    rcases decS_cases (kind := kind) (l := t) with ⟨e', hk'⟩ | ⟨e', _, _⟩ | ⟨e', _, hb'⟩
    · omega
    · rw [e']
    · exact absurd (longer hn (by simp at hl; omega) hk hb') hb
theorem inverse_not {kind : Int} {l : List Int} (h0 : (decS kind l).2.2 ≠ 0) : (decS kind l).1 = 0 ∧ (decS kind l).2.1 = [] := by
  rcases decS_cases (kind := kind) (l := l) with ⟨e, _⟩ | ⟨e, _, _⟩ | ⟨e, hk, hb⟩
  · rw [e]; exact ⟨rfl, rfl⟩
  · rw [e]; exact ⟨rfl, rfl⟩
  · rw [e] at h0; exact absurd rfl h0
end Go.Proofs.YtopapknfpoandaaDoor.Hand
