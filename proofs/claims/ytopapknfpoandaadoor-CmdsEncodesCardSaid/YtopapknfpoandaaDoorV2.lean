import Derived.Test.YtopapknfpoandaaDoorPALLx8
import Derived.Test.YtopapknfpoandaaDoorL1
import Derived.Test.YtopapknfpoandaaDoorV1
namespace Go.Proofs.YtopapknfpoandaaDoor.Hand
open Go.Proofs.YtopapknfpoandaaDoorW Go.RowKit Go.Proofs.YtopapknfpoandaaDoorW.PrintWords Go.Proofs.YtopapknfpoandaaDoorW.PrintLast Go.Proofs.YtopapknfpoandaaDoorW.PrintMore Go.Proofs.YtopapknfpoandaaDoorW.SepW Go.Proofs.YtopapknfpoandaaDoor.PALL
set_option linter.unusedVariables false
set_option linter.unusedSimpArgs false
/-! # The reference's Check and Encode -/
def bad2 (m : List S44) (r : Int) : Int := if ∃ p ∈ m, badP p then 2 else r
theorem bad2_pos {m : List S44} {r : Int} (h : ∃ p ∈ m, badP p) : bad2 m r = 2 := if_pos h
theorem bad2_neg {m : List S44} {r : Int} (h : ¬ ∃ p ∈ m, badP p) : bad2 m r = r := if_neg h
theorem rck_l1 {a : Int} {l : List (List S44)} (i : Nat) (h1 : i < l.length) (hi : i ≤ 140737488351232) (hrb : l[i].length ≤ 140737488351232) (k0 : Nat) (r0 : Int)
    (H : mapmakerref30_Check.l0 k0 ((i + 1 : Nat) : Int) a l = some r0) : ∀ n j, n + j = l[i].length → mapmakerref30_Check.l1 (n + 1 + k0) (i : Int) (l[i].length : Int) (j : Int) a l = some (bad2 (l[i].drop j) r0)
  | 0, j, hn => by
    have hj : j = l[i].length := by omega
    rw [show 0 + 1 + k0 = k0 + 1 by omega, mapmakerref30_Check.l1, if_neg (by omega), wnext i (by omega), H, hj, List.drop_length, bad2_neg (fun ⟨p, hp, _⟩ => by cases hp)]
  | n + 1, j, hn => by
    have g1 : j < l[i].length := by omega
    have ih := rck_l1 i h1 hi hrb k0 r0 H n (j + 1) (by omega)
    rw [show n + 1 + 1 + k0 = (n + 1 + k0) + 1 by omega, mapmakerref30_Check.l1, if_pos (by omega), if_pos (by omega), if_pos (by omega), if_pos (by omega), rdL_at l i h1, if_pos (by omega), rdT_at _ j g1, wnext j (by omega), ih]
    have hd : l[i].drop j = l[i][j] :: l[i].drop (j + 1) := List.drop_eq_getElem_cons g1
    have key : (∃ p ∈ l[i].drop j, badP p) ↔ badP l[i][j] ∨ ∃ p ∈ l[i].drop (j + 1), badP p := by
      rw [hd]
      constructor
      · rintro ⟨p, hp, hb⟩
        rcases List.mem_cons.1 hp with rfl | hp
        · exact .inl hb
        · exact .inr ⟨p, hp, hb⟩
      · rintro (hb | ⟨p, hp, hb⟩)
        · exact ⟨_, List.mem_cons_self .., hb⟩
        · exact ⟨p, List.mem_cons_of_mem _ hp, hb⟩
    by_cases hb : badP l[i][j]
    · rw [bad2_pos (key.2 (.inl hb))]
      unfold badP at hb
      split
      · rfl
      · split
        · rfl
        · split
          · rfl
          · split
            · rfl
            · omega
    · have hb' := hb
      unfold badP at hb'
      rw [if_neg (by omega), if_neg (by omega), if_neg (by omega), if_neg (by omega)]
      by_cases he : ∃ p ∈ l[i].drop (j + 1), badP p
      · rw [bad2_pos he, bad2_pos (key.2 (.inr he))]
      · rw [bad2_neg he, bad2_neg (fun h => (key.1 h).elim hb he)]
theorem rck_l0 {a : Int} (ha : a = 1 ∨ a = 2 ∨ a = 3) {l : List (List S44)} (hf : Fit l) : ∀ n i, n + i = l.length → ∃ k, mapmakerref30_Check.l0 k (i : Int) a l = some (partsS a (l.drop i))
  | 0, i, hn => by
    have hi : i = l.length := by omega
    refine ⟨1, ?_⟩
    rw [mapmakerref30_Check.l0, if_neg (by omega), hi, List.drop_length]
    rfl
  | n + 1, i, hn => by
    have h1 : i < l.length := by omega
    obtain ⟨k0, hk0⟩ := rck_l0 ha hf n (i + 1) (by omega)
    have hf1 := hf.1
    have hrb := hf.2 l[i] (List.getElem_mem h1)
    have hl1 := rck_l1 i h1 (by omega) hrb k0 _ hk0 l[i].length 0 (by omega)
    rw [show ((0 : Nat) : Int) = 0 from rfl, List.drop_zero] at hl1
    refine ⟨l[i].length + 1 + k0 + 1 + 1, ?_⟩
    have hd : l.drop i = l[i] :: l.drop (i + 1) := List.drop_eq_getElem_cons h1
    rw [mapmakerref30_Check.l0, if_pos (by omega), if_pos (by omega), rdL_at l i h1, hd, partsS]
    have fin : ∀ b : Bool, (b = true ↔ ((l[i].length : Int) < a ∨ (a = 1 ∧ 1 < l[i].length))) → mapmakerref30_Check.j2 (l[i].length + 1 + k0 + 1) (i : Int) (l[i].length : Int) b a l = some (if partS a l[i] = 0 then partsS a (l.drop (i + 1)) else partS a l[i]) := by
      intro b hb
      rw [mapmakerref30_Check.j2]
      unfold partS
      by_cases hc : (l[i].length : Int) < a ∨ (a = 1 ∧ 1 < l[i].length)
      · rw [if_pos (hb.2 hc), if_pos hc]
        rfl
      · rw [if_neg (fun h => hc (hb.1 h)), if_neg hc]
        by_cases h8 : 8000 < l[i].length
        · rw [if_pos (by omega), if_pos h8]
          rfl
        · rw [if_neg (by omega), if_neg h8, hl1]
          by_cases he : ∃ p ∈ l[i], badP p
          · rw [bad2_pos he, if_pos he]
            rfl
          · rw [bad2_neg he, if_neg he]
            rfl
    have ht : ∀ {p : Prop}, p → ((true = true) ↔ p) := fun h => ⟨fun _ => h, fun _ => rfl⟩
    have hfa : ∀ {p : Prop}, ¬ p → ((false = true) ↔ p) := fun h => ⟨fun e => Bool.noConfusion e, fun e => absurd e h⟩
    rcases ha with rfl | rfl | rfl
    · rw [if_pos rfl]
      by_cases h2 : (l[i].length : Int) = 1
      · rw [if_pos h2, if_neg (by omega), if_neg (by omega)]
        exact fin false (hfa (by omega))
      · rw [if_neg h2]
        exact fin true (ht (by omega))
    · rw [if_neg (by omega), if_pos rfl]
      by_cases h2 : (l[i].length : Int) < 2
      · rw [if_pos h2]
        exact fin true (ht (by omega))
      · rw [if_neg h2, if_neg (by omega)]
        exact fin false (hfa (by omega))
    · rw [if_neg (by omega), if_neg (by omega), if_pos rfl]
      by_cases h2 : (l[i].length : Int) < 3
      · exact fin _ ⟨fun _ => by omega, fun _ => decide_eq_true h2⟩
      · exact fin _ ⟨fun h => absurd (of_decide_eq_true h) h2, fun h => absurd h (by omega)⟩
theorem rck_f (a : Int) (l : List (List S44)) (hf : Fit l) : ∃ k, mapmakerref30_Check.f k a l = some (checkS a l) := by
  unfold mapmakerref30_Check.f checkS
  by_cases h : a < 1 ∨ 3 < a
  · refine ⟨1, ?_⟩
    rw [if_pos h]
    by_cases h1 : a < 1
    · rw [if_pos h1, mapmakerref30_Check.j0, if_pos rfl]
    · rw [if_neg h1, mapmakerref30_Check.j0, if_pos (decide_eq_true (by omega))]
  · rw [if_neg h]
    obtain ⟨k, hk⟩ := rck_l0 (a := a) (by omega) hf l.length 0 (by omega)
    refine ⟨k + 1, ?_⟩
    rw [if_neg (by omega), mapmakerref30_Check.j0, if_neg (fun h' => absurd (of_decide_eq_true h') (by omega))]
    by_cases he : l = []
    · rw [if_pos he, he]
      rfl
    · have : l.length ≠ 0 := fun h => he (List.length_eq_zero_iff.1 h)
      rw [if_neg (by omega), if_neg he]
      exact hk
theorem zig_f (n : Int) : mapmakerref30_zigzag.f n = some (encD n) := by
  unfold mapmakerref30_zigzag.f encD
  split <;> rfl
theorem steps_l (l : List S44) (hl : l.length ≤ 100000) : ∀ n i (k : Nat) (acc : List Int) (x y : Int), n + i = l.length → n + 1 ≤ k → acc.length ≤ 1000000 + 2 * i →
    mapmakerref30_steps.l0 k l acc (i : Int) x y = some (acc ++ (outS (l.drop i) x y).1, (outS (l.drop i) x y).2)
  | 0, i, k, acc, x, y, hn, hk, ha => by
    obtain ⟨k, rfl⟩ : ∃ m, k = m + 1 := ⟨k - 1, by omega⟩
    rw [mapmakerref30_steps.l0, if_neg (by omega), show i = l.length by omega, List.drop_length]
    simp [outS]
  | n + 1, i, k, acc, x, y, hn, hk, ha => by
    obtain ⟨k, rfl⟩ : ∃ m, k = m + 1 := ⟨k - 1, by omega⟩
    have h1 : i < l.length := by omega
    have hd : l.drop i = l[i] :: l.drop (i + 1) := List.drop_eq_getElem_cons h1
    rw [mapmakerref30_steps.l0, if_pos (by omega), if_pos (by omega), rdT_at l i h1, zig_f, Option.bind_some, zig_f, Option.bind_some, Option.bind_some, if_pos (by simp; omega), wnext i (by omega),
      steps_l l hl n (i + 1) k _ _ _ (by omega) (by omega) (by simp; omega), hd, outS]
    simp
theorem steps_f (l : List S44) (hl : l.length ≤ 100000) (k : Nat) (hk : l.length + 1 ≤ k) (x y : Int) : mapmakerref30_steps.f k l x y = some ((outS l x y).1, (outS l x y).2.1, (outS l x y).2.2) := by
  unfold mapmakerref30_steps.f
  have h := steps_l l hl l.length 0 k [] x y (by omega) hk (by simp)
  rw [show ((0 : Nat) : Int) = 0 from rfl] at h
  rw [h]
  simp
theorem wcount (p : List S44) (h1 : 1 ≤ p.length) (h2 : p.length ≤ 100000) : wrap64 (2 + (wrap64 (8 * (wrap64 ((p.length : Int) - 1))))) = wrap64 (2 + 8 * ((p.drop 1).length : Int)) := by
  rw [List.length_drop, wrap_id ((p.length : Int) - 1) (by omega) (by omega), wrap_id (8 * ((p.length : Int) - 1)) (by omega) (by omega)]
  congr 1
  omega
theorem renc_23 {a : Int} (ha : a = 2 ∨ a = 3) (l : List (List S44)) (hN : l.length ≤ 1000000) (hg : ∀ p ∈ l, p ≠ [] ∧ p.length ≤ 8000) : ∀ n i (k : Nat) (acc : List Int) (x y : Int), n + i = l.length → 2 * n + 8010 ≤ k → acc.length + 4 * total (l.drop i) ≤ 100000000 →
    mapmakerref30_Encode.l0 k acc (i : Int) a l x y = some (acc ++ encP (decide (a = 3)) (l.drop i) x y, 0)
  | 0, i, k, acc, x, y, hn, hk, hb => by
    obtain ⟨k, rfl⟩ : ∃ m, k = m + 1 := ⟨k - 1, by omega⟩
    rw [mapmakerref30_Encode.l0, if_neg (by omega), show i = l.length by omega, List.drop_length]
    simp [encP]
  | n + 1, i, k, acc, x, y, hn, hk, hb => by
    obtain ⟨k, rfl⟩ : ∃ m, k = m + 1 + 1 := ⟨k - 2, by omega⟩
    have h1 : i < l.length := by omega
    have hd : l.drop i = l[i] :: l.drop (i + 1) := List.drop_eq_getElem_cons h1
    obtain ⟨g1, g2⟩ := hg l[i] (List.getElem_mem h1)
    have gl : 1 ≤ l[i].length := by
      rcases Nat.eq_zero_or_pos l[i].length with h | h
      · exact absurd (List.length_eq_zero_iff.1 h) g1
      · exact h
    have ht1 : (l[i].take 1).length = 1 := take_len1 g1
    rw [hd, total] at hb
    have o1 := outS_len (l[i].take 1) x y
    have o2 := outS_len (l[i].drop 1) (outS (l[i].take 1) x y).2.1 (outS (l[i].take 1) x y).2.2
    rw [List.length_drop] at o2
    rw [ht1] at o1
    rw [mapmakerref30_Encode.l0, if_pos (by omega), if_pos (by omega), if_neg (by omega), if_pos (by omega), rdL_at l i h1, mapmakerref30_Encode.j2, if_pos (by omega),
      steps_f _ (by omega) k (by omega), Option.bind_some]
    dsimp only
    rw [if_pos (by rw [List.length_append, o1]; simp; omega), Option.bind_some, if_neg (by omega), steps_f _ (by rw [List.length_drop]; omega) k (by rw [List.length_drop]; omega), Option.bind_some]
    dsimp only
    rw [if_pos (by simp only [List.length_append, o1, List.length_cons, List.length_nil]; omega), Option.bind_some, if_pos (by simp only [List.length_append, o1, o2, List.length_cons, List.length_nil]; omega), Option.bind_some, wcount _ gl (by omega)]
    rw [hd, encP]
    rcases ha with rfl | rfl
    · rw [if_neg (by omega), wnext i (by omega), renc_23 (.inl rfl) l hN hg n (i + 1) k _ _ _ (by omega) (by omega) (by simp only [List.length_append, o1, o2, List.length_cons, List.length_nil]; omega)]
      simp
    · rw [if_pos rfl, if_pos (by simp only [List.length_append, o1, o2, List.length_cons, List.length_nil]; omega), wnext i (by omega), renc_23 (.inr rfl) l hN hg n (i + 1) k _ _ _ (by omega) (by omega) (by simp only [List.length_append, o1, o2, List.length_cons, List.length_nil]; omega)]
      simp
theorem renc_1 (l : List (List S44)) (hN : l.length ≤ 1000000) (hg : ∀ p ∈ l, ∃ q, p = [q] ∧ ¬ badP q) : ∀ n i (k : Nat) (acc : List Int) (x y : Int), n + i = l.length → 2 * n + 8010 ≤ k → acc.length ≤ 1000000 + 2 * i →
    mapmakerref30_Encode.l0 k acc (i : Int) 1 l x y = some (acc ++ (outS (firsts (l.drop i)) x y).1, 0)
  | 0, i, k, acc, x, y, hn, hk, hb => by
    obtain ⟨k, rfl⟩ : ∃ m, k = m + 1 := ⟨k - 1, by omega⟩
    rw [mapmakerref30_Encode.l0, if_neg (by omega), show i = l.length by omega, List.drop_length]
    simp [firsts, outS]
  | n + 1, i, k, acc, x, y, hn, hk, hb => by
    obtain ⟨k, rfl⟩ : ∃ m, k = m + 1 + 1 := ⟨k - 2, by omega⟩
    have h1 : i < l.length := by omega
    have hd : l.drop i = l[i] :: l.drop (i + 1) := List.drop_eq_getElem_cons h1
    obtain ⟨q, hq, _⟩ := hg l[i] (List.getElem_mem h1)
    rw [mapmakerref30_Encode.l0, if_pos (by omega), if_pos (by omega), if_pos rfl, rdL_at l i h1, mapmakerref30_Encode.j2, hd, hq]
    have e1 : ([q] : List S44).take 1 = [q] := rfl
    rw [if_pos (by simp), e1, steps_f _ (by simp) k (by simp; omega), Option.bind_some]
    dsimp only
    rw [if_pos (by rw [outS_len]; simp; omega), Option.bind_some, if_pos rfl, if_neg (by omega), wnext i (by omega), renc_1 l hN hg n (i + 1) k _ _ _ (by omega) (by omega) (by rw [List.length_append, outS_len]; simp; omega)]
    have e2 : firsts ([q] :: l.drop (i + 1)) = q :: firsts (l.drop (i + 1)) := rfl
    rw [e2, outS, outS, outS]
    simp
theorem up_mono {α : Type} {F : Nat → Option α} (h : ∀ k, LeO (F k) (F (k + 1))) {r : α} {k : Nat} (hk : F k = some r) : ∀ m, k ≤ m → F m = some r := by
  intro m hm
  obtain ⟨d, rfl⟩ : ∃ d, m = k + d := ⟨m - k, by omega⟩
  clear hm
  induction d with
  | zero => exact hk
  | succ d ih => exact h _ _ ih
theorem renc_f (a : Int) (l : List (List S44)) (hf : Fit l) (hN : total l ≤ 9000) : ∃ k, mapmakerref30_Encode.f k a l = some (encS a l, checkS a l) := by
  obtain ⟨k1, hk1⟩ := rck_f a l hf
  refine ⟨k1 + 30000, ?_⟩
  have hc := up_mono (F := fun k => mapmakerref30_Check.f k a l) (mapmakerref30_Check.mono a l) hk1 (k1 + 30000) (by omega)
  unfold mapmakerref30_Encode.f
  rw [show mapmakerref30_Check.f (k1 + 30000) a l = _ from hc, Option.bind_some]
  have hL := total_len l
  by_cases h0 : checkS a l = 0
  · rw [if_pos h0, encS_ok h0, h0]
    obtain ⟨hk, hne, hp⟩ := check_split h0
    by_cases h1 : a = 1
    · subst h1
      rw [if_pos rfl, if_pos rfl, if_pos (by simp), show k1 + 30000 = (k1 + 29999) + 1 by omega, mapmakerref30_Encode.j0]
      have h := renc_1 l (by omega) (ones hp) l.length 0 (k1 + 29999) ([] ++ [wrap64 (1 + wrap64 (8 * (l.length : Int)))]) 0 0 (by omega) (by omega) (by simp)
      rw [show ((0 : Nat) : Int) = 0 from rfl, List.drop_zero] at h
      rw [h, wrap_id (8 * (l.length : Int)) (by omega) (by omega)]
      rfl
    · rw [if_neg h1, if_neg h1, show k1 + 30000 = (k1 + 29999) + 1 by omega, mapmakerref30_Encode.j0]
      have hg := parts_good (by omega) hp
      have h := renc_23 (a := a) (by omega) l (by omega) (fun p hp => ⟨(hg p hp).1, (hg p hp).2.1⟩) l.length 0 (k1 + 29999) [] 0 0 (by omega) (by omega) (by simp; omega)
      rw [show ((0 : Nat) : Int) = 0 from rfl, List.drop_zero] at h
      rw [h]
      rfl
  · rw [if_neg h0]
    unfold encS
    rw [if_neg h0]
theorem rcheck_s (kind : Int) (ps : List (List S44)) (v : Value) (w : World) (h : Seen kL w v ps) (hf : Fit ps) :
    Calls Tryd.prog 12 #[.agg #[.int .i64 kind, v]] w fun e w' => e = .returned (.int .i64 (checkS kind ps)) ∧ Below w.heap.size w w' := by
  obtain ⟨A, c, rfl, h2, h3⟩ := h
  obtain ⟨k, hk⟩ := rck_f kind ps hf
  exact mapmakerref30_Check.calls k kind A c ps _ w h3 h2 hk
theorem rencode_s (kind : Int) (ps : List (List S44)) (v : Value) (w : World) (h : Seen kL w v ps) (hf : Fit ps) (hN : total ps ≤ 9000) :
    Calls Tryd.prog 10 #[.agg #[.int .i64 kind, v]] w fun e w' => ∃ u, e = .returned (.tuple #[u, .int .i64 (checkS kind ps)]) ∧ Kd.R kI 3 w' w.heap.size (fun _ => True) u (encS kind ps) ∧ Below w.heap.size w w' := by
  obtain ⟨A, c, rfl, h2, h3⟩ := h
  obtain ⟨k, hk⟩ := renc_f kind ps hf hN
  exact mapmakerref30_Encode.calls k kind A c ps _ _ w h3 h2 hk
end Go.Proofs.YtopapknfpoandaaDoor.Hand
