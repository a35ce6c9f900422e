/-
  Plain facts on sets: what the program's and the reference's functions on rows of whole numbers give.
-/
import Derived.Test.YtaiphfmfpedaaaaPALLx5
import Derived.Test.YtaiphfmfpedaaaaPALLx8
import Derived.Test.YtaiphfmfpedaaaaPALLx9
import Derived.Test.YtaiphfmfpedaaaaPALLx11
namespace Go.Proofs.Ytaiphfmfpedaaaa.Pl
open Go.RowKit Go.Proofs.Ytaiphfmfpedaaaa.PALL Go.Proofs.YtaiphfmfpedaaaaW.PrintWords Go.Proofs.YtaiphfmfpedaaaaW.PrintLast Go.Proofs.YtaiphfmfpedaaaaW.PrintMore

theorem w_suc {i n : Nat} (h : i < n) (hn : n ≤ 4611686018427387904) : wrap64 ((i : Int) + 1) = ((i + 1 : Nat) : Int) := by
  unfold wrap64; omega
theorem w_pre {i : Nat} (h : 0 < i) (hn : i ≤ 4611686018427387904) : wrap64 ((i : Int) - 1) = ((i - 1 : Nat) : Int) := by
  unfold wrap64; omega
theorem rd_get (l : List Int) (i : Nat) (h : i < l.length) : rd l (i : Int) = l[i] := by simp [rd, h]
/-- Two rows in strictly increasing order with the same elements are one row. -/
theorem uniq : ∀ (a b : List Int), a.Pairwise (· < ·) → b.Pairwise (· < ·) → (∀ x, x ∈ a ↔ x ∈ b) → a = b
  | [], [], _, _, _ => rfl
  | [], y :: b, _, _, h => absurd ((h y).2 List.mem_cons_self) (by simp)
  | x :: a, [], _, _, h => absurd ((h x).1 List.mem_cons_self) (by simp)
  | x :: a, y :: b, ha, hb, h => by
    obtain ⟨ha1, ha2⟩ := List.pairwise_cons.1 ha
    obtain ⟨hb1, hb2⟩ := List.pairwise_cons.1 hb
    have hxy : x = y := by
      have h1 := (h x).1 List.mem_cons_self
      have h2 := (h y).2 List.mem_cons_self
      rcases List.mem_cons.1 h1 with h1 | h1
      · exact h1
      · rcases List.mem_cons.1 h2 with h2 | h2
        · exact h2.symm
        · have := ha1 _ h2
          have := hb1 _ h1
          omega
    subst hxy
    rw [uniq a b ha2 hb2 (fun z => ⟨fun hz => ?_, fun hz => ?_⟩)]
    · rcases List.mem_cons.1 ((h z).1 (List.mem_cons_of_mem _ hz)) with e | e
      · have := ha1 _ hz
        omega
      · exact e
    · rcases List.mem_cons.1 ((h z).2 (List.mem_cons_of_mem _ hz)) with e | e
      · have := hb1 _ hz
        omega
      · exact e
theorem ofL_eq {l s : List Int} (hs : s.Pairwise (· < ·)) (hm : ∀ x, x ∈ s ↔ x ∈ l) : ofL l = s :=
  uniq _ _ (ofL_lt l) hs (fun x => (mem_ofL l x).trans (hm x).symm)
/-- Equal tells whether two rows are one. -/
theorem equal_l0 (a b : List Int) (hl : a.length = b.length) (hb : b.length ≤ 1099511627776) : ∀ (n i : Nat), i + n = a.length → Ev (fun k => mapmakerref05_Equal.l0 k a b (i : Int)) (decide (a.drop i = b.drop i)) := by
  intro n
  induction n with
  | zero =>
    intro i h
    refine Ev.step (f := fun _ => some true) (fun k => ?_) ?_
    · rw [mapmakerref05_Equal.l0, if_neg (by omega)]
    · rw [List.drop_eq_nil_of_le (by omega), List.drop_eq_nil_of_le (by omega)]; exact Ev.now _
  | succ n ih =>
    intro i h
    have ha : i < a.length := by omega
    have hb' : i < b.length := by omega
    by_cases he : a[i] = b[i]
    · refine Ev.step (f := fun k => mapmakerref05_Equal.l0 k a b ((i + 1 : Nat) : Int)) (fun k => ?_) ?_
      · rw [mapmakerref05_Equal.l0, if_pos (by omega), if_pos (by omega), if_pos (by omega), rd_get a i ha, rd_get b i hb', if_pos he, w_suc ha (by omega)]
      · rw [List.drop_eq_getElem_cons ha, List.drop_eq_getElem_cons hb', he, show decide (b[i] :: a.drop (i + 1) = b[i] :: b.drop (i + 1)) = decide (a.drop (i + 1) = b.drop (i + 1)) from decide_eq_decide.2 (by rw [List.cons.injEq]; exact ⟨And.right, fun h => ⟨rfl, h⟩⟩)]
        exact ih (i + 1) (by omega)
    · refine Ev.step (f := fun _ => some false) (fun k => ?_) ?_
      · rw [mapmakerref05_Equal.l0, if_pos (by omega), if_pos (by omega), if_pos (by omega), rd_get a i ha, rd_get b i hb', if_neg he]
      · rw [List.drop_eq_getElem_cons ha, List.drop_eq_getElem_cons hb', show decide (a[i] :: a.drop (i + 1) = b[i] :: b.drop (i + 1)) = false from decide_eq_false (fun e => he (List.cons.inj e).1)]
        exact Ev.now _
theorem equal_ev (a b : List Int) (hb : b.length ≤ 1099511627776) : Ev (fun k => mapmakerref05_Equal.f k a b) (decide (a = b)) := by
  by_cases h : a.length = b.length
  · exact Ev.congr (fun k => by rw [mapmakerref05_Equal.f, if_pos (by omega)]; rfl) (equal_l0 a b h hb a.length 0 (by omega))
  · refine Ev.congr (f := fun _ => some false) (fun k => by rw [mapmakerref05_Equal.f, if_neg (by omega)]) ?_
    rw [decide_eq_false (fun e => h (by rw [e]))]
    exact Ev.now _
theorem equal_true {a b : List Int} (h : a = b) (hb : b.length ≤ 1099511627776) : Ev (fun k => mapmakerref05_Equal.f k a b) true := by
  have := equal_ev a b hb
  rwa [decide_eq_true h] at this
theorem slEqual_l0 (a b : List Int) (hl : a.length = b.length) (hb : b.length ≤ 1099511627776) : ∀ (n i : Nat), i + n = a.length → Ev (fun k => slices_Equal_int_int.l0 k a b (a.length : Int) (i : Int)) (decide (a.drop i = b.drop i)) := by
  intro n
  induction n with
  | zero =>
    intro i h
    refine Ev.step (f := fun _ => some true) (fun k => ?_) ?_
    · rw [slices_Equal_int_int.l0, if_neg (by omega)]
    · rw [List.drop_eq_nil_of_le (by omega), List.drop_eq_nil_of_le (by omega)]; exact Ev.now _
  | succ n ih =>
    intro i h
    have ha : i < a.length := by omega
    have hb' : i < b.length := by omega
    by_cases he : a[i] = b[i]
    · refine Ev.step (f := fun k => slices_Equal_int_int.l0 k a b (a.length : Int) ((i + 1 : Nat) : Int)) (fun k => ?_) ?_
      · rw [slices_Equal_int_int.l0, if_pos (by omega), if_pos (by omega), if_pos (by omega), if_pos (by omega), rd_get a i ha, rd_get b i hb', if_pos he, w_suc ha (by omega)]
      · rw [List.drop_eq_getElem_cons ha, List.drop_eq_getElem_cons hb', he, show decide (b[i] :: a.drop (i + 1) = b[i] :: b.drop (i + 1)) = decide (a.drop (i + 1) = b.drop (i + 1)) from decide_eq_decide.2 (by rw [List.cons.injEq]; exact ⟨And.right, fun h => ⟨rfl, h⟩⟩)]
        exact ih (i + 1) (by omega)
    · refine Ev.step (f := fun _ => some false) (fun k => ?_) ?_
      · rw [slices_Equal_int_int.l0, if_pos (by omega), if_pos (by omega), if_pos (by omega), if_pos (by omega), rd_get a i ha, rd_get b i hb', if_neg he]
      · rw [List.drop_eq_getElem_cons ha, List.drop_eq_getElem_cons hb', show decide (a[i] :: a.drop (i + 1) = b[i] :: b.drop (i + 1)) = false from decide_eq_false (fun e => he (List.cons.inj e).1)]
        exact Ev.now _
theorem slEqual_ev (a b : List Int) (hb : b.length ≤ 1099511627776) : Ev (fun k => slices_Equal_int_int.f k a b) (decide (a = b)) := by
  by_cases h : a.length = b.length
  · exact Ev.congr (fun k => by rw [slices_Equal_int_int.f, if_pos (by omega)]; rfl) (slEqual_l0 a b h hb a.length 0 (by omega))
  · refine Ev.congr (f := fun _ => some false) (fun k => by rw [slices_Equal_int_int.f, if_neg (by omega)]) ?_
    rw [decide_eq_false (fun e => h (by rw [e]))]
    exact Ev.now _
/-- Has tells whether a row holds a number. -/
theorem refHas_l0 (a : List Int) (x : Int) (hl : a.length ≤ 1099511627776) : ∀ (n i : Nat), i + n = a.length → Ev (fun k => mapmakerref05_Has.l0 k a x (i : Int)) (decide (x ∈ a.drop i)) := by
  intro n
  induction n with
  | zero =>
    intro i h
    refine Ev.step (f := fun _ => some false) (fun k => ?_) ?_
    · rw [mapmakerref05_Has.l0, if_neg (by omega)]
    · rw [List.drop_eq_nil_of_le (by omega)]; exact Ev.now _
  | succ n ih =>
    intro i h
    have ha : i < a.length := by omega
    rw [List.drop_eq_getElem_cons ha]
    by_cases he : a[i] = x
    · refine Ev.step (f := fun _ => some true) (fun k => ?_) ?_
      · rw [mapmakerref05_Has.l0, if_pos (by omega), if_pos (by omega), rd_get a i ha, if_pos he]
      · rw [decide_eq_true (by rw [he]; exact List.mem_cons_self)]; exact Ev.now _
    · refine Ev.step (f := fun k => mapmakerref05_Has.l0 k a x ((i + 1 : Nat) : Int)) (fun k => ?_) ?_
      · rw [mapmakerref05_Has.l0, if_pos (by omega), if_pos (by omega), rd_get a i ha, if_neg he, w_suc ha (by omega)]
      · rw [show decide (x ∈ a[i] :: a.drop (i + 1)) = decide (x ∈ a.drop (i + 1)) from decide_eq_decide.2 ⟨fun h => (List.mem_cons.1 h).resolve_left (Ne.symm he), List.mem_cons_of_mem _⟩]
        exact ih (i + 1) (by omega)
theorem refHas_ev (a : List Int) (x : Int) (hl : a.length ≤ 1099511627776) : Ev (fun k => mapmakerref05_Has.f k a x) (decide (x ∈ a)) := refHas_l0 a x hl a.length 0 (by omega)
theorem index_l0 (a : List Int) (x : Int) (hl : a.length ≤ 1099511627776) : ∀ (n i : Nat), i + n = a.length → ∃ r, Ev (fun k => slices_Index_int_int.l0 k a x (a.length : Int) (i : Int)) r ∧ (r ≥ 0 ↔ x ∈ a.drop i) := by
  intro n
  induction n with
  | zero =>
    intro i h
    refine ⟨-1, Ev.step (f := fun _ => some (-1)) (fun k => ?_) (Ev.now _), ?_⟩
    · rw [slices_Index_int_int.l0, if_neg (by omega)]
    · rw [List.drop_eq_nil_of_le (by omega)]; simp
  | succ n ih =>
    intro i h
    have ha : i < a.length := by omega
    rw [List.drop_eq_getElem_cons ha]
    by_cases he : x = a[i]
    · refine ⟨(i : Int), Ev.step (f := fun _ => some (i : Int)) (fun k => ?_) (Ev.now _), ?_⟩
      · rw [slices_Index_int_int.l0, if_pos (by omega), if_pos (by omega), if_pos (by omega), rd_get a i ha, if_pos he]
      · exact ⟨fun _ => by rw [he]; exact List.mem_cons_self, fun _ => by omega⟩
    · obtain ⟨r, h1, h2⟩ := ih (i + 1) (by omega)
      refine ⟨r, Ev.step (f := fun k => slices_Index_int_int.l0 k a x (a.length : Int) ((i + 1 : Nat) : Int)) (fun k => ?_) h1, ?_⟩
      · rw [slices_Index_int_int.l0, if_pos (by omega), if_pos (by omega), if_pos (by omega), rd_get a i ha, if_neg he, w_suc ha (by omega)]
      · rw [h2]; exact ⟨List.mem_cons_of_mem _, fun h => (List.mem_cons.1 h).resolve_left he⟩
theorem has_ev (a : List Int) (x : Int) (hl : a.length ≤ 1099511627776) : Ev (fun k => sets_Has.f k a x) (decide (x ∈ a)) := by
  obtain ⟨r, h1, h2⟩ := index_l0 a x hl a.length 0 (by omega)
  rw [List.drop_zero] at h2
  refine Ev.bind (g := fun k => slices_Contains_int_int.f k a x) (f := fun _ t => some t) (a := decide (x ∈ a)) ?_ (Ev.now _)
  refine Ev.bind (g := fun k => slices_Index_int_int.f k a x) (f := fun _ t => some (decide (t ≥ 0))) (a := r) h1 ?_
  rw [decide_eq_decide.2 h2]
  exact Ev.now _
/-! ### the reference's With -/
def withL (a : List Int) (x : Int) : List Int := if x ∈ a then a else a.takeWhile (fun y => decide (y < x)) ++ x :: a.dropWhile (fun y => decide (y < x))
theorem withL_length (a : List Int) (x : Int) : (withL a x).length ≤ a.length + 1 := by
  rw [withL]
  split
  · omega
  · have := congrArg List.length (List.takeWhile_append_dropWhile (p := fun y => decide (y < x)) (l := a))
    simp only [List.length_append, List.length_cons] at this ⊢
    omega
theorem mem_withL (a : List Int) (x y : Int) : y ∈ withL a x ↔ y = x ∨ y ∈ a := by
  rw [withL]
  split
  · rename_i h
    exact ⟨.inr, fun h' => h'.elim (fun e => e ▸ h) id⟩
  · rw [List.mem_append, List.mem_cons]
    have : y ∈ a ↔ y ∈ a.takeWhile (fun y => decide (y < x)) ∨ y ∈ a.dropWhile (fun y => decide (y < x)) := by
      rw [← List.mem_append, List.takeWhile_append_dropWhile]
    rw [this]
    constructor
    · rintro (h | h | h)
      · exact .inr (.inl h)
      · exact .inl h
      · exact .inr (.inr h)
    · rintro (h | h | h)
      · exact .inr (.inl h)
      · exact .inl h
      · exact .inr (.inr h)
theorem takeWhile_lt (x : Int) : ∀ (a : List Int), ∀ y ∈ a.takeWhile (fun y => decide (y < x)), y < x
  | [], y, h => by simp at h
  | z :: a, y, h => by
    rw [List.takeWhile_cons] at h
    split at h
    · rename_i hz
      rcases List.mem_cons.1 h with e | e
      · rw [e]; simpa using hz
      · exact takeWhile_lt x a y e
    · simp at h
theorem dropWhile_ge (x : Int) : ∀ (a : List Int), a.Pairwise (· < ·) → ∀ y ∈ a.dropWhile (fun y => decide (y < x)), x ≤ y
  | [], _, y, h => by simp at h
  | z :: a, ha, y, h => by
    obtain ⟨h1, h2⟩ := List.pairwise_cons.1 ha
    rw [List.dropWhile_cons] at h
    split at h
    · exact dropWhile_ge x a h2 y h
    · rename_i hz
      have hz : x ≤ z := by simpa using hz
      rcases List.mem_cons.1 h with e | e
      · rw [e]; exact hz
      · have := h1 _ e
        omega
theorem withL_lt (a : List Int) (x : Int) (ha : a.Pairwise (· < ·)) : (withL a x).Pairwise (· < ·) := by
  rw [withL]
  split
  · exact ha
  · rename_i hx
    have hsplit : (a.takeWhile (fun y => decide (y < x)) ++ a.dropWhile (fun y => decide (y < x))).Pairwise (· < ·) := by rw [List.takeWhile_append_dropWhile]; exact ha
    obtain ⟨h1, h2, h3⟩ := List.pairwise_append.1 hsplit
    refine List.pairwise_append.2 ⟨h1, List.pairwise_cons.2 ⟨fun y hy => ?_, h2⟩, fun y hy z hz => ?_⟩
    · have h4 := dropWhile_ge x a ha y hy
      have h5 : y ∈ a := by rw [← List.takeWhile_append_dropWhile (p := fun y => decide (y < x)) (l := a)]; exact List.mem_append_right _ hy
      have h6 : y ≠ x := fun e => hx (e ▸ h5)
      omega
    · have h4 := takeWhile_lt x a y hy
      rcases List.mem_cons.1 hz with e | e
      · rw [e]; exact h4
      · exact h3 y hy z e
theorem with_l1 (a : List Int) (ha : a.length ≤ 1099511627776) : ∀ (n i : Nat) (acc : List Int), i + n = a.length → acc.length ≤ i + 1 → Ev (fun k => mapmakerref05_With.l1 k a acc (i : Int)) (acc ++ a.drop i) := by
  intro n
  induction n with
  | zero =>
    intro i acc h hl
    refine Ev.step (f := fun _ => some acc) (fun k => ?_) ?_
    · rw [mapmakerref05_With.l1, if_neg (by omega)]
    · rw [List.drop_eq_nil_of_le (by omega), List.append_nil]; exact Ev.now _
  | succ n ih =>
    intro i acc h hl
    have hi : i < a.length := by omega
    refine Ev.step (f := fun k => mapmakerref05_With.l1 k a (acc ++ [a[i]]) ((i + 1 : Nat) : Int)) (fun k => ?_) ?_
    · rw [mapmakerref05_With.l1, if_pos (by omega), if_pos (by omega), if_pos (by omega), rd_get a i hi, w_suc hi (by omega)]
    · rw [List.drop_eq_getElem_cons hi, show acc ++ a[i] :: a.drop (i + 1) = (acc ++ [a[i]]) ++ a.drop (i + 1) by simp]
      exact ih (i + 1) (acc ++ [a[i]]) (by omega) (by simp; omega)
theorem with_l0 (a : List Int) (x : Int) (ha : a.length ≤ 1099511627776) : ∀ (n i : Nat) (acc : List Int), i + n = a.length → acc.length ≤ i →
    Ev (fun k => mapmakerref05_With.l0 k a x acc (i : Int)) (acc ++ ((a.drop i).takeWhile (fun y => decide (y < x)) ++ x :: (a.drop i).dropWhile (fun y => decide (y < x)))) := by
  intro n
  induction n with
  | zero =>
    intro i acc h hl
    have := with_l1 a ha 0 i (acc ++ [x]) (by omega) (by simp; omega)
    obtain ⟨K, hK⟩ := this
    refine ⟨K + 2, fun k hk => ?_⟩
    obtain ⟨m, rfl⟩ : ∃ m, k = m + 1 + 1 := ⟨k - 2, by omega⟩
    show mapmakerref05_With.l0 (m + 1 + 1) a x acc (i : Int) = _
    have h2 : mapmakerref05_With.l1 m a (acc ++ [x]) (i : Int) = _ := hK m (by omega)
    rw [mapmakerref05_With.l0, if_neg (by omega), mapmakerref05_With.j1, if_pos (by omega)]
    show mapmakerref05_With.l1 m a (acc ++ [x]) (i : Int) = _
    rw [h2, List.drop_eq_nil_of_le (by omega)]
    simp
  | succ n ih =>
    intro i acc h hl
    have hi : i < a.length := by omega
    rw [List.drop_eq_getElem_cons hi]
    by_cases hx : a[i] < x
    · rw [List.takeWhile_cons_of_pos (by simpa using hx), List.dropWhile_cons_of_pos (by simpa using hx)]
      refine Ev.step (f := fun k => mapmakerref05_With.l0 k a x (acc ++ [a[i]]) ((i + 1 : Nat) : Int)) (fun k => ?_) ?_
      · rw [mapmakerref05_With.l0, if_pos (by omega), if_pos (by omega), rd_get a i hi, if_pos hx, if_pos (by omega), w_suc hi (by omega)]
      · have := ih (i + 1) (acc ++ [a[i]]) (by omega) (by simp; omega)
        simpa using this
    · rw [List.takeWhile_cons_of_neg (by simpa using hx), List.dropWhile_cons_of_neg (by simpa using hx)]
      have := with_l1 a ha (n + 1) i (acc ++ [x]) (by omega) (by simp; omega)
      obtain ⟨K, hK⟩ := this
      refine ⟨K + 2, fun k hk => ?_⟩
      obtain ⟨m, rfl⟩ : ∃ m, k = m + 1 + 1 := ⟨k - 2, by omega⟩
      show mapmakerref05_With.l0 (m + 1 + 1) a x acc (i : Int) = _
      have h2 : mapmakerref05_With.l1 m a (acc ++ [x]) (i : Int) = _ := hK m (by omega)
      rw [mapmakerref05_With.l0, if_pos (by omega), if_pos (by omega), rd_get a i hi, if_neg hx, mapmakerref05_With.j1, if_pos (by omega)]
      show mapmakerref05_With.l1 m a (acc ++ [x]) (i : Int) = _
      rw [h2, List.drop_eq_getElem_cons hi]
      simp
theorem with_ev (a : List Int) (x : Int) (ha : a.length ≤ 1099511627776) : Ev (fun k => mapmakerref05_With.f k a x) (withL a x) := by
  refine Ev.bind (g := fun k => mapmakerref05_Has.f k a x) (f := fun k t => if t = true then some a else mapmakerref05_With.l0 k a x [] 0) (refHas_ev a x ha) ?_
  rw [withL]
  by_cases h : x ∈ a
  · simp only [h, decide_true, if_true]; exact Ev.now _
  · simp only [h, decide_false, if_false, Bool.false_eq_true]
    exact with_l0 a x ha a.length 0 [] (by omega) (by simp)
/-- One element after the other. -/
def addL (s : List Int) : List Int → List Int
  | [] => s
  | x :: l => addL (withL s x) l
theorem addL_lt : ∀ (l s : List Int), s.Pairwise (· < ·) → (addL s l).Pairwise (· < ·)
  | [], _, h => h
  | x :: l, s, h => addL_lt l _ (withL_lt s x h)
theorem mem_addL (y : Int) : ∀ (l s : List Int), y ∈ addL s l ↔ y ∈ s ∨ y ∈ l
  | [], s => by simp [addL]
  | x :: l, s => by
    rw [addL, mem_addL y l, mem_withL, List.mem_cons]
    constructor
    · rintro ((h | h) | h)
      · exact .inr (.inl h)
      · exact .inl h
      · exact .inr (.inr h)
    · rintro (h | h | h)
      · exact .inl (.inr h)
      · exact .inl (.inl h)
      · exact .inr h
theorem of_l0 (l : List Int) (hl : l.length ≤ 1099511627776) : ∀ (n i : Nat) (acc : List Int), i + n = l.length → acc.length + n ≤ 1099511627776 → Ev (fun k => mapmakerref05_Of.l0 k l acc (i : Int)) (addL acc (l.drop i)) := by
  intro n
  induction n with
  | zero =>
    intro i acc h hl
    refine Ev.step (f := fun _ => some acc) (fun k => ?_) ?_
    · rw [mapmakerref05_Of.l0, if_neg (by omega)]
    · rw [List.drop_eq_nil_of_le (by omega)]; exact Ev.now _
  | succ n ih =>
    intro i acc h hl'
    have hi : i < l.length := by omega
    have hw := withL_length acc l[i]
    refine Ev.step (f := fun k => (mapmakerref05_With.f k acc l[i]).bind fun t => mapmakerref05_Of.l0 k l t ((i + 1 : Nat) : Int)) (fun k => ?_) (Ev.bind (with_ev acc l[i] (by omega)) ?_)
    · rw [mapmakerref05_Of.l0, if_pos (by omega), if_pos (by omega), rd_get l i hi, w_suc hi (by omega)]
    · rw [List.drop_eq_getElem_cons hi, addL]
      exact ih (i + 1) _ (by omega) (by omega)
theorem addL_nil (l : List Int) : addL [] l = ofL l := (ofL_eq (addL_lt l [] .nil) (fun x => by rw [mem_addL]; simp)).symm
/-- The reference's Of gives the same set. -/
theorem refOf_ev (l : List Int) (hl : l.length ≤ 549755813888) : Ev (fun k => mapmakerref05_Of.f k l) (ofL l) := by
  have := of_l0 l (by omega) l.length 0 [] (by omega) (by simp; omega)
  rw [List.drop_zero, addL_nil] at this
  exact this
theorem union_l0 (l : List Int) (hl : l.length ≤ 1099511627776) : ∀ (n i : Nat) (acc : List Int), i + n = l.length → acc.length + n ≤ 1099511627776 → Ev (fun k => mapmakerref05_Union.l0 k l acc (i : Int)) (addL acc (l.drop i)) := by
  intro n
  induction n with
  | zero =>
    intro i acc h hl
    refine Ev.step (f := fun _ => some acc) (fun k => ?_) ?_
    · rw [mapmakerref05_Union.l0, if_neg (by omega)]
    · rw [List.drop_eq_nil_of_le (by omega)]; exact Ev.now _
  | succ n ih =>
    intro i acc h hl'
    have hi : i < l.length := by omega
    have hw := withL_length acc l[i]
    refine Ev.step (f := fun k => (mapmakerref05_With.f k acc l[i]).bind fun t => mapmakerref05_Union.l0 k l t ((i + 1 : Nat) : Int)) (fun k => ?_) (Ev.bind (with_ev acc l[i] (by omega)) ?_)
    · rw [mapmakerref05_Union.l0, if_pos (by omega), if_pos (by omega), rd_get l i hi, w_suc hi (by omega)]
    · rw [List.drop_eq_getElem_cons hi, addL]
      exact ih (i + 1) _ (by omega) (by omega)
def unionL (a b : List Int) : List Int := ofL (a ++ b)
def interL (a b : List Int) : List Int := (ofL a).filter fun x => (ofL b).contains x
def diffL (a b : List Int) : List Int := (ofL a).filter fun x => !(ofL b).contains x
theorem unionL_lt (a b : List Int) : (unionL a b).Pairwise (· < ·) := ofL_lt _
theorem interL_lt (a b : List Int) : (interL a b).Pairwise (· < ·) := (ofL_lt a).filter _
theorem diffL_lt (a b : List Int) : (diffL a b).Pairwise (· < ·) := (ofL_lt a).filter _
theorem mem_unionL (a b : List Int) (x : Int) : x ∈ unionL a b ↔ x ∈ a ∨ x ∈ b := by rw [unionL, mem_ofL, List.mem_append]
theorem mem_interL (a b : List Int) (x : Int) : x ∈ interL a b ↔ x ∈ a ∧ x ∈ b := by rw [interL, List.mem_filter, mem_ofL]; simp [mem_ofL]
theorem mem_diffL (a b : List Int) (x : Int) : x ∈ diffL a b ↔ x ∈ a ∧ ¬ x ∈ b := by rw [diffL, List.mem_filter, mem_ofL]; simp [mem_ofL]
theorem unionL_length (a b : List Int) : (unionL a b).length ≤ a.length + b.length := by have := ofL_length (a ++ b); rw [List.length_append] at this; exact this
theorem interL_length (a b : List Int) : (interL a b).length ≤ a.length := Nat.le_trans (List.length_filter_le _ _) (ofL_length a)
theorem diffL_length (a b : List Int) : (diffL a b).length ≤ a.length := Nat.le_trans (List.length_filter_le _ _) (ofL_length a)
theorem of_f (l : List Int) (hl : l.length ≤ 4398046511104) : sets_Of.f l = some (ofL l) := if_pos hl
theorem inter_f (a b : List Int) (ha : a.length ≤ 4398046511104) (hb : b.length ≤ 4398046511104) : sets_Inter.f a b = some (interL a b) := if_pos ⟨ha, hb⟩
theorem diff_f (a b : List Int) (ha : a.length ≤ 4398046511104) (hb : b.length ≤ 4398046511104) : sets_Diff.f a b = some (diffL a b) := if_pos ⟨ha, hb⟩
theorem union_f (a b : List Int) (ha : a.length ≤ 1099511627776) (hb : b.length ≤ 1099511627776) : sets_Union.f a b = some (unionL a b) := by
  rw [sets_Union.f, slices_Clone_int_int.f, if_pos (by omega), Option.bind_some, if_pos (by omega), of_f _ (by simp; omega), Option.bind_some]; rfl
theorem refUnion_ev (a b : List Int) (ha : a.length ≤ 1000000000) (hb : b.length ≤ 1000000000) : Ev (fun k => mapmakerref05_Union.f k a b) (unionL a b) := by
  have h1 := ofL_length a
  refine Ev.bind (g := fun k => mapmakerref05_Of.f k a) (f := fun k t => mapmakerref05_Union.l0 k b t 0) (refOf_ev a (by omega)) ?_
  have := union_l0 b (by omega) b.length 0 (ofL a) (by omega) (by omega)
  rw [List.drop_zero, uniq (addL (ofL a) b) (unionL a b) (addL_lt _ _ (ofL_lt a)) (unionL_lt a b) (fun x => by rw [mem_addL, mem_ofL, mem_unionL])] at this
  exact this
theorem part_l0 (b l : List Int) (is : Bool) (hb : b.length ≤ 1099511627776) (hl : l.length ≤ 1099511627776) : ∀ (n i : Nat) (acc : List Int), i + n = l.length → acc.length ≤ i → Ev (fun k => mapmakerref05_Part.l0 k b is l acc (i : Int)) (acc ++ (l.drop i).filter fun x => decide (x ∈ b) == is) := by
  intro n
  induction n with
  | zero =>
    intro i acc h ha
    refine Ev.step (f := fun _ => some acc) (fun k => ?_) ?_
    · rw [mapmakerref05_Part.l0, if_neg (by omega)]
    · rw [List.drop_eq_nil_of_le (by omega)]; simp; exact Ev.now _
  | succ n ih =>
    intro i acc h ha
    have hi : i < l.length := by omega
    refine Ev.step (f := fun k => (mapmakerref05_Has.f k b l[i]).bind fun t => if (t == is) = true then (if acc.length < 17592186044416 then mapmakerref05_Part.l0 k b is l (acc ++ [l[i]]) ((i + 1 : Nat) : Int) else none) else mapmakerref05_Part.l0 k b is l acc ((i + 1 : Nat) : Int)) (fun k => ?_) (Ev.bind (refHas_ev b l[i] hb) ?_)
    · rw [mapmakerref05_Part.l0, if_pos (by omega), if_pos (by omega), rd_get l i hi, w_suc hi (by omega)]
    · rw [List.drop_eq_getElem_cons hi]
      by_cases hp : (decide (l[i] ∈ b) == is) = true
      · rw [List.filter_cons_of_pos (p := fun x => decide (x ∈ b) == is) hp]
        refine Ev.congr (f := fun k => mapmakerref05_Part.l0 k b is l (acc ++ [l[i]]) ((i + 1 : Nat) : Int)) (fun k => by rw [if_pos hp, if_pos (by omega)]) ?_
        have := ih (i + 1) (acc ++ [l[i]]) (by omega) (by simp; omega)
        simpa using this
      · rw [List.filter_cons_of_neg (p := fun x => decide (x ∈ b) == is) hp]
        exact Ev.congr (fun k => by rw [if_neg hp]) (ih (i + 1) acc (by omega) (by omega))
theorem part_ev (a b : List Int) (is : Bool) (ha : a.length ≤ 1000000000) (hb : b.length ≤ 1000000000) : Ev (fun k => mapmakerref05_Part.f k a b is) ((ofL a).filter fun x => decide (x ∈ b) == is) := by
  have h1 := ofL_length a
  exact Ev.bind (g := fun k => mapmakerref05_Of.f k a) (f := fun k t => mapmakerref05_Part.l0 k b is t [] 0) (refOf_ev a (by omega)) (part_l0 b (ofL a) is (by omega) (by omega) (ofL a).length 0 [] (by omega) (by simp))
theorem refInter_ev (a b : List Int) (ha : a.length ≤ 1000000000) (hb : b.length ≤ 1000000000) : Ev (fun k => mapmakerref05_Inter.f k a b) (interL a b) := by
  refine Ev.bind (g := fun k => mapmakerref05_Part.f k a b true) (f := fun _ t => some t) (part_ev a b true ha hb) ?_
  rw [show ((ofL a).filter fun x => decide (x ∈ b) == true) = interL a b from uniq _ _ ((ofL_lt a).filter _) (interL_lt a b) (fun x => by rw [List.mem_filter, mem_ofL, mem_interL]; simp)]
  exact Ev.now _
theorem refDiff_ev (a b : List Int) (ha : a.length ≤ 1000000000) (hb : b.length ≤ 1000000000) : Ev (fun k => mapmakerref05_Diff.f k a b) (diffL a b) := by
  refine Ev.bind (g := fun k => mapmakerref05_Part.f k a b false) (f := fun _ t => some t) (part_ev a b false ha hb) ?_
  rw [show ((ofL a).filter fun x => decide (x ∈ b) == false) = diffL a b from uniq _ _ ((ofL_lt a).filter _) (diffL_lt a b) (fun x => by rw [List.mem_filter, mem_ofL, mem_diffL]; simp)]
  exact Ev.now _
theorem sub_f (a b : List Int) (ha : a.length ≤ 4398046511104) (hb : b.length ≤ 4398046511104) : sets_Sub.f a b = some (decide (diffL a b = [])) := by
  rw [sets_Sub.f, diff_f a b ha hb, Option.bind_some]
  congr 1
  rw [Bool.eq_iff_iff]
  simp
theorem refSub_ev (a b : List Int) (ha : a.length ≤ 1000000000) (hb : b.length ≤ 1000000000) : Ev (fun k => mapmakerref05_Sub.f k a b) (decide (diffL a b = [])) := by
  refine Ev.bind (g := fun k => mapmakerref05_Diff.f k a b) (f := fun _ t => some ((t.length : Int) == 0)) (refDiff_ev a b ha hb) ?_
  rw [show (((diffL a b).length : Int) == 0) = decide (diffL a b = []) by rw [Bool.eq_iff_iff]; simp]
  exact Ev.now _
theorem same_ev (a b : List Int) (ha : a.length ≤ 1000000000) (hb : b.length ≤ 1000000000) : Ev (fun k => sets_Same.f k a b) (decide (ofL a = ofL b)) := by
  have h1 := ofL_length b
  refine Ev.congr (f := fun k => (slices_Equal_int_int.f k (ofL a) (ofL b)).bind fun t => some t) (fun k => by rw [sets_Same.f, of_f a (by omega), Option.bind_some, of_f b (by omega), Option.bind_some]) ?_
  exact Ev.bind (slEqual_ev (ofL a) (ofL b) (by omega)) (Ev.now _)
theorem refSame_ev (a b : List Int) (ha : a.length ≤ 1000000000) (hb : b.length ≤ 1000000000) : Ev (fun k => mapmakerref05_Same.f k a b) (decide (ofL a = ofL b)) := by
  have h1 := ofL_length b
  refine Ev.bind (g := fun k => mapmakerref05_Of.f k a) (f := fun k t => (mapmakerref05_Of.f k b).bind fun u => (mapmakerref05_Equal.f k t u).bind fun v => some v) (refOf_ev a (by omega)) ?_
  exact Ev.bind (refOf_ev b (by omega)) (Ev.bind (equal_ev (ofL a) (ofL b) (by omega)) (Ev.now _))
/-- The examples of the chapter. -/
theorem lives_ev : Ev (fun k => mapmakerlaw05_lives.f k) true := by
  have e1 : sets_Of.f [3, 1, 3] = some [1, 3] := (of_f _ (by decide)).trans (congrArg some (ofL_eq (by decide) (fun x => by simp; omega)))
  have e2 : sets_Diff.f [1, 2, 3] [2] = some [1, 3] := (diff_f _ _ (by decide) (by decide)).trans (congrArg some (uniq _ _ (diffL_lt _ _) (by decide) (fun x => by rw [mem_diffL]; simp; omega)))
  have e3 : sets_Sub.f [2, 2] [1, 2] = some true := (sub_f _ _ (by decide) (by decide)).trans (congrArg some (decide_eq_true (uniq _ _ (diffL_lt _ _) .nil (fun x => by rw [mem_diffL]; simp; omega))))
  refine Ev.congr (f := fun k => (mapmakerref05_Equal.f k [1, 3] [1, 3]).bind fun t => if t = true then (mapmakerref05_Equal.f k [1, 3] [1, 3]).bind fun t => if t = true then (sets_Has.f k [2, 1] 1).bind fun t => if t = true then (sets_Has.f k [] 0).bind fun t => if t = true then some false else (sets_Same.f k [1] [2]).bind fun t => if t = true then some false else (sets_Same.f k [1, 2] [2, 1, 1]).bind fun t => some t else some false else some false else some false) (fun k => ?_) ?_
  · rw [mapmakerlaw05_lives.f, e1, e2, e3]; rfl
  · refine Ev.bind (equal_true rfl (by decide)) (Ev.bind (equal_true rfl (by decide)) (Ev.bind (has_ev [2, 1] 1 (by decide)) (Ev.bind (has_ev [] 0 (by decide)) (Ev.bind (same_ev [1] [2] (by decide) (by decide)) ?_))))
    have h1 : ¬ ofL [1] = ofL [2] := fun e => by
      have := (mem_ofL [2] 1).1 (e ▸ (mem_ofL [1] 1).2 (by simp))
      simp at this
    have h2 : ofL [1, 2] = ofL [2, 1, 1] := uniq _ _ (ofL_lt _) (ofL_lt _) (fun x => by rw [mem_ofL, mem_ofL]; simp; omega)
    have h3 := same_ev [1, 2] [2, 1, 1] (by decide) (by decide)
    rw [decide_eq_true h2] at h3
    simp only [decide_eq_false h1]
    exact Ev.bind h3 (Ev.now _)
theorem few_f (l : List Int) : mapmakerlaw05_few.f l = some (decide (l.length ≤ 200)) := by
  rw [mapmakerlaw05_few.f]
  congr 1
  rw [decide_eq_decide]
  omega
end Go.Proofs.Ytaiphfmfpedaaaa.Pl
