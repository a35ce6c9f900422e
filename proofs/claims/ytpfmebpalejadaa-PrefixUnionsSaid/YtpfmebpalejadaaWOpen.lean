/-
  Arguments of any kind that the print tells (whole numbers, bools, strings, slices, structs of these, nested) opened: from the reading that a row hands over to the kind's own reading 'Kd.K', with what is known of sizes.
-/
import Derived.Test.YtpfmebpalejadaaWWords
import Derived.ChangeArms
import Derived.SizedLaws
import Derived.Deep.Slices
namespace Go.Proofs.YtpfmebpalejadaaW.Open
open Go.Proofs.YtpfmebpalejadaaW.PrintWords

theorem exists_list {α : Type} {p : Nat → α → Prop} : ∀ n, (∀ i, i < n → ∃ x, p i x) → ∃ xs : List α, xs.length = n ∧ ∀ i x, xs[i]? = some x → p i x
  | 0, _ => ⟨[], rfl, fun i x h => by simp at h⟩
  | n + 1, h => by
    obtain ⟨xs, hl, hx⟩ := exists_list n (fun i hi => h i (Nat.lt_succ_of_lt hi))
    obtain ⟨x, hxn⟩ := h n (Nat.lt_succ_self n)
    refine ⟨xs ++ [x], by simp [hl], fun i y hy => ?_⟩
    rcases Nat.lt_or_ge i xs.length with hi | hi
    · rw [List.getElem?_append_left hi] at hy
      exact hx i y hy
    · have hi' : i = xs.length := by
        have := (List.getElem?_eq_some_iff.1 hy).1
        simp at this
        omega
      subst hi'
      have : x = y := by simpa using hy
      subst this
      rw [hl]
      exact hxn

/-- What reads as a value of type t reads as the kind d tells, and meets ok. -/
def Opens (P : Program) (t : TypeId) {α : Type} (d : Kd α) (ok : α → Prop) : Prop :=
  ∀ {H : Type} (enc : TypeId × Value → H) (w : World) (spare : Nat → Bool) (held : Bool) (fuel : Nat) (cs : List Value) (x : DataW H) (ps : List MemPlace),
    DataW.trod enc P w 0 spare held fuel t cs = some (x, ps) → (∀ n ∈ x.weights P t, n ≤ reachBytes) → ∃ y : α, d.K w y cs ∧ ok y

def okI64 (n : Int) : Prop := -9223372036854775808 ≤ n ∧ n ≤ 9223372036854775807
def okU8 (n : Int) : Prop := 0 ≤ n ∧ n ≤ 255
def okU64 (n : Int) : Prop := 0 ≤ n ∧ n ≤ 18446744073709551615
def okBool (_ : Bool) : Prop := True
def okStr (s : ByteArray) : Prop := s.size ≤ 140737488351232
def okL {α : Type} (B : Nat) (ok : α → Prop) (xs : List α) : Prop := xs.length * B ≤ 140737488351232 ∧ ∀ x ∈ xs, ok x
theorem opens_int {P : Program} {t : TypeId} {k : IntKind} (ht : P.underlying t = some (.int k)) : Opens P t (Kd.int k) (fun n => (Lit.int k n).wf = true) := by
  intro H enc w spare held fuel cs x ps h _
  obtain ⟨n, rfl, _, hw⟩ := DataW.trod_int ht h
  exact ⟨n, rfl, hw⟩
theorem opens_i64 {P : Program} {t : TypeId} (ht : P.underlying t = some (.int .i64)) : Opens P t (Kd.int .i64) okI64 := by
  intro H enc w spare held fuel cs x ps h hw
  obtain ⟨n, hk, hn⟩ := opens_int ht enc w spare held fuel cs x ps h hw
  refine ⟨n, hk, ?_⟩
  unfold okI64
  have := hn
  simp [Lit.wf, IntKind.min, IntKind.max, IntKind.signed, IntKind.bits] at this
  omega
theorem opens_u8 {P : Program} {t : TypeId} (ht : P.underlying t = some (.int .u8)) : Opens P t (Kd.int .u8) okU8 := by
  intro H enc w spare held fuel cs x ps h hw
  obtain ⟨n, hk, hn⟩ := opens_int ht enc w spare held fuel cs x ps h hw
  refine ⟨n, hk, ?_⟩
  unfold okU8
  have := hn
  simp [Lit.wf, IntKind.min, IntKind.max, IntKind.signed, IntKind.bits] at this
  omega
theorem opens_u64 {P : Program} {t : TypeId} (ht : P.underlying t = some (.int .u64)) : Opens P t (Kd.int .u64) okU64 := by
  intro H enc w spare held fuel cs x ps h hw
  obtain ⟨n, hk, hn⟩ := opens_int ht enc w spare held fuel cs x ps h hw
  refine ⟨n, hk, ?_⟩
  unfold okU64
  have := hn
  simp [Lit.wf, IntKind.min, IntKind.max, IntKind.signed, IntKind.bits] at this
  omega
theorem opens_bool {P : Program} {t : TypeId} (ht : P.underlying t = some .bool) : Opens P t Kd.bool okBool := by
  intro H enc w spare held fuel cs x ps h _
  obtain ⟨b, rfl, _⟩ := DataW.trod_bool ht h
  exact ⟨b, rfl, trivial⟩
theorem opens_string {P : Program} {t : TypeId} (ht : P.underlying t = some .string) : Opens P t Kd.string okStr := by
  intro H enc w spare held fuel cs x ps h hw
  obtain ⟨s, rfl, hx, _⟩ := DataW.trod_string ht h
  obtain ⟨rfl, rfl⟩ := Prod.mk.inj hx
  refine ⟨s, rfl, ?_⟩
  unfold okStr
  have := hw s.data.toList.length (by simp [DataW.weights])
  rw [Array.length_toList] at this
  exact this

theorem weights_all_mem {H : Type} {P : Program} {e : TypeId} : ∀ {l : List (DataW H)} {d : DataW H}, d ∈ l → ∀ n ∈ d.weights P e, n ∈ DataW.weightsAll P e l
  | [], _, h, _, _ => by cases h
  | x :: r, d, h, n, hn => by
    simp only [DataW.weightsAll, List.mem_append]
    rcases List.mem_cons.1 h with rfl | h
    · exact .inl hn
    · exact .inr (weights_all_mem h n hn)

theorem opens_slice {P : Program} {t e : TypeId} {α : Type} {d : Kd α} {ok : α → Prop} {B : Nat} (ht : P.underlying t = some (.slice e)) (hc : P.cellsOf e = d.sz) (hB : P.bytesOf e = B) (he : Opens P e d ok) :
    Opens P t (Kd.slice e d) (okL B ok) := by
  intro H enc w spare held fuel cs x ps h hw
  rcases DataW.trod_slice ht h with ⟨rfl, _⟩ | ⟨a, len, cap, elems, rest, n, _, rfl, hx, hb, hl, hm, hlen, hel, _, _⟩
  · exact ⟨[], ⟨none, 0, rfl, Nat.le_refl _, rfl, by simp, fun h => absurd h (Nat.lt_irrefl 0)⟩, by simp, by simp⟩
  · obtain ⟨rfl, rfl⟩ := Prod.mk.inj hx
    have hw1 : ∀ (i : Nat) (x : DataW H × List MemPlace), elems[i]? = some x → ∀ n ∈ x.1.weights P e, n ≤ reachBytes := fun i x hi n hn =>
      hw n (by
        simp only [DataW.weights, ht, List.mem_cons, List.mem_append]
        refine .inr (.inl (weights_all_mem (d := x.1) ?_ n hn))
        exact List.mem_map.2 ⟨x, List.mem_of_getElem? hi, rfl⟩)
    have hw0 : (elems.length + rest.length) * B ≤ reachBytes := by
      refine hw _ ?_
      simp [DataW.weights, ht, hB]
    have key : ∀ i, i < len → ∃ y : α, ok y ∧ ∃ c, c.length = d.sz ∧ d.K w y c ∧ ∀ j u, c[j]? = some u → w.cell? (a.add (i * d.sz + j)) = some u := by
      intro i hi
      have h1 := hel i hi
      have hlt : i < elems.length := by omega
      rw [List.getElem?_eq_getElem hlt] at h1
      obtain ⟨c, h2, h3⟩ := Option.bind_eq_some_iff.1 h1
      obtain ⟨y, hk, hok⟩ := he enc w spare held n c elems[i].1 elems[i].2 h3 (hw1 i _ (List.getElem?_eq_getElem hlt))
      obtain ⟨_, hcl, hcc⟩ := World.cells?_some h2
      rw [hc] at hcl
      refine ⟨y, hok, c, hcl, hk, fun j u hu => ?_⟩
      have hj : j < c.length := (List.getElem?_eq_some_iff.1 hu).1
      have h4 := hcc j (by omega)
      rw [Go.Deep.add_add, hc, hu] at h4
      exact h4
    obtain ⟨xs, hxl, hxs⟩ := exists_list len key
    have hmx : maxLen = 9223372036854775807 := rfl
    have hB2 : (elems.length + rest.length) * B ≤ 140737488351232 := hw0
    refine ⟨xs, ⟨some a, cap, by rw [hxl], by omega, rfl, by omega, fun _ => ⟨a, rfl, fun j p hp => (hxs j p hp).2⟩⟩, ?_, fun y hy => ?_⟩
    · have : xs.length * B ≤ (elems.length + rest.length) * B := Nat.mul_le_mul_right _ (by omega)
      omega
    · obtain ⟨i, hi⟩ := List.mem_iff_getElem?.1 hy
      exact (hxs i y hi).1

/-- The fields from one on. -/
def OpensF (P : Program) (fs : List Field) (off : Nat) {α : Type} (d : Kd α) (ok : α → Prop) : Prop :=
  ∀ {H : Type} (enc : TypeId × Value → H) (w : World) (spare : Nat → Bool) (held : Bool) (fuel : Nat) (cs : List Value) (xs : List (DataW H × List MemPlace)),
    xs.length = fs.length → (∀ (i : Nat) (f : Field), fs[i]? = some f → DataW.trod enc P w 0 spare held fuel f.type ((cs.drop f.offset).take (P.cellsOf f.type)) = xs[i]?) → cs.length = off + d.sz →
    (∀ n ∈ DataW.weightsEach P (fs.map (·.type)) (xs.map (·.1)), n ≤ reachBytes) → ∃ y : α, d.K w y (cs.drop off) ∧ ok y

theorem opensF_one {P : Program} {f : Field} {off : Nat} {α : Type} {d : Kd α} {ok : α → Prop} (ho : f.offset = off) (hc : P.cellsOf f.type = d.sz) (h : Opens P f.type d ok) : OpensF P [f] off d ok := by
  intro H enc w spare held fuel cs xs hl hx hcl hw
  match xs, hl with
  | [x], _ =>
    have h1 := hx 0 f rfl
    rw [ho, hc, List.take_of_length_le (by rw [List.length_drop]; omega)] at h1
    refine h enc w spare held fuel (cs.drop off) x.1 x.2 (by simpa using h1) (fun n hn => hw n ?_)
    simp only [List.map_cons, List.map_nil, DataW.weightsEach, List.append_nil]
    exact hn
theorem opensF_cons {P : Program} {f : Field} {fs : List Field} {off : Nat} {α β : Type} {d : Kd α} {d2 : Kd β} {ok : α → Prop} {ok2 : β → Prop} (ho : f.offset = off) (hc : P.cellsOf f.type = d.sz) (h : Opens P f.type d ok) (h2 : OpensF P fs (off + d.sz) d2 ok2) :
    OpensF P (f :: fs) off (Kd.pair d d2) (fun y => ok y.1 ∧ ok2 y.2) := by
  intro H enc w spare held fuel cs xs hl hx hcl hw
  match xs, hl with
  | x :: xs, hl =>
    have h1 := hx 0 f rfl
    rw [ho, hc] at h1
    have hsz : (Kd.pair d d2).sz = d.sz + d2.sz := rfl
    obtain ⟨y, hy, hoy⟩ := h enc w spare held fuel _ x.1 x.2 (by simpa using h1) (fun n hn => hw n (by
      simp only [List.map_cons, DataW.weightsEach, List.mem_append]
      exact .inl hn))
    obtain ⟨z, hz, hoz⟩ := h2 enc w spare held fuel cs xs (by simpa using hl) (fun i g hg => by simpa using hx (i + 1) g (by simpa using hg)) (by omega) (fun n hn => hw n (by
      simp only [List.map_cons, DataW.weightsEach, List.mem_append]
      exact .inr hn))
    refine ⟨(y, z), ⟨_, _, ?_, hy, hz⟩, hoy, hoz⟩
    rw [← List.drop_drop]
    exact (List.take_append_drop _ _).symm
theorem opens_struct {P : Program} {t : TypeId} {fs : Array Field} {α : Type} {d : Kd α} {ok : α → Prop} (ht : P.underlying t = some (.struct fs)) (hc : P.cellsOf t = d.sz) (h : OpensF P fs.toList 0 d ok) : Opens P t d ok := by
  intro H enc w spare held fuel cs x ps hx hw
  obtain ⟨xs, n, _, he, hl, hlen, hf⟩ := DataW.trod_struct ht hx
  obtain ⟨rfl, rfl⟩ := Prod.mk.inj he
  refine h enc w spare held n cs xs (by simpa using hlen) (fun i f hi => hf i f (by simpa using hi)) (by omega) (fun n hn => hw n ?_)
  simp only [DataW.weights, ht]
  exact hn
theorem opens_iso {P : Program} {t : TypeId} {α β : Type} {d : Kd α} {ok : α → Prop} (f : β → α) (g : α → β) (hfg : ∀ a, f (g a) = a) (h : Opens P t d ok) : Opens P t (Kd.iso d f) (fun y => ok (f y)) := by
  intro H enc w spare held fuel cs x ps hx hw
  obtain ⟨y, hy, hok⟩ := h enc w spare held fuel cs x ps hx hw
  refine ⟨g y, ?_, ?_⟩
  · show d.K w (f (g y)) cs
    rw [hfg]
    exact hy
  · show ok (f (g y))
    rw [hfg]
    exact hok
theorem Opens.imp {P : Program} {t : TypeId} {α : Type} {d : Kd α} {ok ok' : α → Prop} (h : Opens P t d ok) (hi : ∀ y, ok y → ok' y) : Opens P t d ok' := by
  intro H enc w spare held fuel cs x ps hx hw
  obtain ⟨y, hy, hok⟩ := h enc w spare held fuel cs x ps hx hw
  exact ⟨y, hy, hi y hok⟩

/-- The weights of one argument of a row. -/
theorem weights_of {H : Type} {P : Program} {ts : List TypeId} {ds : List (DataW H)} {j : Nat} {t : TypeId} {d : DataW H} (hsz : (DataW.weightsEach P ts ds).all (· ≤ reachBytes) = true) (ht : ts[j]? = some t) (hd : ds[j]? = some d) : ∀ n ∈ d.weights P t, n ≤ reachBytes := fun n hn =>
  by simpa using List.all_eq_true.1 hsz n (DataW.weights_mem_each ht hd n hn)

/-- An argument, opened. -/
theorem open_arg {H : Type} {enc : TypeId × Value → H} {P : Program} {W : World} {spare : Nat → Bool} {held : Bool} {ts : List TypeId} {ds : List (DataW H)} {j : Nat} {t : TypeId} {v : Value} {d : DataW H} {ps : List MemPlace} {α : Type} {k : Kd α} {ok : α → Prop}
    (o : Opens P t k ok) (hsz : (DataW.weightsEach P ts ds).all (· ≤ reachBytes) = true) (ht : ts[j]? = some t) (hd : ds[j]? = some d) (h : DataW.Trod enc P W 0 spare held t v d ps) : ∃ y : α, k.K W y v.cells.toList ∧ ok y := by
  obtain ⟨fuel, hf⟩ := h
  exact o enc W spare held fuel _ _ _ hf (weights_of hsz ht hd)
end Go.Proofs.YtpfmebpalejadaaW.Open
