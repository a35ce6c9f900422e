/-
  What a call holds of its own (variables in memory, rows), item by item, each in blocks of its own: one fact for all of them, moved by one word an event.
-/
import Derived.Test.YtpfmebpalejadaaWWords
import Derived.Test.YtpfmebpalejadaaWLast
import Derived.Test.YtpfmebpalejadaaWMore
namespace Go.Proofs.YtpfmebpalejadaaW.SepW
open Go.RowKit Go.Proofs.YtpfmebpalejadaaW.PrintWords

/-- Something that lies in blocks of the call's own: 'P w ok': it holds in w, its blocks are among ok's. -/
structure Thing (base : Nat) where
  P : World → (Nat → Prop) → Prop
  mono : ∀ {w : World} {ok ok' : Nat → Prop}, (∀ k, ok k → ok' k) → P w ok → P w ok'
  bound : ∀ {w : World} {ok : Nat → Prop}, P w ok → P w (fun k => ok k ∧ base ≤ k ∧ k < w.heap.size)
  move : ∀ {w w1 : World} {ok : Nat → Prop}, (∀ k, ok k → w1.heap[k]? = w.heap[k]?) → P w ok → P w1 ok

/-- A row of the call's own. -/
def Own {α : Type} (base : Nat) (d : Kd α) (e : Nat) (v : Value) (xs : List α) : Thing base where
  P := fun w ok => d.R e w base ok v xs
  mono := fun h hp => Kd.R_mono hp h
  bound := fun h => Kd.R_mono (Kd.R_bound h) (fun _ hk => ⟨hk.1, hk.2.1, hk.2.2.1⟩)
  move := fun h hp => Kd.R_move hp h

/-- A variable in memory. -/
def Box (base : Nat) (g : Nat) (t : Nat) (cs : Array Value) : Thing base where
  P := fun w ok => ok g ∧ base ≤ g ∧ w.heap[g]? = some (.cells cs t (0, 0))
  mono := fun h hp => ⟨h _ hp.1, hp.2⟩
  bound := fun h => ⟨⟨h.1, h.2.1, blk_lt h.2.2⟩, h.2⟩
  move := fun h hp => ⟨hp.1, hp.2.1, (h _ hp.1).trans hp.2.2⟩

/-- A row that is read: it came in, or is the call's own. -/
def Src {α : Type} (w0 : World) (d : Kd α) (e : Nat) (v : Value) (xs : List α) : Thing w0.heap.size where
  P := fun w ok => (∃ A c, v = .slice A xs.length c ∧ xs.length ≤ c ∧ d.C w0 A xs.length xs) ∨ d.R e w w0.heap.size ok v xs
  mono := fun h hp => hp.imp id (fun hp => Kd.R_mono hp h)
  bound := fun h => h.imp id (fun h => Kd.R_mono (Kd.R_bound h) (fun _ hk => ⟨hk.1, hk.2.1, hk.2.2.1⟩))
  move := fun h hp => hp.imp id (fun hp => Kd.R_move hp h)

/-- A row of the call's own whose cells are told as they stand (headers of other rows). -/
def Hdr (base : Nat) (e : Nat) (v : Value) (vs : List Value) : Thing base where
  P := fun w ok => (∀ k, v.ownBlock = some k → ok k) ∧ w.ownsRow base e 1 v vs.length vs
  mono := fun h hp => ⟨fun k hk => h k (hp.1 k hk), hp.2⟩
  bound := fun h => ⟨fun k hk => ⟨h.1 k hk, own_base h.2 k hk, own_lt h.2 k hk⟩, h.2⟩
  move := fun h hp => ⟨hp.1, own_move hp.2 (fun k hk => h k (hp.1 k hk))⟩
/-- Rows of the call's own, by their headers. -/
def Rows {α : Type} (base : Nat) (d : Kd α) (e : Nat) (vs : List Value) (xss : List (List α)) : Thing base where
  P := fun w ok => vs.length = xss.length ∧ ∀ (i : Nat) v xs, vs[i]? = some v → xss[i]? = some xs → d.R e w base ok v xs
  mono := fun h hp => ⟨hp.1, fun i v xs h1 h2 => Kd.R_mono (hp.2 i v xs h1 h2) h⟩
  bound := fun h => ⟨h.1, fun i v xs h1 h2 => Kd.R_mono (Kd.R_bound (h.2 i v xs h1 h2)) (fun _ hk => ⟨hk.1, hk.2.1, hk.2.2.1⟩)⟩
  move := fun h hp => ⟨hp.1, fun i v xs h1 h2 => Kd.R_move (hp.2 i v xs h1 h2) h⟩

def SepI (base : Nat) (w : World) : List (Thing base) → (Nat → Prop) → Prop
  | [], _ => True
  | i :: l, F => ∃ ok : Nat → Prop, (∀ k, ok k → F k ∧ base ≤ k ∧ k < w.heap.size) ∧ i.P w ok ∧ SepI base w l (fun k => F k ∧ ¬ ok k)

theorem SepI.mono {base : Nat} {w : World} : ∀ {l : List (Thing base)} {F F' : Nat → Prop}, (∀ k, F k → F' k) → SepI base w l F → SepI base w l F'
  | [], _, _, _, _ => trivial
  | _ :: _, _, _, h, ⟨ok, h1, h2, h3⟩ => ⟨ok, fun k hk => ⟨h k (h1 k hk).1, (h1 k hk).2⟩, h2, SepI.mono (fun k hk => ⟨h k hk.1, hk.2⟩) h3⟩
theorem SepI.low {base : Nat} {w : World} : ∀ {l : List (Thing base)} {F : Nat → Prop}, SepI base w l F → SepI base w l (fun k => F k ∧ base ≤ k ∧ k < w.heap.size)
  | [], _, _ => trivial
  | _ :: _, _, ⟨ok, h1, h2, h3⟩ => ⟨ok, fun k hk => ⟨h1 k hk, (h1 k hk).2⟩, h2, SepI.mono (fun _ hk => ⟨⟨hk.1.1, hk.2⟩, hk.1.2⟩) (SepI.low h3)⟩
theorem SepI.move {base : Nat} {w w1 : World} (hs : w.heap.size ≤ w1.heap.size) : ∀ {l : List (Thing base)} {F : Nat → Prop}, (∀ k, F k → base ≤ k → k < w.heap.size → w1.heap[k]? = w.heap[k]?) → SepI base w l F → SepI base w1 l F
  | [], _, _, _ => trivial
  | i :: _, _, h, ⟨ok, h1, h2, h3⟩ => ⟨ok, fun k hk => ⟨(h1 k hk).1, (h1 k hk).2.1, by have := (h1 k hk).2.2; omega⟩, i.move (fun k hk => h k (h1 k hk).1 (h1 k hk).2.1 (h1 k hk).2.2) h2, SepI.move hs (fun k hk => h k hk.1) h3⟩
/-- One item more, in blocks that no other has. -/
theorem SepI.add {base : Nat} {w : World} {l : List (Thing base)} {F : Nat → Prop} {i : Thing base} {ok : Nat → Prop} (h : i.P w ok) (hF : ∀ k, ok k → F k) (hl : SepI base w l (fun k => F k ∧ ¬ ok k)) : SepI base w (i :: l) F :=
  ⟨fun k => ok k ∧ base ≤ k ∧ k < w.heap.size, fun k hk => ⟨hF k hk.1, hk.2⟩, i.bound h, SepI.mono (fun _ hk => ⟨hk.1, fun hk' => hk.2 hk'.1⟩) hl⟩
/-- One item turned; the others stay. -/
theorem SepI.upd {base : Nat} {w : World} : ∀ (n : Nat) {l : List (Thing base)} {F : Nat → Prop} {i : Thing base}, SepI base w l F → l[n]? = some i →
    ∃ ok : Nat → Prop, (∀ k, ok k → F k ∧ base ≤ k ∧ k < w.heap.size) ∧ i.P w ok ∧ ∀ (w1 : World) (i' : Thing base), w.heap.size ≤ w1.heap.size → (∀ k, base ≤ k → k < w.heap.size → ¬ ok k → w1.heap[k]? = w.heap[k]?) → (∀ k, w.heap.size ≤ k → F k) →
      i'.P w1 (fun k => ok k ∨ w.heap.size ≤ k) → SepI base w1 (l.set n i') F
  | _, [], _, _, _, h => by simp at h
  | 0, j :: l, F, i, ⟨ok, h1, h2, h3⟩, h => by
    obtain rfl : j = i := by simpa using h
    refine ⟨ok, h1, h2, fun w1 i' hs hm hF hp => ?_⟩
    refine SepI.add (ok := fun k => ok k ∨ w.heap.size ≤ k) hp (fun k hk => hk.elim (fun hk => (h1 k hk).1) (hF k)) ?_
    refine SepI.mono (fun k hk => ⟨hk.1.1, fun hk' => hk'.elim hk.1.2 (fun hk' => by omega)⟩) (SepI.move hs (F := fun k => (F k ∧ ¬ ok k) ∧ base ≤ k ∧ k < w.heap.size) (fun k hk hb hlt => hm k hb hlt hk.1.2) (SepI.low h3))
  | n + 1, j :: l, F, i, ⟨ok, h1, h2, h3⟩, h => by
    obtain ⟨ok2, k1, k2, k3⟩ := SepI.upd n h3 (by simpa using h)
    refine ⟨ok2, fun k hk => ⟨(k1 k hk).1.1, (k1 k hk).2⟩, k2, fun w1 i' hs hm hF hp => ?_⟩
    refine ⟨ok, fun k hk => ⟨(h1 k hk).1, (h1 k hk).2.1, by have := (h1 k hk).2.2; omega⟩, j.move (fun k hk => hm k (h1 k hk).2.1 (h1 k hk).2.2 (fun hk' => (k1 k hk').1.2 hk)) h2, ?_⟩
    exact k3 w1 i' hs hm (fun k hk => ⟨hF k hk, fun hk' => by have := (h1 k hk').2.2; omega⟩) hp
theorem SepI.get {base : Nat} {w : World} (n : Nat) {l : List (Thing base)} {F : Nat → Prop} {i : Thing base} (S : SepI base w l F) (h : l[n]? = some i) : ∃ ok : Nat → Prop, i.P w ok := by
  obtain ⟨ok, _, h2, _⟩ := SepI.upd n S h
  exact ⟨ok, h2⟩
theorem SepI.erase {base : Nat} {w : World} : ∀ (n : Nat) {l : List (Thing base)} {F : Nat → Prop}, SepI base w l F → SepI base w (l.eraseIdx n) F
  | _, [], _, h => h
  | 0, _ :: _, _, ⟨_, _, _, h3⟩ => SepI.mono (fun _ hk => hk.1) h3
  | n + 1, _ :: _, _, ⟨ok, h1, h2, h3⟩ => ⟨ok, h1, h2, SepI.erase n h3⟩
/-- Two items' blocks are two. -/
theorem SepI.apart {base : Nat} {w : World} : ∀ (n m : Nat) {l : List (Thing base)} {F : Nat → Prop} {i j : Thing base}, SepI base w l F → l[n]? = some i → l[m]? = some j → n ≠ m →
    ∃ ok ok2 : Nat → Prop, i.P w ok ∧ j.P w ok2 ∧ ∀ k, ok k → ¬ ok2 k
  | _, _, [], _, _, _, _, h, _, _ => by simp at h
  | 0, 0, _ :: _, _, _, _, _, _, _, h => absurd rfl h
  | 0, m + 1, a :: l, F, i, j, ⟨ok, _, h2, h3⟩, h, h', _ => by
    obtain rfl : a = i := by simpa using h
    obtain ⟨ok2, k1, k2, _⟩ := SepI.upd m h3 (by simpa using h')
    exact ⟨ok, ok2, h2, k2, fun k hk hk' => (k1 k hk').1.2 hk⟩
  | n + 1, 0, a :: l, F, i, j, ⟨ok, _, h2, h3⟩, h, h', _ => by
    obtain rfl : a = j := by simpa using h'
    obtain ⟨ok2, k1, k2, _⟩ := SepI.upd n h3 (by simpa using h)
    exact ⟨ok2, ok, k2, h2, fun k hk hk' => (k1 k hk).1.2 hk'⟩
  | n + 1, m + 1, _ :: _, _, _, _, ⟨_, _, _, h3⟩, h, h', hne => SepI.apart n m h3 (by simpa using h) (by simpa using h') (by omega)

theorem R_form {α : Type} {d : Kd α} {e : Nat} {w : World} {base : Nat} {ok : Nat → Prop} {v : Value} {xs : List α} (h : d.R e w base ok v xs) : ∃ A n c, v = .slice A n c := by
  obtain ⟨A, c, he⟩ := Kd.R_slice h
  exact ⟨A, _, c, he⟩
/-- The whole: nothing from before the call (w0) has turned; the call's own things, item by item. -/
structure Sep (w0 w : World) (L : List (Thing w0.heap.size)) : Prop where
  below : Below w0.heap.size w0 w
  items : SepI w0.heap.size w L (fun _ => True)

namespace Sep
variable {w0 w w1 : World} {L : List (Thing w0.heap.size)}
theorem start (w : World) : Sep w w [] := ⟨Below.refl _ _, trivial⟩
theorem size (S : Sep w0 w L) : w0.heap.size ≤ w.heap.size := S.below.size
/-- Nothing has turned but what is new. -/
theorem step (S : Sep w0 w L) (hb : Below w.heap.size w w1) : Sep w0 w1 L :=
  ⟨below_step S.below hb, SepI.move hb.size (fun k _ _ hk => hb.block k hk) S.items⟩
theorem drew (S : Sep w0 w L) : Sep w0 w.drew L := S.step (below_drew (Below.refl _ _))
theorem drewN (S : Sep w0 w L) (n : Nat) : Sep w0 (w.drewN n) L := S.step (pw_below_drewN (Below.refl _ _) n)
/-- Something new. -/
theorem new (S : Sep w0 w L) (hb : Below w.heap.size w w1) {i : Thing w0.heap.size} (h : i.P w1 (fun k => w.heap.size ≤ k)) : Sep w0 w1 (i :: L) :=
  ⟨below_step S.below hb, SepI.add h (fun _ _ => trivial) (SepI.mono (fun k hk => ⟨trivial, by have := hk.2.2; omega⟩) (SepI.move hb.size (F := fun k => True ∧ w0.heap.size ≤ k ∧ k < w.heap.size) (fun k _ _ hk => hb.block k hk) (SepI.low S.items)))⟩
/-- A new variable. -/
theorem box (S : Sep w0 w L) {g t : Nat} {cs : Array Value} (hg : g = w.heap.size) (h : w1.heap[g]? = some (.cells cs t (0, 0))) (hb : Below w.heap.size w w1) : Sep w0 w1 (Box _ g t cs :: L) :=
  S.new hb ⟨by show w.heap.size ≤ g; omega, by have := S.size; omega, h⟩
/-- A new row, as a callee hands it over. -/
theorem own {α : Type} {d : Kd α} {e : Nat} {v : Value} {xs : List α} (S : Sep w0 w L) (h : d.R e w1 w.heap.size (fun _ => True) v xs) (hb : Below w.heap.size w w1) : Sep w0 w1 (Own _ d e v xs :: L) :=
  S.new hb (i := Own _ d e v xs) (Kd.R_lower (Kd.R_mono (Kd.R_bound h) (fun _ hk => hk.2.1)) S.size)
/-- A new variable, the world spelled. -/
theorem alloc (S : Sep w0 w L) (cs : Array Value) (t : Nat) : Sep w0 (w.alloc (.cells cs t (0, 0))) (Box _ w.heap.size t cs :: L) :=
  S.box rfl (blk_new w _) (below_alloc (Below.refl _ _) _)
theorem alloc' (S : Sep w0 w L) (cs : Array Value) (t : Nat) {g : Nat} (hg : g = w.heap.size) : Sep w0 (w.alloc (.cells cs t (0, 0))) (Box _ g t cs :: L) := S.box hg (by rw [hg]; exact blk_new w _) (below_alloc (Below.refl _ _) _)
/-- The nil row. -/
theorem nil {α : Type} (S : Sep w0 w L) (d : Kd α) (e : Nat) : Sep w0 w (Own _ d e (.slice none 0 0) ([] : List α) :: L) :=
  S.new (Below.refl _ _) (i := Own _ d e (.slice none 0 0) ([] : List α)) (Kd.R_nil _ _ _ _ _)
/-- A row that came in. -/
theorem src {α : Type} (S : Sep w0 w L) {d : Kd α} (e : Nat) {A : Option Addr} {c : Nat} {xs : List α} (h : d.C w0 A xs.length xs) (hc : xs.length ≤ c) : Sep w0 w (Src w0 d e (.slice A xs.length c) xs :: L) :=
  S.new (Below.refl _ _) (i := Src w0 d e (.slice A xs.length c) xs) (.inl ⟨A, c, rfl, hc, h⟩)
theorem drop (S : Sep w0 w L) (n : Nat) : Sep w0 w (L.eraseIdx n) := ⟨S.below, SepI.erase n S.items⟩
/-- What an item says, now. -/
theorem at_own {α : Type} {d : Kd α} {e : Nat} {v : Value} {xs : List α} (S : Sep w0 w L) (n : Nat) (h : L[n]? = some (Own _ d e v xs)) : d.R e w w0.heap.size (fun _ => True) v xs := by
  obtain ⟨ok, hp⟩ := SepI.get n S.items h
  exact Kd.R_mono (show d.R e w w0.heap.size ok v xs from hp) (fun _ _ => trivial)
theorem at_box {g t : Nat} {cs : Array Value} (S : Sep w0 w L) (n : Nat) (h : L[n]? = some (Box _ g t cs)) : w.heap[g]? = some (.cells cs t (0, 0)) := by
  obtain ⟨ok, hp⟩ := SepI.get n S.items h
  exact hp.2.2
theorem box_ge {g t : Nat} {cs : Array Value} (S : Sep w0 w L) (n : Nat) (h : L[n]? = some (Box _ g t cs)) : w0.heap.size ≤ g := by
  obtain ⟨ok, hp⟩ := SepI.get n S.items h
  exact hp.2.1
theorem box_ne {g g' t t' : Nat} {cs cs' : Array Value} (S : Sep w0 w L) (n m : Nat) (h : L[n]? = some (Box _ g t cs)) (h' : L[m]? = some (Box _ g' t' cs')) (hne : n ≠ m) : g ≠ g' := by
  obtain ⟨ok, ok2, h1, h2, h3⟩ := SepI.apart n m S.items h h' hne
  rintro rfl
  exact h3 g h1.1 h2.1
theorem src_reads {α : Type} {d : Kd α} {e : Nat} {v : Value} {xs : List α} (S : Sep w0 w L) (n : Nat) (h : L[n]? = some (Src w0 d e v xs)) : ∃ A c, v = .slice A xs.length c ∧ xs.length ≤ c ∧ d.C w A xs.length xs := by
  obtain ⟨ok, hp⟩ := SepI.get n S.items h
  rcases hp with ⟨A, c, rfl, hc, hr⟩ | hp
  · exact ⟨A, c, rfl, hc, Kd.C_below hr S.below⟩
  · exact Kd.R_reads hp
theorem src_C {α : Type} {d : Kd α} {e : Nat} {A : Option Addr} {c : Nat} {xs : List α} (S : Sep w0 w L) (n : Nat) (h : L[n]? = some (Src w0 d e (.slice A xs.length c) xs)) : d.C w A xs.length xs := by
  obtain ⟨A', c', he, _, hr⟩ := S.src_reads n h
  injection he with h1 _ _
  rw [h1]
  exact hr
theorem own_C {α : Type} {d : Kd α} {e : Nat} {A : Option Addr} {c m : Nat} {xs : List α} (S : Sep w0 w L) (n : Nat) (h : L[n]? = some (Own _ d e (.slice A m c) xs)) : d.C w A xs.length xs := by
  obtain ⟨A', c', he, _, hr⟩ := Kd.R_reads (S.at_own n h)
  injection he with h1 _ _
  rw [h1]
  exact hr
theorem own_reads {α : Type} {d : Kd α} {e : Nat} {v : Value} {xs : List α} (S : Sep w0 w L) (n : Nat) (h : L[n]? = some (Own _ d e v xs)) : ∃ A c, v = .slice A xs.length c ∧ xs.length ≤ c ∧ d.C w A xs.length xs := Kd.R_reads (S.at_own n h)
/-- A row of one's own is read from now on alone. -/
theorem to_src {α : Type} {d : Kd α} {e : Nat} {v : Value} {xs : List α} (S : Sep w0 w L) (n : Nat) (h : L[n]? = some (Own _ d e v xs)) : Sep w0 w (L.set n (Src w0 d e v xs)) := by
  obtain ⟨ok, _, hp, hu⟩ := SepI.upd n S.items h
  exact ⟨S.below, hu w _ (Nat.le_refl _) (fun _ _ _ _ => rfl) (fun _ _ => trivial) (.inr (Kd.R_mono (show d.R e w w0.heap.size ok v xs from hp) (fun _ hk => .inl hk)))⟩
theorem swap {a b : Thing w0.heap.size} {l : List (Thing w0.heap.size)} (S : Sep w0 w (a :: b :: l)) : Sep w0 w (b :: a :: l) := by
  obtain ⟨hb, ok, h1, h2, ok2, k1, k2, k3⟩ := S
  refine ⟨hb, ok2, fun k hk => ⟨trivial, (k1 k hk).2⟩, k2, ok, fun k hk => ⟨⟨trivial, fun hk' => (k1 k hk').1.2 hk⟩, (h1 k hk).2⟩, h2, SepI.mono (fun k hk => ⟨⟨trivial, hk.2⟩, hk.1.2⟩) k3⟩
/-- A store into a variable. -/
theorem set {g t : Nat} {cs : Array Value} (S : Sep w0 w L) (n : Nat) (h : L[n]? = some (Box _ g t cs)) (j : Nat) (u : Value) : Sep w0 (w.setCell ⟨g, j, none⟩ u) (L.set n (Box _ g t (cs.setIfInBounds j u))) := by
  obtain ⟨ok, h1, hp, hu⟩ := SepI.upd n S.items h
  have hs : (w.setCell ⟨g, j, none⟩ u).heap.size = w.heap.size := World.size_setCell ..
  refine ⟨below_set S.below hp.2.1, hu _ _ (by omega) (fun k _ _ hk => Below.heap_setCell w ⟨g, j, none⟩ u k (fun e => hk (e ▸ hp.1))) (fun _ _ => trivial) ⟨.inl hp.1, hp.2.1, blk_set hp.2.2 j u⟩⟩
/-- What an append asks, and what it leaves: the row's blocks, the new ones among them; behind it the others stand as they were. -/
theorem append {α : Type} {d : Kd α} {e : Nat} {v : Value} {xs : List α} (S : Sep w0 w L) (n : Nat) (h : L[n]? = some (Own _ d e v xs)) :
    ∃ ok : Nat → Prop, d.R e w w0.heap.size ok v xs ∧ (∀ k, w.heap.size ≤ k → ok k) ∧ ∀ (v1 : Value) (w1 : World) (ys : List α), d.R e w1 w0.heap.size ok v1 ys → Below w0.heap.size w0 w1 → w.grownBy w1 v.ownBlock → Sep w0 w1 (L.set n (Own _ d e v1 ys)) := by
  obtain ⟨ok, h1, hp, hu⟩ := SepI.upd n S.items h
  have hr : d.R e w w0.heap.size ok v xs := hp
  refine ⟨fun k => ok k ∨ w.heap.size ≤ k, Kd.R_mono hr (fun _ hk => .inl hk), fun _ hk => .inr hk, fun v1 w1 ys ho hb hg => ⟨hb, hu w1 _ hg.size (fun k _ hlt hk => hg.block k hlt (fun he => hk (hr.1 k he.symm))) (fun _ _ => trivial) ho⟩⟩
theorem at_hdr {e : Nat} {v : Value} {vs : List Value} (S : Sep w0 w L) (n : Nat) (h : L[n]? = some (Hdr _ e v vs)) : w.ownsRow w0.heap.size e 1 v vs.length vs := by
  obtain ⟨ok, hp⟩ := SepI.get n S.items h
  exact hp.2
/-- The cells of a row of headers. -/
theorem hdr_cells {e : Nat} {v : Value} {vs : List Value} (S : Sep w0 w L) (n : Nat) (h : L[n]? = some (Hdr _ e v vs)) (hp : 0 < vs.length) :
    ∃ g cap, v = .slice (some ⟨g, 0, none⟩) vs.length cap ∧ (∀ i u, vs[i]? = some u → w.cell? ⟨g, i, none⟩ = some u) ∧ ∀ i, w.frozen? ⟨g, i, none⟩ = false := by
  have ho := S.at_hdr n h
  obtain ⟨g, cap, rfl, _, _⟩ := ho.form hp
  refine ⟨g, cap, rfl, fun i u hu => ?_, fun i => ?_⟩
  · have := ho.cells (g := g) rfl i u hu
    rwa [add_plain] at this
  · rcases ho.2 with ⟨h', _⟩ | ⟨g', cap', cur, h', _, hh, _⟩
    · cases h'
    · have : g = g' := by injection h' with h'; injection h' with h'; injection h' with h'
      subst this
      simp [World.frozen?, hh]
theorem hdr_form {e : Nat} {v : Value} {vs : List Value} (S : Sep w0 w L) (n : Nat) (h : L[n]? = some (Hdr _ e v vs)) : ∃ A c, v = .slice A vs.length c := own_slice (S.at_hdr n h)
theorem hdr_nil (S : Sep w0 w L) (e : Nat) : Sep w0 w (Hdr _ e (.slice none 0 0) [] :: L) :=
  S.new (Below.refl _ _) (i := Hdr _ e (.slice none 0 0) []) ⟨fun k hk => by simp [Value.ownBlock] at hk, own_nil _ _ _ _⟩
theorem rows_nil {α : Type} (S : Sep w0 w L) (d : Kd α) (e : Nat) : Sep w0 w (Rows _ d e [] ([] : List (List α)) :: L) :=
  S.new (Below.refl _ _) (i := Rows _ d e [] ([] : List (List α))) ⟨rfl, fun i v xs h1 _ => by simp at h1⟩
/-- What an append of a header asks, and what it leaves. -/
theorem hdr_append {e : Nat} {v : Value} {vs : List Value} (S : Sep w0 w L) (n : Nat) (h : L[n]? = some (Hdr _ e v vs)) :
    w.ownsRow w0.heap.size e 1 v vs.length vs ∧ ∀ (v1 : Value) (w1 : World) (us : List Value), w1.ownsRow w0.heap.size e 1 v1 us.length us → Below w0.heap.size w0 w1 → w.grownBy w1 v.ownBlock → (v1.ownBlock = v.ownBlock ∨ ∃ b, v1.ownBlock = some b ∧ w.heap.size ≤ b) → Sep w0 w1 (L.set n (Hdr _ e v1 us)) := by
  obtain ⟨ok, h1, hp, hu⟩ := SepI.upd n S.items h
  have hp' : (∀ k, v.ownBlock = some k → ok k) ∧ w.ownsRow w0.heap.size e 1 v vs.length vs := hp
  refine ⟨hp'.2, fun v1 w1 us ho hb hg hat => ⟨hb, hu w1 _ hg.size (fun k _ hlt hk => hg.block k hlt (fun he => hk (hp'.1 k he.symm))) (fun _ _ => trivial) ⟨fun k hk => ?_, ho⟩⟩⟩
  rcases hat with hat | ⟨b, hb1, hb2⟩
  · exact .inl (hp'.1 k (hat ▸ hk))
  · rw [hb1] at hk
    injection hk with hk
    exact .inr (hk ▸ hb2)
/-- A header is written over. -/
theorem hdr_set {e g cap : Nat} {vs : List Value} (S : Sep w0 w L) (n : Nat) (h : L[n]? = some (Hdr _ e (.slice (some ⟨g, 0, none⟩) vs.length cap) vs)) (i : Nat) (u : Value) :
    Sep w0 (w.setCell ⟨g, i, none⟩ u) (L.set n (Hdr _ e (.slice (some ⟨g, 0, none⟩) vs.length cap) (vs.set i u))) := by
  obtain ⟨ok, h1, hp, hu⟩ := SepI.upd n S.items h
  have hp' : (∀ k, (Value.slice (some ⟨g, 0, none⟩) vs.length cap).ownBlock = some k → ok k) ∧ w.ownsRow w0.heap.size e 1 (.slice (some ⟨g, 0, none⟩) vs.length cap) vs.length vs := hp
  have hs := hp'.2.stored i u
  have hok : ok g := hp'.1 g (by simp [Value.ownBlock])
  have hsz : (w.setCell ⟨g, i, none⟩ u).heap.size = w.heap.size := World.size_setCell ..
  refine ⟨below_set S.below (h1 g hok).2.1, hu _ _ (by omega) (fun k _ _ hk => Below.heap_setCell w ⟨g, i, none⟩ u k (fun e => hk (e ▸ hok))) (fun _ _ => trivial) ⟨fun k hk => .inl (hp'.1 k hk), ?_⟩⟩
  have := hs.1
  rwa [show (vs.set i u).length = vs.length by simp]
/-- One row more among the rows. -/
theorem rows_take {α : Type} {d : Kd α} {e : Nat} {vs : List Value} {xss : List (List α)} {v : Value} {xs : List α} (S : Sep w0 w (Rows _ d e vs xss :: Own _ d e v xs :: L)) : Sep w0 w (Rows _ d e (vs ++ [v]) (xss ++ [xs]) :: L) := by
  obtain ⟨hb, ok, h1, h2, ok2, k1, k2, k3⟩ := S
  refine ⟨hb, fun k => ok k ∨ ok2 k, fun k hk => ⟨trivial, hk.elim (fun hk => (h1 k hk).2) (fun hk => (k1 k hk).2)⟩, ⟨by simp [h2.1], fun i u ys hu hy => ?_⟩, SepI.mono (fun k hk => ⟨trivial, fun hk' => hk'.elim hk.1.2 hk.2⟩) k3⟩
  rcases Nat.lt_trichotomy i vs.length with hi | hi | hi
  · rw [List.getElem?_append_left hi] at hu
    rw [List.getElem?_append_left (by rw [← h2.1]; exact hi)] at hy
    exact Kd.R_mono (h2.2 i u ys hu hy) (fun _ hk => .inl hk)
  · subst hi
    have hu' : v = u := by simpa using hu
    rw [h2.1] at hy
    have hy' : xs = ys := by simpa using hy
    subst hu'; subst hy'
    exact Kd.R_mono (show d.R e w w0.heap.size ok2 v xs from k2) (fun _ hk => .inr hk)
  · rw [List.getElem?_eq_none (by simp; omega)] at hu
    cases hu
/-- Headers and rows together: a row of rows. -/
theorem joined {α : Type} {d : Kd α} {e e2 : Nat} {v : Value} {vs : List Value} {xss : List (List α)} (S : Sep w0 w (Hdr _ e2 v vs :: Rows _ d e vs xss :: L)) : (Kd.slice e d).R e2 w w0.heap.size (fun _ => True) v xss := by
  obtain ⟨hb, ok, h1, h2, ok2, k1, k2, k3⟩ := S
  have h2' : (∀ k, v.ownBlock = some k → ok k) ∧ w.ownsRow w0.heap.size e2 1 v vs.length vs := h2
  have k2' : vs.length = xss.length ∧ ∀ (i : Nat) v xs, vs[i]? = some v → xss[i]? = some xs → d.R e w w0.heap.size ok2 v xs := k2
  refine ⟨fun _ _ => trivial, vs, ?_, ⟨?_, fun j p hj => ?_⟩⟩
  · rw [← k2'.1]
    exact h2'.2
  · show vs.length = xss.length * 1
    omega
  · have hl : j < vs.length := by
      have := (List.getElem?_eq_some_iff.1 hj).1
      omega
    refine ⟨vs[j], ?_, Kd.R_mono (k2'.2 j vs[j] p (List.getElem?_eq_getElem hl) hj) (fun k hk => ⟨trivial, fun he => (k1 k hk).1.2 (h2'.1 k he.symm)⟩)⟩
    show (vs.drop (j * 1)).take 1 = [vs[j]]
    rw [Nat.mul_one, List.drop_eq_getElem_cons hl]
    rfl
end Sep
end Go.Proofs.YtpfmebpalejadaaW.SepW
