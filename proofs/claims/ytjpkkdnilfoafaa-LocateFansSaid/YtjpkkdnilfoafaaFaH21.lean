-- Out of the translation and of texts of our own, merged (wip/gen/pack.py): what the row names and no more.
import Derived.RangeFuncNested
import Derived.RangeFuncLeaves
import Derived.TacticsIn
import Derived.RangeFuncBound
import Derived.RangeFuncCalls
import Derived.RangeFuncBox
import Derived.Shelf.Abstract
import Derived.Shelf.RegionOpen
import Derived.WalkKit
import Derived.OwnWalkIn
import Derived.TacticsInMore
import Derived.LoopNIn
import Derived.LoopIn
import Derived.Sort.QuietTacIn
import Derived.Deep.DeepMust
import Derived.OwnWalk
import Derived.Laws.EntriesVeiled
import Derived.Test.YtjpkkdnilfoafaaFaW1
import Derived.Test.YtjpkkdnilfoafaaFaP1
import Derived.Test.YtjpkkdnilfoafaaFaP2
import Derived.Test.YtjpkkdnilfoafaaFaH11
section
namespace Go.Proofs.Ytjpkkdnilfoafaa.Plain
open Go.RowKit Go.Proofs.YtjpkkdnilfoafaaW.PrintWords Go.Proofs.YtjpkkdnilfoafaaW.PrintLast Go.Proofs.YtjpkkdnilfoafaaW.PrintMore Go.Proofs.Ytjpkkdnilfoafaa.PALL
set_option linter.unusedVariables false
set_option linter.unusedSimpArgs false
/-- Is a point a grid point. -/
def gv (p : S29) : Bool := decide (p.f0 ≥ 0) && decide (p.f0 < 32768) && decide (p.f1 ≥ 0) && decide (p.f1 < 32768)
theorem gv_iff (p : S29) : gv p = true ↔ 0 ≤ p.f0 ∧ p.f0 < 32768 ∧ 0 ≤ p.f1 ∧ p.f1 < 32768 := by
  unfold gv
  simp only [Bool.and_eq_true, decide_eq_true_eq, ge_iff_le, and_assoc]
theorem gv_f (p : S29) : grid_Valid.f p.f0 p.f1 = some (gv p) := by
  unfold grid_Valid.f gv
  repeat' split
  all_goals simp [*]
theorem gv8_f (p : S29) : mapmakerref08_Valid.f p.f0 p.f1 = some (gv p) := by
  unfold mapmakerref08_Valid.f gv
  repeat' split
  all_goals simp [*]
/-- Twice the area of a triangle. -/
def turn (a b c : S29) : Int := (b.f0 - a.f0) * (c.f1 - a.f1) - (b.f1 - a.f1) * (c.f0 - a.f0)
theorem mulb {x y : Int} (hx : -32768 ≤ x ∧ x ≤ 32768) (hy : -32768 ≤ y ∧ y ≤ 32768) : -1073741824 ≤ x * y ∧ x * y ≤ 1073741824 := by
  have h1 : (x * y).natAbs = x.natAbs * y.natAbs := Int.natAbs_mul x y
  have h2 : x.natAbs * y.natAbs ≤ 32768 * 32768 := Nat.mul_le_mul (by omega) (by omega)
  omega
theorem wr_in (n : Int) (h : -10000000000 ≤ n ∧ n ≤ 10000000000) : wrap64 n = n := IntWalk.wrap64_in n (by omega)
theorem turn_w {a b c : S29} (ha : gv a = true) (hb : gv b = true) (hc : gv c = true) : wrap64 ((wrap64 ((wrap64 (b.f0 - a.f0)) * (wrap64 (c.f1 - a.f1)))) - (wrap64 ((wrap64 (b.f1 - a.f1)) * (wrap64 (c.f0 - a.f0))))) = turn a b c := by
  rw [gv_iff] at ha hb hc
  have m1 := mulb (x := b.f0 - a.f0) (y := c.f1 - a.f1) (by omega) (by omega)
  have m2 := mulb (x := b.f1 - a.f1) (y := c.f0 - a.f0) (by omega) (by omega)
  rw [wr_in (b.f0 - a.f0) (by omega), wr_in (c.f1 - a.f1) (by omega), wr_in (b.f1 - a.f1) (by omega), wr_in (c.f0 - a.f0) (by omega), wr_in ((b.f0 - a.f0) * (c.f1 - a.f1)) (by omega), wr_in ((b.f1 - a.f1) * (c.f0 - a.f0)) (by omega), wr_in ((b.f0 - a.f0) * (c.f1 - a.f1) - (b.f1 - a.f1) * (c.f0 - a.f0)) (by omega)]
  rfl
theorem valid3_f {a b c : S29} (ha : gv a = true) (hb : gv b = true) (hc : gv c = true) : Ev (fun k => seg_valid.f k [a, b, c]) true := by
  have e : ∀ k, seg_valid.f (k + 4) [a, b, c] = some true := by
    intro k
    unfold seg_valid.f
    have ga := gv_f a
    have gb := gv_f b
    have gc := gv_f c
    rw [ha] at ga
    rw [hb] at gb
    rw [hc] at gc
    have w0 : wrap64 (0 + 1) = 1 := wr_in _ (by decide)
    have w1 : wrap64 (1 + 1) = 2 := wr_in _ (by decide)
    have w2 : wrap64 (2 + 1) = 3 := wr_in _ (by decide)
    have r0 : rd_T29 [a, b, c] 0 = a := rfl
    have r1 : rd_T29 [a, b, c] 1 = b := rfl
    have r2 : rd_T29 [a, b, c] 2 = c := rfl
    have hl : (([a, b, c] : List S29).length : Int) = 3 := rfl
    rw [seg_valid.l0, hl, if_pos (by decide), if_pos (by decide), if_pos (by decide), r0, ga, Option.bind_some, if_pos rfl, w0,
      seg_valid.l0, hl, if_pos (by decide), if_pos (by decide), if_pos (by decide), r1, gb, Option.bind_some, if_pos rfl, w1,
      seg_valid.l0, hl, if_pos (by decide), if_pos (by decide), if_pos (by decide), r2, gc, Option.bind_some, if_pos rfl, w2,
      seg_valid.l0, if_neg (by decide)]
  exact ⟨4, fun k hk => by obtain ⟨j, rfl⟩ : ∃ j, k = j + 4 := ⟨k - 4, by omega⟩; exact e j⟩
theorem turn_f {a b c : S29} (ha : gv a = true) (hb : gv b = true) (hc : gv c = true) : Ev (fun k => seg_Turn.f k a.f0 a.f1 b.f0 b.f1 c.f0 c.f1) (turn a b c) := by
  refine Ev.congr (fun k => ?_) (Ev.bind (valid3_f ha hb hc) (f := fun _ t => if t = true then some (turn a b c) else some 0) (r := turn a b c) ?_)
  · rw [seg_Turn.f, turn_w ha hb hc]
  · rw [show (fun (n : Nat) => if true = true then some (turn a b c) else some (0 : Int)) = fun _ => some (turn a b c) from funext (fun _ => if_pos rfl)]
    exact Ev.now _
/-- Is p on the closed segment from a to b. -/
def onB (p a b : S29) : Bool := decide (turn a b p = 0 ∧ mn a.f0 b.f0 ≤ p.f0 ∧ p.f0 ≤ mx a.f0 b.f0 ∧ mn a.f1 b.f1 ≤ p.f1 ∧ p.f1 ≤ mx a.f1 b.f1)
/-- Does the segment from a to b cross the ray from p to the right. -/
def crB (a b p : S29) : Bool := if a.f1 > b.f1 then decide (b.f1 ≤ p.f1 ∧ a.f1 > p.f1 ∧ turn b a p > 0) else decide (a.f1 ≤ p.f1 ∧ b.f1 > p.f1 ∧ turn a b p > 0)
theorem of_f (a b : S29) : ∃ l r l1 r1, seg_Of.f a.f0 a.f1 b.f0 b.f1 = some (l, l1, r, r1) ∧ l = mn a.f0 b.f0 ∧ r = mx a.f0 b.f0 := by
  unfold seg_Of.f grid_Less.f
  by_cases h : b.f0 = a.f0
  · rw [if_pos h, Option.bind_some]
    by_cases h2 : b.f1 < a.f1
    · rw [decide_eq_true h2, if_pos rfl]
      exact ⟨_, _, _, _, rfl, by unfold mn; split <;> omega, by unfold mx; split <;> omega⟩
    · rw [decide_eq_false h2, if_neg (by decide)]
      exact ⟨_, _, _, _, rfl, by unfold mn; split <;> omega, by unfold mx; split <;> omega⟩
  · rw [if_neg h, Option.bind_some]
    by_cases h2 : b.f0 < a.f0
    · rw [decide_eq_true h2, if_pos rfl]
      exact ⟨_, _, _, _, rfl, by unfold mn; split <;> omega, by unfold mx; split <;> omega⟩
    · rw [decide_eq_false h2, if_neg (by decide)]
      exact ⟨_, _, _, _, rfl, by unfold mn; split <;> omega, by unfold mx; split <;> omega⟩
theorem crosses_f {a b p : S29} (ha : gv a = true) (hb : gv b = true) (hp : gv p = true) : Ev (fun k => poly_crosses.f k a.f0 a.f1 b.f0 b.f1 p.f0 p.f1) (crB a b p) := by
  unfold crB
  by_cases h : a.f1 > b.f1
  · rw [if_pos h]
    by_cases h1 : b.f1 ≤ p.f1
    · by_cases h2 : a.f1 > p.f1
      · refine Ev.congr (fun k => ?_) (Ev.bind (turn_f hb ha hp) (f := fun _ t => some (decide (t > 0))) (r := decide (b.f1 ≤ p.f1 ∧ a.f1 > p.f1 ∧ turn b a p > 0)) ?_)
        · rw [poly_crosses.f, if_pos h, if_pos h1, if_pos h2]
        · rw [show decide (b.f1 ≤ p.f1 ∧ a.f1 > p.f1 ∧ turn b a p > 0) = decide (turn b a p > 0) by simp only [h1, h2, true_and]]
          exact Ev.now _
      · rw [decide_eq_false (fun x => h2 x.2.1)]
        exact Ev.congr (fun k => by rw [poly_crosses.f, if_pos h, if_pos h1, if_neg h2]) (Ev.now _)
    · rw [decide_eq_false (fun x => h1 x.1)]
      exact Ev.congr (fun k => by rw [poly_crosses.f, if_pos h, if_neg h1]) (Ev.now _)
  · rw [if_neg h]
    by_cases h1 : a.f1 ≤ p.f1
    · by_cases h2 : b.f1 > p.f1
      · refine Ev.congr (fun k => ?_) (Ev.bind (turn_f ha hb hp) (f := fun _ t => some (decide (t > 0))) (r := decide (a.f1 ≤ p.f1 ∧ b.f1 > p.f1 ∧ turn a b p > 0)) ?_)
        · rw [poly_crosses.f, if_neg h, if_pos h1, if_pos h2]
        · rw [show decide (a.f1 ≤ p.f1 ∧ b.f1 > p.f1 ∧ turn a b p > 0) = decide (turn a b p > 0) by simp only [h1, h2, true_and]]
          exact Ev.now _
      · rw [decide_eq_false (fun x => h2 x.2.1)]
        exact Ev.congr (fun k => by rw [poly_crosses.f, if_neg h, if_pos h1, if_neg h2]) (Ev.now _)
    · rw [decide_eq_false (fun x => h1 x.1)]
      exact Ev.congr (fun k => by rw [poly_crosses.f, if_neg h, if_neg h1]) (Ev.now _)
end Go.Proofs.Ytjpkkdnilfoafaa.Plain
end
section
namespace Go.Proofs.YtjpkkdnilfoafaaW.SepW
open Go Go.RowKit Go.Proofs.YtjpkkdnilfoafaaW.PrintWords
/-- A block of any make. -/
def Blk (base : Nat) (g : Nat) (o : Obj) : Thing base where
  P := fun w ok => ok g ∧ base ≤ g ∧ w.heap[g]? = some o
  mono := fun h hp => ⟨h _ hp.1, hp.2⟩
  bound := fun h => ⟨⟨h.1, h.2.1, (Array.getElem?_eq_some_iff.1 h.2.2).1⟩, h.2⟩
  move := fun h hp => ⟨hp.1, hp.2.1, (h _ hp.1).trans hp.2.2⟩
theorem SepI.perm {base : Nat} {w : World} {L L' : List (Thing base)} (h : L.Perm L') : ∀ {F : Nat → Prop}, SepI base w L F → SepI base w L' F := by
  induction h with
  | nil => exact fun h => h
  | cons x _ ih => exact fun ⟨ok, h1, h2, h3⟩ => ⟨ok, h1, h2, ih h3⟩
  | swap x y l =>
    rintro F ⟨ok, h1, h2, ok2, k1, k2, k3⟩
    exact ⟨ok2, fun k hk => ⟨(k1 k hk).1.1, (k1 k hk).2⟩, k2, ok, fun k hk => ⟨⟨(h1 k hk).1, fun hk' => (k1 k hk').1.2 hk⟩, (h1 k hk).2⟩, h2, SepI.mono (fun k hk => ⟨⟨hk.1.1, hk.2⟩, hk.1.2⟩) k3⟩
  | trans _ _ ih1 ih2 => exact fun h => ih2 (ih1 h)
/-- Some of many: a list of items that a ghost tells. -/
def exT {β : Type} (base : Nat) (f : β → List (Thing base)) : Thing base where
  P := fun w ok => ∃ b, SepI base w (f b) (fun k => ok k ∧ ∃ o, w.heap[k]? = some o)
  mono := fun h hp => hp.elim fun b hb => ⟨b, SepI.mono (fun k hk => ⟨h k hk.1, hk.2⟩) hb⟩
  bound := fun hp => hp.elim fun b hb => ⟨b, SepI.mono (fun k hk => ⟨⟨hk.1.1, hk.2⟩, hk.1.2⟩) (SepI.low hb)⟩
  move := fun {w w1 ok} h hp => hp.elim fun b hb => ⟨b, by
    have key : ∀ {L : List (Thing base)} {F : Nat → Prop}, (∀ k, F k → w1.heap[k]? = w.heap[k]? ∧ ∃ o, w.heap[k]? = some o) → SepI base w L F → SepI base w1 L F := by
      intro L
      induction L with
      | nil => exact fun _ _ => trivial
      | cons i l ih =>
        rintro F hF ⟨ok, h1, h2, h3⟩
        refine ⟨ok, fun k hk => ⟨(h1 k hk).1, (h1 k hk).2.1, ?_⟩, i.move (fun k hk => (hF k (h1 k hk).1).1) h2, ih (fun k hk => hF k hk.1) h3⟩
        obtain ⟨e, o, ho⟩ := hF k (h1 k hk).1
        exact (Array.getElem?_eq_some_iff.1 (e.trans ho)).1
    refine SepI.mono (fun k hk => ⟨hk.1, ?_⟩) (key (fun k hk => ⟨h k hk.1, hk.2⟩) hb)
    obtain ⟨o, ho⟩ := hk.2
    exact ⟨o, (h k hk.1).trans ho⟩⟩
theorem SepI.append {base : Nat} {w : World} : ∀ {A B : List (Thing base)} {F : Nat → Prop}, SepI base w (A ++ B) F ↔ ∃ ok : Nat → Prop, (∀ k, ok k → F k ∧ base ≤ k ∧ k < w.heap.size) ∧ SepI base w A ok ∧ SepI base w B (fun k => F k ∧ ¬ ok k)
  | [], B, F => ⟨fun h => ⟨fun _ => False, fun _ h => h.elim, trivial, SepI.mono (fun k hk => ⟨hk, id⟩) h⟩, fun ⟨_, _, _, h⟩ => SepI.mono (fun _ hk => hk.1) h⟩
  | a :: A, B, F => ⟨fun ⟨ok, h1, h2, h3⟩ => by
      obtain ⟨ok2, k1, k2, k3⟩ := SepI.append.1 h3
      exact ⟨fun k => ok k ∨ ok2 k, fun k hk => hk.elim (h1 k) (fun hk => ⟨(k1 k hk).1.1, (k1 k hk).2⟩), ⟨ok, fun k hk => ⟨.inl hk, (h1 k hk).2⟩, h2, SepI.mono (fun k hk => ⟨.inr hk, (k1 k hk).1.2⟩) k2⟩, SepI.mono (fun k hk => ⟨hk.1.1, fun h => h.elim hk.1.2 hk.2⟩) k3⟩,
    fun ⟨ok, h1, ⟨ok2, k1, k2, k3⟩, h3⟩ => ⟨ok2, fun k hk => h1 k (k1 k hk).1, k2, SepI.append.2 ⟨fun k => ok k ∧ ¬ ok2 k, fun k hk => ⟨⟨(h1 k hk.1).1, hk.2⟩, (h1 k hk.1).2⟩, k3, SepI.mono (fun k hk => ⟨⟨hk.1, fun h => hk.2 (k1 k h).1⟩, fun h => hk.2 h.1⟩) h3⟩⟩⟩
namespace Sep
variable {w0 w w1 : World} {L : List (Thing w0.heap.size)}
theorem perm {L' : List (Thing w0.heap.size)} (S : Sep w0 w L) (h : L.Perm L') : Sep w0 w L' := ⟨S.below, SepI.perm h S.items⟩
theorem comm {A B : List (Thing w0.heap.size)} (S : Sep w0 w (A ++ B)) : Sep w0 w (B ++ A) := S.perm List.perm_append_comm
/-- A new block of any make. -/
theorem newBlk (S : Sep w0 w L) (o : Obj) : Sep w0 (w.alloc o) (Blk _ w.heap.size o :: L) :=
  S.new (below_alloc (Below.refl _ _) _) ⟨Nat.le_refl _, S.size, World.alloc_heap_new w o⟩
/-- A block's object is turned. -/
theorem put {g : Nat} {o : Obj} (S : Sep w0 w L) (n : Nat) (h : L[n]? = some (Blk _ g o)) (o' : Obj) : Sep w0 (w.putObj g o') (L.set n (Blk _ g o')) := by
  obtain ⟨ok, h1, hp, hu⟩ := SepI.upd n S.items h
  have hlt := (Array.getElem?_eq_some_iff.1 hp.2.2).1
  refine ⟨S.below.grown (grownBy_putObj' w g o') S.size (fun k e => by cases e; exact hp.2.1), hu _ _ (by simp) (fun k _ _ hk => World.putObj_heap_other (fun e => hk (e ▸ hp.1))) (fun _ _ => trivial) ⟨.inl hp.1, hp.2.1, World.putObj_heap_same hlt⟩⟩
theorem at_blk {g : Nat} {o : Obj} (S : Sep w0 w L) (n : Nat) (h : L[n]? = some (Blk _ g o)) : w.heap[g]? = some o := by
  obtain ⟨ok, hp⟩ := SepI.get n S.items h
  exact hp.2.2
/-- What one of many is. -/
theorem ex_open {β : Type} {f : β → List (Thing w0.heap.size)} (S : Sep w0 w (exT _ f :: L)) : ∃ b, Sep w0 w (f b ++ L) := by
  obtain ⟨hb, ok, h1, ⟨b, h2⟩, h3⟩ := S
  exact ⟨b, hb, SepI.append.2 ⟨ok, h1, SepI.mono (fun _ hk => hk.1) h2, h3⟩⟩
theorem _root_.Go.Proofs.YtjpkkdnilfoafaaW.SepW.SepI.inHeap {base : Nat} {w : World} {L : List (Thing base)} {F : Nat → Prop} (h : SepI base w L F) : SepI base w L (fun k => F k ∧ ∃ o, w.heap[k]? = some o) :=
  SepI.mono (fun _ hk => ⟨hk.1, ⟨_, Array.getElem?_eq_getElem hk.2.2⟩⟩) (SepI.low h)
theorem ex_shut {β : Type} {f : β → List (Thing w0.heap.size)} (b : β) (S : Sep w0 w (f b ++ L)) : Sep w0 w (exT _ f :: L) := by
  obtain ⟨hb, h⟩ := S
  obtain ⟨ok, h1, h2, h3⟩ := SepI.append.1 h
  exact ⟨hb, ok, h1, ⟨b, SepI.inHeap h2⟩, h3⟩
end Sep
/-- A list of operations without a defer, walked as everywhere, inside a round. -/
def noDefer (l : List Oper) : Bool := l.all fun o => match o.op with | .defer _ => false | _ => true
theorem upon_in {l m : Nat} {P : Program} {o : Oper} {a : Act} {next next' : Act → World → Prop} {Q : Exit → Act → World → Prop} (hn : ∀ a w, next a w → next' a w) {r : Result Next} (h : o.upon P a next Q r) : o.uponIn (Fence.wide.inRound l) m P a next' Q r := by
  unfold Oper.upon at h
  unfold Oper.uponIn
  split at h
  · exact hn _ _ h
  · exact hn _ _ h
  · exact hn _ _ h
  · refine ⟨fun h => absurd (show false = true from h) (by decide), ?_⟩
    refine CallsIn.inRound l (callsIn_wide.2 (h.mono ?_))
    intro e w hw
    cases e with
    | returned v => exact hn _ _ hw
    | panicked c => exact hw
    | outgrown => exact hw
  · refine ⟨fun h => absurd (show false = true from h) (by decide), ?_⟩
    intro c cs _
    obtain ⟨v, w', hr, hs⟩ := h c cs
    exact ⟨v, w', hn _ _ hr, stepsIn_wide.2 hs⟩
  · exact h
  · exact h.elim
theorem list_in {l m : Nat} {P : Program} {ops : Array Oper} {Q : Exit → Act → World → Prop} (hQ : ¬ LetsOut Q) : ∀ (r : List Oper) (a : Act) (w : World), noDefer r = true → wpList P ops Q r a w → wpListIn (Fence.wide.inRound l) m P ops Q r a w
  | [], _, _, _, h => h
  | o :: r, a, w, hd, h => by
    unfold noDefer at hd
    rw [List.all_cons, Bool.and_eq_true] at hd
    unfold wpList at h
    unfold wpListIn
    split
    · rename_i hw
      rw [if_pos hw] at h
      rcases h with h | h
      · refine ⟨fun _ _ => trivial, ?_⟩
        rw [Oper.semAt_eq _ _ _ (by intro c hc; rw [hc] at hd; simp at hd)]
        exact upon_in (fun a w hk => list_in hQ r a w hd.2 hk) h
      · exact (hQ h.2).elim
    · rename_i hw
      rw [if_neg hw] at h
      exact ⟨fun _ _ => trivial, list_in hQ r _ w hd.2 h⟩
/-- A region in a round, walked as everywhere. -/
theorem wpIn_region_plain {l m : Nat} {P : Program} {id : Nat} {r : List Oper} {Q : Exit → Act → World → Prop} {a : Act} {w : World} (hd : noDefer r = true) (hQ : ¬ LetsOut Q) (h : wpList P r.toArray Q r a w) : (Code.region id r.toArray false).wpIn (Fence.wide.inRound l) m P Q a w :=
  wpIn_region_lit (list_in hQ r a w hd h)
/-- What an iterator over xs is asked: it reads and turns M, whatever else lies beside it; each round turns L pre to L (pre ++ [x]). -/
def SeqSep {α : Type} (F : Fence) (n : Nat) (P : Program) (gf : Nat) (lb : Array Value) (encs : α → Array Value) (xs : List α) (w0 : World) (M M1 : List (Thing w0.heap.size)) : Prop :=
  ∀ (l : Nat) (L : List α → List (Thing w0.heap.size)),
    (∀ pre x, (pre ++ [x]) <+: xs → ∀ W M', Sep w0 W (M' ++ L pre) → YieldAt F (n - 1) P l (encs x) W fun e W' => e = .returned (.bool true) ∧ Sep w0 W' (M' ++ L (pre ++ [x]))) →
    ∀ W, Sep w0 W (M ++ L []) → CallsIn F n P gf (#[.func (.yield l) #[] #[]] ++ lb) W fun e W' => (∃ v, e = .returned v) ∧ Sep w0 W' (M1 ++ L xs)
variable {F : Fence} {n : Nat} {P : Program}
/-- How a round's body may be left. -/
def okPost (R : World → Prop) : Exit → Act → World → Prop
  | .normal, _, W => R W
  | _, _, _ => False
theorem okPost_out (R : World → Prop) : ¬ LetsOut (okPost R) := fun ⟨_, _, h⟩ => h
theorem then_out {K : Act → World → Prop} {Q : Exit → Act → World → Prop} (h : ¬ LetsOut Q) : ¬ LetsOut (Exit.then K Q) := h
theorem block_out {i : Nat} {Q : Exit → Act → World → Prop} (h : ¬ LetsOut Q) : ¬ LetsOut (Exit.inBlock i Q) := h
/-- **The loop over a function, over what the caller holds of its own.** -/
theorem wpIn_rangeFunc_sep {α β : Type} {g : Operand} {ps : Array Tmp} {assign body : Code} {Q : Exit → Act → World → Prop} {a : Act} {w w0 : World}
    (hro : F.round = none) (h1 : 1 ≤ n) {gf : Nat} {lb : Array Value} (hg : a.eval g = .func (.func gf) #[] lb) (hFg : F.fn gf) (eg : ∀ args w, (callFunc gf args).run P w = .ok (.enter gf args) w)
    {encs : α → Array Value} {xs : List α} {M M1 : List (Thing w0.heap.size)} (hseq : SeqSep F (n - 1) P gf lb encs xs w0 M M1) (hps : ∀ x, (encs x).size = ps.size)
    (L : List α → List (Thing w0.heap.size)) (S : Sep w0 w (M ++ L [])) (Ax : β → α → Act) (Lx : β → α → List (Thing w0.heap.size))
    (hassign : ∀ (l : Nat) (pre : List α) (x : α) (W : World) (M' : List (Thing w0.heap.size)) (K : Act → World → Prop), (pre ++ [x]) <+: xs → Sep w0 W (L pre ++ M') → (∀ b W', Sep w0 W' (Lx b x ++ (L pre ++ M')) → K (Ax b x) W') →
      assign.wpIn (F.inRound l) (n - 1 - 1) P (Exit.then K (fun _ _ _ => False)) { tmps := (ps.zip (encs x)).foldl (fun t (p, v) => t.setIfInBounds p v) a.tmps, defers := [] } W)
    (hbody : ∀ (l : Nat) (pre : List α) (x : α) (b : β) (W : World) (M' : List (Thing w0.heap.size)), (pre ++ [x]) <+: xs → Sep w0 W (Lx b x ++ (L pre ++ M')) → body.wpIn (F.inRound l) (n - 1 - 1) P (okPost fun W' => Sep w0 W' (L (pre ++ [x]) ++ M')) (Ax b x) W)
    (hdone : ∀ (D : Nat) (W : World), Sep w0 W (Blk _ D (.deferred (some [])) :: (M1 ++ L xs)) → Q .normal { a with defers := { target := .collected D, args := #[] } :: a.defers } W) :
    (Code.rangeFunc g ps assign body).wpIn F n P Q a w := by
  refine wpIn_rangeFunc ?_
  intro fn hfn
  rw [hro]
  obtain ⟨rec, hrec⟩ : ∃ rec : LoopState → Option Code → Loop, rec = fun st pe => { state := st, pending := pe, fn, tmps := a.tmps, params := ps, assign, body, defers := w.heap.size } := ⟨_, rfl⟩
  obtain ⟨W1, hW1⟩ : ∃ W1, (w.alloc (.deferred (some []))).alloc (.loop (rec .ready none)) = W1 := ⟨_, rfl⟩
  have S1 : Sep w0 W1 (Blk _ (w.heap.size + 1) (.loop (rec .ready none)) :: Blk _ w.heap.size (.deferred (some [])) :: (M ++ L [])) := by
    rw [← hW1]
    have := (S.newBlk (.deferred (some []))).newBlk (.loop (rec .ready none))
    rwa [World.size_alloc] at this
  refine ⟨w.heap.size + 1, [{ target := .collected w.heap.size, args := #[] }], W1, { target := .fn (.func gf) lb, args := #[.func (.yield (w.heap.size + 1)) #[] #[]] }, W1, gf,
    #[.func (.yield (w.heap.size + 1)) #[] #[]] ++ lb, W1, ?_, ?_, ?_, ?_, fun _ => h1, ?_⟩
  · rw [← hW1, hrec]; exact run_enterLoop_outer _ _ _ _ _
  · simp only [resolve, hg]
    simp [go_sem]
  · intro f' hf'; simp [Target.leads] at hf'; subst hf'; exact hFg
  · simp [invoke, go_sem, eg]
  · refine (hseq (w.heap.size + 1) (fun pre => Blk _ (w.heap.size + 1) (.loop (rec .ready none)) :: Blk _ w.heap.size (.deferred (some [])) :: L pre) ?_ W1 (S1.perm ?_)).mono ?_
    · intro pre x hpre W M' SW
      have SB := SW.comm
      rw [List.cons_append] at SB
      have hl := SB.at_blk 0 rfl
      have hy := run_yield (P := P) (args := encs x) hl (by rw [hrec]; exact hps x)
      rw [hrec] at hy
      refine ⟨fn, _, assign, body, hy, roundIn_of_wpIn hfn (hassign _ pre x W (Blk _ (w.heap.size + 1) (.loop (rec .ready none)) :: Blk _ w.heap.size (.deferred (some [])) :: M') _ hpre (SW.perm ?_) ?_)⟩
      · refine List.perm_append_comm.trans ?_
        rw [List.cons_append, List.cons_append]
        refine (List.Perm.trans ?_ List.perm_append_comm.symm)
        rw [List.cons_append, List.cons_append]
        exact .cons _ (.cons _ List.perm_append_comm)
      · clear hy hl SB
        intro b W2 S2
        have S3 : Sep w0 W2 (Blk _ (w.heap.size + 1) (.loop (rec .ready none)) :: (Lx b x ++ (L pre ++ (Blk _ w.heap.size (.deferred (some [])) :: M')))) := S2.perm (by
          rw [← List.append_assoc, ← List.append_assoc]
          exact List.perm_middle)
        have hl3 := S3.at_blk 0 rfl
        refine ⟨_, run_beginRound hl3 (by rw [hrec]), ?_⟩
        have S4 := S3.put 0 rfl (.loop { rec .ready none with state := .busy })
        rw [List.set_cons_zero] at S4
        refine wpIn_mono (hbody _ pre x b _ (Blk _ (w.heap.size + 1) (.loop { rec .ready none with state := .busy }) :: Blk _ w.heap.size (.deferred (some [])) :: M') hpre (S4.perm (by
          rw [← List.append_assoc, ← List.append_assoc]
          exact List.perm_middle.symm))) ?_
        rintro e a3 W3 hp
        cases e with
        | normal =>
          have S5 : Sep w0 W3 (Blk _ (w.heap.size + 1) (.loop { rec .ready none with state := .busy }) :: (L (pre ++ [x]) ++ (Blk _ w.heap.size (.deferred (some [])) :: M'))) := Sep.perm (show Sep w0 W3 (L (pre ++ [x]) ++ (Blk _ (w.heap.size + 1) (.loop { rec .ready none with state := .busy }) :: Blk _ w.heap.size (.deferred (some [])) :: M')) from hp) List.perm_middle
          have hr := run_endRound (P := P) none (S5.at_blk 0 rfl)
          have S6 := S5.put 0 rfl (.loop (rec .ready none))
          rw [List.set_cons_zero] at S6
          refine ⟨_, _, hr, ⟨rfl, ?_⟩⟩
          rw [hrec] at S6 ⊢
          refine S6.perm ?_
          refine List.Perm.trans (.cons _ List.perm_middle) ?_
          refine List.Perm.trans ?_ List.perm_append_comm
          rw [List.cons_append, List.cons_append]
        | ret => exact hp.elim
        | exit id => exact hp.elim
        | goto t => exact hp.elim
        | panic ch => exact hp.elim
        | outgrown => exact hp.elim
    · refine List.Perm.trans ?_ List.perm_append_comm
      rw [List.cons_append, List.cons_append]
      exact .cons _ (.cons _ List.perm_append_comm)
    · rintro e W2 ⟨⟨v, rfl⟩, S2⟩
      have S3 : Sep w0 W2 (Blk _ (w.heap.size + 1) (.loop (rec .ready none)) :: Blk _ w.heap.size (.deferred (some [])) :: (M1 ++ L xs)) := S2.perm (by
        refine List.perm_append_comm.trans ?_
        rw [List.cons_append, List.cons_append]
        exact .cons _ (.cons _ List.perm_append_comm))
      have hl := S3.at_blk 0 rfl
      refine ⟨none, _, by have := run_endLoop (P := P) hl (by rw [hrec]; simp); rw [hrec] at this; exact this, ?_⟩
      exact hdone w.heap.size _ (Sep.drop (L := Blk _ _ _ :: Blk _ w.heap.size (.deferred (some [])) :: (M1 ++ L xs)) (S3.put 0 rfl _) 0)
end Go.Proofs.YtjpkkdnilfoafaaW.SepW
end
section
namespace Go.Proofs.Ytjpkkdnilfoafaa.Hand
open Go.Proofs.YtjpkkdnilfoafaaW Go.RowKit Go.Proofs.YtjpkkdnilfoafaaW.PrintWords Go.Proofs.YtjpkkdnilfoafaaW.PrintLast Go.Proofs.YtjpkkdnilfoafaaW.PrintMore Go.Proofs.YtjpkkdnilfoafaaW.SepW Go.Proofs.Ytjpkkdnilfoafaa.PALL
set_option linter.unusedVariables false
set_option linter.unusedSimpArgs false
attribute [local go_sem] Oper.semAt_some
attribute [local go_sem] max2_int min2_int max_two min_two max_three min_three max_four min_four
set_option maxHeartbeats 4000000 in
set_option maxRecDepth 100000 in
theorem chunk_ct (A : Option Addr) (n c : Nat) (fan : Nat) (hf : 1 ≤ fan) (w : World) :
    Calls Try.prog 63 #[.slice A n c, .int .i64 (fan : Int)] w fun e w' => e = .returned (.func (.func 88) #[] #[.pointer (some ⟨w.heap.size, 0, none⟩), .pointer (some ⟨w.heap.size + 1, 0, none⟩)]) ∧ w' = (w.alloc (.cells #[.slice A n c] 85)).alloc (.cells #[.int .i64 (fan : Int)] 3) := by
  have d0 : decide ((fan : Int) < 1) = false := decide_eq_false (by omega)
  have d1 : decide (fan < 1) = false := decide_eq_false (by omega)
  go_enter Try.func63, Try.ntmps63
  go_wp2
  go_ret
  exact ⟨rfl, rfl⟩
/-- The number of the chunk. -/
def ck (n fan x : Nat) : Nat := if x * fan < n then x else 0
/-- The chunk's length. -/
def cl (n fan x : Nat) : Nat := min fan (n - x * fan)
/-- How many chunks. -/
def cn (n fan : Nat) : Nat := (n + fan - 1) / fan
/-- What a round keeps: the iterator's two boxes. -/
def KC (Bs Bf : Nat) (W W' : World) : Prop := W'.heap[Bs]? = W.heap[Bs]? ∧ W'.heap[Bf]? = W.heap[Bf]?
theorem KC.t {Bs Bf : Nat} {A B C : World} (h : KC Bs Bf A B) (k : KC Bs Bf B C) : KC Bs Bf A C := ⟨k.1.trans h.1, k.2.trans h.2⟩
def encC (b off n fan : Nat) (x : Nat) : Array Value := #[.slice (some ⟨b, off + ck n fan x * fan * 4, none⟩) (cl n fan (ck n fan x)) (cl n fan (ck n fan x))]
theorem cn_lt {n fan k : Nat} (hf : 1 ≤ fan) : k < cn n fan ↔ k * fan < n := by
  unfold cn
  rw [Nat.lt_div_iff_mul_lt (by omega)]
  omega
set_option maxHeartbeats 4000000 in
set_option maxRecDepth 100000 in
theorem chunk1_in (F : Fence) (m : Nat) (h76 : F.fn 88) (hro : F.round = none) (hm : 1 ≤ m) (l Bs Bf b off n cap fan : Nat) (hf : 1 ≤ fan) (hf2 : fan ≤ 1000000) (hn : n ≤ 1000000) (hcap : n ≤ cap) (J : Nat → World → Prop) (hJ : ∀ k W n, J k W → J k (W.drewN n))
    (hY : ∀ k W, J k W → k < cn n fan → YieldAt F (m - 1) Try.prog l (encC b off n fan k) W fun e W' => e = .returned (.bool true) ∧ J (k + 1) W' ∧ KC Bs Bf W W')
    (W : World) (hBs : W.cell? ⟨Bs, 0, none⟩ = some (.slice (some ⟨b, off, none⟩) n cap)) (hBf : W.cell? ⟨Bf, 0, none⟩ = some (.int .i64 (fan : Int))) (h0 : J 0 W) :
    CallsIn F m Try.prog 88 #[.func (.yield l) #[] #[], .pointer (some ⟨Bs, 0, none⟩), .pointer (some ⟨Bf, 0, none⟩)] W fun e W' => (∃ v, e = .returned v) ∧ J (cn n fan) W' := by
  have HC := Aside0.mk hcap
  have HN := Aside0.mk hn
  have HF := Aside0.mk hf
  have HF2 := Aside0.mk hf2
  clear hcap hn hf hf2
  refine callsIn_of_wp Try.func88 rfl h76 ?_ hro
  simp only [Try.ntmps88, List.size_toArray, List.length_cons, List.length_nil, Nat.reduceAdd, Nat.reduceSub, Array.replicate_succ, Array.replicate_zero, List.push_toArray, List.append_toArray, List.nil_append, List.cons_append]
  gi_wp2
  gi_loopw [4] (fun i wr => ∃ k : Nat, Aside0 (k ≤ cn n fan) ∧ i = .int .i64 ((k * fan : Nat) : Int) ∧ J k wr ∧ KC Bs Bf W wr)
    (fun i _ => (n + fan) - (intOf i).toNat)
  case atStart => exact ⟨0, ⟨Nat.zero_le _⟩, by rw [Nat.zero_mul]; rfl, h0, ⟨rfl, rfl⟩⟩
  case round =>
    obtain ⟨k, hk, rfl, hJs, hnx⟩ := hrel
    have hB1 := (World.cell?_of_block (a := ⟨Bs, 0, none⟩) hnx.1).trans hBs
    have hB2 := (World.cell?_of_block (a := ⟨Bf, 0, none⟩) hnx.2).trans hBf
    by_cases hlt : k * fan < n
    · have HK := Aside0.mk hlt
      obtain ⟨K, hK⟩ : ∃ K, K = k * fan := ⟨_, rfl⟩
      rw [← hK] at hlt ⊢
      have HKK := Aside0.mk hK
      clear hK
      have d1 : decide ((K : Int) < (n : Int)) = true := decide_eq_true (by omega)
      have d1' : decide (K < n) = true := decide_eq_true (by omega)
      have c1 : (0 : Int) ≤ (K : Int) := by omega
      have c2 : (K : Int) ≤ (n : Int) := by omega
      have c3 : K ≤ n := by omega
      have c4 : n ≤ cap := HC.out
      gi_wp2
      refine wpIn_region_quiet_lit hro (by kernel_rfl) (by kernel_rfl) ?_
      repeat (quiet_step_in (fail))
      refine wpQuietIn_nil ?_
      intro w_ hw_
      obtain ⟨nq, hw2⟩ := hw_
      subst hw2
      obtain ⟨E, hE⟩ : ∃ E : Nat, E = cl n fan k := ⟨_, rfl⟩
      have hE2 : (if n - K < fan then ((n - K : Nat) : Int) else (fan : Int)) = (E : Int) := by
        rw [hE]; unfold cl; rw [← HKK.out]; split <;> omega
      have hE3 : K + E ≤ n ∧ 1 ≤ E := by rw [hE]; unfold cl; rw [← HKK.out]; have := HF.out; omega
      rw [hE2]
      have hne : ¬ cap = K := by omega
      rw [if_neg hne]
      have HE := Aside0.mk hE
      have HE3 := Aside0.mk hE3
      have f2 : (K : Int) ≤ ((K + E : Nat) : Int) := by omega
      have f3 : ((K + E : Nat) : Int) ≤ (cap : Int) := by omega
      have f4 : K ≤ K + E := by omega
      have f5 : K + E ≤ cap := by omega
      have f6 : ¬ K + E = K := by omega
      clear hE hE2 hE3 hne
      have F1 : Aside0 (wrap64 ((K : Int) + (E : Int)) = ((K + E : Nat) : Int)) := ⟨by rw [IntWalk.wrap64_in _ (by have := HN.out; have := HE3.out; omega)]; omega⟩
      have F7 : Aside0 (wrap64 ((K : Int) + (fan : Int)) = ((K + fan : Nat) : Int)) := ⟨by rw [IntWalk.wrap64_in _ (by have := HN.out; have := HF2.out; omega)]; omega⟩
      have hR0 := hY k (wr.drewN nq) (hJ _ _ nq hJs) ((cn_lt HF.out).2 HK.out)
      have hen : encC b off n fan k = #[.slice (some ⟨b, off + K * 4, none⟩) E E] := by
        unfold encC
        rw [show ck n fan k = k from if_pos HK.out, ← HE.out, HKK.out]
      rw [hen] at hR0
      clear hen
      obtain ⟨fn, tmps, assign, body, hy, hR⟩ := hR0
      have f1 := F1.out
      gi_wp2
      clear f1
      refine hR.mono ?_
      rintro e W3 ⟨rfl, hJ3, hk3⟩
      · have hB3 := (World.cell?_of_block (a := ⟨Bf, 0, none⟩) hk3.2).trans hB2
        have f7 := F7.out
        gi_wp2
        clear f7
        go_roundw
        case rel => exact ⟨k + 1, ⟨(cn_lt HF.out).2 HK.out⟩, by rw [F7.out, HKK.out, Nat.add_mul, Nat.one_mul], hJ3, hnx.t (show KC Bs Bf wr W3 from hk3)⟩
        case measure =>
          have h1 := HF.out
          rw [F7.out]
          show n + fan - (((K + fan : Nat) : Int)).toNat < n + fan - ((K : Int)).toNat
          rw [Int.toNat_natCast, Int.toNat_natCast]
          clear F1 F7 hR hy hJ3 hk3
          omega
    · have hkk : k = cn n fan := by
        have h1 := hk.out
        have h2 := mt (cn_lt HF.out (k := k) (n := n)).1 hlt
        omega
      have HN2 := Aside0.mk hlt
      obtain ⟨K, hK⟩ : ∃ K, K = k * fan := ⟨_, rfl⟩
      rw [← hK] at hlt ⊢
      have d1 : decide ((K : Int) < (n : Int)) = false := decide_eq_false (by omega)
      have d1' : decide (K < n) = false := decide_eq_false (by omega)
      clear hK
      gi_wp2
      go_end0
      exact ⟨⟨_, rfl⟩, hkk ▸ hJs⟩
/-- slices.Chunk's iterator, over what the caller holds. -/
theorem chunk_seq (m : Nat) {w0 : World} (Bs Bf b off n cap fan : Nat) (hm : 1 ≤ m) (hf : 1 ≤ fan) (hf2 : fan ≤ 1000000) (hn : n ≤ 1000000) (hcap : n ≤ cap) :
    SeqSep Fence.wide m Try.prog 88 #[.pointer (some ⟨Bs, 0, none⟩), .pointer (some ⟨Bf, 0, none⟩)] (encC b off n fan) (List.range (cn n fan)) w0 [Box _ Bs 85 #[.slice (some ⟨b, off, none⟩) n cap], Box _ Bf 3 #[.int .i64 (fan : Int)]] [Box _ Bs 85 #[.slice (some ⟨b, off, none⟩) n cap], Box _ Bf 3 #[.int .i64 (fan : Int)]] := by
  intro l L hround W S
  have k0 := blk_cell (S.at_box 0 rfl) 0
  have k1 := blk_cell (S.at_box 1 rfl) 0
  refine (chunk1_in Fence.wide m trivial rfl hm l Bs Bf b off n cap fan hf hf2 hn hcap (fun k W => Sep w0 W ([Box _ Bs 85 #[.slice (some ⟨b, off, none⟩) n cap], Box _ Bf 3 #[.int .i64 (fan : Int)]] ++ L (List.range k))) (fun k W n h => h.drewN n) ?_ W k0 k1 S).mono ?_
  · rintro k W1 S1 hlt
    refine (hround (List.range k) k ?_ W1 _ S1).mono ?_
    · rw [← List.range_succ]
      refine ⟨(List.range (cn n fan)).drop (k + 1), ?_⟩
      have : List.range (k + 1) = (List.range (cn n fan)).take (k + 1) := by rw [List.take_range]; congr 1; omega
      rw [this, List.take_append_drop]
    · rintro e W' ⟨rfl, S2⟩
      rw [← List.range_succ] at S2
      exact ⟨rfl, S2, (S2.at_box 0 rfl).trans (S1.at_box 0 rfl).symm, (S2.at_box 1 rfl).trans (S1.at_box 1 rfl).symm⟩
  · rintro e W' ⟨hv, S1⟩
    exact ⟨hv, S1⟩
end Go.Proofs.Ytjpkkdnilfoafaa.Hand
end
section
namespace Go.Proofs.Ytjpkkdnilfoafaa.Plain
open Go.RowKit Go.Proofs.YtjpkkdnilfoafaaW.PrintWords Go.Proofs.YtjpkkdnilfoafaaW.PrintLast Go.Proofs.YtjpkkdnilfoafaaW.PrintMore Go.Proofs.Ytjpkkdnilfoafaa.PALL Go.Proofs.Ytjpkkdnilfoafaa.Hand
set_option linter.unusedVariables false
/-- A valid box. -/
def validB (b : S57) : Bool := decide (0 ≤ b.f0 ∧ b.f0 ≤ b.f2 ∧ b.f2 ≤ 32768 ∧ 0 ≤ b.f1 ∧ b.f1 ≤ b.f3 ∧ b.f3 ≤ 32768)
def joinB (a b : S57) : S57 := if validB a = true ∧ validB b = true then ⟨mn a.f0 b.f0, mn a.f1 b.f1, mx a.f2 b.f2, mx a.f3 b.f3⟩ else ⟨0, 0, 0, 0⟩
def meetsB (a b : S57) : Bool := validB a && validB b && decide (a.f0 ≤ b.f2 ∧ b.f0 ≤ a.f2 ∧ a.f1 ≤ b.f3 ∧ b.f1 ≤ a.f3)
theorem valid_f (b : S57) : grid_valid.f b.f0 b.f1 b.f2 b.f3 = some (validB b) := by
  unfold grid_valid.f validB
  (repeat' split) <;> simp only [Option.some.injEq] <;> (rw [eq_comm]; first | exact decide_eq_false (by omega) | (congr 1; simp; omega))
theorem join_f (a b : S57) : grid_Join.f a.f0 a.f1 a.f2 a.f3 b.f0 b.f1 b.f2 b.f3 = some ((joinB a b).f0, (joinB a b).f1, (joinB a b).f2, (joinB a b).f3) := by
  unfold grid_Join.f joinB
  rw [valid_f a, valid_f b]
  simp only [Option.bind_some]
  cases validB a <;> cases validB b <;> simp
/-- The box of a chunk. -/
def boxOf : List S57 → S57
  | [] => ⟨0, 0, 0, 0⟩
  | b :: l => l.foldl joinB b
/-- The boxes of the chunks. -/
def joinL (l : List S57) (fan : Nat) : List S57 := (List.range (cn l.length fan)).map (fun i => boxOf ((l.drop (i * fan)).take fan))
end Go.Proofs.Ytjpkkdnilfoafaa.Plain
end
section
namespace Go.Proofs.Ytjpkkdnilfoafaa.Hand
open Go.Proofs.YtjpkkdnilfoafaaW Go.RowKit Go.Proofs.YtjpkkdnilfoafaaW.PrintWords Go.Proofs.YtjpkkdnilfoafaaW.PrintLast Go.Proofs.YtjpkkdnilfoafaaW.PrintMore Go.Proofs.YtjpkkdnilfoafaaW.SepW Go.Proofs.Ytjpkkdnilfoafaa.PALL Go.Proofs.Ytjpkkdnilfoafaa.Plain
set_option linter.unusedVariables false
set_option linter.unusedSimpArgs false
attribute [local go_sem] Oper.semAt_some
def cB (b : S57) : Array Value := #[.int .i64 b.f0, .int .i64 b.f1, .int .i64 b.f2, .int .i64 b.f3]
theorem join_ct (a b : S57) (w : World) : Calls Try.prog 37 #[.agg #[.int .i64 a.f0, .int .i64 a.f1, .int .i64 a.f2, .int .i64 a.f3], .agg #[.int .i64 b.f0, .int .i64 b.f1, .int .i64 b.f2, .int .i64 b.f3]] w fun e w' => e = .returned (.agg #[.int .i64 (joinB a b).f0, .int .i64 (joinB a b).f1, .int .i64 (joinB a b).f2, .int .i64 (joinB a b).f3]) ∧ Below w.heap.size w w' :=
  grid_Join.calls _ _ _ _ _ _ _ _ _ _ _ _ w (join_f a b)
/-- The boxes of the first chunks. -/
def outJ (l : List S57) (fan : Nat) (ks : List Nat) : List S57 := ks.map (fun i => boxOf ((l.drop (i * fan)).take fan))
/-- What the loop holds: the variable and its row. -/
def LJ (base g : Nat) (l : List S57) (fan : Nat) (ks : List Nat) : List (Thing base) := [exT base (fun v : Value => [Box base g 85 #[v], YtjpkkdnilfoafaaW.SepW.Own base k57 57 v (outJ l fan ks)])]
theorem box_cells {w : World} {b off n : Nat} {l : List S57} (h : k57.C w (some ⟨b, off, none⟩) n l) (i : Nat) (hi : i < n) : w.cell? ⟨b, off + i * 4, none⟩ = some (.int .i64 (l.getD i z57).f0) ∧ w.cell? ⟨b, off + i * 4 + 1, none⟩ = some (.int .i64 (l.getD i z57).f1) ∧ w.cell? ⟨b, off + i * 4 + 2, none⟩ = some (.int .i64 (l.getD i z57).f2) ∧ w.cell? ⟨b, off + i * 4 + 3, none⟩ = some (.int .i64 (l.getD i z57).f3) := by
  obtain ⟨ad, he, h0, h1, h2, h3⟩ := at_T57 h (i : Int) (by omega) (by omega)
  injection he with he
  subst he
  have e : (⟨b, off, none⟩ : Addr).add (i * 4) = ⟨b, off + i * 4, none⟩ := by
    unfold Addr.add
    split <;> simp_all
  simp only [Int.toNat_natCast, e] at h0 h1 h2 h3
  exact ⟨h0, h1, h2, h3⟩
theorem wpIn_genS {F : Fence} {n : Nat} {P : Program} {c : Code} {Q : Exit → Act → World → Prop} {a : Act} {w0 w : World} {L : List (Thing w0.heap.size)} (S : Aside0 (SepW.Sep w0 w L)) (h : ∀ W, Aside0 (SepW.Sep w0 W L) → c.wpIn F n P Q a W) : c.wpIn F n P Q a w := h w S
theorem getD_get {l : List S57} {i : Nat} (h : i < l.length) : l.getD i z57 = l[i] := by rw [List.getD_eq_getElem?_getD, List.getElem?_eq_getElem h]; rfl
theorem cn_le {fan : Nat} (hf : 1 ≤ fan) (n : Nat) : cn n fan ≤ n := by
  rcases Nat.lt_or_ge n (cn n fan) with h | h
  · have := (cn_lt hf).1 h
    have := Nat.mul_le_mul_left n hf
    omega
  · exact h
theorem outJ_len {l : List S57} {fan : Nat} {pre : List Nat} {x n : Nat} (h : (pre ++ [x]) <+: List.range n) : (outJ l fan pre).length + 1 ≤ n := by
  have := h.length_le
  simp at this
  simp [outJ]
  omega
theorem chunk_box {l : List S57} {fan K E x : Nat} (hK : K = x * fan) (hE : E = cl l.length fan x) (h : K + E ≤ l.length ∧ 1 ≤ E) : ((l.drop (K + 1)).take (E - 1)).foldl joinB (l.getD K z57) = boxOf ((l.drop (x * fan)).take fan) := by
  have h1 : (l.drop (x * fan)).take fan = (l.drop K).take E := by
    rw [← hK, hE]
    unfold cl
    rw [← hK]
    apply List.ext_getElem?
    intro i
    rw [List.getElem?_take, List.getElem?_take]
    by_cases hi : i < fan
    · rw [if_pos hi]
      by_cases h2 : i < min fan (l.length - K)
      · rw [if_pos h2]
      · rw [if_neg h2, List.getElem?_drop, List.getElem?_eq_none (by omega)]
    · rw [if_neg hi, if_neg (by omega)]
  obtain ⟨E2, hE2⟩ : ∃ E2, E = E2 + 1 := ⟨E - 1, by omega⟩
  subst hE2
  rw [h1, List.drop_eq_getElem_cons (i := K) (by omega), List.take_succ_cons, getD_get (by omega)]
  rfl
theorem cell_lt {w : World} {b j : Nat} {v : Value} (h : w.cell? ⟨b, j, none⟩ = some v) : b < w.heap.size := by
  rcases Nat.lt_or_ge b w.heap.size with h1 | h1
  · exact h1
  · unfold World.cell? at h
    rw [Array.getElem?_eq_none h1] at h
    cases h
set_option maxHeartbeats 4000000 in
set_option maxRecDepth 100000 in
theorem join_walk (tp : Nat) (b off cap fan : Nat) (l : List S57) (hf : 1 ≤ fan) (hf2 : fan ≤ 1000000) (hn : l.length ≤ 1000000) (hcap : l.length ≤ cap) (h0 : 0 < l.length) (w : World) (hT : w.cell? ⟨tp, 0, none⟩ = some (.int .i64 (fan : Int))) (hC : k57.C w (some ⟨b, off, none⟩) l.length l) :
    Calls Try.prog 47 #[.pointer (some ⟨tp, 0, none⟩), .slice (some ⟨b, off, none⟩) l.length cap] w fun e w' => ∃ v, e = .returned v ∧ k57.R 57 w' w.heap.size (fun _ => True) v (joinL l fan) ∧ Below w.heap.size w w' := by
  have S := Aside0.mk (Sep.start w)
  have HC := Aside0.mk hC
  have HN := Aside0.mk hn
  have HCAP := Aside0.mk hcap
  have HF := Aside0.mk hf
  have HF2 := Aside0.mk hf2
  have H0 := Aside0.mk h0
  have HTL := Aside0.mk (show tp < w.heap.size from cell_lt hT)
  clear hC hn hcap hf hf2 h0
  refine (callsIn_wide (n := 9)).1 ?_
  refine callsIn_of_wp_marks Try.func47 rfl trivial ?_ rfl
  simp only [Try.ntmps47, List.size_toArray, List.length_cons, List.length_nil, Nat.reduceAdd, Nat.reduceSub, Array.replicate_succ, Array.replicate_zero, List.push_toArray, List.append_toArray, List.nil_append, List.cons_append]
  refine wpIn_wide.2 ?_
  go_wp2_with (first | ((with_reducible refine gate_dst (N := 5) rfl ?_); refine box_event ?hg (N := 5) ?hd (cs := #[.slice none 0 0]) (t := 85) ?hr ?_; (case hd => rfl); (case hg => rfl); (case hr => first | (go_simp; done) | (go_simp; rfl)); intro g5 hg w5 hbox hb; replace S := Aside0.mk (S.out.box hg hbox hb); have k5_0 := blk_cell hbox 0; simp only [List.getElem?_toArray, List.getElem?_cons_zero, List.getElem?_cons_succ] at k5_0; clear hbox hb hg; have hT5 := (S.out.below.cell (p := ⟨tp, 0, none⟩) HTL.out).trans hT) | (go_at_call 63; have X_ := chunk_ct (some ⟨b, off, none⟩) l.length cap fan HF.out w5; (with_reducible refine X_.mono ?_); clear X_; rintro e_ w15 ⟨rfl, hw_⟩; have S1 := (S.out.alloc #[.slice (some ⟨b, off, none⟩) l.length cap] 85).alloc #[.int .i64 (fan : Int)] 3; rw [← hw_, World.size_alloc] at S1; replace S := Aside0.mk S1; clear S1 hw_))
  refine (wpIn_wide (n := 9)).1 ?_
  have HP : Aside0 (SepW.Sep w _ ([Box _ w5.heap.size 85 #[.slice (some ⟨b, off, none⟩) l.length cap], Box _ (w5.heap.size + 1) 3 #[.int .i64 (fan : Int)]] ++ LJ _ g5 l fan [])) := ⟨by
    have S2 := (S.out.perm (L' := [Box _ g5 85 #[.slice none 0 0], Box _ w5.heap.size 85 #[.slice (some ⟨b, off, none⟩) l.length cap], Box _ (w5.heap.size + 1) 3 #[.int .i64 (fan : Int)]]) (by
      refine (List.perm_append_comm (l₁ := [Box _ (w5.heap.size + 1) 3 #[.int .i64 (fan : Int)], Box _ w5.heap.size 85 #[.slice (some ⟨b, off, none⟩) l.length cap]]) (l₂ := [Box _ g5 85 #[.slice none 0 0]])).trans ?_
      exact .cons _ (.swap _ _ _))).nil k57 57
    exact (SepW.Sep.ex_shut (f := fun v : Value => [Box _ g5 85 #[v], YtjpkkdnilfoafaaW.SepW.Own _ k57 57 v (outJ l fan [])]) (.slice none 0 0) S2.swap).comm⟩
  generalize w5.heap.size = g14 at HP ⊢
  clear S
  refine wpIn_rangeFunc_sep rfl (by decide) (gf := 88) (lb := #[.pointer (some ⟨g14, 0, none⟩), .pointer (some ⟨g14 + 1, 0, none⟩)]) rfl trivial (enters_of Try.func88 (by kernel_rfl) rfl)
    (chunk_seq 8 g14 (g14 + 1) b off l.length cap fan (by decide) HF.out HF2.out HN.out HCAP.out) (fun _ => rfl) (LJ _ g5 l fan) HP.out (β := Unit) (fun _ x => { tmps := #[.pointer (some ⟨tp, 0, none⟩), .slice (some ⟨b, off, none⟩) l.length cap, undef, undef, .slice none 0 0, .pointer (some ⟨g5, 0, none⟩), .slice (some ⟨b, off + ck l.length fan x * fan * 4, none⟩) (cl l.length fan (ck l.length fan x)) (cl l.length fan (ck l.length fan x)), undef, undef, undef, .slice (some ⟨b, off, none⟩) l.length cap, .pointer (some ⟨tp, 0, none⟩), .pointer (some ⟨tp, 0, none⟩), .pointer (some ⟨tp, 0, none⟩), .int .i64 (fan : Int), .func (.func 88) #[] #[.pointer (some ⟨g14, 0, none⟩), .pointer (some ⟨g14 + 1, 0, none⟩)], .slice (some ⟨b, off + ck l.length fan x * fan * 4, none⟩) (cl l.length fan (ck l.length fan x)) (cl l.length fan (ck l.length fan x)), undef, undef, undef, undef, undef, undef, undef, undef, undef, undef, undef, undef, undef, undef, undef, undef, undef, undef, undef], defers := [] }) (fun _ _ => []) ?assign ?body ?done
  case assign =>
    intro l_ pre x W M' K hp hS hK
    unfold encC
    gi_wp2
    exact hK () _ hS
  case body =>
    intro l_ pre x u_ W M' hp hS
    obtain ⟨hx, hlt⟩ : x = pre.length ∧ x * fan < l.length := by
      obtain ⟨t, ht⟩ := hp
      have h1 := congrArg (fun z => z[pre.length]?) ht
      simp only [List.append_assoc, List.singleton_append] at h1
      rw [List.getElem?_append_right (Nat.le_refl _), Nat.sub_self, List.getElem?_cons_zero] at h1
      have h2 := (List.getElem?_eq_some_iff.1 h1.symm)
      obtain ⟨h3, h4⟩ := h2
      rw [List.getElem_range] at h4
      rw [List.length_range] at h3
      exact ⟨h4.symm, (cn_lt HF.out).1 (h4 ▸ h3)⟩
    have hck : ck l.length fan x = x := if_pos hlt
    rw [hck]
    obtain ⟨v, S1⟩ := SepW.Sep.ex_open hS
    have S := Aside0.mk S1
    clear hS S1
    obtain ⟨K, hK⟩ : ∃ K, K = x * fan := ⟨_, rfl⟩
    obtain ⟨E, hE⟩ : ∃ E : Nat, E = cl l.length fan x := ⟨_, rfl⟩
    have hE3 : K + E ≤ l.length ∧ 1 ≤ E := by rw [hE]; unfold cl; rw [← hK]; have := HF.out; omega
    have HE3 := Aside0.mk hE3
    rw [← hK, ← hE]
    have HK := Aside0.mk hK
    have HE := Aside0.mk hE
    have HX := Aside0.mk hx
    have HP2 := Aside0.mk hp
    have e0 : (0 : Int) ≤ 0 := by omega
    have e1 : (0 : Int) < (E : Int) := by omega
    have e2 : 0 < E := by omega
    clear hp hx hlt hck hK hE hE3
    obtain ⟨A, nv, c, ev⟩ := R_form (S.out.at_own 1 rfl)
    subst ev
    refine wpIn_block ?_
    apply wpIn_seq_k
    intro _ _
    refine wpIn_region_plain rfl (by exact then_out (block_out (okPost_out _))) ?_
    obtain ⟨r0, r1, r2, r3⟩ := box_cells (Kd.C_below HC.out S.out.below) K (by have := HE3.out; omega)
    obtain ⟨B0, hB0⟩ : ∃ B0, B0 = l.getD K z57 := ⟨_, rfl⟩
    rw [← hB0] at r0 r1 r2 r3
    have HB0 := Aside0.mk hB0
    clear hB0
    go_wp2_with (first | ((with_reducible refine gate_dst (N := 7) rfl ?_); refine box_event ?hg (N := 7) ?hd (cs := #[.int .i64 0, .int .i64 0, .int .i64 0, .int .i64 0]) (t := 57) ?hr ?_; (case hd => rfl); (case hg => rfl); (case hr => first | (go_simp; done) | (go_simp; rfl)); intro g7 hg w7 hbox hb; replace S := Aside0.mk (show Sep _ _ (Box _ g7 57 #[.int .i64 B0.f0, .int .i64 B0.f1, .int .i64 B0.f2, .int .i64 B0.f3] :: _) from ((((S.out.box hg hbox hb).set 0 rfl 0 (.int .i64 B0.f0)).set 0 rfl 1 (.int .i64 B0.f1)).set 0 rfl 2 (.int .i64 B0.f2)).set 0 rfl 3 (.int .i64 B0.f3)); have z7_0 := blk_cell hbox 0; have y7_0 := blk_frozen hbox 0; have z7_1 := blk_cell hbox 1; have y7_1 := blk_frozen hbox 1; have z7_2 := blk_cell hbox 2; have y7_2 := blk_frozen hbox 2; have z7_3 := blk_cell hbox 3; have y7_3 := blk_frozen hbox 3; simp only [List.getElem?_toArray, List.getElem?_cons_zero, List.getElem?_cons_succ] at z7_0 z7_1 z7_2 z7_3; clear hbox hb hg r0 r1 r2 r3) | (first | ((with_reducible refine wpIn_region_plain ?hd ?hq ?_); (case hd => rfl); (case hq => (intro hh; obtain ⟨_, _, hh⟩ := hh; exact hh))) | gi_step))
    · 
      clear z7_0 z7_1 z7_2 z7_3 y7_0 y7_1 y7_2 y7_3
      refine wpIn_genS S (fun W1 S1 => ?_)
      clear S
      gi_loopw [23] (fun i wr => ∃ k : Nat, Aside0 (k ≤ 1 - 1) ∧ i = .int .i64 (k : Int) ∧ Aside0 (SepW.Sep w wr (Box _ g7 57 (cB (((l.drop (K + 1)).take k).foldl joinB B0)) :: Box _ g5 85 #[.slice A nv c] :: YtjpkkdnilfoafaaW.SepW.Own _ k57 57 (.slice A nv c) (outJ l fan pre) :: M')))
        (fun i _ => 1 - (intOf i).toNat)
      case atStart => exact ⟨0, ⟨Nat.zero_le _⟩, rfl, S1⟩
      case round =>
        obtain ⟨k, hk, rfl, S⟩ := hrel
        clear S1
        have d0 : decide ((k : Int) < 0) = false := decide_eq_false (by omega)
        have hkk : k = E - 1 := by have := hk.out; omega
        have hE1 : E = 1 := by assumption
        rw [hkk, HB0.out] at S
        have HKK := Aside0.mk hkk
        clear hkk
        rw [show cB (((l.drop (K + 1)).take (E - 1)).foldl joinB (l.getD K z57)) = cB (boxOf ((l.drop (x * fan)).take fan)) from by rw [chunk_box HK.out HE.out HE3.out]] at S
        obtain ⟨BB, hBB⟩ : ∃ BB, BB = boxOf ((l.drop (x * fan)).take fan) := ⟨_, rfl⟩
        rw [← hBB] at S
        have HBB := Aside0.mk hBB
        clear hBB
        have hout : outJ l fan (pre ++ [x]) = outJ l fan pre ++ [BB] := by rw [HBB.out]; exact List.map_append
        have HOUT := Aside0.mk hout
        clear hout
        unfold cB at S
        have k7_0 := blk_cell (S.out.at_box 0 rfl) 0; have k7_1 := blk_cell (S.out.at_box 0 rfl) 1; have k7_2 := blk_cell (S.out.at_box 0 rfl) 2; have k7_3 := blk_cell (S.out.at_box 0 rfl) 3; simp only [List.getElem?_toArray, List.getElem?_cons_zero, List.getElem?_cons_succ] at k7_0 k7_1 k7_2 k7_3
        have k5_0 := blk_cell (S.out.at_box 1 rfl) 0; have f5_0 := blk_frozen (S.out.at_box 1 rfl) 0; simp only [List.getElem?_toArray, List.getElem?_cons_zero, List.getElem?_cons_succ] at k5_0
        go_wp2_with (first | ((with_reducible refine gate_builtin (b := .append) (xs := #[.tmp 31, .tmp 33]) rfl ?_); at_builtin; obtain ⟨ok, hR, hnew, hup⟩ := S.out.append 2 rfl; refine Kd.R_append k57 (w0 := w) w.heap.size rfl (.tmp 31) (.tmp 33) 85 57 (.agg #[.int .i64 0, .int .i64 0, .int .i64 0, .int .i64 0]) 32 rfl Try.underlying85 info57 rfl (by decide) (by omega) (.slice A nv c) (outJ l fan pre) BB [.int .i64 BB.f0, .int .i64 BB.f1, .int .i64 BB.f2, .int .i64 BB.f3] ok (fun _ => False) rfl rfl (k57_mkM _ _ _ _) (fun _ h => h.elim) hnew hR S.out.below S.out.size (by have := outJ_len (l := l) (fan := fan) HP2.out; have := HN.out; have := cn_le HF.out l.length; omega) ?_; intro v34 w34 ho hb hg hat; replace S := Aside0.mk (hup _ w34 _ ho hb hg); clear hup hR hnew ho hb hg hat; obtain ⟨A34, n34, c34, e34⟩ := R_form (S.out.at_own 2 rfl); subst e34; clear k5_0 f5_0; have k5_0 := blk_cell (S.out.at_box 1 rfl) 0; have f5_0 := blk_frozen (S.out.at_box 1 rfl) 0; simp only [List.getElem?_toArray, List.getElem?_cons_zero, List.getElem?_cons_succ] at k5_0) | (first | ((with_reducible refine wpIn_region_plain ?hd ?hq ?_); (case hd => rfl); (case hq => (intro hh; obtain ⟨_, _, hh⟩ := hh; exact hh))) | gi_step))
        show SepW.Sep w _ (LJ w.heap.size g5 l fan (pre ++ [x]) ++ M')
        replace S := Aside0.mk (((S.out.drop 0).set 0 rfl 0 (.slice A34 n34 c34)))
        refine SepW.Sep.ex_shut (f := fun v : Value => [Box _ g5 85 #[v], YtjpkkdnilfoafaaW.SepW.Own _ k57 57 v (outJ l fan (pre ++ [x]))]) (.slice A34 n34 c34) ?_
        rw [HOUT.out]
        exact S.out
    · 
      clear z7_0 z7_1 z7_2 z7_3 y7_0 y7_1 y7_2 y7_3
      refine wpIn_genS S (fun W1 S1 => ?_)
      clear S
      gi_loopw [23] (fun i wr => ∃ k : Nat, Aside0 (k ≤ E - 1) ∧ i = .int .i64 (k : Int) ∧ Aside0 (SepW.Sep w wr (Box _ g7 57 (cB (((l.drop (K + 1)).take k).foldl joinB B0)) :: Box _ g5 85 #[.slice A nv c] :: YtjpkkdnilfoafaaW.SepW.Own _ k57 57 (.slice A nv c) (outJ l fan pre) :: M')))
        (fun i _ => E - (intOf i).toNat)
      case atStart => exact ⟨0, ⟨Nat.zero_le _⟩, rfl, S1⟩
      case round =>
        obtain ⟨k, hk, rfl, S⟩ := hrel
        clear S1
        by_cases hlt : k < E - 1
        · obtain ⟨r0, r1, r2, r3⟩ := box_cells (Kd.C_below HC.out S.out.below) (K + 1 + k) (by have := HE3.out; omega)
          have e : off + (K + 1 + k) * 4 = off + K * 4 + 4 + k * 4 := by omega
          rw [e] at r0 r1 r2 r3
          clear e
          obtain ⟨X, hX⟩ : ∃ X, X = l.getD (K + 1 + k) z57 := ⟨_, rfl⟩
          rw [← hX] at r0 r1 r2 r3
          obtain ⟨B1, hB1⟩ : ∃ B1, B1 = ((l.drop (K + 1)).take k).foldl joinB B0 := ⟨_, rfl⟩
          have hJ : ((l.drop (K + 1)).take (k + 1)).foldl joinB B0 = joinB B1 X := by
            rw [List.take_add_one, List.foldl_append, ← hB1, List.getElem?_drop, List.getElem?_eq_getElem (by have := HE3.out; omega)]
            rw [hX, getD_get (by have := HE3.out; omega)]
            rfl
          rw [← hB1] at S
          have HJ := Aside0.mk hJ
          have HXX := Aside0.mk hX
          clear hX hB1 hJ
          have d1 : decide ((k : Int) < ((E - 1 : Nat) : Int)) = true := decide_eq_true (by omega)
          have d1' : decide (k < E - 1) = true := decide_eq_true (by omega)
          have c1 : (k : Int) < ((E - 1 : Nat) : Int) := by omega
          have c0 : (0 : Int) ≤ (k : Int) := by omega
          have i1 : Aside0 (wrap64 ((k : Int) + 1) = ((k + 1 : Nat) : Int)) := ⟨by rw [IntWalk.wrap64_in _ (by have := HN.out; have := HE3.out; omega)]; omega⟩
          have i2 := i1.out
          have HLT := Aside0.mk hlt
          unfold cB at S
          go_wp2_with (first | ((with_reducible refine gate_dst (N := 9) rfl ?_); refine box_event ?hg (N := 9) ?hd (cs := #[.int .i64 0, .int .i64 0, .int .i64 0, .int .i64 0]) (t := 57) ?hr ?_; (case hd => rfl); (case hg => rfl); (case hr => first | (go_simp; done) | (go_simp; rfl)); intro g9 hg w9 hbox hb; replace S := Aside0.mk (show Sep _ _ (Box _ g9 57 #[.int .i64 X.f0, .int .i64 X.f1, .int .i64 X.f2, .int .i64 X.f3] :: _) from ((((S.out.box hg hbox hb).set 0 rfl 0 (.int .i64 X.f0)).set 0 rfl 1 (.int .i64 X.f1)).set 0 rfl 2 (.int .i64 X.f2)).set 0 rfl 3 (.int .i64 X.f3)); have z9_0 := blk_cell hbox 0; have y9_0 := blk_frozen hbox 0; have z9_1 := blk_cell hbox 1; have y9_1 := blk_frozen hbox 1; have z9_2 := blk_cell hbox 2; have y9_2 := blk_frozen hbox 2; have z9_3 := blk_cell hbox 3; have y9_3 := blk_frozen hbox 3; simp only [List.getElem?_toArray, List.getElem?_cons_zero, List.getElem?_cons_succ] at z9_0 z9_1 z9_2 z9_3; clear hbox hb hg r0 r1 r2 r3; have k7_0 := blk_cell (S.out.at_box 1 rfl) 0; have f7_0 := blk_frozen (S.out.at_box 1 rfl) 0; have k7_1 := blk_cell (S.out.at_box 1 rfl) 1; have f7_1 := blk_frozen (S.out.at_box 1 rfl) 1; have k7_2 := blk_cell (S.out.at_box 1 rfl) 2; have f7_2 := blk_frozen (S.out.at_box 1 rfl) 2; have k7_3 := blk_cell (S.out.at_box 1 rfl) 3; have f7_3 := blk_frozen (S.out.at_box 1 rfl) 3; simp only [List.getElem?_toArray, List.getElem?_cons_zero, List.getElem?_cons_succ] at k7_0 k7_1 k7_2 k7_3) | (go_at_call 37; (with_reducible refine (join_ct B1 X _).mono ?_); rintro e_ w29 ⟨rfl, hb⟩; replace S := Aside0.mk (S.out.step hb); clear hb; clear k7_0 k7_1 k7_2 k7_3 f7_0 f7_1 f7_2 f7_3 z9_0 z9_1 z9_2 z9_3 y9_0 y9_1 y9_2 y9_3; have k7_0 := blk_cell (S.out.at_box 1 rfl) 0; have f7_0 := blk_frozen (S.out.at_box 1 rfl) 0; have k7_1 := blk_cell (S.out.at_box 1 rfl) 1; have f7_1 := blk_frozen (S.out.at_box 1 rfl) 1; have k7_2 := blk_cell (S.out.at_box 1 rfl) 2; have f7_2 := blk_frozen (S.out.at_box 1 rfl) 2; have k7_3 := blk_cell (S.out.at_box 1 rfl) 3; have f7_3 := blk_frozen (S.out.at_box 1 rfl) 3; simp only [List.getElem?_toArray, List.getElem?_cons_zero, List.getElem?_cons_succ] at k7_0 k7_1 k7_2 k7_3) | (first | ((with_reducible refine wpIn_region_plain ?hd ?hq ?_); (case hd => rfl); (case hq => (intro hh; obtain ⟨_, _, hh⟩ := hh; exact hh))) | gi_step))
          clear i2
          go_roundw
          case rel => exact ⟨k + 1, ⟨HLT.out⟩, by rw [i1.out], ⟨by rw [HJ.out]; exact ((((S.out.drop 0).set 0 rfl 0 (.int .i64 (joinB B1 X).f0)).set 0 rfl 1 (.int .i64 (joinB B1 X).f1)).set 0 rfl 2 (.int .i64 (joinB B1 X).f2)).set 0 rfl 3 (.int .i64 (joinB B1 X).f3)⟩⟩
          case measure =>
            rw [i1.out]
            have := HLT.out
            show E - (((k + 1 : Nat) : Int)).toNat < E - ((k : Int)).toNat
            rw [Int.toNat_natCast, Int.toNat_natCast]
            omega
        · have d0 : decide ((k : Int) < ((E - 1 : Nat) : Int)) = false := decide_eq_false (by omega)
          have d0' : decide (k < E - 1) = false := decide_eq_false (by omega)
          have hkk : k = E - 1 := by have := hk.out; omega
          rw [hkk, HB0.out] at S
          have HKK := Aside0.mk hkk
          clear hkk
          rw [show cB (((l.drop (K + 1)).take (E - 1)).foldl joinB (l.getD K z57)) = cB (boxOf ((l.drop (x * fan)).take fan)) from by rw [chunk_box HK.out HE.out HE3.out]] at S
          obtain ⟨BB, hBB⟩ : ∃ BB, BB = boxOf ((l.drop (x * fan)).take fan) := ⟨_, rfl⟩
          rw [← hBB] at S
          have HBB := Aside0.mk hBB
          clear hBB
          have hout : outJ l fan (pre ++ [x]) = outJ l fan pre ++ [BB] := by rw [HBB.out]; exact List.map_append
          have HOUT := Aside0.mk hout
          clear hout
          unfold cB at S
          have k7_0 := blk_cell (S.out.at_box 0 rfl) 0; have k7_1 := blk_cell (S.out.at_box 0 rfl) 1; have k7_2 := blk_cell (S.out.at_box 0 rfl) 2; have k7_3 := blk_cell (S.out.at_box 0 rfl) 3; simp only [List.getElem?_toArray, List.getElem?_cons_zero, List.getElem?_cons_succ] at k7_0 k7_1 k7_2 k7_3
          have k5_0 := blk_cell (S.out.at_box 1 rfl) 0; have f5_0 := blk_frozen (S.out.at_box 1 rfl) 0; simp only [List.getElem?_toArray, List.getElem?_cons_zero, List.getElem?_cons_succ] at k5_0
          go_wp2_with (first | ((with_reducible refine gate_builtin (b := .append) (xs := #[.tmp 31, .tmp 33]) rfl ?_); at_builtin; obtain ⟨ok, hR, hnew, hup⟩ := S.out.append 2 rfl; refine Kd.R_append k57 (w0 := w) w.heap.size rfl (.tmp 31) (.tmp 33) 85 57 (.agg #[.int .i64 0, .int .i64 0, .int .i64 0, .int .i64 0]) 32 rfl Try.underlying85 info57 rfl (by decide) (by omega) (.slice A nv c) (outJ l fan pre) BB [.int .i64 BB.f0, .int .i64 BB.f1, .int .i64 BB.f2, .int .i64 BB.f3] ok (fun _ => False) rfl rfl (k57_mkM _ _ _ _) (fun _ h => h.elim) hnew hR S.out.below S.out.size (by have := outJ_len (l := l) (fan := fan) HP2.out; have := HN.out; have := cn_le HF.out l.length; omega) ?_; intro v34 w34 ho hb hg hat; replace S := Aside0.mk (hup _ w34 _ ho hb hg); clear hup hR hnew ho hb hg hat; obtain ⟨A34, n34, c34, e34⟩ := R_form (S.out.at_own 2 rfl); subst e34; clear k5_0 f5_0; have k5_0 := blk_cell (S.out.at_box 1 rfl) 0; have f5_0 := blk_frozen (S.out.at_box 1 rfl) 0; simp only [List.getElem?_toArray, List.getElem?_cons_zero, List.getElem?_cons_succ] at k5_0) | (first | ((with_reducible refine wpIn_region_plain ?hd ?hq ?_); (case hd => rfl); (case hq => (intro hh; obtain ⟨_, _, hh⟩ := hh; exact hh))) | gi_step))
          show SepW.Sep w _ (LJ w.heap.size g5 l fan (pre ++ [x]) ++ M')
          replace S := Aside0.mk (((S.out.drop 0).set 0 rfl 0 (.slice A34 n34 c34)))
          refine SepW.Sep.ex_shut (f := fun v : Value => [Box _ g5 85 #[v], YtjpkkdnilfoafaaW.SepW.Own _ k57 57 v (outJ l fan (pre ++ [x]))]) (.slice A34 n34 c34) ?_
          rw [HOUT.out]
          exact S.out
  case done =>
    intro D W hS
    have S := Aside0.mk hS
    clear hS
    obtain ⟨v, S1⟩ := SepW.Sep.ex_open (S.out.perm (L' := LJ _ g5 l fan (List.range (cn l.length fan)) ++ [Blk _ D (.deferred (some [])), Box _ g14 85 #[.slice (some ⟨b, off, none⟩) l.length cap], Box _ (g14 + 1) 3 #[.int .i64 (fan : Int)]]) (by
      refine List.Perm.trans ?_ List.perm_append_comm
      exact .refl _))
    replace S := Aside0.mk S1
    clear S1
    have S3 := Aside0.mk (S.out.at_blk 2 rfl)
    have k5_0 := blk_cell (S.out.at_box 0 rfl) 0; simp only [List.getElem?_toArray, List.getElem?_cons_zero, List.getElem?_cons_succ] at k5_0
    go_wp2
    refine ⟨by simp, .inl ⟨_, _, rfl, run_takeDeferred S3.out, ?_⟩⟩
    have S4 := S.out.put 2 rfl (.deferred none)
    exact ⟨_, results_tmp rfl _ _ _, v, rfl, S4.at_own 1 rfl, S4.below⟩
end Go.Proofs.Ytjpkkdnilfoafaa.Hand
end
section
namespace Go.Proofs.Ytjpkkdnilfoafaa.Hand
open Go.Proofs.YtjpkkdnilfoafaaW Go.RowKit Go.Proofs.YtjpkkdnilfoafaaW.PrintWords Go.Proofs.YtjpkkdnilfoafaaW.PrintLast Go.Proofs.YtjpkkdnilfoafaaW.PrintMore Go.Proofs.YtjpkkdnilfoafaaW.SepW Go.Proofs.Ytjpkkdnilfoafaa.PALL Go.Proofs.Ytjpkkdnilfoafaa.Plain
set_option linter.unusedVariables false
set_option linter.unusedSimpArgs false
theorem wp_genS {P : Program} {c : Code} {Q : Exit → Act → World → Prop} {a : Act} {w0 w : World} {L : List (Thing w0.heap.size)} (S : Aside0 (SepW.Sep w0 w L)) (h : ∀ W, Aside0 (SepW.Sep w0 W L) → c.wp P Q a W) : c.wp P Q a w := h w S
theorem check_ct (b : S57) (w : World) : Calls Try.prog 38 #[.agg #[.int .i64 b.f0, .int .i64 b.f1, .int .i64 b.f2, .int .i64 b.f3]] w fun e w' => e = .returned (.int .i64 (if validB b = true then 0 else 2)) ∧ Below w.heap.size w w' :=
  grid_Check.calls _ _ _ _ _ w (by unfold grid_Check.f; rw [valid_f b]; simp only [Option.bind_some]; split <;> rfl)
theorem list_some {α : Type} {d : Kd α} {w : World} {A : Option Addr} {l : List α} (h : d.C w A l.length l) (hp : 0 < l.length) : ∃ ad, A = some ad := by
  cases A with
  | none => rw [C_none h] at hp; exact absurd hp (Nat.lt_irrefl 0)
  | some ad => exact ⟨ad, rfl⟩
theorem item_cells {w : World} {ad : Addr} {n : Nat} {l : List S61} (h : k61.C w (some ad) n l) (i : Nat) (hi : i < n) (hl : i < l.length) :
    w.cell? (ad.add (i * 6)) = some (.int .i64 l[i].f0.f0) ∧ w.cell? ⟨(ad.add (i * 6)).block, (ad.add (i * 6)).off + 1, none⟩ = some (.int .i64 l[i].f0.f1) ∧ w.cell? ⟨(ad.add (i * 6)).block, (ad.add (i * 6)).off + 2, none⟩ = some (.int .i64 l[i].f1.f0) ∧ w.cell? ⟨(ad.add (i * 6)).block, (ad.add (i * 6)).off + 3, none⟩ = some (.int .i64 l[i].f1.f1) ∧ w.cell? ⟨(ad.add (i * 6)).block, (ad.add (i * 6)).off + 4, none⟩ = some (.int .i64 l[i].f1.f2) ∧ w.cell? ⟨(ad.add (i * 6)).block, (ad.add (i * 6)).off + 5, none⟩ = some (.int .i64 l[i].f1.f3) := by
  obtain ⟨ad', he, h1⟩ := at_T61 h (i : Int) (by omega) (by omega)
  injection he with he
  subst he
  have e : rd_T61 l (i : Int) = l[i] := by
    show l.getD ((i : Int)).toNat z61 = _
    rw [Int.toNat_natCast, List.getD_eq_getElem?_getD, List.getElem?_eq_getElem hl]
    rfl
  rw [e, Int.toNat_natCast] at h1
  exact h1
theorem ref_cells {w : World} {ad : Addr} {n : Nat} {l : List S23} (h : k23.C w (some ad) n l) (i : Nat) (hi : i < n) (hl : i < l.length) :
    w.cell? (ad.add (i * 2)) = some (.int .i64 l[i].f0) ∧ w.cell? ⟨(ad.add (i * 2)).block, (ad.add (i * 2)).off + 1, none⟩ = some (.int .i64 l[i].f1) := by
  obtain ⟨ad', he, h1⟩ := at_T23 h (i : Int) (by omega) (by omega)
  injection he with he
  subst he
  have e : rd_T23 l (i : Int) = l[i] := by
    show l.getD ((i : Int)).toNat z23 = _
    rw [Int.toNat_natCast, List.getD_eq_getElem?_getD, List.getElem?_eq_getElem hl]
    rfl
  rw [e, Int.toNat_natCast] at h1
  exact h1
theorem sorted_nodup {ys : List S23} (h : ys.Pairwise (fun a b => ltR b a = false)) (hd : ∀ j (h : j + 1 < ys.length), ys[j] ≠ ys[j + 1]) : ys.Nodup := by
  induction ys with
  | nil => exact List.nodup_nil
  | cons a t ih =>
    rw [List.nodup_cons]
    rw [List.pairwise_cons] at h
    have ht := ih h.2 (fun j hj => hd (j + 1) (by simp; omega))
    refine ⟨fun ha => ?_, ht⟩
    cases t with
    | nil => cases ha
    | cons b t =>
      have hab : a ≠ b := hd 0 (by simp)
      have h1 : ltR b a = false := h.1 b (by simp)
      rcases List.mem_cons.1 ha with rfl | ha
      · exact hab rfl
      · have h2 : ltR a b = false := (List.pairwise_cons.1 h.2).1 a ha
        exact hab (ltR_total a b h2 h1)
theorem joinL_len (l : List S57) (fan : Nat) : (joinL l fan).length = cn l.length fan := by simp [joinL]
theorem joinL_pos {l : List S57} {fan : Nat} (hf : 1 ≤ fan) (h : 0 < l.length) : 0 < (joinL l fan).length := by
  rw [joinL_len]
  exact (cn_lt hf).2 (by omega)
theorem joinL_less {l : List S57} {fan : Nat} (hf : 2 ≤ fan) (h : (joinL l fan).length ≠ 1) (hp : 0 < l.length) : (joinL l fan).length < l.length := by
  rw [joinL_len] at h ⊢
  rcases Nat.lt_or_ge (cn l.length fan) l.length with h1 | h1
  · exact h1
  · exfalso
    have h2 : cn l.length fan = l.length := Nat.le_antisymm (cn_le (by omega) _) h1
    rw [h2] at h
    have h3 := (cn_lt (n := l.length) (fan := fan) (k := l.length - 1) (by omega)).1 (by omega)
    have h4 := Nat.mul_le_mul_left (l.length - 1) hf
    omega
theorem rows_len {α : Type} {d : Kd α} {w0 w : World} {L : List (Thing w0.heap.size)} {e : Nat} {vs : List Value} {xss : List (List α)} (S : SepW.Sep w0 w L) (n : Nat) (h : L[n]? = some (YtjpkkdnilfoafaaW.SepW.Rows _ d e vs xss)) : vs.length = xss.length := by
  obtain ⟨ok, hp⟩ := SepI.get n S.items h
  exact hp.1
theorem rows_C {α : Type} {d : Kd α} {w0 w : World} {L : List (Thing w0.heap.size)} {e : Nat} {vs : List Value} {xss : List (List α)} (S : SepW.Sep w0 w L) (n : Nat) (h : L[n]? = some (YtjpkkdnilfoafaaW.SepW.Rows _ d e vs xss)) (i : Nat) {A : Option Addr} {m c : Nat} {xs : List α} (hv : vs[i]? = some (.slice A m c)) (hx : xss[i]? = some xs) : d.C w A xs.length xs ∧ xs.length ≤ c := by
  obtain ⟨ok, hp⟩ := SepI.get n S.items h
  obtain ⟨A', c', he, h1, h2⟩ := Kd.R_reads (hp.2 i _ _ hv hx)
  injection he with e1 e2 e3
  subst e1
  subst e3
  exact ⟨h2, h1⟩
theorem take_more {α : Type} (l : List α) (i : Nat) (h : i < l.length) : l.take (i + 1) = l.take i ++ [l[i]] := by rw [List.take_add_one, List.getElem?_eq_getElem h]; rfl
/-- The tree, as it lies in memory. -/
def TreeAt (w : World) (g : Nat) (fan : Nat) (items : List S61) (levels : List (List S57)) : Prop :=
  g < w.heap.size ∧ w.cell? ⟨g, 0, none⟩ = some (.int .i64 (fan : Int)) ∧ (∃ A c, w.cell? ⟨g, 1, none⟩ = some (.slice A items.length c) ∧ items.length ≤ c ∧ k61.C w A items.length items) ∧ ∃ A c, w.cell? ⟨g, 2, none⟩ = some (.slice A levels.length c) ∧ levels.length ≤ c ∧ (Kd.slice 57 k57).C w A levels.length levels
theorem TreeAt.below {w w' : World} {g fan : Nat} {items : List S61} {levels : List (List S57)} (h : TreeAt w g fan items levels) (hb : Below w.heap.size w w') : TreeAt w' g fan items levels := by
  obtain ⟨h0, h1, ⟨A, c, h2, h3, h4⟩, B, d, h5, h6, h7⟩ := h
  exact ⟨Nat.lt_of_lt_of_le h0 hb.size, (hb.cell (p := ⟨g, 0, none⟩) h0).trans h1, ⟨A, c, (hb.cell (p := ⟨g, 1, none⟩) h0).trans h2, h3, Kd.C_below h4 hb⟩, B, d, (hb.cell (p := ⟨g, 2, none⟩) h0).trans h5, h6, Kd.C_below h7 hb⟩
/-- A tree whose blocks are not older than base. -/
def TreeUp (base : Nat) (w : World) (g : Nat) (fan : Nat) (items : List S61) (levels : List (List S57)) : Prop := ∀ W : World, w.heap.size ≤ W.heap.size → (∀ k, base ≤ k → k < w.heap.size → W.heap[k]? = w.heap[k]?) → TreeAt W g fan items levels
theorem TreeUp.at {base : Nat} {w : World} {g fan : Nat} {items : List S61} {levels : List (List S57)} (h : TreeUp base w g fan items levels) : TreeAt w g fan items levels := h w (Nat.le_refl _) (fun _ _ _ => rfl)
/-- The boxes of the inner nodes. -/
def lvF (fan : Nat) : Nat → List S57 → List (List S57)
  | 0, _ => []
  | k + 1, l => if l.length = 0 then [] else joinL l fan :: (if (joinL l fan).length = 1 then [] else lvF fan k (joinL l fan))
def levelsOf (fan : Nat) (l : List S57) : List (List S57) := lvF fan l.length l
/-- What New answers. -/
def NewR (l : List S61) (fan : Int) (w : World) (e : Ending) (w' : World) : Prop :=
  Below w.heap.size w w' ∧
  ((∃ c : Int, e = .returned (.tuple #[.pointer none, .int .i64 c]) ∧ ((c = 1 ∧ (fan < 2 ∨ 16 < fan)) ∨ (c = 5 ∧ 2 ≤ fan ∧ fan ≤ 16 ∧ 10000 < l.length) ∨
      (2 ≤ fan ∧ fan ≤ 16 ∧ l.length ≤ 10000 ∧ ((c = 2 ∧ ∃ x ∈ l, validB x.f1 = false) ∨ (c = 7 ∧ (∀ x ∈ l, validB x.f1 = true) ∧ ¬ (l.map S61.f0).Nodup))))) ∨
   (2 ≤ fan ∧ fan ≤ 16 ∧ l.length ≤ 10000 ∧ (∀ x ∈ l, validB x.f1 = true) ∧ (l.map S61.f0).Nodup ∧ ∃ g items, e = .returned (.tuple #[.pointer (some ⟨g, 0, none⟩), .int .i64 0]) ∧ items.Perm l ∧ items.Pairwise (fun a b => ltT b a = false) ∧ TreeUp w.heap.size w' g fan.toNat items (levelsOf fan.toNat (items.map S61.f1))))
theorem tree_at {w0 w : World} {L : List (Thing w0.heap.size)} {M : Thing w0.heap.size} {g fan : Nat} {items : List S61} {vs : List Value} {lss : List (List S57)} {A5 A6 : Option Addr} {n5 c5 c6 : Nat} (S : SepW.Sep w0 w (Hdr _ 85 (.slice A5 n5 c5) vs :: YtjpkkdnilfoafaaW.SepW.Rows _ k57 57 vs lss :: M :: Box _ g 79 #[.int .i64 (fan : Int), .slice A6 items.length c6, .slice A5 n5 c5] :: YtjpkkdnilfoafaaW.SepW.Own _ k61 61 (.slice A6 items.length c6) items :: L)) : TreeAt w g fan items lss := by
  obtain ⟨h1, h2, h3⟩ := Kd.R_reads' S.joined
  subst h1
  obtain ⟨A', c', he, h4, h5⟩ := S.own_reads 4 rfl
  injection he with e1 e2 e3
  subst e1
  subst e3
  exact ⟨blk_lt (S.at_box 3 rfl), blk_cell (S.at_box 3 rfl) 0, ⟨A6, c6, blk_cell (S.at_box 3 rfl) 1, h4, h5⟩, A5, c5, blk_cell (S.at_box 3 rfl) 2, h2, h3⟩
theorem below_cut {base : Nat} {w : World} (hb : base ≤ w.heap.size) : ∃ w1 : World, w1.heap.size = base ∧ Below w1.heap.size w1 w := by
  refine ⟨{ w with heap := w.heap.extract 0 base }, ?_, rfl, rfl, rfl, ?_, ?_⟩
  · simp; omega
  · first | (simp; done) | (simp; omega)
  · intro k hk
    simp at hk
    show w.heap[k]? = (w.heap.extract 0 base)[k]?
    rw [Array.getElem?_extract]
    simp; omega
theorem tree_up {w0 w : World} {L : List (Thing w0.heap.size)} {M : Thing w0.heap.size} {g fan : Nat} {items : List S61} {vs : List Value} {lss : List (List S57)} {A5 A6 : Option Addr} {n5 c5 c6 : Nat} (S : SepW.Sep w0 w (Hdr _ 85 (.slice A5 n5 c5) vs :: YtjpkkdnilfoafaaW.SepW.Rows _ k57 57 vs lss :: M :: Box _ g 79 #[.int .i64 (fan : Int), .slice A6 items.length c6, .slice A5 n5 c5] :: YtjpkkdnilfoafaaW.SepW.Own _ k61 61 (.slice A6 items.length c6) items :: L)) : TreeUp w0.heap.size w g fan items lss := by
  intro W hs hk
  have h1 := SepI.move hs (fun k _ a b => hk k a b) S.items
  have h2 := Nat.le_trans S.size hs
  clear S hk hs
  generalize w0.heap.size = base at *
  obtain ⟨w1, rfl, hb⟩ := below_cut h2
  exact tree_at ⟨hb, h1⟩
theorem mk0_ {α : Type} {w0 w w1 : World} {L : List (Thing w0.heap.size)} (S : SepW.Sep w0 w L) (d : Kd α) {e : Nat} {n : Nat} (ho : w1.ownsRow w0.heap.size e d.sz (.slice (some ⟨w.heap.size, 0, none⟩) 0 n) 0 []) (hg : w.grownBy w1 none) :
    SepW.Sep w0 w1 (YtjpkkdnilfoafaaW.SepW.Own _ d e (.slice (some ⟨w.heap.size, 0, none⟩) 0 n) ([] : List α) :: L) :=
  S.new ((Below.refl _ _).grown hg (Nat.le_refl _) (fun k e => by cases e)) (i := YtjpkkdnilfoafaaW.SepW.Own _ d e (.slice (some ⟨w.heap.size, 0, none⟩) 0 n) ([] : List α)) ⟨fun k hk => by
    have hk' : some w.heap.size = some k := hk
    injection hk' with hk'
    omega, [], ho, Reps.none _ _⟩
set_option maxHeartbeats 40000000 in
set_option maxRecDepth 100000 in
theorem new_main (A : Option Addr) (c : Nat) (l : List S61) (fan : Nat) (h2 : 2 ≤ fan) (h16 : fan ≤ 16) (hl : l.length ≤ 10000) (w : World) (hC : k61.C w A l.length l) (hc : l.length ≤ c) :
    Calls Try.prog 22 #[.slice A l.length c, .int .i64 (fan : Int)] w fun e w' => NewR l (fan : Int) w e w' := by
  have S := Aside0.mk (Sep.start w)
  have HC := Aside0.mk hC
  have HCC := Aside0.mk hc
  have HL := Aside0.mk hl
  have H2 := Aside0.mk h2
  have H16 := Aside0.mk h16
  have d1 : decide ((fan : Int) < 2) = false := decide_eq_false (by omega)
  have d1' : decide (fan < 2) = false := decide_eq_false (by omega)
  have d2 : decide (16 < (fan : Int)) = false := decide_eq_false (by omega)
  have d2' : decide (16 < fan) = false := decide_eq_false (by omega)
  have d3 : decide (10000 < (l.length : Int)) = false := decide_eq_false (by omega)
  have d3' : decide (10000 < l.length) = false := decide_eq_false (by omega)
  clear hC hc hl h2 h16
  go_enter Try.func22, Try.ntmps22
  go_wp2_with (first | ((with_reducible refine gate_dst (N := 26) rfl ?_); at_make; obtain ⟨i0, hi0, hz0, hz1, hz2⟩ := info_parts info23; refine wpList_make_own _ rfl _ _ 43 rfl w.heap.size 23 i0 (.agg #[.int .i64 0, .int .i64 0]) 2 Try.underlying43 hi0 hz0 hz1 .i64 .i64 _ l.length rfl rfl rfl (by rw [hz2]; have := HL.out; omega) (by have := HL.out; have : maxLen = 9223372036854775807 := rfl; omega) S.out.size ?_; intro w26 hown hg; replace S := Aside0.mk (mk0_ S.out k23 hown hg); clear hown hg hi0 hz0 hz1 hz2) | fail)
  go_loopg [6, 29] (l.length + 1) (fun kq v6 v29 w' => ∃ (i : Nat) (acc : List S23), v29 = .int .i64 i ∧ Aside0 (kq + i = l.length + 1) ∧ Aside0 (i ≤ l.length) ∧ Aside0 (acc = (l.take i).map S61.f0) ∧ Aside0 (∀ x ∈ l.take i, validB x.f1 = true) ∧ Aside0 (SepW.Sep w w' [YtjpkkdnilfoafaaW.SepW.Own _ k23 23 v6 acc]))
  case atStart => exact ⟨0, [], rfl, ⟨rfl⟩, ⟨Nat.zero_le _⟩, ⟨rfl⟩, ⟨by simp⟩, S⟩
  case round =>
    clear S
    obtain ⟨i, acc, rfl, KQ, IL, AC, AV, S⟩ := hrel
    cases gk with
    | zero => exact absurd KQ.out (by have := IL.out; omega)
    | succ q1 =>
    by_cases hi : i < l.length
    · have p0 : (0 : Int) ≤ (i : Int) := by omega
      have p1 : (i : Int) < (l.length : Int) := by omega
      have e1 : decide (i < l.length) = true := decide_eq_true hi
      have e2 : decide ((i : Int) < (l.length : Int)) = true := decide_eq_true p1
      obtain ⟨ad, ead⟩ := list_some HC.out (by omega)
      subst ead
      obtain ⟨X, hX⟩ : ∃ X, X = l[i] := ⟨_, rfl⟩
      have hr := item_cells (Kd.C_below HC.out S.out.below) i hi hi
      rw [← hX] at hr
      obtain ⟨r0, r1, r2, r3, r4, r5⟩ := hr
      have HX := Aside0.mk hX
      clear hX
      have HI := Aside0.mk hi
      have i1 : Aside0 (wrap64 ((i : Int) + 1) = ((i + 1 : Nat) : Int)) := ⟨by rw [IntWalk.wrap64_in _ (by have := HL.out; omega)]; omega⟩
      have i2 := i1.out
      have hck := fun W => check_ct X.f1 W
      have HAL : Aside0 (acc.length ≤ 10000) := ⟨by rw [AC.out]; simp only [List.length_map, List.length_take]; have := HL.out; omega⟩
      by_cases hv : validB X.f1 = true
      · simp only [hv, if_true] at hck
        have HCK := Aside0.mk hck
        have HV := Aside0.mk hv
        clear hck hv
        go_wp2_with (first | ((with_reducible refine gate_dst (N := 8) rfl ?_); refine box_event ?hg (N := 8) ?hd (cs := #[.int .i64 0, .int .i64 0, .int .i64 0, .int .i64 0, .int .i64 0, .int .i64 0]) (t := 61) ?hr ?_; (case hd => rfl); (case hg => rfl); (case hr => first | (go_simp; done) | (go_simp; rfl)); intro g8 hg w8 hbox hb; replace S := Aside0.mk (show Sep _ _ (Box _ g8 61 #[.int .i64 X.f0.f0, .int .i64 X.f0.f1, .int .i64 X.f1.f0, .int .i64 X.f1.f1, .int .i64 X.f1.f2, .int .i64 X.f1.f3] :: _) from ((((((S.out.box hg hbox hb).set 0 rfl 0 (.int .i64 X.f0.f0)).set 0 rfl 1 (.int .i64 X.f0.f1)).set 0 rfl 2 (.int .i64 X.f1.f0)).set 0 rfl 3 (.int .i64 X.f1.f1)).set 0 rfl 4 (.int .i64 X.f1.f2)).set 0 rfl 5 (.int .i64 X.f1.f3)); have z8_0 := blk_cell hbox 0; have y8_0 := blk_frozen hbox 0; have z8_1 := blk_cell hbox 1; have y8_1 := blk_frozen hbox 1; have z8_2 := blk_cell hbox 2; have y8_2 := blk_frozen hbox 2; have z8_3 := blk_cell hbox 3; have y8_3 := blk_frozen hbox 3; have z8_4 := blk_cell hbox 4; have y8_4 := blk_frozen hbox 4; have z8_5 := blk_cell hbox 5; have y8_5 := blk_frozen hbox 5; simp only [List.getElem?_toArray, List.getElem?_cons_zero, List.getElem?_cons_succ] at z8_0 z8_1 z8_2 z8_3 z8_4 z8_5; clear hbox hb hg r0 r1 r2 r3 r4 r5) | (go_at_call 38; (with_reducible refine (HCK.out _).mono ?_); rintro e_ w35 ⟨rfl, hb⟩; replace S := Aside0.mk (S.out.step hb); clear hb; clear z8_0 y8_0 z8_1 y8_1 z8_2 y8_2 z8_3 y8_3 z8_4 y8_4 z8_5 y8_5; have k8_0 := blk_cell (S.out.at_box 0 rfl) 0; have k8_1 := blk_cell (S.out.at_box 0 rfl) 1; have k8_2 := blk_cell (S.out.at_box 0 rfl) 2; have k8_3 := blk_cell (S.out.at_box 0 rfl) 3; have k8_4 := blk_cell (S.out.at_box 0 rfl) 4; have k8_5 := blk_cell (S.out.at_box 0 rfl) 5; simp only [List.getElem?_toArray, List.getElem?_cons_zero, List.getElem?_cons_succ] at k8_0 k8_1 k8_2 k8_3 k8_4 k8_5) | ((with_reducible refine gate_builtin (b := .append) (xs := #[.tmp 39, .tmp 42]) rfl ?_); at_builtin; obtain ⟨ok, hR, hnew, hup⟩ := S.out.append 1 rfl; refine Kd.R_append k23 (w0 := w) w.heap.size rfl (.tmp 39) (.tmp 42) 43 23 (.agg #[.int .i64 0, .int .i64 0]) 16 rfl Try.underlying43 info23 rfl (by decide) (by omega) u6 acc X.f0 [.int .i64 X.f0.f0, .int .i64 X.f0.f1] ok (fun _ => False) rfl rfl (k23_mkM _ _ _ _) (fun _ h => h.elim) hnew hR S.out.below S.out.size (by have := HAL.out; omega) ?_; intro v43 w43 ho hb hg hat; replace S := Aside0.mk (hup _ w43 _ ho hb hg); clear hup hR hnew ho hb hg hat) | fail)
        clear i2
        go_roundg q1
        case measure => omega
        case rel => exact ⟨i + 1, acc ++ [X.f0], by rw [i1.out], ⟨by have := KQ.out; omega⟩, ⟨HI.out⟩, ⟨by rw [AC.out, take_more _ _ HI.out, List.map_append, HX.out]; rfl⟩, ⟨by
          intro x hx
          rw [take_more _ _ HI.out] at hx
          rcases List.mem_append.1 hx with hx | hx
          · exact AV.out x hx
          · rw [List.mem_singleton.1 hx, ← HX.out]; exact HV.out⟩, ⟨S.out.drop 0⟩⟩
      · have hv' : validB X.f1 = false := by simpa using hv
        simp only [hv', Bool.false_eq_true, if_false] at hck
        have HCK := Aside0.mk hck
        have HV := Aside0.mk hv'
        clear hck hv hv'
        go_wp2_with (first | ((with_reducible refine gate_dst (N := 8) rfl ?_); refine box_event ?hg (N := 8) ?hd (cs := #[.int .i64 0, .int .i64 0, .int .i64 0, .int .i64 0, .int .i64 0, .int .i64 0]) (t := 61) ?hr ?_; (case hd => rfl); (case hg => rfl); (case hr => first | (go_simp; done) | (go_simp; rfl)); intro g8 hg w8 hbox hb; replace S := Aside0.mk (show Sep _ _ (Box _ g8 61 #[.int .i64 X.f0.f0, .int .i64 X.f0.f1, .int .i64 X.f1.f0, .int .i64 X.f1.f1, .int .i64 X.f1.f2, .int .i64 X.f1.f3] :: _) from ((((((S.out.box hg hbox hb).set 0 rfl 0 (.int .i64 X.f0.f0)).set 0 rfl 1 (.int .i64 X.f0.f1)).set 0 rfl 2 (.int .i64 X.f1.f0)).set 0 rfl 3 (.int .i64 X.f1.f1)).set 0 rfl 4 (.int .i64 X.f1.f2)).set 0 rfl 5 (.int .i64 X.f1.f3)); have z8_0 := blk_cell hbox 0; have y8_0 := blk_frozen hbox 0; have z8_1 := blk_cell hbox 1; have y8_1 := blk_frozen hbox 1; have z8_2 := blk_cell hbox 2; have y8_2 := blk_frozen hbox 2; have z8_3 := blk_cell hbox 3; have y8_3 := blk_frozen hbox 3; have z8_4 := blk_cell hbox 4; have y8_4 := blk_frozen hbox 4; have z8_5 := blk_cell hbox 5; have y8_5 := blk_frozen hbox 5; simp only [List.getElem?_toArray, List.getElem?_cons_zero, List.getElem?_cons_succ] at z8_0 z8_1 z8_2 z8_3 z8_4 z8_5; clear hbox hb hg r0 r1 r2 r3 r4 r5) | (go_at_call 38; (with_reducible refine (HCK.out _).mono ?_); rintro e_ w35 ⟨rfl, hb⟩; replace S := Aside0.mk (S.out.step hb); clear hb; clear z8_0 y8_0 z8_1 y8_1 z8_2 y8_2 z8_3 y8_3 z8_4 y8_4 z8_5 y8_5; have k8_0 := blk_cell (S.out.at_box 0 rfl) 0; have k8_1 := blk_cell (S.out.at_box 0 rfl) 1; have k8_2 := blk_cell (S.out.at_box 0 rfl) 2; have k8_3 := blk_cell (S.out.at_box 0 rfl) 3; have k8_4 := blk_cell (S.out.at_box 0 rfl) 4; have k8_5 := blk_cell (S.out.at_box 0 rfl) 5; simp only [List.getElem?_toArray, List.getElem?_cons_zero, List.getElem?_cons_succ] at k8_0 k8_1 k8_2 k8_3 k8_4 k8_5) | fail)
        go_ret2
        exact ⟨S.out.below, .inl ⟨2, rfl, .inr (.inr ⟨by have := H2.out; omega, by have := H16.out; omega, HL.out, .inl ⟨rfl, X, by rw [HX.out]; exact List.getElem_mem _, HV.out⟩⟩)⟩⟩
    · obtain rfl : i = l.length := by have := IL.out; omega
      have e2 : decide ((l.length : Int) < (l.length : Int)) = false := decide_eq_false (by omega)
      have e2' : decide (l.length < l.length) = false := decide_eq_false (by omega)
      clear hi
      have hac := AC.out
      rw [List.take_length] at hac
      have HAC := Aside0.mk hac
      have hav := AV.out
      rw [List.take_length] at hav
      have HAV := Aside0.mk hav
      have HAL : Aside0 (acc.length = l.length) := ⟨by rw [hac, List.length_map]⟩
      clear hac hav AC AV KQ IL
      go_wp2_with (first | (go_at_call 39; have X_ := sort_refs S.out 0 rfl (by have := HAL.out; have := HL.out; omega); (with_reducible refine X_.mono ?_); clear X_; rintro e_ w46 ⟨rfl, ys, hp, hso, hS⟩; have HPE := Aside0.mk hp; have HSO := Aside0.mk hso; replace S := Aside0.mk hS; clear hp hso hS; obtain ⟨A6, c6, e6⟩ := Kd.R_slice (S.out.at_own 0 rfl); subst e6; have HYL := Aside0.mk (HPE.out.length_eq)) | fail)
      go_loopg [10] (ys.length + 2) (fun kq v10 w' => ∃ (i : Nat), v10 = .int .i64 i ∧ Aside0 (kq + i = ys.length + 3) ∧ Aside0 (1 ≤ i ∧ (i ≤ ys.length ∨ i = 1)) ∧ Aside0 (∀ j (h : j + 1 < ys.length), j + 1 < i → ys[j] ≠ ys[j + 1]) ∧ Aside0 (SepW.Sep w w' [YtjpkkdnilfoafaaW.SepW.Own _ k23 23 (.slice A6 ys.length c6) ys]))
      case atStart => exact ⟨1, rfl, ⟨rfl⟩, ⟨Nat.le_refl _, .inr rfl⟩, ⟨fun j h h' => by omega⟩, S⟩
      case round =>
        clear S
        obtain ⟨i, rfl, KQ, IL, AD, S⟩ := hrel
        cases gk with
        | zero => exact absurd KQ.out (by have := IL.out; omega)
        | succ q1 =>
        by_cases hi : i < ys.length
        · obtain ⟨j, hj⟩ : ∃ j, i = j + 1 := ⟨i - 1, by have := IL.out; omega⟩
          have p0 : (0 : Int) ≤ (i : Int) := by omega
          have p1 : (i : Int) < (ys.length : Int) := by omega
          have p2 : (0 : Int) ≤ (j : Int) := by omega
          have p3 : (j : Int) < (ys.length : Int) := by omega
          have p4 : j < ys.length := by omega
          have e1 : decide (i < ys.length) = true := decide_eq_true hi
          have e2 : decide ((i : Int) < (ys.length : Int)) = true := decide_eq_true p1
          have i1 : Aside0 (wrap64 ((i : Int) + 1) = ((i + 1 : Nat) : Int)) := ⟨by rw [IntWalk.wrap64_in _ (by have := HL.out; have := HAL.out; have := HYL.out; omega)]; omega⟩
          have i3 : Aside0 (wrap64 ((i : Int) - 1) = (j : Int)) := ⟨by rw [IntWalk.wrap64_in _ (by have := HL.out; have := HAL.out; have := HYL.out; omega)]; omega⟩
          have HI := Aside0.mk hi
          have HJ := Aside0.mk hj
          obtain ⟨ad, ead⟩ := list_some (S.out.own_C 0 rfl) (by omega)
          subst ead
          have hra := ref_cells (S.out.own_C 0 rfl) i hi hi
          have hrb := ref_cells (S.out.own_C 0 rfl) j p4 p4
          obtain ⟨X, hX⟩ : ∃ X, X = ys[i] := ⟨_, rfl⟩
          obtain ⟨Y, hY⟩ : ∃ Y, Y = ys[j] := ⟨_, rfl⟩
          rw [← hX] at hra
          rw [← hY] at hrb
          have HX := Aside0.mk hX
          have HY := Aside0.mk hY
          clear hX hY hj
          obtain ⟨ra0, ra1⟩ := hra
          obtain ⟨rb0, rb1⟩ := hrb
          have i2 := i1.out
          have i4 := i3.out
          have hu49 := Try.underlying23
          by_cases hxy : X = Y
          · subst hxy
            go_upto_region 18 with fail
            go_quiet (fail)
            go_wp2
            go_ret2
            refine ⟨(S.out.drewN nq).below, .inl ⟨7, rfl, .inr (.inr ⟨by have := H2.out; omega, by have := H16.out; omega, HL.out, .inr ⟨rfl, HAV.out, ?_⟩⟩)⟩⟩
            intro hn
            rw [← HAC.out] at hn
            have hn2 := HPE.out.nodup_iff.2 hn
            have h1 := HJ.out
            subst h1
            have h2 := List.pairwise_iff_getElem.1 hn2 j (j + 1) (by have := HI.out; omega) HI.out (by omega)
            exact h2 (by rw [← HX.out, ← HY.out])
          · have HXY := Aside0.mk hxy
            have ND : Aside0 (∀ j (h : j + 1 < ys.length), j + 1 < i + 1 → ys[j] ≠ ys[j + 1]) := ⟨by
              intro j' h h'
              by_cases hh : j' + 1 < i
              · exact AD.out j' h hh
              · obtain rfl : j' = j := by have := HJ.out; omega
                have h1 := HY.out
                have h2 := HX.out
                have h3 := HJ.out
                subst h3
                rw [← h1, ← h2]
                exact fun h => hxy h.symm⟩
            by_cases h0 : X.f0 = Y.f0
            · have b0 : (X.f0 == Y.f0) = true := by rw [h0]; simp
              have b1 : (X.f1 == Y.f1) = false := by
                rw [beq_eq_false_iff_ne]
                intro h1
                exact hxy (by cases X; cases Y; simp_all)
              clear hxy h0
              go_upto_region 18 with fail
              go_quiet (fail)
              go_wp2
              clear i2 i4
              go_roundg q1
              case measure => omega
              case rel => exact ⟨i + 1, by rw [i1.out], ⟨by have := KQ.out; omega⟩, ⟨by omega, .inl (by have := HI.out; omega)⟩, ND, ⟨S.out.drewN nq⟩⟩
            · have b0 : (X.f0 == Y.f0) = false := by rw [beq_eq_false_iff_ne]; exact h0
              clear hxy h0
              go_upto_region 18 with fail
              go_quiet (fail)
              go_wp2
              clear i2 i4
              go_roundg q1
              case measure => omega
              case rel => exact ⟨i + 1, by rw [i1.out], ⟨by have := KQ.out; omega⟩, ⟨by omega, .inl (by have := HI.out; omega)⟩, ND, ⟨S.out.drewN nq⟩⟩
        · have e2 : decide ((i : Int) < (ys.length : Int)) = false := decide_eq_false (by omega)
          have e2' : decide (i < ys.length) = false := decide_eq_false hi
          have hnd : ys.Nodup := sorted_nodup HSO.out (fun j h => AD.out j h (by omega))
          have HND : Aside0 ((l.map S61.f0).Nodup) := ⟨by rw [← HAC.out]; exact HPE.out.nodup_iff.1 hnd⟩
          have hu60 := Try.underlying79
          clear hnd KQ IL AD HPE HSO HYL
          go_upto_region 21 with (first | (go_at_call 41; (with_reducible refine (clone_item A c l _ (Kd.C_below HC.out S.out.below) HCC.out (by have := HL.out; omega)).mono ?_); rintro e_ w65 ⟨v65, rfl, ho, hb⟩; obtain ⟨A65, n65, c65, e65⟩ := R_form ho; subst e65; replace S := Aside0.mk (S.out.own ho hb); clear ho hb) | fail)
          have S1 := Aside0.mk (S.out.alloc #[.int .i64 (fan : Int), .slice A65 n65 c65, .slice none 0 0] 79)
          generalize w65.heap.size = g at S1 ⊢
          refine wp_genS S1 (fun W S => ?_)
          clear S1
          have k60_0 := blk_cell (S.out.at_box 0 rfl) 0; have f60_0 := blk_frozen (S.out.at_box 0 rfl) 0; have k60_1 := blk_cell (S.out.at_box 0 rfl) 1; have f60_1 := blk_frozen (S.out.at_box 0 rfl) 1; have k60_2 := blk_cell (S.out.at_box 0 rfl) 2; have f60_2 := blk_frozen (S.out.at_box 0 rfl) 2; simp only [List.getElem?_toArray, List.getElem?_cons_zero, List.getElem?_cons_succ] at k60_0 k60_1 k60_2
          go_upto_region 23 with (first | (go_at_call 42; have X_ := sort_items S.out 1 rfl (by have := HL.out; omega); (with_reducible refine X_.mono ?_); clear X_; rintro e_ w72 ⟨rfl, items, hp, hso, hS⟩; have HPI := Aside0.mk hp; have HSI := Aside0.mk hso; replace S := Aside0.mk hS; clear hp hso hS k60_0 k60_1 k60_2 f60_0 f60_1 f60_2) | ((with_reducible refine gate_dst (N := 75) rfl ?_); at_make; obtain ⟨i0, hi0, hz0, hz1, hz2⟩ := info_parts info57; refine wpList_make_own _ rfl _ _ 85 rfl w.heap.size 57 i0 (.agg #[.int .i64 0, .int .i64 0, .int .i64 0, .int .i64 0]) 4 Try.underlying85 hi0 hz0 hz1 .i64 .i64 _ l.length rfl rfl rfl (by rw [hz2]; have := HL.out; omega) (by have := HL.out; have : maxLen = 9223372036854775807 := rfl; omega) S.out.size ?_; intro w75 hown hg; replace S := Aside0.mk (mk0_ S.out k57 hown hg); clear hown hg hi0 hz0 hz1 hz2) | fail)
          obtain ⟨vb, hvb⟩ : ∃ vb, vb = Value.slice (some ⟨w72.heap.size, 0, none⟩) 0 l.length := ⟨_, rfl⟩
          rw [← hvb] at S ⊢
          clear hvb
          have k60_0 := blk_cell (S.out.at_box 1 rfl) 0; have f60_0 := blk_frozen (S.out.at_box 1 rfl) 0; have k60_1 := blk_cell (S.out.at_box 1 rfl) 1; have f60_1 := blk_frozen (S.out.at_box 1 rfl) 1; have k60_2 := blk_cell (S.out.at_box 1 rfl) 2; have f60_2 := blk_frozen (S.out.at_box 1 rfl) 2; simp only [List.getElem?_toArray, List.getElem?_cons_zero, List.getElem?_cons_succ] at k60_0 k60_1 k60_2
          have HIL : Aside0 (items.length = l.length) := ⟨HPI.out.length_eq⟩
          obtain ⟨A65', c65', e65, _, _⟩ := S.out.own_reads 2 rfl
          injection e65 with e65a e65b e65c
          subst e65a
          subst e65b
          subst e65c
          go_wp2
          clear k60_0 k60_1 k60_2 f60_0 f60_1 f60_2
          go_loopg [12, 81] (items.length + 1) (fun kq v12 v81 w' => ∃ (i : Nat) (acc : List S57), v81 = .int .i64 i ∧ Aside0 (kq + i = items.length + 1) ∧ Aside0 (i ≤ items.length) ∧ Aside0 (acc = (items.take i).map S61.f1) ∧ Aside0 (SepW.Sep w w' [YtjpkkdnilfoafaaW.SepW.Own _ k57 57 v12 acc, Box _ g 79 #[.int .i64 (fan : Int), .slice A65 items.length c65, .slice none 0 0], YtjpkkdnilfoafaaW.SepW.Own _ k61 61 (.slice A65 items.length c65) items, YtjpkkdnilfoafaaW.SepW.Own _ k23 23 (.slice A6 ys.length c6) ys]))
          case atStart => exact ⟨0, [], rfl, ⟨rfl⟩, ⟨Nat.zero_le _⟩, ⟨rfl⟩, S⟩
          case round =>
            clear S
            obtain ⟨i, acc, rfl, KQ, IL, AC, S⟩ := hrel
            cases gk with
            | zero => exact absurd KQ.out (by have := IL.out; omega)
            | succ q1 =>
            by_cases hi : i < items.length
            · have p0 : (0 : Int) ≤ (i : Int) := by omega
              have p1 : (i : Int) < (items.length : Int) := by omega
              have e1 : decide (i < items.length) = true := decide_eq_true hi
              have e2 : decide ((i : Int) < (items.length : Int)) = true := decide_eq_true p1
              obtain ⟨ad, ead⟩ := list_some (S.out.own_C 2 rfl) (by omega)
              subst ead
              obtain ⟨X, hX⟩ : ∃ X, X = items[i] := ⟨_, rfl⟩
              have hr := item_cells (S.out.own_C 2 rfl) i hi hi
              rw [← hX] at hr
              obtain ⟨r0, r1, r2, r3, r4, r5⟩ := hr
              have HX := Aside0.mk hX
              clear hX
              have HI := Aside0.mk hi
              have i1 : Aside0 (wrap64 ((i : Int) + 1) = ((i + 1 : Nat) : Int)) := ⟨by rw [IntWalk.wrap64_in _ (by have := HL.out; have := HIL.out; omega)]; omega⟩
              have i2 := i1.out
              have HAL : Aside0 (acc.length ≤ 10000) := ⟨by rw [AC.out]; simp only [List.length_map, List.length_take]; have := HL.out; have := HIL.out; omega⟩
              go_upto_region 26 with (first | ((with_reducible refine gate_dst (N := 14) rfl ?_); refine box_event ?hg (N := 14) ?hd (cs := #[.int .i64 0, .int .i64 0, .int .i64 0, .int .i64 0, .int .i64 0, .int .i64 0]) (t := 61) ?hr ?_; (case hd => rfl); (case hg => rfl); (case hr => first | (go_simp; done) | (go_simp; rfl)); intro g14 hg w14 hbox hb; replace S := Aside0.mk (show Sep _ _ (Box _ g14 61 #[.int .i64 X.f0.f0, .int .i64 X.f0.f1, .int .i64 X.f1.f0, .int .i64 X.f1.f1, .int .i64 X.f1.f2, .int .i64 X.f1.f3] :: _) from ((((((S.out.box hg hbox hb).set 0 rfl 0 (.int .i64 X.f0.f0)).set 0 rfl 1 (.int .i64 X.f0.f1)).set 0 rfl 2 (.int .i64 X.f1.f0)).set 0 rfl 3 (.int .i64 X.f1.f1)).set 0 rfl 4 (.int .i64 X.f1.f2)).set 0 rfl 5 (.int .i64 X.f1.f3)); have z14_0 := blk_cell hbox 0; have y14_0 := blk_frozen hbox 0; have z14_1 := blk_cell hbox 1; have y14_1 := blk_frozen hbox 1; have z14_2 := blk_cell hbox 2; have y14_2 := blk_frozen hbox 2; have z14_3 := blk_cell hbox 3; have y14_3 := blk_frozen hbox 3; have z14_4 := blk_cell hbox 4; have y14_4 := blk_frozen hbox 4; have z14_5 := blk_cell hbox 5; have y14_5 := blk_frozen hbox 5; simp only [List.getElem?_toArray, List.getElem?_cons_zero, List.getElem?_cons_succ] at z14_0 z14_1 z14_2 z14_3 z14_4 z14_5; clear hbox hb hg r0 r1 r2 r3 r4 r5) | fail)
              clear z14_0 y14_0 z14_1 y14_1 z14_2 y14_2 z14_3 y14_3 z14_4 y14_4 z14_5 y14_5
              refine wp_genS S (fun W S => ?_)
              have k14_0 := blk_cell (S.out.at_box 0 rfl) 0; have k14_1 := blk_cell (S.out.at_box 0 rfl) 1; have k14_2 := blk_cell (S.out.at_box 0 rfl) 2; have k14_3 := blk_cell (S.out.at_box 0 rfl) 3; have k14_4 := blk_cell (S.out.at_box 0 rfl) 4; have k14_5 := blk_cell (S.out.at_box 0 rfl) 5; simp only [List.getElem?_toArray, List.getElem?_cons_zero, List.getElem?_cons_succ] at k14_0 k14_1 k14_2 k14_3 k14_4 k14_5
              go_wp2_with (first | ((with_reducible refine gate_builtin (b := .append) (xs := #[.tmp 85, .tmp 88]) rfl ?_); at_builtin; obtain ⟨ok, hR, hnew, hup⟩ := S.out.append 1 rfl; refine Kd.R_append k57 (w0 := w) w.heap.size rfl (.tmp 85) (.tmp 88) 85 57 (.agg #[.int .i64 0, .int .i64 0, .int .i64 0, .int .i64 0]) 32 rfl Try.underlying85 info57 rfl (by decide) (by omega) u12 acc X.f1 [.int .i64 X.f1.f0, .int .i64 X.f1.f1, .int .i64 X.f1.f2, .int .i64 X.f1.f3] ok (fun _ => False) rfl rfl (k57_mkM _ _ _ _) (fun _ h => h.elim) hnew hR S.out.below S.out.size (by have := HAL.out; omega) ?_; intro v89 w89 ho hb hg hat; replace S := Aside0.mk (hup _ w89 _ ho hb hg); clear hup hR hnew ho hb hg hat) | fail)
              clear i2
              go_roundg q1
              case measure => omega
              case rel => exact ⟨i + 1, acc ++ [X.f1], by rw [i1.out], ⟨by have := KQ.out; omega⟩, ⟨HI.out⟩, ⟨by rw [AC.out, take_more _ _ HI.out, List.map_append, HX.out]; rfl⟩, ⟨S.out.drop 0⟩⟩
            · obtain rfl : i = items.length := by have := IL.out; omega
              have e2 : decide ((items.length : Int) < (items.length : Int)) = false := decide_eq_false (by omega)
              have e2' : decide (items.length < items.length) = false := decide_eq_false (by omega)
              clear hi
              have hac := AC.out
              rw [List.take_length] at hac
              have HAC2 := Aside0.mk hac
              have HAL2 : Aside0 (acc.length = l.length) := ⟨by rw [hac, List.length_map]; exact HIL.out⟩
              clear hac AC KQ IL
              obtain ⟨A12, c12, e12⟩ := Kd.R_slice (S.out.at_own 0 rfl)
              subst e12
              replace S := Aside0.mk ((S.out.rows_nil k57 57).hdr_nil 85)
              have HCA := Aside0.mk (S.out.own_C 2 rfl)
              obtain ⟨_, _, hcc12, hcc12b, _⟩ := S.out.own_reads 2 rfl
              injection hcc12 with hcc12a _ hcc12c
              subst hcc12a
              subst hcc12c
              have HCB := Aside0.mk hcc12b
              clear hcc12b
              have HAF : Aside0 (acc.length = 0 ∨ ∃ b, A12 = some ⟨b, 0, none⟩) := ⟨by
                rcases Nat.eq_zero_or_pos acc.length with h | h
                · exact .inl h
                · obtain ⟨b, _, e, _⟩ := Kd.R_form (S.out.at_own 2 rfl) h
                  injection e with e
                  exact .inr ⟨b, e⟩⟩
              go_wp2
              go_loopg [12] (acc.length + 1) (fun kq v12 w' => ∃ (cur : List S57) (lss : List (List S57)) (vs : List Value) (lv : Value) (Ac : Option Addr) (cc k : Nat), v12 = .slice Ac cur.length cc ∧ Aside0 (cur.length < kq) ∧ Aside0 (vs.length + cur.length ≤ 10000) ∧ Aside0 (cur.length ≤ k ∧ lss ++ lvF fan k cur = levelsOf fan acc) ∧ Aside0 (cur.length = 0 ∨ ∃ b, Ac = some ⟨b, 0, none⟩) ∧ Aside0 (k57.C w' Ac cur.length cur) ∧ Aside0 (cur.length ≤ cc) ∧ Aside0 (SepW.Sep w w' [Hdr _ 85 lv vs, YtjpkkdnilfoafaaW.SepW.Rows _ k57 57 vs lss, YtjpkkdnilfoafaaW.SepW.Own _ k57 57 (.slice A12 acc.length c12) acc, Box _ g 79 #[.int .i64 (fan : Int), .slice A65 items.length c65, lv], YtjpkkdnilfoafaaW.SepW.Own _ k61 61 (.slice A65 items.length c65) items, YtjpkkdnilfoafaaW.SepW.Own _ k23 23 (.slice A6 ys.length c6) ys]))
              case atStart => exact ⟨acc, [], [], .slice none 0 0, A12, c12, acc.length, rfl, ⟨Nat.lt_succ_self _⟩, ⟨by have := HAL2.out; have := HL.out; simp only [List.length_nil]; omega⟩, ⟨Nat.le_refl _, rfl⟩, HAF, HCA, HCB, S⟩
              case round =>
                clear S HCA HCB HAF
                obtain ⟨cur, lss, vs, lv, Ac, cc, k, rfl, KQ, VL, LV, AF, CC, CB, S⟩ := hrel
                cases gk with
                | zero => exact absurd KQ.out (by omega)
                | succ q1 =>
                have k60_0 := blk_cell (S.out.at_box 3 rfl) 0
                have f60_0 := blk_frozen (S.out.at_box 3 rfl) 0
                have k60_1 := blk_cell (S.out.at_box 3 rfl) 1
                have f60_1 := blk_frozen (S.out.at_box 3 rfl) 1
                have k60_2 := blk_cell (S.out.at_box 3 rfl) 2
                have f60_2 := blk_frozen (S.out.at_box 3 rfl) 2
                simp only [List.getElem?_toArray, List.getElem?_cons_zero, List.getElem?_cons_succ] at k60_0 k60_1 k60_2
                by_cases hp : 0 < cur.length
                · obtain ⟨b, eb⟩ : ∃ b, Ac = some ⟨b, 0, none⟩ := AF.out.resolve_left (by omega)
                  subst eb
                  have e1 : decide (0 < (cur.length : Int)) = true := decide_eq_true (by omega)
                  have e2 : decide (0 < cur.length) = true := decide_eq_true hp
                  have HP := Aside0.mk hp
                  have HJ := Aside0.mk (joinL_pos (fan := fan) (by have := H2.out; omega) hp)
                  have HVL : Aside0 (vs.length = lss.length) := ⟨rows_len S.out 1 rfl⟩
                  clear hp AF
                  go_upto_region 30 with (first | (go_at_call 47; (with_reducible refine (join_walk g b 0 cc fan cur (by have := H2.out; omega) (by have := H16.out; omega) (by have := VL.out; omega) CB.out HP.out _ k60_0 CC.out).mono ?_); rintro e_ w96 ⟨v96, rfl, ho, hb⟩; obtain ⟨b96, c96, e96, _⟩ := Kd.R_form ho HJ.out; subst e96; replace S := Aside0.mk (SepW.Sep.rows_take ((S.out.own ho hb).perm ((List.Perm.cons _ (List.Perm.swap _ _ _)).trans (List.Perm.swap _ _ _)))); clear ho hb k60_0 k60_1 k60_2 f60_0 f60_1 f60_2; have k60_0 := blk_cell (S.out.at_box 3 rfl) 0; have f60_0 := blk_frozen (S.out.at_box 3 rfl) 0; have k60_1 := blk_cell (S.out.at_box 3 rfl) 1; have f60_1 := blk_frozen (S.out.at_box 3 rfl) 1; have k60_2 := blk_cell (S.out.at_box 3 rfl) 2; have f60_2 := blk_frozen (S.out.at_box 3 rfl) 2; simp only [List.getElem?_toArray, List.getElem?_cons_zero, List.getElem?_cons_succ] at k60_0 k60_1 k60_2) | fail)
                  go_upto_region 31 with (first | ((with_reducible refine gate_builtin (b := .append) (xs := #[.tmp 101, .tmp 103]) rfl ?_); at_builtin; obtain ⟨ho, hup⟩ := S.out.hdr_append 1 rfl; refine print_append_cells (w0 := w) w.heap.size rfl (.tmp 101) (.tmp 103) 77 85 (.slice none 0 0) 1 24 rfl Try.underlying77 info85 rfl (by decide) (by omega) _ _ vs [(Value.slice (some ⟨b96, 0, none⟩) (joinL cur fan).length c96)] rfl rfl rfl (by simp [Value.oneCell']) ho S.out.below S.out.size (by have := VL.out; omega) ?_; intro v5 w5_ hown hb hg hat; have hown' := Aside0.mk hown; replace S := Aside0.mk (hup v5 w5_ (vs ++ [(Value.slice (some ⟨b96, 0, none⟩) (joinL cur fan).length c96)]) (by rw [show (vs ++ [(Value.slice (some ⟨b96, 0, none⟩) (joinL cur fan).length c96)]).length = vs.length + 1 from (by rw [List.length_append]; rfl)]; exact hown'.out) hb hg hat); clear ho hup hown hown' hb hg hat; obtain ⟨A5, n5, c5, e5⟩ : ∃ A n c, v5 = .slice A n c := (by obtain ⟨A_, c_, e_⟩ := S.out.hdr_form 1 rfl; exact ⟨A_, _, c_, e_⟩); subst e5; clear k60_0 k60_1 k60_2 f60_0 f60_1 f60_2; have k60_0 := blk_cell (S.out.at_box 3 rfl) 0; have f60_0 := blk_frozen (S.out.at_box 3 rfl) 0; have k60_1 := blk_cell (S.out.at_box 3 rfl) 1; have f60_1 := blk_frozen (S.out.at_box 3 rfl) 1; have k60_2 := blk_cell (S.out.at_box 3 rfl) 2; have f60_2 := blk_frozen (S.out.at_box 3 rfl) 2; simp only [List.getElem?_toArray, List.getElem?_cons_zero, List.getElem?_cons_succ] at k60_0 k60_1 k60_2) | fail)
                  have S9 := Aside0.mk ((S.out.set 3 rfl 2 (.slice A5 n5 c5)))
                  refine wp_genS S9 (fun W S => ?_)
                  clear S9 k60_0 k60_1 k60_2 f60_0 f60_1 f60_2
                  obtain ⟨hCn, hCm⟩ : k57.C W (some ⟨b96, 0, none⟩) (joinL cur fan).length (joinL cur fan) ∧ (joinL cur fan).length ≤ c96 := rows_C (m := (joinL cur fan).length) S.out 0 rfl vs.length (by simp) (by rw [HVL.out]; simp)
                  have HCn := Aside0.mk hCn
                  have HCm := Aside0.mk hCm
                  have S8 := Aside0.mk S.out.swap
                  clear hCn hCm S
                  by_cases h1 : (joinL cur fan).length = 1
                  · have b1 : ((joinL cur fan).length == 1) = true := by rw [h1]; rfl
                    have b2 : (((joinL cur fan).length : Int) == 1) = true := by rw [h1]; rfl
                    have hfl : lss ++ [joinL cur fan] = levelsOf fan acc := by
                      obtain ⟨hk, hlv⟩ := LV.out
                      obtain ⟨k', rfl⟩ : ∃ k', k = k' + 1 := ⟨k - 1, by have := HP.out; omega⟩
                      rw [← hlv, lvF, if_neg (by have := HP.out; omega), if_pos h1]
                    have HFL := Aside0.mk hfl
                    clear hfl
                    go_wp2
                    go_ret2
                    exact ⟨S8.out.below, .inr ⟨by have := H2.out; omega, by have := H16.out; omega, HL.out, HAV.out, HND.out, g, items, rfl, HPI.out, HSI.out, by rw [Int.toNat_natCast, ← HAC2.out, ← HFL.out]; exact tree_up S8.out⟩⟩
                  · have b1 : ((joinL cur fan).length == 1) = false := by rw [beq_eq_false_iff_ne]; exact h1
                    have b2 : (((joinL cur fan).length : Int) == 1) = false := by rw [beq_eq_false_iff_ne]; omega
                    have H1 := Aside0.mk h1
                    clear h1
                    go_wp2
                    go_roundg q1
                    case measure => omega
                    case rel =>
                      have hless := joinL_less H2.out H1.out HP.out
                      refine ⟨joinL cur fan, lss ++ [joinL cur fan], vs ++ [(Value.slice (some ⟨b96, 0, none⟩) (joinL cur fan).length c96)], .slice A5 n5 c5, some ⟨b96, 0, none⟩, c96, k - 1, rfl, ⟨by have := KQ.out; omega⟩, ⟨by have := VL.out; rw [List.length_append]; simp only [List.length_singleton]; omega⟩, ⟨by have := LV.out.1; omega, ?_⟩, ⟨.inr ⟨b96, rfl⟩⟩, HCn, HCm, S8⟩
                      obtain ⟨hk, hlv⟩ := LV.out
                      obtain ⟨k', rfl⟩ : ∃ k', k = k' + 1 := ⟨k - 1, by have := HP.out; omega⟩
                      rw [← hlv, lvF, if_neg (by have := HP.out; omega), if_neg H1.out, List.append_assoc]
                      rfl
                · have e1 : decide (0 < (cur.length : Int)) = false := decide_eq_false (by omega)
                  have e2 : decide (0 < cur.length) = false := decide_eq_false hp
                  obtain ⟨A5, c5, e5⟩ := S.out.hdr_form 0 rfl
                  subst e5
                  have S8 := S
                  have hfl : lss = levelsOf fan acc := by
                    obtain ⟨hk, hlv⟩ := LV.out
                    rw [← hlv]
                    cases k with
                    | zero => rw [lvF, List.append_nil]
                    | succ k => rw [lvF, if_pos (by omega), List.append_nil]
                  have HFL := Aside0.mk hfl
                  clear hfl
                  go_wp2
                  go_ret2
                  exact ⟨S8.out.below, .inr ⟨by have := H2.out; omega, by have := H16.out; omega, HL.out, HAV.out, HND.out, g, items, rfl, HPI.out, HSI.out, by rw [Int.toNat_natCast, ← HAC2.out, ← HFL.out]; exact tree_up S8.out⟩⟩
set_option maxHeartbeats 40000000 in
set_option maxRecDepth 100000 in
theorem new_arg (v : Value) (l : List S61) (fan : Int) (h : fan < 2 ∨ 16 < fan) (w : World) :
    Calls Try.prog 22 #[v, .int .i64 fan] w fun e w' => NewR l fan w e w' := by
  by_cases h2 : fan < 2
  · have d1 : decide (fan < 2) = true := decide_eq_true h2
    go_enter Try.func22, Try.ntmps22
    go_wp2
    go_ret2
    exact ⟨Below.refl _ _, .inl ⟨1, rfl, .inl ⟨rfl, h⟩⟩⟩
  · have h3 : 16 < fan := h.resolve_left h2
    have d1 : decide (fan < 2) = false := decide_eq_false h2
    have d2 : decide (16 < fan) = true := decide_eq_true h3
    go_enter Try.func22, Try.ntmps22
    go_wp2
    go_ret2
    exact ⟨Below.refl _ _, .inl ⟨1, rfl, .inl ⟨rfl, h⟩⟩⟩
theorem new_long (A : Option Addr) (c : Nat) (l : List S61) (fan : Int) (h2 : 2 ≤ fan) (h16 : fan ≤ 16) (hl : 10000 < l.length) (w : World) :
    Calls Try.prog 22 #[.slice A l.length c, .int .i64 fan] w fun e w' => NewR l fan w e w' := by
  have H2 := Aside0.mk h2
  have H16 := Aside0.mk h16
  have d1 : decide (fan < 2) = false := decide_eq_false (by omega)
  have d2 : decide (16 < fan) = false := decide_eq_false (by omega)
  have d3 : decide (10000 < (l.length : Int)) = true := decide_eq_true (by omega)
  have d3' : decide (10000 < l.length) = true := decide_eq_true hl
  clear h2 h16
  go_enter Try.func22, Try.ntmps22
  go_wp2
  go_ret2
  exact ⟨Below.refl _ _, .inl ⟨5, rfl, .inr (.inl ⟨rfl, H2.out, H16.out, hl⟩)⟩⟩
theorem new_ct (A : Option Addr) (c : Nat) (l : List S61) (fan : Int) (w : World) (hC : k61.C w A l.length l) (hc : l.length ≤ c) :
    Calls Try.prog 22 #[.slice A l.length c, .int .i64 fan] w fun e w' => NewR l fan w e w' := by
  by_cases h : fan < 2 ∨ 16 < fan
  · exact new_arg _ l fan h w
  · by_cases hl : 10000 < l.length
    · exact new_long A c l fan (by omega) (by omega) hl w
    · have := new_main A c l fan.toNat (by omega) (by omega) (by omega) w hC hc
      rwa [show ((fan.toNat : Nat) : Int) = fan by omega] at this
end Go.Proofs.Ytjpkkdnilfoafaa.Hand
end
section
namespace Go.Proofs.Ytjpkkdnilfoafaa.Hand
open Go.Proofs.YtjpkkdnilfoafaaW Go.RowKit Go.Proofs.YtjpkkdnilfoafaaW.PrintWords Go.Proofs.YtjpkkdnilfoafaaW.PrintLast Go.Proofs.YtjpkkdnilfoafaaW.PrintMore Go.Proofs.YtjpkkdnilfoafaaW.SepW Go.Proofs.Ytjpkkdnilfoafaa.PALL Go.Proofs.Ytjpkkdnilfoafaa.Plain
set_option linter.unusedVariables false
set_option linter.unusedSimpArgs false
theorem valid_ct (b : S57) (w : World) : Calls Try.prog 57 #[.agg #[.int .i64 b.f0, .int .i64 b.f1, .int .i64 b.f2, .int .i64 b.f3]] w fun e w' => e = .returned (.bool (validB b)) ∧ Below w.heap.size w w' :=
  grid_valid.calls _ _ _ _ _ w (valid_f b)
set_option maxHeartbeats 40000000 in
set_option maxRecDepth 100000 in
theorem meets_ct (a b : S57) (w : World) : Calls Try.prog 66 #[.agg #[.int .i64 a.f0, .int .i64 a.f1, .int .i64 a.f2, .int .i64 a.f3], .agg #[.int .i64 b.f0, .int .i64 b.f1, .int .i64 b.f2, .int .i64 b.f3]] w fun e w' => e = .returned (.bool (meetsB a b)) ∧ Below w.heap.size w w' := by
  have hu24 := Try.underlying57
  go_enter Try.func66, Try.ntmps66
  go_upto_region 1 with fail
  have S1 := Aside0.mk (((SepW.Sep.start w).alloc #[.int .i64 a.f0, .int .i64 a.f1, .int .i64 a.f2, .int .i64 a.f3] 57).alloc #[.int .i64 b.f0, .int .i64 b.f1, .int .i64 b.f2, .int .i64 b.f3] 57)
  rw [World.size_alloc] at S1
  generalize w.heap.size + 1 = g3 at S1 ⊢
  have S := S1
  clear S1
  refine wp_genS (L := [Box _ g3 57 #[.int .i64 b.f0, .int .i64 b.f1, .int .i64 b.f2, .int .i64 b.f3], Box _ w.heap.size 57 #[.int .i64 a.f0, .int .i64 a.f1, .int .i64 a.f2, .int .i64 a.f3]]) S (fun W S => ?_)
  have k2_0 := blk_cell (S.out.at_box 1 rfl) 0; have k2_1 := blk_cell (S.out.at_box 1 rfl) 1; have k2_2 := blk_cell (S.out.at_box 1 rfl) 2; have k2_3 := blk_cell (S.out.at_box 1 rfl) 3; have k3_0 := blk_cell (S.out.at_box 0 rfl) 0; have k3_1 := blk_cell (S.out.at_box 0 rfl) 1; have k3_2 := blk_cell (S.out.at_box 0 rfl) 2; have k3_3 := blk_cell (S.out.at_box 0 rfl) 3; simp only [List.getElem?_toArray, List.getElem?_cons_zero, List.getElem?_cons_succ] at k2_0 k2_1 k2_2 k2_3 k3_0 k3_1 k3_2 k3_3
  cases hva : validB a
  · have hm : meetsB a b = false := by unfold meetsB; rw [hva]; rfl
    have HM := Aside0.mk hm
    have HVA := Aside0.mk hva
    clear hva hm
    go_wp2_with (first | (go_at_call 57; have X_ := fun W => valid_ct a W; rw [HVA.out] at X_; (with_reducible refine (X_ _).mono ?_); clear X_; rintro e_ w6 ⟨rfl, hb⟩; replace S := Aside0.mk (S.out.step hb); clear hb; clear k2_0 k2_1 k2_2 k2_3 k3_0 k3_1 k3_2 k3_3; have k2_0 := blk_cell (S.out.at_box 1 rfl) 0; have k2_1 := blk_cell (S.out.at_box 1 rfl) 1; have k2_2 := blk_cell (S.out.at_box 1 rfl) 2; have k2_3 := blk_cell (S.out.at_box 1 rfl) 3; have k3_0 := blk_cell (S.out.at_box 0 rfl) 0; have k3_1 := blk_cell (S.out.at_box 0 rfl) 1; have k3_2 := blk_cell (S.out.at_box 0 rfl) 2; have k3_3 := blk_cell (S.out.at_box 0 rfl) 3; simp only [List.getElem?_toArray, List.getElem?_cons_zero, List.getElem?_cons_succ] at k2_0 k2_1 k2_2 k2_3 k3_0 k3_1 k3_2 k3_3) | (go_at_call 57; have X_ := fun W => valid_ct b W; rw [HVB.out] at X_; (with_reducible refine (X_ _).mono ?_); clear X_; rintro e_ w9 ⟨rfl, hb⟩; replace S := Aside0.mk (S.out.step hb); clear hb; clear k2_0 k2_1 k2_2 k2_3 k3_0 k3_1 k3_2 k3_3; have k2_0 := blk_cell (S.out.at_box 1 rfl) 0; have k2_1 := blk_cell (S.out.at_box 1 rfl) 1; have k2_2 := blk_cell (S.out.at_box 1 rfl) 2; have k2_3 := blk_cell (S.out.at_box 1 rfl) 3; have k3_0 := blk_cell (S.out.at_box 0 rfl) 0; have k3_1 := blk_cell (S.out.at_box 0 rfl) 1; have k3_2 := blk_cell (S.out.at_box 0 rfl) 2; have k3_3 := blk_cell (S.out.at_box 0 rfl) 3; simp only [List.getElem?_toArray, List.getElem?_cons_zero, List.getElem?_cons_succ] at k2_0 k2_1 k2_2 k2_3 k3_0 k3_1 k3_2 k3_3) | fail)
    go_ret
    exact ⟨by rw [HM.out]; rfl, S.out.below⟩
  · have HVA := Aside0.mk hva
    clear hva
    cases hvb : validB b
    · have hm : meetsB a b = false := by unfold meetsB; rw [HVA.out, hvb]; rfl
      have HM := Aside0.mk hm
      have HVB := Aside0.mk hvb
      clear hvb hm
      go_wp2_with (first | (go_at_call 57; have X_ := fun W => valid_ct a W; rw [HVA.out] at X_; (with_reducible refine (X_ _).mono ?_); clear X_; rintro e_ w6 ⟨rfl, hb⟩; replace S := Aside0.mk (S.out.step hb); clear hb; clear k2_0 k2_1 k2_2 k2_3 k3_0 k3_1 k3_2 k3_3; have k2_0 := blk_cell (S.out.at_box 1 rfl) 0; have k2_1 := blk_cell (S.out.at_box 1 rfl) 1; have k2_2 := blk_cell (S.out.at_box 1 rfl) 2; have k2_3 := blk_cell (S.out.at_box 1 rfl) 3; have k3_0 := blk_cell (S.out.at_box 0 rfl) 0; have k3_1 := blk_cell (S.out.at_box 0 rfl) 1; have k3_2 := blk_cell (S.out.at_box 0 rfl) 2; have k3_3 := blk_cell (S.out.at_box 0 rfl) 3; simp only [List.getElem?_toArray, List.getElem?_cons_zero, List.getElem?_cons_succ] at k2_0 k2_1 k2_2 k2_3 k3_0 k3_1 k3_2 k3_3) | (go_at_call 57; have X_ := fun W => valid_ct b W; rw [HVB.out] at X_; (with_reducible refine (X_ _).mono ?_); clear X_; rintro e_ w9 ⟨rfl, hb⟩; replace S := Aside0.mk (S.out.step hb); clear hb; clear k2_0 k2_1 k2_2 k2_3 k3_0 k3_1 k3_2 k3_3; have k2_0 := blk_cell (S.out.at_box 1 rfl) 0; have k2_1 := blk_cell (S.out.at_box 1 rfl) 1; have k2_2 := blk_cell (S.out.at_box 1 rfl) 2; have k2_3 := blk_cell (S.out.at_box 1 rfl) 3; have k3_0 := blk_cell (S.out.at_box 0 rfl) 0; have k3_1 := blk_cell (S.out.at_box 0 rfl) 1; have k3_2 := blk_cell (S.out.at_box 0 rfl) 2; have k3_3 := blk_cell (S.out.at_box 0 rfl) 3; simp only [List.getElem?_toArray, List.getElem?_cons_zero, List.getElem?_cons_succ] at k2_0 k2_1 k2_2 k2_3 k3_0 k3_1 k3_2 k3_3) | fail)
      go_ret
      exact ⟨by rw [HM.out]; rfl, S.out.below⟩
    · have HVB := Aside0.mk hvb
      clear hvb
      by_cases c2 : a.f0 ≤ b.f2
      · have e2 : decide (a.f0 ≤ b.f2) = true := decide_eq_true c2
        have C2 := Aside0.mk c2
        clear c2
        by_cases c3 : b.f0 ≤ a.f2
        · have e3 : decide (b.f0 ≤ a.f2) = true := decide_eq_true c3
          have C3 := Aside0.mk c3
          clear c3
          by_cases c4 : a.f1 ≤ b.f3
          · have e4 : decide (a.f1 ≤ b.f3) = true := decide_eq_true c4
            have C4 := Aside0.mk c4
            clear c4
            by_cases c5 : b.f1 ≤ a.f3
            · have e5 : decide (b.f1 ≤ a.f3) = true := decide_eq_true c5
              have C5 := Aside0.mk c5
              clear c5
              have hm : meetsB a b = true := by unfold meetsB; rw [HVA.out, HVB.out, Bool.and_self, Bool.true_and]; exact decide_eq_true ⟨C2.out, C3.out, C4.out, C5.out⟩
              have HM := Aside0.mk hm
              clear hm
              go_wp2_with (first | (go_at_call 57; have X_ := fun W => valid_ct a W; rw [HVA.out] at X_; (with_reducible refine (X_ _).mono ?_); clear X_; rintro e_ w6 ⟨rfl, hb⟩; replace S := Aside0.mk (S.out.step hb); clear hb; clear k2_0 k2_1 k2_2 k2_3 k3_0 k3_1 k3_2 k3_3; have k2_0 := blk_cell (S.out.at_box 1 rfl) 0; have k2_1 := blk_cell (S.out.at_box 1 rfl) 1; have k2_2 := blk_cell (S.out.at_box 1 rfl) 2; have k2_3 := blk_cell (S.out.at_box 1 rfl) 3; have k3_0 := blk_cell (S.out.at_box 0 rfl) 0; have k3_1 := blk_cell (S.out.at_box 0 rfl) 1; have k3_2 := blk_cell (S.out.at_box 0 rfl) 2; have k3_3 := blk_cell (S.out.at_box 0 rfl) 3; simp only [List.getElem?_toArray, List.getElem?_cons_zero, List.getElem?_cons_succ] at k2_0 k2_1 k2_2 k2_3 k3_0 k3_1 k3_2 k3_3) | (go_at_call 57; have X_ := fun W => valid_ct b W; rw [HVB.out] at X_; (with_reducible refine (X_ _).mono ?_); clear X_; rintro e_ w9 ⟨rfl, hb⟩; replace S := Aside0.mk (S.out.step hb); clear hb; clear k2_0 k2_1 k2_2 k2_3 k3_0 k3_1 k3_2 k3_3; have k2_0 := blk_cell (S.out.at_box 1 rfl) 0; have k2_1 := blk_cell (S.out.at_box 1 rfl) 1; have k2_2 := blk_cell (S.out.at_box 1 rfl) 2; have k2_3 := blk_cell (S.out.at_box 1 rfl) 3; have k3_0 := blk_cell (S.out.at_box 0 rfl) 0; have k3_1 := blk_cell (S.out.at_box 0 rfl) 1; have k3_2 := blk_cell (S.out.at_box 0 rfl) 2; have k3_3 := blk_cell (S.out.at_box 0 rfl) 3; simp only [List.getElem?_toArray, List.getElem?_cons_zero, List.getElem?_cons_succ] at k2_0 k2_1 k2_2 k2_3 k3_0 k3_1 k3_2 k3_3) | fail)
              go_ret
              exact ⟨by rw [HM.out]; rfl, S.out.below⟩
            · have e5 : decide (b.f1 ≤ a.f3) = false := decide_eq_false c5
              have hm : meetsB a b = false := by unfold meetsB; rw [HVA.out, HVB.out, Bool.and_self, Bool.true_and]; exact decide_eq_false (by omega)
              have HM := Aside0.mk hm
              clear c5 hm
              go_wp2_with (first | (go_at_call 57; have X_ := fun W => valid_ct a W; rw [HVA.out] at X_; (with_reducible refine (X_ _).mono ?_); clear X_; rintro e_ w6 ⟨rfl, hb⟩; replace S := Aside0.mk (S.out.step hb); clear hb; clear k2_0 k2_1 k2_2 k2_3 k3_0 k3_1 k3_2 k3_3; have k2_0 := blk_cell (S.out.at_box 1 rfl) 0; have k2_1 := blk_cell (S.out.at_box 1 rfl) 1; have k2_2 := blk_cell (S.out.at_box 1 rfl) 2; have k2_3 := blk_cell (S.out.at_box 1 rfl) 3; have k3_0 := blk_cell (S.out.at_box 0 rfl) 0; have k3_1 := blk_cell (S.out.at_box 0 rfl) 1; have k3_2 := blk_cell (S.out.at_box 0 rfl) 2; have k3_3 := blk_cell (S.out.at_box 0 rfl) 3; simp only [List.getElem?_toArray, List.getElem?_cons_zero, List.getElem?_cons_succ] at k2_0 k2_1 k2_2 k2_3 k3_0 k3_1 k3_2 k3_3) | (go_at_call 57; have X_ := fun W => valid_ct b W; rw [HVB.out] at X_; (with_reducible refine (X_ _).mono ?_); clear X_; rintro e_ w9 ⟨rfl, hb⟩; replace S := Aside0.mk (S.out.step hb); clear hb; clear k2_0 k2_1 k2_2 k2_3 k3_0 k3_1 k3_2 k3_3; have k2_0 := blk_cell (S.out.at_box 1 rfl) 0; have k2_1 := blk_cell (S.out.at_box 1 rfl) 1; have k2_2 := blk_cell (S.out.at_box 1 rfl) 2; have k2_3 := blk_cell (S.out.at_box 1 rfl) 3; have k3_0 := blk_cell (S.out.at_box 0 rfl) 0; have k3_1 := blk_cell (S.out.at_box 0 rfl) 1; have k3_2 := blk_cell (S.out.at_box 0 rfl) 2; have k3_3 := blk_cell (S.out.at_box 0 rfl) 3; simp only [List.getElem?_toArray, List.getElem?_cons_zero, List.getElem?_cons_succ] at k2_0 k2_1 k2_2 k2_3 k3_0 k3_1 k3_2 k3_3) | fail)
              go_ret
              exact ⟨by rw [HM.out]; rfl, S.out.below⟩
          · have e4 : decide (a.f1 ≤ b.f3) = false := decide_eq_false c4
            have hm : meetsB a b = false := by unfold meetsB; rw [HVA.out, HVB.out, Bool.and_self, Bool.true_and]; exact decide_eq_false (by omega)
            have HM := Aside0.mk hm
            clear c4 hm
            go_wp2_with (first | (go_at_call 57; have X_ := fun W => valid_ct a W; rw [HVA.out] at X_; (with_reducible refine (X_ _).mono ?_); clear X_; rintro e_ w6 ⟨rfl, hb⟩; replace S := Aside0.mk (S.out.step hb); clear hb; clear k2_0 k2_1 k2_2 k2_3 k3_0 k3_1 k3_2 k3_3; have k2_0 := blk_cell (S.out.at_box 1 rfl) 0; have k2_1 := blk_cell (S.out.at_box 1 rfl) 1; have k2_2 := blk_cell (S.out.at_box 1 rfl) 2; have k2_3 := blk_cell (S.out.at_box 1 rfl) 3; have k3_0 := blk_cell (S.out.at_box 0 rfl) 0; have k3_1 := blk_cell (S.out.at_box 0 rfl) 1; have k3_2 := blk_cell (S.out.at_box 0 rfl) 2; have k3_3 := blk_cell (S.out.at_box 0 rfl) 3; simp only [List.getElem?_toArray, List.getElem?_cons_zero, List.getElem?_cons_succ] at k2_0 k2_1 k2_2 k2_3 k3_0 k3_1 k3_2 k3_3) | (go_at_call 57; have X_ := fun W => valid_ct b W; rw [HVB.out] at X_; (with_reducible refine (X_ _).mono ?_); clear X_; rintro e_ w9 ⟨rfl, hb⟩; replace S := Aside0.mk (S.out.step hb); clear hb; clear k2_0 k2_1 k2_2 k2_3 k3_0 k3_1 k3_2 k3_3; have k2_0 := blk_cell (S.out.at_box 1 rfl) 0; have k2_1 := blk_cell (S.out.at_box 1 rfl) 1; have k2_2 := blk_cell (S.out.at_box 1 rfl) 2; have k2_3 := blk_cell (S.out.at_box 1 rfl) 3; have k3_0 := blk_cell (S.out.at_box 0 rfl) 0; have k3_1 := blk_cell (S.out.at_box 0 rfl) 1; have k3_2 := blk_cell (S.out.at_box 0 rfl) 2; have k3_3 := blk_cell (S.out.at_box 0 rfl) 3; simp only [List.getElem?_toArray, List.getElem?_cons_zero, List.getElem?_cons_succ] at k2_0 k2_1 k2_2 k2_3 k3_0 k3_1 k3_2 k3_3) | fail)
            go_ret
            exact ⟨by rw [HM.out]; rfl, S.out.below⟩
        · have e3 : decide (b.f0 ≤ a.f2) = false := decide_eq_false c3
          have hm : meetsB a b = false := by unfold meetsB; rw [HVA.out, HVB.out, Bool.and_self, Bool.true_and]; exact decide_eq_false (by omega)
          have HM := Aside0.mk hm
          clear c3 hm
          go_wp2_with (first | (go_at_call 57; have X_ := fun W => valid_ct a W; rw [HVA.out] at X_; (with_reducible refine (X_ _).mono ?_); clear X_; rintro e_ w6 ⟨rfl, hb⟩; replace S := Aside0.mk (S.out.step hb); clear hb; clear k2_0 k2_1 k2_2 k2_3 k3_0 k3_1 k3_2 k3_3; have k2_0 := blk_cell (S.out.at_box 1 rfl) 0; have k2_1 := blk_cell (S.out.at_box 1 rfl) 1; have k2_2 := blk_cell (S.out.at_box 1 rfl) 2; have k2_3 := blk_cell (S.out.at_box 1 rfl) 3; have k3_0 := blk_cell (S.out.at_box 0 rfl) 0; have k3_1 := blk_cell (S.out.at_box 0 rfl) 1; have k3_2 := blk_cell (S.out.at_box 0 rfl) 2; have k3_3 := blk_cell (S.out.at_box 0 rfl) 3; simp only [List.getElem?_toArray, List.getElem?_cons_zero, List.getElem?_cons_succ] at k2_0 k2_1 k2_2 k2_3 k3_0 k3_1 k3_2 k3_3) | (go_at_call 57; have X_ := fun W => valid_ct b W; rw [HVB.out] at X_; (with_reducible refine (X_ _).mono ?_); clear X_; rintro e_ w9 ⟨rfl, hb⟩; replace S := Aside0.mk (S.out.step hb); clear hb; clear k2_0 k2_1 k2_2 k2_3 k3_0 k3_1 k3_2 k3_3; have k2_0 := blk_cell (S.out.at_box 1 rfl) 0; have k2_1 := blk_cell (S.out.at_box 1 rfl) 1; have k2_2 := blk_cell (S.out.at_box 1 rfl) 2; have k2_3 := blk_cell (S.out.at_box 1 rfl) 3; have k3_0 := blk_cell (S.out.at_box 0 rfl) 0; have k3_1 := blk_cell (S.out.at_box 0 rfl) 1; have k3_2 := blk_cell (S.out.at_box 0 rfl) 2; have k3_3 := blk_cell (S.out.at_box 0 rfl) 3; simp only [List.getElem?_toArray, List.getElem?_cons_zero, List.getElem?_cons_succ] at k2_0 k2_1 k2_2 k2_3 k3_0 k3_1 k3_2 k3_3) | fail)
          go_ret
          exact ⟨by rw [HM.out]; rfl, S.out.below⟩
      · have e2 : decide (a.f0 ≤ b.f2) = false := decide_eq_false c2
        have hm : meetsB a b = false := by unfold meetsB; rw [HVA.out, HVB.out, Bool.and_self, Bool.true_and]; exact decide_eq_false (by omega)
        have HM := Aside0.mk hm
        clear c2 hm
        go_wp2_with (first | (go_at_call 57; have X_ := fun W => valid_ct a W; rw [HVA.out] at X_; (with_reducible refine (X_ _).mono ?_); clear X_; rintro e_ w6 ⟨rfl, hb⟩; replace S := Aside0.mk (S.out.step hb); clear hb; clear k2_0 k2_1 k2_2 k2_3 k3_0 k3_1 k3_2 k3_3; have k2_0 := blk_cell (S.out.at_box 1 rfl) 0; have k2_1 := blk_cell (S.out.at_box 1 rfl) 1; have k2_2 := blk_cell (S.out.at_box 1 rfl) 2; have k2_3 := blk_cell (S.out.at_box 1 rfl) 3; have k3_0 := blk_cell (S.out.at_box 0 rfl) 0; have k3_1 := blk_cell (S.out.at_box 0 rfl) 1; have k3_2 := blk_cell (S.out.at_box 0 rfl) 2; have k3_3 := blk_cell (S.out.at_box 0 rfl) 3; simp only [List.getElem?_toArray, List.getElem?_cons_zero, List.getElem?_cons_succ] at k2_0 k2_1 k2_2 k2_3 k3_0 k3_1 k3_2 k3_3) | (go_at_call 57; have X_ := fun W => valid_ct b W; rw [HVB.out] at X_; (with_reducible refine (X_ _).mono ?_); clear X_; rintro e_ w9 ⟨rfl, hb⟩; replace S := Aside0.mk (S.out.step hb); clear hb; clear k2_0 k2_1 k2_2 k2_3 k3_0 k3_1 k3_2 k3_3; have k2_0 := blk_cell (S.out.at_box 1 rfl) 0; have k2_1 := blk_cell (S.out.at_box 1 rfl) 1; have k2_2 := blk_cell (S.out.at_box 1 rfl) 2; have k2_3 := blk_cell (S.out.at_box 1 rfl) 3; have k3_0 := blk_cell (S.out.at_box 0 rfl) 0; have k3_1 := blk_cell (S.out.at_box 0 rfl) 1; have k3_2 := blk_cell (S.out.at_box 0 rfl) 2; have k3_3 := blk_cell (S.out.at_box 0 rfl) 3; simp only [List.getElem?_toArray, List.getElem?_cons_zero, List.getElem?_cons_succ] at k2_0 k2_1 k2_2 k2_3 k3_0 k3_1 k3_2 k3_3) | fail)
        go_ret
        exact ⟨by rw [HM.out]; rfl, S.out.below⟩
set_option maxHeartbeats 40000000 in
set_option maxRecDepth 100000 in
theorem len_ct {w0 : World} {g fan : Nat} {items : List S61} {levels : List (List S57)} (h : TreeAt w0 g fan items levels) (w : World) (hb : Below w0.heap.size w0 w) :
    Calls Try.prog 24 #[.pointer (some ⟨g, 0, none⟩)] w fun e w' => e = .returned (.int .i64 (items.length : Int)) ∧ w' = w := by
  obtain ⟨h0, h1, ⟨A, c, h2, h3, h4⟩, B, d, h5, h6, h7⟩ := h
  have k1 := (hb.cell (p := ⟨g, 1, none⟩) h0).trans h2
  go_enter Try.func24, Try.ntmps24
  go_wp2
  go_ret
  exact ⟨rfl, rfl⟩
theorem level_at {w : World} {A : Option Addr} {n : Nat} {xss : List (List S57)} (h : Kd.C (Kd.slice 57 k57) w A n xss) (i : Nat) (hi : i < n) (hl : i < xss.length) : ∃ ad A0 c0, A = some ad ∧ w.cell? (ad.add i) = some (.slice A0 xss[i].length c0) ∧ xss[i].length ≤ c0 ∧ k57.C w A0 xss[i].length xss[i] := by
  obtain ⟨ad, A0, c0, e, h1, h2, h3⟩ := at_L13 h (i : Int) (by omega) (by omega)
  have e2 : rd_L13 xss (i : Int) = xss[i] := by
    show xss.getD ((i : Int)).toNat [] = _
    rw [Int.toNat_natCast, List.getD_eq_getElem?_getD, List.getElem?_eq_getElem hl]
    rfl
  rw [e2] at h1 h2 h3
  exact ⟨ad, A0, c0, e, by simpa using h1, h2, h3⟩
end Go.Proofs.Ytjpkkdnilfoafaa.Hand
end
section
namespace Go.Proofs.Ytjpkkdnilfoafaa.Hand
open Go.Proofs.YtjpkkdnilfoafaaW Go.RowKit Go.Proofs.YtjpkkdnilfoafaaW.PrintWords Go.Proofs.YtjpkkdnilfoafaaW.PrintLast Go.Proofs.YtjpkkdnilfoafaaW.PrintMore Go.Proofs.YtjpkkdnilfoafaaW.SepW Go.Proofs.Ytjpkkdnilfoafaa.PALL Go.Proofs.Ytjpkkdnilfoafaa.Plain
set_option linter.unusedVariables false
set_option linter.unusedSimpArgs false
attribute [local go_sem] max2_int min2_int max_two min_two max_three min_three max_four min_four
/-- A box of a level. -/
def bxL (lv : List (List S57)) (k i : Nat) : S57 := (lv.getD k []).getD i z57
/-- What a visit yields, and how many nodes it counts. -/
def vis (lv : List (List S57)) (items : List S61) (fan : Nat) (b : S57) : Nat → Nat → List S61 × Nat
  | 0, i => if meetsB (bxL lv 0 i) b = true then (((items.drop (i * fan)).take fan).filter (fun x => meetsB x.f1 b), 1) else ([], 0)
  | k + 1, i => if meetsB (bxL lv (k + 1) i) b = true then
      ((((List.range' (i * fan) (min ((i + 1) * fan) (lv.getD k []).length - i * fan)).map (fun j => (vis lv items fan b k j).1)).flatten), 1 + ((List.range' (i * fan) (min ((i + 1) * fan) (lv.getD k []).length - i * fan)).map (fun j => (vis lv items fan b k j).2)).sum) else ([], 0)
theorem YieldAt.any {m m' : Nat} {P : Program} {l : Nat} {args : Array Value} {W : World} {R : Ending → World → Prop} (h : YieldAt Fence.wide m P l args W R) : YieldAt Fence.wide m' P l args W R := by
  obtain ⟨fn, tmps, assign, body, hy, h1, h2⟩ := h
  exact ⟨fn, tmps, assign, body, hy, h1, fun c cs _ => h2 c cs (room_wide _)⟩
theorem wpIn_reg {m id : Nat} {P : Program} {ops : Array Oper} {Q : Exit → Act → World → Prop} {a : Act} {w : World} (h : (Code.region id ops false).wp P Q a w) : (Code.region id ops false).wpIn Fence.wide m P Q a w := wpIn_wide.2 h
theorem w64 (n : Int) (h : -9223372036854775808 ≤ n ∧ n ≤ 9223372036854775807) : IntKind.i64.wrap n = n := by
  rw [show IntKind.i64.wrap n = wrap64 n from i64_w n]
  exact IntWalk.wrap64_in n (by omega)
theorem mid_chunk (l : List S61) (i fan : Nat) : (l.take (min (i * fan + fan) l.length)).drop (i * fan) = (l.drop (i * fan)).take fan := by
  apply List.ext_getElem?
  intro j
  rw [List.getElem?_drop, List.getElem?_take, List.getElem?_take, List.getElem?_drop]
  by_cases h : j < fan
  · rw [if_pos h]
    by_cases h2 : i * fan + j < l.length
    · rw [if_pos (by omega)]
    · rw [if_neg (by omega), List.getElem?_eq_none (by omega)]
  · rw [if_neg h, if_neg (by omega)]
theorem RoundIn.any {m m' l f : Nat} {P : Program} {tmps : Array Value} {assign body : Code} {w : World} {R : Ending → World → Prop} (h : RoundIn Fence.wide m P l f tmps assign body w R) : RoundIn Fence.wide m' P l f tmps assign body w R := ⟨h.1, fun c cs _ => h.2 c cs (room_wide _)⟩
def vI (x : S61) : Value := .agg #[.int .i64 x.f0.f0, .int .i64 x.f0.f1, .int .i64 x.f1.f0, .int .i64 x.f1.f1, .int .i64 x.f1.f2, .int .i64 x.f1.f3]
/-- What the search holds. -/
def MV (base g gt gb gv gy gf V l : Nat) (b : S57) (c : Nat) : List (Thing base) := [Box base V 3 #[.int .i64 (c : Int)], Box base gt 53 #[.pointer (some ⟨g, 0, none⟩)], Box base gb 57 #[.int .i64 b.f0, .int .i64 b.f1, .int .i64 b.f2, .int .i64 b.f3], Box base gv 90 #[.pointer (some ⟨V, 0, none⟩)], Box base gy 109 #[.func (.yield l) #[] #[]], Box base gf 110 #[.func (.func 65) #[] #[.pointer (some ⟨gt, 0, none⟩), .pointer (some ⟨gb, 0, none⟩), .pointer (some ⟨gv, 0, none⟩), .pointer (some ⟨gy, 0, none⟩), .pointer (some ⟨gf, 0, none⟩)]]]
/-- What one round asks. -/
def Rnd (m l : Nat) (w0 : World) (xs : List S61) (L : List S61 → List (Thing w0.heap.size)) : Prop :=
  ∀ pre x, (pre ++ [x]) <+: xs → ∀ W M', SepW.Sep w0 W (M' ++ L pre) → YieldAt Fence.wide m Try.prog l #[vI x] W fun e W' => e = .returned (.bool true) ∧ SepW.Sep w0 W' (M' ++ L (pre ++ [x]))
theorem bx_at {w : World} {lv : List (List S57)} {B : Option Addr} {n : Nat} (h : (Kd.slice 57 k57).C w B n lv) {k i : Nat} (hk : k < n) (hk2 : k < lv.length) (hi : i < (lv.getD k []).length) :
    ∃ ad ad2 c, B = some ad ∧ w.cell? (ad.add k) = some (.slice (some ad2) (lv.getD k []).length c) ∧ (lv.getD k []).length ≤ c ∧ w.cell? (ad2.add (i * 4)) = some (.int .i64 (bxL lv k i).f0) ∧ w.cell? ⟨(ad2.add (i * 4)).block, (ad2.add (i * 4)).off + 1, none⟩ = some (.int .i64 (bxL lv k i).f1) ∧ w.cell? ⟨(ad2.add (i * 4)).block, (ad2.add (i * 4)).off + 2, none⟩ = some (.int .i64 (bxL lv k i).f2) ∧ w.cell? ⟨(ad2.add (i * 4)).block, (ad2.add (i * 4)).off + 3, none⟩ = some (.int .i64 (bxL lv k i).f3) := by
  obtain ⟨ad, A0, c0, e, h1, h2, h3⟩ := level_at h k hk hk2
  have eg : lv.getD k [] = lv[k] := by rw [List.getD_eq_getElem?_getD, List.getElem?_eq_getElem hk2]; rfl
  unfold bxL
  rw [eg] at hi ⊢
  obtain ⟨ad2, rfl⟩ := list_some h3 (by omega)
  obtain ⟨ad', he, h4⟩ := at_T57 h3 (i : Int) (by omega) (by omega)
  injection he with he
  subst he
  rw [show rd_T57 lv[k] (i : Int) = lv[k].getD i z57 from by unfold rd_T57; rw [Int.toNat_natCast], Int.toNat_natCast] at h4
  exact ⟨ad, ad2, c0, e, h1, h2, h4⟩
set_option maxHeartbeats 40000000 in
set_option maxRecDepth 100000 in
theorem visit_no {w0 : World} {g fan : Nat} {items : List S61} {lv : List (List S57)} (hT : TreeAt w0 g fan items lv) (gt gb gv gy gf V l : Nat) (b : S57) (n : Nat) (k i : Nat) (hk : k < lv.length) (hi : i < (lv.getD k []).length) (c : Nat) (L : List (Thing w0.heap.size)) (W : World) (S : SepW.Sep w0 W (MV _ g gt gb gv gy gf V l b c ++ L)) (hm : meetsB (bxL lv k i) b = false) :
    Calls Try.prog 65 #[.int .i64 (k : Int), .int .i64 (i : Int), .pointer (some ⟨gt, 0, none⟩), .pointer (some ⟨gb, 0, none⟩), .pointer (some ⟨gv, 0, none⟩), .pointer (some ⟨gy, 0, none⟩), .pointer (some ⟨gf, 0, none⟩)] W fun e W' => e = .returned (.bool true) ∧ SepW.Sep w0 W' (MV _ g gt gb gv gy gf V l b c ++ L) := by
  have HS := Aside0.mk S
  have HT2 := hT
  obtain ⟨ht0, ht1, ⟨TA, tc, ht2, ht3, ht4⟩, TB, td, ht5, ht6, ht7⟩ := HT2
  have hb := S.below
  have q0 := (hb.cell (p := ⟨g, 0, none⟩) ht0).trans ht1
  have q1 := (hb.cell (p := ⟨g, 1, none⟩) ht0).trans ht2
  have q2 := (hb.cell (p := ⟨g, 2, none⟩) ht0).trans ht5
  have HCI := Aside0.mk ht4
  have HCL := Aside0.mk ht7
  have HT := Aside0.mk hT
  clear ht0 ht1 ht2 ht3 ht4 ht5 ht6 ht7 hb
  obtain ⟨ad, ad2, lc, eB, r4, r5, r0, r1, r2, r3⟩ := bx_at (Kd.C_below HCL.out S.below) hk hk hi
  subst eB
  have k1_0 := blk_cell (S.at_box 1 rfl) 0
  have k2_0 := blk_cell (S.at_box 2 rfl) 0
  have k2_1 := blk_cell (S.at_box 2 rfl) 1
  have k2_2 := blk_cell (S.at_box 2 rfl) 2
  have k2_3 := blk_cell (S.at_box 2 rfl) 3
  simp only [List.getElem?_toArray, List.getElem?_cons_zero, List.getElem?_cons_succ] at k1_0 k2_0 k2_1 k2_2 k2_3
  have p0 : (0 : Int) ≤ (k : Int) := by omega
  have p1 : (k : Int) < (lv.length : Int) := by omega
  have p2 : (0 : Int) ≤ (i : Int) := by omega
  have p3 : (i : Int) < ((lv.getD k []).length : Int) := by omega
  have HM := Aside0.mk hm
  obtain ⟨X, hX⟩ : ∃ X, X = bxL lv k i := ⟨_, rfl⟩
  rw [← hX] at r0 r1 r2 r3 hm
  have hmc := fun W => meets_ct X b W
  rw [hm] at hmc
  have HMC := Aside0.mk hmc
  clear hm hX hmc r5
  obtain ⟨NL, hNL⟩ : ∃ NL, NL = (lv.getD k []).length := ⟨_, rfl⟩
  rw [← hNL] at r4 p3
  clear hi hNL
  go_enter Try.func65, Try.ntmps65
  go_upto_region 1 with fail
  go_region_held3 (fun w' => w'.cell? ⟨gt, 0, none⟩ = some (.pointer (some ⟨g, 0, none⟩)) ∧ w'.cell? ⟨g, 2, none⟩ = some (.slice (some ad) lv.length td) ∧ w'.cell? (ad.add k) = some (.slice (some ad2) NL lc) ∧ w'.cell? (ad2.add (i * 4)) = some (.int .i64 X.f0) ∧ w'.cell? ⟨(ad2.add (i * 4)).block, (ad2.add (i * 4)).off + 1, none⟩ = some (.int .i64 X.f1) ∧ w'.cell? ⟨(ad2.add (i * 4)).block, (ad2.add (i * 4)).off + 2, none⟩ = some (.int .i64 X.f2) ∧ w'.cell? ⟨(ad2.add (i * 4)).block, (ad2.add (i * 4)).off + 3, none⟩ = some (.int .i64 X.f3) ∧ w'.cell? ⟨gb, 0, none⟩ = some (.int .i64 b.f0) ∧ w'.cell? ⟨gb, 1, none⟩ = some (.int .i64 b.f1) ∧ w'.cell? ⟨gb, 2, none⟩ = some (.int .i64 b.f2) ∧ w'.cell? ⟨gb, 3, none⟩ = some (.int .i64 b.f3)) (first | assumption | go_keep) (first | (go_at_call 66; (with_reducible refine (HMC.out _).mono ?_); rintro e_ w24 ⟨rfl, hb⟩; have hS24 : w24.cell? ⟨gt, 0, none⟩ = some (.pointer (some ⟨g, 0, none⟩)) ∧ w24.cell? ⟨g, 2, none⟩ = some (.slice (some ad) lv.length td) ∧ w24.cell? (ad.add k) = some (.slice (some ad2) NL lc) ∧ w24.cell? (ad2.add (i * 4)) = some (.int .i64 X.f0) ∧ w24.cell? ⟨(ad2.add (i * 4)).block, (ad2.add (i * 4)).off + 1, none⟩ = some (.int .i64 X.f1) ∧ w24.cell? ⟨(ad2.add (i * 4)).block, (ad2.add (i * 4)).off + 2, none⟩ = some (.int .i64 X.f2) ∧ w24.cell? ⟨(ad2.add (i * 4)).block, (ad2.add (i * 4)).off + 3, none⟩ = some (.int .i64 X.f3) ∧ w24.cell? ⟨gb, 0, none⟩ = some (.int .i64 b.f0) ∧ w24.cell? ⟨gb, 1, none⟩ = some (.int .i64 b.f1) ∧ w24.cell? ⟨gb, 2, none⟩ = some (.int .i64 b.f2) ∧ w24.cell? ⟨gb, 3, none⟩ = some (.int .i64 b.f3) := ⟨pw_cell_below hb k1_0, pw_cell_below hb q2, pw_cell_below hb r4, pw_cell_below hb r0, pw_cell_below hb r1, pw_cell_below hb r2, pw_cell_below hb r3, pw_cell_below hb k2_0, pw_cell_below hb k2_1, pw_cell_below hb k2_2, pw_cell_below hb k2_3⟩; have HB := Aside0.mk hb; clear hb))
  all_goals go_wp2
  all_goals go_ret
  all_goals exact ⟨rfl, HS.out.drew.step HB.out⟩
set_option maxHeartbeats 40000000 in
set_option maxRecDepth 100000 in
theorem visit_leaf {w0 : World} {g fan : Nat} {items : List S61} {lv : List (List S57)} (hT : TreeAt w0 g fan items lv) (gt gb gv gy gf V l : Nat) (b : S57) (n : Nat) (k i : Nat) (hk0 : k = 0) (hk : k < lv.length) (hi : i < (lv.getD k []).length) (hf : 1 ≤ fan) (hf2 : fan ≤ 1000000) (hil : items.length ≤ 1000000) (hlo : i * fan < items.length) (c : Nat) (hcc : c ≤ 1000000000) (L : List S61 → List (Thing w0.heap.size)) (xs pre : List S61) (hR : Rnd n l w0 xs L) (hpre : (pre ++ ((items.drop (i * fan)).take fan).filter (fun x => meetsB x.f1 b)) <+: xs) (W : World) (S : SepW.Sep w0 W (MV _ g gt gb gv gy gf V l b c ++ L pre)) (hm : meetsB (bxL lv k i) b = true) (m : Nat) :
    CallsIn Fence.wide m Try.prog 65 #[.int .i64 (k : Int), .int .i64 (i : Int), .pointer (some ⟨gt, 0, none⟩), .pointer (some ⟨gb, 0, none⟩), .pointer (some ⟨gv, 0, none⟩), .pointer (some ⟨gy, 0, none⟩), .pointer (some ⟨gf, 0, none⟩)] W fun e W' => e = .returned (.bool true) ∧ SepW.Sep w0 W' (MV _ g gt gb gv gy gf V l b (c + 1) ++ L (pre ++ ((items.drop (i * fan)).take fan).filter (fun x => meetsB x.f1 b))) := by
  have HK0 := Aside0.mk hk0
  clear hk0
  have HLO := Aside0.mk hlo
  have HI := Aside0.mk hi
  have HF := Aside0.mk hf
  have HF2 := Aside0.mk hf2
  have HIL := Aside0.mk hil
  have HCC := Aside0.mk hcc
  have HR := Aside0.mk hR
  have HPRE := Aside0.mk hpre
  have HS := Aside0.mk S
  have HT2 := hT
  obtain ⟨ht0, ht1, ⟨TA, tc, ht2, ht3, ht4⟩, TB, td, ht5, ht6, ht7⟩ := HT2
  have hb := S.below
  have q0 := (hb.cell (p := ⟨g, 0, none⟩) ht0).trans ht1
  have q1 := (hb.cell (p := ⟨g, 1, none⟩) ht0).trans ht2
  have q2 := (hb.cell (p := ⟨g, 2, none⟩) ht0).trans ht5
  have HCI := Aside0.mk ht4
  have HCL := Aside0.mk ht7
  have HT := Aside0.mk hT
  clear ht0 ht1 ht2 ht3 ht4 ht5 ht6 ht7 hb
  obtain ⟨ad, ad2, lc, eB, r4, r5, r0, r1, r2, r3⟩ := bx_at (Kd.C_below HCL.out S.below) hk hk hi
  subst eB
  have k1_0 := blk_cell (S.at_box 1 rfl) 0
  have k2_0 := blk_cell (S.at_box 2 rfl) 0
  have k2_1 := blk_cell (S.at_box 2 rfl) 1
  have k2_2 := blk_cell (S.at_box 2 rfl) 2
  have k2_3 := blk_cell (S.at_box 2 rfl) 3
  simp only [List.getElem?_toArray, List.getElem?_cons_zero, List.getElem?_cons_succ] at k1_0 k2_0 k2_1 k2_2 k2_3
  have p0 : (0 : Int) ≤ (k : Int) := by omega
  have p1 : (k : Int) < (lv.length : Int) := by omega
  have p2 : (0 : Int) ≤ (i : Int) := by omega
  have p3 : (i : Int) < ((lv.getD k []).length : Int) := by omega
  obtain ⟨X, hX⟩ : ∃ X, X = bxL lv k i := ⟨_, rfl⟩
  rw [← hX] at r0 r1 r2 r3 hm
  have hmc := fun W => meets_ct X b W
  rw [hm] at hmc
  have HMC := Aside0.mk hmc
  clear hX hmc r5
  obtain ⟨NL, hNL⟩ : ∃ NL, NL = (lv.getD k []).length := ⟨_, rfl⟩
  rw [← hNL] at r4 p3
  clear hNL
  clear hm hf hf2 hil hlo hcc hR hpre hi
  refine callsIn_of_wp Try.func65 rfl trivial ?_ rfl
  simp only [Try.ntmps65, List.size_toArray, List.length_cons, List.length_nil, Nat.reduceAdd, Nat.reduceSub, Array.replicate_succ, Array.replicate_zero, List.push_toArray, List.append_toArray, List.nil_append, List.cons_append]
  apply wpIn_seq_k
  intro _ _
  refine wpIn_wide.2 ?_
  go_wp2
  apply wpIn_seq_k
  intro _ _
  apply wpIn_seq_k
  intro _ _
  refine wpIn_wide.2 ?_
  have hS0 : W.drew.cell? ⟨gt, 0, none⟩ = some (.pointer (some ⟨g, 0, none⟩)) ∧ W.drew.cell? ⟨g, 2, none⟩ = some (.slice (some ad) lv.length td) ∧ W.drew.cell? (ad.add k) = some (.slice (some ad2) NL lc) ∧ W.drew.cell? (ad2.add (i * 4)) = some (.int .i64 X.f0) ∧ W.drew.cell? ⟨(ad2.add (i * 4)).block, (ad2.add (i * 4)).off + 1, none⟩ = some (.int .i64 X.f1) ∧ W.drew.cell? ⟨(ad2.add (i * 4)).block, (ad2.add (i * 4)).off + 2, none⟩ = some (.int .i64 X.f2) ∧ W.drew.cell? ⟨(ad2.add (i * 4)).block, (ad2.add (i * 4)).off + 3, none⟩ = some (.int .i64 X.f3) ∧ W.drew.cell? ⟨gb, 0, none⟩ = some (.int .i64 b.f0) ∧ W.drew.cell? ⟨gb, 1, none⟩ = some (.int .i64 b.f1) ∧ W.drew.cell? ⟨gb, 2, none⟩ = some (.int .i64 b.f2) ∧ W.drew.cell? ⟨gb, 3, none⟩ = some (.int .i64 b.f3) := ⟨k1_0, q2, r4, r0, r1, r2, r3, k2_0, k2_1, k2_2, k2_3⟩
  go_region_held3 (fun w' => w'.cell? ⟨gt, 0, none⟩ = some (.pointer (some ⟨g, 0, none⟩)) ∧ w'.cell? ⟨g, 2, none⟩ = some (.slice (some ad) lv.length td) ∧ w'.cell? (ad.add k) = some (.slice (some ad2) NL lc) ∧ w'.cell? (ad2.add (i * 4)) = some (.int .i64 X.f0) ∧ w'.cell? ⟨(ad2.add (i * 4)).block, (ad2.add (i * 4)).off + 1, none⟩ = some (.int .i64 X.f1) ∧ w'.cell? ⟨(ad2.add (i * 4)).block, (ad2.add (i * 4)).off + 2, none⟩ = some (.int .i64 X.f2) ∧ w'.cell? ⟨(ad2.add (i * 4)).block, (ad2.add (i * 4)).off + 3, none⟩ = some (.int .i64 X.f3) ∧ w'.cell? ⟨gb, 0, none⟩ = some (.int .i64 b.f0) ∧ w'.cell? ⟨gb, 1, none⟩ = some (.int .i64 b.f1) ∧ w'.cell? ⟨gb, 2, none⟩ = some (.int .i64 b.f2) ∧ w'.cell? ⟨gb, 3, none⟩ = some (.int .i64 b.f3)) (first | assumption | go_keep) (first | (go_at_call 66; (with_reducible refine (HMC.out _).mono ?_); rintro e_ w24 ⟨rfl, hb⟩; have hS24 : w24.cell? ⟨gt, 0, none⟩ = some (.pointer (some ⟨g, 0, none⟩)) ∧ w24.cell? ⟨g, 2, none⟩ = some (.slice (some ad) lv.length td) ∧ w24.cell? (ad.add k) = some (.slice (some ad2) NL lc) ∧ w24.cell? (ad2.add (i * 4)) = some (.int .i64 X.f0) ∧ w24.cell? ⟨(ad2.add (i * 4)).block, (ad2.add (i * 4)).off + 1, none⟩ = some (.int .i64 X.f1) ∧ w24.cell? ⟨(ad2.add (i * 4)).block, (ad2.add (i * 4)).off + 2, none⟩ = some (.int .i64 X.f2) ∧ w24.cell? ⟨(ad2.add (i * 4)).block, (ad2.add (i * 4)).off + 3, none⟩ = some (.int .i64 X.f3) ∧ w24.cell? ⟨gb, 0, none⟩ = some (.int .i64 b.f0) ∧ w24.cell? ⟨gb, 1, none⟩ = some (.int .i64 b.f1) ∧ w24.cell? ⟨gb, 2, none⟩ = some (.int .i64 b.f2) ∧ w24.cell? ⟨gb, 3, none⟩ = some (.int .i64 b.f3) := ⟨pw_cell_below hb k1_0, pw_cell_below hb q2, pw_cell_below hb r4, pw_cell_below hb r0, pw_cell_below hb r1, pw_cell_below hb r2, pw_cell_below hb r3, pw_cell_below hb k2_0, pw_cell_below hb k2_1, pw_cell_below hb k2_2, pw_cell_below hb k2_3⟩; have HB := Aside0.mk hb; clear hb))
  go_wp2
  clear k1_0 k2_0 k2_1 k2_2 k2_3 q0 q1 q2 r0 r1 r2 r3 r4 hS0 hS24
  replace S := Aside0.mk (HS.out.drew.step HB.out)
  clear HB HS
  refine wpIn_genS S (fun W S => ?_)
  obtain ⟨k0_0, f0_0, k1_0, k3_0⟩ : W.cell? ⟨V, 0, none⟩ = some (.int .i64 (c : Int)) ∧ W.frozen? ⟨V, 0, none⟩ = false ∧ W.cell? ⟨gt, 0, none⟩ = some (.pointer (some ⟨g, 0, none⟩)) ∧ W.cell? ⟨gv, 0, none⟩ = some (.pointer (some ⟨V, 0, none⟩)) := ⟨blk_cell (S.out.at_box 0 rfl) 0, blk_frozen (S.out.at_box 0 rfl) 0, blk_cell (S.out.at_box 1 rfl) 0, blk_cell (S.out.at_box 3 rfl) 0⟩
  have i1 : Aside0 (wrap64 ((c : Int) + 1) = ((c + 1 : Nat) : Int)) := ⟨by rw [IntWalk.wrap64_in _ (by have := HCC.out; omega)]; omega⟩
  have i2 := i1.out
  apply wpIn_cond_split rfl (fun h => ?_) (fun h => ?_)
  · cases h
  · have e0 : ((k : Int) == 0) = true := by rw [HK0.out]; rfl
    go_wp2_with (first | (with_reducible refine wpIn_reg (id := 3) ?_) | (with_reducible refine wpIn_reg (id := 4) ?_) | gi_step)
    clear i2 k0_0 f0_0 k1_0 k3_0 e0
    refine wpIn_genS (L := MV _ g gt gb gv gy gf V l b (c + 1) ++ L pre) ⟨S.out.set 0 rfl 0 (.int .i64 ((c + 1 : Nat) : Int))⟩ (fun W S => ?_)
    clear i1
    obtain ⟨ht0, ht1, ⟨TA', tc', ht2, ht3, ht4⟩, _, _, ht5, _, _⟩ := HT.out
    have hb := S.out.below
    have q0 := (hb.cell (p := ⟨g, 0, none⟩) ht0).trans ht1
    have q1 := (hb.cell (p := ⟨g, 1, none⟩) ht0).trans ht2
    have HTC := Aside0.mk ht3
    have HCJ := Aside0.mk ht4
    clear ht0 ht1 ht2 ht3 ht4 ht5 hb HCI HCL
    obtain ⟨ad3, ea3⟩ := list_some HCJ.out (by have := HLO.out; omega)
    subst ea3
    have k1_0 : W.cell? ⟨gt, 0, none⟩ = some (.pointer (some ⟨g, 0, none⟩)) := blk_cell (S.out.at_box 1 rfl) 0
    obtain ⟨K, hK⟩ : ∃ K, K = i * fan := ⟨_, rfl⟩
    have HK := Aside0.mk hK
    have hlo := HLO.out
    rw [← hK] at hlo
    obtain ⟨U, hU⟩ : ∃ U, U = min (K + fan) items.length := ⟨_, rfl⟩
    have HU := Aside0.mk hU
    have hKi : (K : Int) = (i : Int) * (fan : Int) := by rw [hK, Int.natCast_mul]
    have i1 : Aside0 (IntKind.i64.wrap ((i : Int) * (fan : Int)) = (K : Int)) := ⟨by rw [← hKi]; exact w64 (K : Int) (by have := HIL.out; omega)⟩
    have hib : i ≤ K := by rw [hK]; exact Nat.le_mul_of_pos_right _ HF.out
    have i2 : Aside0 (IntKind.i64.wrap ((i : Int) + 1) = ((i + 1 : Nat) : Int)) := ⟨by rw [w64 ((i : Int) + 1) (by have := HIL.out; omega)]; omega⟩
    obtain ⟨KF, hKF⟩ : ∃ KF : Nat, KF = K + fan := ⟨_, rfl⟩
    have hK2 : ((i : Int) + 1) * (fan : Int) = (KF : Int) := by rw [Int.add_mul, ← hKi, hKF]; omega
    have i3 : Aside0 (IntKind.i64.wrap (((i : Int) + 1) * (fan : Int)) = (KF : Int)) := ⟨by rw [hK2]; exact w64 (KF : Int) (by have := HIL.out; have := HF2.out; omega)⟩
    have u1 := i1.out
    have u2 := i2.out
    have u3 := i3.out
    have hUi : (if (items.length : Int) < (KF : Int) then (items.length : Int) else (KF : Int)) = (U : Int) := by rw [hU]; split <;> omega
    have hUj : ∀ (inst : Decidable (items.length < KF)), (@ite _ (items.length < KF) inst (items.length : Int) (KF : Int)) = (U : Int) := by intro inst; rw [hU]; split <;> omega
    have hKU : K < U ∧ U ≤ items.length := by rw [hU]; have := HF.out; omega
    have HKU := Aside0.mk hKU
    have b1 : (0 : Int) ≤ (K : Int) := by omega
    have b2 : (K : Int) ≤ (U : Int) := by omega
    have b3 : (U : Int) ≤ (tc' : Int) := by have := HTC.out; omega
    have b4 : ¬ tc' = K := by have := HTC.out; omega
    clear hK hU hKi hib hK2 hKU hlo hKF
    refine wpIn_wide.2 ?_
    go_quiet (fail)
    go_wp2
    clear u1 u2 u3 hUi hUj q0 q1 k1_0
    have hC3 := Kd.C_mid (lo := K) (hi := U) HCJ.out (by have := HKU.out; omega) HKU.out.2 HTC.out
    rw [if_neg b4] at hC3
    replace hC3 : k61.C w0 (some (ad3.add (K * 6))) ((items.take U).drop K).length ((items.take U).drop K) := hC3
    obtain ⟨grp, hgrp⟩ : ∃ grp, grp = (items.take U).drop K := ⟨_, rfl⟩
    have hgl : grp.length = U - K := by rw [hgrp, List.length_drop, List.length_take]; have := HKU.out.2; omega
    have hgf : grp = (items.drop (i * fan)).take fan := by rw [hgrp, HU.out, HK.out]; exact mid_chunk items _ _
    have HGF := Aside0.mk hgf
    rw [← hgrp] at hC3
    obtain ⟨ad4, had4⟩ : ∃ ad4, ad4 = ad3.add (K * 6) := ⟨_, rfl⟩
    obtain ⟨E, hE⟩ : ∃ E, E = U - K := ⟨_, rfl⟩
    rw [← had4] at hC3 ⊢
    rw [← hE] at hgl ⊢
    have HGL := Aside0.mk hgl
    have HEB : Aside0 (E ≤ 1000000) := ⟨by rw [hE]; have := HIL.out; have := HKU.out; omega⟩
    have HC3 := Aside0.mk hC3
    have HPRE2 : Aside0 ((pre ++ grp.filter (fun x => meetsB x.f1 b)) <+: xs) := ⟨by rw [hgf]; exact HPRE.out⟩
    clear hgl hgf hgrp had4 hE hC3 b1 b2 b3 b4 i1 i2 i3 HCJ HPRE HKU HU HK
    refine wpIn_genS (L := MV _ g gt gb gv gy gf V l b (c + 1) ++ L pre) ⟨S.out.drewN nq⟩ (fun W1 S1 => ?_)
    clear S
    refine wpIn_block ?_
    gi_loopw [58] (fun v wr => ∃ j : Nat, Aside0 (j ≤ E) ∧ v = .int .i64 (j : Int) ∧ Aside0 (SepW.Sep w0 wr (MV _ g gt gb gv gy gf V l b (c + 1) ++ L (pre ++ (grp.take j).filter (fun x => meetsB x.f1 b)))))
      (fun v _ => E - (intOf v).toNat)
    case atStart => exact ⟨0, ⟨Nat.zero_le _⟩, rfl, by rw [List.take_zero, List.filter_nil, List.append_nil]; exact S1⟩
    case round =>
      clear S1
      obtain ⟨j, hj, rfl, S⟩ := hrel
      by_cases hlt : j < E
      · have hlg : j < grp.length := by rw [HGL.out]; exact hlt
        have d1 : decide ((j : Int) < (E : Int)) = true := decide_eq_true (by omega)
        have d1' : decide (j < E) = true := decide_eq_true hlt
        have c1 : (j : Int) < (E : Int) := by omega
        have c0 : (0 : Int) ≤ (j : Int) := by omega
        have hr := item_cells (Kd.C_below HC3.out S.out.below) j hlg hlg
        obtain ⟨X, hX⟩ : ∃ X, X = grp[j] := ⟨_, rfl⟩
        rw [← hX] at hr
        obtain ⟨r0, r1, r2, r3, r4, r5⟩ := hr
        have hnx : (grp.take (j + 1)).filter (fun x => meetsB x.f1 b) = (grp.take j).filter (fun x => meetsB x.f1 b) ++ (if meetsB X.f1 b = true then [X] else []) := by
          rw [take_more _ _ hlg, List.filter_append, ← hX]
          congr 1
          by_cases h : meetsB X.f1 b = true
          · rw [if_pos h]; simp [h]
          · rw [if_neg h]; simp [h]
        have HNX := Aside0.mk hnx
        have hpfx : (pre ++ (grp.take (j + 1)).filter (fun x => meetsB x.f1 b)) <+: xs := by
          refine List.IsPrefix.trans ?_ HPRE2.out
          refine (List.prefix_append_right_inj pre).2 ?_
          exact (List.take_prefix _ _).filter _
        have HPF := Aside0.mk hpfx
        have HLT := Aside0.mk hlt
        have i1 : Aside0 (wrap64 ((j : Int) + 1) = ((j + 1 : Nat) : Int)) := ⟨by rw [IntWalk.wrap64_in _ (by have := HEB.out; omega)]; omega⟩
        have i2 := i1.out
        have hmc := fun W => meets_ct X.f1 b W
        clear hX hnx hpfx hlt hlg
        go_wp2_with (first | (with_reducible refine wpIn_reg (id := 6) ?_) | (with_reducible refine wpIn_reg (id := 7) ?_) | ((with_reducible refine gate_dst (N := 11) rfl ?_); refine box_event ?hg (N := 11) ?hd (cs := #[.int .i64 0, .int .i64 0, .int .i64 0, .int .i64 0, .int .i64 0, .int .i64 0]) (t := 61) ?hr ?_; (case hd => rfl); (case hg => rfl); (case hr => first | (go_simp; done) | (go_simp; rfl)); intro g11 hg w11 hbox hb; replace S := Aside0.mk (show Sep _ _ (Box _ g11 61 #[.int .i64 X.f0.f0, .int .i64 X.f0.f1, .int .i64 X.f1.f0, .int .i64 X.f1.f1, .int .i64 X.f1.f2, .int .i64 X.f1.f3] :: _) from ((((((S.out.box hg hbox hb).set 0 rfl 0 (.int .i64 X.f0.f0)).set 0 rfl 1 (.int .i64 X.f0.f1)).set 0 rfl 2 (.int .i64 X.f1.f0)).set 0 rfl 3 (.int .i64 X.f1.f1)).set 0 rfl 4 (.int .i64 X.f1.f2)).set 0 rfl 5 (.int .i64 X.f1.f3)); have z11_0 := blk_cell hbox 0; have y11_0 := blk_frozen hbox 0; have z11_1 := blk_cell hbox 1; have y11_1 := blk_frozen hbox 1; have z11_2 := blk_cell hbox 2; have y11_2 := blk_frozen hbox 2; have z11_3 := blk_cell hbox 3; have y11_3 := blk_frozen hbox 3; have z11_4 := blk_cell hbox 4; have y11_4 := blk_frozen hbox 4; have z11_5 := blk_cell hbox 5; have y11_5 := blk_frozen hbox 5; simp only [List.getElem?_toArray, List.getElem?_cons_zero, List.getElem?_cons_succ] at z11_0 z11_1 z11_2 z11_3 z11_4 z11_5; clear hbox hb hg r0 r1 r2 r3 r4 r5) | (first | (with_reducible refine wpIn_seq_k ?_; intro _ _) | (with_reducible refine wpIn_block ?_) | (with_reducible refine wpIn_skip ?_) | (with_reducible refine wpIn_exit ?_) | ((with_reducible refine wpIn_cond_split rfl (fun h => ?_) (fun h => ?_)) <;> (try simp only [decide_eq_true_eq, decide_eq_false_iff_not, Bool.and_eq_true, Bool.or_eq_true, Bool.and_eq_false_iff, Bool.or_eq_false_iff] at h) <;> go_prune)) | fail)
        refine wpIn_genS S (fun W2 S => ?_)
        clear z11_0 y11_0 z11_1 y11_1 z11_2 y11_2 z11_3 y11_3 z11_4 y11_4 z11_5 y11_5
        have k11_0 := blk_cell (S.out.at_box 0 rfl) 0
        have k11_1 := blk_cell (S.out.at_box 0 rfl) 1
        have k11_2 := blk_cell (S.out.at_box 0 rfl) 2
        have k11_3 := blk_cell (S.out.at_box 0 rfl) 3
        have k11_4 := blk_cell (S.out.at_box 0 rfl) 4
        have k11_5 := blk_cell (S.out.at_box 0 rfl) 5
        have kb_0 := blk_cell (S.out.at_box 3 rfl) 0
        have kb_1 := blk_cell (S.out.at_box 3 rfl) 1
        have kb_2 := blk_cell (S.out.at_box 3 rfl) 2
        have kb_3 := blk_cell (S.out.at_box 3 rfl) 3
        have ky_0 := blk_cell (S.out.at_box 5 rfl) 0
        simp only [List.getElem?_toArray, List.getElem?_cons_zero, List.getElem?_cons_succ] at k11_0 k11_1 k11_2 k11_3 k11_4 k11_5 kb_0 kb_1 kb_2 kb_3 ky_0
        by_cases hmx : meetsB X.f1 b = true
        · simp only [hmx] at hmc
          have HMT := Aside0.mk hmc
          have hpf := HPF.out
          have hnx := HNX.out
          rw [if_pos hmx] at hnx
          rw [hnx, ← List.append_assoc] at hpf
          have HPX := Aside0.mk hpf
          have HNX2 := Aside0.mk hnx
          clear hmc hpf hnx hmx HPF HNX
          refine wpIn_region_lit ?_
          gi_wp2_with (first | (refine ⟨trivial, fun h => absurd (show false = true from h) (by decide), ?_⟩; gi_at_call 66; (with_reducible refine (callsIn_wide.2 (HMT.out _)).mono ?_); rintro e_ w65 ⟨rfl, hb⟩; replace S := Aside0.mk (S.out.step hb); clear hb k11_0 k11_1 k11_2 k11_3 k11_4 k11_5 kb_0 kb_1 kb_2 kb_3 ky_0; have k11_0 := blk_cell (S.out.at_box 0 rfl) 0; have k11_1 := blk_cell (S.out.at_box 0 rfl) 1; have k11_2 := blk_cell (S.out.at_box 0 rfl) 2; have k11_3 := blk_cell (S.out.at_box 0 rfl) 3; have k11_4 := blk_cell (S.out.at_box 0 rfl) 4; have k11_5 := blk_cell (S.out.at_box 0 rfl) 5; have ky_0 := blk_cell (S.out.at_box 5 rfl) 0; simp only [List.getElem?_toArray, List.getElem?_cons_zero, List.getElem?_cons_succ] at k11_0 k11_1 k11_2 k11_3 k11_4 k11_5 ky_0; obtain ⟨fn_, tm_, as_, bo_, hy, hRR0⟩ := HR.out _ X HPX.out w65 (Box _ g11 61 #[.int .i64 X.f0.f0, .int .i64 X.f0.f1, .int .i64 X.f1.f0, .int .i64 X.f1.f1, .int .i64 X.f1.f2, .int .i64 X.f1.f3] :: MV _ g gt gb gv gy gf V l b (c + 1)) S.out; have hRR := Aside0.mk hRR0; clear hRR0; dsimp only [vI] at hy))
          refine ⟨fun h => absurd (show false = true from h) (by decide), ?_⟩
          refine (RoundIn.any hRR.out).mono ?_
          rintro e_ W3 ⟨rfl, hS⟩
          replace S := Aside0.mk hS
          clear hS hRR hy
          gi_wp2
          go_roundw
          case rel => exact ⟨j + 1, ⟨HLT.out⟩, by rw [i1.out], ⟨by rw [HNX2.out, ← List.append_assoc]; exact S.out.drop 0⟩⟩
          case measure =>
            rw [i1.out]
            have := HLT.out
            show E - (((j + 1 : Nat) : Int)).toNat < E - ((j : Int)).toNat
            rw [Int.toNat_natCast, Int.toNat_natCast]
            omega
        · have hmx' : meetsB X.f1 b = false := by simpa using hmx
          simp only [hmx'] at hmc
          have HMF := Aside0.mk hmc
          have hnx := HNX.out
          rw [if_neg hmx, List.append_nil] at hnx
          have HNX2 := Aside0.mk hnx
          clear hmc hnx hmx hmx' HNX
          go_wp2_with (first | (with_reducible refine wpIn_reg (id := 8) ?_) | (with_reducible refine wpIn_reg (id := 10) ?_) | (go_at_call 66; (with_reducible refine (HMF.out _).mono ?_); rintro e_ w65 ⟨rfl, hb⟩; replace S := Aside0.mk (S.out.step hb); clear hb) | (first | (with_reducible refine wpIn_seq_k ?_; intro _ _) | (with_reducible refine wpIn_block ?_) | (with_reducible refine wpIn_skip ?_) | (with_reducible refine wpIn_exit ?_) | ((with_reducible refine wpIn_cond_split rfl (fun h => ?_) (fun h => ?_)) <;> (try simp only [decide_eq_true_eq, decide_eq_false_iff_not, Bool.and_eq_true, Bool.or_eq_true, Bool.and_eq_false_iff, Bool.or_eq_false_iff] at h) <;> go_prune)))
          go_roundw
          case rel => exact ⟨j + 1, ⟨HLT.out⟩, by rw [i1.out], ⟨by rw [HNX2.out]; exact S.out.drop 0⟩⟩
          case measure =>
            rw [i1.out]
            have := HLT.out
            show E - (((j + 1 : Nat) : Int)).toNat < E - ((j : Int)).toNat
            rw [Int.toNat_natCast, Int.toNat_natCast]
            omega
      · have hjj : j = E := by have := hj.out; omega
        have d0 : decide ((j : Int) < (E : Int)) = false := decide_eq_false (by omega)
        have d0' : decide (j < E) = false := decide_eq_false hlt
        have S2 := S.out
        rw [List.take_of_length_le (by rw [HGL.out]; omega)] at S2
        have S3 := Aside0.mk S2
        clear hjj hlt S2 S
        gi_wp2
        go_ret
        exact ⟨rfl, by rw [← HGF.out]; exact S3.out⟩
set_option maxHeartbeats 40000000 in
set_option maxRecDepth 100000 in
theorem visit_node {w0 : World} {g fan : Nat} {items : List S61} {lv : List (List S57)} (hT : TreeAt w0 g fan items lv) (gt gb gv gy gf V l : Nat) (b : S57) (n : Nat) (kk k i : Nat) (hk0 : kk = k + 1) (hk : kk < lv.length) (hi : i < (lv.getD kk []).length) (hf : 1 ≤ fan) (hf2 : fan ≤ 1000000) (hil : (lv.getD k []).length ≤ 1000000) (hlo : i * fan ≤ 1000000) (hkl : lv.length ≤ 1000000) (c N : Nat) (hN : N = min ((i + 1) * fan) (lv.getD k []).length) (L : List S61 → List (Thing w0.heap.size)) (xs pre : List S61) (hcc : c + 1 + ((List.range' (i * fan) (N - i * fan)).map (fun j => (vis lv items fan b k j).2)).sum ≤ 1000000000) (hpre : (pre ++ ((List.range' (i * fan) (N - i * fan)).map (fun j => (vis lv items fan b k j).1)).flatten) <+: xs) (W : World) (S : SepW.Sep w0 W (MV _ g gt gb gv gy gf V l b c ++ L pre)) (hm : meetsB (bxL lv kk i) b = true)
    (IH : ∀ (m j c' : Nat) (pre' : List S61) (W' : World), j < (lv.getD k []).length → c' + (vis lv items fan b k j).2 ≤ 1000000000 → (pre' ++ (vis lv items fan b k j).1) <+: xs → SepW.Sep w0 W' (MV _ g gt gb gv gy gf V l b c' ++ L pre') → CallsIn Fence.wide m Try.prog 65 #[.int .i64 (k : Int), .int .i64 (j : Int), .pointer (some ⟨gt, 0, none⟩), .pointer (some ⟨gb, 0, none⟩), .pointer (some ⟨gv, 0, none⟩), .pointer (some ⟨gy, 0, none⟩), .pointer (some ⟨gf, 0, none⟩)] W' fun e W'' => e = .returned (.bool true) ∧ SepW.Sep w0 W'' (MV _ g gt gb gv gy gf V l b (c' + (vis lv items fan b k j).2) ++ L (pre' ++ (vis lv items fan b k j).1))) (m : Nat) :
    CallsIn Fence.wide m Try.prog 65 #[.int .i64 (kk : Int), .int .i64 (i : Int), .pointer (some ⟨gt, 0, none⟩), .pointer (some ⟨gb, 0, none⟩), .pointer (some ⟨gv, 0, none⟩), .pointer (some ⟨gy, 0, none⟩), .pointer (some ⟨gf, 0, none⟩)] W fun e W' => e = .returned (.bool true) ∧ SepW.Sep w0 W' (MV _ g gt gb gv gy gf V l b (c + 1 + ((List.range' (i * fan) (N - i * fan)).map (fun j => (vis lv items fan b k j).2)).sum) ++ L (pre ++ ((List.range' (i * fan) (N - i * fan)).map (fun j => (vis lv items fan b k j).1)).flatten)) := by
  have HK0 := Aside0.mk hk0
  have HLO := Aside0.mk hlo
  have HI := Aside0.mk hi
  have HF := Aside0.mk hf
  have HF2 := Aside0.mk hf2
  have HIL := Aside0.mk hil
  have HCC := Aside0.mk hcc
  have HN := Aside0.mk hN
  have HPRE := Aside0.mk hpre
  have HIH := Aside0.mk IH
  have HKL := Aside0.mk hkl
  clear hkl
  clear hk0
  have HS := Aside0.mk S
  have HT2 := hT
  obtain ⟨ht0, ht1, ⟨TA, tc, ht2, ht3, ht4⟩, TB, td, ht5, ht6, ht7⟩ := HT2
  have hb := S.below
  have q0 := (hb.cell (p := ⟨g, 0, none⟩) ht0).trans ht1
  have q1 := (hb.cell (p := ⟨g, 1, none⟩) ht0).trans ht2
  have q2 := (hb.cell (p := ⟨g, 2, none⟩) ht0).trans ht5
  have HCI := Aside0.mk ht4
  have HCL := Aside0.mk ht7
  have HT := Aside0.mk hT
  clear ht0 ht1 ht2 ht3 ht4 ht5 ht6 ht7 hb
  obtain ⟨ad, ad2, lc, eB, r4, r5, r0, r1, r2, r3⟩ := bx_at (Kd.C_below HCL.out S.below) hk hk hi
  subst eB
  have k1_0 := blk_cell (S.at_box 1 rfl) 0
  have k2_0 := blk_cell (S.at_box 2 rfl) 0
  have k2_1 := blk_cell (S.at_box 2 rfl) 1
  have k2_2 := blk_cell (S.at_box 2 rfl) 2
  have k2_3 := blk_cell (S.at_box 2 rfl) 3
  simp only [List.getElem?_toArray, List.getElem?_cons_zero, List.getElem?_cons_succ] at k1_0 k2_0 k2_1 k2_2 k2_3
  have p0 : (0 : Int) ≤ (kk : Int) := by omega
  have p1 : (kk : Int) < (lv.length : Int) := by omega
  have p2 : (0 : Int) ≤ (i : Int) := by omega
  have p3 : (i : Int) < ((lv.getD kk []).length : Int) := by omega
  obtain ⟨X, hX⟩ : ∃ X, X = bxL lv kk i := ⟨_, rfl⟩
  rw [← hX] at r0 r1 r2 r3 hm
  have hmc := fun W => meets_ct X b W
  rw [hm] at hmc
  have HMC := Aside0.mk hmc
  clear hX hmc r5
  obtain ⟨NL, hNL⟩ : ∃ NL, NL = (lv.getD kk []).length := ⟨_, rfl⟩
  rw [← hNL] at r4 p3
  clear hNL
  clear hm hf hf2 hil hlo hcc hpre hi hN IH
  refine callsIn_of_wp Try.func65 rfl trivial ?_ rfl
  simp only [Try.ntmps65, List.size_toArray, List.length_cons, List.length_nil, Nat.reduceAdd, Nat.reduceSub, Array.replicate_succ, Array.replicate_zero, List.push_toArray, List.append_toArray, List.nil_append, List.cons_append]
  apply wpIn_seq_k
  intro _ _
  refine wpIn_wide.2 ?_
  go_wp2
  apply wpIn_seq_k
  intro _ _
  apply wpIn_seq_k
  intro _ _
  refine wpIn_wide.2 ?_
  have hS0 : W.drew.cell? ⟨gt, 0, none⟩ = some (.pointer (some ⟨g, 0, none⟩)) ∧ W.drew.cell? ⟨g, 2, none⟩ = some (.slice (some ad) lv.length td) ∧ W.drew.cell? (ad.add kk) = some (.slice (some ad2) NL lc) ∧ W.drew.cell? (ad2.add (i * 4)) = some (.int .i64 X.f0) ∧ W.drew.cell? ⟨(ad2.add (i * 4)).block, (ad2.add (i * 4)).off + 1, none⟩ = some (.int .i64 X.f1) ∧ W.drew.cell? ⟨(ad2.add (i * 4)).block, (ad2.add (i * 4)).off + 2, none⟩ = some (.int .i64 X.f2) ∧ W.drew.cell? ⟨(ad2.add (i * 4)).block, (ad2.add (i * 4)).off + 3, none⟩ = some (.int .i64 X.f3) ∧ W.drew.cell? ⟨gb, 0, none⟩ = some (.int .i64 b.f0) ∧ W.drew.cell? ⟨gb, 1, none⟩ = some (.int .i64 b.f1) ∧ W.drew.cell? ⟨gb, 2, none⟩ = some (.int .i64 b.f2) ∧ W.drew.cell? ⟨gb, 3, none⟩ = some (.int .i64 b.f3) := ⟨k1_0, q2, r4, r0, r1, r2, r3, k2_0, k2_1, k2_2, k2_3⟩
  go_region_held3 (fun w' => w'.cell? ⟨gt, 0, none⟩ = some (.pointer (some ⟨g, 0, none⟩)) ∧ w'.cell? ⟨g, 2, none⟩ = some (.slice (some ad) lv.length td) ∧ w'.cell? (ad.add kk) = some (.slice (some ad2) NL lc) ∧ w'.cell? (ad2.add (i * 4)) = some (.int .i64 X.f0) ∧ w'.cell? ⟨(ad2.add (i * 4)).block, (ad2.add (i * 4)).off + 1, none⟩ = some (.int .i64 X.f1) ∧ w'.cell? ⟨(ad2.add (i * 4)).block, (ad2.add (i * 4)).off + 2, none⟩ = some (.int .i64 X.f2) ∧ w'.cell? ⟨(ad2.add (i * 4)).block, (ad2.add (i * 4)).off + 3, none⟩ = some (.int .i64 X.f3) ∧ w'.cell? ⟨gb, 0, none⟩ = some (.int .i64 b.f0) ∧ w'.cell? ⟨gb, 1, none⟩ = some (.int .i64 b.f1) ∧ w'.cell? ⟨gb, 2, none⟩ = some (.int .i64 b.f2) ∧ w'.cell? ⟨gb, 3, none⟩ = some (.int .i64 b.f3)) (first | assumption | go_keep) (first | (go_at_call 66; (with_reducible refine (HMC.out _).mono ?_); rintro e_ w24 ⟨rfl, hb⟩; have hS24 : w24.cell? ⟨gt, 0, none⟩ = some (.pointer (some ⟨g, 0, none⟩)) ∧ w24.cell? ⟨g, 2, none⟩ = some (.slice (some ad) lv.length td) ∧ w24.cell? (ad.add kk) = some (.slice (some ad2) NL lc) ∧ w24.cell? (ad2.add (i * 4)) = some (.int .i64 X.f0) ∧ w24.cell? ⟨(ad2.add (i * 4)).block, (ad2.add (i * 4)).off + 1, none⟩ = some (.int .i64 X.f1) ∧ w24.cell? ⟨(ad2.add (i * 4)).block, (ad2.add (i * 4)).off + 2, none⟩ = some (.int .i64 X.f2) ∧ w24.cell? ⟨(ad2.add (i * 4)).block, (ad2.add (i * 4)).off + 3, none⟩ = some (.int .i64 X.f3) ∧ w24.cell? ⟨gb, 0, none⟩ = some (.int .i64 b.f0) ∧ w24.cell? ⟨gb, 1, none⟩ = some (.int .i64 b.f1) ∧ w24.cell? ⟨gb, 2, none⟩ = some (.int .i64 b.f2) ∧ w24.cell? ⟨gb, 3, none⟩ = some (.int .i64 b.f3) := ⟨pw_cell_below hb k1_0, pw_cell_below hb q2, pw_cell_below hb r4, pw_cell_below hb r0, pw_cell_below hb r1, pw_cell_below hb r2, pw_cell_below hb r3, pw_cell_below hb k2_0, pw_cell_below hb k2_1, pw_cell_below hb k2_2, pw_cell_below hb k2_3⟩; have HB := Aside0.mk hb; clear hb))
  go_wp2
  clear k1_0 k2_0 k2_1 k2_2 k2_3 q0 q1 q2 r0 r1 r2 r3 r4 hS0 hS24
  replace S := Aside0.mk (HS.out.drew.step HB.out)
  clear HB HS
  refine wpIn_genS S (fun W S => ?_)
  obtain ⟨k0_0, f0_0, k1_0, k3_0⟩ : W.cell? ⟨V, 0, none⟩ = some (.int .i64 (c : Int)) ∧ W.frozen? ⟨V, 0, none⟩ = false ∧ W.cell? ⟨gt, 0, none⟩ = some (.pointer (some ⟨g, 0, none⟩)) ∧ W.cell? ⟨gv, 0, none⟩ = some (.pointer (some ⟨V, 0, none⟩)) := ⟨blk_cell (S.out.at_box 0 rfl) 0, blk_frozen (S.out.at_box 0 rfl) 0, blk_cell (S.out.at_box 1 rfl) 0, blk_cell (S.out.at_box 3 rfl) 0⟩
  have i1 : Aside0 (wrap64 ((c : Int) + 1) = ((c + 1 : Nat) : Int)) := ⟨by rw [IntWalk.wrap64_in _ (by have := HCC.out; omega)]; omega⟩
  have i2 := i1.out
  apply wpIn_cond_split rfl (fun h => ?_) (fun h => ?_)
  · cases h
  · have e0 : ((kk : Int) == 0) = false := by rw [beq_eq_false_iff_ne]; have := HK0.out; omega
    go_wp2_with (first | (with_reducible refine wpIn_reg (id := 3) ?_) | (with_reducible refine wpIn_reg (id := 4) ?_) | (first | (with_reducible refine wpIn_seq_k ?_; intro _ _) | (with_reducible refine wpIn_block ?_) | (with_reducible refine wpIn_skip ?_) | (with_reducible refine wpIn_exit ?_) | ((with_reducible refine wpIn_cond_split rfl (fun h => ?_) (fun h => ?_)) <;> (try simp only [decide_eq_true_eq, decide_eq_false_iff_not, Bool.and_eq_true, Bool.or_eq_true, Bool.and_eq_false_iff, Bool.or_eq_false_iff] at h) <;> go_prune)))
    clear i2 k0_0 f0_0 k1_0 k3_0 e0
    refine wpIn_genS (L := MV _ g gt gb gv gy gf V l b (c + 1) ++ L pre) ⟨S.out.set 0 rfl 0 (.int .i64 ((c + 1 : Nat) : Int))⟩ (fun W S => ?_)
    clear i1
    obtain ⟨ht0, ht1, _, TB', td', ht5, ht6, ht7⟩ := HT.out
    have hb := S.out.below
    have q0 := (hb.cell (p := ⟨g, 0, none⟩) ht0).trans ht1
    have k1_0 : W.cell? ⟨gt, 0, none⟩ = some (.pointer (some ⟨g, 0, none⟩)) := blk_cell (S.out.at_box 1 rfl) 0
    obtain ⟨K, hK⟩ : ∃ K, K = i * fan := ⟨_, rfl⟩
    have hlo := HLO.out
    have hN := HN.out
    rw [← hK] at hlo
    have hKi : (K : Int) = (i : Int) * (fan : Int) := by rw [hK, Int.natCast_mul]
    have i1 : Aside0 (IntKind.i64.wrap ((i : Int) * (fan : Int)) = (K : Int)) := ⟨by rw [← hKi]; exact w64 (K : Int) (by omega)⟩
    have i1' : Aside0 (wrap64 ((i : Int) * (fan : Int)) = (K : Int)) := ⟨by rw [← i64_w]; exact i1.out⟩
    have hib : i ≤ K := by rw [hK]; exact Nat.le_mul_of_pos_right _ HF.out
    have i2 : Aside0 (IntKind.i64.wrap ((i : Int) + 1) = ((i + 1 : Nat) : Int)) := ⟨by rw [w64 ((i : Int) + 1) (by omega)]; omega⟩
    obtain ⟨KF, hKF⟩ : ∃ KF : Nat, KF = K + fan := ⟨_, rfl⟩
    have hK2 : ((i : Int) + 1) * (fan : Int) = (KF : Int) := by rw [Int.add_mul, ← hKi, hKF]; omega
    have i3 : Aside0 (IntKind.i64.wrap (((i : Int) + 1) * (fan : Int)) = (KF : Int)) := ⟨by rw [hK2]; exact w64 (KF : Int) (by have := HF2.out; omega)⟩
    have i4 : Aside0 (IntKind.i64.wrap ((kk : Int) - 1) = (k : Int)) := ⟨by rw [w64 ((kk : Int) - 1) (by have := hk; have := HKL.out; omega)]; have := HK0.out; omega⟩
    have i4' : Aside0 (wrap64 ((kk : Int) - 1) = (k : Int)) := ⟨by rw [← i64_w]; exact i4.out⟩
    obtain ⟨NK, hNK0⟩ : ∃ NK, NK = (lv.getD k []).length := ⟨_, rfl⟩
    have hNK : N = min KF NK := by rw [hN, hKF, hK, hNK0, Nat.add_mul, Nat.one_mul]
    have hUj : ∀ (inst : Decidable (NK < KF)), (@ite _ (NK < KF) inst (NK : Int) (KF : Int)) = (N : Int) := by intro inst; rw [hNK]; split <;> omega
    have HUJ := Aside0.mk hUj
    have hlvk : k < lv.length := by have := HK0.out; omega
    obtain ⟨adB, A0, c0, eB, hcell0, hcc0, _⟩ := level_at ht7 k hlvk hlvk
    subst eB
    have eg : lv[k] = lv.getD k [] := by rw [List.getD_eq_getElem?_getD, List.getElem?_eq_getElem hlvk]; rfl
    rw [eg, ← hNK0] at hcell0 hcc0
    have HNK := Aside0.mk hNK0
    have HNN := Aside0.mk hNK
    have HCE := Aside0.mk hcell0
    have HKK := Aside0.mk hK
    have u1 := i1.out
    have u1' := i1'.out
    clear hcell0 hcc0 eg hUj hN hNK hK2 hKF hib hKi hlo hb ht7 ht6 hK hNK0
    go_wp2_with (first | (with_reducible refine wpIn_reg (id := 12) ?_) | (first | (with_reducible refine wpIn_seq_k ?_; intro _ _) | (with_reducible refine wpIn_block ?_) | (with_reducible refine wpIn_skip ?_) | (with_reducible refine wpIn_exit ?_) | ((with_reducible refine wpIn_cond_split rfl (fun h => ?_) (fun h => ?_)) <;> (try simp only [decide_eq_true_eq, decide_eq_false_iff_not, Bool.and_eq_true, Bool.or_eq_true, Bool.and_eq_false_iff, Bool.or_eq_false_iff] at h) <;> go_prune)))
    clear u1 u1' q0 k1_0
    obtain ⟨T, hT0⟩ : ∃ T, T = N - K := ⟨_, rfl⟩
    have HT0 := Aside0.mk hT0
    clear hT0
    gi_loopw [12] (fun v wr => ∃ t : Nat, Aside0 (t ≤ T) ∧ v = .int .i64 ((K + t : Nat) : Int) ∧ Aside0 (SepW.Sep w0 wr (MV _ g gt gb gv gy gf V l b (c + 1 + ((List.range' K t).map (fun j => (vis lv items fan b k j).2)).sum) ++ L (pre ++ ((List.range' K t).map (fun j => (vis lv items fan b k j).1)).flatten))))
      (fun v _ => K + T - (intOf v).toNat)
    case atStart => exact ⟨0, ⟨Nat.zero_le _⟩, rfl, by simpa using S⟩
    case round =>
      clear S
      obtain ⟨t, ht, rfl, S⟩ := hrel
      obtain ⟨j, hj⟩ : ∃ j, j = K + t := ⟨_, rfl⟩
      rw [← hj]
      have hb := S.out.below
      have q0 := (hb.cell (p := ⟨g, 0, none⟩) ht0).trans ht1
      have q2 := (hb.cell (p := ⟨g, 2, none⟩) ht0).trans ht5
      have k1_0 : wr.cell? ⟨gt, 0, none⟩ = some (.pointer (some ⟨g, 0, none⟩)) := blk_cell (S.out.at_box 1 rfl) 0
      have hce := pw_cell_below hb HCE.out
      have HJ := Aside0.mk hj
      have u2 := i2.out
      have u3 := i3.out
      have u4 := i4.out
      have hUj := HUJ.out
      have p0 : (0 : Int) ≤ (k : Int) := by omega
      have p1 : (k : Int) < (lv.length : Int) := by have := HK0.out; omega
      have hJT : t < T ↔ j < N := by have := HT0.out; have := ht.out; omega
      clear hb hj
      by_cases hlt : j < N
      · have d1 : decide ((j : Int) < (N : Int)) = true := decide_eq_true (by omega)
        have d1' : decide (j < N) = true := decide_eq_true hlt
        have HLT := Aside0.mk hlt
        have HTT := Aside0.mk (hJT.2 hlt)
        clear hJT hlt
        apply wpIn_seq_k
        intro _ _
        apply wpIn_seq_k
        intro _ _
        refine wpIn_wide.2 ?_
        go_quiet (fail)
        go_wp2
        clear q0 q2 k1_0 hce u2 u3 hUj
        replace S := Aside0.mk (S.out.drewN nq)
        refine wpIn_genS (L := MV _ g gt gb gv gy gf V l b (c + 1 + ((List.range' K t).map (fun j => (vis lv items fan b k j).2)).sum) ++ L (pre ++ ((List.range' K t).map (fun j => (vis lv items fan b k j).1)).flatten)) S (fun W2 S => ?_)
        have kf_0 : W2.cell? ⟨gf, 0, none⟩ = some (.func (.func 65) #[] #[.pointer (some ⟨gt, 0, none⟩), .pointer (some ⟨gb, 0, none⟩), .pointer (some ⟨gv, 0, none⟩), .pointer (some ⟨gy, 0, none⟩), .pointer (some ⟨gf, 0, none⟩)]) := blk_cell (S.out.at_box 5 rfl) 0
        have j1 : Aside0 (wrap64 ((j : Int) + 1) = ((j + 1 : Nat) : Int)) := ⟨by rw [IntWalk.wrap64_in _ (by have := HIL.out; have := HLT.out; have := HNN.out; have := HNK.out; omega)]; omega⟩
        have j2 := j1.out
        have hst : List.range' K (t + 1) = List.range' K t ++ [j] := by rw [HJ.out, List.range'_1_concat]
        have HST := Aside0.mk hst
        have hsp : (List.range' K (N - K)) = List.range' K t ++ j :: List.range' (j + 1) (T - t - 1) := by
          rw [← HT0.out, show T = t + ((T - t - 1) + 1) by have := HTT.out; omega, ← List.range'_append_1, HJ.out, List.range'_succ]
          congr 3
          omega
        have HSP := Aside0.mk hsp
        have hpf : (pre ++ ((List.range' K t).map (fun j => (vis lv items fan b k j).1)).flatten) ++ (vis lv items fan b k j).1 <+: xs := by
          refine List.IsPrefix.trans ?_ HPRE.out
          rw [← HKK.out, hsp, List.map_append, List.flatten_append, List.append_assoc, List.map_cons, List.flatten_cons]
          exact (List.prefix_append_right_inj pre).2 ((List.prefix_append_right_inj _).2 (List.prefix_append _ _))
        have hcf : c + 1 + ((List.range' K t).map (fun j => (vis lv items fan b k j).2)).sum + (vis lv items fan b k j).2 ≤ 1000000000 := by
          have h1 := HCC.out
          rw [← HKK.out, hsp, List.map_append, List.sum_append, List.map_cons, List.sum_cons] at h1
          omega
        have HPF := Aside0.mk hpf
        have HCF := Aside0.mk hcf
        have hjk : j < (lv.getD k []).length := by rw [← HNK.out]; have := HLT.out; have := HNN.out; omega
        have HJK := Aside0.mk hjk
        clear hst hsp hpf hcf hjk
        refine wpIn_cond_split rfl (fun h => ?_) (fun h => ?_)
        · gi_wp2_with (first | (refine ⟨trivial, fun h => absurd (show false = true from h) (by decide), ?_⟩; gi_at_call 65; (with_reducible refine (HIH.out _ j _ _ W2 HJK.out HCF.out HPF.out S.out).mono ?_); rintro e_ w104 ⟨rfl, hS⟩; replace S := Aside0.mk hS; clear hS))
          refine ⟨⟨t + 1, ⟨HTT.out⟩, by rw [j1.out, HJ.out]; rfl, ⟨?_⟩⟩, ?_⟩
          · have S5 := S.out
            rw [HST.out, List.map_append, List.map_append, List.sum_append, List.flatten_append]
            simp only [List.map_cons, List.map_nil, List.sum_cons, List.sum_nil, List.flatten_cons, List.flatten_nil, List.append_nil, Nat.add_zero]
            rw [← Nat.add_assoc, ← List.append_assoc]
            exact S5
          · rw [j1.out]
            have h1 := HTT.out
            have h2 := HJ.out
            show K + T - (((j + 1 : Nat) : Int)).toNat < K + T - ((j : Int)).toNat
            rw [Int.toNat_natCast, Int.toNat_natCast]
            omega
        · cases h
      · have d0 : decide ((j : Int) < (N : Int)) = false := decide_eq_false (by omega)
        have d0' : decide (j < N) = false := decide_eq_false hlt
        have htT : t = T := by have := ht.out; omega
        have hfin : List.range' K t = List.range' (i * fan) (N - i * fan) := by rw [htT, HT0.out, HKK.out]
        have S4 := S.out
        rw [hfin] at S4
        replace S := Aside0.mk S4
        clear hJT hlt htT hfin S4
        apply wpIn_seq_k
        intro _ _
        apply wpIn_seq_k
        intro _ _
        refine wpIn_wide.2 ?_
        go_quiet (fail)
        go_wp2
        clear q0 q2 k1_0 hce u2 u3 hUj
        gi_wp2
        go_ret
        exact ⟨rfl, S.out.drewN nq⟩
end Go.Proofs.Ytjpkkdnilfoafaa.Hand
end
section
namespace Go.Proofs.Ytjpkkdnilfoafaa.Hand
open Go.Proofs.YtjpkkdnilfoafaaW Go.RowKit Go.Proofs.YtjpkkdnilfoafaaW.PrintWords Go.Proofs.YtjpkkdnilfoafaaW.PrintLast Go.Proofs.YtjpkkdnilfoafaaW.PrintMore Go.Proofs.YtjpkkdnilfoafaaW.SepW Go.Proofs.Ytjpkkdnilfoafaa.PALL Go.Proofs.Ytjpkkdnilfoafaa.Plain
set_option linter.unusedVariables false
set_option linter.unusedSimpArgs false
/-- A tree of moderate size. -/
structure Fine (fan : Nat) (items : List S61) (lv : List (List S57)) : Prop where
  fan1 : 1 ≤ fan
  fan2 : fan ≤ 1000000
  itl : items.length ≤ 1000000
  lvl : lv.length ≤ 1000000
  level : ∀ k, (lv.getD k []).length ≤ 1000000
  low : ∀ i, i < (lv.getD 0 []).length → i * fan < items.length
  high : ∀ k i, k < lv.length → i < (lv.getD k []).length → i * fan ≤ 1000000
  top : 0 < lv.length → 0 < (lv.getD (lv.length - 1) []).length
/-- What the search yields, and how many nodes it counts. -/
def visT (lv : List (List S57)) (items : List S61) (fan : Nat) (b : S57) : List S61 × Nat := if lv.length = 0 then ([], 0) else vis lv items fan b (lv.length - 1) 0
theorem visit_all {w0 : World} {g fan : Nat} {items : List S61} {lv : List (List S57)} (hT : TreeAt w0 g fan items lv) (hF : Fine fan items lv) (gt gb gv gy gf V l : Nat) (b : S57) (n : Nat) (L : List S61 → List (Thing w0.heap.size)) (xs : List S61) (hR : Rnd n l w0 xs L) : ∀ (k m i c : Nat) (pre : List S61) (W : World), k < lv.length → i < (lv.getD k []).length → c + (vis lv items fan b k i).2 ≤ 1000000000 → (pre ++ (vis lv items fan b k i).1) <+: xs → SepW.Sep w0 W (MV _ g gt gb gv gy gf V l b c ++ L pre) →
    CallsIn Fence.wide m Try.prog 65 #[.int .i64 (k : Int), .int .i64 (i : Int), .pointer (some ⟨gt, 0, none⟩), .pointer (some ⟨gb, 0, none⟩), .pointer (some ⟨gv, 0, none⟩), .pointer (some ⟨gy, 0, none⟩), .pointer (some ⟨gf, 0, none⟩)] W fun e W'' => e = .returned (.bool true) ∧ SepW.Sep w0 W'' (MV _ g gt gb gv gy gf V l b (c + (vis lv items fan b k i).2) ++ L (pre ++ (vis lv items fan b k i).1))
  | 0, m, i, c, pre, W, hk, hi, hc, hp, S => by
    cases hm : meetsB (bxL lv 0 i) b with
    | false =>
      have e : vis lv items fan b 0 i = ([], 0) := by rw [vis, if_neg (by rw [hm]; decide)]
      rw [e]
      simp only [List.append_nil, Nat.add_zero]
      exact callsIn_wide.2 (visit_no hT gt gb gv gy gf V l b n 0 i hk hi c (L pre) W S hm)
    | true =>
      have e : vis lv items fan b 0 i = (((items.drop (i * fan)).take fan).filter (fun x => meetsB x.f1 b), 1) := by rw [vis, if_pos hm]
      rw [e] at hc hp ⊢
      exact visit_leaf hT gt gb gv gy gf V l b n 0 i rfl hk hi hF.fan1 hF.fan2 hF.itl (hF.low i hi) c (by omega) L xs pre hR hp W S hm m
  | k + 1, m, i, c, pre, W, hk, hi, hc, hp, S => by
    cases hm : meetsB (bxL lv (k + 1) i) b with
    | false =>
      have e : vis lv items fan b (k + 1) i = ([], 0) := by rw [vis, if_neg (by rw [hm]; decide)]
      rw [e]
      simp only [List.append_nil, Nat.add_zero]
      exact callsIn_wide.2 (visit_no hT gt gb gv gy gf V l b n (k + 1) i hk hi c (L pre) W S hm)
    | true =>
      rw [vis, if_pos hm] at hc hp ⊢
      simp only [] at hc hp ⊢
      rw [← Nat.add_assoc] at hc ⊢
      exact visit_node hT gt gb gv gy gf V l b n (k + 1) k i rfl hk hi hF.fan1 hF.fan2 (hF.level k) (hF.high (k + 1) i hk hi) hF.lvl c _ rfl L xs pre hc hp W S hm (fun m j c' pre' W' h1 h2 h3 h4 => visit_all hT hF gt gb gv gy gf V l b n L xs hR k m j c' pre' W' (by omega) h1 h2 h3 h4) m
set_option maxHeartbeats 40000000 in
set_option maxRecDepth 100000 in
theorem search_seq {w0 : World} {g fan : Nat} {items : List S61} {lv : List (List S57)} (hT : TreeAt w0 g fan items lv) (hF : Fine fan items lv) (gt gb gv V : Nat) (b : S57) (n : Nat) (hb9 : (visT lv items fan b).2 ≤ 1000000000) :
    SeqSep Fence.wide n Try.prog 64 #[.pointer (some ⟨gt, 0, none⟩), .pointer (some ⟨gb, 0, none⟩), .pointer (some ⟨gv, 0, none⟩)] (fun x => #[vI x]) (visT lv items fan b).1 w0 [Box _ V 3 #[.int .i64 ((0 : Nat) : Int)], Box _ gt 53 #[.pointer (some ⟨g, 0, none⟩)], Box _ gb 57 #[.int .i64 b.f0, .int .i64 b.f1, .int .i64 b.f2, .int .i64 b.f3], Box _ gv 90 #[.pointer (some ⟨V, 0, none⟩)]]
      [Box _ V 3 #[.int .i64 ((visT lv items fan b).2 : Int)], Box _ gt 53 #[.pointer (some ⟨g, 0, none⟩)], Box _ gb 57 #[.int .i64 b.f0, .int .i64 b.f1, .int .i64 b.f2, .int .i64 b.f3], Box _ gv 90 #[.pointer (some ⟨V, 0, none⟩)]] := by
  intro l L hround W S0
  refine callsIn_wide.2 ?_
  have hR : Rnd (n - 1) l w0 (visT lv items fan b).1 L := hround
  have S := Aside0.mk S0
  have HR := Aside0.mk hR
  have HF := Aside0.mk hF
  have HT := Aside0.mk hT
  have HB9 := Aside0.mk hb9
  have hmf : ∀ (fn : Fn) (first cap : Array Value) (w : World), (Instr.makeFunc fn first cap).run Try.prog w = .ok (.func fn first cap) w := fun _ _ _ _ => rfl
  clear hround hR S0 hb9
  go_enter Try.func64, Try.ntmps64
  go_upto_region 1 with fail
  have S1 := Aside0.mk (S.out.alloc #[.func (.yield l) #[] #[]] 109)
  generalize W.heap.size = gy at S1 ⊢
  refine wp_genS S1 (fun W1 S => ?_)
  clear S1
  go_upto_region 3 with (first | ((with_reducible refine gate_dst (N := 5) rfl ?_); refine box_event ?hg (N := 5) ?hd (cs := #[.nilFunc]) (t := 110) ?hr ?_; (case hd => rfl); (case hg => rfl); (case hr => first | (go_simp; done) | (go_simp; rfl)); intro g5 hg w5 hbox hb; replace S := Aside0.mk (S.out.box hg hbox hb); have k5_0 := blk_cell hbox 0; have f5_0 := blk_frozen hbox 0; simp only [List.getElem?_toArray, List.getElem?_cons_zero, List.getElem?_cons_succ] at k5_0; clear hbox hb hg) | fail)
  replace S := Aside0.mk (S.out.set 0 rfl 0 (.func (.func 65) #[] #[.pointer (some ⟨gt, 0, none⟩), .pointer (some ⟨gb, 0, none⟩), .pointer (some ⟨gv, 0, none⟩), .pointer (some ⟨gy, 0, none⟩), .pointer (some ⟨g5, 0, none⟩)]))
  clear k5_0 f5_0
  refine wp_genS S (fun W2 S => ?_)
  replace S := Aside0.mk (show SepW.Sep w0 W2 (MV _ g gt gb gv gy g5 V l b 0 ++ L []) from S.out.perm (by
    refine (List.perm_append_comm_assoc [_, _] [_, _, _, _] (L [])).trans ?_
    exact List.Perm.append_left _ (List.Perm.swap _ _ _)))
  obtain ⟨ht0, ht1, _, TB, td, ht5, _, _⟩ := HT.out
  have q2 := (S.out.below.cell (p := ⟨g, 2, none⟩) ht0).trans ht5
  have k1_0 : W2.cell? ⟨gt, 0, none⟩ = some (.pointer (some ⟨g, 0, none⟩)) := blk_cell (S.out.at_box 1 rfl) 0
  have HQ := Aside0.mk ht5
  have HQ0 := Aside0.mk ht0
  clear ht1 ht5 ht0 hmf
  cases hlv : lv.length with
  | zero =>
    rw [hlv] at q2
    go_wp2
    go_end0
    refine ⟨⟨_, rfl⟩, ?_⟩
    have e : visT lv items fan b = ([], 0) := by unfold visT; rw [if_pos hlv]
    rw [e]
    exact (S.out.drop 4).drop 4
  | succ K =>
    rw [hlv] at q2
    have e : visT lv items fan b = vis lv items fan b K 0 := by unfold visT; rw [if_neg (by omega), hlv]; rfl
    have hKt : 0 < (lv.getD K []).length := by
      have := HF.out.top (by omega)
      rwa [hlv] at this
    have hKb : K < 1000000 := by have := HF.out.lvl; omega
    have u1 : IntKind.i64.wrap (((K + 1 : Nat) : Int) - 1) = (K : Int) := by rw [w64 _ (by omega)]; omega
    have u2 : wrap64 (((K + 1 : Nat) : Int) - 1) = (K : Int) := by rw [← i64_w]; exact u1
    have u3 : IntKind.i64.wrap (K : Int) = (K : Int) := w64 _ (by omega)
    have d1 : decide (0 < ((K + 1 : Nat) : Int)) = true := decide_eq_true (by omega)
    have kf_0 : W2.cell? ⟨g5, 0, none⟩ = some (.func (.func 65) #[] #[.pointer (some ⟨gt, 0, none⟩), .pointer (some ⟨gb, 0, none⟩), .pointer (some ⟨gv, 0, none⟩), .pointer (some ⟨gy, 0, none⟩), .pointer (some ⟨g5, 0, none⟩)]) := blk_cell (S.out.at_box 5 rfl) 0
    have HLV := Aside0.mk hlv
    have HKT := Aside0.mk hKt
    have HE := Aside0.mk e
    clear e hlv hKt
    go_upto_region 4 with fail
    have hS0 : W2.drew.cell? ⟨g5, 0, none⟩ = some (.func (.func 65) #[] #[.pointer (some ⟨gt, 0, none⟩), .pointer (some ⟨gb, 0, none⟩), .pointer (some ⟨gv, 0, none⟩), .pointer (some ⟨gy, 0, none⟩), .pointer (some ⟨g5, 0, none⟩)]) ∧ W2.drew.cell? ⟨gt, 0, none⟩ = some (.pointer (some ⟨g, 0, none⟩)) ∧ W2.drew.cell? ⟨g, 2, none⟩ = some (.slice TB (K + 1) td) := ⟨kf_0, k1_0, q2⟩
    go_region_held3 (fun w' => w'.cell? ⟨g5, 0, none⟩ = some (.func (.func 65) #[] #[.pointer (some ⟨gt, 0, none⟩), .pointer (some ⟨gb, 0, none⟩), .pointer (some ⟨gv, 0, none⟩), .pointer (some ⟨gy, 0, none⟩), .pointer (some ⟨g5, 0, none⟩)]) ∧ w'.cell? ⟨gt, 0, none⟩ = some (.pointer (some ⟨g, 0, none⟩)) ∧ w'.cell? ⟨g, 2, none⟩ = some (.slice TB (K + 1) td)) (first | assumption | go_keep) (first | (go_at_call 65; have X_ := callsIn_wide.1 (visit_all HT.out HF.out gt gb gv gy g5 V l b (n - 1) L (visT lv items fan b).1 HR.out K 0 0 0 [] W2.drew (by have := HLV.out; omega) HKT.out (by rw [← HE.out]; have := HB9.out; omega) (by rw [← HE.out]; exact List.prefix_refl _) S.out.drew); rw [show ((0 : Nat) : Int) = 0 from rfl] at X_; (with_reducible refine X_.mono ?_); clear X_; rintro e_ w20 ⟨rfl, hS⟩; replace S := Aside0.mk hS; clear hS; have hS20 : w20.cell? ⟨g5, 0, none⟩ = some (.func (.func 65) #[] #[.pointer (some ⟨gt, 0, none⟩), .pointer (some ⟨gb, 0, none⟩), .pointer (some ⟨gv, 0, none⟩), .pointer (some ⟨gy, 0, none⟩), .pointer (some ⟨g5, 0, none⟩)]) ∧ w20.cell? ⟨gt, 0, none⟩ = some (.pointer (some ⟨g, 0, none⟩)) ∧ w20.cell? ⟨g, 2, none⟩ = some (.slice TB (K + 1) td) := ⟨blk_cell (S.out.at_box 5 rfl) 0, blk_cell (S.out.at_box 1 rfl) 0, by rw [← HLV.out]; exact (S.out.below.cell (p := ⟨g, 2, none⟩) HQ0.out).trans HQ.out⟩))
    go_wp2
    go_end0
    refine ⟨⟨_, rfl⟩, ?_⟩
    rw [HE.out]
    have S9 := (S.out.drop 4).drop 4
    rw [Nat.zero_add, List.nil_append] at S9
    exact S9
end Go.Proofs.Ytjpkkdnilfoafaa.Hand
end
section
namespace Go.Proofs.Ytjpkkdnilfoafaa.Hand
open Go.Proofs.YtjpkkdnilfoafaaW Go.RowKit Go.Proofs.YtjpkkdnilfoafaaW.PrintWords Go.Proofs.YtjpkkdnilfoafaaW.PrintLast Go.Proofs.YtjpkkdnilfoafaaW.PrintMore Go.Proofs.YtjpkkdnilfoafaaW.SepW Go.Proofs.Ytjpkkdnilfoafaa.PALL Go.Proofs.Ytjpkkdnilfoafaa.Plain
set_option linter.unusedVariables false
set_option linter.unusedSimpArgs false
attribute [local go_sem] Oper.semAt_some
/-- What Window's loop holds. -/
def LW (base g5 : Nat) (pre : List S61) : List (Thing base) := [exT base (fun v : Value => [Box base g5 43 #[v], YtjpkkdnilfoafaaW.SepW.Own base k23 23 v (pre.map S61.f0)])]
set_option maxHeartbeats 40000000 in
set_option maxRecDepth 100000 in
theorem TreeAt.below' {w w' : World} {g fan : Nat} {items : List S61} {levels : List (List S57)} (h : TreeAt w g fan items levels) (hb : Below w.heap.size w w') : TreeAt w' g fan items levels := h.below hb
theorem search_ct (g V : Nat) (b : S57) (w : World) :
    Calls Try.prog 48 #[.pointer (some ⟨g, 0, none⟩), .agg #[.int .i64 b.f0, .int .i64 b.f1, .int .i64 b.f2, .int .i64 b.f3], .pointer (some ⟨V, 0, none⟩)] w fun e w' => e = .returned (.func (.func 64) #[] #[.pointer (some ⟨w.heap.size, 0, none⟩), .pointer (some ⟨w.heap.size + 1, 0, none⟩), .pointer (some ⟨w.heap.size + 1 + 1, 0, none⟩)]) ∧ w' = ((w.alloc (.cells #[.pointer (some ⟨g, 0, none⟩)] 53)).alloc (.cells #[.int .i64 b.f0, .int .i64 b.f1, .int .i64 b.f2, .int .i64 b.f3] 57)).alloc (.cells #[.pointer (some ⟨V, 0, none⟩)] 90) := by
  have hu24 := Try.underlying57
  have hmf : ∀ (fn : Fn) (first cap : Array Value) (w : World), (Instr.makeFunc fn first cap).run Try.prog w = .ok (.func fn first cap) w := fun _ _ _ _ => rfl
  go_enter Try.func48, Try.ntmps48
  go_wp2
  go_ret
  exact ⟨rfl, rfl⟩
set_option maxHeartbeats 40000000 in
set_option maxRecDepth 100000 in
theorem window_ct {w0 : World} {g fan : Nat} {items : List S61} {lv : List (List S57)} (hT : TreeAt w0 g fan items lv) (hF : Fine fan items lv) (b : S57) (hb9 : (visT lv items fan b).2 ≤ 1000000000) (hl9 : (visT lv items fan b).1.length ≤ 1000000) (w : World) (hb : Below w0.heap.size w0 w) :
    Calls Try.prog 25 #[.pointer (some ⟨g, 0, none⟩), .agg #[.int .i64 b.f0, .int .i64 b.f1, .int .i64 b.f2, .int .i64 b.f3]] w fun e w' => ∃ v ys, e = .returned v ∧ k23.R 23 w' w.heap.size (fun _ => True) v ys ∧ ys.Perm ((visT lv items fan b).1.map S61.f0) ∧ ys.Pairwise (fun a b => ltR b a = false) ∧ Below w.heap.size w w' := by
  have S := Aside0.mk (SepW.Sep.start w)
  have HT := Aside0.mk hT
  have HB := Aside0.mk hb
  have HF := Aside0.mk hF
  have HB9 := Aside0.mk hb9
  have hu24 := Try.underlying57
  clear hT hb hF hb9
  refine (callsIn_wide (n := 9)).1 ?_
  have HL9 := Aside0.mk hl9
  clear hl9
  refine callsIn_of_wp_marks Try.func25 rfl trivial ?_ rfl
  simp only [Try.ntmps25, List.size_toArray, List.length_cons, List.length_nil, Nat.reduceAdd, Nat.reduceSub, Array.replicate_succ, Array.replicate_zero, List.push_toArray, List.append_toArray, List.nil_append, List.cons_append]
  refine wpIn_wide.2 ?_
  go_upto_region 1 with fail
  have S1 := Aside0.mk (S.out.alloc #[.int .i64 b.f0, .int .i64 b.f1, .int .i64 b.f2, .int .i64 b.f3] 57)
  refine wp_genS S1 (fun W1 S => ?_)
  clear S1
  go_upto_region 5 with (first | ((with_reducible refine gate_dst (N := 5) rfl ?_); refine box_event ?hg (N := 5) ?hd (cs := #[.slice none 0 0]) (t := 43) ?hr ?_; (case hd => rfl); (case hg => rfl); (case hr => first | (go_simp; done) | (go_simp; rfl)); intro g5 hg w5 hbox hb; replace S := Aside0.mk (S.out.box hg hbox hb); have k5_0 := blk_cell hbox 0; simp only [List.getElem?_toArray, List.getElem?_cons_zero, List.getElem?_cons_succ] at k5_0; clear hbox hb hg) | ((with_reducible refine gate_dst (N := 6) rfl ?_); refine box_event ?hg (N := 6) ?hd (cs := #[.int .i64 0]) (t := 3) ?hr ?_; (case hd => rfl); (case hg => rfl); (case hr => first | (go_simp; done) | (go_simp; rfl)); intro g6 hg w6 hbox hb; replace S := Aside0.mk (show Sep _ _ (Box _ g6 3 #[.int .i64 ((0 : Nat) : Int)] :: _) from (S.out.box hg hbox hb).set 0 rfl 0 (.int .i64 ((0 : Nat) : Int))); have z6_0 := blk_cell hbox 0; have y6_0 := blk_frozen hbox 0; simp only [List.getElem?_toArray, List.getElem?_cons_zero, List.getElem?_cons_succ] at z6_0; clear hbox hb hg) | fail)
  clear z6_0 y6_0
  refine wp_genS S (fun W2 S => ?_)
  have k3_0 := blk_cell (S.out.at_box 2 rfl) 0
  have k3_1 := blk_cell (S.out.at_box 2 rfl) 1
  have k3_2 := blk_cell (S.out.at_box 2 rfl) 2
  have k3_3 := blk_cell (S.out.at_box 2 rfl) 3
  simp only [List.getElem?_toArray, List.getElem?_cons_zero, List.getElem?_cons_succ] at k3_0 k3_1 k3_2 k3_3
  go_wp2_with (first | (go_at_call 48; (with_reducible refine (search_ct g g6 b _).mono ?_); rintro e_ w12 ⟨rfl, hw0_⟩; have hw_ := Aside0.mk hw0_; clear hw0_) | fail)
  clear k3_0 k3_1 k3_2 k3_3
  have S1 := ((S.out.alloc #[.pointer (some ⟨g, 0, none⟩)] 53).alloc #[.int .i64 b.f0, .int .i64 b.f1, .int .i64 b.f2, .int .i64 b.f3] 57).alloc #[.pointer (some ⟨g6, 0, none⟩)] 90
  rw [← hw_.out, World.size_alloc, World.size_alloc] at S1
  clear hw_
  have HP : Aside0 (SepW.Sep w w12 ([Box _ g6 3 #[.int .i64 ((0 : Nat) : Int)], Box _ W2.heap.size 53 #[.pointer (some ⟨g, 0, none⟩)], Box _ (W2.heap.size + 1) 57 #[.int .i64 b.f0, .int .i64 b.f1, .int .i64 b.f2, .int .i64 b.f3], Box _ (W2.heap.size + 1 + 1) 90 #[.pointer (some ⟨g6, 0, none⟩)]] ++ (LW _ g5 [] ++ [Box _ w.heap.size 57 #[.int .i64 b.f0, .int .i64 b.f1, .int .i64 b.f2, .int .i64 b.f3]]))) := ⟨by
    have S2 := S1.perm (L' := [Box _ g5 43 #[.slice none 0 0], Box _ g6 3 #[.int .i64 ((0 : Nat) : Int)], Box _ W2.heap.size 53 #[.pointer (some ⟨g, 0, none⟩)], Box _ (W2.heap.size + 1) 57 #[.int .i64 b.f0, .int .i64 b.f1, .int .i64 b.f2, .int .i64 b.f3], Box _ (W2.heap.size + 1 + 1) 90 #[.pointer (some ⟨g6, 0, none⟩)], Box _ w.heap.size 57 #[.int .i64 b.f0, .int .i64 b.f1, .int .i64 b.f2, .int .i64 b.f3]]) (by
      refine List.Perm.trans (List.perm_append_comm_assoc [_, _, _] [_, _] [_]) ?_
      refine List.Perm.trans (.swap _ _ _) ?_
      refine .cons _ (.cons _ ?_)
      refine List.Perm.trans (.swap _ _ _) ?_
      refine List.Perm.trans (.cons _ (.swap _ _ _)) ?_
      exact .swap _ _ _)
    have S3 := SepW.Sep.ex_shut (f := fun v : Value => [Box _ g5 43 #[v], YtjpkkdnilfoafaaW.SepW.Own _ k23 23 v (([] : List S61).map S61.f0)]) (.slice none 0 0) (S2.nil k23 23).swap
    exact S3.perm (List.perm_append_comm_assoc [_] [_, _, _, _] [_])⟩
  generalize W2.heap.size = gs at HP ⊢
  clear S S1
  refine (wpIn_wide (n := 9)).1 ?_
  refine wpIn_rangeFunc_sep rfl (by decide) (gf := 64) (lb := #[.pointer (some ⟨gs, 0, none⟩), .pointer (some ⟨gs + 1, 0, none⟩), .pointer (some ⟨gs + 1 + 1, 0, none⟩)]) rfl trivial (enters_of Try.func64 (by kernel_rfl) rfl)
    (search_seq (HT.out.below' HB.out) HF.out gs (gs + 1) (gs + 1 + 1) g6 b 8 HB9.out) (fun _ => rfl) (fun pre => LW _ g5 pre ++ [Box _ w.heap.size 57 #[.int .i64 b.f0, .int .i64 b.f1, .int .i64 b.f2, .int .i64 b.f3]]) HP.out (β := Nat)
    (fun gx x => { tmps := #[.pointer (some ⟨g, 0, none⟩), .agg #[.int .i64 b.f0, .int .i64 b.f1, .int .i64 b.f2, .int .i64 b.f3], undef, .pointer (some ⟨w.heap.size, 0, none⟩), .slice none 0 0, .pointer (some ⟨g5, 0, none⟩), .pointer (some ⟨g6, 0, none⟩), .pointer (some ⟨gx, 0, none⟩), .pointer (some ⟨g, 0, none⟩), .bool false, .pointer (some ⟨g, 0, none⟩), .agg #[.int .i64 b.f0, .int .i64 b.f1, .int .i64 b.f2, .int .i64 b.f3], .func (.func 64) #[] #[.pointer (some ⟨gs, 0, none⟩), .pointer (some ⟨gs + 1, 0, none⟩), .pointer (some ⟨gs + 1 + 1, 0, none⟩)], vI x, undef, undef, undef, undef, undef, undef, undef, undef], defers := [] })
    (fun gx x => [Box _ gx 61 #[.int .i64 x.f0.f0, .int .i64 x.f0.f1, .int .i64 x.f1.f0, .int .i64 x.f1.f1, .int .i64 x.f1.f2, .int .i64 x.f1.f3]]) ?assign ?body ?done
  case assign =>
    intro l_ pre x W M' K hp hS hK
    have S := Aside0.mk hS
    clear hS
    have HK := Aside0.mk hK
    clear hK
    unfold vI
    refine wpIn_region_plain rfl (fun h => by obtain ⟨_, _, h⟩ := h; exact h) ?_
    simp only [List.zip_toArray, List.zip_cons_cons, List.zip_nil_right, List.foldl_toArray, List.foldl_cons, List.foldl_nil, List.setIfInBounds_toArray, List.set_cons_zero, List.set_cons_succ]
    go_wp2_with (first | ((with_reducible refine gate_dst (N := 7) rfl ?_); refine box_event ?hg (N := 7) ?hd (cs := #[.int .i64 0, .int .i64 0, .int .i64 0, .int .i64 0, .int .i64 0, .int .i64 0]) (t := 61) ?hr ?_; (case hd => rfl); (case hg => rfl); (case hr => first | (go_simp; done) | (go_simp; rfl)); intro g7 hg w7 hbox hb; replace S := Aside0.mk (show Sep _ _ (Box _ g7 61 #[.int .i64 x.f0.f0, .int .i64 x.f0.f1, .int .i64 x.f1.f0, .int .i64 x.f1.f1, .int .i64 x.f1.f2, .int .i64 x.f1.f3] :: _) from ((((((S.out.box hg hbox hb).set 0 rfl 0 (.int .i64 x.f0.f0)).set 0 rfl 1 (.int .i64 x.f0.f1)).set 0 rfl 2 (.int .i64 x.f1.f0)).set 0 rfl 3 (.int .i64 x.f1.f1)).set 0 rfl 4 (.int .i64 x.f1.f2)).set 0 rfl 5 (.int .i64 x.f1.f3)); have z7_0 := blk_cell hbox 0; have y7_0 := blk_frozen hbox 0; have z7_1 := blk_cell hbox 1; have y7_1 := blk_frozen hbox 1; have z7_2 := blk_cell hbox 2; have y7_2 := blk_frozen hbox 2; have z7_3 := blk_cell hbox 3; have y7_3 := blk_frozen hbox 3; have z7_4 := blk_cell hbox 4; have y7_4 := blk_frozen hbox 4; have z7_5 := blk_cell hbox 5; have y7_5 := blk_frozen hbox 5; simp only [List.getElem?_toArray, List.getElem?_cons_zero, List.getElem?_cons_succ] at z7_0 z7_1 z7_2 z7_3 z7_4 z7_5; clear hbox hb hg) | fail)
    exact HK.out g7 _ S.out
  case body =>
    intro l_ pre x gx W M' hp hS
    obtain ⟨v, hS1⟩ := SepW.Sep.ex_open (SepW.Sep.swap (show SepW.Sep w W (Box _ gx 61 #[.int .i64 x.f0.f0, .int .i64 x.f0.f1, .int .i64 x.f1.f0, .int .i64 x.f1.f1, .int .i64 x.f1.f2, .int .i64 x.f1.f3] :: exT _ (fun v : Value => [Box _ g5 43 #[v], YtjpkkdnilfoafaaW.SepW.Own _ k23 23 v (pre.map S61.f0)]) :: Box _ w.heap.size 57 #[.int .i64 b.f0, .int .i64 b.f1, .int .i64 b.f2, .int .i64 b.f3] :: M') from hS))
    have S := Aside0.mk hS1
    clear hS hS1
    have HLP : Aside0 ((pre.map S61.f0).length ≤ 1000000) := ⟨by
      have h1 := hp.length_le
      have h2 := HL9.out
      rw [List.length_append] at h1
      rw [List.length_map]
      omega⟩
    obtain ⟨A, nv, c, ev⟩ := R_form (S.out.at_own 1 rfl)
    subst ev
    have k5_0 := blk_cell (S.out.at_box 0 rfl) 0
    have f5_0 := blk_frozen (S.out.at_box 0 rfl) 0
    have kx_0 := blk_cell (S.out.at_box 2 rfl) 0
    have kx_1 := blk_cell (S.out.at_box 2 rfl) 1
    simp only [List.getElem?_toArray, List.getElem?_cons_zero, List.getElem?_cons_succ] at k5_0 kx_0 kx_1
    refine wpIn_block ?_
    refine wpIn_region_plain rfl (fun h => by obtain ⟨_, _, h⟩ := h; exact h) ?_
    go_wp2_with (first | ((with_reducible refine gate_builtin (b := .append) (xs := #[.tmp 14, .tmp 17]) rfl ?_); at_builtin; obtain ⟨ok, hR, hnew, hup⟩ := S.out.append 1 rfl; refine Kd.R_append k23 (w0 := w) w.heap.size rfl (.tmp 14) (.tmp 17) 43 23 (.agg #[.int .i64 0, .int .i64 0]) 16 rfl Try.underlying43 info23 rfl (by decide) (by omega) (.slice A nv c) (pre.map S61.f0) x.f0 [.int .i64 x.f0.f0, .int .i64 x.f0.f1] ok (fun _ => False) rfl rfl (k23_mkM _ _ _ _) (fun _ h => h.elim) hnew hR S.out.below S.out.size (by have := HLP.out; omega) ?_; intro v18 w18 ho hb hg hat; replace S := Aside0.mk (hup _ w18 _ ho hb hg); clear hup hR hnew ho hb hg hat; obtain ⟨A18, n18, c18, e18⟩ := R_form (S.out.at_own 1 rfl); subst e18; clear k5_0 f5_0; have k5_0 := blk_cell (S.out.at_box 0 rfl) 0; have f5_0 := blk_frozen (S.out.at_box 0 rfl) 0; simp only [List.getElem?_toArray, List.getElem?_cons_zero, List.getElem?_cons_succ] at k5_0) | fail)
    replace S := Aside0.mk ((S.out.set 0 rfl 0 (.slice A18 n18 c18)).drop 2)
    show SepW.Sep w _ (LW w.heap.size g5 (pre ++ [x]) ++ [Box _ w.heap.size 57 #[.int .i64 b.f0, .int .i64 b.f1, .int .i64 b.f2, .int .i64 b.f3]] ++ M')
    refine SepW.Sep.ex_shut (f := fun v : Value => [Box _ g5 43 #[v], YtjpkkdnilfoafaaW.SepW.Own _ k23 23 v ((pre ++ [x]).map S61.f0)]) (.slice A18 n18 c18) ?_
    rw [List.map_append]
    exact S.out
  case done =>
    intro D W hS
    obtain ⟨v, hS1⟩ := SepW.Sep.ex_open (SepW.Sep.perm (L' := exT _ (fun v : Value => [Box _ g5 43 #[v], YtjpkkdnilfoafaaW.SepW.Own _ k23 23 v ((visT lv items fan b).1.map S61.f0)]) :: [Blk _ D (.deferred (some []))]) ((((((SepW.Sep.drop (L := Blk _ D (.deferred (some [])) :: Box _ g6 3 #[.int .i64 ((visT lv items fan b).2 : Int)] :: Box _ gs 53 #[.pointer (some ⟨g, 0, none⟩)] :: Box _ (gs + 1) 57 #[.int .i64 b.f0, .int .i64 b.f1, .int .i64 b.f2, .int .i64 b.f3] :: Box _ (gs + 1 + 1) 90 #[.pointer (some ⟨g6, 0, none⟩)] :: exT _ (fun v : Value => [Box _ g5 43 #[v], YtjpkkdnilfoafaaW.SepW.Own _ k23 23 v ((visT lv items fan b).1.map S61.f0)]) :: [Box _ w.heap.size 57 #[.int .i64 b.f0, .int .i64 b.f1, .int .i64 b.f2, .int .i64 b.f3]]) hS 1).drop 1).drop 1).drop 1).drop 2)) (.swap _ _ _))
    have S := Aside0.mk hS1
    clear hS hS1
    have k5_0 := blk_cell (S.out.at_box 0 rfl) 0; simp only [List.getElem?_toArray, List.getElem?_cons_zero, List.getElem?_cons_succ] at k5_0
    go_upto_region 9 with (first | (go_at_call 39; have X_ := sort_refs S.out 1 rfl (by rw [List.length_map]; exact HL9.out); (with_reducible refine X_.mono ?_); clear X_; rintro e_ w20 ⟨rfl, ys, hp, hso, hS⟩; have HPE := Aside0.mk hp; have HSO := Aside0.mk hso; replace S := Aside0.mk hS; clear hp hso hS k5_0) | fail)
    have k5_0 := blk_cell (S.out.at_box 0 rfl) 0; simp only [List.getElem?_toArray, List.getElem?_cons_zero, List.getElem?_cons_succ] at k5_0
    go_wp2
    have S3 := Aside0.mk (S.out.at_blk 2 rfl)
    refine ⟨by simp, .inl ⟨_, _, rfl, run_takeDeferred S3.out, ?_⟩⟩
    have S4 := S.out.put 2 rfl (.deferred none)
    exact ⟨_, results_tmp rfl _ _ _, v, ys, rfl, S4.at_own 1 rfl, HPE.out, HSO.out, S4.below⟩
end Go.Proofs.Ytjpkkdnilfoafaa.Hand
end
section
namespace Go.Proofs.Ytjpkkdnilfoafaa.Hand
open Go.Proofs.YtjpkkdnilfoafaaW Go.RowKit Go.Proofs.YtjpkkdnilfoafaaW.PrintWords Go.Proofs.YtjpkkdnilfoafaaW.PrintLast Go.Proofs.YtjpkkdnilfoafaaW.PrintMore Go.Proofs.YtjpkkdnilfoafaaW.SepW Go.Proofs.Ytjpkkdnilfoafaa.PALL Go.Proofs.Ytjpkkdnilfoafaa.Plain
attribute [local go_sem] max2_int min2_int max_two min_two
set_option linter.unusedVariables false
set_option linter.unusedSimpArgs false
theorem three29 {w : World} {g t : Nat} (p a b : S29) (h : w.heap[g]? = some (.cells #[.int .i64 p.f0, .int .i64 p.f1, .int .i64 a.f0, .int .i64 a.f1, .int .i64 b.f0, .int .i64 b.f1] t (0, 0))) : k29.C w (some ⟨g, 0, none⟩) 3 [p, a, b] := by
  refine ⟨rfl, by decide, fun _ => ⟨_, rfl, fun j q hq => ?_⟩⟩
  have hj := (List.getElem?_eq_some_iff.1 hq).1
  obtain rfl | rfl | rfl : j = 0 ∨ j = 1 ∨ j = 2 := by simp only [List.length_cons, List.length_nil] at hj; omega
  all_goals
    simp only [List.getElem?_cons_zero, List.getElem?_cons_succ, Option.some.injEq] at hq
    subst hq
    refine ⟨_, rfl, k29_mk w _, fun i u hu => ?_⟩
    have hi := (List.getElem?_eq_some_iff.1 hu).1
    obtain rfl | rfl : i = 0 ∨ i = 1 := by simp only [List.length_cons, List.length_nil] at hi; omega
  all_goals
    simp only [List.getElem?_cons_zero, List.getElem?_cons_succ, Option.some.injEq] at hu
    subst hu
    first
      | exact (blk_cell h 0)
      | exact (blk_cell h 1)
      | exact (blk_cell h 2)
      | exact (blk_cell h 3)
      | exact (blk_cell h 4)
      | exact (blk_cell h 5)
theorem onB_parts (p a b : S29) : onB p a b = (decide (turn a b p = 0) && (decide (mn a.f0 b.f0 ≤ p.f0) && (decide (p.f0 ≤ mx a.f0 b.f0) && (decide (mn a.f1 b.f1 ≤ p.f1) && decide (p.f1 ≤ mx a.f1 b.f1))))) := by
  unfold onB
  rw [Bool.eq_iff_iff]
  simp
set_option maxHeartbeats 40000000 in
set_option maxRecDepth 100000 in
theorem on_ct {p a b : S29} (hp : gv p = true) (ha : gv a = true) (hb : gv b = true) (w : World) :
    Calls Try.prog 31 #[.agg #[.int .i64 p.f0, .int .i64 p.f1], .agg #[.int .i64 a.f0, .int .i64 a.f1], .agg #[.int .i64 b.f0, .int .i64 b.f1]] w fun e w' => e = .returned (.bool (onB p a b)) ∧ Below w.heap.size w w' := by
  have S := Aside0.mk (SepW.Sep.start w)
  have hu29 := Try.underlying29
  have hu96 := Try.underlying96
  obtain ⟨kv, hkv⟩ := (valid3_f hp ha hb).rounds
  obtain ⟨kt, hkt⟩ := (turn_f ha hb hp).rounds
  obtain ⟨l, r, l1, r1, ho, hl, hr⟩ := of_f a b
  subst hl
  subst hr
  have HKV := Aside0.mk hkv
  have HKT := Aside0.mk hkt
  have HOF := Aside0.mk ho
  have HO := Aside0.mk (onB_parts p a b)
  obtain ⟨D, hD⟩ : ∃ D, D = onB p a b := ⟨_, rfl⟩
  rw [← hD]
  rw [← hD] at HO
  clear hkv hkt ho hp ha hb hD
  by_cases h0 : turn a b p = 0
  · have t1 : (turn a b p != 0) = false := by rw [h0]; rfl
    have t2 : (turn a b p == 0) = true := by rw [h0]; rfl
    have H0 := Aside0.mk h0
    clear h0
    go_enter Try.func31, Try.ntmps31
    go_upto_region 1 with (first | ((with_reducible refine gate_dst (N := 3) rfl ?_); refine box_event ?hg (N := 3) ?hd (cs := #[.int .i64 p.f0, .int .i64 p.f1]) (t := 29) ?hr ?_; (case hd => rfl); (case hg => rfl); (case hr => first | (go_simp; done) | (go_simp; rfl)); intro g3 hg w3 hbox hb; replace S := Aside0.mk (S.out.box hg hbox hb); have k3_0 := blk_cell hbox 0; have k3_1 := blk_cell hbox 1; simp only [List.getElem?_toArray, List.getElem?_cons_zero, List.getElem?_cons_succ] at k3_0 k3_1; clear hbox hb hg) | ((with_reducible refine gate_dst (N := 4) rfl ?_); refine box_event ?hg (N := 4) ?hd (cs := #[.int .i64 a.f0, .int .i64 a.f1]) (t := 29) ?hr ?_; (case hd => rfl); (case hg => rfl); (case hr => first | (go_simp; done) | (go_simp; rfl)); intro g4 hg w4 hbox hb; replace S := Aside0.mk (S.out.box hg hbox hb); have k4_0 := blk_cell hbox 0; have k4_1 := blk_cell hbox 1; simp only [List.getElem?_toArray, List.getElem?_cons_zero, List.getElem?_cons_succ] at k4_0 k4_1; clear hbox hb hg) | ((with_reducible refine gate_dst (N := 5) rfl ?_); refine box_event ?hg (N := 5) ?hd (cs := #[.int .i64 b.f0, .int .i64 b.f1]) (t := 29) ?hr ?_; (case hd => rfl); (case hg => rfl); (case hr => first | (go_simp; done) | (go_simp; rfl)); intro g5 hg w5 hbox hb; replace S := Aside0.mk (S.out.box hg hbox hb); have k5_0 := blk_cell hbox 0; have k5_1 := blk_cell hbox 1; simp only [List.getElem?_toArray, List.getElem?_cons_zero, List.getElem?_cons_succ] at k5_0 k5_1; clear hbox hb hg) | fail)
    clear k3_0 k3_1 k4_0 k4_1 k5_0 k5_1
    refine wp_genS S (fun W1 S => ?_)
    have k5_0 := blk_cell (S.out.at_box 0 rfl) 0
    have k5_1 := blk_cell (S.out.at_box 0 rfl) 1
    have k4_0 := blk_cell (S.out.at_box 1 rfl) 0
    have k4_1 := blk_cell (S.out.at_box 1 rfl) 1
    have k3_0 := blk_cell (S.out.at_box 2 rfl) 0
    have k3_1 := blk_cell (S.out.at_box 2 rfl) 1
    simp only [List.getElem?_toArray, List.getElem?_cons_zero, List.getElem?_cons_succ] at k5_0 k5_1 k4_0 k4_1 k3_0 k3_1
    go_upto_region 4 with (first | (go_at_call 52; replace S := Aside0.mk (S.out.alloc #[.int .i64 p.f0, .int .i64 p.f1, .int .i64 a.f0, .int .i64 a.f1, .int .i64 b.f0, .int .i64 b.f1] 29); have X_ := seg_valid.calls kv (some ⟨W1.heap.size, 0, none⟩) 3 [p, a, b] true _ (three29 p a b (S.out.at_box 0 rfl)) (Nat.le_refl 3) HKV.out; rw [show ([p, a, b] : List S29).length = 3 from rfl] at X_; (with_reducible refine X_.mono ?_); clear X_; rintro e_ w14 ⟨rfl, hb⟩; replace S := Aside0.mk ((S.out.step hb).drop 0); clear hb k3_0 k3_1 k4_0 k4_1 k5_0 k5_1; have k5_0 := blk_cell (S.out.at_box 0 rfl) 0; have k5_1 := blk_cell (S.out.at_box 0 rfl) 1; have k4_0 := blk_cell (S.out.at_box 1 rfl) 0; have k4_1 := blk_cell (S.out.at_box 1 rfl) 1; have k3_0 := blk_cell (S.out.at_box 2 rfl) 0; have k3_1 := blk_cell (S.out.at_box 2 rfl) 1; simp only [List.getElem?_toArray, List.getElem?_cons_zero, List.getElem?_cons_succ] at k5_0 k5_1 k4_0 k4_1 k3_0 k3_1) | (go_at_call 53; (with_reducible refine (seg_Turn.calls kt _ _ _ _ _ _ _ _ HKT.out).mono ?_); rintro e_ w20 ⟨rfl, hb⟩; replace S := Aside0.mk (S.out.step hb); clear hb k3_0 k3_1 k4_0 k4_1 k5_0 k5_1; have k5_0 := blk_cell (S.out.at_box 0 rfl) 0; have k5_1 := blk_cell (S.out.at_box 0 rfl) 1; have k4_0 := blk_cell (S.out.at_box 1 rfl) 0; have k4_1 := blk_cell (S.out.at_box 1 rfl) 1; have k3_0 := blk_cell (S.out.at_box 2 rfl) 0; have k3_1 := blk_cell (S.out.at_box 2 rfl) 1; simp only [List.getElem?_toArray, List.getElem?_cons_zero, List.getElem?_cons_succ] at k5_0 k5_1 k4_0 k4_1 k3_0 k3_1) | (go_at_call 54; (with_reducible refine (seg_Of.calls _ _ _ _ _ _ _ _ _ HOF.out).mono ?_); rintro e_ w25 ⟨rfl, hb⟩; replace S := Aside0.mk (S.out.step hb); clear hb k3_0 k3_1 k4_0 k4_1 k5_0 k5_1; have k5_0 := blk_cell (S.out.at_box 0 rfl) 0; have k5_1 := blk_cell (S.out.at_box 0 rfl) 1; have k4_0 := blk_cell (S.out.at_box 1 rfl) 0; have k4_1 := blk_cell (S.out.at_box 1 rfl) 1; have k3_0 := blk_cell (S.out.at_box 2 rfl) 0; have k3_1 := blk_cell (S.out.at_box 2 rfl) 1; simp only [List.getElem?_toArray, List.getElem?_cons_zero, List.getElem?_cons_succ] at k5_0 k5_1 k4_0 k4_1 k3_0 k3_1) | fail)
    clear t1 t2 k3_0 k3_1 k4_0 k4_1 k5_0 k5_1
    have S1 := Aside0.mk (S.out.alloc #[.int .i64 (mn a.f0 b.f0), .int .i64 l1, .int .i64 (mx a.f0 b.f0), .int .i64 r1] 96)
    refine wp_genS S1 (fun W2 S => ?_)
    clear S1
    generalize w25.heap.size = g7 at S ⊢
    have k5_0 := blk_cell (S.out.at_box 1 rfl) 0
    have k5_1 := blk_cell (S.out.at_box 1 rfl) 1
    have k4_0 := blk_cell (S.out.at_box 2 rfl) 0
    have k4_1 := blk_cell (S.out.at_box 2 rfl) 1
    have k3_0 := blk_cell (S.out.at_box 3 rfl) 0
    have k3_1 := blk_cell (S.out.at_box 3 rfl) 1
    simp only [List.getElem?_toArray, List.getElem?_cons_zero, List.getElem?_cons_succ] at k5_0 k5_1 k4_0 k4_1 k3_0 k3_1
    have k7_0 := blk_cell (S.out.at_box 0 rfl) 0
    have k7_1 := blk_cell (S.out.at_box 0 rfl) 1
    have k7_2 := blk_cell (S.out.at_box 0 rfl) 2
    have k7_3 := blk_cell (S.out.at_box 0 rfl) 3
    simp only [List.getElem?_toArray, List.getElem?_cons_zero, List.getElem?_cons_succ] at k7_0 k7_1 k7_2 k7_3
    rcases Int.lt_trichotomy a.f1 b.f1 with h | h | h
    · have HY : Aside0 (mn a.f1 b.f1 = a.f1 ∧ mx a.f1 b.f1 = b.f1) := ⟨by constructor <;> (first | unfold mn | unfold mx) <;> split <;> omega⟩
      have h1 : a.f1 < b.f1 := by omega
      have h2 : ¬ b.f1 < a.f1 := by omega
      have h3 : a.f1 ≤ b.f1 := by omega
      have h4 : ¬ b.f1 ≤ a.f1 := by omega
      clear h
      go_quiet (fail)
      clear h1 h2 h3 h4
      by_cases c1 : mn a.f0 b.f0 ≤ p.f0
      · have d1 : decide (mn a.f0 b.f0 ≤ p.f0) = true := decide_eq_true c1
        by_cases c2 : p.f0 ≤ mx a.f0 b.f0
        · have d2 : decide (p.f0 ≤ mx a.f0 b.f0) = true := decide_eq_true c2
          by_cases c3 : a.f1 ≤ p.f1
          · have d3 : decide (a.f1 ≤ p.f1) = true := decide_eq_true c3
            have HD : Aside0 (D = decide (p.f1 ≤ b.f1)) := ⟨by rw [HO.out, HY.out.1, HY.out.2, decide_eq_true H0.out, d1, d2, d3]; rfl⟩
            clear c1 c2 c3
            go_wp2
            go_ret
            exact ⟨by rw [HD.out]; rfl, (S.out.drewN _).below⟩
          · have d3 : decide (a.f1 ≤ p.f1) = false := decide_eq_false c3
            have HD : Aside0 (D = false) := ⟨by rw [HO.out, HY.out.1, HY.out.2, decide_eq_true H0.out, d1, d2, d3]; rfl⟩
            clear c1 c2 c3
            go_wp2
            go_ret
            exact ⟨by rw [HD.out]; rfl, (S.out.drewN _).below⟩
        · have d2 : decide (p.f0 ≤ mx a.f0 b.f0) = false := decide_eq_false c2
          have HD : Aside0 (D = false) := ⟨by rw [HO.out, decide_eq_true H0.out, d1, d2]; rfl⟩
          clear c1 c2
          go_wp2
          go_ret
          exact ⟨by rw [HD.out]; rfl, (S.out.drewN _).below⟩
      · have d1 : decide (mn a.f0 b.f0 ≤ p.f0) = false := decide_eq_false c1
        have HD : Aside0 (D = false) := ⟨by rw [HO.out, decide_eq_true H0.out, d1]; rfl⟩
        clear c1
        go_wp2
        go_ret
        exact ⟨by rw [HD.out]; rfl, (S.out.drewN _).below⟩
    · have HY : Aside0 (mn a.f1 b.f1 = a.f1 ∧ mx a.f1 b.f1 = a.f1) := ⟨by constructor <;> (first | unfold mn | unfold mx) <;> split <;> omega⟩
      have h1 : ¬ a.f1 < b.f1 := by omega
      have h2 : ¬ b.f1 < a.f1 := by omega
      have h3 : a.f1 ≤ b.f1 := by omega
      have h4 : b.f1 ≤ a.f1 := by omega
      clear h
      go_quiet (fail)
      clear h1 h2 h3 h4
      by_cases c1 : mn a.f0 b.f0 ≤ p.f0
      · have d1 : decide (mn a.f0 b.f0 ≤ p.f0) = true := decide_eq_true c1
        by_cases c2 : p.f0 ≤ mx a.f0 b.f0
        · have d2 : decide (p.f0 ≤ mx a.f0 b.f0) = true := decide_eq_true c2
          by_cases c3 : a.f1 ≤ p.f1
          · have d3 : decide (a.f1 ≤ p.f1) = true := decide_eq_true c3
            have HD : Aside0 (D = decide (p.f1 ≤ a.f1)) := ⟨by rw [HO.out, HY.out.1, HY.out.2, decide_eq_true H0.out, d1, d2, d3]; rfl⟩
            clear c1 c2 c3
            go_wp2
            go_ret
            exact ⟨by rw [HD.out]; rfl, (S.out.drewN _).below⟩
          · have d3 : decide (a.f1 ≤ p.f1) = false := decide_eq_false c3
            have HD : Aside0 (D = false) := ⟨by rw [HO.out, HY.out.1, HY.out.2, decide_eq_true H0.out, d1, d2, d3]; rfl⟩
            clear c1 c2 c3
            go_wp2
            go_ret
            exact ⟨by rw [HD.out]; rfl, (S.out.drewN _).below⟩
        · have d2 : decide (p.f0 ≤ mx a.f0 b.f0) = false := decide_eq_false c2
          have HD : Aside0 (D = false) := ⟨by rw [HO.out, decide_eq_true H0.out, d1, d2]; rfl⟩
          clear c1 c2
          go_wp2
          go_ret
          exact ⟨by rw [HD.out]; rfl, (S.out.drewN _).below⟩
      · have d1 : decide (mn a.f0 b.f0 ≤ p.f0) = false := decide_eq_false c1
        have HD : Aside0 (D = false) := ⟨by rw [HO.out, decide_eq_true H0.out, d1]; rfl⟩
        clear c1
        go_wp2
        go_ret
        exact ⟨by rw [HD.out]; rfl, (S.out.drewN _).below⟩
    · have HY : Aside0 (mn a.f1 b.f1 = b.f1 ∧ mx a.f1 b.f1 = a.f1) := ⟨by constructor <;> (first | unfold mn | unfold mx) <;> split <;> omega⟩
      have h1 : ¬ a.f1 < b.f1 := by omega
      have h2 : b.f1 < a.f1 := by omega
      have h3 : ¬ a.f1 ≤ b.f1 := by omega
      have h4 : b.f1 ≤ a.f1 := by omega
      clear h
      go_quiet (fail)
      clear h1 h2 h3 h4
      by_cases c1 : mn a.f0 b.f0 ≤ p.f0
      · have d1 : decide (mn a.f0 b.f0 ≤ p.f0) = true := decide_eq_true c1
        by_cases c2 : p.f0 ≤ mx a.f0 b.f0
        · have d2 : decide (p.f0 ≤ mx a.f0 b.f0) = true := decide_eq_true c2
          by_cases c3 : b.f1 ≤ p.f1
          · have d3 : decide (b.f1 ≤ p.f1) = true := decide_eq_true c3
            have HD : Aside0 (D = decide (p.f1 ≤ a.f1)) := ⟨by rw [HO.out, HY.out.1, HY.out.2, decide_eq_true H0.out, d1, d2, d3]; rfl⟩
            clear c1 c2 c3
            go_wp2
            go_ret
            exact ⟨by rw [HD.out]; rfl, (S.out.drewN _).below⟩
          · have d3 : decide (b.f1 ≤ p.f1) = false := decide_eq_false c3
            have HD : Aside0 (D = false) := ⟨by rw [HO.out, HY.out.1, HY.out.2, decide_eq_true H0.out, d1, d2, d3]; rfl⟩
            clear c1 c2 c3
            go_wp2
            go_ret
            exact ⟨by rw [HD.out]; rfl, (S.out.drewN _).below⟩
        · have d2 : decide (p.f0 ≤ mx a.f0 b.f0) = false := decide_eq_false c2
          have HD : Aside0 (D = false) := ⟨by rw [HO.out, decide_eq_true H0.out, d1, d2]; rfl⟩
          clear c1 c2
          go_wp2
          go_ret
          exact ⟨by rw [HD.out]; rfl, (S.out.drewN _).below⟩
      · have d1 : decide (mn a.f0 b.f0 ≤ p.f0) = false := decide_eq_false c1
        have HD : Aside0 (D = false) := ⟨by rw [HO.out, decide_eq_true H0.out, d1]; rfl⟩
        clear c1
        go_wp2
        go_ret
        exact ⟨by rw [HD.out]; rfl, (S.out.drewN _).below⟩
  · have t1 : (turn a b p != 0) = true := by rw [bne_iff_ne]; exact h0
    have t2 : (turn a b p == 0) = false := by rw [beq_eq_false_iff_ne]; exact h0
    have HD : Aside0 (D = false) := ⟨by rw [HO.out, decide_eq_false h0]; rfl⟩
    clear h0
    go_enter Try.func31, Try.ntmps31
    go_upto_region 1 with (first | ((with_reducible refine gate_dst (N := 3) rfl ?_); refine box_event ?hg (N := 3) ?hd (cs := #[.int .i64 p.f0, .int .i64 p.f1]) (t := 29) ?hr ?_; (case hd => rfl); (case hg => rfl); (case hr => first | (go_simp; done) | (go_simp; rfl)); intro g3 hg w3 hbox hb; replace S := Aside0.mk (S.out.box hg hbox hb); have k3_0 := blk_cell hbox 0; have k3_1 := blk_cell hbox 1; simp only [List.getElem?_toArray, List.getElem?_cons_zero, List.getElem?_cons_succ] at k3_0 k3_1; clear hbox hb hg) | ((with_reducible refine gate_dst (N := 4) rfl ?_); refine box_event ?hg (N := 4) ?hd (cs := #[.int .i64 a.f0, .int .i64 a.f1]) (t := 29) ?hr ?_; (case hd => rfl); (case hg => rfl); (case hr => first | (go_simp; done) | (go_simp; rfl)); intro g4 hg w4 hbox hb; replace S := Aside0.mk (S.out.box hg hbox hb); have k4_0 := blk_cell hbox 0; have k4_1 := blk_cell hbox 1; simp only [List.getElem?_toArray, List.getElem?_cons_zero, List.getElem?_cons_succ] at k4_0 k4_1; clear hbox hb hg) | ((with_reducible refine gate_dst (N := 5) rfl ?_); refine box_event ?hg (N := 5) ?hd (cs := #[.int .i64 b.f0, .int .i64 b.f1]) (t := 29) ?hr ?_; (case hd => rfl); (case hg => rfl); (case hr => first | (go_simp; done) | (go_simp; rfl)); intro g5 hg w5 hbox hb; replace S := Aside0.mk (S.out.box hg hbox hb); have k5_0 := blk_cell hbox 0; have k5_1 := blk_cell hbox 1; simp only [List.getElem?_toArray, List.getElem?_cons_zero, List.getElem?_cons_succ] at k5_0 k5_1; clear hbox hb hg) | fail)
    clear k3_0 k3_1 k4_0 k4_1 k5_0 k5_1
    refine wp_genS S (fun W1 S => ?_)
    have k5_0 := blk_cell (S.out.at_box 0 rfl) 0
    have k5_1 := blk_cell (S.out.at_box 0 rfl) 1
    have k4_0 := blk_cell (S.out.at_box 1 rfl) 0
    have k4_1 := blk_cell (S.out.at_box 1 rfl) 1
    have k3_0 := blk_cell (S.out.at_box 2 rfl) 0
    have k3_1 := blk_cell (S.out.at_box 2 rfl) 1
    simp only [List.getElem?_toArray, List.getElem?_cons_zero, List.getElem?_cons_succ] at k5_0 k5_1 k4_0 k4_1 k3_0 k3_1
    go_wp2_with (first | (go_at_call 52; replace S := Aside0.mk (S.out.alloc #[.int .i64 p.f0, .int .i64 p.f1, .int .i64 a.f0, .int .i64 a.f1, .int .i64 b.f0, .int .i64 b.f1] 29); have X_ := seg_valid.calls kv (some ⟨W1.heap.size, 0, none⟩) 3 [p, a, b] true _ (three29 p a b (S.out.at_box 0 rfl)) (Nat.le_refl 3) HKV.out; rw [show ([p, a, b] : List S29).length = 3 from rfl] at X_; (with_reducible refine X_.mono ?_); clear X_; rintro e_ w14 ⟨rfl, hb⟩; replace S := Aside0.mk ((S.out.step hb).drop 0); clear hb k3_0 k3_1 k4_0 k4_1 k5_0 k5_1; have k5_0 := blk_cell (S.out.at_box 0 rfl) 0; have k5_1 := blk_cell (S.out.at_box 0 rfl) 1; have k4_0 := blk_cell (S.out.at_box 1 rfl) 0; have k4_1 := blk_cell (S.out.at_box 1 rfl) 1; have k3_0 := blk_cell (S.out.at_box 2 rfl) 0; have k3_1 := blk_cell (S.out.at_box 2 rfl) 1; simp only [List.getElem?_toArray, List.getElem?_cons_zero, List.getElem?_cons_succ] at k5_0 k5_1 k4_0 k4_1 k3_0 k3_1) | (go_at_call 53; (with_reducible refine (seg_Turn.calls kt _ _ _ _ _ _ _ _ HKT.out).mono ?_); rintro e_ w20 ⟨rfl, hb⟩; replace S := Aside0.mk (S.out.step hb); clear hb k3_0 k3_1 k4_0 k4_1 k5_0 k5_1; have k5_0 := blk_cell (S.out.at_box 0 rfl) 0; have k5_1 := blk_cell (S.out.at_box 0 rfl) 1; have k4_0 := blk_cell (S.out.at_box 1 rfl) 0; have k4_1 := blk_cell (S.out.at_box 1 rfl) 1; have k3_0 := blk_cell (S.out.at_box 2 rfl) 0; have k3_1 := blk_cell (S.out.at_box 2 rfl) 1; simp only [List.getElem?_toArray, List.getElem?_cons_zero, List.getElem?_cons_succ] at k5_0 k5_1 k4_0 k4_1 k3_0 k3_1) | fail)
    go_ret
    exact ⟨by rw [HD.out]; rfl, S.out.below⟩
end Go.Proofs.Ytjpkkdnilfoafaa.Hand
end
section
namespace Go.Proofs.Ytjpkkdnilfoafaa.Hand
open Go.Proofs.YtjpkkdnilfoafaaW Go.RowKit Go.Proofs.YtjpkkdnilfoafaaW.PrintWords Go.Proofs.YtjpkkdnilfoafaaW.PrintLast Go.Proofs.YtjpkkdnilfoafaaW.PrintMore Go.Proofs.YtjpkkdnilfoafaaW.SepW Go.Proofs.Ytjpkkdnilfoafaa.PALL Go.Proofs.Ytjpkkdnilfoafaa.Plain
set_option linter.unusedVariables false
set_option linter.unusedSimpArgs false
set_option maxRecDepth 100000 in
theorem poly_valid_1.calls (p : S29) (w : World) :
    Calls Try.prog 51 #[.agg #[.int .i64 p.f0, .int .i64 p.f1]] w fun e w' => e = .returned (.bool (!gv p)) ∧ Below w.heap.size w w' := by
  have hu29 := Try.underlying29
  have HV := Aside0.mk (gv_f p)
  have S := SepW.Sep.start w
  go_enter Try.func51, Try.ntmps51
  go_wp2_with (first | ((with_reducible refine gate_dst (N := 1) rfl ?_); refine box_event ?hg (N := 1) ?hd (cs := #[.int .i64 p.f0, .int .i64 p.f1]) (t := 29) ?hr ?_; (case hd => rfl); (case hg => rfl); (case hr => first | (go_simp; done) | (go_simp; rfl)); intro g1 hg w1 hbox hb; replace S := (S).box hg hbox hb; clear hbox hb hg; have c_0 := blk_cell (S.at_box 0 rfl) 0; have c_1 := blk_cell (S.at_box 0 rfl) 1; simp only [List.getElem?_toArray, List.getElem?_cons_zero, List.getElem?_cons_succ] at c_0 c_1) | (go_at_call 28; (with_reducible refine (grid_Valid.calls p.f0 p.f1 (gv p) _ HV.out).mono ?_); rintro e w2 ⟨rfl, hb⟩; replace S := S.step hb; clear hb))
  go_ret
  exact ⟨rfl, S.below⟩
set_option maxRecDepth 100000 in
theorem indexFunc_calls (A : Option Addr) (c : Nat) (l : List S29) (w : World) (hr : Kd.C k29 w A l.length l) (hll : l.length ≤ 4398046511104) :
    Calls Try.prog 67 #[.slice A l.length c, .func (.func 51) #[] #[]] w fun e w' => ∃ r, e = .returned (.int .i64 r) ∧ decide (r ≥ 0) = !(l.all gv) ∧ Below w.heap.size w w' := by
  have hu29 := Try.underlying29
  have HR := Aside0.mk hr
  clear hr
  go_enter Try.func67, Try.ntmps67
  go_wp2
  go_loopg [8] l.length (fun kq v8 w' => ∃ (i : Nat), v8 = .int .i64 (i : Int) ∧ Aside0 (i + kq = l.length) ∧ Aside0 ((l.drop i).all gv = l.all gv) ∧ Aside0 (Below w.heap.size w w'))
  case atStart => exact ⟨0, rfl, ⟨by omega⟩, ⟨rfl⟩, ⟨Below.refl _ _⟩⟩
  case round =>
    obtain ⟨i, rfl, HK, HA, HB⟩ := hrel
    cases gk with
    | zero =>
      have hi : ¬ ((i : Int) < (l.length : Int)) := by have := HK.out; omega
      have ha := HA.out
      rw [List.drop_eq_nil_of_le (by have := HK.out; omega)] at ha
      have HA2 := Aside0.mk ha
      clear ha
      go_wp2
      go_ret
      exact ⟨-1, rfl, by rw [← HA2.out]; decide, HB.out⟩
    | succ n =>
      have hin : i < l.length := by have := HK.out; omega
      have hi : (i : Int) < (l.length : Int) := by omega
      have p0 : 0 ≤ (i : Int) := by omega
      have ha := HA.out
      rw [List.drop_eq_getElem_cons hin, List.all_cons] at ha
      have eg : rd_T29 l (i : Int) = l[i] := by simp [rd_T29, hin]
      obtain ⟨ad, ea, hc0, hc1⟩ := at_T29 (Kd.C_below HR.out HB.out) (i : Int) p0 hi
      cases ea
      simp only [eg, Int.toNat_natCast] at hc0 hc1
      obtain ⟨x, hxx⟩ : ∃ x, x = l[i] := ⟨_, rfl⟩
      rw [← hxx] at ha hc0 hc1
      clear hxx eg
      by_cases hv : gv x = true
      · rw [hv, Bool.true_and] at ha
        have HA2 := Aside0.mk ha
        clear ha
        go_wp2_with (first | (go_at_call 51; (with_reducible refine (poly_valid_1.calls x _).mono ?_); rintro e w1 ⟨rfl, hb1⟩; rw [hv]; have HB1 := Aside0.mk (below_step HB.out hb1); clear hb1))
        go_roundg n
        case measure => omega
        case rel => exact ⟨i + 1, by go_num, ⟨by have := HK.out; omega⟩, HA2, HB1⟩
      · have hv' : gv x = false := by simpa using hv
        rw [hv', Bool.false_and] at ha
        have HA2 := Aside0.mk ha
        clear ha
        go_wp2_with (first | (go_at_call 51; (with_reducible refine (poly_valid_1.calls x _).mono ?_); rintro e w1 ⟨rfl, hb1⟩; rw [hv']; have HB1 := Aside0.mk (below_step HB.out hb1); clear hb1))
        go_ret
        exact ⟨_, rfl, by rw [← HA2.out]; first | (simp; done) | (simpa using p0), HB1.out⟩
set_option maxRecDepth 100000 in
theorem containsFunc_calls (A : Option Addr) (c : Nat) (l : List S29) (w : World) (hr : Kd.C k29 w A l.length l) (hll : l.length ≤ 4398046511104) :
    Calls Try.prog 50 #[.slice A l.length c, .func (.func 51) #[] #[]] w fun e w' => e = .returned (.bool (!(l.all gv))) ∧ Below w.heap.size w w' := by
  have HR := Aside0.mk hr
  clear hr
  obtain ⟨bo, hbo⟩ : ∃ b, b = !(l.all gv) := ⟨_, rfl⟩
  rw [← hbo]
  have HBO := Aside0.mk hbo
  clear hbo
  go_enter Try.func50, Try.ntmps50
  go_wp2_with (first | (go_at_call 67; (with_reducible refine (indexFunc_calls _ _ l _ HR.out hll).mono ?_); rintro e w1 ⟨r1, rfl, hd1, hb1⟩; rw [← HBO.out] at hd1; have hd2 : decide (0 ≤ r1) = bo := hd1; have HB1 := Aside0.mk hb1; clear hb1))
  go_ret
  exact ⟨rfl, HB1.out⟩
set_option maxRecDepth 100000 in
theorem pvalid_calls (A : Option Addr) (c : Nat) (l : List S29) (w : World) (hr : Kd.C k29 w A l.length l) (hll : l.length ≤ 4398046511104) :
    Calls Try.prog 27 #[.slice A l.length c] w fun e w' => e = .returned (.bool (l.all gv)) ∧ Below w.heap.size w w' := by
  have HR := Aside0.mk hr
  clear hr
  obtain ⟨bo, hbo⟩ : ∃ b, b = l.all gv := ⟨_, rfl⟩
  rw [← hbo]
  have HBO := Aside0.mk hbo
  clear hbo
  go_enter Try.func27, Try.ntmps27
  go_wp2_with (first | (go_at_call 50; (with_reducible refine (containsFunc_calls _ _ l _ HR.out hll).mono ?_); rintro e w1 ⟨rfl, hb1⟩; rw [← HBO.out]; have HB1 := Aside0.mk hb1; clear hb1))
  go_ret
  exact ⟨by simp, HB1.out⟩
set_option maxHeartbeats 40000000 in
set_option maxRecDepth 100000 in
theorem cross_ct {a b p : S29} (ha : gv a = true) (hb : gv b = true) (hp : gv p = true) (w : World) :
    Calls Try.prog 32 #[.agg #[.int .i64 a.f0, .int .i64 a.f1], .agg #[.int .i64 b.f0, .int .i64 b.f1], .agg #[.int .i64 p.f0, .int .i64 p.f1]] w fun e w' => e = .returned (.bool (crB a b p)) ∧ Below w.heap.size w w' := by
  obtain ⟨k, hk⟩ := (crosses_f ha hb hp).rounds
  exact poly_crosses.calls k _ _ _ _ _ _ _ w hk
theorem gvalid_ct (p : S29) (w : World) : Calls Try.prog 28 #[.agg #[.int .i64 p.f0, .int .i64 p.f1]] w fun e w' => e = .returned (.bool (gv p)) ∧ Below w.heap.size w w' := grid_Valid.calls _ _ _ w (gv_f p)
def wh30_T : Bool × List (List Nat × List Nat) := (true, [([], []), ([], []), ([], []), ([], []), ([1, 2, 3], [1, 2, 3]), ([0, 4], [0, 4]), ([5, 4, 0, 1, 2, 3, 4, 5], [5])])
def wh30_B : List Nat := [0, 0, 0, 0, 14, 31, 63]
theorem wh30_tab : rtab .any (opsOf Try.f30 2) = wh30_T := by kernel_rfl
theorem wh30_bits : waitsOk wh30_T.2 wh30_B = true := by kernel_rfl
set_option maxHeartbeats 40000000 in
set_option maxRecDepth 100000 in
theorem where1_ct {w0 w : World} {p a b : S29} (hp : gv p = true) (ha : gv a = true) (hb : gv b = true) (gt go gi : Nat) (on ins : Bool) (S0 : SepW.Sep w0 w [Box _ gi 4 #[.bool ins], Box _ go 4 #[.bool on], Box _ gt 29 #[.int .i64 p.f0, .int .i64 p.f1]]) :
    Calls Try.prog 30 #[.agg #[.int .i64 a.f0, .int .i64 a.f1], .agg #[.int .i64 b.f0, .int .i64 b.f1], .pointer (some ⟨gt, 0, none⟩), .pointer (some ⟨go, 0, none⟩), .pointer (some ⟨gi, 0, none⟩)] w fun e w' => e = .returned (.bool (!onB p a b)) ∧ SepW.Sep w0 w' [Box _ gi 4 #[.bool (ins != crB a b p)], Box _ go 4 #[.bool (onB p a b)], Box _ gt 29 #[.int .i64 p.f0, .int .i64 p.f1]] := by
  have S := Aside0.mk S0
  have HP := Aside0.mk hp
  have HA := Aside0.mk ha
  have HB := Aside0.mk hb
  have hu29 := Try.underlying29
  clear S0 hp ha hb
  go_enter Try.func30, Try.ntmps30
  go_upto_region 1 with (first | ((with_reducible refine gate_dst (N := 5) rfl ?_); refine box_event ?hg (N := 5) ?hd (cs := #[.int .i64 a.f0, .int .i64 a.f1]) (t := 29) ?hr ?_; (case hd => rfl); (case hg => rfl); (case hr => first | (go_simp; done) | (go_simp; rfl)); intro g5 hg w5 hbox hb; replace S := Aside0.mk (S.out.box hg hbox hb); have k5_0 := blk_cell hbox 0; have k5_1 := blk_cell hbox 1; simp only [List.getElem?_toArray, List.getElem?_cons_zero, List.getElem?_cons_succ] at k5_0 k5_1; clear hbox hb hg) | ((with_reducible refine gate_dst (N := 6) rfl ?_); refine box_event ?hg (N := 6) ?hd (cs := #[.int .i64 b.f0, .int .i64 b.f1]) (t := 29) ?hr ?_; (case hd => rfl); (case hg => rfl); (case hr => first | (go_simp; done) | (go_simp; rfl)); intro g6 hg w6 hbox hb; replace S := Aside0.mk (S.out.box hg hbox hb); have k6_0 := blk_cell hbox 0; have k6_1 := blk_cell hbox 1; simp only [List.getElem?_toArray, List.getElem?_cons_zero, List.getElem?_cons_succ] at k6_0 k6_1; clear hbox hb hg) | fail)
  have k6_0 := blk_cell (S.out.at_box 0 rfl) 0
  have k6_1 := blk_cell (S.out.at_box 0 rfl) 1
  have k5_0 := blk_cell (S.out.at_box 1 rfl) 0
  have k5_1 := blk_cell (S.out.at_box 1 rfl) 1
  have ki_0 := blk_cell (S.out.at_box 2 rfl) 0
  have ko_0 := blk_cell (S.out.at_box 3 rfl) 0
  have fo_0 := blk_frozen (S.out.at_box 3 rfl) 0
  have kt_0 := blk_cell (S.out.at_box 4 rfl) 0
  have kt_1 := blk_cell (S.out.at_box 4 rfl) 1
  simp only [List.getElem?_toArray, List.getElem?_cons_zero, List.getElem?_cons_succ] at k6_0 k6_1 k5_0 k5_1 ki_0 ko_0 kt_0 kt_1
  go_upto_region 2 with (first | (go_at_call 31; (with_reducible refine (on_ct HP.out HA.out HB.out _).mono ?_); rintro e_ w11 ⟨rfl, hb⟩; replace S := Aside0.mk (S.out.step hb); clear hb ko_0 fo_0; have ko_0 := blk_cell (S.out.at_box 3 rfl) 0; have fo_0 := blk_frozen (S.out.at_box 3 rfl) 0; simp only [List.getElem?_toArray, List.getElem?_cons_zero, List.getElem?_cons_succ] at ko_0) | fail)
  clear ki_0 ko_0 fo_0 k5_0 k5_1 k6_0 k6_1 kt_0 kt_1
  have S1 := Aside0.mk (show SepW.Sep w0 _ [Box _ g6 29 #[.int .i64 b.f0, .int .i64 b.f1], Box _ g5 29 #[.int .i64 a.f0, .int .i64 a.f1], Box _ gi 4 #[.bool ins], Box _ go 4 #[.bool (onB p a b)], Box _ gt 29 #[.int .i64 p.f0, .int .i64 p.f1]] from S.out.set 3 rfl 0 (.bool (onB p a b)))
  refine wp_genS S1 (fun W1 S => ?_)
  clear S1
  have k6_0 := blk_cell (S.out.at_box 0 rfl) 0
  have k6_1 := blk_cell (S.out.at_box 0 rfl) 1
  have k5_0 := blk_cell (S.out.at_box 1 rfl) 0
  have k5_1 := blk_cell (S.out.at_box 1 rfl) 1
  have ki_0 := blk_cell (S.out.at_box 2 rfl) 0
  have ko_0 := blk_cell (S.out.at_box 3 rfl) 0
  have kt_0 := blk_cell (S.out.at_box 4 rfl) 0
  have kt_1 := blk_cell (S.out.at_box 4 rfl) 1
  simp only [List.getElem?_toArray, List.getElem?_cons_zero, List.getElem?_cons_succ] at k6_0 k6_1 k5_0 k5_1 ki_0 ko_0 kt_0 kt_1
  refine start_ (n := 7) (S := fun w' => w'.cell? ⟨gi, 0, none⟩ = some (.bool ins) ∧ w'.cell? ⟨g5, 0, none⟩ = some (.int .i64 a.f0) ∧ w'.cell? ⟨g5, 1, none⟩ = some (.int .i64 a.f1) ∧ w'.cell? ⟨g6, 0, none⟩ = some (.int .i64 b.f0) ∧ w'.cell? ⟨g6, 1, none⟩ = some (.int .i64 b.f1) ∧ w'.cell? ⟨gt, 0, none⟩ = some (.int .i64 p.f0) ∧ w'.cell? ⟨gt, 1, none⟩ = some (.int .i64 p.f1)) (ds := [6]) #[false, false, false, false, false, false, false] (by kernel_rfl) rfl rfl ⟨ki_0, k5_0, k5_1, k6_0, k6_1, kt_0, kt_1⟩ (fun hHeld => ?_); refine with_tabW wh30_tab wh30_bits (fun HT_ HW_ => ?_)
  have HBW := Aside0.mk (below_drew (Below.refl W1.heap.size W1))
  generalize W1.drew = W9 at HBW hHeld ⊢
  replace S := Aside0.mk (S.out.step HBW.out)
  refine take_ (i := 0) (N := some 12) (v := ?_) (a' := ?_) #[true, false, false, false, false, false, false] rfl rfl (take_ofW HT_.out HW_.out (by kernel_rfl)) (fun _ _ _ h => h) (Or.inl ⟨by rfl, ?_⟩) hHeld ?_ ?_
  rotate_left
  · rintro w' ⟨s0, s1, s2, s3, s4, s5, s6⟩
    go_simp
    with_reducible rfl
  rotate_left
  · simp only [Act.put, List.setIfInBounds_toArray, List.set_cons_zero, List.set_cons_succ, i64_w, i32_w]
    rfl
  refine take_ (i := 1) (N := some 13) (v := ?_) (a' := ?_) #[true, true, false, false, false, false, false] rfl rfl (take_ofW HT_.out HW_.out (by kernel_rfl)) (fun _ _ _ h => h) (Or.inl ⟨by rfl, ?_⟩) hHeld ?_ ?_
  rotate_left
  · rintro w' ⟨s0, s1, s2, s3, s4, s5, s6⟩
    go_simp
    with_reducible rfl
  rotate_left
  · simp only [Act.put, List.setIfInBounds_toArray, List.set_cons_zero, List.set_cons_succ, i64_w, i32_w]
    rfl
  refine take_ (i := 2) (N := some 14) (v := ?_) (a' := ?_) #[true, true, true, false, false, false, false] rfl rfl (take_ofW HT_.out HW_.out (by kernel_rfl)) (fun _ _ _ h => h) (Or.inl ⟨by rfl, ?_⟩) hHeld ?_ ?_
  rotate_left
  · rintro w' ⟨s0, s1, s2, s3, s4, s5, s6⟩
    go_simp
    with_reducible rfl
  rotate_left
  · simp only [Act.put, List.setIfInBounds_toArray, List.set_cons_zero, List.set_cons_succ, i64_w, i32_w]
    rfl
  refine take_ (i := 3) (N := some 15) (v := ?_) (a' := ?_) #[true, true, true, true, false, false, false] rfl rfl (take_ofW HT_.out HW_.out (by kernel_rfl)) (fun _ _ _ h => h) (Or.inl ⟨by rfl, ?_⟩) hHeld ?_ ?_
  rotate_left
  · rintro w' ⟨s0, s1, s2, s3, s4, s5, s6⟩
    go_simp
    with_reducible rfl
  rotate_left
  · simp only [Act.put, List.setIfInBounds_toArray, List.set_cons_zero, List.set_cons_succ, i64_w, i32_w]
    rfl
  refine one_ (i := 4) (N := some 16) #[true, true, true, true, true, false, false] rfl rfl (one_of HT_.out (by kernel_rfl)) (by decide) (fun K hK => ?_)
  refine goes_ Try.func32 (by kernel_rfl) rfl #[.agg #[.int .i64 a.f0, .int .i64 a.f1], .agg #[.int .i64 b.f0, .int .i64 b.f1], .agg #[.int .i64 p.f0, .int .i64 p.f1]] (by rfl) rfl rfl (by (try simp only [List.map_toArray, List.map_cons, List.map_nil]); first | done | rfl) ?_
  with_reducible refine (cross_ct HA.out HB.out HP.out _).mono ?_
  rintro e w16 ⟨rfl, hb⟩
  refine ⟨_, rfl, ?_⟩
  replace S := Aside0.mk (S.out.step hb)
  refine hK.out _ _ ⟨pw_cell_below hb hHeld.1, pw_cell_below hb hHeld.2.1, pw_cell_below hb hHeld.2.2.1, pw_cell_below hb hHeld.2.2.2.1, pw_cell_below hb hHeld.2.2.2.2.1, pw_cell_below hb hHeld.2.2.2.2.2.1, pw_cell_below hb hHeld.2.2.2.2.2.2⟩ (fun hHeld => ?_)
  clear hK K
  refine norm_ (a' := ?_) ?_ ?_
  rotate_left
  · show Act.put _ (some 16) _ = _
    simp only [Act.put, List.setIfInBounds_toArray, List.set_cons_zero, List.set_cons_succ, i64_w, i32_w]
    rfl
  refine pure_ (i := 5) (N := some 17) (v := ?_) (a' := ?_) #[true, true, true, true, true, true, false] rfl rfl (any_of HT_.out (by kernel_rfl)) (fun _ _ _ h => h) (Or.inl ⟨by rfl, ?_⟩) ?_ ?_
  rotate_left
  · intro w'
    go_simp
    with_reducible rfl
  rotate_left
  · simp only [Act.put, List.setIfInBounds_toArray, List.set_cons_zero, List.set_cons_succ, i64_w, i32_w]
    rfl
  refine last_ (i := 6) (N := none) #[true, true, true, true, true, true, true] rfl rfl (one_of HT_.out (by kernel_rfl)) (by decide) (fun K hK => ?_)
  obtain ⟨t0, _⟩ := hHeld
  have y0 := blk_frozen (S.out.at_box 2 rfl) 0
  go_simp
  refine hK.out _ _ ?_
  clear hK K
  refine done_ (done_of HT_.out (by kernel_rfl)) ?_
  have S1 := Aside0.mk (show SepW.Sep w0 _ [Box _ g6 29 #[.int .i64 b.f0, .int .i64 b.f1], Box _ g5 29 #[.int .i64 a.f0, .int .i64 a.f1], Box _ gi 4 #[.bool (ins != crB a b p)], Box _ go 4 #[.bool (onB p a b)], Box _ gt 29 #[.int .i64 p.f0, .int .i64 p.f1]] from S.out.set 2 rfl 0 (.bool (ins != crB a b p)))
  go_upto_region 3 with fail
  refine wp_genS S1 (fun W2 S => ?_)
  clear S1 ko_0
  have ko_0 := blk_cell (S.out.at_box 3 rfl) 0
  simp only [List.getElem?_toArray, List.getElem?_cons_zero, List.getElem?_cons_succ] at ko_0
  go_wp2
  go_ret
  exact ⟨rfl, (S.out.drop 0).drop 0⟩
/-- What the visit leaves: on, inside. -/
def whS (l : List S29) (p : S29) : Nat → Nat → Bool → Bool × Bool
  | 0, _, ins => (false, ins)
  | n + 1, i, ins => if onB p (rd_T29 l (i : Int)) (rd_T29 l (((i + 1) % l.length : Nat) : Int)) = true then (true, ins != crB (rd_T29 l (i : Int)) (rd_T29 l (((i + 1) % l.length : Nat) : Int)) p) else whS l p n (i + 1) (ins != crB (rd_T29 l (i : Int)) (rd_T29 l (((i + 1) % l.length : Nat) : Int)) p)
theorem rd29 (l : List S29) (i : Nat) (h : i < l.length) : rd_T29 l (i : Int) = l[i] := by
  show l.getD ((i : Int)).toNat z29 = _
  rw [Int.toNat_natCast, List.getD_eq_getElem?_getD, List.getElem?_eq_getElem h]
  rfl
theorem rd29_gv {l : List S29} (hv : l.all gv = true) (i : Nat) (h : i < l.length) : gv (rd_T29 l (i : Int)) = true := by
  rw [rd29 l i h]
  exact List.all_eq_true.1 hv _ (List.getElem_mem h)
set_option maxHeartbeats 40000000 in
set_option maxRecDepth 100000 in
theorem visit_ct {w0 w : World} (A : Option Addr) (c : Nat) (l : List S29) {p : S29} (hp : gv p = true) (hv : l.all gv = true) (gt go gi : Nat) (S0 : SepW.Sep w0 w [Box _ gi 4 #[.bool false], Box _ go 4 #[.bool false], Box _ gt 29 #[.int .i64 p.f0, .int .i64 p.f1]]) (hr : Kd.C k29 w0 A l.length l) (hll : l.length ≤ 1000000) :
    Calls Try.prog 29 #[.slice A l.length c, .func (.func 30) #[] #[.pointer (some ⟨gt, 0, none⟩), .pointer (some ⟨go, 0, none⟩), .pointer (some ⟨gi, 0, none⟩)]] w fun e w' => e = .returned (.tuple #[]) ∧ SepW.Sep w0 w' [Box _ gi 4 #[.bool (whS l p l.length 0 false).2], Box _ go 4 #[.bool (whS l p l.length 0 false).1], Box _ gt 29 #[.int .i64 p.f0, .int .i64 p.f1]] := by
  have hu29 := Try.underlying29
  have HR := Aside0.mk hr
  have HP := Aside0.mk hp
  have HV := Aside0.mk hv
  have S := Aside0.mk S0
  clear hr hp hv S0
  obtain ⟨R, hR⟩ : ∃ r, r = whS l p l.length 0 false := ⟨_, rfl⟩
  rw [← hR]
  have HAR := Aside0.mk hR
  clear hR
  go_enter Try.func29, Try.ntmps29
  go_wp2
  go_loopg [7] l.length (fun kq v7 w' => ∃ (i : Nat) (ins : Bool), v7 = .int .i64 (i : Int) ∧ Aside0 (i + kq = l.length) ∧ Aside0 (whS l p kq i ins = R) ∧ Aside0 (SepW.Sep w0 w' [Box _ gi 4 #[.bool ins], Box _ go 4 #[.bool false], Box _ gt 29 #[.int .i64 p.f0, .int .i64 p.f1]]))
  case atStart => exact ⟨0, false, rfl, ⟨by omega⟩, ⟨HAR.out.symm⟩, S⟩
  case round =>
    clear S
    obtain ⟨i, ins, rfl, HK, HA, S⟩ := hrel
    cases gk with
    | zero =>
      have hi : ¬ ((i : Int) < (l.length : Int)) := by have := HK.out; omega
      have e : (false, ins) = R := HA.out
      subst e
      go_wp2
      go_end0
      exact ⟨rfl, S.out⟩
    | succ n =>
      have hin : i < l.length := by have := HK.out; omega
      have hi : (i : Int) < (l.length : Int) := by omega
      have p0 : 0 ≤ (i : Int) := by omega
      have hq : (i + 1) % l.length < l.length := Nat.mod_lt _ (by omega)
      have hjq : ((i : Int) + 1) % (l.length : Int) = (((i + 1) % l.length : Nat) : Int) := by simp
      have HQ := Aside0.mk (show 0 ≤ ((i : Int) + 1) % (l.length : Int) ∧ ((i : Int) + 1) % (l.length : Int) < (l.length : Int) ∧ (((i : Int) + 1) % (l.length : Int)).toNat = (i + 1) % l.length by rw [hjq]; omega)
      have p2 := HQ.out.1
      have q2 := HQ.out.2.1
      have HA2 := Aside0.mk (show (if onB p (rd_T29 l (i : Int)) (rd_T29 l (((i : Int) + 1) % (l.length : Int))) = true then (true, ins != crB (rd_T29 l (i : Int)) (rd_T29 l (((i : Int) + 1) % (l.length : Int))) p) else whS l p n (i + 1) (ins != crB (rd_T29 l (i : Int)) (rd_T29 l (((i : Int) + 1) % (l.length : Int))) p)) = R by rw [hjq]; exact HA.out)
      have HG := Aside0.mk (show gv (rd_T29 l (i : Int)) = true ∧ gv (rd_T29 l (((i : Int) + 1) % (l.length : Int))) = true by rw [hjq]; exact ⟨rd29_gv HV.out i hin, rd29_gv HV.out _ hq⟩)
      clear hjq HA
      obtain ⟨ad, ea, k0, k1⟩ := at_T29 HR.out (i : Int) p0 hi
      cases ea
      obtain ⟨ad2, ea2, m0, m1⟩ := at_T29 HR.out (((i : Int) + 1) % (l.length : Int)) p2 q2
      obtain rfl := Option.some.inj ea2
      simp only [Int.toNat_natCast] at k0 k1
      generalize rd_T29 l (i : Int) = P at k0 k1 HA2 HG
      generalize rd_T29 l (((i : Int) + 1) % (l.length : Int)) = Q at m0 m1 HA2 HG
      have keep : ∀ (w9 : World), Below w0.heap.size w0 w9 → w9.cell? (ad.add (i * 2)) = some (.int .i64 P.f0) ∧ w9.cell? { block := (ad.add (i * 2)).block, off := (ad.add (i * 2)).off + 1 } = some (.int .i64 P.f1) ∧ w9.cell? (ad.add ((((i : Int) + 1) % (l.length : Int)).toNat * 2)) = some (.int .i64 Q.f0) ∧ w9.cell? { block := (ad.add ((((i : Int) + 1) % (l.length : Int)).toNat * 2)).block, off := (ad.add ((((i : Int) + 1) % (l.length : Int)).toNat * 2)).off + 1 } = some (.int .i64 Q.f1) := fun w9 hb => ⟨(hb.cell (World.block_lt_of_cell? _ _ k0)).trans k0, (hb.cell (World.block_lt_of_cell? _ _ k1)).trans k1, (hb.cell (World.block_lt_of_cell? _ _ m0)).trans m0, (hb.cell (World.block_lt_of_cell? _ _ m1)).trans m1⟩
      have KEEP := Aside0.mk keep
      obtain ⟨hc0, hc1, hd0, hd1⟩ := keep _ S.out.below
      clear k0 k1 m0 m1 keep
      have w1_ : IntKind.i64.wrap ((i : Int) + 1) = (i : Int) + 1 := IntWalk.i64_in _ (by omega)
      have tm : Int.tmod ((i : Int) + 1) (l.length : Int) = ((i : Int) + 1) % (l.length : Int) := Int.tmod_eq_emod_of_nonneg (by omega)
      have nz2 : ¬ l = [] := by intro e; rw [e] at hin; simp at hin
      have nz : ((l.length : Int) == 0) = false := by simpa using nz2
      by_cases hon : onB p P Q = true
      · have HON := Aside0.mk hon
        have ha2 := HA2.out
        rw [if_pos hon] at ha2
        subst ha2
        clear hon HA2
        go_wp2_with fail
        go_region_held3 (fun w' => w'.cell? (ad.add (i * 2)) = some (.int .i64 P.f0) ∧ w'.cell? { block := (ad.add (i * 2)).block, off := (ad.add (i * 2)).off + 1 } = some (.int .i64 P.f1) ∧ w'.cell? (ad.add ((((i : Int) + 1) % (l.length : Int)).toNat * 2)) = some (.int .i64 Q.f0) ∧ w'.cell? { block := (ad.add ((((i : Int) + 1) % (l.length : Int)).toNat * 2)).block, off := (ad.add ((((i : Int) + 1) % (l.length : Int)).toNat * 2)).off + 1 } = some (.int .i64 Q.f1)) (first | assumption | go_keep) (first | (go_at_call 30; have X_ := where1_ct HP.out HG.out.1 HG.out.2 gt go gi false ins S.out.drew; rw [HON.out] at X_; (with_reducible refine X_.mono ?_); clear X_; rintro e w9 ⟨rfl, S9⟩; have S10 := Aside0.mk S9; have hS9 := KEEP.out w9 S9.below; clear S9))
        go_wp2
        refine bodyPost_ret (results_none rfl _ _ _) rfl ?_
        exact ⟨rfl, S10.out⟩
      · have HON : Aside0 (onB p P Q = false) := ⟨by simpa using hon⟩
        have ha2 := HA2.out
        rw [if_neg hon] at ha2
        have HA3 := Aside0.mk ha2
        clear hon HA2 ha2
        go_wp2_with fail
        go_region_held3 (fun w' => w'.cell? (ad.add (i * 2)) = some (.int .i64 P.f0) ∧ w'.cell? { block := (ad.add (i * 2)).block, off := (ad.add (i * 2)).off + 1 } = some (.int .i64 P.f1) ∧ w'.cell? (ad.add ((((i : Int) + 1) % (l.length : Int)).toNat * 2)) = some (.int .i64 Q.f0) ∧ w'.cell? { block := (ad.add ((((i : Int) + 1) % (l.length : Int)).toNat * 2)).block, off := (ad.add ((((i : Int) + 1) % (l.length : Int)).toNat * 2)).off + 1 } = some (.int .i64 Q.f1)) (first | assumption | go_keep) (first | (go_at_call 30; have X_ := where1_ct HP.out HG.out.1 HG.out.2 gt go gi false ins S.out.drew; rw [HON.out] at X_; (with_reducible refine X_.mono ?_); clear X_; rintro e w9 ⟨rfl, S9⟩; have S10 := Aside0.mk S9; have hS9 := KEEP.out w9 S9.below; clear S9))
        go_wp2_with fail
        go_roundg n
        case measure => omega
        case rel => exact ⟨i + 1, _, by go_num, ⟨by have := HK.out; omega⟩, HA3, S10⟩
/-- What Where answers at a ring. -/
def polyW (l : List S29) (p : S29) : Int := if l.length < 3 then 0 else if l.all gv = true ∧ gv p = true then (if (whS l p l.length 0 false).1 = true then 1 else if (whS l p l.length 0 false).2 = true then 2 else 0) else 0
set_option maxHeartbeats 40000000 in
set_option maxRecDepth 100000 in
theorem polyWhere_ct (A : Option Addr) (c : Nat) (l : List S29) (p : S29) (w : World) (hC : k29.C w A l.length l) (hll : l.length ≤ 1000000) :
    Calls Try.prog 19 #[.slice A l.length c, .agg #[.int .i64 p.f0, .int .i64 p.f1]] w fun e w' => e = .returned (.int .i64 (polyW l p)) ∧ Below w.heap.size w w' := by
  have S := Aside0.mk (SepW.Sep.start w)
  have HC := Aside0.mk hC
  have HL6 := Aside0.mk hll
  have HLL : Aside0 (l.length ≤ 4398046511104) := ⟨by omega⟩
  have hu29 := Try.underlying29
  have hmf : ∀ (fn : Fn) (first cap : Array Value) (w : World), (Instr.makeFunc fn first cap).run Try.prog w = .ok (.func fn first cap) w := fun _ _ _ _ => rfl
  clear hC hll
  by_cases hl : l.length < 3
  · have d1 : decide ((l.length : Int) < 3) = true := decide_eq_true (by omega)
    have d2 : decide (l.length < 3) = true := decide_eq_true hl
    have HLT := Aside0.mk hl
    clear hl
    go_enter Try.func19, Try.ntmps19
    go_wp2_with (first | ((with_reducible refine gate_dst (N := 3) rfl ?_); refine box_event ?hg (N := 3) ?hd (cs := #[.int .i64 p.f0, .int .i64 p.f1]) (t := 29) ?hr ?_; (case hd => rfl); (case hg => rfl); (case hr => first | (go_simp; done) | (go_simp; rfl)); intro g3 hg w3 hbox hb; replace S := Aside0.mk (S.out.box hg hbox hb); have k3_0 := blk_cell hbox 0; have k3_1 := blk_cell hbox 1; simp only [List.getElem?_toArray, List.getElem?_cons_zero, List.getElem?_cons_succ] at k3_0 k3_1; clear hbox hb hg) | fail)
    go_ret
    exact ⟨by unfold polyW; rw [if_pos HLT.out]; rfl, S.out.below⟩
  · have d1 : decide ((l.length : Int) < 3) = false := decide_eq_false (by omega)
    have d2 : decide (l.length < 3) = false := decide_eq_false hl
    have HLT := Aside0.mk hl
    clear hl
    cases hal : l.all gv with
    | false =>
      have HAL := Aside0.mk hal
      clear hal
      go_enter Try.func19, Try.ntmps19
      go_wp2_with (first | ((with_reducible refine gate_dst (N := 3) rfl ?_); refine box_event ?hg (N := 3) ?hd (cs := #[.int .i64 p.f0, .int .i64 p.f1]) (t := 29) ?hr ?_; (case hd => rfl); (case hg => rfl); (case hr => first | (go_simp; done) | (go_simp; rfl)); intro g3 hg w3 hbox hb; replace S := Aside0.mk (S.out.box hg hbox hb); have k3_0 := blk_cell hbox 0; have k3_1 := blk_cell hbox 1; simp only [List.getElem?_toArray, List.getElem?_cons_zero, List.getElem?_cons_succ] at k3_0 k3_1; clear hbox hb hg) | (go_at_call 27; (with_reducible refine (pvalid_calls A c l _ (Kd.C_below HC.out S.out.below) HLL.out).mono ?_); rintro e_ w12 ⟨rfl, hb⟩; rw [HAL.out]; replace S := Aside0.mk (S.out.step hb); clear hb k3_0 k3_1; have k3_0 := blk_cell (S.out.at_box 0 rfl) 0; have k3_1 := blk_cell (S.out.at_box 0 rfl) 1; simp only [List.getElem?_toArray, List.getElem?_cons_zero, List.getElem?_cons_succ] at k3_0 k3_1) | fail)
      go_ret
      exact ⟨by unfold polyW; rw [if_neg HLT.out, if_neg (fun x => by rw [HAL.out] at x; exact absurd x.1 (by decide))]; rfl, S.out.below⟩
    | true =>
      have HAL := Aside0.mk hal
      clear hal
      cases hgp : gv p with
      | false =>
        have HGP := Aside0.mk hgp
        clear hgp
        go_enter Try.func19, Try.ntmps19
        go_wp2_with (first | ((with_reducible refine gate_dst (N := 3) rfl ?_); refine box_event ?hg (N := 3) ?hd (cs := #[.int .i64 p.f0, .int .i64 p.f1]) (t := 29) ?hr ?_; (case hd => rfl); (case hg => rfl); (case hr => first | (go_simp; done) | (go_simp; rfl)); intro g3 hg w3 hbox hb; replace S := Aside0.mk (S.out.box hg hbox hb); have k3_0 := blk_cell hbox 0; have k3_1 := blk_cell hbox 1; simp only [List.getElem?_toArray, List.getElem?_cons_zero, List.getElem?_cons_succ] at k3_0 k3_1; clear hbox hb hg) | (go_at_call 27; (with_reducible refine (pvalid_calls A c l _ (Kd.C_below HC.out S.out.below) HLL.out).mono ?_); rintro e_ w12 ⟨rfl, hb⟩; rw [HAL.out]; replace S := Aside0.mk (S.out.step hb); clear hb k3_0 k3_1; have k3_0 := blk_cell (S.out.at_box 0 rfl) 0; have k3_1 := blk_cell (S.out.at_box 0 rfl) 1; simp only [List.getElem?_toArray, List.getElem?_cons_zero, List.getElem?_cons_succ] at k3_0 k3_1) | (go_at_call 28; (with_reducible refine (gvalid_ct p _).mono ?_); rintro e_ w17 ⟨rfl, hb⟩; rw [HGP.out]; replace S := Aside0.mk (S.out.step hb); clear hb k3_0 k3_1; have k3_0 := blk_cell (S.out.at_box 0 rfl) 0; have k3_1 := blk_cell (S.out.at_box 0 rfl) 1; simp only [List.getElem?_toArray, List.getElem?_cons_zero, List.getElem?_cons_succ] at k3_0 k3_1) | fail)
        go_ret
        exact ⟨by unfold polyW; rw [if_neg HLT.out, if_neg (fun x => by rw [HGP.out] at x; exact absurd x.2 (by decide))]; rfl, S.out.below⟩
      | true =>
        have HGP := Aside0.mk hgp
        clear hgp
        obtain ⟨R, hR⟩ : ∃ R, R = whS l p l.length 0 false := ⟨_, rfl⟩
        have HRE := Aside0.mk hR
        have HW : Aside0 (polyW l p = if R.1 = true then 1 else if R.2 = true then 2 else 0) := ⟨by unfold polyW; rw [if_neg HLT.out, if_pos ⟨HAL.out, HGP.out⟩, ← hR]⟩
        obtain ⟨on, ins⟩ := R
        clear hR
        go_enter Try.func19, Try.ntmps19
        go_upto_region 4 with (first | ((with_reducible refine gate_dst (N := 3) rfl ?_); refine box_event ?hg (N := 3) ?hd (cs := #[.int .i64 p.f0, .int .i64 p.f1]) (t := 29) ?hr ?_; (case hd => rfl); (case hg => rfl); (case hr => first | (go_simp; done) | (go_simp; rfl)); intro g3 hg w3 hbox hb; replace S := Aside0.mk (S.out.box hg hbox hb); have k3_0 := blk_cell hbox 0; have k3_1 := blk_cell hbox 1; simp only [List.getElem?_toArray, List.getElem?_cons_zero, List.getElem?_cons_succ] at k3_0 k3_1; clear hbox hb hg) | (go_at_call 27; (with_reducible refine (pvalid_calls A c l _ (Kd.C_below HC.out S.out.below) HLL.out).mono ?_); rintro e_ w12 ⟨rfl, hb⟩; rw [HAL.out]; replace S := Aside0.mk (S.out.step hb); clear hb k3_0 k3_1; have k3_0 := blk_cell (S.out.at_box 0 rfl) 0; have k3_1 := blk_cell (S.out.at_box 0 rfl) 1; simp only [List.getElem?_toArray, List.getElem?_cons_zero, List.getElem?_cons_succ] at k3_0 k3_1) | (go_at_call 28; (with_reducible refine (gvalid_ct p _).mono ?_); rintro e_ w17 ⟨rfl, hb⟩; rw [HGP.out]; replace S := Aside0.mk (S.out.step hb); clear hb k3_0 k3_1; have k3_0 := blk_cell (S.out.at_box 0 rfl) 0; have k3_1 := blk_cell (S.out.at_box 0 rfl) 1; simp only [List.getElem?_toArray, List.getElem?_cons_zero, List.getElem?_cons_succ] at k3_0 k3_1) | fail)
        clear k3_0 k3_1
        have S1 := Aside0.mk ((S.out.alloc #[.bool false] 4).alloc' #[.bool false] 4 (g := w17.heap.size + 1) (by simp))
        refine wp_genS S1 (fun W4 S => ?_)
        clear S1
        generalize w17.heap.size = go at S ⊢
        generalize go + 1 = gi at S ⊢
        go_upto_region 5 with (first | (go_at_call 29; have X_ := visit_ct A c l HGP.out HAL.out g3 go gi S.out HC.out HL6.out; rw [← HRE.out] at X_; (with_reducible refine X_.mono ?_); clear X_; rintro e_ w22 ⟨rfl, hS⟩; replace S := Aside0.mk hS; clear hS; dsimp only at S; have ki_0 := blk_cell (S.out.at_box 0 rfl) 0; have ko_0 := blk_cell (S.out.at_box 1 rfl) 0; simp only [List.getElem?_toArray, List.getElem?_cons_zero, List.getElem?_cons_succ] at ki_0 ko_0) | fail)
        cases on with
        | true =>
          go_wp2
          go_ret
          exact ⟨by rw [HW.out]; rfl, S.out.below⟩
        | false =>
          cases ins with
          | true =>
            go_wp2
            go_ret
            exact ⟨by rw [HW.out]; rfl, S.out.below⟩
          | false =>
            go_wp2
            go_ret
            exact ⟨by rw [HW.out]; rfl, S.out.below⟩
end Go.Proofs.Ytjpkkdnilfoafaa.Hand
end
section
namespace Go.Proofs.Ytjpkkdnilfoafaa.Hand
open Go.Proofs.YtjpkkdnilfoafaaW Go.RowKit Go.Proofs.YtjpkkdnilfoafaaW.PrintWords Go.Proofs.YtjpkkdnilfoafaaW.PrintLast Go.Proofs.YtjpkkdnilfoafaaW.PrintMore Go.Proofs.YtjpkkdnilfoafaaW.SepW Go.Proofs.Ytjpkkdnilfoafaa.PALL Go.Proofs.Ytjpkkdnilfoafaa.Plain
set_option linter.unusedVariables false
set_option linter.unusedSimpArgs false
theorem ring_at {w : World} {A : Option Addr} {n : Nat} {xss : List (List S29)} (h : Kd.C (Kd.slice 29 k29) w A n xss) (i : Nat) (hi : i < n) (hl : i < xss.length) : ∃ ad A0 c0, A = some ad ∧ w.cell? (ad.add i) = some (.slice A0 xss[i].length c0) ∧ xss[i].length ≤ c0 ∧ k29.C w A0 xss[i].length xss[i] := by
  obtain ⟨ad, A0, c0, e, h1, h2, h3⟩ := at_L2 h (i : Int) (by omega) (by omega)
  have e2 : rd_L2 xss (i : Int) = xss[i] := by
    show xss.getD ((i : Int)).toNat [] = _
    rw [Int.toNat_natCast, List.getD_eq_getElem?_getD, List.getElem?_eq_getElem hl]
    rfl
  rw [e2, Int.toNat_natCast] at h1
  rw [e2] at h2 h3
  exact ⟨ad, A0, c0, e, h1, h2, h3⟩
/-- What locate.Where answers from a ring on. -/
def locS : List (List S29) → S29 → Int → Int
  | [], _, odd => odd
  | r :: t, p, odd => if polyW r p = 1 then 1 else if polyW r p = 2 then locS t p (2 - odd) else locS t p odd
def locW (R : List (List S29)) (p : S29) : Int := locS R p 0
theorem polyW_of (l : List S29) (p : S29) : polyW l p = 0 ∨ polyW l p = 1 ∨ polyW l p = 2 := by
  unfold polyW
  repeat' split
  all_goals simp
theorem wnat (n : Nat) (h : n ≤ 1000000000) : wrap64 (n : Int) = (n : Int) := IntWalk.wrap64_in _ (by omega)
theorem wadd (a b X : Nat) (hX : X = a + b) (h : X ≤ 1000000000) : wrap64 ((a : Int) + (b : Int)) = (X : Int) := by rw [← Int.natCast_add, ← hX]; exact wnat X h
theorem wnext (a : Nat) (h : a ≤ 100000000) : wrap64 ((a : Int) + 1) = ((a + 1 : Nat) : Int) := wadd a 1 (a + 1) rfl (by omega)
set_option maxHeartbeats 40000000 in
set_option maxRecDepth 100000 in
theorem locWhere_ct (k id th : Int) (A3 : Option Addr) (n3 c3 : Nat) (A : Option Addr) (c : Nat) (R : List (List S29)) (p : S29) (w : World) (hC : Kd.C (Kd.slice 29 k29) w A R.length R) (hl : R.length ≤ 1000000) (hll : ∀ r ∈ R, r.length ≤ 1000000) :
    Calls Try.prog 10 #[.agg #[.int .i64 k, .int .i64 id, .int .i64 th, .slice A3 n3 c3, .slice A R.length c], .agg #[.int .i64 p.f0, .int .i64 p.f1]] w fun e w' => e = .returned (.int .i64 (locW R p)) ∧ Below w.heap.size w w' := by
  have S := Aside0.mk (SepW.Sep.start w)
  have HC := Aside0.mk hC
  have HL := Aside0.mk hl
  have HLL := Aside0.mk hll
  have hu29 := Try.underlying29
  have hu27 := Try.underlying27
  obtain ⟨V, hV⟩ : ∃ V, V = locS R p 0 := ⟨_, rfl⟩
  have HV := Aside0.mk hV
  clear hC hl hll hV
  go_enter Try.func10, Try.ntmps10
  go_upto_region 2 with (first | ((with_reducible refine gate_dst (N := 2) rfl ?_); refine box_event ?hg (N := 2) ?hd (cs := #[.int .i64 k, .int .i64 id, .int .i64 th, .slice A3 n3 c3, .slice A R.length c]) (t := 27) ?hr ?_; (case hd => rfl); (case hg => rfl); (case hr => first | (go_simp; done) | (go_simp; rfl)); intro g2 hg w2 hbox hb; replace S := Aside0.mk (S.out.box hg hbox hb); have k2_0 := blk_cell hbox 0; have k2_1 := blk_cell hbox 1; have k2_2 := blk_cell hbox 2; have k2_3 := blk_cell hbox 3; have k2_4 := blk_cell hbox 4; simp only [List.getElem?_toArray, List.getElem?_cons_zero, List.getElem?_cons_succ] at k2_0 k2_1 k2_2 k2_3 k2_4; clear hbox hb hg) | ((with_reducible refine gate_dst (N := 3) rfl ?_); refine box_event ?hg (N := 3) ?hd (cs := #[.int .i64 p.f0, .int .i64 p.f1]) (t := 29) ?hr ?_; (case hd => rfl); (case hg => rfl); (case hr => first | (go_simp; done) | (go_simp; rfl)); intro g3 hg w3 hbox hb; replace S := Aside0.mk (S.out.box hg hbox hb); have k3_0 := blk_cell hbox 0; have k3_1 := blk_cell hbox 1; simp only [List.getElem?_toArray, List.getElem?_cons_zero, List.getElem?_cons_succ] at k3_0 k3_1; clear hbox hb hg) | fail)
  clear k2_0 k2_1 k2_2 k2_3 k2_4 k3_0 k3_1
  have k2_0 := blk_cell (S.out.at_box 1 rfl) 0
  have k2_1 := blk_cell (S.out.at_box 1 rfl) 1
  have k2_2 := blk_cell (S.out.at_box 1 rfl) 2
  have k2_3 := blk_cell (S.out.at_box 1 rfl) 3
  have k2_4 := blk_cell (S.out.at_box 1 rfl) 4
  simp only [List.getElem?_toArray, List.getElem?_cons_zero, List.getElem?_cons_succ] at k2_0 k2_1 k2_2 k2_3 k2_4
  go_wp2
  clear k2_0 k2_1 k2_2 k2_3 k2_4
  go_loopg [5, 11] (R.length + 1) (fun kq v5 v11 w' => ∃ (i : Nat) (odd : Int), v11 = .int .i64 (i : Int) ∧ v5 = .int .i64 odd ∧ Aside0 (kq + i = R.length + 1) ∧ Aside0 (i ≤ R.length) ∧ Aside0 (odd = 0 ∨ odd = 2) ∧ Aside0 (locS (R.drop i) p odd = V) ∧ Aside0 (SepW.Sep w w' [Box _ g3 29 #[.int .i64 p.f0, .int .i64 p.f1], Box _ g2 27 #[.int .i64 k, .int .i64 id, .int .i64 th, .slice A3 n3 c3, .slice A R.length c]]))
  case atStart => exact ⟨0, 0, rfl, rfl, ⟨rfl⟩, ⟨Nat.zero_le _⟩, ⟨.inl rfl⟩, ⟨HV.out.symm⟩, S⟩
  case round =>
    clear S
    obtain ⟨i, odd, rfl, rfl, KQ, IL, OD, LS, S⟩ := hrel
    cases gk with
    | zero => exact absurd KQ.out (by have := IL.out; omega)
    | succ q1 =>
    by_cases hi : i < R.length
    · have p0 : (0 : Int) ≤ (i : Int) := by omega
      have p1 : (i : Int) < (R.length : Int) := by omega
      have e1 : decide (i < R.length) = true := decide_eq_true hi
      have e2 : decide ((i : Int) < (R.length : Int)) = true := decide_eq_true p1
      obtain ⟨ad, Ai, ci, ea, kh, hcc, hCr⟩ := ring_at (Kd.C_below HC.out S.out.below) i hi hi
      subst ea
      obtain ⟨r, hr⟩ : ∃ r, r = R[i] := ⟨_, rfl⟩
      have HD : Aside0 (R.drop i = r :: R.drop (i + 1)) := ⟨by rw [hr]; exact List.drop_eq_getElem_cons hi⟩
      have HRL : Aside0 (r.length ≤ 1000000) := ⟨by rw [hr]; exact HLL.out _ (List.getElem_mem hi)⟩
      rw [← hr] at kh hCr
      have HCR := Aside0.mk hCr
      have HI := Aside0.mk hi
      have k3_0 := blk_cell (S.out.at_box 0 rfl) 0
      have k3_1 := blk_cell (S.out.at_box 0 rfl) 1
      simp only [List.getElem?_toArray, List.getElem?_cons_zero, List.getElem?_cons_succ] at k3_0 k3_1
      have i1 : Aside0 (wrap64 ((i : Int) + 1) = ((i + 1 : Nat) : Int)) := ⟨wnext i (by have := HL.out; omega)⟩
      clear hr hCr hcc
      rcases polyW_of r p with h0 | h1 | h2
      · have HPW := Aside0.mk h0
        clear h0
        go_wp2_with (first | (go_at_call 19; (with_reducible refine (polyWhere_ct Ai ci r p _ HCR.out HRL.out).mono ?_); rintro e_ w17 ⟨rfl, hb⟩; rw [HPW.out]; replace S := Aside0.mk (S.out.step hb); clear hb) | fail)
        go_roundg q1
        case measure => omega
        case rel => exact ⟨i + 1, odd, by rw [i1.out], rfl, ⟨by have := KQ.out; omega⟩, ⟨HI.out⟩, ⟨by exact OD.out⟩, ⟨by rw [← LS.out, HD.out, locS, HPW.out]; rfl⟩, S⟩
      · have HPW := Aside0.mk h1
        clear h1
        go_wp2_with (first | (go_at_call 19; (with_reducible refine (polyWhere_ct Ai ci r p _ HCR.out HRL.out).mono ?_); rintro e_ w17 ⟨rfl, hb⟩; rw [HPW.out]; replace S := Aside0.mk (S.out.step hb); clear hb) | fail)
        go_ret
        exact ⟨by rw [show locW R p = V from HV.out.symm, ← LS.out, HD.out, locS, HPW.out]; rfl, S.out.below⟩
      · have HPW := Aside0.mk h2
        clear h2
        have w2 : wrap64 (2 - odd) = 2 - odd := IntWalk.wrap64_in _ (by have := OD.out; omega)
        go_wp2_with (first | (go_at_call 19; (with_reducible refine (polyWhere_ct Ai ci r p _ HCR.out HRL.out).mono ?_); rintro e_ w17 ⟨rfl, hb⟩; rw [HPW.out]; replace S := Aside0.mk (S.out.step hb); clear hb) | fail)
        go_roundg q1
        case measure => omega
        case rel => exact ⟨i + 1, 2 - odd, by rw [i1.out], by rw [w2], ⟨by have := KQ.out; omega⟩, ⟨HI.out⟩, ⟨by have := OD.out; omega⟩, ⟨by rw [← LS.out, HD.out, locS, HPW.out]; rfl⟩, S⟩
    · obtain rfl : i = R.length := by have := IL.out; omega
      have e1 : decide (R.length < R.length) = false := decide_eq_false (by omega)
      clear hi
      have hl := LS.out
      rw [List.drop_length, locS] at hl
      have HE := Aside0.mk hl
      clear hl
      go_wp2
      go_ret
      exact ⟨by rw [show locW R p = V from HV.out.symm, ← HE.out]; rfl, S.out.below⟩
end Go.Proofs.Ytjpkkdnilfoafaa.Hand
end
section
namespace Go.Proofs.Ytjpkkdnilfoafaa.Plain
open Go.RowKit Go.Proofs.YtjpkkdnilfoafaaW.PrintWords Go.Proofs.YtjpkkdnilfoafaaW.PrintLast Go.Proofs.YtjpkkdnilfoafaaW.PrintMore Go.Proofs.Ytjpkkdnilfoafaa.PALL Go.Proofs.Ytjpkkdnilfoafaa.Hand
set_option linter.unusedVariables false
set_option linter.unusedSimpArgs false
theorem all_l0 (l : List S29) (hl : l.length ≤ 1000000) : ∀ (d i : Nat), i + d = l.length → Ev (fun k => mapmakerref08_All.l0 k l (i : Int)) ((l.drop i).all gv) := by
  intro d
  induction d with
  | zero =>
    intro i hi
    rw [show l.drop i = [] from List.drop_eq_nil_of_le (by omega)]
    exact Ev.step (f := fun _ => some true) (fun k => by rw [mapmakerref08_All.l0, if_neg (by omega)]) (Ev.now _)
  | succ d ih =>
    intro i hi
    have h1 : i < l.length := by omega
    rw [List.drop_eq_getElem_cons h1, List.all_cons]
    have hx := rd29 l i h1
    have hn : wrap64 ((i : Int) + 1) = ((i + 1 : Nat) : Int) := wnext i (by omega)
    cases hg : gv l[i] with
    | true =>
      rw [Bool.true_and]
      exact Ev.step (fun k => by rw [mapmakerref08_All.l0, if_pos (by omega), if_pos (by omega), hx, gv8_f, hg, Option.bind_some, if_pos rfl, hn]) (ih (i + 1) (by omega))
    | false =>
      rw [Bool.false_and]
      exact Ev.step (f := fun _ => some false) (fun k => by rw [mapmakerref08_All.l0, if_pos (by omega), if_pos (by omega), hx, gv8_f, hg, Option.bind_some, if_neg (by decide)]) (Ev.now _)
theorem all_ev (l : List S29) (hl : l.length ≤ 1000000) : Ev (fun k => mapmakerref08_All.f k l) (l.all gv) := all_l0 l hl l.length 0 (by omega)
theorem rd_L2_at (R : List (List S29)) (i : Nat) (h : i < R.length) : rd_L2 R (i : Int) = R[i] := by
  show R.getD ((i : Int)).toNat [] = _
  rw [Int.toNat_natCast, List.getD_eq_getElem?_getD, List.getElem?_eq_getElem h]
  rfl
/-- Few, in plain words. -/
def fewR (R : List (List S29)) : Bool := decide (R.length ≤ 12) && R.all (fun r => decide (r.length ≤ 30))
def fewA (l : List S27) : Bool := decide (l.length ≤ 20) && l.all (fun a => fewR a.f3)
theorem few22_l0 (R : List (List S29)) (hl : R.length ≤ 12) : ∀ (d i : Nat), i + d = R.length → Ev (fun k => mapmakerlaw22_Few.l0 k R (i : Int)) ((R.drop i).all (fun r => decide (r.length ≤ 30))) := by
  intro d
  induction d with
  | zero =>
    intro i hi
    rw [show R.drop i = [] from List.drop_eq_nil_of_le (by omega)]
    exact Ev.step (f := fun _ => some true) (fun k => by rw [mapmakerlaw22_Few.l0, if_neg (by omega)]) (Ev.now _)
  | succ d ih =>
    intro i hi
    have h1 : i < R.length := by omega
    have hn : wrap64 ((i : Int) + 1) = ((i + 1 : Nat) : Int) := wnext i (by omega)
    rw [List.drop_eq_getElem_cons h1, List.all_cons]
    by_cases h30 : R[i].length ≤ 30
    · rw [decide_eq_true h30, Bool.true_and]
      exact Ev.step (fun k => by rw [mapmakerlaw22_Few.l0, if_pos (by omega), if_pos (by omega), rd_L2_at R i h1, if_neg (by omega), hn]) (ih (i + 1) (by omega))
    · rw [decide_eq_false h30, Bool.false_and]
      exact Ev.step (f := fun _ => some false) (fun k => by rw [mapmakerlaw22_Few.l0, if_pos (by omega), if_pos (by omega), rd_L2_at R i h1, if_pos (by omega)]) (Ev.now _)
theorem few22_ev (R : List (List S29)) : Ev (fun k => mapmakerlaw22_Few.f k R) (fewR R) := by
  unfold fewR
  by_cases h : R.length ≤ 12
  · rw [decide_eq_true h, Bool.true_and]
    exact Ev.congr (fun k => by rw [mapmakerlaw22_Few.f, if_neg (by omega)]; rfl) (few22_l0 R h R.length 0 (by omega))
  · rw [decide_eq_false h, Bool.false_and]
    exact Ev.congr (fun k => by rw [mapmakerlaw22_Few.f, if_pos (by omega)]) (Ev.now _)
theorem rd27 (l : List S27) (i : Nat) (h : i < l.length) : rd_T27 l (i : Int) = l[i] := by
  show l.getD ((i : Int)).toNat z27 = _
  rw [Int.toNat_natCast, List.getD_eq_getElem?_getD, List.getElem?_eq_getElem h]
  rfl
theorem few36_l0 (l : List S27) (hl : l.length ≤ 20) : ∀ (d i : Nat), i + d = l.length → Ev (fun k => mapmakerlaw36_Few.l0 k l (i : Int)) ((l.drop i).all (fun a => fewR a.f3)) := by
  intro d
  induction d with
  | zero =>
    intro i hi
    rw [show l.drop i = [] from List.drop_eq_nil_of_le (by omega)]
    exact Ev.step (f := fun _ => some true) (fun k => by rw [mapmakerlaw36_Few.l0, if_neg (by omega)]) (Ev.now _)
  | succ d ih =>
    intro i hi
    have h1 : i < l.length := by omega
    have hn : wrap64 ((i : Int) + 1) = ((i + 1 : Nat) : Int) := wnext i (by omega)
    rw [List.drop_eq_getElem_cons h1, List.all_cons]
    refine Ev.step (f := fun k => (mapmakerlaw22_Few.f k (l[i].f3)).bind fun t103 => (if t103 = true then (mapmakerlaw36_Few.l0 k l (wrap64 ((i : Int) + 1))) else (some false))) (fun k => by rw [mapmakerlaw36_Few.l0, if_pos (by omega), if_pos (by omega), rd27 l i h1]) ?_
    refine Ev.bind (few22_ev l[i].f3) ?_
    cases fewR l[i].f3 with
    | true =>
      rw [Bool.true_and]
      exact Ev.congr (fun k => by rw [if_pos rfl, hn]) (ih (i + 1) (by omega))
    | false =>
      rw [Bool.false_and]
      exact Ev.congr (fun k => by rw [if_neg (by decide)]) (Ev.now _)
theorem few36_ev (l : List S27) : Ev (fun k => mapmakerlaw36_Few.f k l) (fewA l) := by
  unfold fewA
  by_cases h : l.length ≤ 20
  · rw [decide_eq_true h, Bool.true_and]
    exact Ev.congr (fun k => by rw [mapmakerlaw36_Few.f, if_neg (by omega)]; rfl) (few36_l0 l h l.length 0 (by omega))
  · rw [decide_eq_false h, Bool.false_and]
    exact Ev.congr (fun k => by rw [mapmakerlaw36_Few.f, if_pos (by omega)]) (Ev.now _)
end Go.Proofs.Ytjpkkdnilfoafaa.Plain
end
section
namespace Go.Proofs.Ytjpkkdnilfoafaa.Plain
open Go.RowKit Go.Proofs.YtjpkkdnilfoafaaW.PrintWords Go.Proofs.YtjpkkdnilfoafaaW.PrintLast Go.Proofs.YtjpkkdnilfoafaaW.PrintMore Go.Proofs.Ytjpkkdnilfoafaa.PALL Go.Proofs.Ytjpkkdnilfoafaa.Hand
set_option linter.unusedVariables false
set_option linter.unusedSimpArgs false
theorem w1 (i : Nat) (h : i < 4000000000000000000) : wrap64 ((i : Int) + 1) = ((i + 1 : Nat) : Int) := by unfold wrap64; omega
theorem w0 (i : Nat) (h : i < 4000000000000000000) : wrap64 (i : Int) = (i : Int) := by unfold wrap64; omega
theorem boxOf_snoc (c : List S57) (y : S57) : boxOf (c ++ [y]) = if c = [] then y else joinB (boxOf c) y := by
  cases c with
  | nil => rfl
  | cons a t =>
    rw [if_neg (by simp)]
    show (t ++ [y]).foldl joinB a = joinB (t.foldl joinB a) y
    rw [List.foldl_append]
    rfl
theorem joinL_at (l : List S57) {fan : Nat} (hf : 1 ≤ fan) (k : Nat) : (joinL l fan)[k]? = if k * fan < l.length then some (boxOf ((l.drop (k * fan)).take fan)) else none := by
  unfold joinL
  by_cases h : k * fan < l.length
  · rw [if_pos h, List.getElem?_map, List.getElem?_range ((cn_lt hf).2 h)]
    rfl
  · rw [if_neg h, List.getElem?_eq_none]
    rw [List.length_map, List.length_range]
    have := mt (cn_lt (n := l.length) hf (k := k)).1 h
    omega
end Go.Proofs.Ytjpkkdnilfoafaa.Plain
end
section
namespace Go.Proofs.Ytjpkkdnilfoafaa.Plain
open Go.RowKit Go.Proofs.YtjpkkdnilfoafaaW.PrintWords Go.Proofs.YtjpkkdnilfoafaaW.PrintLast Go.Proofs.YtjpkkdnilfoafaaW.PrintMore Go.Proofs.Ytjpkkdnilfoafaa.PALL Go.Proofs.Ytjpkkdnilfoafaa.Hand
set_option linter.unusedVariables false
set_option linter.unusedSimpArgs false
/-- Where an item goes, seen from position j down. -/
def pos (X : S61) (out : List S61) : Nat → Nat
  | 0 => 0
  | j + 1 => if ltT X (out.getD j z61) = true then pos X out j else j + 1
def ins (X : S61) (out : List S61) : List S61 := out.take (pos X out out.length) ++ [X] ++ out.drop (pos X out out.length)
theorem sorted_ext {α : Type} {r : α → α → Prop} (hir : ∀ a, ¬ r a a) (htr : ∀ a b c, r a b → r b c → r a c) : ∀ (l l' : List α), l.Pairwise r → l'.Pairwise r → (∀ x, x ∈ l ↔ x ∈ l') → l = l'
  | [], [], _, _, _ => rfl
  | [], b :: t', _, _, h => absurd ((h b).2 List.mem_cons_self) (by simp)
  | a :: t, [], _, _, h => absurd ((h a).1 List.mem_cons_self) (by simp)
  | a :: t, b :: t', h1, h2, h => by
    obtain ⟨k1, k2⟩ := List.pairwise_cons.1 h1
    obtain ⟨k3, k4⟩ := List.pairwise_cons.1 h2
    have hab : a = b := by
      rcases List.mem_cons.1 ((h a).1 List.mem_cons_self) with e | e
      · exact e
      · rcases List.mem_cons.1 ((h b).2 List.mem_cons_self) with e' | e'
        · exact e'.symm
        · exact absurd (htr _ _ _ (k1 b e') (k3 a e)) (hir a)
    subst hab
    rw [sorted_ext hir htr t t' k2 k4 (fun x => ⟨fun hx => ?_, fun hx => ?_⟩)]
    · rcases List.mem_cons.1 ((h x).1 (List.mem_cons_of_mem _ hx)) with e | e
      · subst e
        exact absurd (k1 _ hx) (hir _)
      · exact e
    · rcases List.mem_cons.1 ((h x).2 (List.mem_cons_of_mem _ hx)) with e | e
      · subst e
        exact absurd (k3 _ hx) (hir _)
      · exact e
/-- References in order: there is one order. -/
theorem sortedR_one {l l' : List S23} (h : l.Pairwise (fun a b => ltR b a = false)) (h' : l'.Pairwise (fun a b => ltR b a = false)) (hp : l.Perm l') (hn : l.Nodup) : l = l' := by
  have strict : ∀ {l : List S23}, l.Pairwise (fun a b => ltR b a = false) → l.Nodup → l.Pairwise (fun a b => ltR a b = true) := by
    intro l h hn
    refine (h.and hn).imp ?_
    rintro a b ⟨h1, h2⟩
    cases hab : ltR a b with
    | true => rfl
    | false => exact absurd (ltR_total a b hab h1) h2
  exact sorted_ext (r := fun a b => ltR a b = true) (fun a => by rw [swoR.irrefl]; decide) (fun a b c h k => swoR.trans _ _ _ h k) l l' (strict h hn) (strict h' (hp.nodup_iff.1 hn)) (fun x => hp.mem_iff)
end Go.Proofs.Ytjpkkdnilfoafaa.Plain
end
section
namespace Go.Proofs.Ytjpkkdnilfoafaa.Plain
open Go.RowKit Go.Proofs.YtjpkkdnilfoafaaW.PrintWords Go.Proofs.YtjpkkdnilfoafaaW.PrintLast Go.Proofs.YtjpkkdnilfoafaaW.PrintMore Go.Proofs.Ytjpkkdnilfoafaa.PALL Go.Proofs.Ytjpkkdnilfoafaa.Hand
set_option linter.unusedVariables false
set_option linter.unusedSimpArgs false
/-- The levels over a row of boxes. -/
structure Lv (fan : Nat) (l : List S57) (lv : List (List S57)) : Prop where
  zero : l ≠ [] → 0 < lv.length
  first : 0 < lv.length → lv.getD 0 [] = joinL l fan
  next : ∀ k, k + 1 < lv.length → lv.getD (k + 1) [] = joinL (lv.getD k []) fan
  top : 0 < lv.length → (lv.getD (lv.length - 1) []).length = 1
  few : lv.length ≤ l.length
theorem lvF_lv {fan : Nat} (hf : 2 ≤ fan) : ∀ (k : Nat) (l : List S57), l.length ≤ k → Lv fan l (lvF fan k l)
  | 0, l, h => by
    have : l = [] := List.length_eq_zero_iff.1 (by omega)
    subst this
    exact ⟨fun h => absurd rfl h, fun h => by simp [lvF] at h, fun k h => by simp [lvF] at h, fun h => by simp [lvF] at h, by simp [lvF]⟩
  | k + 1, l, h => by
    rw [lvF]
    by_cases h0 : l.length = 0
    · rw [if_pos h0]
      have : l = [] := List.length_eq_zero_iff.1 h0
      subst this
      exact ⟨fun h => absurd rfl h, fun h => by simp at h, fun k h => by simp at h, fun h => by simp at h, by simp⟩
    · rw [if_neg h0]
      by_cases h1 : (joinL l fan).length = 1
      · rw [if_pos h1]
        exact ⟨fun _ => by simp, fun _ => rfl, fun k h => by simp at h, fun _ => by simpa using h1, by simp; omega⟩
      · rw [if_neg h1]
        have hless := joinL_less hf h1 (by omega)
        have ih := lvF_lv hf k (joinL l fan) (by omega)
        have hpos : 0 < (joinL l fan).length := joinL_pos (by omega) (by omega)
        have hz := ih.zero (fun e => by rw [e] at hpos; simp at hpos)
        refine ⟨fun _ => by simp, fun _ => rfl, fun j hj => ?_, fun _ => ?_, ?_⟩
        · cases j with
          | zero => exact ih.first hz
          | succ j => exact ih.next j (by simpa using hj)
        · have := ih.top hz
          obtain ⟨m, hm⟩ : ∃ m, (lvF fan k (joinL l fan)).length = m + 1 := ⟨(lvF fan k (joinL l fan)).length - 1, by omega⟩
          rw [hm] at this
          rw [List.length_cons, hm]
          exact this
        · rw [List.length_cons]
          have := ih.few
          omega
theorem levels_lv {fan : Nat} (hf : 2 ≤ fan) (l : List S57) : Lv fan l (levelsOf fan l) := lvF_lv hf l.length l (Nat.le_refl _)
theorem Lv.len {fan : Nat} {l : List S57} {lv : List (List S57)} (h : Lv fan l lv) (hf : 1 ≤ fan) : ∀ (k : Nat), k < lv.length → ∀ i, i < (lv.getD k []).length ↔ i * fan ^ (k + 1) < l.length
  | 0, hk, i => by
    rw [h.first hk, joinL_len, cn_lt hf]
    simp
  | k + 1, hk, i => by
    rw [h.next k hk, joinL_len, cn_lt hf, Lv.len h hf k (by omega), Nat.mul_assoc, Nat.pow_succ fan (k + 1), Nat.mul_comm fan]
theorem Lv.level_le {fan : Nat} {l : List S57} {lv : List (List S57)} (h : Lv fan l lv) (hf : 1 ≤ fan) : ∀ (k : Nat), (lv.getD k []).length ≤ l.length := by
  intro k
  by_cases hk : k < lv.length
  · rcases Nat.lt_or_ge l.length (lv.getD k []).length with h1 | h1
    · have := (h.len hf k hk l.length).1 h1
      have h2 := Nat.le_mul_of_pos_right l.length (Nat.pos_of_ne_zero (show fan ^ (k + 1) ≠ 0 from Nat.pos_iff_ne_zero.1 (Nat.pow_pos (by omega))))
      omega
    · exact h1
  · rw [List.getD_eq_getElem?_getD, List.getElem?_eq_none (by omega)]
    simp
theorem fine_of {fan : Nat} {items : List S61} (hf : 2 ≤ fan) (hf2 : fan ≤ 16) (hn : items.length ≤ 10000) : Fine fan items (levelsOf fan (items.map S61.f1)) := by
  have h := levels_lv hf (items.map S61.f1)
  have hl : (items.map S61.f1).length = items.length := List.length_map _
  refine ⟨by omega, by omega, by omega, by have := h.few; omega, fun k => by have := h.level_le (by omega) k; omega, fun i hi => ?_, fun k i hk hi => ?_, fun hp => by rw [h.top hp]; decide⟩
  · have hp : 0 < (levelsOf fan (items.map S61.f1)).length := by
      rcases Nat.eq_zero_or_pos (levelsOf fan (items.map S61.f1)).length with h0 | h0
      · have := List.length_eq_zero_iff.1 h0
        rw [this] at hi
        simp at hi
      · exact h0
    have := (h.len (by omega) 0 hp i).1 hi
    rw [hl] at this
    simpa using this
  · have := (h.len (by omega) k hk i).1 hi
    rw [hl, Nat.pow_succ, ← Nat.mul_assoc, Nat.mul_right_comm] at this
    have h2 := Nat.le_mul_of_pos_right (i * fan) (Nat.pow_pos (n := k) (show 0 < fan by omega))
    omega
end Go.Proofs.Ytjpkkdnilfoafaa.Plain
end
section
namespace Go.Proofs.Ytjpkkdnilfoafaa.Plain
open Go.RowKit Go.Proofs.YtjpkkdnilfoafaaW.PrintWords Go.Proofs.YtjpkkdnilfoafaaW.PrintLast Go.Proofs.YtjpkkdnilfoafaaW.PrintMore Go.Proofs.Ytjpkkdnilfoafaa.PALL Go.Proofs.Ytjpkkdnilfoafaa.Hand
set_option linter.unusedVariables false
set_option linter.unusedSimpArgs false
/-- A box holds another. -/
def holdsB (B x : S57) : Prop := validB B = true ∧ validB x = true ∧ B.f0 ≤ x.f0 ∧ B.f1 ≤ x.f1 ∧ x.f2 ≤ B.f2 ∧ x.f3 ≤ B.f3
theorem valid_iff (b : S57) : validB b = true ↔ 0 ≤ b.f0 ∧ b.f0 ≤ b.f2 ∧ b.f2 ≤ 32768 ∧ 0 ≤ b.f1 ∧ b.f1 ≤ b.f3 ∧ b.f3 ≤ 32768 := by unfold validB; rw [decide_eq_true_eq]
theorem holdsB.trans {a b c : S57} (h : holdsB a b) (k : holdsB b c) : holdsB a c := by
  obtain ⟨h1, h2, h3, h4, h5, h6⟩ := h
  obtain ⟨k1, k2, k3, k4, k5, k6⟩ := k
  exact ⟨h1, k2, by omega, by omega, by omega, by omega⟩
theorem holdsB.refl {a : S57} (h : validB a = true) : holdsB a a := ⟨h, h, by omega, by omega, by omega, by omega⟩
theorem joinB_holds {a b : S57} (ha : validB a = true) (hb : validB b = true) : holdsB (joinB a b) a ∧ holdsB (joinB a b) b := by
  have h1 := (valid_iff a).1 ha
  have h2 := (valid_iff b).1 hb
  have hj : joinB a b = ⟨mn a.f0 b.f0, mn a.f1 b.f1, mx a.f2 b.f2, mx a.f3 b.f3⟩ := by unfold joinB; rw [if_pos ⟨ha, hb⟩]
  have e0 : mn a.f0 b.f0 ≤ a.f0 ∧ mn a.f0 b.f0 ≤ b.f0 ∧ 0 ≤ mn a.f0 b.f0 := by unfold mn; split <;> omega
  have e1 : mn a.f1 b.f1 ≤ a.f1 ∧ mn a.f1 b.f1 ≤ b.f1 ∧ 0 ≤ mn a.f1 b.f1 := by unfold mn; split <;> omega
  have e2 : a.f2 ≤ mx a.f2 b.f2 ∧ b.f2 ≤ mx a.f2 b.f2 ∧ mx a.f2 b.f2 ≤ 32768 := by unfold mx; split <;> omega
  have e3 : a.f3 ≤ mx a.f3 b.f3 ∧ b.f3 ≤ mx a.f3 b.f3 ∧ mx a.f3 b.f3 ≤ 32768 := by unfold mx; split <;> omega
  have hv : validB (joinB a b) = true := by rw [hj, valid_iff]; dsimp only; omega
  rw [hj] at hv ⊢
  exact ⟨⟨hv, ha, by dsimp only; omega, by dsimp only; omega, by dsimp only; omega, by dsimp only; omega⟩, ⟨hv, hb, by dsimp only; omega, by dsimp only; omega, by dsimp only; omega, by dsimp only; omega⟩⟩
theorem fold_holds : ∀ (t : List S57) (a : S57), validB a = true → (∀ x ∈ t, validB x = true) → validB (t.foldl joinB a) = true ∧ holdsB (t.foldl joinB a) a ∧ ∀ x ∈ t, holdsB (t.foldl joinB a) x
  | [], a, ha, _ => ⟨ha, holdsB.refl ha, fun x hx => by cases hx⟩
  | y :: t, a, ha, ht => by
    obtain ⟨h1, h2⟩ := joinB_holds ha (ht y List.mem_cons_self)
    obtain ⟨k1, k2, k3⟩ := fold_holds t (joinB a y) h1.1 (fun x hx => ht x (List.mem_cons_of_mem _ hx))
    rw [List.foldl_cons]
    refine ⟨k1, k2.trans h1, fun x hx => ?_⟩
    rcases List.mem_cons.1 hx with rfl | hx
    · exact k2.trans h2
    · exact k3 x hx
theorem boxOf_holds {c : List S57} (hc : c ≠ []) (hv : ∀ x ∈ c, validB x = true) : validB (boxOf c) = true ∧ ∀ x ∈ c, holdsB (boxOf c) x := by
  cases c with
  | nil => exact absurd rfl hc
  | cons a t =>
    obtain ⟨k1, k2, k3⟩ := fold_holds t a (hv a List.mem_cons_self) (fun x hx => hv x (List.mem_cons_of_mem _ hx))
    refine ⟨k1, fun x hx => ?_⟩
    rcases List.mem_cons.1 hx with rfl | hx
    · exact k2
    · exact k3 x hx
theorem meets_iff (a b : S57) : meetsB a b = true ↔ validB a = true ∧ validB b = true ∧ a.f0 ≤ b.f2 ∧ b.f0 ≤ a.f2 ∧ a.f1 ≤ b.f3 ∧ b.f1 ≤ a.f3 := by
  unfold meetsB
  simp only [Bool.and_eq_true, decide_eq_true_eq]
  exact ⟨fun h => ⟨h.1.1, h.1.2, h.2⟩, fun h => ⟨⟨h.1, h.2.1⟩, h.2.2⟩⟩
theorem meets_of_holds {B x b : S57} (h : holdsB B x) (hm : meetsB x b = true) : meetsB B b = true := by
  rw [meets_iff] at hm ⊢
  obtain ⟨h1, h2, h3, h4, h5, h6⟩ := h
  exact ⟨h1, hm.2.1, by omega, by omega, by omega, by omega⟩
/-- The items below a node. -/
def seg (fan : Nat) (items : List S61) (k i : Nat) : List S61 := (items.drop (i * fan ^ (k + 1))).take (fan ^ (k + 1))
theorem mem_cut {α : Type} {l : List α} {a m : Nat} {x : α} : x ∈ (l.drop a).take m ↔ ∃ t, a ≤ t ∧ t < a + m ∧ l[t]? = some x := by
  constructor
  · intro h
    obtain ⟨j, hj, rfl⟩ := List.mem_iff_getElem.1 h
    have hj' : j < m ∧ a + j < l.length := by simp at hj; omega
    exact ⟨a + j, by omega, by omega, by rw [List.getElem_take, List.getElem_drop, List.getElem?_eq_getElem hj'.2]⟩
  · rintro ⟨t, h1, h2, h3⟩
    refine List.mem_iff_getElem?.2 ⟨t - a, ?_⟩
    rw [List.getElem?_take, if_pos (by omega), List.getElem?_drop, show a + (t - a) = t by omega, h3]
theorem bxL_zero {fan : Nat} {items : List S61} {lv : List (List S57)} (h : Lv fan (items.map S61.f1) lv) (hf : 1 ≤ fan) (hz : 0 < lv.length) {i : Nat} (hi : i < (lv.getD 0 []).length) : bxL lv 0 i = boxOf (((items.map S61.f1).drop (i * fan)).take fan) := by
  unfold bxL
  rw [h.first hz] at hi ⊢
  rw [List.getD_eq_getElem?_getD, joinL_at _ hf, if_pos ((cn_lt hf).1 (by rw [joinL_len] at hi; exact hi))]
  rfl
theorem bxL_succ {fan : Nat} {l : List S57} {lv : List (List S57)} (h : Lv fan l lv) (hf : 1 ≤ fan) {k i : Nat} (hk : k + 1 < lv.length) (hi : i < (lv.getD (k + 1) []).length) : bxL lv (k + 1) i = boxOf (((lv.getD k []).drop (i * fan)).take fan) ∧ i * fan < (lv.getD k []).length := by
  unfold bxL
  rw [h.next k hk] at hi ⊢
  have hlt := (cn_lt hf).1 (by rw [joinL_len] at hi; exact hi)
  rw [List.getD_eq_getElem?_getD, joinL_at _ hf, if_pos hlt]
  exact ⟨rfl, hlt⟩
theorem cov {fan : Nat} {items : List S61} {lv : List (List S57)} (h : Lv fan (items.map S61.f1) lv) (hf : 1 ≤ fan) (hv : ∀ x ∈ items, validB x.f1 = true) : ∀ (k i : Nat), k < lv.length → i < (lv.getD k []).length → validB (bxL lv k i) = true ∧ ∀ x ∈ seg fan items k i, holdsB (bxL lv k i) x.f1
  | 0, i, hk, hi => by
    have hn := (h.len hf 0 hk i).1 hi
    rw [bxL_zero h hf hk hi]
    have hne : ((items.map S61.f1).drop (i * fan)).take fan ≠ [] := by
      intro e
      have e2 := congrArg List.length e
      rw [List.length_take, List.length_drop] at e2
      simp only [List.length_nil] at e2
      simp only [Nat.zero_add, Nat.pow_one] at hn
      omega
    obtain ⟨h1, h2⟩ := boxOf_holds hne (fun x hx => by
      obtain ⟨t, _, _, ht⟩ := mem_cut.1 hx
      obtain ⟨y, hy, rfl⟩ := List.mem_map.1 (List.mem_of_getElem? ht)
      exact hv y hy)
    refine ⟨h1, fun x hx => h2 x.f1 ?_⟩
    unfold seg at hx
    simp only [Nat.zero_add, Nat.pow_one] at hx
    obtain ⟨t, ht1, ht2, ht3⟩ := mem_cut.1 hx
    exact mem_cut.2 ⟨t, ht1, ht2, by rw [List.getElem?_map, ht3]; rfl⟩
  | k + 1, i, hk, hi => by
    have ih := cov h hf hv k
    obtain ⟨e1, e2⟩ := bxL_succ h hf hk hi
    rw [e1]
    have hmem : ∀ j, i * fan ≤ j → j < i * fan + fan → j < (lv.getD k []).length → bxL lv k j ∈ ((lv.getD k []).drop (i * fan)).take fan := by
      intro j h1 h2 h3
      refine mem_cut.2 ⟨j, h1, h2, ?_⟩
      unfold bxL
      rw [List.getElem?_eq_getElem h3, List.getD_eq_getElem?_getD (l := lv.getD k []), List.getElem?_eq_getElem h3]
      rfl
    have hne : ((lv.getD k []).drop (i * fan)).take fan ≠ [] := by
      intro e
      have := hmem (i * fan) (Nat.le_refl _) (by omega) e2
      rw [e] at this
      cases this
    obtain ⟨h1, h2⟩ := boxOf_holds hne (fun x hx => by
      obtain ⟨t, _, _, ht⟩ := mem_cut.1 hx
      have htl := (List.getElem?_eq_some_iff.1 ht).1
      have := (ih t (by omega) htl).1
      unfold bxL at this
      rw [List.getD_eq_getElem?_getD (l := lv.getD k []), ht] at this
      exact this)
    refine ⟨h1, fun x hx => ?_⟩
    unfold seg at hx
    obtain ⟨t, ht1, ht2, ht3⟩ := mem_cut.1 hx
    have htl := (List.getElem?_eq_some_iff.1 ht3).1
    obtain ⟨P, hP⟩ : ∃ P, P = fan ^ (k + 1) := ⟨_, rfl⟩
    have hPp : 0 < P := by rw [hP]; exact Nat.pow_pos (by omega)
    rw [Nat.pow_succ, ← hP, Nat.mul_comm P fan, ← Nat.mul_assoc] at ht1 ht2
    have hj1 : i * fan ≤ t / P := (Nat.le_div_iff_mul_le hPp).2 ht1
    have hj2 : t / P < i * fan + fan := (Nat.div_lt_iff_lt_mul hPp).2 (by rw [Nat.add_mul]; exact ht2)
    have hdm := Nat.div_add_mod t P
    have hml := Nat.mod_lt t hPp
    have hj3 : t / P < (lv.getD k []).length := (h.len hf k (by omega) _).2 (by rw [← hP, List.length_map, Nat.mul_comm]; omega)
    refine (h2 _ (hmem _ hj1 hj2 hj3)).trans ((ih (t / P) (by omega) hj3).2 x ?_)
    unfold seg
    rw [← hP]
    exact mem_cut.2 ⟨t, by rw [Nat.mul_comm]; omega, by rw [Nat.mul_comm (t / P)]; omega, ht3⟩
end Go.Proofs.Ytjpkkdnilfoafaa.Plain
end
section
namespace Go.Proofs.Ytjpkkdnilfoafaa.Plain
open Go.RowKit Go.Proofs.YtjpkkdnilfoafaaW.PrintWords Go.Proofs.YtjpkkdnilfoafaaW.PrintLast Go.Proofs.YtjpkkdnilfoafaaW.PrintMore Go.Proofs.Ytjpkkdnilfoafaa.PALL Go.Proofs.Ytjpkkdnilfoafaa.Hand
set_option linter.unusedVariables false
set_option linter.unusedSimpArgs false
theorem cut_flat {α : Type} (l : List α) (P a : Nat) : ∀ m, ((List.range' a m).map (fun j => (l.drop (j * P)).take P)).flatten = (l.drop (a * P)).take (m * P)
  | 0 => by simp
  | m + 1 => by
    rw [List.range'_1_concat, List.map_append, List.flatten_append, cut_flat l P a m]
    simp only [List.map_cons, List.map_nil, List.flatten_cons, List.flatten_nil, List.append_nil]
    rw [Nat.add_mul m 1 P, Nat.one_mul, List.take_add, List.drop_drop, Nat.add_mul a m P]
theorem filter_flat {α β : Type} (p : α → Bool) (f : β → List α) (r : List β) : (r.map (fun j => (f j).filter p)).flatten = ((r.map f).flatten).filter p := by
  induction r with
  | nil => rfl
  | cons a t ih => simp only [List.map_cons, List.flatten_cons, List.filter_append, ih]
theorem vis_seg {fan : Nat} {items : List S61} {lv : List (List S57)} (h : Lv fan (items.map S61.f1) lv) (hf : 1 ≤ fan) (hv : ∀ x ∈ items, validB x.f1 = true) (b : S57) : ∀ (k i : Nat), k < lv.length → i < (lv.getD k []).length → (vis lv items fan b k i).1 = (seg fan items k i).filter (fun x => meetsB x.f1 b) := by
  have hno : ∀ (k i : Nat), k < lv.length → i < (lv.getD k []).length → ¬ meetsB (bxL lv k i) b = true → (seg fan items k i).filter (fun x => meetsB x.f1 b) = [] := by
    intro k i hk hi hm
    rw [List.filter_eq_nil_iff]
    intro x hx hx2
    exact hm (meets_of_holds ((cov h hf hv k i hk hi).2 x hx) hx2)
  intro k
  induction k with
  | zero =>
    intro i hk hi
    rw [vis]
    by_cases hm : meetsB (bxL lv 0 i) b = true
    · rw [if_pos hm]
      unfold seg
      simp only [Nat.zero_add, Nat.pow_one]
    · rw [if_neg hm, hno 0 i hk hi hm]
  | succ k ih =>
    intro i hk hi
    rw [vis]
    by_cases hm : meetsB (bxL lv (k + 1) i) b = true
    · rw [if_pos hm]
      obtain ⟨N, hN⟩ : ∃ N, N = min ((i + 1) * fan) (lv.getD k []).length := ⟨_, rfl⟩
      rw [← hN]
      have hlow := (bxL_succ h hf hk hi).2
      have e1 : (List.range' (i * fan) (N - i * fan)).map (fun j => (vis lv items fan b k j).1) = (List.range' (i * fan) (N - i * fan)).map (fun j => (seg fan items k j).filter (fun x => meetsB x.f1 b)) := by
        apply List.map_congr_left
        intro j hj
        rw [List.mem_range'_1] at hj
        exact ih j (by omega) (by omega)
      rw [e1, filter_flat]
      unfold seg
      rw [cut_flat, Nat.mul_assoc, Nat.pow_succ fan (k + 1), Nat.mul_comm (fan ^ (k + 1)) fan]
      congr 1
      obtain ⟨P, hP⟩ : ∃ P, P = fan ^ (k + 1) := ⟨_, rfl⟩
      have hPp : 0 < P := by rw [hP]; exact Nat.pow_pos (by omega)
      rw [← hP]
      rw [Nat.add_mul, Nat.one_mul] at hN
      rcases Nat.le_total (i * fan + fan) (lv.getD k []).length with h1 | h1
      · rw [Nat.min_eq_left h1] at hN
        rw [hN, Nat.add_sub_cancel_left]
      · rw [Nat.min_eq_right h1] at hN
        have h2 := mt (h.len hf k (by omega) N).2 (by rw [hN]; exact Nat.lt_irrefl _)
        rw [← hP, List.length_map] at h2
        have h3 : N * P ≤ (i * (fan * P)) + fan * P := by
          rw [← Nat.mul_assoc, ← Nat.add_mul]
          exact Nat.mul_le_mul_right _ (by omega)
        have h4 : (N - i * fan) * P = N * P - i * (fan * P) := by rw [Nat.sub_mul, Nat.mul_assoc]
        rw [h4, List.take_of_length_le (by rw [List.length_drop]; omega), List.take_of_length_le (by rw [List.length_drop]; omega)]
    · rw [if_neg hm, hno (k + 1) i hk hi hm]
/-- What a search yields. -/
theorem visT_items {fan : Nat} {items : List S61} (hf : 2 ≤ fan) (hv : ∀ x ∈ items, validB x.f1 = true) (b : S57) : (visT (levelsOf fan (items.map S61.f1)) items fan b).1 = items.filter (fun x => meetsB x.f1 b) := by
  have h := levels_lv hf (items.map S61.f1)
  unfold visT
  by_cases h0 : (levelsOf fan (items.map S61.f1)).length = 0
  · rw [if_pos h0]
    cases items with
    | nil => rfl
    | cons a t => exact absurd (h.zero (by simp)) (by omega)
  · rw [if_neg h0]
    have hp : 0 < (levelsOf fan (items.map S61.f1)).length := by omega
    have ht := h.top hp
    rw [vis_seg h (by omega) hv b _ 0 (by omega) (by omega)]
    unfold seg
    have h1 := mt (h.len (by omega) _ (show (levelsOf fan (items.map S61.f1)).length - 1 < _ by omega) 1).2 (by rw [ht]; exact Nat.lt_irrefl _)
    rw [List.length_map, Nat.one_mul] at h1
    rw [Nat.zero_mul, List.drop_zero, List.take_of_length_le (by omega)]
/-- A bound on the count. -/
theorem vis_le {fan : Nat} {items : List S61} {lv : List (List S57)} (b : S57) : ∀ (k i : Nat), (vis lv items fan b k i).2 ≤ (fan + 1) ^ (k + 1)
  | 0, i => by
    rw [vis]
    split
    · show 1 ≤ (fan + 1) ^ 1
      rw [Nat.pow_one]
      omega
    · exact Nat.zero_le _
  | k + 1, i => by
    rw [vis]
    split
    · have ih := vis_le (fan := fan) (items := items) (lv := lv) b k
      have hs : ∀ (r : List Nat), (r.map (fun j => (vis lv items fan b k j).2)).sum ≤ r.length * (fan + 1) ^ (k + 1) := by
        intro r
        induction r with
        | nil => simp
        | cons a t iht =>
          rw [List.map_cons, List.sum_cons, List.length_cons, Nat.add_mul, Nat.one_mul]
          have := ih a
          omega
      have h1 := hs (List.range' (i * fan) (min ((i + 1) * fan) (lv.getD k []).length - i * fan))
      rw [List.length_range'] at h1
      have h2 : (min ((i + 1) * fan) (lv.getD k []).length - i * fan) ≤ fan := by rw [Nat.add_mul, Nat.one_mul]; omega
      have h3 := Nat.mul_le_mul_right ((fan + 1) ^ (k + 1)) h2
      have h4 : 1 ≤ (fan + 1) ^ (k + 1) := Nat.pow_pos (by omega)
      show 1 + _ ≤ (fan + 1) ^ (k + 1 + 1)
      rw [Nat.pow_succ (fan + 1) (k + 1), Nat.mul_add, Nat.mul_one, Nat.mul_comm ((fan + 1) ^ (k + 1)) fan]
      omega
    · exact Nat.zero_le _
end Go.Proofs.Ytjpkkdnilfoafaa.Plain
end
section
namespace Go.Proofs.Ytjpkkdnilfoafaa.Plain
open Go.RowKit Go.Proofs.YtjpkkdnilfoafaaW.PrintWords Go.Proofs.YtjpkkdnilfoafaaW.PrintLast Go.Proofs.YtjpkkdnilfoafaaW.PrintMore Go.Proofs.Ytjpkkdnilfoafaa.PALL Go.Proofs.Ytjpkkdnilfoafaa.Hand
set_option linter.unusedVariables false
set_option linter.unusedSimpArgs false
theorem lvF_few {fan : Nat} (hf : 2 ≤ fan) : ∀ (k : Nat) (l : List S57) (m : Nat), l.length ≤ 2 ^ m → (lvF fan k l).length ≤ max m 1
  | 0, l, m, h => by rw [lvF, List.length_nil]; omega
  | k + 1, l, m, h => by
    rw [lvF]
    by_cases h0 : l.length = 0
    · rw [if_pos h0, List.length_nil]
      omega
    · rw [if_neg h0, List.length_cons]
      by_cases h1 : (joinL l fan).length = 1
      · rw [if_pos h1, List.length_nil]
        omega
      · rw [if_neg h1]
        have hp := joinL_pos (fan := fan) (l := l) (by omega) (by omega)
        cases m with
        | zero =>
          exfalso
          have := joinL_less hf h1 (by omega)
          rw [Nat.pow_zero] at h
          omega
        | succ m =>
          have hj : (joinL l fan).length ≤ 2 ^ m := by
            rw [joinL_len]
            rcases Nat.lt_or_ge (2 ^ m) (cn l.length fan) with h2 | h2
            · exfalso
              have h3 := (cn_lt (by omega)).1 h2
              have h4 := Nat.mul_le_mul_left (2 ^ m) hf
              rw [Nat.pow_succ] at h
              omega
            · exact h2
          have ih := lvF_few hf k _ m hj
          cases m with
          | zero =>
            exfalso
            rw [Nat.pow_zero] at hj
            omega
          | succ m => omega
theorem levels_six {fan : Nat} (hf : 2 ≤ fan) {l : List S57} (h : l.length ≤ 60) : (levelsOf fan l).length ≤ 6 := lvF_few hf l.length l 6 (Nat.le_trans h (by decide))
theorem vis_small {fan : Nat} {items : List S61} (hf : 2 ≤ fan) (hf2 : fan ≤ 16) (hn : items.length ≤ 60) (b : S57) : (visT (levelsOf fan (items.map S61.f1)) items fan b).2 ≤ 1000000000 := by
  unfold visT
  split
  · exact Nat.zero_le _
  · have h6 := levels_six hf (l := items.map S61.f1) (by rw [List.length_map]; exact hn)
    have h1 := vis_le (fan := fan) (items := items) (lv := levelsOf fan (items.map S61.f1)) b ((levelsOf fan (items.map S61.f1)).length - 1) 0
    have h2 : (fan + 1) ^ ((levelsOf fan (items.map S61.f1)).length - 1 + 1) ≤ 17 ^ 6 := Nat.le_trans (Nat.pow_le_pow_left (by omega) _) (Nat.pow_le_pow_right (by decide) (by omega))
    exact Nat.le_trans h1 (Nat.le_trans h2 (by decide))
theorem holdsB.anti {a b : S57} (h : holdsB a b) (k : holdsB b a) : a = b := by
  obtain ⟨h1, h2, h3, h4, h5, h6⟩ := h
  obtain ⟨k1, k2, k3, k4, k5, k6⟩ := k
  have e0 : a.f0 = b.f0 := by omega
  have e1 : a.f1 = b.f1 := by omega
  have e2 : a.f2 = b.f2 := by omega
  have e3 : a.f3 = b.f3 := by omega
  show (⟨a.f0, a.f1, a.f2, a.f3⟩ : S57) = ⟨b.f0, b.f1, b.f2, b.f3⟩
  rw [e0, e1, e2, e3]
theorem joinB_least {D a b : S57} (ha : holdsB D a) (hb : holdsB D b) : holdsB D (joinB a b) := by
  have hj : joinB a b = ⟨mn a.f0 b.f0, mn a.f1 b.f1, mx a.f2 b.f2, mx a.f3 b.f3⟩ := by unfold joinB; rw [if_pos ⟨ha.2.1, hb.2.1⟩]
  have hv := (joinB_holds ha.2.1 hb.2.1).1.1
  obtain ⟨h1, h2, h3, h4, h5, h6⟩ := ha
  obtain ⟨k1, k2, k3, k4, k5, k6⟩ := hb
  refine ⟨h1, hv, ?_, ?_, ?_, ?_⟩ <;> rw [hj] <;> simp only [mn, mx] <;> split <;> omega
theorem joinB_absorb {B x : S57} (h : holdsB B x) : joinB x B = B := (joinB_least h (holdsB.refl h.1)).anti (joinB_holds h.2.1 h.1).2 |>.symm
end Go.Proofs.Ytjpkkdnilfoafaa.Plain
end
