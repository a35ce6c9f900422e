/-
  Plain facts on lines: the program's parts are the reference's.
-/
import Derived.Test.YtbgabhdhheplgaaPl6
import Derived.Test.YtbgabhdhheplgaaPl2
import Derived.Test.YtbgabhdhheplgaaPALLx9
import Derived.Test.YtbgabhdhheplgaaPALLx21
namespace Go.Proofs.Ytbgabhdhheplgaa.Pl
open Go.RowKit Go.Proofs.Ytbgabhdhheplgaa.PALL Go.Proofs.YtbgabhdhheplgaaW.PrintWords Go.Proofs.YtbgabhdhheplgaaW.PrintLast Go.Proofs.YtbgabhdhheplgaaW.PrintMore

theorem piece_f_ev (b0 b1 b2 b3 : Int) (p q : S37) : ∃ r, Says (piece b0 b1 b2 b3 4 p q) r ∧ Ev (fun k => clip_piece.f k p.f0 p.f1 q.f0 q.f1 b0 b1 b2 b3) r := by
  obtain ⟨r, h1, h2⟩ := piece_ev b0 b1 b2 b3 4 p q (by omega)
  exact ⟨r, h1, Ev.congr (fun k => rfl) h2⟩
theorem ref_piece_f_ev (b0 b1 b2 b3 : Int) (p q : S37) : ∃ r, Says (piece b0 b1 b2 b3 4 p q) r ∧ Ev (fun k => mapmakerref12_piece.f k p.f0 p.f1 q.f0 q.f1 b0 b1 b2 b3) r := by
  obtain ⟨r, h1, h2⟩ := ref_piece_ev b0 b1 b2 b3 4 p q (by omega)
  exact ⟨r, h1, Ev.congr (fun k => rfl) h2⟩
def shut (done : List (List S37)) (cur : List S37) : List (List S37) := if cur.length = 0 then done else done ++ [cur]
theorem shut_length (done : List (List S37)) (cur : List S37) : (shut done cur).length + 2 ≤ done.length + cur.length + 2 ∧ (shut done cur).length ≤ done.length + 1 := by
  rw [shut]; split <;> simp <;> omega
/-- The parts, from segment i on (from point i to point i + 1), n left. -/
def lineN (b0 b1 b2 b3 : Int) (t : List S37) : Nat → Nat → Bool → List (List S37) → List S37 → List (List S37)
  | 0, _, _, done, cur => shut done cur
  | n + 1, i, opn, done, cur =>
    match piece b0 b1 b2 b3 4 (rd_T37 t (i : Int)) (rd_T37 t ((i + 1 : Nat) : Int)) with
    | none => lineN b0 b1 b2 b3 t n (i + 1) false done cur
    | some (p, q) =>
      if (opn && eqp p (rd_T37 t (i : Int))) = true then lineN b0 b1 b2 b3 t n (i + 1) (eqp q (rd_T37 t ((i + 1 : Nat) : Int))) done (cur ++ [q])
      else lineN b0 b1 b2 b3 t n (i + 1) (eqp q (rd_T37 t ((i + 1 : Nat) : Int))) (shut done cur) [p, q]
theorem meets_iff {opn : Bool} {p a : S37} : (opn && eqp p a) = true ↔ opn = true ∧ p = a := by rw [Bool.and_eq_true, eqp_iff]
theorem ref_go_ev (b0 b1 b2 b3 : Int) (t : List S37) : ∀ (n i : Nat) (opn : Bool) (done : List (List S37)) (cur : List S37), i + n = t.length - 1 → (opn = true → cur ≠ []) →
    done.length + cur.length + 2 * n < 1099511627776 → Ev (fun k => mapmakerref12_Line.go b0 b1 b2 b3 k t i opn done cur) (lineN b0 b1 b2 b3 t n i opn done cur)
  | 0, i, opn, done, cur, hi, ho, hl => by
    refine Ev.step (f := fun _ => some (shut done cur)) (fun k => ?_) (Ev.now _)
    rw [mapmakerref12_Line.go, if_neg (by omega)]; rfl
  | n + 1, i, opn, done, cur, hi, ho, hl => by
    obtain ⟨r, h1, h2⟩ := ref_piece_f_ev b0 b1 b2 b3 (rd_T37 t (i : Int)) (rd_T37 t ((i + 1 : Nat) : Int))
    have hs := shut_length done cur
    refine Ev.step (fun k => ?_) (Ev.bind h2 (f := fun k r => if r.2.2.2.2 = true then
            (mapmakerref12_Line.meets t cur i opn r.1 r.2.1).bind fun c =>
              if c = true then mapmakerref12_Line.go b0 b1 b2 b3 k t (i + 1) (r.2.2.1 == (rd_T37 t ((i : Int) + 1)).f0 && r.2.2.2.1 == (rd_T37 t ((i : Int) + 1)).f1) done (cur ++ [⟨r.2.2.1, r.2.2.2.1⟩])
              else mapmakerref12_Line.go b0 b1 b2 b3 k t (i + 1) (r.2.2.1 == (rd_T37 t ((i : Int) + 1)).f0 && r.2.2.2.1 == (rd_T37 t ((i : Int) + 1)).f1) (if cur.length = 0 then done else done ++ [cur]) [⟨r.1, r.2.1⟩, ⟨r.2.2.1, r.2.2.2.1⟩]
          else mapmakerref12_Line.go b0 b1 b2 b3 k t (i + 1) false done cur) ?_)
    · rw [mapmakerref12_Line.go, if_pos (by omega), if_pos ⟨by omega, by omega⟩]; rfl
    · rw [lineN]
      obtain ⟨e1, e2⟩ := h1
      cases hp : piece b0 b1 b2 b3 4 (rd_T37 t (i : Int)) (rd_T37 t ((i + 1 : Nat) : Int)) with
      | none =>
        rw [hp] at e1
        have := ref_go_ev b0 b1 b2 b3 t n (i + 1) false done cur (by omega) (by simp) (by omega)
        exact Ev.congr (fun k => by rw [if_neg (by rw [e1]; simp)]) this
      | some pq =>
        obtain ⟨p, q⟩ := pq
        have e := e2 p q hp
        subst e
        dsimp only
        have hi1 : (i : Int) + 1 = ((i + 1 : Nat) : Int) := by omega
        by_cases hc : opn = true ∧ p = rd_T37 t (i : Int)
        · have hcn := ho hc.1
          have hm : mapmakerref12_Line.meets t cur i opn p.f0 p.f1 = some true := by
            rw [mapmakerref12_Line.meets, if_pos hc.1, if_pos (by rw [← hc.2]; exact ⟨rfl, rfl⟩), if_neg (by simpa using hcn)]
          rw [if_pos (meets_iff.2 hc)]
          have := ref_go_ev b0 b1 b2 b3 t n (i + 1) (eqp q (rd_T37 t ((i + 1 : Nat) : Int))) done (cur ++ [q]) (by omega) (by simp) (by simp; omega)
          exact Ev.congr (fun k => by rw [if_pos rfl, hm, Option.bind_some, if_pos rfl, hi1]; rfl) this
        · have hm : mapmakerref12_Line.meets t cur i opn p.f0 p.f1 = some false := by
            rw [mapmakerref12_Line.meets]
            by_cases ho : opn = true
            · rw [if_pos ho, if_neg]
              intro ⟨h3, h4⟩
              exact hc ⟨ho, eqp_iff.1 (by rw [eqp]; simp [h3, h4])⟩
            · rw [if_neg ho]
          rw [if_neg (fun h => hc (meets_iff.1 h))]
          have := ref_go_ev b0 b1 b2 b3 t n (i + 1) (eqp q (rd_T37 t ((i + 1 : Nat) : Int))) (shut done cur) [p, q] (by omega) (by simp) (by simp; omega)
          exact Ev.congr (fun k => by rw [if_pos rfl, hm, Option.bind_some, if_neg (by simp), hi1]; rfl) this
theorem go_ev (b0 b1 b2 b3 : Int) (t : List S37) : ∀ (n i : Nat) (opn : Bool) (last : Int) (done : List (List S37)) (cur : List S37), i + n = t.length - 1 → last ≤ (i : Int) → (last = (i : Int) → cur ≠ []) →
    (opn = true ↔ last = (i : Int) ∧ rd_T37 cur ((cur.length : Int) - 1) = rd_T37 t (i : Int)) →
    done.length + cur.length + 2 * n < 1099511627776 → Ev (fun k => clip_Line.go b0 b1 b2 b3 k t (i + 1) last done cur) (lineN b0 b1 b2 b3 t n i opn done cur)
  | 0, i, opn, last, done, cur, hi, hla, hn, ho, hl => by
    refine Ev.step (f := fun _ => some (shut done cur)) (fun k => ?_) (Ev.now _)
    rw [clip_Line.go, if_neg (by omega)]; rfl
  | n + 1, i, opn, last, done, cur, hi, hla, hn, ho, hl => by
    obtain ⟨r, h1, h2⟩ := piece_f_ev b0 b1 b2 b3 (rd_T37 t (i : Int)) (rd_T37 t ((i + 1 : Nat) : Int))
    have hs := shut_length done cur
    have hi1 : ((i + 1 : Nat) : Int) - 1 = (i : Int) := by omega
    refine Ev.step (fun k => ?_) (Ev.bind h2 (f := fun k r => if r.2.2.2.2 = true then
            (clip_Line.meets t cur ((i + 1 : Nat) : Int) last r.1 r.2.1).bind fun c =>
              if c = true then clip_Line.go b0 b1 b2 b3 k t (i + 1 + 1) ((i + 1 : Nat) : Int) done (cur ++ [⟨r.2.2.1, r.2.2.2.1⟩])
              else clip_Line.go b0 b1 b2 b3 k t (i + 1 + 1) ((i + 1 : Nat) : Int) (if cur.length = 0 then done else done ++ [cur]) [⟨r.1, r.2.1⟩, ⟨r.2.2.1, r.2.2.2.1⟩]
          else clip_Line.go b0 b1 b2 b3 k t (i + 1 + 1) last done cur) ?_)
    · rw [clip_Line.go, if_pos (by omega), if_pos ⟨by omega, by omega⟩, hi1]
    · rw [lineN]
      obtain ⟨e1, e2⟩ := h1
      cases hp : piece b0 b1 b2 b3 4 (rd_T37 t (i : Int)) (rd_T37 t ((i + 1 : Nat) : Int)) with
      | none =>
        rw [hp] at e1
        have := go_ev b0 b1 b2 b3 t n (i + 1) false last done cur (by omega) (by omega) (by omega) (by simp; omega) (by omega)
        exact Ev.congr (fun k => by rw [if_neg (by rw [e1]; simp)]) this
      | some pq =>
        obtain ⟨p, q⟩ := pq
        have e := e2 p q hp
        subst e
        dsimp only
        have hm : clip_Line.meets t cur ((i + 1 : Nat) : Int) last p.f0 p.f1 = some (opn && eqp p (rd_T37 t (i : Int))) := by
          have pe : ∀ a : S37, (p.f0 = a.f0 ∧ p.f1 = a.f1) ↔ p = a := fun a => ⟨fun ⟨h3, h4⟩ => eqp_iff.1 (by rw [eqp]; simp [h3, h4]), fun h => by rw [h]; exact ⟨rfl, rfl⟩⟩
          have pe2 : ∀ a : S37, (a.f0 = p.f0 ∧ a.f1 = p.f1) ↔ a = p := fun a => ⟨fun ⟨h3, h4⟩ => eqp_iff.1 (by rw [eqp]; simp [h3, h4]), fun h => by rw [h]; exact ⟨rfl, rfl⟩⟩
          rw [clip_Line.meets, hi1]
          by_cases h3 : last = (i : Int)
          · rw [if_pos h3]
            by_cases h4 : p = rd_T37 t (i : Int)
            · rw [if_pos ((pe _).2 h4), if_neg (by simpa using hn h3)]
              congr 1
              rw [Bool.eq_iff_iff, decide_eq_true_iff, meets_iff, ho]
              exact ⟨fun h => ⟨⟨h3, ((pe2 _).1 h).trans h4⟩, h4⟩, fun h => (pe2 _).2 (h.1.2.trans h4.symm)⟩
            · rw [if_neg (fun h => h4 ((pe _).1 h)), (Bool.eq_false_iff.2 (fun h => h4 (meets_iff.1 h).2) : (opn && eqp p (rd_T37 t (i : Int))) = false)]
          · rw [if_neg h3, (Bool.eq_false_iff.2 (fun h => h3 (ho.1 (meets_iff.1 h).1).1) : (opn && eqp p (rd_T37 t (i : Int))) = false)]
        have la : ∀ (l : List S37), rd_T37 (l ++ [q]) (((l ++ [q]).length : Int) - 1) = q := fun l => by
          rw [show (((l ++ [q]).length : Int) - 1) = ((l.length : Nat) : Int) by simp]
          rw [rd_get _ _ (by simp)]; simp
        by_cases hc : opn = true ∧ p = rd_T37 t (i : Int)
        · rw [if_pos (meets_iff.2 hc)]
          have := go_ev b0 b1 b2 b3 t n (i + 1) (eqp q (rd_T37 t ((i + 1 : Nat) : Int))) ((i + 1 : Nat) : Int) done (cur ++ [q]) (by omega) (by omega) (by simp) (by rw [la, eqp_iff]; simp) (by simp; omega)
          exact Ev.congr (fun k => by rw [if_pos rfl, hm, Option.bind_some, if_pos (meets_iff.2 hc)]) this
        · rw [if_neg (fun h => hc (meets_iff.1 h))]
          have := go_ev b0 b1 b2 b3 t n (i + 1) (eqp q (rd_T37 t ((i + 1 : Nat) : Int))) ((i + 1 : Nat) : Int) (shut done cur) [p, q] (by omega) (by omega) (by simp) (by rw [show [p, q] = [p] ++ [q] from rfl, la, eqp_iff]; simp) (by simp; omega)
          exact Ev.congr (fun k => by rw [if_pos rfl, hm, Option.bind_some, if_neg (fun h => hc (meets_iff.1 h))]; rfl) this
/-- The parts of a line. -/
def line (l : List S37) (b0 b1 b2 b3 : Int) : List (List S37) := if perm l b0 b1 b2 b3 = true then lineN b0 b1 b2 b3 (tidy l) ((tidy l).length - 1) 0 false [] [] else []
theorem line_ev (l : List S37) (b0 b1 b2 b3 : Int) (hl : l.length ≤ 68719476736) : Ev (fun k => clip_Line.f k l b0 b1 b2 b3) (line l b0 b1 b2 b3) := by
  have ht := tidy_length l
  refine Ev.bind (perm_ev l b0 b1 b2 b3 (by omega)) ?_
  rw [line]
  by_cases h : perm l b0 b1 b2 b3 = true
  · rw [if_pos h]
    refine Ev.congr (fun k => if_pos h) (Ev.bind (tidy_ev l (by omega)) ?_)
    exact go_ev b0 b1 b2 b3 (tidy l) ((tidy l).length - 1) 0 false (-1) [] [] (by omega) (by omega) (by omega) (by simp) (by simp; omega)
  · rw [if_neg h]; exact Ev.congr (fun k => if_neg h) (Ev.now _)
theorem ref_line_ev (l : List S37) (b0 b1 b2 b3 : Int) (hl : l.length ≤ 68719476736) : Ev (fun k => mapmakerref12_Line.f k l b0 b1 b2 b3) (line l b0 b1 b2 b3) := by
  have ht := tidy_length l
  rw [line, perm]
  by_cases hg : goodB b0 b1 b2 b3 = true
  · refine Ev.congr (f := fun k => (mapmakerref08_All.f k l).bind fun a => if a = true then (mapmakerref12_Tidy.f k l).bind fun t => mapmakerref12_Line.go b0 b1 b2 b3 k t 0 false [] [] else some []) (fun k => by rw [mapmakerref12_Line.f, ref_check_f, Option.bind_some, if_pos hg, if_pos rfl]) (Ev.bind (ref_all_ev l (by omega)) ?_)
    by_cases ha : l.all validP = true
    · rw [if_pos (by rw [ha, hg]; rfl)]
      refine Ev.congr (fun k => if_pos ha) (Ev.bind (ref_tidy_ev l (by omega)) ?_)
      exact ref_go_ev b0 b1 b2 b3 (tidy l) ((tidy l).length - 1) 0 false [] [] (by omega) (by simp) (by simp; omega)
    · have ha' : l.all validP = false := by simpa using ha
      rw [if_neg (by rw [ha']; simp)]
      exact Ev.congr (fun k => if_neg ha) (Ev.now _)
  · rw [if_neg (by simp [hg])]
    exact Ev.congr (fun k => by rw [mapmakerref12_Line.f, ref_check_f, Option.bind_some, if_neg hg, if_neg (by decide)]) (Ev.now _)
theorem lineN_length (b0 b1 b2 b3 : Int) (t : List S37) : ∀ (n i : Nat) (opn : Bool) (done : List (List S37)) (cur : List S37), (lineN b0 b1 b2 b3 t n i opn done cur).length ≤ done.length + n + 1
  | 0, i, opn, done, cur => by rw [lineN]; exact (shut_length done cur).2
  | n + 1, i, opn, done, cur => by
    have hs := (shut_length done cur).2
    have h1 := lineN_length b0 b1 b2 b3 t n (i + 1) false done cur
    rw [lineN]
    split
    · omega
    · rename_i p q _
      have h2 := lineN_length b0 b1 b2 b3 t n (i + 1) (eqp q (rd_T37 t ((i + 1 : Nat) : Int))) done (cur ++ [q])
      have h3 := lineN_length b0 b1 b2 b3 t n (i + 1) (eqp q (rd_T37 t ((i + 1 : Nat) : Int))) (shut done cur) [p, q]
      split
      · omega
      · omega
theorem shut_mem {done : List (List S37)} {cur x : List S37} (h : x ∈ shut done cur) : x ∈ done ∨ (x = cur ∧ cur ≠ []) := by
  rw [shut] at h
  split at h
  · exact .inl h
  · rename_i hc
    rcases List.mem_append.1 h with h | h
    · exact .inl h
    · exact .inr ⟨by simpa using h, by simpa using hc⟩
theorem lineN_part (b0 b1 b2 b3 : Int) (t : List S37) (M : Nat) : ∀ (n i : Nat) (opn : Bool) (done : List (List S37)) (cur : List S37), (∀ x ∈ done, x.length ≤ M) → cur.length + n ≤ M → n + 2 ≤ M → ∀ x ∈ lineN b0 b1 b2 b3 t n i opn done cur, x.length ≤ M
  | 0, i, opn, done, cur, hd, hc, hM => fun x hx => by
    rw [lineN] at hx
    rcases shut_mem hx with h | ⟨rfl, _⟩
    · exact hd x h
    · omega
  | n + 1, i, opn, done, cur, hd, hc, hM => by
    have hs : ∀ x ∈ shut done cur, x.length ≤ M := fun x hx => by
      rcases shut_mem hx with h | ⟨rfl, _⟩
      · exact hd x h
      · omega
    rw [lineN]
    split
    · exact lineN_part b0 b1 b2 b3 t M n _ _ _ _ hd (by omega) (by omega)
    · split
      · exact lineN_part b0 b1 b2 b3 t M n _ _ _ _ hd (by simp; omega) (by omega)
      · exact lineN_part b0 b1 b2 b3 t M n _ _ _ _ hs (by simp; omega) (by omega)
theorem line_length (l : List S37) (b0 b1 b2 b3 : Int) : (line l b0 b1 b2 b3).length ≤ l.length + 1 := by
  have ht := tidy_length l
  rw [line]
  split
  · have := lineN_length b0 b1 b2 b3 (tidy l) ((tidy l).length - 1) 0 false [] []
    simp at this
    omega
  · simp
theorem line_part (l : List S37) (b0 b1 b2 b3 : Int) : ∀ x ∈ line l b0 b1 b2 b3, x.length ≤ l.length + 2 := by
  have ht := tidy_length l
  rw [line]
  split
  · exact lineN_part b0 b1 b2 b3 (tidy l) (l.length + 2) ((tidy l).length - 1) 0 false [] [] (by simp) (by simp; omega) (by omega)
  · simp
end Go.Proofs.Ytbgabhdhheplgaa.Pl
