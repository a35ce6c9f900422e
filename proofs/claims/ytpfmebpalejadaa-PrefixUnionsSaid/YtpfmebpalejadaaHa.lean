import Derived.Test.YtpfmebpalejadaaProg
import Derived.Test.YtpfmebpalejadaaWSep
import Derived.Test.YtpfmebpalejadaaWSepB
import Derived.ArgAppend
import Derived.KernelRfl
import Derived.Tactics
import Derived.WalkKit
import Derived.Deep.QuietTactic
import Derived.BigQuiet
import Derived.Deep.RegionHeld3
import Derived.Deep.LoopGhost
import Derived.Deep.AppendLies
import Derived.Maps.AppendAt
import Derived.Deep.Slices
import Derived.Deep.DeepMust
import Derived.Test.YtpfmebpalejadaaPALLx
import Derived.Lib.SliceRun
section
namespace Go.Proofs.Ytpfmebpalejadaa.Hand
open Go.Proofs.YtpfmebpalejadaaW Go.RowKit Go.Proofs.YtpfmebpalejadaaW.PrintWords Go.Proofs.YtpfmebpalejadaaW.PrintLast Go.Proofs.YtpfmebpalejadaaW.PrintMore Go.Proofs.YtpfmebpalejadaaW.SepW
set_option linter.unusedVariables false
set_option linter.unusedSimpArgs false
/-- Cells of one place each, as they stand. -/
structure CellsAt (w : World) (A : Option Addr) (xs : List Value) : Prop where
  one : ∀ u ∈ xs, u.oneCell' = true
  at_ : 0 < xs.length → ∃ a, A = some a ∧ ∀ (j : Nat) u, xs[j]? = some u → w.cell? (a.add j) = some u
theorem CellsAt.nil (w : World) (A : Option Addr) : CellsAt w A [] := ⟨fun u hu => (by cases hu), fun h => absurd h (Nat.lt_irrefl 0)⟩
theorem CellsAt.step {w w1 : World} {A : Option Addr} {xs : List Value} (h : CellsAt w A xs) (hb : Below w.heap.size w w1) : CellsAt w1 A xs :=
  ⟨h.one, fun h0 => let ⟨a, h1, h2⟩ := h.at_ h0; ⟨a, h1, fun j u hu => pw_cell_below hb (h2 j u hu)⟩⟩
theorem CellsAt.take {w : World} {A : Option Addr} {xs : List Value} (h : CellsAt w A xs) (m : Nat) : CellsAt w A (xs.take m) :=
  ⟨fun u hu => h.one u (List.mem_of_mem_take hu), fun h0 => by
    have hm : 0 < m ∧ 0 < xs.length := by rw [List.length_take] at h0; omega
    obtain ⟨a, h1, h2⟩ := h.at_ hm.2
    exact ⟨a, h1, fun j u hu => h2 j u (by
      rw [List.getElem?_take] at hu
      split at hu
      · exact hu
      · cases hu)⟩⟩
theorem CellsAt.drop {w : World} {A : Option Addr} {xs : List Value} (h : CellsAt w A xs) (m : Nat) : CellsAt w (A.map (fun x => x.add m)) (xs.drop m) :=
  ⟨fun u hu => h.one u (List.mem_of_mem_drop hu), fun h0 => by
    obtain ⟨a', h1, h2⟩ := h.at_ (by rw [List.length_drop] at h0; omega)
    subst h1
    exact ⟨_, rfl, fun j u hu => by rw [Go.Deep.add_add]; exact h2 _ u (by rw [List.getElem?_drop] at hu; exact hu)⟩⟩
theorem CellsAt.own {w : World} {base n : Nat} {e : TypeId} {A : Option Addr} {c : Nat} {xs : List Value} (h : w.ownsRow base e 1 (.slice A n c) n xs) (h1 : ∀ u ∈ xs, u.oneCell' = true) : CellsAt w A xs := by
  refine ⟨h1, fun h0 => ?_⟩
  have hl : xs.length = n := by rw [h.1, Nat.mul_one]
  rcases h.2 with ⟨_, h2⟩ | ⟨g, cap, cur, hv, _, hg, _, _, hs, ht⟩
  · omega
  · injection hv with e1 e2 e3
    refine ⟨_, e1, fun j u hu => ?_⟩
    rw [← ht, List.getElem?_take] at hu
    split at hu
    · have := World.news_of_block hg j u (by simpa using hu)
      exact this
    · cases hu
section
variable {P : Program} {ops : Array Oper} {o : Oper} {a : Act} {K : Act → World → Prop} {Q : Exit → Act → World → Prop}
/-- append of one element to a full slice: a new row. -/
theorem step_grow {W : World} (hw : Region.wanted o (yielded ops a.tmps) = true) (s x : Operand) (t e : TypeId) (z : Value) (bytes : Nat)
    (ho : o.op = .call { callee := .builtin .append, args := #[s, x], argTypes := #[t, t] })
    (ht : P.underlying t = some (.slice e)) (hinfo : (P.info? e).map (fun i => (i.zero, i.size, i.bytes)) = some (some z, 1, bytes)) (hz : z.cells.size = 1) (hb0 : 0 < bytes)
    (A : Option Addr) (xs : List Value) (n : Nat) (hn : n = xs.length) (u : Value) (hs : a.eval s = .slice A n n) (hx : a.eval x = .slice (some ⟨W.heap.size, 0, none⟩) 1 1) (h1 : u.oneCell' = true)
    (HC : CellsAt W A xs) (hl : (n + 1) * bytes ≤ 140737488355328)
    (h : ∀ v1 w1, w1.ownsRow W.heap.size e 1 v1 (n + 1) (xs ++ [u]) → Below W.heap.size W w1 → K (a.put o.dst v1) w1) :
    if Region.wanted o (yielded ops a.tmps) = true then Oper.wp P o a (W.alloc (.cells #[u] e)) K Q else K (a.put o.dst undef) (W.alloc (.cells #[u] e)) := by
  obtain ⟨i0, hi, hzz⟩ := Option.map_eq_some_iff.1 hinfo
  simp only [Prod.mk.injEq] at hzz
  obtain ⟨hz0, hz1, hz2⟩ := hzz
  have hlen : n + 1 ≤ 140737488355328 := Nat.le_trans (Nat.le_mul_of_pos_right _ hb0) hl
  have HC' := HC.step (below_alloc (Below.refl _ _) (.cells #[u] e))
  have hnew : ∀ (j : Nat) v, [u][j]? = some v → (W.alloc (.cells #[u] e)).cell? ((⟨W.heap.size, 0, none⟩ : Addr).add j) = some v := cell_one_new W u e
  rw [if_pos hw]
  have hrun : ∃ v1 w1, (Builtin.append_ #[t, t] o.type #[.slice A n n, .slice (some ⟨W.heap.size, 0, none⟩) 1 1]).run P (W.alloc (.cells #[u] e)) = .ok v1 w1 ∧ w1.ownsRow (W.alloc (.cells #[u] e)).heap.size e 1 v1 (n + 1) (xs ++ [u]) ∧ (W.alloc (.cells #[u] e)).grownBy w1 none := by
    cases A with
    | some b =>
      refine run_append_arg_grows (P := P) (W.alloc (.cells #[u] e)) t o.type e i0 z 1 bytes ht hi hz0 hz1 hz2 hz (by decide) b n n xs (by omega) (fun j v hv => ?_) ⟨W.heap.size, 0, none⟩ 1 1 [u] rfl hnew (Nat.lt_succ_self _) (by simp only [maxLen]; omega) hl
      obtain ⟨a', h1, h2⟩ := HC'.at_ (by have := (List.getElem?_eq_some_iff.1 hv).1; omega)
      obtain rfl : b = a' := by injection h1
      exact h2 j v hv
    | none =>
      have h0 : n = 0 := by
        rcases Nat.eq_zero_or_pos n with h | h
        · exact h
        · obtain ⟨a', h1, _⟩ := HC'.at_ (by omega)
          cases h1
      subst h0
      obtain rfl : xs = [] := List.eq_nil_of_length_eq_zero hn.symm
      obtain ⟨v', w', hrun, r1, r2, _⟩ := run_append_own (P := P) (W.alloc (.cells #[u] e)) (W.alloc (.cells #[u] e)).heap.size t o.type e i0 z 1 bytes ht hi hz0 hz1 hz2 hz (by decide) (.slice none 0 0) 0 [] (World.ownsRow_nil _ _ e 1) ⟨W.heap.size, 0, none⟩ 1 1 [u] rfl hnew (fun v hv => by obtain rfl := List.mem_singleton.1 hv; exact h1) (by simp only [maxLen]; omega) hl (Nat.le_refl _)
      exact ⟨v', w', hrun, r1, r2⟩
  obtain ⟨v1, w1, hr, hown, hg⟩ := hrun
  unfold Oper.wp execOp
  simp only [ho, resolve, invoke, builtin, Sem.run_bind, Sem.run_pure, Result.andThen_ok, List.map_toArray, List.map_cons, List.map_nil, hs, hx, hr]
  refine h v1 w1 (own_weaken hown (by simp)) ?_
  exact (below_alloc (Below.refl W.heap.size W) (.cells #[u] e)).grown hg (by simp) (fun k hk => by cases hk)
/-- append of cells to a row of one's own. -/
theorem step_more {w0 W : World} (base : Nat) (hw : Region.wanted o (yielded ops a.tmps) = true) (s x : Operand) (t e : TypeId) (z : Value) (bytes : Nat)
    (ho : o.op = .call { callee := .builtin .append, args := #[s, x], argTypes := #[t, t] })
    (ht : P.underlying t = some (.slice e)) (hinfo : (P.info? e).map (fun i => (i.zero, i.size, i.bytes)) = some (some z, 1, bytes)) (hz : z.cells.size = 1) (hb0 : 0 < bytes)
    (v : Value) (n : Nat) (xs ys : List Value) (A : Option Addr) (m c : Nat) (hm : m = ys.length) (hs : a.eval s = v) (hx : a.eval x = .slice A m c)
    (HO : W.ownsRow base e 1 v n xs) (HC : CellsAt W A ys) (HB : Below base w0 W) (hbase : base ≤ W.heap.size) (hl : (n + m) * bytes ≤ 140737488355328)
    (h : ∀ v1 w1, w1.ownsRow base e 1 v1 (n + m) (xs ++ ys) → Below base w0 w1 → K (a.put o.dst v1) w1) :
    if Region.wanted o (yielded ops a.tmps) = true then Oper.wp P o a W K Q else K (a.put o.dst undef) W := by
  obtain ⟨i0, hi, hzz⟩ := Option.map_eq_some_iff.1 hinfo
  simp only [Prod.mk.injEq] at hzz
  obtain ⟨hz0, hz1, hz2⟩ := hzz
  have hlen : n + m ≤ 140737488355328 := Nat.le_trans (Nat.le_mul_of_pos_right _ hb0) hl
  rw [if_pos hw]
  have hrun : ∃ v1 w1, (Builtin.append_ #[t, t] o.type #[v, .slice A m c]).run P W = .ok v1 w1 ∧ w1.ownsRow base e 1 v1 (n + m) (xs ++ ys) ∧ W.grownBy w1 v.ownBlock := by
    rcases A with _ | ad
    · have h0 : m = 0 := by
        rcases Nat.eq_zero_or_pos m with h0 | h0
        · exact h0
        · obtain ⟨ad, h, _⟩ := HC.at_ (by omega)
          cases h
      subst h0
      obtain rfl : ys = [] := List.eq_nil_of_length_eq_zero hm.symm
      refine ⟨v, W, ?_, by rw [List.append_nil]; exact HO, World.grownBy.refl W _⟩
      rcases HO.2 with ⟨rfl, hn⟩ | ⟨g, cap, cur, rfl, _, _, hnc, _⟩
      · simp [Builtin.append_, run_underlying ht, sizeOf, typeInfo, hi, Builtin.lenOf, Builtin.firstCells]
      · simp [Builtin.append_, run_underlying ht, sizeOf, typeInfo, hi, Builtin.lenOf, Builtin.firstCells, hnc, storeCells]
    · obtain ⟨v1, w1, hrun, h2, hg, _, hat⟩ := run_append_own_at (P := P) W base t o.type e i0 z 1 bytes ht hi hz0 hz1 hz2 hz (by decide) v n xs HO ad m c ys (by omega) (fun j u hu => by
        obtain ⟨a', h1, h2⟩ := HC.at_ (by have := (List.getElem?_eq_some_iff.1 hu).1; omega)
        obtain rfl : ad = a' := by injection h1
        exact h2 j u hu) HC.one (by simp only [maxLen]; omega) hl hbase
      exact ⟨v1, w1, hrun, h2, hg⟩
  obtain ⟨v1, w1, hr, hown, hg⟩ := hrun
  unfold Oper.wp execOp
  simp only [ho, resolve, invoke, builtin, Sem.run_bind, Sem.run_pure, Result.andThen_ok, List.map_toArray, List.map_cons, List.map_nil, hs, hx, hr]
  exact h v1 w1 hown (HB.grown hg hbase (own_base HO))
end
theorem info9 : (Try.prog.info? 9).map (fun i => (i.zero, i.size, i.bytes)) = some (some (.string ByteArray.empty), 1, 16) := by kernel_rfl
theorem info43 : (Try.prog.info? 43).map (fun i => (i.zero, i.size, i.bytes)) = some (some (.slice none 0 0), 1, 24) := by kernel_rfl
theorem info3 : (Try.prog.info? 3).map (fun i => (i.zero, i.size, i.bytes)) = some (some (.int .i64 0), 1, 8) := by kernel_rfl
theorem info33 : (Try.prog.info? 33).map (fun i => (i.zero, i.size, i.bytes)) = some (some (.slice none 0 0), 1, 24) := by kernel_rfl
end Go.Proofs.Ytpfmebpalejadaa.Hand
end
section
namespace Go.Proofs.Ytpfmebpalejadaa.Hand
open Go.Proofs.YtpfmebpalejadaaW Go.RowKit Go.Proofs.YtpfmebpalejadaaW.PrintWords Go.Proofs.YtpfmebpalejadaaW.PrintLast Go.Proofs.YtpfmebpalejadaaW.PrintMore Go.Proofs.YtpfmebpalejadaaW.SepW
set_option linter.unusedVariables false
set_option linter.unusedSimpArgs false
set_option maxHeartbeats 4000000 in
set_option maxRecDepth 100000 in
theorem insert_str_full (A : Option Addr) (c : Nat) (xs : List Value) (at_ : Nat) (s : ByteArray) (w : World) (h : CellsAt w A xs) (hc : xs.length ≤ c) (hat : at_ ≤ xs.length) (hl : xs.length ≤ 1000000) (hceq : c = at_) :
    Calls Try.prog 39 #[.slice A xs.length c, .int .i64 at_, .string s] w fun e w' => ∃ v, e = .returned v ∧ w'.ownsRow w.heap.size 9 1 v (xs.length + 1) (xs.take at_ ++ [.string s] ++ xs.drop at_) ∧ Below w.heap.size w w' := by
  have HC := Aside0.mk h
  have hu := Try.underlying33
  have d0 : decide ((0 : Int) ≤ (at_ : Int)) = true := decide_eq_true (by omega)
  have d1 : (at_ : Int) ≤ (c : Int) := by omega
  have d2 : (at_ : Int) ≤ (xs.length : Int) := by omega
  have d3 : (0 : Int) ≤ (at_ : Int) := by omega
  have d4 : at_ ≤ c := by omega
  have d5 : at_ ≤ xs.length := hat
  have HL := Aside0.mk hl
  have HAT := Aside0.mk hat
  clear h hl
  go_enter Try.func39, Try.ntmps39
  go_upto_region 1 with (first | fail)
  go_region_law (first | (refine step_grow (by rfl) (.tmp 10) (.tmp 12) 33 9 (.string ByteArray.empty) 16 rfl hu info9 rfl (by decide) A (xs.take at_) at_ (by rw [List.length_take]; omega) (.string s) rfl rfl rfl ((HC.out.step (below_drew (Below.refl _ _))).take at_) (by have := HL.out; omega) ?_; intro v13 w13 ho_ hb_; have HO13 : Aside0 (w13.ownsRow w.heap.size 9 1 v13 (at_ + 1) (xs.take at_ ++ [.string s])) := ⟨ho_⟩; have HB13 := Aside0.mk (below_step (below_drew (Below.refl w.heap.size w)) hb_); clear ho_ hb_) | (refine step_more (w0 := w) w.heap.size (by rfl) (.tmp 13) (.tmp 16) 33 9 (.string ByteArray.empty) 16 rfl hu info9 rfl (by decide) v13 (at_ + 1) (xs.take at_ ++ [.string s]) (xs.drop at_) A (xs.length - at_) 0 (by rw [List.length_drop]) rfl rfl HO13.out (by rw [List.drop_eq_nil_of_le (by have := HAT.out; omega)]; exact CellsAt.nil _ _) HB13.out (below_size HB13.out) (by have := HL.out; omega) ?_; intro v17 w17 ho_ hb_; have HO17 := Aside0.mk ho_; have HB17 := Aside0.mk hb_; clear ho_ hb_))
  go_wp2_with fail
  go_ret
  refine ⟨_, rfl, ?_, HB17.out⟩
  have h17 := HO17.out
  rw [show at_ + 1 + (xs.length - at_) = xs.length + 1 by have := HAT.out; omega] at h17
  exact h17
set_option maxHeartbeats 4000000 in
set_option maxRecDepth 100000 in
theorem insert_str_part (A : Option Addr) (c : Nat) (xs : List Value) (at_ : Nat) (s : ByteArray) (w : World) (h : CellsAt w A xs) (hc : xs.length ≤ c) (hat : at_ ≤ xs.length) (hl : xs.length ≤ 1000000) (hcne : c ≠ at_) :
    Calls Try.prog 39 #[.slice A xs.length c, .int .i64 at_, .string s] w fun e w' => ∃ v, e = .returned v ∧ w'.ownsRow w.heap.size 9 1 v (xs.length + 1) (xs.take at_ ++ [.string s] ++ xs.drop at_) ∧ Below w.heap.size w w' := by
  have HC := Aside0.mk h
  have hu := Try.underlying33
  have d0 : decide ((0 : Int) ≤ (at_ : Int)) = true := decide_eq_true (by omega)
  have d1 : (at_ : Int) ≤ (c : Int) := by omega
  have d2 : (at_ : Int) ≤ (xs.length : Int) := by omega
  have d3 : (0 : Int) ≤ (at_ : Int) := by omega
  have d4 : at_ ≤ c := by omega
  have d5 : at_ ≤ xs.length := hat
  have HL := Aside0.mk hl
  have HAT := Aside0.mk hat
  clear h hl
  go_enter Try.func39, Try.ntmps39
  go_upto_region 1 with (first | fail)
  go_region_law (first | (refine step_grow (by rfl) (.tmp 10) (.tmp 12) 33 9 (.string ByteArray.empty) 16 rfl hu info9 rfl (by decide) A (xs.take at_) at_ (by rw [List.length_take]; omega) (.string s) rfl rfl rfl ((HC.out.step (below_drew (Below.refl _ _))).take at_) (by have := HL.out; omega) ?_; intro v13 w13 ho_ hb_; have HO13 : Aside0 (w13.ownsRow w.heap.size 9 1 v13 (at_ + 1) (xs.take at_ ++ [.string s])) := ⟨ho_⟩; have HB13 := Aside0.mk (below_step (below_drew (Below.refl w.heap.size w)) hb_); clear ho_ hb_) | (refine step_more (w0 := w) w.heap.size (by rfl) (.tmp 13) (.tmp 16) 33 9 (.string ByteArray.empty) 16 rfl hu info9 rfl (by decide) v13 (at_ + 1) (xs.take at_ ++ [.string s]) (xs.drop at_) (Option.map (fun x => x.add at_) A) (xs.length - at_) (c - at_) (by rw [List.length_drop]) rfl rfl HO13.out ((HC.out.step HB13.out).drop at_) HB13.out (below_size HB13.out) (by have := HL.out; omega) ?_; intro v17 w17 ho_ hb_; have HO17 := Aside0.mk ho_; have HB17 := Aside0.mk hb_; clear ho_ hb_))
  go_wp2_with fail
  go_ret
  refine ⟨_, rfl, ?_, HB17.out⟩
  have h17 := HO17.out
  rw [show at_ + 1 + (xs.length - at_) = xs.length + 1 by have := HAT.out; omega] at h17
  exact h17
set_option maxHeartbeats 4000000 in
set_option maxRecDepth 100000 in
theorem insert_row_full (A : Option Addr) (c : Nat) (xs : List Value) (at_ : Nat)  (w : World) (h : CellsAt w A xs) (hc : xs.length ≤ c) (hat : at_ ≤ xs.length) (hl : xs.length ≤ 1000000) (hceq : c = at_) :
    Calls Try.prog 40 #[.slice A xs.length c, .int .i64 at_, .slice none 0 0] w fun e w' => ∃ v, e = .returned v ∧ w'.ownsRow w.heap.size 43 1 v (xs.length + 1) (xs.take at_ ++ [.slice none 0 0] ++ xs.drop at_) ∧ Below w.heap.size w w' := by
  have HC := Aside0.mk h
  have hu := Try.underlying54
  have d0 : decide ((0 : Int) ≤ (at_ : Int)) = true := decide_eq_true (by omega)
  have d1 : (at_ : Int) ≤ (c : Int) := by omega
  have d2 : (at_ : Int) ≤ (xs.length : Int) := by omega
  have d3 : (0 : Int) ≤ (at_ : Int) := by omega
  have d4 : at_ ≤ c := by omega
  have d5 : at_ ≤ xs.length := hat
  have HL := Aside0.mk hl
  have HAT := Aside0.mk hat
  clear h hl
  go_enter Try.func40, Try.ntmps40
  go_upto_region 1 with (first | fail)
  go_region_law (first | (refine step_grow (by rfl) (.tmp 10) (.tmp 12) 54 43 (.slice none 0 0) 24 rfl hu info43 rfl (by decide) A (xs.take at_) at_ (by rw [List.length_take]; omega) (.slice none 0 0) rfl rfl rfl ((HC.out.step (below_drew (Below.refl _ _))).take at_) (by have := HL.out; omega) ?_; intro v13 w13 ho_ hb_; have HO13 : Aside0 (w13.ownsRow w.heap.size 43 1 v13 (at_ + 1) (xs.take at_ ++ [.slice none 0 0])) := ⟨ho_⟩; have HB13 := Aside0.mk (below_step (below_drew (Below.refl w.heap.size w)) hb_); clear ho_ hb_) | (refine step_more (w0 := w) w.heap.size (by rfl) (.tmp 13) (.tmp 16) 54 43 (.slice none 0 0) 24 rfl hu info43 rfl (by decide) v13 (at_ + 1) (xs.take at_ ++ [.slice none 0 0]) (xs.drop at_) A (xs.length - at_) 0 (by rw [List.length_drop]) rfl rfl HO13.out (by rw [List.drop_eq_nil_of_le (by have := HAT.out; omega)]; exact CellsAt.nil _ _) HB13.out (below_size HB13.out) (by have := HL.out; omega) ?_; intro v17 w17 ho_ hb_; have HO17 := Aside0.mk ho_; have HB17 := Aside0.mk hb_; clear ho_ hb_))
  go_wp2_with fail
  go_ret
  refine ⟨_, rfl, ?_, HB17.out⟩
  have h17 := HO17.out
  rw [show at_ + 1 + (xs.length - at_) = xs.length + 1 by have := HAT.out; omega] at h17
  exact h17
set_option maxHeartbeats 4000000 in
set_option maxRecDepth 100000 in
theorem insert_row_part (A : Option Addr) (c : Nat) (xs : List Value) (at_ : Nat)  (w : World) (h : CellsAt w A xs) (hc : xs.length ≤ c) (hat : at_ ≤ xs.length) (hl : xs.length ≤ 1000000) (hcne : c ≠ at_) :
    Calls Try.prog 40 #[.slice A xs.length c, .int .i64 at_, .slice none 0 0] w fun e w' => ∃ v, e = .returned v ∧ w'.ownsRow w.heap.size 43 1 v (xs.length + 1) (xs.take at_ ++ [.slice none 0 0] ++ xs.drop at_) ∧ Below w.heap.size w w' := by
  have HC := Aside0.mk h
  have hu := Try.underlying54
  have d0 : decide ((0 : Int) ≤ (at_ : Int)) = true := decide_eq_true (by omega)
  have d1 : (at_ : Int) ≤ (c : Int) := by omega
  have d2 : (at_ : Int) ≤ (xs.length : Int) := by omega
  have d3 : (0 : Int) ≤ (at_ : Int) := by omega
  have d4 : at_ ≤ c := by omega
  have d5 : at_ ≤ xs.length := hat
  have HL := Aside0.mk hl
  have HAT := Aside0.mk hat
  clear h hl
  go_enter Try.func40, Try.ntmps40
  go_upto_region 1 with (first | fail)
  go_region_law (first | (refine step_grow (by rfl) (.tmp 10) (.tmp 12) 54 43 (.slice none 0 0) 24 rfl hu info43 rfl (by decide) A (xs.take at_) at_ (by rw [List.length_take]; omega) (.slice none 0 0) rfl rfl rfl ((HC.out.step (below_drew (Below.refl _ _))).take at_) (by have := HL.out; omega) ?_; intro v13 w13 ho_ hb_; have HO13 : Aside0 (w13.ownsRow w.heap.size 43 1 v13 (at_ + 1) (xs.take at_ ++ [.slice none 0 0])) := ⟨ho_⟩; have HB13 := Aside0.mk (below_step (below_drew (Below.refl w.heap.size w)) hb_); clear ho_ hb_) | (refine step_more (w0 := w) w.heap.size (by rfl) (.tmp 13) (.tmp 16) 54 43 (.slice none 0 0) 24 rfl hu info43 rfl (by decide) v13 (at_ + 1) (xs.take at_ ++ [.slice none 0 0]) (xs.drop at_) (Option.map (fun x => x.add at_) A) (xs.length - at_) (c - at_) (by rw [List.length_drop]) rfl rfl HO13.out ((HC.out.step HB13.out).drop at_) HB13.out (below_size HB13.out) (by have := HL.out; omega) ?_; intro v17 w17 ho_ hb_; have HO17 := Aside0.mk ho_; have HB17 := Aside0.mk hb_; clear ho_ hb_))
  go_wp2_with fail
  go_ret
  refine ⟨_, rfl, ?_, HB17.out⟩
  have h17 := HO17.out
  rw [show at_ + 1 + (xs.length - at_) = xs.length + 1 by have := HAT.out; omega] at h17
  exact h17
set_option maxHeartbeats 4000000 in
set_option maxRecDepth 100000 in
theorem insert_int_full (A : Option Addr) (c : Nat) (xs : List Value) (at_ : Nat) (k : Int) (w : World) (h : CellsAt w A xs) (hc : xs.length ≤ c) (hat : at_ ≤ xs.length) (hl : xs.length ≤ 1000000) (hceq : c = at_) :
    Calls Try.prog 41 #[.slice A xs.length c, .int .i64 at_, .int .i64 k] w fun e w' => ∃ v, e = .returned v ∧ w'.ownsRow w.heap.size 3 1 v (xs.length + 1) (xs.take at_ ++ [.int .i64 k] ++ xs.drop at_) ∧ Below w.heap.size w w' := by
  have HC := Aside0.mk h
  have hu := Try.underlying43
  have d0 : decide ((0 : Int) ≤ (at_ : Int)) = true := decide_eq_true (by omega)
  have d1 : (at_ : Int) ≤ (c : Int) := by omega
  have d2 : (at_ : Int) ≤ (xs.length : Int) := by omega
  have d3 : (0 : Int) ≤ (at_ : Int) := by omega
  have d4 : at_ ≤ c := by omega
  have d5 : at_ ≤ xs.length := hat
  have HL := Aside0.mk hl
  have HAT := Aside0.mk hat
  clear h hl
  go_enter Try.func41, Try.ntmps41
  go_upto_region 1 with (first | fail)
  go_region_law (first | (refine step_grow (by rfl) (.tmp 10) (.tmp 12) 43 3 (.int .i64 0) 8 rfl hu info3 rfl (by decide) A (xs.take at_) at_ (by rw [List.length_take]; omega) (.int .i64 k) rfl rfl rfl ((HC.out.step (below_drew (Below.refl _ _))).take at_) (by have := HL.out; omega) ?_; intro v13 w13 ho_ hb_; have HO13 : Aside0 (w13.ownsRow w.heap.size 3 1 v13 (at_ + 1) (xs.take at_ ++ [.int .i64 k])) := ⟨ho_⟩; have HB13 := Aside0.mk (below_step (below_drew (Below.refl w.heap.size w)) hb_); clear ho_ hb_) | (refine step_more (w0 := w) w.heap.size (by rfl) (.tmp 13) (.tmp 16) 43 3 (.int .i64 0) 8 rfl hu info3 rfl (by decide) v13 (at_ + 1) (xs.take at_ ++ [.int .i64 k]) (xs.drop at_) A (xs.length - at_) 0 (by rw [List.length_drop]) rfl rfl HO13.out (by rw [List.drop_eq_nil_of_le (by have := HAT.out; omega)]; exact CellsAt.nil _ _) HB13.out (below_size HB13.out) (by have := HL.out; omega) ?_; intro v17 w17 ho_ hb_; have HO17 := Aside0.mk ho_; have HB17 := Aside0.mk hb_; clear ho_ hb_))
  go_wp2_with fail
  go_ret
  refine ⟨_, rfl, ?_, HB17.out⟩
  have h17 := HO17.out
  rw [show at_ + 1 + (xs.length - at_) = xs.length + 1 by have := HAT.out; omega] at h17
  exact h17
set_option maxHeartbeats 4000000 in
set_option maxRecDepth 100000 in
theorem insert_int_part (A : Option Addr) (c : Nat) (xs : List Value) (at_ : Nat) (k : Int) (w : World) (h : CellsAt w A xs) (hc : xs.length ≤ c) (hat : at_ ≤ xs.length) (hl : xs.length ≤ 1000000) (hcne : c ≠ at_) :
    Calls Try.prog 41 #[.slice A xs.length c, .int .i64 at_, .int .i64 k] w fun e w' => ∃ v, e = .returned v ∧ w'.ownsRow w.heap.size 3 1 v (xs.length + 1) (xs.take at_ ++ [.int .i64 k] ++ xs.drop at_) ∧ Below w.heap.size w w' := by
  have HC := Aside0.mk h
  have hu := Try.underlying43
  have d0 : decide ((0 : Int) ≤ (at_ : Int)) = true := decide_eq_true (by omega)
  have d1 : (at_ : Int) ≤ (c : Int) := by omega
  have d2 : (at_ : Int) ≤ (xs.length : Int) := by omega
  have d3 : (0 : Int) ≤ (at_ : Int) := by omega
  have d4 : at_ ≤ c := by omega
  have d5 : at_ ≤ xs.length := hat
  have HL := Aside0.mk hl
  have HAT := Aside0.mk hat
  clear h hl
  go_enter Try.func41, Try.ntmps41
  go_upto_region 1 with (first | fail)
  go_region_law (first | (refine step_grow (by rfl) (.tmp 10) (.tmp 12) 43 3 (.int .i64 0) 8 rfl hu info3 rfl (by decide) A (xs.take at_) at_ (by rw [List.length_take]; omega) (.int .i64 k) rfl rfl rfl ((HC.out.step (below_drew (Below.refl _ _))).take at_) (by have := HL.out; omega) ?_; intro v13 w13 ho_ hb_; have HO13 : Aside0 (w13.ownsRow w.heap.size 3 1 v13 (at_ + 1) (xs.take at_ ++ [.int .i64 k])) := ⟨ho_⟩; have HB13 := Aside0.mk (below_step (below_drew (Below.refl w.heap.size w)) hb_); clear ho_ hb_) | (refine step_more (w0 := w) w.heap.size (by rfl) (.tmp 13) (.tmp 16) 43 3 (.int .i64 0) 8 rfl hu info3 rfl (by decide) v13 (at_ + 1) (xs.take at_ ++ [.int .i64 k]) (xs.drop at_) (Option.map (fun x => x.add at_) A) (xs.length - at_) (c - at_) (by rw [List.length_drop]) rfl rfl HO13.out ((HC.out.step HB13.out).drop at_) HB13.out (below_size HB13.out) (by have := HL.out; omega) ?_; intro v17 w17 ho_ hb_; have HO17 := Aside0.mk ho_; have HB17 := Aside0.mk hb_; clear ho_ hb_))
  go_wp2_with fail
  go_ret
  refine ⟨_, rfl, ?_, HB17.out⟩
  have h17 := HO17.out
  rw [show at_ + 1 + (xs.length - at_) = xs.length + 1 by have := HAT.out; omega] at h17
  exact h17
end Go.Proofs.Ytpfmebpalejadaa.Hand
end
section
namespace Go.Proofs.Ytpfmebpalejadaa.Hand
open Go.Proofs.YtpfmebpalejadaaW Go.RowKit Go.Proofs.YtpfmebpalejadaaW.PrintWords Go.Proofs.YtpfmebpalejadaaW.PrintLast Go.Proofs.YtpfmebpalejadaaW.PrintMore Go.Proofs.YtpfmebpalejadaaW.SepW
set_option linter.unusedVariables false
set_option linter.unusedSimpArgs false
/-- A row that nobody writes any more: how it lies, and its block (if it has an element). -/
def FRow (w : World) (ok : Nat → Prop) (v : Value) (xs : List Value) : Prop :=
  ∃ A c, v = .slice A xs.length c ∧ xs.length ≤ c ∧ CellsAt w A xs ∧ (∀ a, 0 < xs.length → A = some a → ok a.block)
theorem add_block (a : Addr) (j : Nat) : (a.add j).block = a.block := by unfold Addr.add; split <;> rfl
theorem FRow.mono {w : World} {ok ok' : Nat → Prop} {v : Value} {xs : List Value} (h : FRow w ok v xs) (hk : ∀ k, ok k → ok' k) : FRow w ok' v xs :=
  let ⟨A, c, h1, h2, h3, h4⟩ := h; ⟨A, c, h1, h2, h3, fun a h0 ha => hk _ (h4 a h0 ha)⟩
theorem FRow.bound {w : World} {ok : Nat → Prop} {v : Value} {xs : List Value} (h : FRow w ok v xs) : FRow w (fun k => ok k ∧ k < w.heap.size) v xs := by
  obtain ⟨A, c, h1, h2, h3, h4⟩ := h
  refine ⟨A, c, h1, h2, h3, fun a h0 ha => ⟨h4 a h0 ha, ?_⟩⟩
  obtain ⟨a', e, hc⟩ := h3.at_ h0
  obtain rfl : a = a' := by rw [ha] at e; injection e
  have := World.block_lt_of_cell? w _ (hc 0 xs[0] (List.getElem?_eq_getElem h0))
  rwa [add_block] at this
theorem FRow.move {w w1 : World} {ok : Nat → Prop} {v : Value} {xs : List Value} (h : FRow w ok v xs) (hm : ∀ k, ok k → w1.heap[k]? = w.heap[k]?) : FRow w1 ok v xs := by
  obtain ⟨A, c, h1, h2, h3, h4⟩ := h
  refine ⟨A, c, h1, h2, ⟨h3.one, fun h0 => ?_⟩, h4⟩
  obtain ⟨a, e, hc⟩ := h3.at_ h0
  refine ⟨a, e, fun j u hu => ?_⟩
  have hb : (a.add j).block = a.block := add_block a j
  rw [World.cell?_of_block (w := w) (w' := w1) (by rw [hb]; exact hm _ (h4 a h0 e))]
  exact hc j u hu
theorem FRow.nil (w : World) (ok : Nat → Prop) : FRow w ok (.slice none 0 0) [] := ⟨none, 0, rfl, Nat.le_refl _, CellsAt.nil _ _, fun a h0 => absurd h0 (Nat.lt_irrefl 0)⟩
theorem FRow.empty (w : World) (ok : Nat → Prop) (A : Option Addr) (c : Nat) : FRow w ok (.slice A 0 c) [] := ⟨A, c, rfl, Nat.zero_le _, CellsAt.nil _ _, fun a h0 => absurd h0 (Nat.lt_irrefl 0)⟩
/-- l[:m:m]. -/
theorem FRow.take {w : World} {ok : Nat → Prop} {A : Option Addr} {n c : Nat} {xs : List Value} (h : FRow w ok (.slice A n c) xs) (m : Nat) (hm : m ≤ xs.length) : FRow w ok (.slice A m m) (xs.take m) := by
  obtain ⟨A', c', h1, h2, h3, h4⟩ := h
  injection h1 with e1 e2 e3
  subst e1
  refine ⟨A, m, by rw [List.length_take, Nat.min_eq_left hm], by rw [List.length_take]; exact Nat.min_le_left _ _, h3.take m, fun a h0 ha => h4 a (by rw [List.length_take] at h0; omega) ha⟩
theorem FRow.own {w : World} {base base' n : Nat} {e : TypeId} {v : Value} {xs : List Value} (h : w.ownsRow base e 1 v n xs) (h1 : ∀ u ∈ xs, u.oneCell' = true) : FRow w (fun k => base ≤ k) v xs := by
  obtain ⟨A, c, rfl⟩ := own_slice h
  have hl : xs.length = n := by rw [h.1, Nat.mul_one]
  subst hl
  refine ⟨A, c, rfl, ?_, CellsAt.own h h1, fun a h0 ha => ?_⟩
  · rcases h.2 with ⟨h2, h3⟩ | ⟨g, cap, cur, hv, _, _, hnc, _⟩
    · injection h2 with _ e2 e3
      omega
    · injection hv with _ _ e3
      omega
  · rcases h.2 with ⟨h2, h3⟩ | ⟨g, cap, cur, hv, hg, _⟩
    · omega
    · injection hv with e1 _ _
      rw [ha] at e1
      injection e1 with e1
      subst e1
      exact hg
theorem FRow.slice {w : World} {ok : Nat → Prop} {v : Value} {xs : List Value} (h : FRow w ok v xs) : ∃ A c, v = .slice A xs.length c ∧ xs.length ≤ c ∧ CellsAt w A xs :=
  let ⟨A, c, h1, h2, h3, _⟩ := h; ⟨A, c, h1, h2, h3⟩
/-- Cells of one place each, read as a row of strings or of integers. -/
theorem CellsAt.reads {α : Type} {w : World} {A : Option Addr} {l : List α} (f : α → Value) (d : Kd α) (hd : d.sz = 1) (hk : ∀ w x, d.K w x [f x]) (h : CellsAt w A (l.map f)) (hl : l.length ≤ 9223372036854775807) : d.C w A l.length l := by
  refine ⟨rfl, hl, fun h0 => ?_⟩
  obtain ⟨a, e, hc⟩ := h.at_ (by rw [List.length_map]; exact h0)
  refine ⟨a, e, fun j p hp => ⟨[f p], by rw [hd]; rfl, hk _ _, fun i u hu => ?_⟩⟩
  obtain rfl : i = 0 := by have := (List.getElem?_eq_some_iff.1 hu).1; simp at this; omega
  obtain rfl : f p = u := by simpa using hu
  rw [hd, Nat.mul_one, Nat.add_zero]
  exact hc j _ (by rw [List.getElem?_map, hp]; rfl)
theorem CellsAt.strs {w : World} {A : Option Addr} {l : List ByteArray} (h : CellsAt w A (pw_strs l)) (hl : l.length ≤ 9223372036854775807) : Kd.C Kd.string w A l.length l :=
  CellsAt.reads Value.string Kd.string rfl (fun _ _ => rfl) h hl
theorem CellsAt.ints {w : World} {A : Option Addr} {l : List Int} (h : CellsAt w A (nums .i64 l)) (hl : l.length ≤ 9223372036854775807) : Kd.C (Kd.int .i64) w A l.length l :=
  CellsAt.reads (Value.int .i64) (Kd.int .i64) rfl (fun _ _ => rfl) h hl
theorem strs_one (l : List ByteArray) : ∀ u ∈ pw_strs l, u.oneCell' = true := by
  intro u hu
  obtain ⟨s, _, rfl⟩ := List.mem_map.1 hu
  rfl
theorem nums_one (l : List Int) : ∀ u ∈ nums .i64 l, u.oneCell' = true := by
  intro u hu
  obtain ⟨s, _, rfl⟩ := List.mem_map.1 hu
  rfl

/-! The things. -/
/-- A frozen row. -/
def Fz (base : Nat) (v : Value) (xs : List Value) : Thing base where
  P := fun w ok => FRow w (fun k => ok k ∧ base ≤ k) v xs
  mono := fun h hp => FRow.mono hp (fun k hk => ⟨h k hk.1, hk.2⟩)
  bound := fun h => FRow.mono (FRow.bound h) (fun k hk => ⟨⟨hk.1.1, hk.1.2, hk.2⟩, hk.1.2⟩)
  move := fun h hp => FRow.move hp (fun k hk => h k hk.1)
/-- Frozen rows, by their headers. -/
def FzN (base : Nat) (vs : List Value) (xss : List (List Value)) : Thing base where
  P := fun w ok => vs.length = xss.length ∧ ∀ (i : Nat) v xs, vs[i]? = some v → xss[i]? = some xs → FRow w (fun k => ok k ∧ base ≤ k) v xs
  mono := fun h hp => ⟨hp.1, fun i v xs h1 h2 => FRow.mono (hp.2 i v xs h1 h2) (fun k hk => ⟨h k hk.1, hk.2⟩)⟩
  bound := fun hp => ⟨hp.1, fun i v xs h1 h2 => FRow.mono (FRow.bound (hp.2 i v xs h1 h2)) (fun k hk => ⟨⟨hk.1.1, hk.1.2, hk.2⟩, hk.1.2⟩)⟩
  move := fun h hp => ⟨hp.1, fun i v xs h1 h2 => FRow.move (hp.2 i v xs h1 h2) (fun k hk => h k hk.1)⟩
/-- A row of headers in a block of the call's own, written in place; the block may hold more. -/
def Hd (base : Nat) (e : Nat) (v : Value) (vs : List Value) : Thing base where
  P := fun w ok => (∀ u ∈ vs, u.oneCell' = true) ∧ ∃ A c, v = .slice A vs.length c ∧ vs.length ≤ c ∧ (0 < vs.length → ∃ g cur, A = some ⟨g, 0, none⟩ ∧ ok g ∧ base ≤ g ∧ w.heap[g]? = some (.cells cur e (0, 0)) ∧ cur.toList.take vs.length = vs)
  mono := fun h ⟨h0, A, c, h1, h2, h3⟩ => ⟨h0, A, c, h1, h2, fun hp => let ⟨g, cur, k1, k2, k3⟩ := h3 hp; ⟨g, cur, k1, h _ k2, k3⟩⟩
  bound := fun ⟨h0, A, c, h1, h2, h3⟩ => ⟨h0, A, c, h1, h2, fun hp => let ⟨g, cur, k1, k2, k3, k4, k5⟩ := h3 hp; ⟨g, cur, k1, ⟨k2, k3, blk_lt k4⟩, k3, k4, k5⟩⟩
  move := fun h ⟨h0, A, c, h1, h2, h3⟩ => ⟨h0, A, c, h1, h2, fun hp => let ⟨g, cur, k1, k2, k3, k4, k5⟩ := h3 hp; ⟨g, cur, k1, k2, k3, (h _ k2).trans k4, k5⟩⟩
/-- What a call may have turned of what was there: the blocks of ok. -/
structure Upd (w w' : World) (ok : Nat → Prop) : Prop where
  os : w'.os = w.os
  tape : w'.tape = w.tape
  output : w'.output = w.output
  size : w.heap.size ≤ w'.heap.size
  block : ∀ k, k < w.heap.size → ¬ ok k → w'.heap[k]? = w.heap[k]?
theorem Upd.refl (w : World) (ok : Nat → Prop) : Upd w w ok := ⟨rfl, rfl, rfl, Nat.le_refl _, fun _ _ _ => rfl⟩
theorem Upd.of_below {w w' : World} (h : Below w.heap.size w w') (ok : Nat → Prop) : Upd w w' ok := ⟨h.os, h.tape, h.output, h.size, fun k hk _ => h.block k hk⟩
theorem Upd.mono {w w' : World} {ok ok' : Nat → Prop} (h : Upd w w' ok) (hk : ∀ k, ok k → ok' k) : Upd w w' ok' := ⟨h.os, h.tape, h.output, h.size, fun k hlt hn => h.block k hlt (fun h' => hn (hk k h'))⟩
theorem Upd.trans {w w1 w2 : World} {ok ok1 : Nat → Prop} (h : Upd w w1 ok) (k : Upd w1 w2 ok1) (hk : ∀ k, ok1 k → ok k ∨ w.heap.size ≤ k) : Upd w w2 ok :=
  ⟨k.os.trans h.os, k.tape.trans h.tape, k.output.trans h.output, Nat.le_trans h.size k.size, fun i hi hn => (k.block i (Nat.lt_of_lt_of_le hi h.size) (fun h1 => (hk i h1).elim hn (fun h2 => by omega))).trans (h.block i hi hn)⟩
theorem Upd.below {w w' : World} {ok : Nat → Prop} {base : Nat} (h : Upd w w' ok) (hb : base ≤ w.heap.size) (hk : ∀ k, ok k → base ≤ k) : Below base w w' :=
  ⟨h.os, h.tape, h.output, h.size, fun k hlt => h.block k (by omega) (fun h' => by have := hk k h'; omega)⟩
theorem Upd.set (w : World) (g j : Nat) (u : Value) {ok : Nat → Prop} (hg : ok g) : Upd w (w.setCell ⟨g, j, none⟩ u) ok :=
  ⟨rfl, rfl, rfl, by simp, fun k _ hn => Below.heap_setCell w ⟨g, j, none⟩ u k (fun e => hn (e ▸ hg))⟩
/-- The things of a call that was handed some of them (blocks of ok, from base on). -/
structure Sp (base : Nat) (w0 : World) (ok : Nat → Prop) (w : World) (L : List (Thing base)) : Prop where
  hb : base ≤ w0.heap.size
  low : ∀ k, ok k → base ≤ k
  upd : Upd w0 w ok
  items : SepI base w L (fun k => ok k ∨ w0.heap.size ≤ k)
namespace Sp
variable {base : Nat} {w0 w w1 : World} {ok : Nat → Prop} {L : List (Thing base)}
theorem start (hb : base ≤ w.heap.size) (hlow : ∀ k, ok k → base ≤ k) (S : SepI base w L ok) : Sp base w ok w L := ⟨hb, hlow, Upd.refl _ _, SepI.mono (fun _ hk => .inl hk) S⟩
theorem below (S : Sp base w0 ok w L) : Below base w0 w := S.upd.below S.hb S.low
theorem size (S : Sp base w0 ok w L) : w0.heap.size ≤ w.heap.size := S.upd.size
theorem step (S : Sp base w0 ok w L) (hb : Below w.heap.size w w1) : Sp base w0 ok w1 L :=
  ⟨S.hb, S.low, S.upd.trans (Upd.of_below hb (fun _ => False)) (fun _ h => h.elim), SepI.move hb.size (fun k _ _ hk => hb.block k hk) S.items⟩
theorem drew (S : Sp base w0 ok w L) : Sp base w0 ok w.drew L := S.step (below_drew (Below.refl _ _))
theorem drewN (S : Sp base w0 ok w L) (n : Nat) : Sp base w0 ok (w.drewN n) L := S.step (pw_below_drewN (Below.refl _ _) n)
/-- One thing turned. -/
theorem put (S : Sp base w0 ok w L) (n : Nat) {i : Thing base} (h : L[n]? = some i) : ∃ okn : Nat → Prop, (∀ k, okn k → base ≤ k ∧ k < w.heap.size) ∧ i.P w okn ∧ ∀ (w1 : World) (i' : Thing base), Upd w w1 okn → i'.P w1 (fun k => okn k ∨ w.heap.size ≤ k) → Sp base w0 ok w1 (L.set n i') := by
  obtain ⟨okn, h1, h2, h3⟩ := SepI.upd n S.items h
  refine ⟨okn, fun k hk => (h1 k hk).2, h2, fun w1 i' hu hp => ⟨S.hb, S.low, S.upd.trans hu (fun k hk => (h1 k hk).1), h3 w1 i' hu.size (fun k _ hlt hn => hu.block k hlt hn) (fun k hk => .inr (Nat.le_trans S.upd.size hk)) hp⟩⟩
theorem get (S : Sp base w0 ok w L) (n : Nat) {i : Thing base} (h : L[n]? = some i) : ∃ okn : Nat → Prop, i.P w okn := SepI.get n S.items h
theorem at_box {g t : Nat} {cs : Array Value} (S : Sp base w0 ok w L) (n : Nat) (h : L[n]? = some (Box _ g t cs)) : w.heap[g]? = some (.cells cs t (0, 0)) := by
  obtain ⟨ok, hp⟩ := S.get n h
  exact hp.2.2
theorem set {g t : Nat} {cs : Array Value} (S : Sp base w0 ok w L) (n : Nat) (h : L[n]? = some (Box _ g t cs)) (j : Nat) (u : Value) : Sp base w0 ok (w.setCell ⟨g, j, none⟩ u) (L.set n (Box _ g t (cs.setIfInBounds j u))) := by
  obtain ⟨okn, h1, hp, hu⟩ := S.put n h
  exact hu _ _ (Upd.set w g j u hp.1) ⟨.inl hp.1, hp.2.1, blk_set hp.2.2 j u⟩
theorem fz {v : Value} {xs : List Value} (S : Sp base w0 ok w L) (n : Nat) (h : L[n]? = some (Fz _ v xs)) : ∃ A c, v = .slice A xs.length c ∧ xs.length ≤ c ∧ CellsAt w A xs := by
  obtain ⟨ok, hp⟩ := S.get n h
  exact FRow.slice (show FRow w (fun k => ok k ∧ base ≤ k) v xs from hp)
theorem fzn {vs : List Value} {xss : List (List Value)} (S : Sp base w0 ok w L) (n : Nat) (h : L[n]? = some (FzN _ vs xss)) : vs.length = xss.length ∧ ∀ (i : Nat) v xs, vs[i]? = some v → xss[i]? = some xs → ∃ A c, v = .slice A xs.length c ∧ xs.length ≤ c ∧ CellsAt w A xs := by
  obtain ⟨ok, hp⟩ := S.get n h
  exact ⟨hp.1, fun i v xs h1 h2 => FRow.slice (hp.2 i v xs h1 h2)⟩
/-- A row of the call's own becomes a frozen row's successor. -/
theorem fz_new {v v1 : Value} {xs ys : List Value} {e m : Nat} (S : Sp base w0 ok w L) (n : Nat) (h : L[n]? = some (Fz _ v xs)) (ho : w1.ownsRow w.heap.size e 1 v1 m ys) (h1 : ∀ u ∈ ys, u.oneCell' = true) (hb : Below w.heap.size w w1) : Sp base w0 ok w1 (L.set n (Fz _ v1 ys)) := by
  obtain ⟨okn, _, hp, hu⟩ := S.put n h
  have hs := S.size
  have hbase := S.hb
  exact hu w1 (Fz _ v1 ys) (Upd.of_below hb _) (show FRow w1 (fun k => (okn k ∨ w.heap.size ≤ k) ∧ base ≤ k) v1 ys from FRow.mono (FRow.own (base' := 0) ho h1) (fun k hk => ⟨.inr hk, by omega⟩))
theorem fz_take {A : Option Addr} {m c : Nat} {xs : List Value} (S : Sp base w0 ok w L) (n : Nat) (h : L[n]? = some (Fz _ (.slice A m c) xs)) (j : Nat) (hj : j ≤ xs.length) : Sp base w0 ok w (L.set n (Fz _ (.slice A j j) (xs.take j))) := by
  obtain ⟨okn, _, hp, hu⟩ := S.put n h
  have hp' : FRow w (fun k => okn k ∧ base ≤ k) (.slice A m c) xs := hp
  exact hu w (Fz _ (.slice A j j) (xs.take j)) (Upd.refl _ _) (show FRow w (fun k => (okn k ∨ w.heap.size ≤ k) ∧ base ≤ k) (.slice A j j) (xs.take j) from FRow.mono (FRow.take hp' j hj) (fun k hk => ⟨.inl hk.1, hk.2⟩))
/-- One frozen row among many is new. -/
theorem fzn_new {vs : List Value} {xss : List (List Value)} {v1 : Value} {ys : List Value} {e m : Nat} (S : Sp base w0 ok w L) (n : Nat) (h : L[n]? = some (FzN _ vs xss)) (i : Nat) (ho : w1.ownsRow w.heap.size e 1 v1 m ys) (h1 : ∀ u ∈ ys, u.oneCell' = true) (hb : Below w.heap.size w w1) : Sp base w0 ok w1 (L.set n (FzN _ (vs.set i v1) (xss.set i ys))) := by
  obtain ⟨okn, hlt, hp, hu⟩ := S.put n h
  have hs := S.size
  have hbase := S.hb
  refine hu _ _ (Upd.of_below hb _) ⟨by rw [List.length_set, List.length_set]; exact hp.1, fun j v xs h2 h3 => ?_⟩
  by_cases hij : i = j
  · subst hij
    rw [List.getElem?_set] at h2 h3
    simp only [if_true] at h2 h3
    split at h2
    · split at h3
      · obtain rfl : v1 = v := by simpa using h2
        obtain rfl : ys = xs := by simpa using h3
        exact FRow.mono (FRow.own (base' := 0) ho h1) (fun k hk => ⟨.inr hk, by omega⟩)
      · cases h3
    · cases h2
  · rw [List.getElem?_set_ne hij] at h2 h3
    exact FRow.mono (FRow.move (FRow.mono (FRow.bound (hp.2 j v xs h2 h3)) (fun k hk => (⟨hk.1.1, hk.1.2, hk.2⟩ : okn k ∧ base ≤ k ∧ k < w.heap.size))) (fun k hk => hb.block k hk.2.2)) (fun k hk => ⟨.inl hk.1, hk.2.1⟩)
/-- Frozen rows are others of the same blocks. -/
theorem fzn_alike {vs vs' : List Value} {xss xss' : List (List Value)} (S : Sp base w0 ok w L) (n : Nat) (h : L[n]? = some (FzN _ vs xss)) (hl : vs.length = xss.length → vs'.length = xss'.length) (hs : ∀ okn : Nat → Prop, (vs.length = xss.length ∧ ∀ (i : Nat) v xs, vs[i]? = some v → xss[i]? = some xs → FRow w okn v xs) → ∀ (i : Nat) v xs, vs'[i]? = some v → xss'[i]? = some xs → FRow w okn v xs) : Sp base w0 ok w (L.set n (FzN _ vs' xss')) := by
  obtain ⟨okn, hlt, hp, hu⟩ := S.put n h
  exact hu _ _ (Upd.refl _ _) ⟨hl hp.1, fun i v xs h1 h2 => FRow.mono (hs _ hp i v xs h1 h2) (fun k hk => ⟨.inl hk.1, hk.2⟩)⟩
theorem fzn_erase {vs : List Value} {xss : List (List Value)} (S : Sp base w0 ok w L) (n : Nat) (h : L[n]? = some (FzN _ vs xss)) (i : Nat) : Sp base w0 ok w (L.set n (FzN _ (vs.eraseIdx i) (xss.eraseIdx i))) := by
  refine S.fzn_alike n h (fun hl => by rw [List.length_eraseIdx, List.length_eraseIdx, hl]) (fun okn hp j v xs h1 h2 => ?_)
  rw [List.getElem?_eraseIdx] at h1 h2
  split at h1
  · rw [if_pos (by assumption)] at h2
    exact hp.2 _ _ _ h1 h2
  · rw [if_neg (by assumption)] at h2
    exact hp.2 _ _ _ h1 h2
theorem fzn_insert {vs : List Value} {xss : List (List Value)} (S : Sp base w0 ok w L) (n : Nat) (h : L[n]? = some (FzN _ vs xss)) (i : Nat) (hi : i ≤ vs.length) : Sp base w0 ok w (L.set n (FzN _ (vs.take i ++ [.slice none 0 0] ++ vs.drop i) (xss.take i ++ [[]] ++ xss.drop i))) := by
  refine S.fzn_alike n h (fun hl => by simp only [List.length_append, List.length_take, List.length_drop, List.length_singleton, hl]) (fun okn hp j v xs h1 h2 => ?_)
  have hx : i ≤ xss.length := hp.1 ▸ hi
  rw [List.append_assoc] at h1 h2
  rcases Nat.lt_trichotomy j i with hj | hj | hj
  · rw [List.getElem?_append_left (by rw [List.length_take]; omega), List.getElem?_take, if_pos hj] at h1
    rw [List.getElem?_append_left (by rw [List.length_take]; omega), List.getElem?_take, if_pos hj] at h2
    exact hp.2 _ _ _ h1 h2
  · subst hj
    rw [List.getElem?_append_right (by rw [List.length_take]; omega), List.length_take, Nat.min_eq_left hi, Nat.sub_self] at h1
    rw [List.getElem?_append_right (by rw [List.length_take]; omega), List.length_take, Nat.min_eq_left hx, Nat.sub_self] at h2
    obtain rfl : Value.slice none 0 0 = v := by simpa using h1
    obtain rfl : ([] : List Value) = xs := by simpa using h2
    exact FRow.nil _ _
  · obtain ⟨d, rfl⟩ : ∃ d, j = i + 1 + d := ⟨j - i - 1, by omega⟩
    rw [List.getElem?_append_right (by rw [List.length_take]; omega), List.length_take, Nat.min_eq_left hi, show i + 1 + d - i = d + 1 by omega, List.singleton_append, List.getElem?_cons_succ, List.getElem?_drop] at h1
    rw [List.getElem?_append_right (by rw [List.length_take]; omega), List.length_take, Nat.min_eq_left hx, show i + 1 + d - i = d + 1 by omega, List.singleton_append, List.getElem?_cons_succ, List.getElem?_drop] at h2
    exact hp.2 _ _ _ h1 h2
theorem fzn_snoc {vs : List Value} {xss : List (List Value)} (S : Sp base w0 ok w L) (n : Nat) (h : L[n]? = some (FzN _ vs xss)) : Sp base w0 ok w (L.set n (FzN _ (vs ++ [.slice none 0 0]) (xss ++ [[]]))) := by
  have hl : vs.length = xss.length := (S.fzn n h).1
  have := S.fzn_insert n h vs.length (Nat.le_refl _)
  rw [List.take_length, List.drop_length, List.append_nil, hl, List.take_length, List.drop_length, List.append_nil] at this
  exact this
/-- One frozen row among many is cut. -/
theorem fzn_take {vs : List Value} {xss : List (List Value)} {A : Option Addr} {m c : Nat} {xs : List Value} (S : Sp base w0 ok w L) (n : Nat) (h : L[n]? = some (FzN _ vs xss)) (i : Nat) (hv : vs[i]? = some (.slice A m c)) (hx : xss[i]? = some xs) (j : Nat) (hj : j ≤ xs.length) : Sp base w0 ok w (L.set n (FzN _ (vs.set i (.slice A j j)) (xss.set i (xs.take j)))) := by
  refine S.fzn_alike n h (fun hl => by rw [List.length_set, List.length_set]; exact hl) (fun okn hp l v ys h2 h3 => ?_)
  by_cases hij : i = l
  · subst hij
    rw [List.getElem?_set] at h2 h3
    simp only [if_true] at h2 h3
    split at h2
    · split at h3
      · obtain rfl : Value.slice A j j = v := by simpa using h2
        obtain rfl : xs.take j = ys := by simpa using h3
        exact FRow.take (hp.2 i _ _ hv hx) j hj
      · cases h3
    · cases h2
  · rw [List.getElem?_set_ne hij] at h2 h3
    exact hp.2 l v ys h2 h3
/-- The headers' cells. -/
theorem hd {e : Nat} {v : Value} {vs : List Value} (S : Sp base w0 ok w L) (n : Nat) (h : L[n]? = some (Hd _ e v vs)) : ∃ A c, v = .slice A vs.length c ∧ vs.length ≤ c ∧ CellsAt w A vs ∧ (0 < vs.length → ∃ g, A = some ⟨g, 0, none⟩ ∧ ∀ i, w.frozen? ⟨g, i, none⟩ = false) := by
  obtain ⟨ok, hp⟩ := S.get n h
  obtain ⟨h0, A, c, h1, h2, h3⟩ := hp
  refine ⟨A, c, h1, h2, ⟨h0, fun hp => ?_⟩, fun hp => ?_⟩
  · obtain ⟨g, cur, k1, k2, k3, k4, k5⟩ := h3 hp
    refine ⟨_, k1, fun j u hu => ?_⟩
    rw [add_plain, blk_cell k4 j]
    rw [← k5, List.getElem?_take] at hu
    split at hu
    · simpa using hu
    · cases hu
  · obtain ⟨g, cur, k1, k2, k3, k4, k5⟩ := h3 hp
    exact ⟨g, k1, fun i => blk_frozen k4 i⟩
theorem hd_put {e g m c : Nat} {vs : List Value} (S : Sp base w0 ok w L) (n : Nat) (h : L[n]? = some (Hd _ e (.slice (some ⟨g, 0, none⟩) m c) vs)) (i : Nat) (hi : i < vs.length) (u : Value) (h1 : u.oneCell' = true) : Sp base w0 ok (w.setCell ⟨g, i, none⟩ u) (L.set n (Hd _ e (.slice (some ⟨g, 0, none⟩) m c) (vs.set i u))) := by
  obtain ⟨okn, hlt, hp, hu⟩ := S.put n h
  obtain ⟨h0, A, c', he, h2, h3⟩ := hp
  obtain ⟨g', cur, k1, k2, k3, k4, k5⟩ := h3 (by omega)
  injection he with e1 e2 e3
  subst e1; subst e3
  injection k1 with k1
  injection k1 with k1
  subst k1
  refine hu _ _ (Upd.set w g i u k2) ⟨fun q hq => ?_, _, c, by rw [e2, List.length_set], by rw [List.length_set]; exact h2, fun _ => ⟨g, _, rfl, .inl k2, k3, blk_set k4 i u, ?_⟩⟩
  · rcases List.mem_or_eq_of_mem_set hq with hq | rfl
    · exact h0 q hq
    · exact h1
  · rw [Array.toList_setIfInBounds, List.length_set, List.take_set, k5]
theorem hd_new {e : Nat} {v v1 : Value} {vs us : List Value} {m : Nat} (S : Sp base w0 ok w L) (n : Nat) (h : L[n]? = some (Hd _ e v vs)) (ho : w1.ownsRow w.heap.size e 1 v1 m us) (h1 : ∀ u ∈ us, u.oneCell' = true) (hb : Below w.heap.size w w1) : Sp base w0 ok w1 (L.set n (Hd _ e v1 us)) := by
  obtain ⟨okn, _, hp, hu⟩ := S.put n h
  have hs := S.size
  have hbase := S.hb
  have hl : us.length = m := by rw [ho.1, Nat.mul_one]
  refine hu _ _ (Upd.of_below hb _) ⟨h1, ?_⟩
  rcases ho.2 with ⟨h2, h3⟩ | ⟨g, cap, cur, hv, hg, hh, hnc, _, _, ht⟩
  · exact ⟨none, 0, by rw [h2, hl, h3], by omega, fun hp => by omega⟩
  · refine ⟨_, cap, by rw [hl]; exact hv, by omega, fun _ => ⟨g, cur, rfl, .inr hg, by omega, hh, ?_⟩⟩
    rw [hl]
    simpa using ht
theorem hd_take {e m c : Nat} {A : Option Addr} {vs : List Value} (S : Sp base w0 ok w L) (n : Nat) (h : L[n]? = some (Hd _ e (.slice A m c) vs)) (j : Nat) (hj : j ≤ vs.length) : Sp base w0 ok w (L.set n (Hd _ e (.slice A j j) (vs.take j))) := by
  obtain ⟨okn, hlt, hp, hu⟩ := S.put n h
  obtain ⟨h0, A', c', he, h2, h3⟩ := hp
  injection he with e1 e2 e3
  subst e1
  have hl : (vs.take j).length = j := by rw [List.length_take]; omega
  refine hu _ _ (Upd.refl _ _) ⟨fun q hq => h0 q (List.mem_of_mem_take hq), A, j, by rw [hl], by rw [hl]; exact Nat.le_refl _, fun hp => ?_⟩
  obtain ⟨g, cur, k1, k2, k3, k4, k5⟩ := h3 (by omega)
  refine ⟨g, cur, k1, .inl k2, k3, k4, ?_⟩
  rw [hl, ← k5, List.take_take, Nat.min_eq_left hj]
end Sp
section
variable {P : Program} {ops : Array Oper} {o : Oper} {a : Act} {K : Act → World → Prop} {Q : Exit → Act → World → Prop}
/-- append(l[:k:k], r...): the row as it is, if there is nothing in r; else a new one. -/
theorem step_cut {W : World} (hw : Region.wanted o (yielded ops a.tmps) = true) (s x : Operand) (t e : TypeId) (z : Value) (bytes : Nat)
    (ho : o.op = .call { callee := .builtin .append, args := #[s, x], argTypes := #[t, t] })
    (ht : P.underlying t = some (.slice e)) (hinfo : (P.info? e).map (fun i => (i.zero, i.size, i.bytes)) = some (some z, 1, bytes)) (hz : z.cells.size = 1) (hb0 : 0 < bytes)
    (A : Option Addr) (xs : List Value) (n : Nat) (hn : n = xs.length) (A2 : Option Addr) (ys : List Value) (m c : Nat) (hm : m = ys.length) (hs : a.eval s = .slice A n n) (hx : a.eval x = .slice A2 m c)
    (HC : CellsAt W A xs) (HC2 : CellsAt W A2 ys) (hl : (n + m) * bytes ≤ 140737488355328)
    (h : ∀ v1 w1, (ys = [] ∧ v1 = .slice A n n ∧ w1 = W) ∨ (w1.ownsRow W.heap.size e 1 v1 (n + m) (xs ++ ys)) → Below W.heap.size W w1 → K (a.put o.dst v1) w1) :
    if Region.wanted o (yielded ops a.tmps) = true then Oper.wp P o a W K Q else K (a.put o.dst undef) W := by
  obtain ⟨i0, hi, hzz⟩ := Option.map_eq_some_iff.1 hinfo
  simp only [Prod.mk.injEq] at hzz
  obtain ⟨hz0, hz1, hz2⟩ := hzz
  have hlen : n + m ≤ 140737488355328 := Nat.le_trans (Nat.le_mul_of_pos_right _ hb0) hl
  rw [if_pos hw]
  have hrun : ∃ v1 w1, (Builtin.append_ #[t, t] o.type #[.slice A n n, .slice A2 m c]).run P W = .ok v1 w1 ∧ ((ys = [] ∧ v1 = .slice A n n ∧ w1 = W) ∨ w1.ownsRow W.heap.size e 1 v1 (n + m) (xs ++ ys)) ∧ W.grownBy w1 none := by
    rcases Nat.eq_zero_or_pos m with h0 | h0
    · subst h0
      obtain rfl : ys = [] := List.eq_nil_of_length_eq_zero hm.symm
      refine ⟨.slice A n n, W, ?_, .inl ⟨rfl, rfl, rfl⟩, World.grownBy.refl W _⟩
      rcases A2 with _ | a2 <;> rcases A with _ | a1 <;> simp [Builtin.append_, run_underlying ht, sizeOf, typeInfo, hi, Builtin.lenOf, Builtin.firstCells, storeCells, loadCells, loadCellsFrom]
    · obtain ⟨a2, e2, hc2⟩ := HC2.at_ (by omega)
      subst e2
      cases A with
      | some b =>
        obtain ⟨v', w', hrun, r1, r2⟩ := run_append_arg_grows (P := P) W t o.type e i0 z 1 bytes ht hi hz0 hz1 hz2 hz (by decide) b n n xs (by omega) (fun j v hv => by
          obtain ⟨a', h1, h2⟩ := HC.at_ (by have := (List.getElem?_eq_some_iff.1 hv).1; omega)
          obtain rfl : b = a' := by injection h1
          exact h2 j v hv) a2 m c ys (by omega) hc2 (by omega) (by simp only [maxLen]; omega) hl
        exact ⟨v', w', hrun, .inr r1, r2⟩
      | none =>
        have hn0 : n = 0 := by
          rcases Nat.eq_zero_or_pos n with h | h
          · exact h
          · obtain ⟨a', h1, _⟩ := HC.at_ (by omega)
            cases h1
        subst hn0
        obtain rfl : xs = [] := List.eq_nil_of_length_eq_zero hn.symm
        obtain ⟨v', w', hrun, r1, r2, _⟩ := run_append_own (P := P) W W.heap.size t o.type e i0 z 1 bytes ht hi hz0 hz1 hz2 hz (by decide) (.slice none 0 0) 0 [] (World.ownsRow_nil _ _ e 1) a2 m c ys (by omega) hc2 (HC2.one) (by simp only [maxLen]; omega) hl (Nat.le_refl _)
        exact ⟨v', w', hrun, .inr r1, r2⟩
  obtain ⟨v1, w1, hr, hown, hg⟩ := hrun
  unfold Oper.wp execOp
  simp only [ho, resolve, invoke, builtin, Sem.run_bind, Sem.run_pure, Result.andThen_ok, List.map_toArray, List.map_cons, List.map_nil, hs, hx, hr]
  exact h v1 w1 hown ((Below.refl _ _).grown hg (Nat.le_refl _) (fun k hk => by cases hk))
end
/-- An index: what its fields are and what they lead to. bv, bvs: the row of the documents' words, as it stands. -/
def IdxL (base g : Nat) (wv dv bv : Value) (dvs bvs : List Value) (ws : List ByteArray) (ds : List (List Int)) (bs : List (List ByteArray)) : List (Thing base) :=
  [Box base g 56 #[wv, dv, bv], Fz base wv (pw_strs ws), Hd base 43 dv dvs, FzN base dvs (ds.map (nums .i64)), Hdr base 33 bv bvs, FzN base bvs (bs.map pw_strs)]
def Idx (base g : Nat) (bv : Value) (bvs : List Value) (ws : List ByteArray) (ds : List (List Int)) (bs : List (List ByteArray)) (w : World) (ok : Nat → Prop) : Prop :=
  ∃ wv dv dvs, SepI base w (IdxL base g wv dv bv dvs bvs ws ds bs) ok
end Go.Proofs.Ytpfmebpalejadaa.Hand
end
section
namespace Go.Proofs.Ytpfmebpalejadaa.Hand
open Go.Proofs.YtpfmebpalejadaaW Go.RowKit Go.Proofs.YtpfmebpalejadaaW.PrintWords Go.Proofs.YtpfmebpalejadaaW.PrintLast Go.Proofs.YtpfmebpalejadaaW.PrintMore Go.Proofs.YtpfmebpalejadaaW.SepW Go.Proofs.Ytpfmebpalejadaa.PALL
set_option linter.unusedVariables false
set_option linter.unusedSimpArgs false
section
variable {w0 w w1 w' : World} {L L' : List (Thing w0.heap.size)}
/-- The call's things as things that it was handed, and back. -/
theorem _root_.Go.Proofs.YtpfmebpalejadaaW.SepW.Sep.sp (S : Sep w0 w L) : Sp w0.heap.size w (fun k => w0.heap.size ≤ k) w L :=
  Sp.start S.size (fun _ h => h) (SepI.mono (fun _ hk => hk.2.1) (SepI.low S.items))
theorem Sp.sep {ok : Nat → Prop} (S : Sp w0.heap.size w ok w1 L') (h : Below w0.heap.size w0 w) : Sep w0 w1 L' := ⟨h.trans S.below, SepI.mono (fun _ _ => trivial) S.items⟩
theorem fz_strs {v : Value} {l : List ByteArray} (S : Sep w0 w L) (n : Nat) (h : L[n]? = some (Fz _ v (pw_strs l))) (hl : l.length ≤ 1000000) : ∃ A c, v = .slice A l.length c ∧ l.length ≤ c ∧ CellsAt w A (pw_strs l) ∧ Kd.C Kd.string w A l.length l := by
  obtain ⟨A, c, h1, h2, h3⟩ := S.sp.fz n h
  have e : (pw_strs l).length = l.length := by simp [pw_strs]
  rw [e] at h1 h2
  exact ⟨A, c, h1, h2, h3, h3.strs (by omega)⟩
theorem fzn_ints {vs : List Value} {ds : List (List Int)} (S : Sep w0 w L) (n : Nat) (h : L[n]? = some (FzN _ vs (ds.map (nums .i64)))) (i : Nat) (d : List Int) (hd : ds[i]? = some d) (hl : d.length ≤ 1000000) : ∃ A c, vs[i]? = some (.slice A d.length c) ∧ d.length ≤ c ∧ CellsAt w A (nums .i64 d) ∧ Kd.C (Kd.int .i64) w A d.length d := by
  obtain ⟨hl1, hp⟩ := S.sp.fzn n h
  have hi : i < vs.length := by rw [hl1, List.length_map]; exact (List.getElem?_eq_some_iff.1 hd).1
  obtain ⟨A, c, h1, h2, h3⟩ := hp i vs[i] (nums .i64 d) (List.getElem?_eq_getElem hi) (by rw [List.getElem?_map, hd]; rfl)
  rw [nums_length] at h1 h2
  exact ⟨A, c, by rw [List.getElem?_eq_getElem hi, h1], h2, h3, h3.ints (by omega)⟩
theorem fzn_strs {vs : List Value} {ds : List (List ByteArray)} (S : Sep w0 w L) (n : Nat) (h : L[n]? = some (FzN _ vs (ds.map pw_strs))) (i : Nat) (d : List ByteArray) (hd : ds[i]? = some d) (hl : d.length ≤ 1000000) : ∃ A c, vs[i]? = some (.slice A d.length c) ∧ d.length ≤ c ∧ CellsAt w A (pw_strs d) ∧ Kd.C Kd.string w A d.length d := by
  obtain ⟨hl1, hp⟩ := S.sp.fzn n h
  have hi : i < vs.length := by rw [hl1, List.length_map]; exact (List.getElem?_eq_some_iff.1 hd).1
  obtain ⟨A, c, h1, h2, h3⟩ := hp i vs[i] (pw_strs d) (List.getElem?_eq_getElem hi) (by rw [List.getElem?_map, hd]; rfl)
  have e : (pw_strs d).length = d.length := by simp [pw_strs]
  rw [e] at h1 h2
  exact ⟨A, c, by rw [List.getElem?_eq_getElem hi, h1], h2, h3, h3.strs (by omega)⟩
theorem fzn_len {α : Type} {vs : List Value} {ds : List α} {f : α → List Value} (S : Sep w0 w L) (n : Nat) (h : L[n]? = some (FzN _ vs (ds.map f))) : vs.length = ds.length := by
  have := (S.sp.fzn n h).1
  rwa [List.length_map] at this
/-- Where the headers lie, and one of their cells. -/
theorem hd_at {v u : Value} {vs : List Value} (S : Sep w0 w L) (n : Nat) (h : L[n]? = some (Hd _ 43 v vs)) (i : Nat) (hu : vs[i]? = some u) : ∃ g c, v = .slice (some ⟨g, 0, none⟩) vs.length c ∧ vs.length ≤ c ∧ w.cell? ⟨g, i, none⟩ = some u ∧ w.frozen? ⟨g, i, none⟩ = false ∧ CellsAt w (some ⟨g, 0, none⟩) vs := by
  obtain ⟨A, c, h1, h2, h3, h4⟩ := S.sp.hd n h
  obtain ⟨g, rfl, hf⟩ := h4 (by have := (List.getElem?_eq_some_iff.1 hu).1; omega)
  obtain ⟨a, e, hc⟩ := h3.at_ (by have := (List.getElem?_eq_some_iff.1 hu).1; omega)
  have := hc i u hu
  obtain rfl : _ = a := by injection e
  rw [add_plain] at this
  exact ⟨g, c, h1, h2, this, hf i, h3⟩
end
theorem cut_form {w1 : World} {base e m : Nat} {n : Nat} {ys zs : List Value} {A : Option Addr} {v1 : Value} {q : Prop} (h : (ys = [] ∧ v1 = .slice A n n ∧ q) ∨ w1.ownsRow base e 1 v1 m zs) : ∃ A n c, v1 = .slice A n c := by
  rcases h with ⟨_, h, _⟩ | h
  · exact ⟨_, _, _, h⟩
  · obtain ⟨A, c, h⟩ := own_slice h
    exact ⟨_, _, _, h⟩
theorem CellsAt.drewN {w : World} {A : Option Addr} {xs : List Value} (h : CellsAt w A xs) (n : Nat) : CellsAt (w.drewN n) A xs := h.step (pw_below_drewN (Below.refl _ _) n)
theorem CellsAt.drew {w : World} {A : Option Addr} {xs : List Value} (h : CellsAt w A xs) : CellsAt w.drew A xs := h.step (below_drew (Below.refl _ _))
theorem frozen_below {w w1 : World} (h : Below w.heap.size w w1) {a : Addr} {v : Value} {b : Bool} (hc : w.cell? a = some v) (hf : w.frozen? a = b) : w1.frozen? a = b := (h.frozen (World.block_lt_of_cell? w a hc)).trans hf
theorem CellsAt.cut {w : World} {A : Option Addr} {xs : List Value} (h : CellsAt w A xs) (m c : Nat) (hc : xs.length ≤ c) : CellsAt w (if c = m then A else Option.map (fun x => x.add m) A) (xs.drop m) := by
  split
  · rw [List.drop_eq_nil_of_le (by omega)]
    exact CellsAt.nil _ _
  · exact h.drop m
theorem i64_small (x : Int) (h0 : 0 ≤ x) (h1 : x ≤ 1000000000) : IntKind.i64.wrap x = x := by rw [i64_w]; unfold wrap64; omega
theorem strs_length (l : List ByteArray) : (pw_strs l).length = l.length := by simp [pw_strs]
section
variable {w0 W w1 : World} {L : List (Thing w0.heap.size)}
theorem hd_cell {g m c : Nat} {vs : List Value} {u : Value} (S : Sep w0 W L) (n : Nat) (h : L[n]? = some (Hd _ 43 (.slice (some ⟨g, 0, none⟩) m c) vs)) (i : Nat) (hu : vs[i]? = some u) : W.cell? ⟨g, i, none⟩ = some u ∧ W.frozen? ⟨g, i, none⟩ = false := by
  obtain ⟨g', c', e, _, h1, h2, _⟩ := hd_at S n h i hu
  injection e with e1 _ _
  injection e1 with e1
  injection e1 with e1
  subst e1
  exact ⟨h1, h2⟩
/-- What a cut of one row leaves: the same row, shorter, or a new one. -/
theorem docs_put {vs : List Value} {ds : List (List Int)} {Ai : Option Addr} {m ci j i N : Nat} {d : List Int} {v1 : Value} (S : Sep w0 W L) (n : Nat) (h : L[n]? = some (FzN _ vs (ds.map (nums .i64)))) (hv : vs[i]? = some (.slice Ai m ci)) (hd : ds[i]? = some d) (hj : j < d.length)
    (HO : ((nums .i64 d).drop (j + 1) = [] ∧ v1 = .slice Ai j j ∧ w1 = W) ∨ w1.ownsRow W.heap.size 3 1 v1 N ((nums .i64 d).take j ++ (nums .i64 d).drop (j + 1))) (HX : Below W.heap.size W w1) :
    Sep w0 w1 (L.set n (FzN _ (vs.set i v1) ((ds.set i (d.take j ++ d.drop (j + 1))).map (nums .i64)))) ∧ ∃ A c, v1 = .slice A (d.take j ++ d.drop (j + 1)).length c := by
  have e : (nums .i64 d).take j ++ (nums .i64 d).drop (j + 1) = nums .i64 (d.take j ++ d.drop (j + 1)) := by simp [nums, List.map_take, List.map_drop]
  rw [List.map_set]
  rcases HO with ⟨h0, rfl, rfl⟩ | ho
  · rw [← e, h0, List.append_nil]
    have hl : (nums .i64 d).length ≤ j + 1 := List.drop_eq_nil_iff.1 h0
    rw [nums_length] at hl
    refine ⟨(S.sp.fzn_take n h i hv (by rw [List.getElem?_map, hd]; rfl) j (by rw [nums_length]; omega)).sep S.below, Ai, j, ?_⟩
    rw [List.drop_eq_nil_of_le (by omega), List.append_nil, List.length_take, Nat.min_eq_left (by omega)]
  · rw [e] at ho
    refine ⟨(S.sp.fzn_new n h i ho (nums_one _) HX).sep S.below, ?_⟩
    obtain ⟨A, c, hs⟩ := own_slice ho
    have hl := ho.1
    rw [nums_length, Nat.mul_one] at hl
    exact ⟨A, c, by rw [hs, hl]⟩
theorem words_cut {A : Option Addr} {m c i N : Nat} {ws : List ByteArray} {v1 : Value} (S : Sep w0 W L) (n : Nat) (h : L[n]? = some (Fz _ (.slice A m c) (pw_strs ws))) (hi : i < ws.length)
    (HO : ((pw_strs ws).drop (i + 1) = [] ∧ v1 = .slice A i i ∧ w1 = W) ∨ w1.ownsRow W.heap.size 9 1 v1 N ((pw_strs ws).take i ++ (pw_strs ws).drop (i + 1))) (HX : Below W.heap.size W w1) :
    Sep w0 w1 (L.set n (Fz _ v1 (pw_strs (ws.eraseIdx i)))) := by
  have e : (pw_strs ws).take i ++ (pw_strs ws).drop (i + 1) = pw_strs (ws.eraseIdx i) := by rw [List.eraseIdx_eq_take_drop_succ]; simp [pw_strs, List.map_take, List.map_drop]
  rcases HO with ⟨h0, rfl, rfl⟩ | ho
  · rw [← e, h0, List.append_nil]
    exact (S.sp.fz_take n h i (by rw [strs_length]; omega)).sep S.below
  · rw [e] at ho
    exact (S.sp.fz_new n h ho (strs_one _) HX).sep S.below
theorem hd_cut {A : Option Addr} {m c i N : Nat} {vs : List Value} {v1 : Value} (S : Sep w0 W L) (n : Nat) (h : L[n]? = some (Hd _ 43 (.slice A m c) vs)) (hi : i < vs.length)
    (HO : (vs.drop (i + 1) = [] ∧ v1 = .slice A i i ∧ w1 = W) ∨ w1.ownsRow W.heap.size 43 1 v1 N (vs.take i ++ vs.drop (i + 1))) (HX : Below W.heap.size W w1) (h1 : ∀ u ∈ vs, u.oneCell' = true) :
    Sep w0 w1 (L.set n (Hd _ 43 v1 (vs.eraseIdx i))) := by
  rcases HO with ⟨h0, rfl, rfl⟩ | ho
  · rw [List.eraseIdx_eq_take_drop_succ, h0, List.append_nil]
    exact (S.sp.hd_take n h i (by omega)).sep S.below
  · rw [← List.eraseIdx_eq_take_drop_succ] at ho
    exact (S.sp.hd_new n h ho (fun u hu => h1 u (List.mem_of_mem_eraseIdx hu)) HX).sep S.below
theorem fz_CE {A : Option Addr} {m c : Nat} {xs : List Value} (S : Sep w0 W L) (n : Nat) (h : L[n]? = some (Fz _ (.slice A m c) xs)) : CellsAt W A xs := by
  obtain ⟨A', c', e, _, h⟩ := S.sp.fz n h
  injection e with e _ _
  rw [e]
  exact h
theorem hd_CE {A : Option Addr} {m c : Nat} {vs : List Value} (S : Sep w0 W L) (n : Nat) (h : L[n]? = some (Hd _ 43 (.slice A m c) vs)) : CellsAt W A vs := by
  obtain ⟨A', c', e, _, h, _⟩ := S.sp.hd n h
  injection e with e _ _
  rw [e]
  exact h
theorem erase_map_set {α β : Type} (f : α → β) (l : List α) (i : Nat) (x : α) : ((l.set i x).map f).eraseIdx i = (l.eraseIdx i).map f := by
  have h : (l.set i x).eraseIdx i = l.eraseIdx i := List.eraseIdx_set_eq
  rw [← h, List.eraseIdx_eq_take_drop_succ, List.eraseIdx_eq_take_drop_succ, List.map_append, List.map_take, List.map_drop]
theorem hd_one {v : Value} {vs : List Value} (S : Sep w0 W L) (n : Nat) (h : L[n]? = some (Hd _ 43 v vs)) : ∀ u ∈ vs, u.oneCell' = true := by
  obtain ⟨ok, hp⟩ := S.sp.get n h
  exact hp.1
theorem hd_put' {g m c : Nat} {vs : List Value} (S : Sep w0 W L) (n : Nat) (h : L[n]? = some (Hd _ 43 (.slice (some ⟨g, 0, none⟩) m c) vs)) (i : Nat) (hi : i < vs.length) (u : Value) (h1 : u.oneCell' = true) : Sep w0 (W.setCell ⟨g, i, none⟩ u) (L.set n (Hd _ 43 (.slice (some ⟨g, 0, none⟩) m c) (vs.set i u))) :=
  (S.sp.hd_put n h i hi u h1).sep S.below
theorem fzn_erase' {vs : List Value} {xss : List (List Value)} (S : Sep w0 W L) (n : Nat) (h : L[n]? = some (FzN _ vs xss)) (i : Nat) : Sep w0 W (L.set n (FzN _ (vs.eraseIdx i) (xss.eraseIdx i))) := (S.sp.fzn_erase n h i).sep S.below
end
theorem bs_str (k : Nat) (ws : List ByteArray) (s : ByteArray) (i : Int) (b : Bool) (A : Option Addr) (c : Nat) (w : World) (hC : Kd.C Kd.string w A ws.length ws) (hc : ws.length ≤ c) (h : slices_BinarySearch_string_string.f k ws s = some (i, b)) :
    Calls Try.prog 35 #[.slice A ws.length c, .string s] w fun e w' => e = .returned (.tuple #[.int .i64 i, .bool b]) ∧ ∃ n, w' = w.drewN n :=
  (slices_BinarySearch_string_string.calls k A c ws s i b w hC hc h).mono (fun _ _ h => ⟨h.1, h.2.out⟩)
theorem bs_int (k : Nat) (d : List Int) (x : Int) (i : Int) (b : Bool) (A : Option Addr) (c : Nat) (w : World) (hC : Kd.C (Kd.int .i64) w A d.length d) (hc : d.length ≤ c) (h : slices_BinarySearch_int_int.f k d x = some (i, b)) :
    Calls Try.prog 38 #[.slice A d.length c, .int .i64 x] w fun e w' => e = .returned (.tuple #[.int .i64 i, .bool b]) ∧ ∃ n, w' = w.drewN n :=
  (slices_BinarySearch_int_int.calls k A c d x i b w hC hc h).mono (fun _ _ h => ⟨h.1, h.2.out⟩)
def dr4_T : Bool × List (List Nat × List Nat) := (true, [([], []), ([0], [0]), ([1], [1]), ([2], [2]), ([], []), ([], []), ([5], [5]), ([6], [6]), ([7], [7]), ([], []), ([8, 9], [8, 9]), ([10], [10]), ([], []), ([], []), ([11, 12, 13], [11, 12, 13]), ([], []), ([15], [15]), ([16], [16]), ([17], [17]), ([], []), ([18, 19], [18, 19]), ([20], [20]), ([], []), ([22], [22]), ([21, 23], [21, 23]), ([14, 24], [14, 24]), ([3, 4, 0, 1, 2, 3, 4, 5, 6, 7, 8, 9, 10, 11, 12, 13, 14, 15, 16, 17, 18, 19, 20, 21, 22, 23, 24, 25], [3, 4]), ([26, 25, 25, 0, 1, 2, 3, 4, 5, 6, 7, 8, 9, 10, 11, 12, 13, 14, 15, 16, 17, 18, 19, 20, 21, 22, 23, 24, 25], [25, 26])])
def dr4_B : List Nat := [0, 1, 3, 7, 0, 0, 32, 96, 224, 0, 992, 2016, 0, 0, 16352, 0, 32768, 98304, 229376, 0, 1015808, 2064384, 0, 4194304, 16744448, 33554400, 67108863, 134217727]
theorem dr4_tab : rtab .any (opsOf Try.f28 4) = dr4_T := by kernel_rfl
theorem dr4_bits : waitsOk dr4_T.2 dr4_B = true := by kernel_rfl
def dr6_T : Bool × List (List Nat × List Nat) := (true, [([], []), ([], []), ([1], [1]), ([2], [2]), ([3], [3]), ([], []), ([], []), ([4, 5, 6], [4, 5, 6]), ([], []), ([8], [8]), ([9], [9]), ([10], [10]), ([], []), ([12], [12]), ([11, 13], [11, 13]), ([7, 14], [7, 14]), ([0, 0, 1, 2, 3, 4, 5, 6, 7, 8, 9, 10, 11, 12, 13, 14, 15], [0]), ([16, 0, 1, 2, 3, 4, 5, 6, 7, 8, 9, 10, 11, 12, 13, 14, 15], [16]), ([17, 15, 15, 0, 1, 2, 3, 4, 5, 6, 7, 8, 9, 10, 11, 12, 13, 14, 15], [15, 17])])
def dr6_B : List Nat := [0, 0, 2, 6, 14, 0, 0, 126, 0, 256, 768, 1792, 0, 4096, 16128, 32766, 65535, 131071, 262143]
theorem dr6_tab : rtab .any (opsOf Try.f28 6) = dr6_T := by kernel_rfl
theorem dr6_bits : waitsOk dr6_T.2 dr6_B = true := by kernel_rfl
def dr7_T : Bool × List (List Nat × List Nat) := (true, [([], []), ([], []), ([1], [1]), ([2], [2]), ([3], [3]), ([], []), ([], []), ([4, 5, 6], [4, 5, 6]), ([], []), ([8], [8]), ([9], [9]), ([10], [10]), ([], []), ([12], [12]), ([11, 13], [11, 13]), ([7, 14], [7, 14]), ([0, 0, 1, 2, 3, 4, 5, 6, 7, 8, 9, 10, 11, 12, 13, 14, 15], [0]), ([16, 0, 1, 2, 3, 4, 5, 6, 7, 8, 9, 10, 11, 12, 13, 14, 15], [16]), ([17, 15, 15, 0, 1, 2, 3, 4, 5, 6, 7, 8, 9, 10, 11, 12, 13, 14, 15], [15, 17])])
def dr7_B : List Nat := [0, 0, 2, 6, 14, 0, 0, 126, 0, 256, 768, 1792, 0, 4096, 16128, 32766, 65535, 131071, 262143]
theorem dr7_tab : rtab .any (opsOf Try.f28 7) = dr7_T := by kernel_rfl
theorem dr7_bits : waitsOk dr7_T.2 dr7_B = true := by kernel_rfl
set_option maxHeartbeats 4000000 in
set_option maxRecDepth 100000 in
theorem drop_absent {w0 w : World} {L : List (Thing w0.heap.size)} {g : Nat} {wv dv bv : Value} {ws : List ByteArray} (S : Sep w0 w (Box _ g 56 #[wv, dv, bv] :: Fz _ wv (pw_strs ws) :: L)) (hwl : ws.length ≤ 1000000) (s : ByteArray) (doc : Int) (k : Nat) (i : Int) (h : slices_BinarySearch_string_string.f k ws s = some (i, false)) :
    Calls Try.prog 28 #[.pointer (some ⟨g, 0, none⟩), .string s, .int .i64 doc] w fun e w' => e = .returned (.tuple #[]) ∧ ∃ n, w' = w.drewN n := by
  obtain ⟨A, c, rfl, hc, hCE, hC⟩ := fz_strs S 1 rfl hwl
  have k0 := blk_cell (S.at_box 0 rfl) 0
  simp only [List.getElem?_toArray, List.getElem?_cons_zero, List.getElem?_cons_succ] at k0
  have HC0 := Aside0.mk hC
  have HCC := Aside0.mk hc
  have HB := Aside0.mk h
  have S := Aside0.mk S
  clear h hC hc hCE hwl
  go_enter Try.func28, Try.ntmps28
  go_wp2_with (first | (go_at_call 35; (with_reducible refine (bs_str k ws s _ _ A c w HC0.out HCC.out HB.out).mono ?_); rintro e_ w_ ⟨rfl, n1, rfl⟩; skip))
  (try simp only [Exit.inBlock, Exit.then])
  refine bodyPost_ret (results_none rfl _ _ _) rfl ?_
  exact ⟨rfl, n1, rfl⟩
set_option maxHeartbeats 4000000 in
set_option maxRecDepth 100000 in
theorem drop_keep {w0 w : World} {L : List (Thing w0.heap.size)} {g : Nat} {wv dv bv : Value} {dvs : List Value} {ws : List ByteArray} {ds : List (List Int)} (S : Sep w0 w (Box _ g 56 #[wv, dv, bv] :: Fz _ wv (pw_strs ws) :: Hd _ 43 dv dvs :: FzN _ dvs (ds.map (nums .i64)) :: L)) (hwl : ws.length ≤ 1000000) (hds : ds.length = ws.length) (s : ByteArray) (doc : Int) (k : Nat) (i : Nat) (h : slices_BinarySearch_string_string.f k ws s = some ((i : Int), true)) (d : List Int) (hd : ds[i]? = some d) (hdl : d.length ≤ 1000000) (k2 : Nat) (j : Int) (h2 : slices_BinarySearch_int_int.f k2 d doc = some (j, false)) (hne : d ≠ []) :
    Calls Try.prog 28 #[.pointer (some ⟨g, 0, none⟩), .string s, .int .i64 doc] w fun e w' => e = .returned (.tuple #[]) ∧ ∃ n, w' = w.drewN n := by
  obtain ⟨A, c, rfl, hc, hCE, hC⟩ := fz_strs S 1 rfl hwl
  have hdn := fzn_len S 3 rfl
  obtain ⟨Ai, ci, hvi, hci, hCEi, hCi⟩ := fzn_ints S 3 rfl i d hd hdl
  obtain ⟨gd, cd, rfl, hcd, hcell, hfro, hCEd⟩ := hd_at S 2 rfl i hvi
  have k0 := blk_cell (S.at_box 0 rfl) 0
  have k1 := blk_cell (S.at_box 0 rfl) 1
  simp only [List.getElem?_toArray, List.getElem?_cons_zero, List.getElem?_cons_succ] at k0 k1
  have f0 := blk_frozen (S.at_box 0 rfl) 0
  have f1 := blk_frozen (S.at_box 0 rfl) 1
  have hil : i < ds.length := (List.getElem?_eq_some_iff.1 hd).1
  have p0 : decide ((0 : Int) ≤ (i : Int)) = true := decide_eq_true (by omega)
  have p1 : decide ((i : Int) < (dvs.length : Int)) = true := decide_eq_true (by omega)
  have p2 : (0 : Int) ≤ (i : Int) := by omega
  have p3 : (i : Int) < (dvs.length : Int) := by omega
  have p4 : i < dvs.length := by omega
  have HC0 := Aside0.mk hC
  have HCC := Aside0.mk hc
  have HB := Aside0.mk h
  have HCi := Aside0.mk hCi
  have HCCi := Aside0.mk hci
  have HBi := Aside0.mk h2
  have HVI := Aside0.mk hvi
  have HDN := Aside0.mk hdn
  have HDS := Aside0.mk hds
  have HD := Aside0.mk hd
  have HL := Aside0.mk hwl
  have HDL := Aside0.mk hdl
  have HCD := Aside0.mk hcd
  have HIL := Aside0.mk hil
  have CED := Aside0.mk hCEd
  have CEI := Aside0.mk hCEi
  have CEW := Aside0.mk hCE
  have S := Aside0.mk S
  clear h hC hc hCE hwl h2 hCi hci hCEi hCEd hcd hvi hdn hds hd hdl hil
  have q0 : ((d.length : Int) == 0) = false := beq_eq_false_iff_ne.2 (by have := List.length_pos_iff.2 hne; omega)
  clear hne
  go_enter Try.func28, Try.ntmps28
  go_wp2_with (first | (go_at_call 35; (with_reducible refine (bs_str k ws s _ _ A c w HC0.out HCC.out HB.out).mono ?_); rintro e_ w_ ⟨rfl, n1, rfl⟩; skip) | (go_at_call 38; (with_reducible refine (bs_int k2 d doc _ _ Ai ci _ (Kd.C_below HCi.out (pw_below_drewN (Below.refl _ _) n1)) HCCi.out HBi.out).mono ?_); rintro e_ w_ ⟨rfl, n2, rfl⟩; skip))
  go_end0
  exact ⟨rfl, n1 + n2, rfl⟩
set_option maxHeartbeats 4000000 in
set_option maxRecDepth 100000 in
theorem drop_left {w0 w : World} {L : List (Thing w0.heap.size)} {g : Nat} {wv dv bv : Value} {dvs : List Value} {ws : List ByteArray} {ds : List (List Int)} (S : Sep w0 w (Box _ g 56 #[wv, dv, bv] :: Fz _ wv (pw_strs ws) :: Hd _ 43 dv dvs :: FzN _ dvs (ds.map (nums .i64)) :: L)) (hwl : ws.length ≤ 1000000) (hds : ds.length = ws.length) (s : ByteArray) (doc : Int) (k : Nat) (i : Nat) (h : slices_BinarySearch_string_string.f k ws s = some ((i : Int), true)) (d : List Int) (hd : ds[i]? = some d) (hdl : d.length ≤ 1000000) (k2 : Nat) (j : Nat) (h2 : slices_BinarySearch_int_int.f k2 d doc = some ((j : Int), true)) (hj : j < d.length) (hne : d.take j ++ d.drop (j + 1) ≠ []) :
    Calls Try.prog 28 #[.pointer (some ⟨g, 0, none⟩), .string s, .int .i64 doc] w fun e w' => e = .returned (.tuple #[]) ∧ ∃ v1, Sep w0 w' (Box _ g 56 #[wv, dv, bv] :: Fz _ wv (pw_strs ws) :: Hd _ 43 dv (dvs.set i v1) :: FzN _ (dvs.set i v1) ((ds.set i (d.take j ++ d.drop (j + 1))).map (nums .i64)) :: L) := by
  obtain ⟨A, c, rfl, hc, hCE, hC⟩ := fz_strs S 1 rfl hwl
  have hdn := fzn_len S 3 rfl
  obtain ⟨Ai, ci, hvi, hci, hCEi, hCi⟩ := fzn_ints S 3 rfl i d hd hdl
  obtain ⟨gd, cd, rfl, hcd, hcell, hfro, hCEd⟩ := hd_at S 2 rfl i hvi
  have k0 := blk_cell (S.at_box 0 rfl) 0
  have k1 := blk_cell (S.at_box 0 rfl) 1
  simp only [List.getElem?_toArray, List.getElem?_cons_zero, List.getElem?_cons_succ] at k0 k1
  have f0 := blk_frozen (S.at_box 0 rfl) 0
  have f1 := blk_frozen (S.at_box 0 rfl) 1
  have hil : i < ds.length := (List.getElem?_eq_some_iff.1 hd).1
  have p0 : decide ((0 : Int) ≤ (i : Int)) = true := decide_eq_true (by omega)
  have p1 : decide ((i : Int) < (dvs.length : Int)) = true := decide_eq_true (by omega)
  have p2 : (0 : Int) ≤ (i : Int) := by omega
  have p3 : (i : Int) < (dvs.length : Int) := by omega
  have p4 : i < dvs.length := by omega
  have HC0 := Aside0.mk hC
  have HCC := Aside0.mk hc
  have HB := Aside0.mk h
  have HCi := Aside0.mk hCi
  have HCCi := Aside0.mk hci
  have HBi := Aside0.mk h2
  have HVI := Aside0.mk hvi
  have HDN := Aside0.mk hdn
  have HDS := Aside0.mk hds
  have HD := Aside0.mk hd
  have HL := Aside0.mk hwl
  have HDL := Aside0.mk hdl
  have HCD := Aside0.mk hcd
  have HIL := Aside0.mk hil
  have CED := Aside0.mk hCEd
  have CEI := Aside0.mk hCEi
  have CEW := Aside0.mk hCE
  have S := Aside0.mk S
  clear h hC hc hCE hwl h2 hCi hci hCEi hCEd hcd hvi hdn hds hd hdl hil
  have hu43 := Try.underlying43
  have r0 : decide ((0 : Int) ≤ (j : Int)) = true := decide_eq_true (by omega)
  have r1 : (0 : Int) ≤ (j : Int) := by omega
  have hcj : j < ci := by have := HCCi.out; omega
  have r2 : (j : Int) ≤ (ci : Int) := by omega
  have r3 : IntKind.i64.wrap ((j : Int) + 1) = (j : Int) + 1 := i64_small _ (by omega) (by have := HDL.out; omega)
  have r4 : (0 : Int) ≤ (j : Int) + 1 := by omega
  have r5 : (j : Int) + 1 ≤ (d.length : Int) := by omega
  have r6 : (j : Int) + 1 ≤ (ci : Int) := by omega
  have rt : ((j : Int) + 1).toNat = j + 1 := by omega
  have r7 : j ≤ ci := by omega
  have r8 : j + 1 ≤ d.length := by omega
  have r9 : j + 1 ≤ ci := by omega
  have HJ := Aside0.mk hj
  clear hj hcj
  obtain ⟨A2, hA2⟩ : ∃ x : Option Addr, (if ci = j + 1 then Ai else Option.map (fun x => (⟨x.block, x.off + (j + 1), none⟩ : Addr)) Ai) = x := ⟨_, rfl⟩
  have CA2 : Aside0 (CellsAt w A2 ((nums .i64 d).drop (j + 1))) := ⟨by rw [← hA2]; exact CellsAt.cut CEI.out (j + 1) ci (by simp only [nums_length, strs_length]; exact HCCi.out)⟩
  have HNE := Aside0.mk hne
  clear hne
  go_enter Try.func28, Try.ntmps28
  go_upto_region 4 with (first | (go_at_call 35; (with_reducible refine (bs_str k ws s _ _ A c w HC0.out HCC.out HB.out).mono ?_); rintro e_ w_ ⟨rfl, n1, rfl⟩; skip) | (go_at_call 38; (with_reducible refine (bs_int k2 d doc _ _ Ai ci _ (Kd.C_below HCi.out (pw_below_drewN (Below.refl _ _) n1)) HCCi.out HBi.out).mono ?_); rintro e_ w_ ⟨rfl, n2, rfl⟩; skip) | fail)
  refine start_ (n := 28) (S := fun w' => w'.cell? ⟨g, 1, none⟩ = some (.slice (some ⟨gd, 0, none⟩) dvs.length cd) ∧ w'.cell? ⟨gd, i, none⟩ = some (.slice Ai d.length ci)) (ds := [27]) #[false, false, false, false, false, false, false, false, false, false, false, false, false, false, false, false, false, false, false, false, false, false, false, false, false, false, false, false] (by kernel_rfl) rfl rfl ⟨k1, hcell⟩ (fun hHeld => ?_); refine with_tabW dr4_tab dr4_bits (fun HT_ HW_ => ?_)
  have HBW := Aside0.mk (below_drew (pw_below_drewN (Below.refl w.heap.size w) (n1 + n2)))
  generalize (w.drewN (n1 + n2)).drew = W4 at HBW hHeld ⊢
  replace S := Aside0.mk (S.out.step HBW.out)
  refine pure_ (i := 0) (N := some 34) (v := ?_) (a' := ?_) #[true, false, false, false, false, false, false, false, false, false, false, false, false, false, false, false, false, false, false, false, false, false, false, false, false, false, false, false] rfl rfl (any_of HT_.out (by kernel_rfl)) (fun _ _ _ h => h) (Or.inl ⟨by rfl, ?_⟩) ?_ ?_
  rotate_left
  · intro w'
    go_simp
    with_reducible rfl
  rotate_left
  · simp only [Act.put, List.setIfInBounds_toArray, List.set_cons_zero, List.set_cons_succ, i64_w, i32_w]
    rfl
  refine pure_ (i := 1) (N := some 35) (v := ?_) (a' := ?_) #[true, true, false, false, false, false, false, false, false, false, false, false, false, false, false, false, false, false, false, false, false, false, false, false, false, false, false, false] rfl rfl (any_of HT_.out (by kernel_rfl)) (fun _ _ _ h => h) (Or.inl ⟨by rfl, ?_⟩) ?_ ?_
  rotate_left
  · intro w'
    go_simp
    with_reducible rfl
  rotate_left
  · simp only [Act.put, List.setIfInBounds_toArray, List.set_cons_zero, List.set_cons_succ, i64_w, i32_w]
    rfl
  refine pure_ (i := 2) (N := some 36) (v := ?_) (a' := ?_) #[true, true, true, false, false, false, false, false, false, false, false, false, false, false, false, false, false, false, false, false, false, false, false, false, false, false, false, false] rfl rfl (any_of HT_.out (by kernel_rfl)) (fun _ _ _ h => h) (Or.inl ⟨by rfl, ?_⟩) ?_ ?_
  rotate_left
  · intro w'
    go_simp
    with_reducible rfl
  rotate_left
  · simp only [Act.put, List.setIfInBounds_toArray, List.set_cons_zero, List.set_cons_succ, i64_w, i32_w]
    rfl
  refine pure_ (i := 4) (N := some 38) (v := ?_) (a' := ?_) #[true, true, true, false, true, false, false, false, false, false, false, false, false, false, false, false, false, false, false, false, false, false, false, false, false, false, false, false] rfl rfl (any_of HT_.out (by kernel_rfl)) (fun _ _ _ h => h) (Or.inl ⟨by rfl, ?_⟩) ?_ ?_
  rotate_left
  · intro w'
    go_simp
    with_reducible rfl
  rotate_left
  · simp only [Act.put, List.setIfInBounds_toArray, List.set_cons_zero, List.set_cons_succ, i64_w, i32_w]
    rfl
  refine pure_ (i := 5) (N := some 39) (v := ?_) (a' := ?_) #[true, true, true, false, true, true, false, false, false, false, false, false, false, false, false, false, false, false, false, false, false, false, false, false, false, false, false, false] rfl rfl (any_of HT_.out (by kernel_rfl)) (fun _ _ _ h => h) (Or.inl ⟨by rfl, ?_⟩) ?_ ?_
  rotate_left
  · intro w'
    go_simp
    with_reducible rfl
  rotate_left
  · simp only [Act.put, List.setIfInBounds_toArray, List.set_cons_zero, List.set_cons_succ, i64_w, i32_w]
    rfl
  refine pure_ (i := 6) (N := some 40) (v := ?_) (a' := ?_) #[true, true, true, false, true, true, true, false, false, false, false, false, false, false, false, false, false, false, false, false, false, false, false, false, false, false, false, false] rfl rfl (any_of HT_.out (by kernel_rfl)) (fun _ _ _ h => h) (Or.inl ⟨by rfl, ?_⟩) ?_ ?_
  rotate_left
  · intro w'
    go_simp
    with_reducible rfl
  rotate_left
  · simp only [Act.put, List.setIfInBounds_toArray, List.set_cons_zero, List.set_cons_succ, i64_w, i32_w]
    rfl
  refine pure_ (i := 7) (N := some 41) (v := ?_) (a' := ?_) #[true, true, true, false, true, true, true, true, false, false, false, false, false, false, false, false, false, false, false, false, false, false, false, false, false, false, false, false] rfl rfl (any_of HT_.out (by kernel_rfl)) (fun _ _ _ h => h) (Or.inl ⟨by rfl, ?_⟩) ?_ ?_
  rotate_left
  · intro w'
    go_simp
    with_reducible rfl
  rotate_left
  · simp only [Act.put, List.setIfInBounds_toArray, List.set_cons_zero, List.set_cons_succ, i64_w, i32_w]
    rfl
  refine pure_ (i := 9) (N := some 43) (v := ?_) (a' := ?_) #[true, true, true, false, true, true, true, true, false, true, false, false, false, false, false, false, false, false, false, false, false, false, false, false, false, false, false, false] rfl rfl (any_of HT_.out (by kernel_rfl)) (fun _ _ _ h => h) (Or.inl ⟨by rfl, ?_⟩) ?_ ?_
  rotate_left
  · intro w'
    go_simp
    with_reducible rfl
  rotate_left
  · simp only [Act.put, List.setIfInBounds_toArray, List.set_cons_zero, List.set_cons_succ, i64_w, i32_w]
    rfl
  refine pure_ (i := 12) (N := some 46) (v := ?_) (a' := ?_) #[true, true, true, false, true, true, true, true, false, true, false, false, true, false, false, false, false, false, false, false, false, false, false, false, false, false, false, false] rfl rfl (any_of HT_.out (by kernel_rfl)) (fun _ _ _ h => h) (Or.inl ⟨by rfl, ?_⟩) ?_ ?_
  rotate_left
  · intro w'
    go_simp
    with_reducible rfl
  rotate_left
  · simp only [Act.put, List.setIfInBounds_toArray, List.set_cons_zero, List.set_cons_succ, i64_w, i32_w]
    rfl
  refine pure_ (i := 13) (N := some 47) (v := ?_) (a' := ?_) #[true, true, true, false, true, true, true, true, false, true, false, false, true, true, false, false, false, false, false, false, false, false, false, false, false, false, false, false] rfl rfl (any_of HT_.out (by kernel_rfl)) (fun _ _ _ h => h) (Or.inl ⟨by rfl, ?_⟩) ?_ ?_
  rotate_left
  · intro w'
    go_simp
    with_reducible rfl
  rotate_left
  · simp only [Act.put, List.setIfInBounds_toArray, List.set_cons_zero, List.set_cons_succ, i64_w, i32_w]
    rfl
  refine pure_ (i := 15) (N := some 49) (v := ?_) (a' := ?_) #[true, true, true, false, true, true, true, true, false, true, false, false, true, true, false, true, false, false, false, false, false, false, false, false, false, false, false, false] rfl rfl (any_of HT_.out (by kernel_rfl)) (fun _ _ _ h => h) (Or.inl ⟨by rfl, ?_⟩) ?_ ?_
  rotate_left
  · intro w'
    go_simp
    with_reducible rfl
  rotate_left
  · simp only [Act.put, List.setIfInBounds_toArray, List.set_cons_zero, List.set_cons_succ, i64_w, i32_w]
    rfl
  refine pure_ (i := 16) (N := some 50) (v := ?_) (a' := ?_) #[true, true, true, false, true, true, true, true, false, true, false, false, true, true, false, true, true, false, false, false, false, false, false, false, false, false, false, false] rfl rfl (any_of HT_.out (by kernel_rfl)) (fun _ _ _ h => h) (Or.inl ⟨by rfl, ?_⟩) ?_ ?_
  rotate_left
  · intro w'
    go_simp
    with_reducible rfl
  rotate_left
  · simp only [Act.put, List.setIfInBounds_toArray, List.set_cons_zero, List.set_cons_succ, i64_w, i32_w]
    rfl
  refine pure_ (i := 17) (N := some 51) (v := ?_) (a' := ?_) #[true, true, true, false, true, true, true, true, false, true, false, false, true, true, false, true, true, true, false, false, false, false, false, false, false, false, false, false] rfl rfl (any_of HT_.out (by kernel_rfl)) (fun _ _ _ h => h) (Or.inl ⟨by rfl, ?_⟩) ?_ ?_
  rotate_left
  · intro w'
    go_simp
    with_reducible rfl
  rotate_left
  · simp only [Act.put, List.setIfInBounds_toArray, List.set_cons_zero, List.set_cons_succ, i64_w, i32_w]
    rfl
  refine pure_ (i := 19) (N := some 53) (v := ?_) (a' := ?_) #[true, true, true, false, true, true, true, true, false, true, false, false, true, true, false, true, true, true, false, true, false, false, false, false, false, false, false, false] rfl rfl (any_of HT_.out (by kernel_rfl)) (fun _ _ _ h => h) (Or.inl ⟨by rfl, ?_⟩) ?_ ?_
  rotate_left
  · intro w'
    go_simp
    with_reducible rfl
  rotate_left
  · simp only [Act.put, List.setIfInBounds_toArray, List.set_cons_zero, List.set_cons_succ, i64_w, i32_w]
    rfl
  refine pure_ (i := 22) (N := some 56) (v := ?_) (a' := ?_) #[true, true, true, false, true, true, true, true, false, true, false, false, true, true, false, true, true, true, false, true, false, false, true, false, false, false, false, false] rfl rfl (any_of HT_.out (by kernel_rfl)) (fun _ _ _ h => h) (Or.inl ⟨by rfl, ?_⟩) ?_ ?_
  rotate_left
  · intro w'
    go_simp
    with_reducible rfl
  rotate_left
  · simp only [Act.put, List.setIfInBounds_toArray, List.set_cons_zero, List.set_cons_succ, i64_w, i32_w]
    rfl
  refine pure_ (i := 23) (N := some 57) (v := ?_) (a' := ?_) #[true, true, true, false, true, true, true, true, false, true, false, false, true, true, false, true, true, true, false, true, false, false, true, true, false, false, false, false] rfl rfl (any_of HT_.out (by kernel_rfl)) (fun _ _ _ h => h) (Or.inl ⟨by rfl, ?_⟩) ?_ ?_
  rotate_left
  · intro w'
    go_simp
    with_reducible rfl
  rotate_left
  · simp only [Act.put, List.setIfInBounds_toArray, List.set_cons_zero, List.set_cons_succ, i64_w, i32_w]
    rfl
  refine take_ (i := 3) (N := some 37) (v := ?_) (a' := ?_) #[true, true, true, true, true, true, true, true, false, true, false, false, true, true, false, true, true, true, false, true, false, false, true, true, false, false, false, false] rfl rfl (take_ofW HT_.out HW_.out (by kernel_rfl)) (fun _ _ _ h => h) (Or.inl ⟨by rfl, ?_⟩) hHeld ?_ ?_
  rotate_left
  · rintro w' ⟨s0, s1⟩
    go_simp
    with_reducible rfl
  rotate_left
  · simp only [Act.put, List.setIfInBounds_toArray, List.set_cons_zero, List.set_cons_succ, i64_w, i32_w]
    rfl
  refine take_ (i := 8) (N := some 42) (v := ?_) (a' := ?_) #[true, true, true, true, true, true, true, true, true, true, false, false, true, true, false, true, true, true, false, true, false, false, true, true, false, false, false, false] rfl rfl (take_ofW HT_.out HW_.out (by kernel_rfl)) (fun _ _ _ h => h) (Or.inl ⟨by rfl, ?_⟩) hHeld ?_ ?_
  rotate_left
  · rintro w' ⟨s0, s1⟩
    go_simp
    with_reducible rfl
  rotate_left
  · simp only [Act.put, List.setIfInBounds_toArray, List.set_cons_zero, List.set_cons_succ, i64_w, i32_w]
    rfl
  refine pure_ (i := 10) (N := some 44) (v := ?_) (a' := ?_) #[true, true, true, true, true, true, true, true, true, true, true, false, true, true, false, true, true, true, false, true, false, false, true, true, false, false, false, false] rfl rfl (any_of HT_.out (by kernel_rfl)) (fun _ _ _ h => h) (Or.inl ⟨by rfl, ?_⟩) ?_ ?_
  rotate_left
  · intro w'
    go_simp
    with_reducible rfl
  rotate_left
  · simp only [Act.put, List.setIfInBounds_toArray, List.set_cons_zero, List.set_cons_succ, i64_w, i32_w]
    rfl
  refine take_ (i := 11) (N := some 45) (v := ?_) (a' := ?_) #[true, true, true, true, true, true, true, true, true, true, true, true, true, true, false, true, true, true, false, true, false, false, true, true, false, false, false, false] rfl rfl (take_ofW HT_.out HW_.out (by kernel_rfl)) (fun _ _ _ h => h) (Or.inl ⟨by rfl, ?_⟩) hHeld ?_ ?_
  rotate_left
  · rintro w' ⟨s0, s1⟩
    go_simp
    with_reducible rfl
  rotate_left
  · simp only [Act.put, List.setIfInBounds_toArray, List.set_cons_zero, List.set_cons_succ, i64_w, i32_w]
    rfl
  refine pure_ (i := 14) (N := some 48) (v := ?_) (a' := ?_) #[true, true, true, true, true, true, true, true, true, true, true, true, true, true, true, true, true, true, false, true, false, false, true, true, false, false, false, false] rfl rfl (any_of HT_.out (by kernel_rfl)) (fun _ _ _ h => h) (Or.inl ⟨by rfl, ?_⟩) ?_ ?_
  rotate_left
  · intro w'
    go_simp
    with_reducible rfl
  rotate_left
  · simp only [Act.put, List.setIfInBounds_toArray, List.set_cons_zero, List.set_cons_succ, i64_w, i32_w]
    rfl
  refine take_ (i := 18) (N := some 52) (v := ?_) (a' := ?_) #[true, true, true, true, true, true, true, true, true, true, true, true, true, true, true, true, true, true, true, true, false, false, true, true, false, false, false, false] rfl rfl (take_ofW HT_.out HW_.out (by kernel_rfl)) (fun _ _ _ h => h) (Or.inl ⟨by rfl, ?_⟩) hHeld ?_ ?_
  rotate_left
  · rintro w' ⟨s0, s1⟩
    go_simp
    with_reducible rfl
  rotate_left
  · simp only [Act.put, List.setIfInBounds_toArray, List.set_cons_zero, List.set_cons_succ, i64_w, i32_w]
    rfl
  refine pure_ (i := 20) (N := some 54) (v := ?_) (a' := ?_) #[true, true, true, true, true, true, true, true, true, true, true, true, true, true, true, true, true, true, true, true, true, false, true, true, false, false, false, false] rfl rfl (any_of HT_.out (by kernel_rfl)) (fun _ _ _ h => h) (Or.inl ⟨by rfl, ?_⟩) ?_ ?_
  rotate_left
  · intro w'
    go_simp
    with_reducible rfl
  rotate_left
  · simp only [Act.put, List.setIfInBounds_toArray, List.set_cons_zero, List.set_cons_succ, i64_w, i32_w]
    rfl
  refine take_ (i := 21) (N := some 55) (v := ?_) (a' := ?_) #[true, true, true, true, true, true, true, true, true, true, true, true, true, true, true, true, true, true, true, true, true, true, true, true, false, false, false, false] rfl rfl (take_ofW HT_.out HW_.out (by kernel_rfl)) (fun _ _ _ h => h) (Or.inl ⟨by rfl, ?_⟩) hHeld ?_ ?_
  rotate_left
  · rintro w' ⟨s0, s1⟩
    go_simp
    with_reducible rfl
  rotate_left
  · simp only [Act.put, List.setIfInBounds_toArray, List.set_cons_zero, List.set_cons_succ, i64_w, i32_w]
    rfl
  refine pure_ (i := 24) (N := some 58) (v := ?_) (a' := ?_) #[true, true, true, true, true, true, true, true, true, true, true, true, true, true, true, true, true, true, true, true, true, true, true, true, true, false, false, false] rfl rfl (any_of HT_.out (by kernel_rfl)) (fun _ _ _ h => h) (Or.inl ⟨by rfl, ?_⟩) ?_ ?_
  rotate_left
  · intro w'
    go_simp
    with_reducible rfl
  rotate_left
  · simp only [Act.put, List.setIfInBounds_toArray, List.set_cons_zero, List.set_cons_succ, i64_w, i32_w]
    rfl
  refine one_ (i := 25) (N := some 59) #[true, true, true, true, true, true, true, true, true, true, true, true, true, true, true, true, true, true, true, true, true, true, true, true, true, true, false, false] rfl rfl (one_of HT_.out (by kernel_rfl)) (by decide) (fun K hK => ?_)
  refine step_cut (by rfl) (.tmp 48) (.tmp 58) 43 3 (.int .i64 0) 8 rfl hu43 info3 rfl (by decide) Ai ((nums .i64 d).take j) j (by simp only [nums_length, strs_length, List.length_set, List.length_take]; omega) A2 ((nums .i64 d).drop (j + 1)) (_ - (j + 1)) (ci - (j + 1)) (by simp only [nums_length, strs_length, List.length_set, List.length_drop]) rfl rfl ((CEI.out.step HBW.out).take _) (CA2.out.step HBW.out) (by have := HDL.out; omega) ?_
  intro v59 w59 ho_ hb_
  obtain ⟨A59, n59, c59, ev59⟩ := cut_form ho_
  subst ev59
  have HO59 := Aside0.mk ho_
  have HX59 := Aside0.mk hb_
  clear ho_ hb_
  have HB59 := Aside0.mk (below_step HBW.out HX59.out)
  have f59 := frozen_below HB59.out hcell hfro
  refine hK.out _ _ ⟨pw_cell_below HB59.out k1, pw_cell_below HB59.out hcell⟩ (fun hHeld => ?_)
  clear hK K
  refine norm_ (a' := ?_) ?_ ?_
  rotate_left
  · show Act.put _ (some 59) _ = _
    simp only [Act.put, List.setIfInBounds_toArray, List.set_cons_zero, List.set_cons_succ, i64_w, i32_w]
    rfl
  refine pure_ (i := 26) (N := some 60) (v := ?_) (a' := ?_) #[true, true, true, true, true, true, true, true, true, true, true, true, true, true, true, true, true, true, true, true, true, true, true, true, true, true, true, false] rfl rfl (any_of HT_.out (by kernel_rfl)) (fun _ _ _ h => h) (Or.inl ⟨by rfl, ?_⟩) ?_ ?_
  rotate_left
  · intro w'
    go_simp
    with_reducible rfl
  rotate_left
  · simp only [Act.put, List.setIfInBounds_toArray, List.set_cons_zero, List.set_cons_succ, i64_w, i32_w]
    rfl
  refine last_ (i := 27) (N := none) #[true, true, true, true, true, true, true, true, true, true, true, true, true, true, true, true, true, true, true, true, true, true, true, true, true, true, true, true] rfl rfl (one_of HT_.out (by kernel_rfl)) (by decide) (fun K hK => ?_)
  go_simp
  refine hK.out _ _ ?_
  clear hK K
  refine done_ (done_of HT_.out (by kernel_rfl)) ?_
  obtain ⟨S9, Ae, ce, ee⟩ := docs_put S.out 3 rfl HVI.out HD.out HJ.out HO59.out HX59.out
  injection ee with e1 e2 e3
  subst e1; subst e2; subst e3
  replace S := Aside0.mk (hd_put' S9 2 rfl i p4 (.slice A59 (d.take j ++ d.drop (j + 1)).length c59) rfl)
  clear S9 HX59 HO59 HB59 f59 hHeld
  generalize w59.setCell ⟨gd, i, none⟩ (.slice A59 (d.take j ++ d.drop (j + 1)).length c59) = W5 at S ⊢
  have g0 := blk_cell (S.out.at_box 0 rfl) 0
  have g1 := blk_cell (S.out.at_box 0 rfl) 1
  simp only [List.getElem?_toArray, List.getElem?_cons_zero, List.getElem?_cons_succ] at g0 g1
  obtain ⟨hc5, hf5⟩ := hd_cell S.out 2 rfl i (show (dvs.set i (.slice A59 (d.take j ++ d.drop (j + 1)).length c59))[i]? = some (.slice A59 (d.take j ++ d.drop (j + 1)).length c59) by rw [List.getElem?_set, if_pos rfl, if_pos p4])
  generalize hlq : (d.take j ++ d.drop (j + 1)).length = q at S g0 g1 hc5 hf5 ⊢
  have LQ := Aside0.mk hlq
  clear hlq
  have q1 : ¬ q = 0 := by have := List.length_pos_iff.2 HNE.out; have := LQ.out; omega
  have q0 : ((q : Int) == 0) = false := beq_eq_false_iff_ne.2 (by omega)
  have q2 : decide (q = 0) = false := decide_eq_false q1
  have q3 : ¬ ((q : Int) = 0) := by omega
  have q4 : decide ((q : Int) = 0) = false := decide_eq_false q3
  go_wp2
  go_end0
  first | exact ⟨rfl, _, S.out⟩ | (have hS := S.out; rw [List.map_set] at hS; exact ⟨rfl, _, hS⟩)
set_option maxHeartbeats 4000000 in
set_option maxRecDepth 100000 in
theorem drop_out {w0 w : World} {L : List (Thing w0.heap.size)} {g : Nat} {wv dv bv : Value} {dvs : List Value} {ws : List ByteArray} {ds : List (List Int)} (S : Sep w0 w (Box _ g 56 #[wv, dv, bv] :: Fz _ wv (pw_strs ws) :: Hd _ 43 dv dvs :: FzN _ dvs (ds.map (nums .i64)) :: L)) (hwl : ws.length ≤ 1000000) (hds : ds.length = ws.length) (s : ByteArray) (doc : Int) (k : Nat) (i : Nat) (h : slices_BinarySearch_string_string.f k ws s = some ((i : Int), true)) (d : List Int) (hd : ds[i]? = some d) (hdl : d.length ≤ 1000000) (k2 : Nat) (j : Nat) (h2 : slices_BinarySearch_int_int.f k2 d doc = some ((j : Int), true)) (hj : j < d.length) (hne : d.take j ++ d.drop (j + 1) = []) :
    Calls Try.prog 28 #[.pointer (some ⟨g, 0, none⟩), .string s, .int .i64 doc] w fun e w' => e = .returned (.tuple #[]) ∧ ∃ wv2 dv2 dvs2, Sep w0 w' (Box _ g 56 #[wv2, dv2, bv] :: Fz _ wv2 (pw_strs (ws.eraseIdx i)) :: Hd _ 43 dv2 dvs2 :: FzN _ dvs2 ((ds.eraseIdx i).map (nums .i64)) :: L) := by
  obtain ⟨A, c, rfl, hc, hCE, hC⟩ := fz_strs S 1 rfl hwl
  have hdn := fzn_len S 3 rfl
  obtain ⟨Ai, ci, hvi, hci, hCEi, hCi⟩ := fzn_ints S 3 rfl i d hd hdl
  obtain ⟨gd, cd, rfl, hcd, hcell, hfro, hCEd⟩ := hd_at S 2 rfl i hvi
  have k0 := blk_cell (S.at_box 0 rfl) 0
  have k1 := blk_cell (S.at_box 0 rfl) 1
  simp only [List.getElem?_toArray, List.getElem?_cons_zero, List.getElem?_cons_succ] at k0 k1
  have f0 := blk_frozen (S.at_box 0 rfl) 0
  have f1 := blk_frozen (S.at_box 0 rfl) 1
  have hil : i < ds.length := (List.getElem?_eq_some_iff.1 hd).1
  have p0 : decide ((0 : Int) ≤ (i : Int)) = true := decide_eq_true (by omega)
  have p1 : decide ((i : Int) < (dvs.length : Int)) = true := decide_eq_true (by omega)
  have p2 : (0 : Int) ≤ (i : Int) := by omega
  have p3 : (i : Int) < (dvs.length : Int) := by omega
  have p4 : i < dvs.length := by omega
  have HC0 := Aside0.mk hC
  have HCC := Aside0.mk hc
  have HB := Aside0.mk h
  have HCi := Aside0.mk hCi
  have HCCi := Aside0.mk hci
  have HBi := Aside0.mk h2
  have HVI := Aside0.mk hvi
  have HDN := Aside0.mk hdn
  have HDS := Aside0.mk hds
  have HD := Aside0.mk hd
  have HL := Aside0.mk hwl
  have HDL := Aside0.mk hdl
  have HCD := Aside0.mk hcd
  have HIL := Aside0.mk hil
  have CED := Aside0.mk hCEd
  have CEI := Aside0.mk hCEi
  have CEW := Aside0.mk hCE
  have S := Aside0.mk S
  clear h hC hc hCE hwl h2 hCi hci hCEi hCEd hcd hvi hdn hds hd hdl hil
  have hu43 := Try.underlying43
  have r0 : decide ((0 : Int) ≤ (j : Int)) = true := decide_eq_true (by omega)
  have r1 : (0 : Int) ≤ (j : Int) := by omega
  have hcj : j < ci := by have := HCCi.out; omega
  have r2 : (j : Int) ≤ (ci : Int) := by omega
  have r3 : IntKind.i64.wrap ((j : Int) + 1) = (j : Int) + 1 := i64_small _ (by omega) (by have := HDL.out; omega)
  have r4 : (0 : Int) ≤ (j : Int) + 1 := by omega
  have r5 : (j : Int) + 1 ≤ (d.length : Int) := by omega
  have r6 : (j : Int) + 1 ≤ (ci : Int) := by omega
  have rt : ((j : Int) + 1).toNat = j + 1 := by omega
  have r7 : j ≤ ci := by omega
  have r8 : j + 1 ≤ d.length := by omega
  have r9 : j + 1 ≤ ci := by omega
  have HJ := Aside0.mk hj
  clear hj hcj
  obtain ⟨A2, hA2⟩ : ∃ x : Option Addr, (if ci = j + 1 then Ai else Option.map (fun x => (⟨x.block, x.off + (j + 1), none⟩ : Addr)) Ai) = x := ⟨_, rfl⟩
  have CA2 : Aside0 (CellsAt w A2 ((nums .i64 d).drop (j + 1))) := ⟨by rw [← hA2]; exact CellsAt.cut CEI.out (j + 1) ci (by simp only [nums_length, strs_length]; exact HCCi.out)⟩
  have HNE := Aside0.mk hne
  clear hne
  go_enter Try.func28, Try.ntmps28
  go_upto_region 4 with (first | (go_at_call 35; (with_reducible refine (bs_str k ws s _ _ A c w HC0.out HCC.out HB.out).mono ?_); rintro e_ w_ ⟨rfl, n1, rfl⟩; skip) | (go_at_call 38; (with_reducible refine (bs_int k2 d doc _ _ Ai ci _ (Kd.C_below HCi.out (pw_below_drewN (Below.refl _ _) n1)) HCCi.out HBi.out).mono ?_); rintro e_ w_ ⟨rfl, n2, rfl⟩; skip) | fail)
  refine start_ (n := 28) (S := fun w' => w'.cell? ⟨g, 1, none⟩ = some (.slice (some ⟨gd, 0, none⟩) dvs.length cd) ∧ w'.cell? ⟨gd, i, none⟩ = some (.slice Ai d.length ci)) (ds := [27]) #[false, false, false, false, false, false, false, false, false, false, false, false, false, false, false, false, false, false, false, false, false, false, false, false, false, false, false, false] (by kernel_rfl) rfl rfl ⟨k1, hcell⟩ (fun hHeld => ?_); refine with_tabW dr4_tab dr4_bits (fun HT_ HW_ => ?_)
  have HBW := Aside0.mk (below_drew (pw_below_drewN (Below.refl w.heap.size w) (n1 + n2)))
  generalize (w.drewN (n1 + n2)).drew = W4 at HBW hHeld ⊢
  replace S := Aside0.mk (S.out.step HBW.out)
  refine pure_ (i := 0) (N := some 34) (v := ?_) (a' := ?_) #[true, false, false, false, false, false, false, false, false, false, false, false, false, false, false, false, false, false, false, false, false, false, false, false, false, false, false, false] rfl rfl (any_of HT_.out (by kernel_rfl)) (fun _ _ _ h => h) (Or.inl ⟨by rfl, ?_⟩) ?_ ?_
  rotate_left
  · intro w'
    go_simp
    with_reducible rfl
  rotate_left
  · simp only [Act.put, List.setIfInBounds_toArray, List.set_cons_zero, List.set_cons_succ, i64_w, i32_w]
    rfl
  refine pure_ (i := 1) (N := some 35) (v := ?_) (a' := ?_) #[true, true, false, false, false, false, false, false, false, false, false, false, false, false, false, false, false, false, false, false, false, false, false, false, false, false, false, false] rfl rfl (any_of HT_.out (by kernel_rfl)) (fun _ _ _ h => h) (Or.inl ⟨by rfl, ?_⟩) ?_ ?_
  rotate_left
  · intro w'
    go_simp
    with_reducible rfl
  rotate_left
  · simp only [Act.put, List.setIfInBounds_toArray, List.set_cons_zero, List.set_cons_succ, i64_w, i32_w]
    rfl
  refine pure_ (i := 2) (N := some 36) (v := ?_) (a' := ?_) #[true, true, true, false, false, false, false, false, false, false, false, false, false, false, false, false, false, false, false, false, false, false, false, false, false, false, false, false] rfl rfl (any_of HT_.out (by kernel_rfl)) (fun _ _ _ h => h) (Or.inl ⟨by rfl, ?_⟩) ?_ ?_
  rotate_left
  · intro w'
    go_simp
    with_reducible rfl
  rotate_left
  · simp only [Act.put, List.setIfInBounds_toArray, List.set_cons_zero, List.set_cons_succ, i64_w, i32_w]
    rfl
  refine pure_ (i := 4) (N := some 38) (v := ?_) (a' := ?_) #[true, true, true, false, true, false, false, false, false, false, false, false, false, false, false, false, false, false, false, false, false, false, false, false, false, false, false, false] rfl rfl (any_of HT_.out (by kernel_rfl)) (fun _ _ _ h => h) (Or.inl ⟨by rfl, ?_⟩) ?_ ?_
  rotate_left
  · intro w'
    go_simp
    with_reducible rfl
  rotate_left
  · simp only [Act.put, List.setIfInBounds_toArray, List.set_cons_zero, List.set_cons_succ, i64_w, i32_w]
    rfl
  refine pure_ (i := 5) (N := some 39) (v := ?_) (a' := ?_) #[true, true, true, false, true, true, false, false, false, false, false, false, false, false, false, false, false, false, false, false, false, false, false, false, false, false, false, false] rfl rfl (any_of HT_.out (by kernel_rfl)) (fun _ _ _ h => h) (Or.inl ⟨by rfl, ?_⟩) ?_ ?_
  rotate_left
  · intro w'
    go_simp
    with_reducible rfl
  rotate_left
  · simp only [Act.put, List.setIfInBounds_toArray, List.set_cons_zero, List.set_cons_succ, i64_w, i32_w]
    rfl
  refine pure_ (i := 6) (N := some 40) (v := ?_) (a' := ?_) #[true, true, true, false, true, true, true, false, false, false, false, false, false, false, false, false, false, false, false, false, false, false, false, false, false, false, false, false] rfl rfl (any_of HT_.out (by kernel_rfl)) (fun _ _ _ h => h) (Or.inl ⟨by rfl, ?_⟩) ?_ ?_
  rotate_left
  · intro w'
    go_simp
    with_reducible rfl
  rotate_left
  · simp only [Act.put, List.setIfInBounds_toArray, List.set_cons_zero, List.set_cons_succ, i64_w, i32_w]
    rfl
  refine pure_ (i := 7) (N := some 41) (v := ?_) (a' := ?_) #[true, true, true, false, true, true, true, true, false, false, false, false, false, false, false, false, false, false, false, false, false, false, false, false, false, false, false, false] rfl rfl (any_of HT_.out (by kernel_rfl)) (fun _ _ _ h => h) (Or.inl ⟨by rfl, ?_⟩) ?_ ?_
  rotate_left
  · intro w'
    go_simp
    with_reducible rfl
  rotate_left
  · simp only [Act.put, List.setIfInBounds_toArray, List.set_cons_zero, List.set_cons_succ, i64_w, i32_w]
    rfl
  refine pure_ (i := 9) (N := some 43) (v := ?_) (a' := ?_) #[true, true, true, false, true, true, true, true, false, true, false, false, false, false, false, false, false, false, false, false, false, false, false, false, false, false, false, false] rfl rfl (any_of HT_.out (by kernel_rfl)) (fun _ _ _ h => h) (Or.inl ⟨by rfl, ?_⟩) ?_ ?_
  rotate_left
  · intro w'
    go_simp
    with_reducible rfl
  rotate_left
  · simp only [Act.put, List.setIfInBounds_toArray, List.set_cons_zero, List.set_cons_succ, i64_w, i32_w]
    rfl
  refine pure_ (i := 12) (N := some 46) (v := ?_) (a' := ?_) #[true, true, true, false, true, true, true, true, false, true, false, false, true, false, false, false, false, false, false, false, false, false, false, false, false, false, false, false] rfl rfl (any_of HT_.out (by kernel_rfl)) (fun _ _ _ h => h) (Or.inl ⟨by rfl, ?_⟩) ?_ ?_
  rotate_left
  · intro w'
    go_simp
    with_reducible rfl
  rotate_left
  · simp only [Act.put, List.setIfInBounds_toArray, List.set_cons_zero, List.set_cons_succ, i64_w, i32_w]
    rfl
  refine pure_ (i := 13) (N := some 47) (v := ?_) (a' := ?_) #[true, true, true, false, true, true, true, true, false, true, false, false, true, true, false, false, false, false, false, false, false, false, false, false, false, false, false, false] rfl rfl (any_of HT_.out (by kernel_rfl)) (fun _ _ _ h => h) (Or.inl ⟨by rfl, ?_⟩) ?_ ?_
  rotate_left
  · intro w'
    go_simp
    with_reducible rfl
  rotate_left
  · simp only [Act.put, List.setIfInBounds_toArray, List.set_cons_zero, List.set_cons_succ, i64_w, i32_w]
    rfl
  refine pure_ (i := 15) (N := some 49) (v := ?_) (a' := ?_) #[true, true, true, false, true, true, true, true, false, true, false, false, true, true, false, true, false, false, false, false, false, false, false, false, false, false, false, false] rfl rfl (any_of HT_.out (by kernel_rfl)) (fun _ _ _ h => h) (Or.inl ⟨by rfl, ?_⟩) ?_ ?_
  rotate_left
  · intro w'
    go_simp
    with_reducible rfl
  rotate_left
  · simp only [Act.put, List.setIfInBounds_toArray, List.set_cons_zero, List.set_cons_succ, i64_w, i32_w]
    rfl
  refine pure_ (i := 16) (N := some 50) (v := ?_) (a' := ?_) #[true, true, true, false, true, true, true, true, false, true, false, false, true, true, false, true, true, false, false, false, false, false, false, false, false, false, false, false] rfl rfl (any_of HT_.out (by kernel_rfl)) (fun _ _ _ h => h) (Or.inl ⟨by rfl, ?_⟩) ?_ ?_
  rotate_left
  · intro w'
    go_simp
    with_reducible rfl
  rotate_left
  · simp only [Act.put, List.setIfInBounds_toArray, List.set_cons_zero, List.set_cons_succ, i64_w, i32_w]
    rfl
  refine pure_ (i := 17) (N := some 51) (v := ?_) (a' := ?_) #[true, true, true, false, true, true, true, true, false, true, false, false, true, true, false, true, true, true, false, false, false, false, false, false, false, false, false, false] rfl rfl (any_of HT_.out (by kernel_rfl)) (fun _ _ _ h => h) (Or.inl ⟨by rfl, ?_⟩) ?_ ?_
  rotate_left
  · intro w'
    go_simp
    with_reducible rfl
  rotate_left
  · simp only [Act.put, List.setIfInBounds_toArray, List.set_cons_zero, List.set_cons_succ, i64_w, i32_w]
    rfl
  refine pure_ (i := 19) (N := some 53) (v := ?_) (a' := ?_) #[true, true, true, false, true, true, true, true, false, true, false, false, true, true, false, true, true, true, false, true, false, false, false, false, false, false, false, false] rfl rfl (any_of HT_.out (by kernel_rfl)) (fun _ _ _ h => h) (Or.inl ⟨by rfl, ?_⟩) ?_ ?_
  rotate_left
  · intro w'
    go_simp
    with_reducible rfl
  rotate_left
  · simp only [Act.put, List.setIfInBounds_toArray, List.set_cons_zero, List.set_cons_succ, i64_w, i32_w]
    rfl
  refine pure_ (i := 22) (N := some 56) (v := ?_) (a' := ?_) #[true, true, true, false, true, true, true, true, false, true, false, false, true, true, false, true, true, true, false, true, false, false, true, false, false, false, false, false] rfl rfl (any_of HT_.out (by kernel_rfl)) (fun _ _ _ h => h) (Or.inl ⟨by rfl, ?_⟩) ?_ ?_
  rotate_left
  · intro w'
    go_simp
    with_reducible rfl
  rotate_left
  · simp only [Act.put, List.setIfInBounds_toArray, List.set_cons_zero, List.set_cons_succ, i64_w, i32_w]
    rfl
  refine pure_ (i := 23) (N := some 57) (v := ?_) (a' := ?_) #[true, true, true, false, true, true, true, true, false, true, false, false, true, true, false, true, true, true, false, true, false, false, true, true, false, false, false, false] rfl rfl (any_of HT_.out (by kernel_rfl)) (fun _ _ _ h => h) (Or.inl ⟨by rfl, ?_⟩) ?_ ?_
  rotate_left
  · intro w'
    go_simp
    with_reducible rfl
  rotate_left
  · simp only [Act.put, List.setIfInBounds_toArray, List.set_cons_zero, List.set_cons_succ, i64_w, i32_w]
    rfl
  refine take_ (i := 3) (N := some 37) (v := ?_) (a' := ?_) #[true, true, true, true, true, true, true, true, false, true, false, false, true, true, false, true, true, true, false, true, false, false, true, true, false, false, false, false] rfl rfl (take_ofW HT_.out HW_.out (by kernel_rfl)) (fun _ _ _ h => h) (Or.inl ⟨by rfl, ?_⟩) hHeld ?_ ?_
  rotate_left
  · rintro w' ⟨s0, s1⟩
    go_simp
    with_reducible rfl
  rotate_left
  · simp only [Act.put, List.setIfInBounds_toArray, List.set_cons_zero, List.set_cons_succ, i64_w, i32_w]
    rfl
  refine take_ (i := 8) (N := some 42) (v := ?_) (a' := ?_) #[true, true, true, true, true, true, true, true, true, true, false, false, true, true, false, true, true, true, false, true, false, false, true, true, false, false, false, false] rfl rfl (take_ofW HT_.out HW_.out (by kernel_rfl)) (fun _ _ _ h => h) (Or.inl ⟨by rfl, ?_⟩) hHeld ?_ ?_
  rotate_left
  · rintro w' ⟨s0, s1⟩
    go_simp
    with_reducible rfl
  rotate_left
  · simp only [Act.put, List.setIfInBounds_toArray, List.set_cons_zero, List.set_cons_succ, i64_w, i32_w]
    rfl
  refine pure_ (i := 10) (N := some 44) (v := ?_) (a' := ?_) #[true, true, true, true, true, true, true, true, true, true, true, false, true, true, false, true, true, true, false, true, false, false, true, true, false, false, false, false] rfl rfl (any_of HT_.out (by kernel_rfl)) (fun _ _ _ h => h) (Or.inl ⟨by rfl, ?_⟩) ?_ ?_
  rotate_left
  · intro w'
    go_simp
    with_reducible rfl
  rotate_left
  · simp only [Act.put, List.setIfInBounds_toArray, List.set_cons_zero, List.set_cons_succ, i64_w, i32_w]
    rfl
  refine take_ (i := 11) (N := some 45) (v := ?_) (a' := ?_) #[true, true, true, true, true, true, true, true, true, true, true, true, true, true, false, true, true, true, false, true, false, false, true, true, false, false, false, false] rfl rfl (take_ofW HT_.out HW_.out (by kernel_rfl)) (fun _ _ _ h => h) (Or.inl ⟨by rfl, ?_⟩) hHeld ?_ ?_
  rotate_left
  · rintro w' ⟨s0, s1⟩
    go_simp
    with_reducible rfl
  rotate_left
  · simp only [Act.put, List.setIfInBounds_toArray, List.set_cons_zero, List.set_cons_succ, i64_w, i32_w]
    rfl
  refine pure_ (i := 14) (N := some 48) (v := ?_) (a' := ?_) #[true, true, true, true, true, true, true, true, true, true, true, true, true, true, true, true, true, true, false, true, false, false, true, true, false, false, false, false] rfl rfl (any_of HT_.out (by kernel_rfl)) (fun _ _ _ h => h) (Or.inl ⟨by rfl, ?_⟩) ?_ ?_
  rotate_left
  · intro w'
    go_simp
    with_reducible rfl
  rotate_left
  · simp only [Act.put, List.setIfInBounds_toArray, List.set_cons_zero, List.set_cons_succ, i64_w, i32_w]
    rfl
  refine take_ (i := 18) (N := some 52) (v := ?_) (a' := ?_) #[true, true, true, true, true, true, true, true, true, true, true, true, true, true, true, true, true, true, true, true, false, false, true, true, false, false, false, false] rfl rfl (take_ofW HT_.out HW_.out (by kernel_rfl)) (fun _ _ _ h => h) (Or.inl ⟨by rfl, ?_⟩) hHeld ?_ ?_
  rotate_left
  · rintro w' ⟨s0, s1⟩
    go_simp
    with_reducible rfl
  rotate_left
  · simp only [Act.put, List.setIfInBounds_toArray, List.set_cons_zero, List.set_cons_succ, i64_w, i32_w]
    rfl
  refine pure_ (i := 20) (N := some 54) (v := ?_) (a' := ?_) #[true, true, true, true, true, true, true, true, true, true, true, true, true, true, true, true, true, true, true, true, true, false, true, true, false, false, false, false] rfl rfl (any_of HT_.out (by kernel_rfl)) (fun _ _ _ h => h) (Or.inl ⟨by rfl, ?_⟩) ?_ ?_
  rotate_left
  · intro w'
    go_simp
    with_reducible rfl
  rotate_left
  · simp only [Act.put, List.setIfInBounds_toArray, List.set_cons_zero, List.set_cons_succ, i64_w, i32_w]
    rfl
  refine take_ (i := 21) (N := some 55) (v := ?_) (a' := ?_) #[true, true, true, true, true, true, true, true, true, true, true, true, true, true, true, true, true, true, true, true, true, true, true, true, false, false, false, false] rfl rfl (take_ofW HT_.out HW_.out (by kernel_rfl)) (fun _ _ _ h => h) (Or.inl ⟨by rfl, ?_⟩) hHeld ?_ ?_
  rotate_left
  · rintro w' ⟨s0, s1⟩
    go_simp
    with_reducible rfl
  rotate_left
  · simp only [Act.put, List.setIfInBounds_toArray, List.set_cons_zero, List.set_cons_succ, i64_w, i32_w]
    rfl
  refine pure_ (i := 24) (N := some 58) (v := ?_) (a' := ?_) #[true, true, true, true, true, true, true, true, true, true, true, true, true, true, true, true, true, true, true, true, true, true, true, true, true, false, false, false] rfl rfl (any_of HT_.out (by kernel_rfl)) (fun _ _ _ h => h) (Or.inl ⟨by rfl, ?_⟩) ?_ ?_
  rotate_left
  · intro w'
    go_simp
    with_reducible rfl
  rotate_left
  · simp only [Act.put, List.setIfInBounds_toArray, List.set_cons_zero, List.set_cons_succ, i64_w, i32_w]
    rfl
  refine one_ (i := 25) (N := some 59) #[true, true, true, true, true, true, true, true, true, true, true, true, true, true, true, true, true, true, true, true, true, true, true, true, true, true, false, false] rfl rfl (one_of HT_.out (by kernel_rfl)) (by decide) (fun K hK => ?_)
  refine step_cut (by rfl) (.tmp 48) (.tmp 58) 43 3 (.int .i64 0) 8 rfl hu43 info3 rfl (by decide) Ai ((nums .i64 d).take j) j (by simp only [nums_length, strs_length, List.length_set, List.length_take]; omega) A2 ((nums .i64 d).drop (j + 1)) (_ - (j + 1)) (ci - (j + 1)) (by simp only [nums_length, strs_length, List.length_set, List.length_drop]) rfl rfl ((CEI.out.step HBW.out).take _) (CA2.out.step HBW.out) (by have := HDL.out; omega) ?_
  intro v59 w59 ho_ hb_
  obtain ⟨A59, n59, c59, ev59⟩ := cut_form ho_
  subst ev59
  have HO59 := Aside0.mk ho_
  have HX59 := Aside0.mk hb_
  clear ho_ hb_
  have HB59 := Aside0.mk (below_step HBW.out HX59.out)
  have f59 := frozen_below HB59.out hcell hfro
  refine hK.out _ _ ⟨pw_cell_below HB59.out k1, pw_cell_below HB59.out hcell⟩ (fun hHeld => ?_)
  clear hK K
  refine norm_ (a' := ?_) ?_ ?_
  rotate_left
  · show Act.put _ (some 59) _ = _
    simp only [Act.put, List.setIfInBounds_toArray, List.set_cons_zero, List.set_cons_succ, i64_w, i32_w]
    rfl
  refine pure_ (i := 26) (N := some 60) (v := ?_) (a' := ?_) #[true, true, true, true, true, true, true, true, true, true, true, true, true, true, true, true, true, true, true, true, true, true, true, true, true, true, true, false] rfl rfl (any_of HT_.out (by kernel_rfl)) (fun _ _ _ h => h) (Or.inl ⟨by rfl, ?_⟩) ?_ ?_
  rotate_left
  · intro w'
    go_simp
    with_reducible rfl
  rotate_left
  · simp only [Act.put, List.setIfInBounds_toArray, List.set_cons_zero, List.set_cons_succ, i64_w, i32_w]
    rfl
  refine last_ (i := 27) (N := none) #[true, true, true, true, true, true, true, true, true, true, true, true, true, true, true, true, true, true, true, true, true, true, true, true, true, true, true, true] rfl rfl (one_of HT_.out (by kernel_rfl)) (by decide) (fun K hK => ?_)
  go_simp
  refine hK.out _ _ ?_
  clear hK K
  refine done_ (done_of HT_.out (by kernel_rfl)) ?_
  obtain ⟨S9, Ae, ce, ee⟩ := docs_put S.out 3 rfl HVI.out HD.out HJ.out HO59.out HX59.out
  injection ee with e1 e2 e3
  subst e1; subst e2; subst e3
  replace S := Aside0.mk (hd_put' S9 2 rfl i p4 (.slice A59 (d.take j ++ d.drop (j + 1)).length c59) rfl)
  clear S9 HX59 HO59 HB59 f59 hHeld
  generalize w59.setCell ⟨gd, i, none⟩ (.slice A59 (d.take j ++ d.drop (j + 1)).length c59) = W5 at S ⊢
  have g0 := blk_cell (S.out.at_box 0 rfl) 0
  have g1 := blk_cell (S.out.at_box 0 rfl) 1
  simp only [List.getElem?_toArray, List.getElem?_cons_zero, List.getElem?_cons_succ] at g0 g1
  obtain ⟨hc5, hf5⟩ := hd_cell S.out 2 rfl i (show (dvs.set i (.slice A59 (d.take j ++ d.drop (j + 1)).length c59))[i]? = some (.slice A59 (d.take j ++ d.drop (j + 1)).length c59) by rw [List.getElem?_set, if_pos rfl, if_pos p4])
  generalize hlq : (d.take j ++ d.drop (j + 1)).length = q at S g0 g1 hc5 hf5 ⊢
  have LQ := Aside0.mk hlq
  clear hlq
  obtain rfl : q = 0 := by rw [← LQ.out, HNE.out]; rfl
  have s1 : (i : Int) ≤ (c : Int) := by have := HCC.out; have := HDS.out; have := HIL.out; omega
  have s2 : IntKind.i64.wrap ((i : Int) + 1) = (i : Int) + 1 := i64_small _ (by omega) (by have := HL.out; have := HDS.out; have := HIL.out; omega)
  have s3 : (0 : Int) ≤ (i : Int) + 1 := by omega
  have s4 : (i : Int) + 1 ≤ (ws.length : Int) := by have := HDS.out; have := HIL.out; omega
  have s5 : (i : Int) + 1 ≤ (c : Int) := by have := HCC.out; omega
  have s6 : ((i : Int) + 1).toNat = i + 1 := by omega
  have s7 : i ≤ c := by omega
  have s8 : i + 1 ≤ ws.length := by omega
  have s9 : i + 1 ≤ c := by omega
  have t1 : (i : Int) ≤ (cd : Int) := by have := HCD.out; omega
  have t4 : (i : Int) + 1 ≤ (dvs.length : Int) := by omega
  have t5 : (i : Int) + 1 ≤ (cd : Int) := by have := HCD.out; omega
  have t7 : i ≤ cd := by omega
  have t8 : i + 1 ≤ dvs.length := by omega
  have t9 : i + 1 ≤ cd := by omega
  have hu33 := Try.underlying33
  have hu54 := Try.underlying54
  have h0 := blk_frozen (S.out.at_box 0 rfl) 0
  have h1 := blk_frozen (S.out.at_box 0 rfl) 1
  have CEW5 := Aside0.mk (fz_CE S.out 1 rfl)
  obtain ⟨A3, hA3⟩ : ∃ x : Option Addr, (if c = i + 1 then A else Option.map (fun x => (⟨x.block, x.off + (i + 1), none⟩ : Addr)) A) = x := ⟨_, rfl⟩
  have CA3 : Aside0 (CellsAt W5 A3 ((pw_strs ws).drop (i + 1))) := ⟨by rw [← hA3]; exact CellsAt.cut CEW5.out (i + 1) c (by simp only [nums_length, strs_length]; exact HCC.out)⟩
  go_upto_region 6 with (first | fail)
  refine start_ (n := 19) (S := fun w' => w'.cell? ⟨g, 0, none⟩ = some (.slice A ws.length c)) (ds := [18]) #[false, false, false, false, false, false, false, false, false, false, false, false, false, false, false, false, false, false, false] (by kernel_rfl) rfl rfl g0 (fun hHeld => ?_); refine with_tabW dr6_tab dr6_bits (fun HT_ HW_ => ?_)
  have HBW6 := Aside0.mk (below_drew (Below.refl W5.heap.size W5))
  replace S := Aside0.mk (S.out.drew)
  generalize W5.drew = W6 at S HBW6 hHeld ⊢
  refine pure_ (i := 0) (N := some 70) (v := ?_) (a' := ?_) #[true, false, false, false, false, false, false, false, false, false, false, false, false, false, false, false, false, false, false] rfl rfl (any_of HT_.out (by kernel_rfl)) (fun _ _ _ h => h) (Or.inl ⟨by rfl, ?_⟩) ?_ ?_
  rotate_left
  · intro w'
    go_simp
    with_reducible rfl
  rotate_left
  · simp only [Act.put, List.setIfInBounds_toArray, List.set_cons_zero, List.set_cons_succ, i64_w, i32_w]
    rfl
  refine pure_ (i := 1) (N := some 71) (v := ?_) (a' := ?_) #[true, true, false, false, false, false, false, false, false, false, false, false, false, false, false, false, false, false, false] rfl rfl (any_of HT_.out (by kernel_rfl)) (fun _ _ _ h => h) (Or.inl ⟨by rfl, ?_⟩) ?_ ?_
  rotate_left
  · intro w'
    go_simp
    with_reducible rfl
  rotate_left
  · simp only [Act.put, List.setIfInBounds_toArray, List.set_cons_zero, List.set_cons_succ, i64_w, i32_w]
    rfl
  refine pure_ (i := 2) (N := some 72) (v := ?_) (a' := ?_) #[true, true, true, false, false, false, false, false, false, false, false, false, false, false, false, false, false, false, false] rfl rfl (any_of HT_.out (by kernel_rfl)) (fun _ _ _ h => h) (Or.inl ⟨by rfl, ?_⟩) ?_ ?_
  rotate_left
  · intro w'
    go_simp
    with_reducible rfl
  rotate_left
  · simp only [Act.put, List.setIfInBounds_toArray, List.set_cons_zero, List.set_cons_succ, i64_w, i32_w]
    rfl
  refine pure_ (i := 3) (N := some 73) (v := ?_) (a' := ?_) #[true, true, true, true, false, false, false, false, false, false, false, false, false, false, false, false, false, false, false] rfl rfl (any_of HT_.out (by kernel_rfl)) (fun _ _ _ h => h) (Or.inl ⟨by rfl, ?_⟩) ?_ ?_
  rotate_left
  · intro w'
    go_simp
    with_reducible rfl
  rotate_left
  · simp only [Act.put, List.setIfInBounds_toArray, List.set_cons_zero, List.set_cons_succ, i64_w, i32_w]
    rfl
  refine pure_ (i := 5) (N := some 75) (v := ?_) (a' := ?_) #[true, true, true, true, false, true, false, false, false, false, false, false, false, false, false, false, false, false, false] rfl rfl (any_of HT_.out (by kernel_rfl)) (fun _ _ _ h => h) (Or.inl ⟨by rfl, ?_⟩) ?_ ?_
  rotate_left
  · intro w'
    go_simp
    with_reducible rfl
  rotate_left
  · simp only [Act.put, List.setIfInBounds_toArray, List.set_cons_zero, List.set_cons_succ, i64_w, i32_w]
    rfl
  refine pure_ (i := 6) (N := some 76) (v := ?_) (a' := ?_) #[true, true, true, true, false, true, true, false, false, false, false, false, false, false, false, false, false, false, false] rfl rfl (any_of HT_.out (by kernel_rfl)) (fun _ _ _ h => h) (Or.inl ⟨by rfl, ?_⟩) ?_ ?_
  rotate_left
  · intro w'
    go_simp
    with_reducible rfl
  rotate_left
  · simp only [Act.put, List.setIfInBounds_toArray, List.set_cons_zero, List.set_cons_succ, i64_w, i32_w]
    rfl
  refine pure_ (i := 8) (N := some 78) (v := ?_) (a' := ?_) #[true, true, true, true, false, true, true, false, true, false, false, false, false, false, false, false, false, false, false] rfl rfl (any_of HT_.out (by kernel_rfl)) (fun _ _ _ h => h) (Or.inl ⟨by rfl, ?_⟩) ?_ ?_
  rotate_left
  · intro w'
    go_simp
    with_reducible rfl
  rotate_left
  · simp only [Act.put, List.setIfInBounds_toArray, List.set_cons_zero, List.set_cons_succ, i64_w, i32_w]
    rfl
  refine pure_ (i := 9) (N := some 79) (v := ?_) (a' := ?_) #[true, true, true, true, false, true, true, false, true, true, false, false, false, false, false, false, false, false, false] rfl rfl (any_of HT_.out (by kernel_rfl)) (fun _ _ _ h => h) (Or.inl ⟨by rfl, ?_⟩) ?_ ?_
  rotate_left
  · intro w'
    go_simp
    with_reducible rfl
  rotate_left
  · simp only [Act.put, List.setIfInBounds_toArray, List.set_cons_zero, List.set_cons_succ, i64_w, i32_w]
    rfl
  refine pure_ (i := 10) (N := some 80) (v := ?_) (a' := ?_) #[true, true, true, true, false, true, true, false, true, true, true, false, false, false, false, false, false, false, false] rfl rfl (any_of HT_.out (by kernel_rfl)) (fun _ _ _ h => h) (Or.inl ⟨by rfl, ?_⟩) ?_ ?_
  rotate_left
  · intro w'
    go_simp
    with_reducible rfl
  rotate_left
  · simp only [Act.put, List.setIfInBounds_toArray, List.set_cons_zero, List.set_cons_succ, i64_w, i32_w]
    rfl
  refine pure_ (i := 12) (N := some 82) (v := ?_) (a' := ?_) #[true, true, true, true, false, true, true, false, true, true, true, false, true, false, false, false, false, false, false] rfl rfl (any_of HT_.out (by kernel_rfl)) (fun _ _ _ h => h) (Or.inl ⟨by rfl, ?_⟩) ?_ ?_
  rotate_left
  · intro w'
    go_simp
    with_reducible rfl
  rotate_left
  · simp only [Act.put, List.setIfInBounds_toArray, List.set_cons_zero, List.set_cons_succ, i64_w, i32_w]
    rfl
  refine pure_ (i := 13) (N := some 83) (v := ?_) (a' := ?_) #[true, true, true, true, false, true, true, false, true, true, true, false, true, true, false, false, false, false, false] rfl rfl (any_of HT_.out (by kernel_rfl)) (fun _ _ _ h => h) (Or.inl ⟨by rfl, ?_⟩) ?_ ?_
  rotate_left
  · intro w'
    go_simp
    with_reducible rfl
  rotate_left
  · simp only [Act.put, List.setIfInBounds_toArray, List.set_cons_zero, List.set_cons_succ, i64_w, i32_w]
    rfl
  refine take_ (i := 4) (N := some 74) (v := ?_) (a' := ?_) #[true, true, true, true, true, true, true, false, true, true, true, false, true, true, false, false, false, false, false] rfl rfl (take_ofW HT_.out HW_.out (by kernel_rfl)) (fun _ _ _ h => h) (Or.inl ⟨by rfl, ?_⟩) hHeld ?_ ?_
  rotate_left
  · intro w' s0
    go_simp
    with_reducible rfl
  rotate_left
  · simp only [Act.put, List.setIfInBounds_toArray, List.set_cons_zero, List.set_cons_succ, i64_w, i32_w]
    rfl
  refine pure_ (i := 7) (N := some 77) (v := ?_) (a' := ?_) #[true, true, true, true, true, true, true, true, true, true, true, false, true, true, false, false, false, false, false] rfl rfl (any_of HT_.out (by kernel_rfl)) (fun _ _ _ h => h) (Or.inl ⟨by rfl, ?_⟩) ?_ ?_
  rotate_left
  · intro w'
    go_simp
    with_reducible rfl
  rotate_left
  · simp only [Act.put, List.setIfInBounds_toArray, List.set_cons_zero, List.set_cons_succ, i64_w, i32_w]
    rfl
  refine take_ (i := 11) (N := some 81) (v := ?_) (a' := ?_) #[true, true, true, true, true, true, true, true, true, true, true, true, true, true, false, false, false, false, false] rfl rfl (take_ofW HT_.out HW_.out (by kernel_rfl)) (fun _ _ _ h => h) (Or.inl ⟨by rfl, ?_⟩) hHeld ?_ ?_
  rotate_left
  · intro w' s0
    go_simp
    with_reducible rfl
  rotate_left
  · simp only [Act.put, List.setIfInBounds_toArray, List.set_cons_zero, List.set_cons_succ, i64_w, i32_w]
    rfl
  refine pure_ (i := 14) (N := some 84) (v := ?_) (a' := ?_) #[true, true, true, true, true, true, true, true, true, true, true, true, true, true, true, false, false, false, false] rfl rfl (any_of HT_.out (by kernel_rfl)) (fun _ _ _ h => h) (Or.inl ⟨by rfl, ?_⟩) ?_ ?_
  rotate_left
  · intro w'
    go_simp
    with_reducible rfl
  rotate_left
  · simp only [Act.put, List.setIfInBounds_toArray, List.set_cons_zero, List.set_cons_succ, i64_w, i32_w]
    rfl
  refine one_ (i := 15) (N := some 85) #[true, true, true, true, true, true, true, true, true, true, true, true, true, true, true, true, false, false, false] rfl rfl (one_of HT_.out (by kernel_rfl)) (by decide) (fun K hK => ?_)
  refine step_cut (by rfl) (.tmp 77) (.tmp 84) 33 9 (.string ByteArray.empty) 16 rfl hu33 info9 rfl (by decide) A ((pw_strs ws).take i) i (by simp only [nums_length, strs_length, List.length_set, List.length_take]; omega) A3 ((pw_strs ws).drop (i + 1)) (_ - (i + 1)) (c - (i + 1)) (by simp only [nums_length, strs_length, List.length_set, List.length_drop]) rfl rfl ((CEW5.out.step HBW6.out).take _) (CA3.out.step HBW6.out) (by have := HL.out; omega) ?_
  intro v85 w85 ho_ hb_
  obtain ⟨A85, n85, c85, ev85⟩ := cut_form ho_
  subst ev85
  have HO85 := Aside0.mk ho_
  have HX85 := Aside0.mk hb_
  clear ho_ hb_
  have HB85 := Aside0.mk (below_step HBW6.out HX85.out)
  have f85 := frozen_below HB85.out g0 h0
  refine hK.out _ _ (pw_cell_below HB85.out g0) (fun hHeld => ?_)
  clear hK K
  refine norm_ (a' := ?_) ?_ ?_
  rotate_left
  · show Act.put _ (some 85) _ = _
    simp only [Act.put, List.setIfInBounds_toArray, List.set_cons_zero, List.set_cons_succ, i64_w, i32_w]
    rfl
  refine pure_ (i := 16) (N := some 86) (v := ?_) (a' := ?_) #[true, true, true, true, true, true, true, true, true, true, true, true, true, true, true, true, true, false, false] rfl rfl (any_of HT_.out (by kernel_rfl)) (fun _ _ _ h => h) (Or.inl ⟨by rfl, ?_⟩) ?_ ?_
  rotate_left
  · intro w'
    go_simp
    with_reducible rfl
  rotate_left
  · simp only [Act.put, List.setIfInBounds_toArray, List.set_cons_zero, List.set_cons_succ, i64_w, i32_w]
    rfl
  refine pure_ (i := 17) (N := some 87) (v := ?_) (a' := ?_) #[true, true, true, true, true, true, true, true, true, true, true, true, true, true, true, true, true, true, false] rfl rfl (any_of HT_.out (by kernel_rfl)) (fun _ _ _ h => h) (Or.inl ⟨by rfl, ?_⟩) ?_ ?_
  rotate_left
  · intro w'
    go_simp
    with_reducible rfl
  rotate_left
  · simp only [Act.put, List.setIfInBounds_toArray, List.set_cons_zero, List.set_cons_succ, i64_w, i32_w]
    rfl
  refine last_ (i := 18) (N := none) #[true, true, true, true, true, true, true, true, true, true, true, true, true, true, true, true, true, true, true] rfl rfl (one_of HT_.out (by kernel_rfl)) (by decide) (fun K hK => ?_)
  go_simp
  refine hK.out _ _ ?_
  clear hK K
  refine done_ (done_of HT_.out (by kernel_rfl)) ?_
  replace S := Aside0.mk ((words_cut S.out 1 rfl s8 HO85.out HX85.out).set 0 rfl 0 (.slice A85 n85 c85))
  clear HO85 HX85 HB85 f85 hHeld HBW6 CEW5 CA3
  generalize w85.setCell ⟨g, 0, none⟩ (.slice A85 n85 c85) = W7 at S ⊢
  replace g1 : W7.cell? ⟨g, 1, none⟩ = some (.slice (some ⟨gd, 0, none⟩) dvs.length cd) := (blk_cell (S.out.at_box 0 rfl) 1).trans rfl
  replace h1 : W7.frozen? ⟨g, 1, none⟩ = false := blk_frozen (S.out.at_box 0 rfl) 1
  have CEV := Aside0.mk (hd_CE S.out 2 rfl)
  have HDL2 : Aside0 (dvs.length ≤ 1000000) := ⟨by have := HDN.out; have := HDS.out; have := HL.out; omega⟩
  have HCD2 : Aside0 ((dvs.set i (.slice A59 0 c59)).length ≤ cd) := ⟨by rw [List.length_set]; exact HCD.out⟩
  obtain ⟨A4, hA4⟩ : ∃ x : Option Addr, (if cd = i + 1 then some (⟨gd, 0, none⟩ : Addr) else some ⟨gd, i + 1, none⟩) = x := ⟨_, rfl⟩
  have CA4 : Aside0 (CellsAt W7 A4 ((dvs.set i (.slice A59 0 c59)).drop (i + 1))) := ⟨by
    have h_ := CellsAt.cut CEV.out (i + 1) cd HCD2.out
    rw [Option.map_some, add_plain] at h_
    rw [← hA4]
    exact h_⟩
  go_upto_region 7 with (first | fail)
  refine start_ (n := 19) (S := fun w' => w'.cell? ⟨g, 1, none⟩ = some (.slice (some ⟨gd, 0, none⟩) dvs.length cd)) (ds := [18]) #[false, false, false, false, false, false, false, false, false, false, false, false, false, false, false, false, false, false, false] (by kernel_rfl) rfl rfl g1 (fun hHeld => ?_); refine with_tabW dr7_tab dr7_bits (fun HT_ HW_ => ?_)
  have HBW8 := Aside0.mk (below_drew (Below.refl W7.heap.size W7))
  replace S := Aside0.mk (S.out.drew)
  generalize W7.drew = W8 at S HBW8 hHeld ⊢
  refine pure_ (i := 0) (N := some 88) (v := ?_) (a' := ?_) #[true, false, false, false, false, false, false, false, false, false, false, false, false, false, false, false, false, false, false] rfl rfl (any_of HT_.out (by kernel_rfl)) (fun _ _ _ h => h) (Or.inl ⟨by rfl, ?_⟩) ?_ ?_
  rotate_left
  · intro w'
    go_simp
    with_reducible rfl
  rotate_left
  · simp only [Act.put, List.setIfInBounds_toArray, List.set_cons_zero, List.set_cons_succ, i64_w, i32_w]
    rfl
  refine pure_ (i := 1) (N := some 89) (v := ?_) (a' := ?_) #[true, true, false, false, false, false, false, false, false, false, false, false, false, false, false, false, false, false, false] rfl rfl (any_of HT_.out (by kernel_rfl)) (fun _ _ _ h => h) (Or.inl ⟨by rfl, ?_⟩) ?_ ?_
  rotate_left
  · intro w'
    go_simp
    with_reducible rfl
  rotate_left
  · simp only [Act.put, List.setIfInBounds_toArray, List.set_cons_zero, List.set_cons_succ, i64_w, i32_w]
    rfl
  refine pure_ (i := 2) (N := some 90) (v := ?_) (a' := ?_) #[true, true, true, false, false, false, false, false, false, false, false, false, false, false, false, false, false, false, false] rfl rfl (any_of HT_.out (by kernel_rfl)) (fun _ _ _ h => h) (Or.inl ⟨by rfl, ?_⟩) ?_ ?_
  rotate_left
  · intro w'
    go_simp
    with_reducible rfl
  rotate_left
  · simp only [Act.put, List.setIfInBounds_toArray, List.set_cons_zero, List.set_cons_succ, i64_w, i32_w]
    rfl
  refine pure_ (i := 3) (N := some 91) (v := ?_) (a' := ?_) #[true, true, true, true, false, false, false, false, false, false, false, false, false, false, false, false, false, false, false] rfl rfl (any_of HT_.out (by kernel_rfl)) (fun _ _ _ h => h) (Or.inl ⟨by rfl, ?_⟩) ?_ ?_
  rotate_left
  · intro w'
    go_simp
    with_reducible rfl
  rotate_left
  · simp only [Act.put, List.setIfInBounds_toArray, List.set_cons_zero, List.set_cons_succ, i64_w, i32_w]
    rfl
  refine pure_ (i := 5) (N := some 93) (v := ?_) (a' := ?_) #[true, true, true, true, false, true, false, false, false, false, false, false, false, false, false, false, false, false, false] rfl rfl (any_of HT_.out (by kernel_rfl)) (fun _ _ _ h => h) (Or.inl ⟨by rfl, ?_⟩) ?_ ?_
  rotate_left
  · intro w'
    go_simp
    with_reducible rfl
  rotate_left
  · simp only [Act.put, List.setIfInBounds_toArray, List.set_cons_zero, List.set_cons_succ, i64_w, i32_w]
    rfl
  refine pure_ (i := 6) (N := some 94) (v := ?_) (a' := ?_) #[true, true, true, true, false, true, true, false, false, false, false, false, false, false, false, false, false, false, false] rfl rfl (any_of HT_.out (by kernel_rfl)) (fun _ _ _ h => h) (Or.inl ⟨by rfl, ?_⟩) ?_ ?_
  rotate_left
  · intro w'
    go_simp
    with_reducible rfl
  rotate_left
  · simp only [Act.put, List.setIfInBounds_toArray, List.set_cons_zero, List.set_cons_succ, i64_w, i32_w]
    rfl
  refine pure_ (i := 8) (N := some 96) (v := ?_) (a' := ?_) #[true, true, true, true, false, true, true, false, true, false, false, false, false, false, false, false, false, false, false] rfl rfl (any_of HT_.out (by kernel_rfl)) (fun _ _ _ h => h) (Or.inl ⟨by rfl, ?_⟩) ?_ ?_
  rotate_left
  · intro w'
    go_simp
    with_reducible rfl
  rotate_left
  · simp only [Act.put, List.setIfInBounds_toArray, List.set_cons_zero, List.set_cons_succ, i64_w, i32_w]
    rfl
  refine pure_ (i := 9) (N := some 97) (v := ?_) (a' := ?_) #[true, true, true, true, false, true, true, false, true, true, false, false, false, false, false, false, false, false, false] rfl rfl (any_of HT_.out (by kernel_rfl)) (fun _ _ _ h => h) (Or.inl ⟨by rfl, ?_⟩) ?_ ?_
  rotate_left
  · intro w'
    go_simp
    with_reducible rfl
  rotate_left
  · simp only [Act.put, List.setIfInBounds_toArray, List.set_cons_zero, List.set_cons_succ, i64_w, i32_w]
    rfl
  refine pure_ (i := 10) (N := some 98) (v := ?_) (a' := ?_) #[true, true, true, true, false, true, true, false, true, true, true, false, false, false, false, false, false, false, false] rfl rfl (any_of HT_.out (by kernel_rfl)) (fun _ _ _ h => h) (Or.inl ⟨by rfl, ?_⟩) ?_ ?_
  rotate_left
  · intro w'
    go_simp
    with_reducible rfl
  rotate_left
  · simp only [Act.put, List.setIfInBounds_toArray, List.set_cons_zero, List.set_cons_succ, i64_w, i32_w]
    rfl
  refine pure_ (i := 12) (N := some 100) (v := ?_) (a' := ?_) #[true, true, true, true, false, true, true, false, true, true, true, false, true, false, false, false, false, false, false] rfl rfl (any_of HT_.out (by kernel_rfl)) (fun _ _ _ h => h) (Or.inl ⟨by rfl, ?_⟩) ?_ ?_
  rotate_left
  · intro w'
    go_simp
    with_reducible rfl
  rotate_left
  · simp only [Act.put, List.setIfInBounds_toArray, List.set_cons_zero, List.set_cons_succ, i64_w, i32_w]
    rfl
  refine pure_ (i := 13) (N := some 101) (v := ?_) (a' := ?_) #[true, true, true, true, false, true, true, false, true, true, true, false, true, true, false, false, false, false, false] rfl rfl (any_of HT_.out (by kernel_rfl)) (fun _ _ _ h => h) (Or.inl ⟨by rfl, ?_⟩) ?_ ?_
  rotate_left
  · intro w'
    go_simp
    with_reducible rfl
  rotate_left
  · simp only [Act.put, List.setIfInBounds_toArray, List.set_cons_zero, List.set_cons_succ, i64_w, i32_w]
    rfl
  refine take_ (i := 4) (N := some 92) (v := ?_) (a' := ?_) #[true, true, true, true, true, true, true, false, true, true, true, false, true, true, false, false, false, false, false] rfl rfl (take_ofW HT_.out HW_.out (by kernel_rfl)) (fun _ _ _ h => h) (Or.inl ⟨by rfl, ?_⟩) hHeld ?_ ?_
  rotate_left
  · intro w' s0
    go_simp
    with_reducible rfl
  rotate_left
  · simp only [Act.put, List.setIfInBounds_toArray, List.set_cons_zero, List.set_cons_succ, i64_w, i32_w]
    rfl
  refine pure_ (i := 7) (N := some 95) (v := ?_) (a' := ?_) #[true, true, true, true, true, true, true, true, true, true, true, false, true, true, false, false, false, false, false] rfl rfl (any_of HT_.out (by kernel_rfl)) (fun _ _ _ h => h) (Or.inl ⟨by rfl, ?_⟩) ?_ ?_
  rotate_left
  · intro w'
    go_simp
    with_reducible rfl
  rotate_left
  · simp only [Act.put, List.setIfInBounds_toArray, List.set_cons_zero, List.set_cons_succ, i64_w, i32_w]
    rfl
  refine take_ (i := 11) (N := some 99) (v := ?_) (a' := ?_) #[true, true, true, true, true, true, true, true, true, true, true, true, true, true, false, false, false, false, false] rfl rfl (take_ofW HT_.out HW_.out (by kernel_rfl)) (fun _ _ _ h => h) (Or.inl ⟨by rfl, ?_⟩) hHeld ?_ ?_
  rotate_left
  · intro w' s0
    go_simp
    with_reducible rfl
  rotate_left
  · simp only [Act.put, List.setIfInBounds_toArray, List.set_cons_zero, List.set_cons_succ, i64_w, i32_w]
    rfl
  refine pure_ (i := 14) (N := some 102) (v := ?_) (a' := ?_) #[true, true, true, true, true, true, true, true, true, true, true, true, true, true, true, false, false, false, false] rfl rfl (any_of HT_.out (by kernel_rfl)) (fun _ _ _ h => h) (Or.inl ⟨by rfl, ?_⟩) ?_ ?_
  rotate_left
  · intro w'
    go_simp
    with_reducible rfl
  rotate_left
  · simp only [Act.put, List.setIfInBounds_toArray, List.set_cons_zero, List.set_cons_succ, i64_w, i32_w]
    rfl
  refine one_ (i := 15) (N := some 103) #[true, true, true, true, true, true, true, true, true, true, true, true, true, true, true, true, false, false, false] rfl rfl (one_of HT_.out (by kernel_rfl)) (by decide) (fun K hK => ?_)
  refine step_cut (by rfl) (.tmp 95) (.tmp 102) 54 43 (.slice none 0 0) 24 rfl hu54 info43 rfl (by decide) (some ⟨gd, 0, none⟩) ((dvs.set i (.slice A59 0 c59)).take i) i (by simp only [nums_length, strs_length, List.length_set, List.length_take]; omega) A4 ((dvs.set i (.slice A59 0 c59)).drop (i + 1)) (_ - (i + 1)) (cd - (i + 1)) (by simp only [nums_length, strs_length, List.length_set, List.length_drop]) rfl rfl ((CEV.out.step HBW8.out).take _) (CA4.out.step HBW8.out) (by have := HDL2.out; omega) ?_
  intro v103 w103 ho_ hb_
  obtain ⟨A103, n103, c103, ev103⟩ := cut_form ho_
  subst ev103
  have HO103 := Aside0.mk ho_
  have HX103 := Aside0.mk hb_
  clear ho_ hb_
  have HB103 := Aside0.mk (below_step HBW8.out HX103.out)
  have f103 := frozen_below HB103.out g1 h1
  refine hK.out _ _ (pw_cell_below HB103.out g1) (fun hHeld => ?_)
  clear hK K
  refine norm_ (a' := ?_) ?_ ?_
  rotate_left
  · show Act.put _ (some 103) _ = _
    simp only [Act.put, List.setIfInBounds_toArray, List.set_cons_zero, List.set_cons_succ, i64_w, i32_w]
    rfl
  refine pure_ (i := 16) (N := some 104) (v := ?_) (a' := ?_) #[true, true, true, true, true, true, true, true, true, true, true, true, true, true, true, true, true, false, false] rfl rfl (any_of HT_.out (by kernel_rfl)) (fun _ _ _ h => h) (Or.inl ⟨by rfl, ?_⟩) ?_ ?_
  rotate_left
  · intro w'
    go_simp
    with_reducible rfl
  rotate_left
  · simp only [Act.put, List.setIfInBounds_toArray, List.set_cons_zero, List.set_cons_succ, i64_w, i32_w]
    rfl
  refine pure_ (i := 17) (N := some 105) (v := ?_) (a' := ?_) #[true, true, true, true, true, true, true, true, true, true, true, true, true, true, true, true, true, true, false] rfl rfl (any_of HT_.out (by kernel_rfl)) (fun _ _ _ h => h) (Or.inl ⟨by rfl, ?_⟩) ?_ ?_
  rotate_left
  · intro w'
    go_simp
    with_reducible rfl
  rotate_left
  · simp only [Act.put, List.setIfInBounds_toArray, List.set_cons_zero, List.set_cons_succ, i64_w, i32_w]
    rfl
  refine last_ (i := 18) (N := none) #[true, true, true, true, true, true, true, true, true, true, true, true, true, true, true, true, true, true, true] rfl rfl (one_of HT_.out (by kernel_rfl)) (by decide) (fun K hK => ?_)
  go_simp
  refine hK.out _ _ ?_
  clear hK K
  refine done_ (done_of HT_.out (by kernel_rfl)) ?_
  go_wp2
  go_end0
  have S9 := (hd_cut S.out 2 rfl (by rw [List.length_set]; exact p4) HO103.out HX103.out (hd_one S.out 2 rfl)).set 0 rfl 1 (.slice A103 n103 c103)
  have S10 := fzn_erase' S9 3 rfl i
  rw [erase_map_set] at S10
  exact ⟨rfl, _, _, _, S10⟩
end Go.Proofs.Ytpfmebpalejadaa.Hand
end
section
namespace Go.Proofs.Ytpfmebpalejadaa.Hand
open Go.Proofs.YtpfmebpalejadaaW Go.RowKit Go.Proofs.YtpfmebpalejadaaW.PrintWords Go.Proofs.YtpfmebpalejadaaW.PrintLast Go.Proofs.YtpfmebpalejadaaW.PrintMore Go.Proofs.YtpfmebpalejadaaW.SepW Go.Proofs.Ytpfmebpalejadaa.PALL
set_option linter.unusedVariables false
set_option linter.unusedSimpArgs false
/-- An element put into a list. -/
def ins {α : Type} (l : List α) (i : Nat) (x : α) : List α := l.take i ++ [x] ++ l.drop i
theorem ins_map {α β : Type} (f : α → β) (l : List α) (i : Nat) (x : α) : (l.map f).take i ++ [f x] ++ (l.map f).drop i = (ins l i x).map f := by simp [ins, List.map_take, List.map_drop]
theorem ins_length {α : Type} (l : List α) (i : Nat) (x : α) (h : i ≤ l.length) : (ins l i x).length = l.length + 1 := by simp only [ins, List.length_append, List.length_take, List.length_drop, List.length_singleton]; omega
theorem ins_at {α : Type} (l : List α) (i : Nat) (x : α) (h : i ≤ l.length) : (ins l i x)[i]? = some x := by
  rw [ins, List.append_assoc, List.getElem?_append_right (by rw [List.length_take]; omega), List.length_take, Nat.min_eq_left h, Nat.sub_self]; rfl
theorem ins_set {α : Type} (l : List α) (i : Nat) (x y : α) (h : i ≤ l.length) : (ins l i x).set i y = ins l i y := by
  rw [ins, ins, List.append_assoc, List.append_assoc, List.set_append_right _ _ (by rw [List.length_take]; omega), List.length_take, Nat.min_eq_left h, Nat.sub_self]; rfl
theorem put_str (A : Option Addr) (c : Nat) (ws : List ByteArray) (i : Nat) (s : ByteArray) (w : World) (h : CellsAt w A (pw_strs ws)) (hc : ws.length ≤ c) (hi : i ≤ ws.length) (hl : ws.length ≤ 1000000) :
    Calls Try.prog 39 #[.slice A ws.length c, .int .i64 i, .string s] w fun e w' => ∃ v, e = .returned v ∧ w'.ownsRow w.heap.size 9 1 v (ws.length + 1) (pw_strs (ins ws i s)) ∧ Below w.heap.size w w' := by
  have e : pw_strs (ins ws i s) = (pw_strs ws).take i ++ [.string s] ++ (pw_strs ws).drop i := (ins_map Value.string ws i s).symm
  have hn := strs_length ws
  rw [e]
  rw [← hn] at hc hi hl ⊢
  by_cases hci : c = i
  · exact insert_str_full A c _ i s w h hc hi hl hci
  · exact insert_str_part A c _ i s w h hc hi hl hci
theorem put_int (A : Option Addr) (c : Nat) (d : List Int) (i : Nat) (x : Int) (w : World) (h : CellsAt w A (nums .i64 d)) (hc : d.length ≤ c) (hi : i ≤ d.length) (hl : d.length ≤ 1000000) :
    Calls Try.prog 41 #[.slice A d.length c, .int .i64 i, .int .i64 x] w fun e w' => ∃ v, e = .returned v ∧ w'.ownsRow w.heap.size 3 1 v (d.length + 1) (nums .i64 (ins d i x)) ∧ Below w.heap.size w w' := by
  have e : nums .i64 (ins d i x) = (nums .i64 d).take i ++ [.int .i64 x] ++ (nums .i64 d).drop i := (ins_map (Value.int .i64) d i x).symm
  have hn := nums_length .i64 d
  rw [e]
  rw [← hn] at hc hi hl ⊢
  by_cases hci : c = i
  · exact insert_int_full A c _ i x w h hc hi hl hci
  · exact insert_int_part A c _ i x w h hc hi hl hci
theorem put_row (A : Option Addr) (c : Nat) (vs : List Value) (i : Nat) (w : World) (h : CellsAt w A vs) (hc : vs.length ≤ c) (hi : i ≤ vs.length) (hl : vs.length ≤ 1000000) :
    Calls Try.prog 40 #[.slice A vs.length c, .int .i64 i, .slice none 0 0] w fun e w' => ∃ v, e = .returned v ∧ w'.ownsRow w.heap.size 43 1 v (vs.length + 1) (ins vs i (.slice none 0 0)) ∧ Below w.heap.size w w' := by
  by_cases hci : c = i
  · exact insert_row_full A c _ i w h hc hi hl hci
  · exact insert_row_part A c _ i w h hc hi hl hci
section
variable {w0 W w1 : World} {L : List (Thing w0.heap.size)}
theorem fz_new' {v v1 : Value} {xs ys : List Value} {e m : Nat} (S : Sep w0 W L) (n : Nat) (h : L[n]? = some (Fz _ v xs)) (ho : w1.ownsRow W.heap.size e 1 v1 m ys) (h1 : ∀ u ∈ ys, u.oneCell' = true) (hb : Below W.heap.size W w1) : Sep w0 w1 (L.set n (Fz _ v1 ys)) := (S.sp.fz_new n h ho h1 hb).sep S.below
theorem hd_new' {e : Nat} {v v1 : Value} {vs us : List Value} {m : Nat} (S : Sep w0 W L) (n : Nat) (h : L[n]? = some (Hd _ e v vs)) (ho : w1.ownsRow W.heap.size e 1 v1 m us) (h1 : ∀ u ∈ us, u.oneCell' = true) (hb : Below W.heap.size W w1) : Sep w0 w1 (L.set n (Hd _ e v1 us)) := (S.sp.hd_new n h ho h1 hb).sep S.below
theorem fzn_ins' {vs : List Value} {ds : List (List Int)} (S : Sep w0 W L) (n : Nat) (h : L[n]? = some (FzN _ vs (ds.map (nums .i64)))) (i : Nat) (hi : i ≤ vs.length) : Sep w0 W (L.set n (FzN _ (ins vs i (.slice none 0 0)) ((ins ds i []).map (nums .i64)))) := by
  have := (S.sp.fzn_insert n h i hi).sep S.below
  rwa [show (ds.map (nums .i64)).take i ++ [[]] ++ (ds.map (nums .i64)).drop i = (ins ds i []).map (nums .i64) from ins_map (nums .i64) ds i []] at this
theorem fzn_new' {vs : List Value} {ds : List (List Int)} {v1 : Value} {d : List Int} {m : Nat} (S : Sep w0 W L) (n : Nat) (h : L[n]? = some (FzN _ vs (ds.map (nums .i64)))) (i : Nat) (ho : w1.ownsRow W.heap.size 3 1 v1 m (nums .i64 d)) (hb : Below W.heap.size W w1) : Sep w0 w1 (L.set n (FzN _ (vs.set i v1) ((ds.set i d).map (nums .i64)))) := by
  rw [List.map_set]
  exact (S.sp.fzn_new n h i ho (nums_one _) hb).sep S.below
end
theorem put_first (doc : Int) (w : World) : Calls Try.prog 41 #[.slice none 0 0, .int .i64 0, .int .i64 doc] w fun e w' => ∃ v, e = .returned v ∧ w'.ownsRow w.heap.size 3 1 v 1 (nums .i64 [doc]) ∧ Below w.heap.size w w' :=
  put_int none 0 [] 0 doc w (CellsAt.nil _ _) (Nat.le_refl _) (Nat.le_refl _) (Nat.zero_le _)
theorem bs_none (doc : Int) (w : World) : Calls Try.prog 38 #[.slice none 0 0, .int .i64 doc] w fun e w' => e = .returned (.tuple #[.int .i64 0, .bool false]) ∧ ∃ n, w' = w.drewN n :=
  bs_int 1 [] doc 0 false none 0 w (by refine ⟨rfl, by decide, fun h => absurd h (Nat.lt_irrefl 0)⟩) (Nat.le_refl _) (by simp [slices_BinarySearch_int_int.f, slices_BinarySearch_int_int.l0])
theorem ins_one {vs : List Value} (h : ∀ u ∈ vs, u.oneCell' = true) (i : Nat) : ∀ u ∈ ins vs i (.slice none 0 0), u.oneCell' = true := by
  intro u hu
  simp only [ins, List.mem_append, List.mem_singleton] at hu
  rcases hu with (hu | rfl) | hu
  · exact h u (List.mem_of_mem_take hu)
  · rfl
  · exact h u (List.mem_of_mem_drop hu)
def ad6_T : Bool × List (List Nat × List Nat) := (true, [([], []), ([0], [0]), ([1], [1]), ([2], [2]), ([], []), ([], []), ([5], [5]), ([6], [6]), ([7], [7]), ([], []), ([8, 9], [8, 9]), ([10], [10]), ([], []), ([], []), ([11, 12, 13], [11, 12, 13]), ([3, 4, 0, 1, 2, 3, 4, 5, 6, 7, 8, 9, 10, 11, 12, 13, 14], [3, 4]), ([15, 14, 14, 0, 1, 2, 3, 4, 5, 6, 7, 8, 9, 10, 11, 12, 13, 14], [14, 15])])
def ad6_B : List Nat := [0, 1, 3, 7, 0, 0, 32, 96, 224, 0, 992, 2016, 0, 0, 16352, 32767, 65535]
theorem ad6_tab : rtab .any (opsOf Try.f30 6) = ad6_T := by kernel_rfl
theorem ad6_bits : waitsOk ad6_T.2 ad6_B = true := by kernel_rfl
set_option maxHeartbeats 4000000 in
set_option maxRecDepth 100000 in
theorem add_has {w0 w : World} {L : List (Thing w0.heap.size)} {g : Nat} {wv dv bv : Value} {dvs : List Value} {ws : List ByteArray} {ds : List (List Int)} (S : Sep w0 w (Box _ g 56 #[wv, dv, bv] :: Fz _ wv (pw_strs ws) :: Hd _ 43 dv dvs :: FzN _ dvs (ds.map (nums .i64)) :: L)) (hwl : ws.length ≤ 1000000) (hds : ds.length = ws.length) (s : ByteArray) (doc : Int) (k : Nat) (i : Nat) (h : slices_BinarySearch_string_string.f k ws s = some ((i : Int), true)) (d : List Int) (hd : ds[i]? = some d) (hdl : d.length ≤ 1000000) (k2 : Nat) (j : Int) (h2 : slices_BinarySearch_int_int.f k2 d doc = some (j, true)) :
    Calls Try.prog 30 #[.pointer (some ⟨g, 0, none⟩), .string s, .int .i64 doc] w fun e w' => e = .returned (.tuple #[]) ∧ ∃ n, w' = w.drewN n := by
  obtain ⟨A, c, rfl, hc, hCE, hC⟩ := fz_strs S 1 rfl hwl
  have hdn := fzn_len S 3 rfl
  obtain ⟨Ai, ci, hvi, hci, hCEi, hCi⟩ := fzn_ints S 3 rfl i d hd hdl
  obtain ⟨gd, cd, rfl, hcd, hcell, hfro, hCEd⟩ := hd_at S 2 rfl i hvi
  have k0 := blk_cell (S.at_box 0 rfl) 0
  have k1 := blk_cell (S.at_box 0 rfl) 1
  simp only [List.getElem?_toArray, List.getElem?_cons_zero, List.getElem?_cons_succ] at k0 k1
  have f0 := blk_frozen (S.at_box 0 rfl) 0
  have f1 := blk_frozen (S.at_box 0 rfl) 1
  have hil : i < ds.length := (List.getElem?_eq_some_iff.1 hd).1
  have p0 : decide ((0 : Int) ≤ (i : Int)) = true := decide_eq_true (by omega)
  have p1 : decide ((i : Int) < (dvs.length : Int)) = true := decide_eq_true (by omega)
  have p2 : (0 : Int) ≤ (i : Int) := by omega
  have p3 : (i : Int) < (dvs.length : Int) := by omega
  have p4 : i < dvs.length := by omega
  have HC0 := Aside0.mk hC
  have HCC := Aside0.mk hc
  have HB := Aside0.mk h
  have HCi := Aside0.mk hCi
  have HCCi := Aside0.mk hci
  have HBi := Aside0.mk h2
  have HVI := Aside0.mk hvi
  have HD := Aside0.mk hd
  have HDL := Aside0.mk hdl
  have CEI := Aside0.mk hCEi
  have S := Aside0.mk S
  clear h hC hc hCE hwl h2 hCi hci hCEi hCEd hcd hvi hdn hds hd hdl hil
  go_enter Try.func30, Try.ntmps30
  go_wp2_with (first | (go_at_call 35; (with_reducible refine (bs_str k ws s _ _ A c w HC0.out HCC.out HB.out).mono ?_); rintro e_ w_ ⟨rfl, n1, rfl⟩) | (go_at_call 38; (with_reducible refine (bs_int k2 d doc _ _ Ai ci _ (Kd.C_below HCi.out (pw_below_drewN (Below.refl _ _) n1)) HCCi.out HBi.out).mono ?_); rintro e_ w_ ⟨rfl, n2, rfl⟩))
  go_end0
  exact ⟨rfl, n1 + n2, rfl⟩
set_option maxHeartbeats 4000000 in
set_option maxRecDepth 100000 in
theorem add_put {w0 w : World} {L : List (Thing w0.heap.size)} {g : Nat} {wv dv bv : Value} {dvs : List Value} {ws : List ByteArray} {ds : List (List Int)} (S : Sep w0 w (Box _ g 56 #[wv, dv, bv] :: Fz _ wv (pw_strs ws) :: Hd _ 43 dv dvs :: FzN _ dvs (ds.map (nums .i64)) :: L)) (hwl : ws.length ≤ 1000000) (hds : ds.length = ws.length) (s : ByteArray) (doc : Int) (k : Nat) (i : Nat) (h : slices_BinarySearch_string_string.f k ws s = some ((i : Int), true)) (d : List Int) (hd : ds[i]? = some d) (hdl : d.length ≤ 1000000) (k2 : Nat) (j : Nat) (h2 : slices_BinarySearch_int_int.f k2 d doc = some ((j : Int), false)) (hj : j ≤ d.length) :
    Calls Try.prog 30 #[.pointer (some ⟨g, 0, none⟩), .string s, .int .i64 doc] w fun e w' => e = .returned (.tuple #[]) ∧ ∃ v1, Sep w0 w' (Box _ g 56 #[wv, dv, bv] :: Fz _ wv (pw_strs ws) :: Hd _ 43 dv (dvs.set i v1) :: FzN _ (dvs.set i v1) ((ds.set i (ins d j doc)).map (nums .i64)) :: L) := by
  obtain ⟨A, c, rfl, hc, hCE, hC⟩ := fz_strs S 1 rfl hwl
  have hdn := fzn_len S 3 rfl
  obtain ⟨Ai, ci, hvi, hci, hCEi, hCi⟩ := fzn_ints S 3 rfl i d hd hdl
  obtain ⟨gd, cd, rfl, hcd, hcell, hfro, hCEd⟩ := hd_at S 2 rfl i hvi
  have k0 := blk_cell (S.at_box 0 rfl) 0
  have k1 := blk_cell (S.at_box 0 rfl) 1
  simp only [List.getElem?_toArray, List.getElem?_cons_zero, List.getElem?_cons_succ] at k0 k1
  have f0 := blk_frozen (S.at_box 0 rfl) 0
  have f1 := blk_frozen (S.at_box 0 rfl) 1
  have hil : i < ds.length := (List.getElem?_eq_some_iff.1 hd).1
  have p0 : decide ((0 : Int) ≤ (i : Int)) = true := decide_eq_true (by omega)
  have p1 : decide ((i : Int) < (dvs.length : Int)) = true := decide_eq_true (by omega)
  have p2 : (0 : Int) ≤ (i : Int) := by omega
  have p3 : (i : Int) < (dvs.length : Int) := by omega
  have p4 : i < dvs.length := by omega
  have HC0 := Aside0.mk hC
  have HCC := Aside0.mk hc
  have HB := Aside0.mk h
  have HCi := Aside0.mk hCi
  have HCCi := Aside0.mk hci
  have HBi := Aside0.mk h2
  have HVI := Aside0.mk hvi
  have HD := Aside0.mk hd
  have HDL := Aside0.mk hdl
  have CEI := Aside0.mk hCEi
  have S := Aside0.mk S
  clear h hC hc hCE hwl h2 hCi hci hCEi hCEd hcd hvi hdn hds hd hdl hil
  have HJ := Aside0.mk hj
  clear hj
  go_enter Try.func30, Try.ntmps30
  go_upto_region 6 with (first | (go_at_call 35; (with_reducible refine (bs_str k ws s _ _ A c w HC0.out HCC.out HB.out).mono ?_); rintro e_ w_ ⟨rfl, n1, rfl⟩) | (go_at_call 38; (with_reducible refine (bs_int k2 d doc _ _ Ai ci _ (Kd.C_below HCi.out (pw_below_drewN (Below.refl _ _) n1)) HCCi.out HBi.out).mono ?_); rintro e_ w_ ⟨rfl, n2, rfl⟩) | fail)
  refine start_ (n := 17) (S := fun w' => w'.cell? ⟨g, 1, none⟩ = some (.slice (some ⟨gd, 0, none⟩) dvs.length cd) ∧ w'.cell? ⟨gd, i, none⟩ = some (.slice Ai d.length ci)) (ds := [16]) #[false, false, false, false, false, false, false, false, false, false, false, false, false, false, false, false, false] (by kernel_rfl) rfl rfl ⟨k1, hcell⟩ (fun hHeld => ?_); refine with_tabW ad6_tab ad6_bits (fun HT_ HW_ => ?_)
  have HBW := Aside0.mk (below_drew (pw_below_drewN (Below.refl w.heap.size w) (n1 + n2)))
  generalize (w.drewN (n1 + n2)).drew = W4 at HBW hHeld ⊢
  replace S := Aside0.mk (S.out.step HBW.out)
  refine pure_ (i := 0) (N := some 54) (v := ?_) (a' := ?_) #[true, false, false, false, false, false, false, false, false, false, false, false, false, false, false, false, false] rfl rfl (any_of HT_.out (by kernel_rfl)) (fun _ _ _ h => h) (Or.inl ⟨by rfl, ?_⟩) ?_ ?_
  rotate_left
  · intro w'
    go_simp
    with_reducible rfl
  rotate_left
  · simp only [Act.put, List.setIfInBounds_toArray, List.set_cons_zero, List.set_cons_succ, i64_w, i32_w]
    rfl
  refine pure_ (i := 1) (N := some 55) (v := ?_) (a' := ?_) #[true, true, false, false, false, false, false, false, false, false, false, false, false, false, false, false, false] rfl rfl (any_of HT_.out (by kernel_rfl)) (fun _ _ _ h => h) (Or.inl ⟨by rfl, ?_⟩) ?_ ?_
  rotate_left
  · intro w'
    go_simp
    with_reducible rfl
  rotate_left
  · simp only [Act.put, List.setIfInBounds_toArray, List.set_cons_zero, List.set_cons_succ, i64_w, i32_w]
    rfl
  refine pure_ (i := 2) (N := some 56) (v := ?_) (a' := ?_) #[true, true, true, false, false, false, false, false, false, false, false, false, false, false, false, false, false] rfl rfl (any_of HT_.out (by kernel_rfl)) (fun _ _ _ h => h) (Or.inl ⟨by rfl, ?_⟩) ?_ ?_
  rotate_left
  · intro w'
    go_simp
    with_reducible rfl
  rotate_left
  · simp only [Act.put, List.setIfInBounds_toArray, List.set_cons_zero, List.set_cons_succ, i64_w, i32_w]
    rfl
  refine pure_ (i := 4) (N := some 58) (v := ?_) (a' := ?_) #[true, true, true, false, true, false, false, false, false, false, false, false, false, false, false, false, false] rfl rfl (any_of HT_.out (by kernel_rfl)) (fun _ _ _ h => h) (Or.inl ⟨by rfl, ?_⟩) ?_ ?_
  rotate_left
  · intro w'
    go_simp
    with_reducible rfl
  rotate_left
  · simp only [Act.put, List.setIfInBounds_toArray, List.set_cons_zero, List.set_cons_succ, i64_w, i32_w]
    rfl
  refine pure_ (i := 5) (N := some 59) (v := ?_) (a' := ?_) #[true, true, true, false, true, true, false, false, false, false, false, false, false, false, false, false, false] rfl rfl (any_of HT_.out (by kernel_rfl)) (fun _ _ _ h => h) (Or.inl ⟨by rfl, ?_⟩) ?_ ?_
  rotate_left
  · intro w'
    go_simp
    with_reducible rfl
  rotate_left
  · simp only [Act.put, List.setIfInBounds_toArray, List.set_cons_zero, List.set_cons_succ, i64_w, i32_w]
    rfl
  refine pure_ (i := 6) (N := some 60) (v := ?_) (a' := ?_) #[true, true, true, false, true, true, true, false, false, false, false, false, false, false, false, false, false] rfl rfl (any_of HT_.out (by kernel_rfl)) (fun _ _ _ h => h) (Or.inl ⟨by rfl, ?_⟩) ?_ ?_
  rotate_left
  · intro w'
    go_simp
    with_reducible rfl
  rotate_left
  · simp only [Act.put, List.setIfInBounds_toArray, List.set_cons_zero, List.set_cons_succ, i64_w, i32_w]
    rfl
  refine pure_ (i := 7) (N := some 61) (v := ?_) (a' := ?_) #[true, true, true, false, true, true, true, true, false, false, false, false, false, false, false, false, false] rfl rfl (any_of HT_.out (by kernel_rfl)) (fun _ _ _ h => h) (Or.inl ⟨by rfl, ?_⟩) ?_ ?_
  rotate_left
  · intro w'
    go_simp
    with_reducible rfl
  rotate_left
  · simp only [Act.put, List.setIfInBounds_toArray, List.set_cons_zero, List.set_cons_succ, i64_w, i32_w]
    rfl
  refine pure_ (i := 9) (N := some 63) (v := ?_) (a' := ?_) #[true, true, true, false, true, true, true, true, false, true, false, false, false, false, false, false, false] rfl rfl (any_of HT_.out (by kernel_rfl)) (fun _ _ _ h => h) (Or.inl ⟨by rfl, ?_⟩) ?_ ?_
  rotate_left
  · intro w'
    go_simp
    with_reducible rfl
  rotate_left
  · simp only [Act.put, List.setIfInBounds_toArray, List.set_cons_zero, List.set_cons_succ, i64_w, i32_w]
    rfl
  refine pure_ (i := 12) (N := some 66) (v := ?_) (a' := ?_) #[true, true, true, false, true, true, true, true, false, true, false, false, true, false, false, false, false] rfl rfl (any_of HT_.out (by kernel_rfl)) (fun _ _ _ h => h) (Or.inl ⟨by rfl, ?_⟩) ?_ ?_
  rotate_left
  · intro w'
    go_simp
    with_reducible rfl
  rotate_left
  · simp only [Act.put, List.setIfInBounds_toArray, List.set_cons_zero, List.set_cons_succ, i64_w, i32_w]
    rfl
  refine pure_ (i := 13) (N := some 67) (v := ?_) (a' := ?_) #[true, true, true, false, true, true, true, true, false, true, false, false, true, true, false, false, false] rfl rfl (any_of HT_.out (by kernel_rfl)) (fun _ _ _ h => h) (Or.inl ⟨by rfl, ?_⟩) ?_ ?_
  rotate_left
  · intro w'
    go_simp
    with_reducible rfl
  rotate_left
  · simp only [Act.put, List.setIfInBounds_toArray, List.set_cons_zero, List.set_cons_succ, i64_w, i32_w]
    rfl
  refine take_ (i := 3) (N := some 57) (v := ?_) (a' := ?_) #[true, true, true, true, true, true, true, true, false, true, false, false, true, true, false, false, false] rfl rfl (take_ofW HT_.out HW_.out (by kernel_rfl)) (fun _ _ _ h => h) (Or.inl ⟨by rfl, ?_⟩) hHeld ?_ ?_
  rotate_left
  · rintro w' ⟨s0, s1⟩
    go_simp
    with_reducible rfl
  rotate_left
  · simp only [Act.put, List.setIfInBounds_toArray, List.set_cons_zero, List.set_cons_succ, i64_w, i32_w]
    rfl
  refine take_ (i := 8) (N := some 62) (v := ?_) (a' := ?_) #[true, true, true, true, true, true, true, true, true, true, false, false, true, true, false, false, false] rfl rfl (take_ofW HT_.out HW_.out (by kernel_rfl)) (fun _ _ _ h => h) (Or.inl ⟨by rfl, ?_⟩) hHeld ?_ ?_
  rotate_left
  · rintro w' ⟨s0, s1⟩
    go_simp
    with_reducible rfl
  rotate_left
  · simp only [Act.put, List.setIfInBounds_toArray, List.set_cons_zero, List.set_cons_succ, i64_w, i32_w]
    rfl
  refine pure_ (i := 10) (N := some 64) (v := ?_) (a' := ?_) #[true, true, true, true, true, true, true, true, true, true, true, false, true, true, false, false, false] rfl rfl (any_of HT_.out (by kernel_rfl)) (fun _ _ _ h => h) (Or.inl ⟨by rfl, ?_⟩) ?_ ?_
  rotate_left
  · intro w'
    go_simp
    with_reducible rfl
  rotate_left
  · simp only [Act.put, List.setIfInBounds_toArray, List.set_cons_zero, List.set_cons_succ, i64_w, i32_w]
    rfl
  refine take_ (i := 11) (N := some 65) (v := ?_) (a' := ?_) #[true, true, true, true, true, true, true, true, true, true, true, true, true, true, false, false, false] rfl rfl (take_ofW HT_.out HW_.out (by kernel_rfl)) (fun _ _ _ h => h) (Or.inl ⟨by rfl, ?_⟩) hHeld ?_ ?_
  rotate_left
  · rintro w' ⟨s0, s1⟩
    go_simp
    with_reducible rfl
  rotate_left
  · simp only [Act.put, List.setIfInBounds_toArray, List.set_cons_zero, List.set_cons_succ, i64_w, i32_w]
    rfl
  refine one_ (i := 14) (N := some 68) #[true, true, true, true, true, true, true, true, true, true, true, true, true, true, true, false, false] rfl rfl (one_of HT_.out (by kernel_rfl)) (by decide) (fun K hK => ?_)
  refine goes_ Try.func41 (by kernel_rfl) rfl #[.slice Ai d.length ci, .int .i64 (j : Int), .int .i64 doc] (by rfl) rfl rfl (by (try simp only [List.map_toArray, List.map_cons, List.map_nil]); first | done | rfl) ?_
  with_reducible refine (put_int Ai ci d j doc _ (CEI.out.step HBW.out) HCCi.out HJ.out HDL.out).mono ?_
  rintro e w68 ⟨v68, rfl, ho_, hb_⟩
  refine ⟨_, rfl, ?_⟩
  obtain ⟨A68, c68, ev68⟩ := own_slice ho_
  subst ev68
  have HO68 := Aside0.mk ho_
  have HX68 := Aside0.mk hb_
  clear ho_ hb_
  have HB68 := Aside0.mk (below_step HBW.out HX68.out)
  have f68 := frozen_below HB68.out hcell hfro
  refine hK.out _ _ ⟨pw_cell_below HB68.out k1, pw_cell_below HB68.out hcell⟩ (fun hHeld => ?_)
  clear hK K
  refine norm_ (a' := ?_) ?_ ?_
  rotate_left
  · show Act.put _ (some 68) _ = _
    simp only [Act.put, List.setIfInBounds_toArray, List.set_cons_zero, List.set_cons_succ, i64_w, i32_w]
    rfl
  refine pure_ (i := 15) (N := some 69) (v := ?_) (a' := ?_) #[true, true, true, true, true, true, true, true, true, true, true, true, true, true, true, true, false] rfl rfl (any_of HT_.out (by kernel_rfl)) (fun _ _ _ h => h) (Or.inl ⟨by rfl, ?_⟩) ?_ ?_
  rotate_left
  · intro w'
    go_simp
    with_reducible rfl
  rotate_left
  · simp only [Act.put, List.setIfInBounds_toArray, List.set_cons_zero, List.set_cons_succ, i64_w, i32_w]
    rfl
  refine last_ (i := 16) (N := none) #[true, true, true, true, true, true, true, true, true, true, true, true, true, true, true, true, true] rfl rfl (one_of HT_.out (by kernel_rfl)) (by decide) (fun K hK => ?_)
  go_simp
  refine hK.out _ _ ?_
  clear hK K
  refine done_ (done_of HT_.out (by kernel_rfl)) ?_
  have S9 := fzn_new' S.out 3 rfl i HO68.out HX68.out
  replace S := Aside0.mk (hd_put' S9 2 rfl i p4 (.slice A68 (d.length + 1) c68) rfl)
  go_wp2
  go_end0
  first | exact ⟨rfl, _, S.out⟩ | (have hS := S.out; rw [List.map_set] at hS; exact ⟨rfl, _, hS⟩)
set_option maxHeartbeats 4000000 in
set_option maxRecDepth 100000 in
theorem add_new {w0 w : World} {L : List (Thing w0.heap.size)} {g : Nat} {wv dv bv : Value} {dvs : List Value} {ws : List ByteArray} {ds : List (List Int)} (S : Sep w0 w (Box _ g 56 #[wv, dv, bv] :: Fz _ wv (pw_strs ws) :: Hd _ 43 dv dvs :: FzN _ dvs (ds.map (nums .i64)) :: L)) (hwl : ws.length ≤ 1000000) (hds : ds.length = ws.length) (s : ByteArray) (doc : Int) (k : Nat) (i : Nat) (h : slices_BinarySearch_string_string.f k ws s = some ((i : Int), false)) (hi : i ≤ ws.length) :
    Calls Try.prog 30 #[.pointer (some ⟨g, 0, none⟩), .string s, .int .i64 doc] w fun e w' => e = .returned (.tuple #[]) ∧ ∃ wv2 dv2 dvs2, Sep w0 w' (Box _ g 56 #[wv2, dv2, bv] :: Fz _ wv2 (pw_strs (ins ws i s)) :: Hd _ 43 dv2 dvs2 :: FzN _ dvs2 ((ins ds i [doc]).map (nums .i64)) :: L) := by
  obtain ⟨A, c, rfl, hc, hCE, hC⟩ := fz_strs S 1 rfl hwl
  have hdn := fzn_len S 3 rfl
  obtain ⟨Ad, cd, rfl, hcd, _, _⟩ := S.sp.hd 2 rfl
  have k0 := blk_cell (S.at_box 0 rfl) 0
  have k1 := blk_cell (S.at_box 0 rfl) 1
  simp only [List.getElem?_toArray, List.getElem?_cons_zero, List.getElem?_cons_succ] at k0 k1
  have f0 := blk_frozen (S.at_box 0 rfl) 0
  have f1 := blk_frozen (S.at_box 0 rfl) 1
  have HC0 := Aside0.mk hC
  have HCC := Aside0.mk hc
  have HB := Aside0.mk h
  have HI := Aside0.mk hi
  have HL := Aside0.mk hwl
  have HCD := Aside0.mk hcd
  have HDN : Aside0 (dvs.length ≤ 1000000) := ⟨by omega⟩
  have HID : Aside0 (i ≤ dvs.length) := ⟨by omega⟩
  have HIDS : Aside0 (i ≤ ds.length) := ⟨by omega⟩
  have CEW := Aside0.mk hCE
  have S := Aside0.mk S
  clear h hC hc hCE hwl hcd hdn hds hi
  go_enter Try.func30, Try.ntmps30
  go_upto_region 4 with (first | (go_at_call 35; (with_reducible refine (bs_str k ws s _ _ A c w HC0.out HCC.out HB.out).mono ?_); rintro e_ w_ ⟨rfl, n1, rfl⟩) | (go_at_call 39; (with_reducible refine (put_str A c ws i s _ (CEW.out.drewN _) HCC.out HI.out HL.out).mono ?_); rintro e_ w28 ⟨v28, rfl, ho, hb⟩; obtain ⟨A28, c28, ev28⟩ := own_slice ho; subst ev28; replace S := Aside0.mk (fz_new' (S.out.drewN _) 1 rfl ho (strs_one _) hb); clear ho hb; have k0_ : w28.cell? ⟨g, 0, none⟩ = some (.slice A ws.length c) := (blk_cell (S.out.at_box 0 rfl) 0).trans rfl; have k1_ : w28.cell? ⟨g, 1, none⟩ = some (.slice Ad dvs.length cd) := (blk_cell (S.out.at_box 0 rfl) 1).trans rfl; have f0_ := blk_frozen (S.out.at_box 0 rfl) 0; have f1_ := blk_frozen (S.out.at_box 0 rfl) 1) | (replace S := Aside0.mk (S.out.set 0 rfl 0 (.slice A28 (ws.length + 1) c28)); go_at_call 40; (with_reducible refine (put_row Ad cd dvs i _ (hd_CE S.out 2 rfl) HCD.out HID.out HDN.out).mono ?_); rintro e_ w37 ⟨v37, rfl, ho, hb⟩; obtain ⟨A37, c37, ev37⟩ := own_slice ho; subst ev37; replace S := Aside0.mk (fzn_ins' (hd_new' S.out 2 rfl ho (ins_one (hd_one S.out 2 rfl) _) hb) 3 rfl i HID.out); clear ho hb; have k1__ : w37.cell? ⟨g, 1, none⟩ = some (.slice Ad dvs.length cd) := (blk_cell (S.out.at_box 0 rfl) 1).trans rfl; have f1__ : w37.frozen? ⟨g, 1, none⟩ = false := blk_frozen (S.out.at_box 0 rfl) 1) | fail)
  replace S := Aside0.mk (S.out.set 0 rfl 1 (.slice A37 (dvs.length + 1) c37))
  clear k0 k1 f0 f1 k0_ k1_ f0_ f1_ k1__ f1__
  generalize w37.setCell ⟨g, 1, none⟩ (.slice A37 (dvs.length + 1) c37) = W4 at S ⊢
  have hat := ins_at dvs i (.slice none 0 0) HID.out
  obtain ⟨g37, c37', ed, hcd, hcell, hfro, hCEd⟩ := hd_at S.out 2 rfl i hat
  injection ed with ed1 ed2 ed3
  subst ed1; subst ed3
  clear hCEd hcd ed2 hat
  have k1 : W4.cell? ⟨g, 1, none⟩ = some (.slice (some ⟨g37, 0, none⟩) (dvs.length + 1) c37) := (blk_cell (S.out.at_box 0 rfl) 1).trans rfl
  have f1 : W4.frozen? ⟨g, 1, none⟩ = false := blk_frozen (S.out.at_box 0 rfl) 1
  have p0 : decide ((0 : Int) ≤ (i : Int)) = true := decide_eq_true (by omega)
  have p1 : decide ((i : Int) < ((dvs.length + 1 : Nat) : Int)) = true := decide_eq_true (by have := HID.out; omega)
  have p2 : (0 : Int) ≤ (i : Int) := by omega
  have p3 : (i : Int) < ((dvs.length + 1 : Nat) : Int) := by have := HID.out; omega
  have p5 : (i : Int) < (dvs.length : Int) + 1 := by have := HID.out; omega
  have p6 : decide ((i : Int) < (dvs.length : Int) + 1) = true := decide_eq_true p5
  have p4 : i < dvs.length + 1 := by have := HID.out; omega
  go_upto_region 6 with (first | (go_at_call 38; (with_reducible refine (bs_none doc _).mono ?_); rintro e_ w_ ⟨rfl, n2, rfl⟩) | fail)
  refine start_ (n := 17) (S := fun w' => w'.cell? ⟨g, 1, none⟩ = some (.slice (some ⟨g37, 0, none⟩) (dvs.length + 1) c37) ∧ w'.cell? ⟨g37, i, none⟩ = some (.slice none 0 0)) (ds := [16]) #[false, false, false, false, false, false, false, false, false, false, false, false, false, false, false, false, false] (by kernel_rfl) rfl rfl ⟨k1, hcell⟩ (fun hHeld => ?_); refine with_tabW ad6_tab ad6_bits (fun HT_ HW_ => ?_)
  have HBW := Aside0.mk (below_drew (pw_below_drewN (Below.refl W4.heap.size W4) n2))
  generalize (W4.drewN n2).drew = W5 at HBW hHeld ⊢
  replace S := Aside0.mk (S.out.step HBW.out)
  refine pure_ (i := 0) (N := some 54) (v := ?_) (a' := ?_) #[true, false, false, false, false, false, false, false, false, false, false, false, false, false, false, false, false] rfl rfl (any_of HT_.out (by kernel_rfl)) (fun _ _ _ h => h) (Or.inl ⟨by rfl, ?_⟩) ?_ ?_
  rotate_left
  · intro w'
    go_simp
    with_reducible rfl
  rotate_left
  · simp only [Act.put, List.setIfInBounds_toArray, List.set_cons_zero, List.set_cons_succ, i64_w, i32_w]
    rfl
  refine pure_ (i := 1) (N := some 55) (v := ?_) (a' := ?_) #[true, true, false, false, false, false, false, false, false, false, false, false, false, false, false, false, false] rfl rfl (any_of HT_.out (by kernel_rfl)) (fun _ _ _ h => h) (Or.inl ⟨by rfl, ?_⟩) ?_ ?_
  rotate_left
  · intro w'
    go_simp
    with_reducible rfl
  rotate_left
  · simp only [Act.put, List.setIfInBounds_toArray, List.set_cons_zero, List.set_cons_succ, i64_w, i32_w]
    rfl
  refine pure_ (i := 2) (N := some 56) (v := ?_) (a' := ?_) #[true, true, true, false, false, false, false, false, false, false, false, false, false, false, false, false, false] rfl rfl (any_of HT_.out (by kernel_rfl)) (fun _ _ _ h => h) (Or.inl ⟨by rfl, ?_⟩) ?_ ?_
  rotate_left
  · intro w'
    go_simp
    with_reducible rfl
  rotate_left
  · simp only [Act.put, List.setIfInBounds_toArray, List.set_cons_zero, List.set_cons_succ, i64_w, i32_w]
    rfl
  refine pure_ (i := 4) (N := some 58) (v := ?_) (a' := ?_) #[true, true, true, false, true, false, false, false, false, false, false, false, false, false, false, false, false] rfl rfl (any_of HT_.out (by kernel_rfl)) (fun _ _ _ h => h) (Or.inl ⟨by rfl, ?_⟩) ?_ ?_
  rotate_left
  · intro w'
    go_simp
    with_reducible rfl
  rotate_left
  · simp only [Act.put, List.setIfInBounds_toArray, List.set_cons_zero, List.set_cons_succ, i64_w, i32_w]
    rfl
  refine pure_ (i := 5) (N := some 59) (v := ?_) (a' := ?_) #[true, true, true, false, true, true, false, false, false, false, false, false, false, false, false, false, false] rfl rfl (any_of HT_.out (by kernel_rfl)) (fun _ _ _ h => h) (Or.inl ⟨by rfl, ?_⟩) ?_ ?_
  rotate_left
  · intro w'
    go_simp
    with_reducible rfl
  rotate_left
  · simp only [Act.put, List.setIfInBounds_toArray, List.set_cons_zero, List.set_cons_succ, i64_w, i32_w]
    rfl
  refine pure_ (i := 6) (N := some 60) (v := ?_) (a' := ?_) #[true, true, true, false, true, true, true, false, false, false, false, false, false, false, false, false, false] rfl rfl (any_of HT_.out (by kernel_rfl)) (fun _ _ _ h => h) (Or.inl ⟨by rfl, ?_⟩) ?_ ?_
  rotate_left
  · intro w'
    go_simp
    with_reducible rfl
  rotate_left
  · simp only [Act.put, List.setIfInBounds_toArray, List.set_cons_zero, List.set_cons_succ, i64_w, i32_w]
    rfl
  refine pure_ (i := 7) (N := some 61) (v := ?_) (a' := ?_) #[true, true, true, false, true, true, true, true, false, false, false, false, false, false, false, false, false] rfl rfl (any_of HT_.out (by kernel_rfl)) (fun _ _ _ h => h) (Or.inl ⟨by rfl, ?_⟩) ?_ ?_
  rotate_left
  · intro w'
    go_simp
    with_reducible rfl
  rotate_left
  · simp only [Act.put, List.setIfInBounds_toArray, List.set_cons_zero, List.set_cons_succ, i64_w, i32_w]
    rfl
  refine pure_ (i := 9) (N := some 63) (v := ?_) (a' := ?_) #[true, true, true, false, true, true, true, true, false, true, false, false, false, false, false, false, false] rfl rfl (any_of HT_.out (by kernel_rfl)) (fun _ _ _ h => h) (Or.inl ⟨by rfl, ?_⟩) ?_ ?_
  rotate_left
  · intro w'
    go_simp
    with_reducible rfl
  rotate_left
  · simp only [Act.put, List.setIfInBounds_toArray, List.set_cons_zero, List.set_cons_succ, i64_w, i32_w]
    rfl
  refine pure_ (i := 12) (N := some 66) (v := ?_) (a' := ?_) #[true, true, true, false, true, true, true, true, false, true, false, false, true, false, false, false, false] rfl rfl (any_of HT_.out (by kernel_rfl)) (fun _ _ _ h => h) (Or.inl ⟨by rfl, ?_⟩) ?_ ?_
  rotate_left
  · intro w'
    go_simp
    with_reducible rfl
  rotate_left
  · simp only [Act.put, List.setIfInBounds_toArray, List.set_cons_zero, List.set_cons_succ, i64_w, i32_w]
    rfl
  refine pure_ (i := 13) (N := some 67) (v := ?_) (a' := ?_) #[true, true, true, false, true, true, true, true, false, true, false, false, true, true, false, false, false] rfl rfl (any_of HT_.out (by kernel_rfl)) (fun _ _ _ h => h) (Or.inl ⟨by rfl, ?_⟩) ?_ ?_
  rotate_left
  · intro w'
    go_simp
    with_reducible rfl
  rotate_left
  · simp only [Act.put, List.setIfInBounds_toArray, List.set_cons_zero, List.set_cons_succ, i64_w, i32_w]
    rfl
  refine take_ (i := 3) (N := some 57) (v := ?_) (a' := ?_) #[true, true, true, true, true, true, true, true, false, true, false, false, true, true, false, false, false] rfl rfl (take_ofW HT_.out HW_.out (by kernel_rfl)) (fun _ _ _ h => h) (Or.inl ⟨by rfl, ?_⟩) hHeld ?_ ?_
  rotate_left
  · rintro w' ⟨s0, s1⟩
    go_simp
    with_reducible rfl
  rotate_left
  · simp only [Act.put, List.setIfInBounds_toArray, List.set_cons_zero, List.set_cons_succ, i64_w, i32_w]
    rfl
  refine take_ (i := 8) (N := some 62) (v := ?_) (a' := ?_) #[true, true, true, true, true, true, true, true, true, true, false, false, true, true, false, false, false] rfl rfl (take_ofW HT_.out HW_.out (by kernel_rfl)) (fun _ _ _ h => h) (Or.inl ⟨by rfl, ?_⟩) hHeld ?_ ?_
  rotate_left
  · rintro w' ⟨s0, s1⟩
    go_simp
    with_reducible rfl
  rotate_left
  · simp only [Act.put, List.setIfInBounds_toArray, List.set_cons_zero, List.set_cons_succ, i64_w, i32_w]
    rfl
  refine pure_ (i := 10) (N := some 64) (v := ?_) (a' := ?_) #[true, true, true, true, true, true, true, true, true, true, true, false, true, true, false, false, false] rfl rfl (any_of HT_.out (by kernel_rfl)) (fun _ _ _ h => h) (Or.inl ⟨by rfl, ?_⟩) ?_ ?_
  rotate_left
  · intro w'
    go_simp
    with_reducible rfl
  rotate_left
  · simp only [Act.put, List.setIfInBounds_toArray, List.set_cons_zero, List.set_cons_succ, i64_w, i32_w]
    rfl
  refine take_ (i := 11) (N := some 65) (v := ?_) (a' := ?_) #[true, true, true, true, true, true, true, true, true, true, true, true, true, true, false, false, false] rfl rfl (take_ofW HT_.out HW_.out (by kernel_rfl)) (fun _ _ _ h => h) (Or.inl ⟨by rfl, ?_⟩) hHeld ?_ ?_
  rotate_left
  · rintro w' ⟨s0, s1⟩
    go_simp
    with_reducible rfl
  rotate_left
  · simp only [Act.put, List.setIfInBounds_toArray, List.set_cons_zero, List.set_cons_succ, i64_w, i32_w]
    rfl
  refine one_ (i := 14) (N := some 68) #[true, true, true, true, true, true, true, true, true, true, true, true, true, true, true, false, false] rfl rfl (one_of HT_.out (by kernel_rfl)) (by decide) (fun K hK => ?_)
  refine goes_ Try.func41 (by kernel_rfl) rfl #[.slice none 0 0, .int .i64 0, .int .i64 doc] (by rfl) rfl rfl (by (try simp only [List.map_toArray, List.map_cons, List.map_nil]); first | done | rfl) ?_
  with_reducible refine (put_first doc _).mono ?_
  rintro e w68 ⟨v68, rfl, ho_, hb_⟩
  refine ⟨_, rfl, ?_⟩
  obtain ⟨A68, c68, ev68⟩ := own_slice ho_
  subst ev68
  have HO68 := Aside0.mk ho_
  have HX68 := Aside0.mk hb_
  clear ho_ hb_
  have HB68 := Aside0.mk (below_step HBW.out HX68.out)
  have f68 := frozen_below HB68.out hcell hfro
  refine hK.out _ _ ⟨pw_cell_below HB68.out k1, pw_cell_below HB68.out hcell⟩ (fun hHeld => ?_)
  clear hK K
  refine norm_ (a' := ?_) ?_ ?_
  rotate_left
  · show Act.put _ (some 68) _ = _
    simp only [Act.put, List.setIfInBounds_toArray, List.set_cons_zero, List.set_cons_succ, i64_w, i32_w]
    rfl
  refine pure_ (i := 15) (N := some 69) (v := ?_) (a' := ?_) #[true, true, true, true, true, true, true, true, true, true, true, true, true, true, true, true, false] rfl rfl (any_of HT_.out (by kernel_rfl)) (fun _ _ _ h => h) (Or.inl ⟨by rfl, ?_⟩) ?_ ?_
  rotate_left
  · intro w'
    go_simp
    with_reducible rfl
  rotate_left
  · simp only [Act.put, List.setIfInBounds_toArray, List.set_cons_zero, List.set_cons_succ, i64_w, i32_w]
    rfl
  refine last_ (i := 16) (N := none) #[true, true, true, true, true, true, true, true, true, true, true, true, true, true, true, true, true] rfl rfl (one_of HT_.out (by kernel_rfl)) (by decide) (fun K hK => ?_)
  go_simp
  refine hK.out _ _ ?_
  clear hK K
  refine done_ (done_of HT_.out (by kernel_rfl)) ?_
  have S9 := fzn_new' S.out 3 rfl i HO68.out HX68.out
  replace S := Aside0.mk (hd_put' S9 2 rfl i (by rw [ins_length _ _ _ HID.out]; exact p4) (.slice A68 1 c68) rfl)
  go_wp2
  go_end0
  have hS := S.out
  rw [ins_set _ _ _ _ HID.out, ins_set _ _ _ _ HIDS.out] at hS
  exact ⟨rfl, _, _, _, hS⟩
end Go.Proofs.Ytpfmebpalejadaa.Hand
end
section
namespace Go.Proofs.Ytpfmebpalejadaa.Plain
open Go.RowKit Go.Proofs.YtpfmebpalejadaaW.PrintWords Go.Proofs.YtpfmebpalejadaaW.PrintLast Go.Proofs.YtpfmebpalejadaaW.PrintMore Go.Proofs.Ytpfmebpalejadaa.PALL
set_option linter.unusedVariables false
set_option linter.unusedSimpArgs false
/-! ### The order of words -/
theorem bl_irrefl : ∀ l : List UInt8, Op.bytesLess l l = false
  | [] => rfl
  | a :: t => by
    rw [Op.bytesLess, bl_irrefl t]
    simp
theorem bl_trans : ∀ {x y z : List UInt8}, Op.bytesLess x y = true → Op.bytesLess y z = true → Op.bytesLess x z = true
  | _, _, [], _, h => by cases ‹List UInt8› <;> simp [Op.bytesLess] at h
  | _, [], _ :: _, h, _ => by cases ‹List UInt8› <;> simp [Op.bytesLess] at h
  | [], _ :: _, _ :: _, _, _ => by simp [Op.bytesLess]
  | a :: x, b :: y, c :: z, h, k => by
    simp only [Op.bytesLess, Bool.or_eq_true, Bool.and_eq_true, decide_eq_true_eq, beq_iff_eq] at h k ⊢
    rcases h with h | ⟨rfl, h⟩
    · rcases k with k | ⟨rfl, k⟩
      · exact .inl (UInt8.lt_trans h k)
      · exact .inl h
    · rcases k with k | ⟨rfl, k⟩
      · exact .inl k
      · exact .inr ⟨rfl, bl_trans h k⟩
theorem bl_tri : ∀ (x y : List UInt8), Op.bytesLess x y = false → Op.bytesLess y x = false → x = y
  | [], [], _, _ => rfl
  | [], _ :: _, h, _ => by simp [Op.bytesLess] at h
  | _ :: _, [], _, h => by simp [Op.bytesLess] at h
  | a :: x, b :: y, h, k => by
    simp only [Op.bytesLess, Bool.or_eq_false_iff, Bool.and_eq_false_iff, decide_eq_false_iff_not, beq_eq_false_iff_ne] at h k
    have hab : a = b := by
      apply UInt8.le_antisymm
      · exact UInt8.not_lt.1 k.1
      · exact UInt8.not_lt.1 h.1
    subst hab
    rw [bl_tri x y (h.2.resolve_left (fun h' => h' rfl)) (k.2.resolve_left (fun h' => h' rfl))]
theorem str_ext {a b : ByteArray} (h : a.toList = b.toList) : a = b := ByteArray.ext (Array.ext' (by rw [ByteArray.toList_eq, ByteArray.toList_eq] at h; exact h))
/-- a word before another. -/
def wl (a b : ByteArray) : Bool := Op.bytesLess a.toList b.toList
theorem wl_irrefl (a : ByteArray) : wl a a = false := bl_irrefl _
theorem wl_trans {a b c : ByteArray} (h : wl a b = true) (k : wl b c = true) : wl a c = true := bl_trans h k
theorem wl_tri {a b : ByteArray} (h : wl a b = false) (k : wl b a = false) : a = b := str_ext (bl_tri _ _ h k)
theorem wl_asymm {a b : ByteArray} (h : wl a b = true) : wl b a = false := by
  cases hh : wl b a
  · rfl
  · have := wl_trans h hh
    rw [wl_irrefl] at this
    cases this
/-! ### The first place at which p ends -/
def lb {α : Type} (p : α → Bool) (l : List α) : Nat := (l.takeWhile p).length
theorem lb_le {α : Type} (p : α → Bool) (l : List α) : lb p l ≤ l.length := List.Sublist.length_le (List.takeWhile_sublist p)
theorem lb_lt {α : Type} (p : α → Bool) : ∀ (l : List α) (j : Nat), j < lb p l → ∃ x, l[j]? = some x ∧ p x = true
  | [], j, h => by simp [lb] at h
  | a :: t, j, h => by
    rw [lb, List.takeWhile_cons] at h
    split at h
    · rename_i ha
      cases j with
      | zero => exact ⟨a, rfl, ha⟩
      | succ j => exact lb_lt p t j (by rw [List.length_cons] at h; exact Nat.lt_of_succ_lt_succ h)
    · simp at h
theorem lb_at {α : Type} (p : α → Bool) : ∀ (l : List α) (x : α), l[lb p l]? = some x → p x = false
  | [], x, h => by simp at h
  | a :: t, x, h => by
    rw [lb, List.takeWhile_cons] at h
    split at h
    · rw [List.length_cons, List.getElem?_cons_succ] at h
      exact lb_at p t x h
    · rename_i ha
      simp at h
      rw [← h]
      simpa using ha
theorem lb_eq {α : Type} (p : α → Bool) (l : List α) (i : Nat) (hi : i ≤ l.length) (h1 : ∀ j x, j < i → l[j]? = some x → p x = true) (h2 : ∀ x, l[i]? = some x → p x = false) : lb p l = i := by
  rcases Nat.lt_trichotomy (lb p l) i with h | h | h
  · have hl : lb p l < l.length := by omega
    have a := lb_at p l _ (List.getElem?_eq_getElem hl)
    rw [h1 _ _ h (List.getElem?_eq_getElem hl)] at a
    cases a
  · exact h
  · obtain ⟨x, hx, hp⟩ := lb_lt p l i h
    rw [h2 x hx] at hp
    cases hp
/-! ### The searches -/
theorem mid (x y : Int) (h0 : 0 ≤ x) (h1 : x < y) (h2 : y ≤ 1000000) : wrap64 ((IntKind.u64.wrap (wrap64 (x + y))) / 2) = (x + y) / 2 := by
  have e : wrap64 (x + y) = x + y := by unfold wrap64; omega
  rw [e]
  have e2 : IntKind.u64.wrap (x + y) = x + y := by
    simp [IntKind.wrap, IntKind.bits, IntKind.signed]
    omega
  rw [e2]
  unfold wrap64
  omega
theorem less_s (a b : ByteArray) : cmp_Less_string.f a b = some (wl a b) := by
  simp only [cmp_Less_string.f, cmp_isNaN_string.f, Option.bind_some, wl]
  simp
theorem less_i (a b : Int) : cmp_Less_int.f a b = some (decide (a < b)) := by
  simp only [cmp_Less_int.f, cmp_isNaN_int.f, Option.bind_some]
  simp
theorem rdOf_at (z : ByteArray) (l : List ByteArray) (j : Nat) (h : j < l.length) : rdOf z l (j : Int) = l[j] := by simp [rdOf, h]
theorem rd_at (l : List Int) (j : Nat) (h : j < l.length) : rd l (j : Int) = l[j] := by simp [rd, h]
theorem bs_s_loop (ws : List ByteArray) (s : ByteArray) (hl : ws.length ≤ 1000000) (i : Nat) (hi : i ≤ ws.length) (h1 : ∀ j x, j < i → ws[j]? = some x → wl x s = true) (h2 : ∀ j x, i ≤ j → ws[j]? = some x → wl x s = false) :
    ∀ (n x y : Nat), y - x ≤ n → x ≤ i → i ≤ y → y ≤ ws.length → slices_BinarySearch_string_string.l0 (n + 1) ws s (ws.length : Int) (x : Int) (y : Int) = some ((i : Int), decide (ws[i]? = some s)) := by
  intro n
  induction n with
  | zero =>
    intro x y hn hx hy hyl
    obtain rfl : i = x := by omega
    obtain rfl : y = i := by omega
    rw [slices_BinarySearch_string_string.l0, if_neg (by omega)]
    by_cases hlt : y < ws.length
    · rw [if_pos (by omega), if_pos (by omega), if_pos (by omega), rdOf_at _ _ _ hlt]
      have hg := List.getElem?_eq_getElem hlt
      split
      · rename_i he
        rw [hg, str_ext he]
        simp
      · rename_i he
        simp only [slices_isNaN_string.f, Option.bind_some, bne_self_eq_false, Bool.false_eq_true, if_false]
        rw [hg, decide_eq_false]
        intro h
        injection h with h
        exact he (by rw [h])
    · rw [if_neg (by omega), List.getElem?_eq_none (by omega)]
      simp
  | succ n ih =>
    intro x y hn hx hy hyl
    by_cases hlt : x < y
    · rw [slices_BinarySearch_string_string.l0, if_pos (by omega), mid x y (by omega) (by omega) (by omega)]
      have e : ((x : Int) + y) / 2 = (((x + y) / 2 : Nat) : Int) := by omega
      rw [e]
      have hm : (x + y) / 2 < ws.length := by omega
      rw [if_pos (by omega), if_pos (by omega), rdOf_at _ _ _ hm, less_s, Option.bind_some]
      have hg := List.getElem?_eq_getElem hm
      by_cases hp : wl ws[(x + y) / 2] s = true
      · rw [if_pos hp, show wrap64 ((((x + y) / 2 : Nat) : Int) + 1) = (((x + y) / 2 + 1 : Nat) : Int) by unfold wrap64; omega]
        refine ih _ _ (by omega) ?_ hy hyl
        rcases Nat.lt_or_ge ((x + y) / 2) i with h | h
        · omega
        · rw [h2 _ _ h hg] at hp
          cases hp
      · rw [if_neg hp]
        refine ih _ _ (by omega) hx ?_ (by omega)
        rcases Nat.lt_or_ge ((x + y) / 2) i with h | h
        · exact absurd (h1 _ _ h hg) hp
        · exact h
    · have hh := ih x y (by omega) hx hy hyl
      exact at_rounds (fun k => slices_BinarySearch_string_string.mono_l k ws s (ws.length : Int) (x : Int) (y : Int)) (Nat.le_succ _) hh
theorem bs_i_loop (ws : List Int) (s : Int) (hl : ws.length ≤ 1000000) (i : Nat) (hi : i ≤ ws.length) (h1 : ∀ j x, j < i → ws[j]? = some x → decide (x < s) = true) (h2 : ∀ j x, i ≤ j → ws[j]? = some x → decide (x < s) = false) :
    ∀ (n x y : Nat), y - x ≤ n → x ≤ i → i ≤ y → y ≤ ws.length → slices_BinarySearch_int_int.l0 (n + 1) ws s (ws.length : Int) (x : Int) (y : Int) = some ((i : Int), decide (ws[i]? = some s)) := by
  intro n
  induction n with
  | zero =>
    intro x y hn hx hy hyl
    obtain rfl : i = x := by omega
    obtain rfl : y = i := by omega
    rw [slices_BinarySearch_int_int.l0, if_neg (by omega)]
    by_cases hlt : y < ws.length
    · rw [if_pos (by omega), if_pos (by omega), if_pos (by omega), rd_at _ _ hlt]
      have hg := List.getElem?_eq_getElem hlt
      split
      · rename_i he
        rw [hg, he]
        simp
      · rename_i he
        simp only [slices_isNaN_int.f, Option.bind_some, bne_self_eq_false, Bool.false_eq_true, if_false]
        rw [hg, decide_eq_false]
        intro h
        injection h with h
        exact he h
    · rw [if_neg (by omega), List.getElem?_eq_none (by omega)]
      simp
  | succ n ih =>
    intro x y hn hx hy hyl
    by_cases hlt : x < y
    · rw [slices_BinarySearch_int_int.l0, if_pos (by omega), mid x y (by omega) (by omega) (by omega)]
      have e : ((x : Int) + y) / 2 = (((x + y) / 2 : Nat) : Int) := by omega
      rw [e]
      have hm : (x + y) / 2 < ws.length := by omega
      rw [if_pos (by omega), if_pos (by omega), rd_at _ _ hm, less_i, Option.bind_some]
      have hg := List.getElem?_eq_getElem hm
      by_cases hp : decide (ws[(x + y) / 2] < s) = true
      · rw [if_pos hp, show wrap64 ((((x + y) / 2 : Nat) : Int) + 1) = (((x + y) / 2 + 1 : Nat) : Int) by unfold wrap64; omega]
        refine ih _ _ (by omega) ?_ hy hyl
        rcases Nat.lt_or_ge ((x + y) / 2) i with h | h
        · omega
        · rw [h2 _ _ h hg] at hp
          cases hp
      · rw [if_neg hp]
        refine ih _ _ (by omega) hx ?_ (by omega)
        rcases Nat.lt_or_ge ((x + y) / 2) i with h | h
        · exact absurd (h1 _ _ h hg) hp
        · exact h
    · have hh := ih x y (by omega) hx hy hyl
      exact at_rounds (fun k => slices_BinarySearch_int_int.mono_l k ws s (ws.length : Int) (x : Int) (y : Int)) (Nat.le_succ _) hh
/-- Strictly in order. -/
def SW (l : List ByteArray) : Prop := l.Pairwise (fun a b => wl a b = true)
def SI (l : List Int) : Prop := l.Pairwise (fun a b => a < b)
def lbW (ws : List ByteArray) (s : ByteArray) : Nat := lb (fun x => wl x s) ws
def lbI (d : List Int) (x : Int) : Nat := lb (fun y => decide (y < x)) d
theorem pw_at {α : Type} {r : α → α → Prop} {l : List α} (h : l.Pairwise r) {i j : Nat} {x y : α} (hij : i < j) (hx : l[i]? = some x) (hy : l[j]? = some y) : r x y := by
  obtain ⟨hi, rfl⟩ := List.getElem?_eq_some_iff.1 hx
  obtain ⟨hj, rfl⟩ := List.getElem?_eq_some_iff.1 hy
  exact List.pairwise_iff_getElem.1 h i j hi hj hij
theorem lbW_after {ws : List ByteArray} (h : SW ws) (s : ByteArray) (j : Nat) (x : ByteArray) (hj : lbW ws s ≤ j) (hx : ws[j]? = some x) : wl x s = false := by
  rcases Nat.lt_or_ge (lbW ws s) j with hlt | hge
  · have hl : lbW ws s < ws.length := by have := (List.getElem?_eq_some_iff.1 hx).1; omega
    have h0 := lb_at (fun x => wl x s) ws _ (List.getElem?_eq_getElem hl)
    have h1 := pw_at h hlt (List.getElem?_eq_getElem hl) hx
    cases hh : wl x s
    · rfl
    · exact absurd (wl_trans h1 hh) (by simpa using h0)
  · have e : j = lbW ws s := by omega
    subst e
    exact lb_at (fun x => wl x s) ws x hx
theorem lbI_after {ws : List Int} (h : SI ws) (s : Int) (j : Nat) (x : Int) (hj : lbI ws s ≤ j) (hx : ws[j]? = some x) : decide (x < s) = false := by
  rcases Nat.lt_or_ge (lbI ws s) j with hlt | hge
  · have hl : lbI ws s < ws.length := by have := (List.getElem?_eq_some_iff.1 hx).1; omega
    have h0 := lb_at (fun x => decide (x < s)) ws _ (List.getElem?_eq_getElem hl)
    have h1 := pw_at h hlt (List.getElem?_eq_getElem hl) hx
    simp only [decide_eq_false_iff_not] at h0 ⊢
    intro h2
    exact h0 (by omega)
  · have e : j = lbI ws s := by omega
    subst e
    exact lb_at (fun x => decide (x < s)) ws x hx
theorem bs_s (ws : List ByteArray) (s : ByteArray) (h : SW ws) (hl : ws.length ≤ 1000000) : ∃ k, slices_BinarySearch_string_string.f k ws s = some ((lbW ws s : Int), decide (ws[lbW ws s]? = some s)) :=
  ⟨ws.length + 1, bs_s_loop ws s hl (lbW ws s) (lb_le _ _) (fun j x hj hx => by
    obtain ⟨y, hy, hp⟩ := lb_lt (fun x => wl x s) ws j hj
    rw [hx] at hy
    injection hy with hy
    rw [hy]
    exact hp) (fun j x hj hx => lbW_after h s j x hj hx) ws.length 0 ws.length (by omega) (by omega) (lb_le _ _) (Nat.le_refl _)⟩
theorem bs_i (d : List Int) (s : Int) (h : SI d) (hl : d.length ≤ 1000000) : ∃ k, slices_BinarySearch_int_int.f k d s = some ((lbI d s : Int), decide (d[lbI d s]? = some s)) :=
  ⟨d.length + 1, bs_i_loop d s hl (lbI d s) (lb_le _ _) (fun j x hj hx => by
    obtain ⟨y, hy, hp⟩ := lb_lt (fun x => decide (x < s)) d j hj
    rw [hx] at hy
    injection hy with hy
    rw [hy]
    exact hp) (fun j x hj hx => lbI_after h s j x hj hx) d.length 0 d.length (by omega) (by omega) (lb_le _ _) (Nat.le_refl _)⟩
end Go.Proofs.Ytpfmebpalejadaa.Plain
end
section
namespace Go.Proofs.Ytpfmebpalejadaa.Plain
open Go.RowKit Go.Proofs.YtpfmebpalejadaaW.PrintWords Go.Proofs.YtpfmebpalejadaaW.PrintLast Go.Proofs.YtpfmebpalejadaaW.PrintMore Go.Proofs.Ytpfmebpalejadaa.PALL Go.Proofs.Ytpfmebpalejadaa.Hand
set_option linter.unusedVariables false
set_option linter.unusedSimpArgs false
theorem mem_ins {α : Type} {l : List α} {i : Nat} {x y : α} : y ∈ ins l i x ↔ y = x ∨ y ∈ l := by
  have h : y ∈ l ↔ y ∈ l.take i ∨ y ∈ l.drop i := by rw [← List.mem_append, List.take_append_drop]
  rw [h]
  simp only [ins, List.mem_append, List.mem_singleton]
  constructor
  · rintro ((h | h) | h)
    · exact .inr (.inl h)
    · exact .inl h
    · exact .inr (.inr h)
  · rintro (h | h | h)
    · exact .inl (.inr h)
    · exact .inl (.inl h)
    · exact .inr h
theorem pw_ins {α : Type} {r : α → α → Prop} {l : List α} {i : Nat} {x : α} (h : l.Pairwise r) (h1 : ∀ j y, j < i → l[j]? = some y → r y x) (h2 : ∀ j y, i ≤ j → l[j]? = some y → r x y) : (ins l i x).Pairwise r := by
  have hd : ∀ y ∈ l.take i, r y x := by
    intro y hy
    obtain ⟨j, hj, rfl⟩ := List.getElem_of_mem hy
    rw [List.length_take] at hj
    exact h1 j _ (by omega) (by rw [List.getElem_take, List.getElem?_eq_getElem (by omega)])
  have hf : ∀ y ∈ l.drop i, r x y := by
    intro y hy
    obtain ⟨j, hj, rfl⟩ := List.getElem_of_mem hy
    rw [List.length_drop] at hj
    exact h2 (i + j) _ (by omega) (by rw [List.getElem_drop, List.getElem?_eq_getElem (by omega)])
  have h0 := h
  rw [← List.take_append_drop i l, List.pairwise_append] at h0
  rw [ins, List.append_assoc, List.pairwise_append]
  refine ⟨h0.1, ?_, ?_⟩
  · rw [List.singleton_append, List.pairwise_cons]
    exact ⟨hf, h0.2.1⟩
  · intro a ha b hb
    rw [List.singleton_append, List.mem_cons] at hb
    rcases hb with rfl | hb
    · exact hd a ha
    · exact h0.2.2 a ha b hb
/-- What stands at a place and what stands elsewhere. -/
theorem mem_erase_pw {α : Type} {r : α → α → Prop} (hr : ∀ a, ¬ r a a) {l : List α} (h : l.Pairwise r) {i : Nat} {x : α} (hx : l[i]? = some x) (y : α) : y ∈ l.eraseIdx i ↔ y ∈ l ∧ y ≠ x := by
  constructor
  · intro hy
    refine ⟨List.mem_of_mem_eraseIdx hy, ?_⟩
    rintro rfl
    rw [List.eraseIdx_eq_take_drop_succ, List.mem_append] at hy
    rcases hy with hy | hy
    · obtain ⟨j, hj, he⟩ := List.getElem_of_mem hy
      rw [List.length_take] at hj
      rw [List.getElem_take] at he
      have := pw_at h (i := j) (j := i) (by omega) (List.getElem?_eq_getElem (by omega)) hx
      rw [he] at this
      exact hr _ this
    · obtain ⟨j, hj, he⟩ := List.getElem_of_mem hy
      rw [List.length_drop] at hj
      rw [List.getElem_drop] at he
      have := pw_at h (i := i) (j := i + 1 + j) (by omega) hx (List.getElem?_eq_getElem (by omega))
      rw [he] at this
      exact hr _ this
  · rintro ⟨hy, hne⟩
    obtain ⟨j, hj, rfl⟩ := List.getElem_of_mem hy
    have hji : j ≠ i := by
      rintro rfl
      rw [List.getElem?_eq_getElem hj] at hx
      injection hx with hx
      exact hne hx
    rw [List.eraseIdx_eq_take_drop_succ, List.mem_append]
    rcases Nat.lt_or_ge j i with hlt | hge
    · exact .inl (List.mem_take_iff_getElem.2 ⟨j, by omega, rfl⟩)
    · refine .inr (List.mem_drop_iff_getElem.2 ⟨j - (i + 1), by omega, ?_⟩)
      congr 1
      omega
theorem cut_erase {α : Type} (d : List α) (j : Nat) : d.take j ++ d.drop (j + 1) = d.eraseIdx j := by rw [List.eraseIdx_eq_take_drop_succ]
/-! ### Lists of integers in order -/
theorem SI_found {d : List Int} (h : SI d) (x : Int) : d[lbI d x]? = some x ↔ x ∈ d := by
  constructor
  · exact fun h => List.mem_of_getElem? h
  · intro hx
    obtain ⟨j, hj, rfl⟩ := List.getElem_of_mem hx
    rcases Nat.lt_trichotomy j (lbI d d[j]) with hlt | he | hgt
    · obtain ⟨y, hy, hp⟩ := lb_lt _ d j hlt
      rw [List.getElem?_eq_getElem hj] at hy
      injection hy with hy
      subst hy
      simp at hp
    · rw [← he]
      exact List.getElem?_eq_getElem hj
    · have hl : lbI d d[j] < d.length := by omega
      have h1 := pw_at h hgt (List.getElem?_eq_getElem hl) (List.getElem?_eq_getElem hj)
      have h2 := lb_at (fun y => decide (y < d[j])) d _ (List.getElem?_eq_getElem hl)
      simp only [decide_eq_false_iff_not] at h2
      exact absurd h1 h2
theorem SI_ins {d : List Int} (h : SI d) (x : Int) (hx : x ∉ d) : SI (ins d (lbI d x) x) := by
  refine pw_ins h (fun j y hj hy => ?_) (fun j y hj hy => ?_)
  · obtain ⟨z, hz, hp⟩ := lb_lt _ d j hj
    rw [hy] at hz
    injection hz with hz
    subst hz
    simpa using hp
  · have h1 := lbI_after h x j y hj hy
    simp only [decide_eq_false_iff_not] at h1
    have h2 : y ≠ x := by
      rintro rfl
      exact hx (List.mem_of_getElem? hy)
    omega
theorem SI_cut {d : List Int} (h : SI d) (j : Nat) : SI (d.take j ++ d.drop (j + 1)) := by
  rw [cut_erase]
  exact h.sublist (List.eraseIdx_sublist _ _)
theorem SI_mem_cut {d : List Int} (h : SI d) (j : Nat) (x : Int) (hx : d[j]? = some x) (y : Int) : y ∈ d.take j ++ d.drop (j + 1) ↔ y ∈ d ∧ y ≠ x := by
  rw [cut_erase]
  exact mem_erase_pw (fun a => Int.lt_irrefl a) h hx y
/-! ### Lists of words in order -/
theorem SW_found {d : List ByteArray} (h : SW d) (x : ByteArray) : d[lbW d x]? = some x ↔ x ∈ d := by
  constructor
  · exact fun h => List.mem_of_getElem? h
  · intro hx
    obtain ⟨j, hj, rfl⟩ := List.getElem_of_mem hx
    rcases Nat.lt_trichotomy j (lbW d d[j]) with hlt | he | hgt
    · obtain ⟨y, hy, hp⟩ := lb_lt _ d j hlt
      rw [List.getElem?_eq_getElem hj] at hy
      injection hy with hy
      subst hy
      rw [wl_irrefl] at hp
      cases hp
    · rw [← he]
      exact List.getElem?_eq_getElem hj
    · have hl : lbW d d[j] < d.length := by omega
      have h1 := pw_at h hgt (List.getElem?_eq_getElem hl) (List.getElem?_eq_getElem hj)
      have h2 := lb_at (fun y => wl y d[j]) d _ (List.getElem?_eq_getElem hl)
      have h1 : wl d[lbW d d[j]] d[j] = true := h1
      exact absurd h1 (by rw [Bool.not_eq_true]; exact h2)
theorem SW_ins {d : List ByteArray} (h : SW d) (x : ByteArray) (hx : x ∉ d) : SW (ins d (lbW d x) x) := by
  refine pw_ins h (fun j y hj hy => ?_) (fun j y hj hy => ?_)
  · obtain ⟨z, hz, hp⟩ := lb_lt _ d j hj
    rw [hy] at hz
    injection hz with hz
    subst hz
    exact hp
  · have h1 := lbW_after h x j y hj hy
    cases h3 : wl x y
    · have := wl_tri h1 h3
      subst this
      exact absurd (List.mem_of_getElem? hy) hx
    · rfl
/-! ### The state of an index -/
/-- The words in order, each with its documents in order. -/
structure Inv (m : List (ByteArray × List Int)) (R : ByteArray → Int → Prop) : Prop where
  sw : SW (m.map (·.1))
  si : ∀ p ∈ m, SI p.2 ∧ p.2 ≠ [] ∧ ∀ x, x ∈ p.2 ↔ R p.1 x
  all : ∀ w x, R w x → ∃ p ∈ m, p.1 = w
theorem Inv.nil : Inv [] (fun _ _ => False) := ⟨List.Pairwise.nil, (by intro p h; cases h), (fun _ _ h => h.elim)⟩
theorem Inv.same {m : List (ByteArray × List Int)} {R R' : ByteArray → Int → Prop} (h : Inv m R) (hR : ∀ w x, R w x ↔ R' w x) : Inv m R' :=
  ⟨h.sw, fun p hp => ⟨(h.si p hp).1, (h.si p hp).2.1, fun x => ((h.si p hp).2.2 x).trans (hR _ _)⟩, fun w x hx => h.all w x ((hR _ _).2 hx)⟩
def plus (R : ByteArray → Int → Prop) (s : ByteArray) (x : Int) : ByteArray → Int → Prop := fun w y => R w y ∨ (w = s ∧ y = x)
def minus (R : ByteArray → Int → Prop) (s : ByteArray) (x : Int) : ByteArray → Int → Prop := fun w y => R w y ∧ ¬ (w = s ∧ y = x)
section
variable {m : List (ByteArray × List Int)} {R : ByteArray → Int → Prop} {s : ByteArray} {x : Int}
theorem Inv.absent (h : Inv m R) (hs : s ∉ m.map (·.1)) (y : Int) : ¬ R s y := by
  intro hy
  obtain ⟨p, hp, he⟩ := h.all s y hy
  exact hs (List.mem_map.2 ⟨p, hp, he⟩)
theorem Inv.minus_none (h : Inv m R) (hn : ¬ R s x) : Inv m (minus R s x) :=
  h.same (fun w y => ⟨fun hy => ⟨hy, fun he => hn (he.1 ▸ he.2 ▸ hy)⟩, fun hy => hy.1⟩)
theorem Inv.plus_has (h : Inv m R) (hn : R s x) : Inv m (plus R s x) :=
  h.same (fun w y => ⟨fun hy => .inl hy, fun hy => hy.elim id (fun he => he.1 ▸ he.2 ▸ hn)⟩)
theorem Inv.plus_new (h : Inv m R) (hs : s ∉ m.map (·.1)) : Inv (ins m (lbW (m.map (·.1)) s) (s, [x])) (plus R s x) := by
  refine ⟨?_, fun p hp => ?_, fun w y hy => ?_⟩
  · rw [← ins_map (fun p : ByteArray × List Int => p.1)]
    exact SW_ins h.sw s hs
  · rcases mem_ins.1 hp with rfl | hp
    · refine ⟨List.pairwise_singleton _ _, by simp, fun y => ?_⟩
      rw [List.mem_singleton]
      exact ⟨fun he => .inr ⟨rfl, he⟩, fun he => he.elim (fun he => absurd he (h.absent hs y)) (fun he => he.2)⟩
    · obtain ⟨h1, h2, h3⟩ := h.si p hp
      refine ⟨h1, h2, fun y => (h3 y).trans ⟨fun hy => .inl hy, fun hy => hy.elim id (fun he => ?_)⟩⟩
      exact absurd (List.mem_map.2 ⟨p, hp, he.1⟩) hs
  · rcases hy with hy | ⟨rfl, rfl⟩
    · obtain ⟨p, hp, he⟩ := h.all w y hy
      exact ⟨p, mem_ins.2 (.inr hp), he⟩
    · exact ⟨_, mem_ins.2 (.inl rfl), rfl⟩
theorem map_set_fst {m : List (ByteArray × List Int)} {i : Nat} {s : ByteArray} {d d' : List Int} (hi : m[i]? = some (s, d)) : (m.set i (s, d')).map (·.1) = m.map (·.1) := by
  rw [List.map_set]
  apply List.ext_getElem?
  intro j
  by_cases hj : i = j
  · subst hj
    rw [List.getElem?_set, List.getElem?_map, hi]
    have := (List.getElem?_eq_some_iff.1 hi).1
    simp [this]
  · rw [List.getElem?_set_ne hj]
/-- The words are told apart by their places. -/
theorem SW_unique {m : List (ByteArray × List Int)} (h : SW (m.map (·.1))) {i : Nat} {s : ByteArray} {d : List Int} (hi : m[i]? = some (s, d)) {p : ByteArray × List Int} (hp : p ∈ m) (he : p.1 = s) : p = (s, d) := by
  obtain ⟨j, hj, rfl⟩ := List.getElem_of_mem hp
  have hw : ∀ (k : Nat) (q : ByteArray × List Int), m[k]? = some q → (m.map (·.1))[k]? = some q.1 := fun k q hq => by rw [List.getElem?_map, hq]; rfl
  have hjq := List.getElem?_eq_getElem hj
  rcases Nat.lt_trichotomy i j with hlt | rfl | hgt
  · have := pw_at h hlt (hw _ _ hi) (hw _ _ hjq)
    have : wl s m[j].1 = true := this
    rw [he, wl_irrefl] at this
    cases this
  · rw [hi] at hjq
    injection hjq with hjq
    exact hjq.symm
  · have := pw_at h hgt (hw _ _ hjq) (hw _ _ hi)
    have : wl m[j].1 s = true := this
    rw [he, wl_irrefl] at this
    cases this
theorem mem_set_at {α : Type} {l : List α} {i : Nat} {a b p : α} (hp : p ∈ l.set i b) : p = b ∨ ∃ j, j ≠ i ∧ l[j]? = some p := by
  obtain ⟨j, hj, he⟩ := List.getElem_of_mem hp
  rw [List.length_set] at hj
  rw [List.getElem_set] at he
  split at he
  · exact .inl he.symm
  · rename_i hne
    exact .inr ⟨j, fun h => hne h.symm, by rw [List.getElem?_eq_getElem hj, he]⟩
theorem at_ne {m : List (ByteArray × List Int)} (h : SW (m.map (·.1))) {i j : Nat} {s : ByteArray} {d : List Int} {p : ByteArray × List Int} (hi : m[i]? = some (s, d)) (hj : m[j]? = some p) (hne : j ≠ i) : p.1 ≠ s := by
  intro he
  have hw : ∀ (k : Nat) (q : ByteArray × List Int), m[k]? = some q → (m.map (·.1))[k]? = some q.1 := fun k q hq => by rw [List.getElem?_map, hq]; rfl
  rcases Nat.lt_or_gt_of_ne hne with hlt | hgt
  · have := pw_at h hlt (hw _ _ hj) (hw _ _ hi)
    have : wl p.1 s = true := this
    rw [he, wl_irrefl] at this
    cases this
  · have := pw_at h hgt (hw _ _ hi) (hw _ _ hj)
    have : wl s p.1 = true := this
    rw [he, wl_irrefl] at this
    cases this
theorem Inv.set_ (h : Inv m R) {i : Nat} {d d' : List Int} {R' : ByteArray → Int → Prop} (hi : m[i]? = some (s, d)) (h1 : SI d') (h2 : d' ≠ []) (h3 : ∀ y, y ∈ d' ↔ R' s y) (h4 : ∀ w y, w ≠ s → (R' w y ↔ R w y)) : Inv (m.set i (s, d')) R' := by
  have hil := (List.getElem?_eq_some_iff.1 hi).1
  refine ⟨by rw [map_set_fst hi]; exact h.sw, fun p hp => ?_, fun w y hy => ?_⟩
  · rcases mem_set_at (a := p) hp with rfl | ⟨j, hj, hp⟩
    · exact ⟨h1, h2, h3⟩
    · obtain ⟨k1, k2, k3⟩ := h.si p (List.mem_of_getElem? hp)
      exact ⟨k1, k2, fun y => (k3 y).trans (h4 _ _ (at_ne h.sw hi hp hj)).symm⟩
  · by_cases hw : w = s
    · exact ⟨(s, d'), List.mem_set hil _, hw.symm⟩
    · obtain ⟨p, hp, he⟩ := h.all w y ((h4 w y hw).1 hy)
      obtain ⟨j, hj, hq⟩ := List.getElem_of_mem hp
      have hji : i ≠ j := by
        rintro rfl
        rw [List.getElem?_eq_getElem hj] at hi
        injection hi with hi
        rw [hq] at hi
        exact hw (by rw [← he, hi])
      exact ⟨p, List.mem_of_getElem? (by rw [List.getElem?_set_ne hji, List.getElem?_eq_getElem hj, hq] : (m.set i (s, d'))[j]? = some p), he⟩
theorem Inv.plus_put (h : Inv m R) {i : Nat} {d : List Int} (hi : m[i]? = some (s, d)) (hx : x ∉ d) : Inv (m.set i (s, ins d (lbI d x) x)) (plus R s x) := by
  obtain ⟨k1, k2, k3⟩ := h.si _ (List.mem_of_getElem? hi)
  refine h.set_ hi (SI_ins k1 x hx) ?_ (fun y => ?_) (fun w y hw => ⟨fun hy => hy.elim id (fun he => absurd he.1 hw), fun hy => .inl hy⟩)
  · intro he
    have : x ∈ ins d (lbI d x) x := mem_ins.2 (.inl rfl)
    rw [he] at this
    cases this
  · rw [mem_ins, k3 y]
    exact ⟨fun hy => hy.elim (fun he => .inr ⟨rfl, he⟩) (fun he => .inl he), fun hy => hy.elim (fun he => .inr he) (fun he => .inl he.2)⟩
theorem Inv.minus_left (h : Inv m R) {i j : Nat} {d : List Int} (hi : m[i]? = some (s, d)) (hj : d[j]? = some x) (hne : d.take j ++ d.drop (j + 1) ≠ []) : Inv (m.set i (s, d.take j ++ d.drop (j + 1))) (minus R s x) := by
  obtain ⟨k1, k2, k3⟩ := h.si _ (List.mem_of_getElem? hi)
  refine h.set_ hi (SI_cut k1 j) hne (fun y => ?_) (fun w y hw => ⟨fun hy => hy.1, fun hy => ⟨hy, fun he => hw he.1⟩⟩)
  rw [SI_mem_cut k1 j x hj y, k3 y]
  exact ⟨fun hy => ⟨hy.1, fun he => hy.2 he.2⟩, fun hy => ⟨hy.1, fun he => hy.2 ⟨rfl, he⟩⟩⟩
theorem Inv.minus_out (h : Inv m R) {i j : Nat} {d : List Int} (hi : m[i]? = some (s, d)) (hj : d[j]? = some x) (hne : d.take j ++ d.drop (j + 1) = []) : Inv (m.eraseIdx i) (minus R s x) := by
  obtain ⟨k1, k2, k3⟩ := h.si _ (List.mem_of_getElem? hi)
  have hd : ∀ y, R s y → y = x := by
    intro y hy
    have := (SI_mem_cut k1 j x hj y)
    rw [hne] at this
    by_cases he : y = x
    · exact he
    · exact absurd (this.2 ⟨(k3 y).2 hy, he⟩) (by simp)
  have hpw : m.Pairwise (fun a b => wl a.1 b.1 = true) := List.pairwise_map.1 h.sw
  have hmem := fun p => mem_erase_pw (r := fun a b : ByteArray × List Int => wl a.1 b.1 = true) (fun a => by rw [wl_irrefl]; simp) hpw hi p
  refine ⟨?_, fun p hp => ?_, fun w y hy => ?_⟩
  · show SW _
    rw [SW, List.pairwise_map]
    exact hpw.sublist (List.eraseIdx_sublist _ _)
  · obtain ⟨hp1, hp2⟩ := (hmem p).1 hp
    obtain ⟨q1, q2, q3⟩ := h.si p hp1
    refine ⟨q1, q2, fun y => (q3 y).trans ⟨fun hy => ⟨hy, fun he => hp2 (SW_unique h.sw hi hp1 he.1)⟩, fun hy => hy.1⟩⟩
  · obtain ⟨p, hp, he⟩ := h.all w y hy.1
    refine ⟨p, (hmem p).2 ⟨hp, ?_⟩, he⟩
    rintro rfl
    have : w = s := he.symm
    subst this
    exact hy.2 ⟨rfl, hd y hy.1⟩
end
end Go.Proofs.Ytpfmebpalejadaa.Plain
end
section
namespace Go.Proofs.Ytpfmebpalejadaa.Hand
open Go.Proofs.YtpfmebpalejadaaW Go.RowKit Go.Proofs.YtpfmebpalejadaaW.PrintWords Go.Proofs.YtpfmebpalejadaaW.PrintLast Go.Proofs.YtpfmebpalejadaaW.PrintMore Go.Proofs.YtpfmebpalejadaaW.SepW Go.Proofs.Ytpfmebpalejadaa.PALL Go.Proofs.Ytpfmebpalejadaa.Plain
set_option linter.unusedVariables false
set_option linter.unusedSimpArgs false
/-- An index: its fields, and what they lead to. -/
abbrev IxL (base g : Nat) (wv dv bv : Value) (dvs : List Value) (m : List (ByteArray × List Int)) (L : List (Thing base)) : List (Thing base) :=
  Box base g 56 #[wv, dv, bv] :: Fz base wv (pw_strs (m.map (·.1))) :: Hd base 43 dv dvs :: FzN base dvs ((m.map (·.2)).map (nums .i64)) :: L
theorem nodup_le {α : Type} : ∀ (l u : List α), l.Nodup → (∀ x ∈ l, x ∈ u) → l.length ≤ u.length
  | [], _, _, _ => Nat.zero_le _
  | a :: t, u, hn, hs => by
    obtain ⟨p, q, rfl⟩ := List.append_of_mem (hs a List.mem_cons_self)
    have hn' := List.nodup_cons.1 hn
    have := nodup_le t (p ++ q) hn'.2 (fun x hx => by
      have h := hs x (List.mem_cons_of_mem _ hx)
      rw [List.mem_append, List.mem_cons] at h
      rw [List.mem_append]
      rcases h with h | rfl | h
      · exact .inl h
      · exact absurd hx hn'.1
      · exact .inr h)
    simp only [List.length_append, List.length_cons] at this ⊢
    omega
theorem Inv_small {m : List (ByteArray × List Int)} {R : ByteArray → Int → Prop} (h : Inv m R) (U : List ByteArray) (B : Nat) (hR : ∀ w x, R w x → w ∈ U ∧ 0 ≤ x ∧ x < B) : m.length ≤ U.length ∧ ∀ p ∈ m, p.2.length ≤ B := by
  constructor
  · have hn : (m.map (·.1)).Nodup := h.sw.imp (fun {a b} hab => by
      rintro rfl
      rw [wl_irrefl] at hab
      cases hab)
    have := nodup_le _ U hn (fun x hx => by
      obtain ⟨p, hp, rfl⟩ := List.mem_map.1 hx
      obtain ⟨_, h2, h3⟩ := h.si p hp
      obtain ⟨y, hy⟩ := List.exists_mem_of_ne_nil _ h2
      exact (hR _ _ ((h3 y).1 hy)).1)
    rwa [List.length_map] at this
  · intro p hp
    obtain ⟨h1, _, h3⟩ := h.si p hp
    have hn : p.2.Nodup := h1.imp (fun {a b} hab => by omega)
    have := nodup_le _ ((List.range B).map (fun n : Nat => (n : Int))) hn (fun x hx => by
      have := hR _ _ ((h3 x).1 hx)
      exact List.mem_map.2 ⟨x.toNat, List.mem_range.2 (by omega), by omega⟩)
    simpa using this
theorem found_at {m : List (ByteArray × List Int)} {s : ByteArray} {i : Nat} (h : (m.map (·.1))[i]? = some s) : ∃ d, m[i]? = some (s, d) := by
  rw [List.getElem?_map, Option.map_eq_some_iff] at h
  obtain ⟨⟨a, d⟩, h1, h2⟩ := h
  exact ⟨d, by rw [h1, ← h2]⟩
theorem snd_at {m : List (ByteArray × List Int)} {s : ByteArray} {d : List Int} {i : Nat} (h : m[i]? = some (s, d)) : (m.map (·.2))[i]? = some d := by rw [List.getElem?_map, h]; rfl
section
variable {w0 w : World} {L : List (Thing w0.heap.size)} {g : Nat} {wv dv bv : Value} {dvs : List Value} {m : List (ByteArray × List Int)} {R : ByteArray → Int → Prop}
theorem drop_m (S : Sep w0 w (IxL _ g wv dv bv dvs m L)) (hI : Inv m R) (hm : m.length ≤ 1000000) (hd : ∀ p ∈ m, p.2.length ≤ 1000000) (s : ByteArray) (doc : Int) :
    Calls Try.prog 28 #[.pointer (some ⟨g, 0, none⟩), .string s, .int .i64 doc] w fun e w' => e = .returned (.tuple #[]) ∧ ∃ wv' dv' dvs' m', Inv m' (minus R s doc) ∧ Sep w0 w' (IxL _ g wv' dv' bv dvs' m' L) := by
  have hl : (m.map (·.1)).length ≤ 1000000 := by rw [List.length_map]; exact hm
  obtain ⟨k, hk⟩ := bs_s (m.map (·.1)) s hI.sw hl
  by_cases hf : (m.map (·.1))[lbW (m.map (·.1)) s]? = some s
  · rw [decide_eq_true hf] at hk
    obtain ⟨d, hmd⟩ := found_at hf
    have hp := List.mem_of_getElem? hmd
    obtain ⟨h1, h2, h3⟩ := hI.si _ hp
    have hdl := hd _ hp
    obtain ⟨k2, hk2⟩ := bs_i d doc h1 hdl
    have hlen : (m.map (·.2)).length = (m.map (·.1)).length := by simp
    by_cases hx : d[lbI d doc]? = some doc
    · rw [decide_eq_true hx] at hk2
      have hj := (List.getElem?_eq_some_iff.1 hx).1
      by_cases hne : d.take (lbI d doc) ++ d.drop (lbI d doc + 1) = []
      · refine (drop_out S hl hlen s doc k _ hk d (snd_at hmd) hdl k2 _ hk2 hj hne).mono ?_
        rintro e w' ⟨rfl, wv2, dv2, dvs2, S2⟩
        refine ⟨rfl, wv2, dv2, dvs2, _, hI.minus_out hmd hx hne, ?_⟩
        have e1 : (m.eraseIdx (lbW (m.map (·.1)) s)).map (·.1) = (m.map (·.1)).eraseIdx (lbW (m.map (·.1)) s) := by simp only [List.eraseIdx_eq_take_drop_succ, List.map_append, List.map_take, List.map_drop]
        have e2 : (m.eraseIdx (lbW (m.map (·.1)) s)).map (·.2) = (m.map (·.2)).eraseIdx (lbW (m.map (·.1)) s) := by simp only [List.eraseIdx_eq_take_drop_succ, List.map_append, List.map_take, List.map_drop]
        show Sep w0 w' (Box _ g 56 #[wv2, dv2, bv] :: Fz _ wv2 (pw_strs ((m.eraseIdx (lbW (m.map (·.1)) s)).map (·.1))) :: Hd _ 43 dv2 dvs2 :: FzN _ dvs2 (((m.eraseIdx (lbW (m.map (·.1)) s)).map (·.2)).map (nums .i64)) :: L)
        rw [e1, e2]
        exact S2
      · refine (drop_left S hl hlen s doc k _ hk d (snd_at hmd) hdl k2 _ hk2 hj hne).mono ?_
        rintro e w' ⟨rfl, v1, S2⟩
        refine ⟨rfl, wv, dv, dvs.set (lbW (m.map (·.1)) s) v1, _, hI.minus_left hmd hx hne, ?_⟩
        have e2 : (m.set (lbW (m.map (·.1)) s) (s, d.take (lbI d doc) ++ d.drop (lbI d doc + 1))).map (·.2) = (m.map (·.2)).set (lbW (m.map (·.1)) s) (d.take (lbI d doc) ++ d.drop (lbI d doc + 1)) := by rw [List.map_set]
        show Sep w0 w' (Box _ g 56 #[wv, dv, bv] :: Fz _ wv (pw_strs ((m.set (lbW (m.map (·.1)) s) (s, d.take (lbI d doc) ++ d.drop (lbI d doc + 1))).map (·.1))) :: Hd _ 43 dv (dvs.set (lbW (m.map (·.1)) s) v1) :: FzN _ (dvs.set (lbW (m.map (·.1)) s) v1) (((m.set (lbW (m.map (·.1)) s) (s, d.take (lbI d doc) ++ d.drop (lbI d doc + 1))).map (·.2)).map (nums .i64)) :: L)
        rw [map_set_fst hmd, e2]
        exact S2
    · rw [decide_eq_false hx] at hk2
      refine (drop_keep S hl hlen s doc k _ hk d (snd_at hmd) hdl k2 _ hk2 h2).mono ?_
      rintro e w' ⟨rfl, n, rfl⟩
      exact ⟨rfl, wv, dv, dvs, m, hI.minus_none (fun hr => hx ((SI_found h1 doc).2 ((h3 doc).2 hr))), S.drewN n⟩
  · rw [decide_eq_false hf] at hk
    refine (drop_absent S hl s doc k _ hk).mono ?_
    rintro e w' ⟨rfl, n, rfl⟩
    exact ⟨rfl, wv, dv, dvs, m, hI.minus_none (hI.absent (fun h => hf ((SW_found hI.sw s).2 h)) doc), S.drewN n⟩
theorem add_m (S : Sep w0 w (IxL _ g wv dv bv dvs m L)) (hI : Inv m R) (hm : m.length ≤ 1000000) (hd : ∀ p ∈ m, p.2.length ≤ 1000000) (s : ByteArray) (doc : Int) :
    Calls Try.prog 30 #[.pointer (some ⟨g, 0, none⟩), .string s, .int .i64 doc] w fun e w' => e = .returned (.tuple #[]) ∧ ∃ wv' dv' dvs' m', Inv m' (plus R s doc) ∧ Sep w0 w' (IxL _ g wv' dv' bv dvs' m' L) := by
  have hl : (m.map (·.1)).length ≤ 1000000 := by rw [List.length_map]; exact hm
  have hlen : (m.map (·.2)).length = (m.map (·.1)).length := by simp
  obtain ⟨k, hk⟩ := bs_s (m.map (·.1)) s hI.sw hl
  by_cases hf : (m.map (·.1))[lbW (m.map (·.1)) s]? = some s
  · rw [decide_eq_true hf] at hk
    obtain ⟨d, hmd⟩ := found_at hf
    have hp := List.mem_of_getElem? hmd
    obtain ⟨h1, h2, h3⟩ := hI.si _ hp
    have hdl := hd _ hp
    obtain ⟨k2, hk2⟩ := bs_i d doc h1 hdl
    by_cases hx : d[lbI d doc]? = some doc
    · rw [decide_eq_true hx] at hk2
      refine (add_has S hl hlen s doc k _ hk d (snd_at hmd) hdl k2 _ hk2).mono ?_
      rintro e w' ⟨rfl, n, rfl⟩
      exact ⟨rfl, wv, dv, dvs, m, hI.plus_has ((h3 doc).1 ((SI_found h1 doc).1 hx)), S.drewN n⟩
    · rw [decide_eq_false hx] at hk2
      refine (add_put S hl hlen s doc k _ hk d (snd_at hmd) hdl k2 _ hk2 (lb_le _ _)).mono ?_
      rintro e w' ⟨rfl, v1, S2⟩
      refine ⟨rfl, wv, dv, dvs.set (lbW (m.map (·.1)) s) v1, _, hI.plus_put hmd (fun h => hx ((SI_found h1 doc).2 h)), ?_⟩
      have e2 : (m.set (lbW (m.map (·.1)) s) (s, ins d (lbI d doc) doc)).map (·.2) = (m.map (·.2)).set (lbW (m.map (·.1)) s) (ins d (lbI d doc) doc) := by rw [List.map_set]
      show Sep w0 w' (Box _ g 56 #[wv, dv, bv] :: Fz _ wv (pw_strs ((m.set (lbW (m.map (·.1)) s) (s, ins d (lbI d doc) doc)).map (·.1))) :: Hd _ 43 dv (dvs.set (lbW (m.map (·.1)) s) v1) :: FzN _ (dvs.set (lbW (m.map (·.1)) s) v1) (((m.set (lbW (m.map (·.1)) s) (s, ins d (lbI d doc) doc)).map (·.2)).map (nums .i64)) :: L)
      rw [map_set_fst hmd, e2]
      exact S2
  · rw [decide_eq_false hf] at hk
    refine (add_new S hl hlen s doc k _ hk (lb_le _ _)).mono ?_
    rintro e w' ⟨rfl, wv2, dv2, dvs2, S2⟩
    refine ⟨rfl, wv2, dv2, dvs2, _, hI.plus_new (fun h => hf ((SW_found hI.sw s).2 h)), ?_⟩
    show Sep w0 w' (Box _ g 56 #[wv2, dv2, bv] :: Fz _ wv2 (pw_strs ((ins m (lbW (m.map (·.1)) s) (s, [doc])).map (·.1))) :: Hd _ 43 dv2 dvs2 :: FzN _ dvs2 (((ins m (lbW (m.map (·.1)) s) (s, [doc])).map (·.2)).map (nums .i64)) :: L)
    rw [← ins_map (fun p : ByteArray × List Int => p.1), ← ins_map (fun p : ByteArray × List Int => p.2)]
    exact S2
end
end Go.Proofs.Ytpfmebpalejadaa.Hand
end
section
namespace Go.Proofs.Ytpfmebpalejadaa.Hand
open Go.Proofs.YtpfmebpalejadaaW Go.RowKit Go.Proofs.YtpfmebpalejadaaW.PrintWords Go.Proofs.YtpfmebpalejadaaW.PrintLast Go.Proofs.YtpfmebpalejadaaW.PrintMore Go.Proofs.YtpfmebpalejadaaW.SepW Go.Proofs.Ytpfmebpalejadaa.PALL Go.Proofs.Ytpfmebpalejadaa.Plain
set_option linter.unusedVariables false
set_option linter.unusedSimpArgs false
theorem own_empty (W : World) (base : Nat) (e : TypeId) (hb : base ≤ W.heap.size) : (W.alloc (.cells #[] e (0, 0))).ownsRow base e 1 (.slice (some ⟨W.heap.size, 0, none⟩) 0 0) 0 [] :=
  ⟨rfl, .inr ⟨W.heap.size, 0, #[], rfl, hb, blk_new W _, Nat.le_refl _, by decide, rfl, rfl⟩⟩
/-- A row of scalars, by its cells. -/
theorem own_of_R {α : Type} {f : α → Value} {h1 : ∀ x, (f x).oneCell' = true} {e base : Nat} {w : World} {ok : Nat → Prop} {v : Value} {l : List α} (h : (Kd.scalar f h1).R e w base ok v l) : w.ownsRow base e 1 v l.length (l.map f) := by
  obtain ⟨_, inner, ho, hr⟩ := h
  have hl : inner.length = l.length := by have := hr.1; simpa [Kd.scalar] using this
  have hi : inner = l.map f := by
    apply List.ext_getElem?
    intro j
    rw [List.getElem?_map]
    by_cases hj : j < l.length
    · have h2 := hr.2 j l[j] (List.getElem?_eq_getElem hj)
      have h3 : (inner.drop (j * 1)).take 1 = [f l[j]] := h2
      rw [Nat.mul_one, List.drop_eq_getElem_cons (by omega)] at h3
      simp only [List.take_succ_cons, List.take_zero, List.cons.injEq, and_true] at h3
      rw [List.getElem?_eq_getElem (by omega), h3, List.getElem?_eq_getElem hj]
      rfl
    · rw [List.getElem?_eq_none (by omega), List.getElem?_eq_none (by omega)]
      rfl
  rw [← hi]
  exact ho
theorem C_none {α : Type} {d : Kd α} {w : World} {l : List α} (h : d.C w none l.length l) : l = [] := by
  rcases l with _ | ⟨a, t⟩
  · rfl
  · obtain ⟨ad, he, _⟩ := h.2.2 (by simp)
    cases he
set_option maxHeartbeats 4000000 in
set_option maxRecDepth 100000 in
theorem clone_str_nil (c : Nat) (w : World) : Calls Try.prog 29 #[.slice none 0 c] w fun e w' => e = .returned (.slice none 0 0) ∧ w' = w := by
  have he := fun W => Go.Lib.run_eql_slice_nil (P := Try.prog) W 33 9 none 0 c 0 0 Try.underlying33
  go_enter Try.func29, Try.ntmps29
  go_wp2
  go_ret
  exact ⟨rfl, rfl⟩
set_option maxHeartbeats 4000000 in
set_option maxRecDepth 100000 in
theorem clone_str_some (ad : Addr) (c : Nat) (l : List ByteArray) (w : World) (hC : Kd.string.C w (some ad) l.length l) (hc : l.length ≤ c) (hl : l.length ≤ 1000000) : Calls Try.prog 29 #[.slice (some ad) l.length c] w fun e w' => ∃ v, e = .returned v ∧ Kd.string.R 9 w' w.heap.size (fun _ => True) v l ∧ Below w.heap.size w w' := by
  have he := fun W => Go.Lib.run_eql_slice_nil (P := Try.prog) W 33 9 (some ad) l.length c 0 0 Try.underlying33
  have hu := Try.underlying33
  have HC := Aside0.mk hC
  have HL := Aside0.mk hl
  clear hC hl
  go_enter Try.func29, Try.ntmps29
  have S := Aside0.mk ((Sep.start w).own (d := Kd.string) (e := 9) (xs := []) (v := .slice (some ⟨w.heap.size, 0, none⟩) 0 0) ⟨fun _ _ => trivial, [], own_empty w _ 9 (Nat.le_refl _), Reps.none _ _⟩ (below_alloc (Below.refl _ _) (.cells #[] 9 (0, 0))))
  go_wp2_with (first | ((with_reducible refine gate_builtin (b := .append) (xs := #[.tmp 5, .tmp 6]) rfl ?_); at_builtin; obtain ⟨ok, hR, hnew, hup⟩ := S.out.append 0 rfl; refine Kd.R_append_rows Kd.string (w0 := w) w.heap.size rfl (.tmp 5) (.tmp 6) 33 9 (.string ByteArray.empty) 16 rfl Try.underlying33 info9 rfl (by decide) (by omega) (.slice (some ⟨w.heap.size, 0, none⟩) 0 0) [] l _ _ _ ok (fun _ => False) rfl rfl hR ?aR (fun _ _ h => h) (fun _ h => h.elim) hnew S.out.below S.out.size ?aL ?_; (case aR => exact Kd.C_below HC.out (below_alloc (Below.refl _ _) _)); (case aL => (have := HL.out; simp only [List.length_nil]; omega)); intro v7 w7 ho hb hg hat; replace S := Aside0.mk (hup _ w7 _ ho hb hg); clear hup hR hnew ho hb hg hat))
  go_ret
  exact ⟨_, rfl, S.out.at_own 0 rfl, S.out.below⟩
set_option maxHeartbeats 4000000 in
set_option maxRecDepth 100000 in
theorem clone_int_nil (c : Nat) (w : World) : Calls Try.prog 36 #[.slice none 0 c] w fun e w' => e = .returned (.slice none 0 0) ∧ w' = w := by
  have he := fun W => Go.Lib.run_eql_slice_nil (P := Try.prog) W 43 3 none 0 c 0 0 Try.underlying43
  go_enter Try.func36, Try.ntmps36
  go_wp2
  go_ret
  exact ⟨rfl, rfl⟩
set_option maxHeartbeats 4000000 in
set_option maxRecDepth 100000 in
theorem clone_int_some (ad : Addr) (c : Nat) (l : List Int) (w : World) (hC : (Kd.int .i64).C w (some ad) l.length l) (hc : l.length ≤ c) (hl : l.length ≤ 1000000) : Calls Try.prog 36 #[.slice (some ad) l.length c] w fun e w' => ∃ v, e = .returned v ∧ (Kd.int .i64).R 3 w' w.heap.size (fun _ => True) v l ∧ Below w.heap.size w w' := by
  have he := fun W => Go.Lib.run_eql_slice_nil (P := Try.prog) W 43 3 (some ad) l.length c 0 0 Try.underlying43
  have hu := Try.underlying43
  have HC := Aside0.mk hC
  have HL := Aside0.mk hl
  clear hC hl
  go_enter Try.func36, Try.ntmps36
  have S := Aside0.mk ((Sep.start w).own (d := (Kd.int .i64)) (e := 3) (xs := []) (v := .slice (some ⟨w.heap.size, 0, none⟩) 0 0) ⟨fun _ _ => trivial, [], own_empty w _ 3 (Nat.le_refl _), Reps.none _ _⟩ (below_alloc (Below.refl _ _) (.cells #[] 3 (0, 0))))
  go_wp2_with (first | ((with_reducible refine gate_builtin (b := .append) (xs := #[.tmp 5, .tmp 6]) rfl ?_); at_builtin; obtain ⟨ok, hR, hnew, hup⟩ := S.out.append 0 rfl; refine Kd.R_append_rows (Kd.int .i64) (w0 := w) w.heap.size rfl (.tmp 5) (.tmp 6) 43 3 (.int .i64 0) 8 rfl Try.underlying43 info3 rfl (by decide) (by omega) (.slice (some ⟨w.heap.size, 0, none⟩) 0 0) [] l _ _ _ ok (fun _ => False) rfl rfl hR ?aR (fun _ _ h => h) (fun _ h => h.elim) hnew S.out.below S.out.size ?aL ?_; (case aR => exact Kd.C_below HC.out (below_alloc (Below.refl _ _) _)); (case aL => (have := HL.out; simp only [List.length_nil]; omega)); intro v7 w7 ho hb hg hat; replace S := Aside0.mk (hup _ w7 _ ho hb hg); clear hup hR hnew ho hb hg hat))
  go_ret
  exact ⟨_, rfl, S.out.at_own 0 rfl, S.out.below⟩
theorem clone_str (A : Option Addr) (c : Nat) (l : List ByteArray) (w : World) (hC : Kd.string.C w A l.length l) (hc : l.length ≤ c) (hl : l.length ≤ 1000000) : Calls Try.prog 29 #[.slice A l.length c] w fun e w' => ∃ v, e = .returned v ∧ w'.ownsRow w.heap.size 9 1 v l.length (pw_strs l) ∧ Below w.heap.size w w' := by
  cases A with
  | none =>
    obtain rfl := C_none hC
    refine (clone_str_nil c w).mono ?_
    rintro e w' ⟨rfl, rfl⟩
    exact ⟨_, rfl, World.ownsRow_nil _ _ _ 1, Below.refl _ _⟩
  | some ad =>
    refine (clone_str_some ad c l w hC hc hl).mono ?_
    rintro e w' ⟨v, rfl, hR, hb⟩
    exact ⟨v, rfl, own_of_R hR, hb⟩
theorem clone_int (A : Option Addr) (c : Nat) (l : List Int) (w : World) (hC : (Kd.int .i64).C w A l.length l) (hc : l.length ≤ c) (hl : l.length ≤ 1000000) : Calls Try.prog 36 #[.slice A l.length c] w fun e w' => ∃ v, e = .returned v ∧ w'.ownsRow w.heap.size 3 1 v l.length (nums .i64 l) ∧ Below w.heap.size w w' := by
  cases A with
  | none =>
    obtain rfl := C_none hC
    refine (clone_int_nil c w).mono ?_
    rintro e w' ⟨rfl, rfl⟩
    exact ⟨_, rfl, World.ownsRow_nil _ _ _ 1, Below.refl _ _⟩
  | some ad =>
    refine (clone_int_some ad c l w hC hc hl).mono ?_
    rintro e w' ⟨v, rfl, hR, hb⟩
    exact ⟨v, rfl, own_of_R hR, hb⟩
end Go.Proofs.Ytpfmebpalejadaa.Hand
end
section
namespace Go.Proofs.Ytpfmebpalejadaa.Plain
set_option linter.unusedVariables false
set_option linter.unusedSimpArgs false
/-- Word w stands in document x. -/
def RB (bs : List (List ByteArray)) (w : ByteArray) (x : Int) : Prop := ∃ (i : Nat) (l : List ByteArray), x = (i : Int) ∧ bs[i]? = some l ∧ w ∈ l
theorem RB_nil (w : ByteArray) (x : Int) : ¬ RB [] w x := by
  rintro ⟨i, l, _, h, _⟩
  simp at h
theorem RB_snoc (bs : List (List ByteArray)) (w : ByteArray) (x : Int) : RB (bs ++ [[]]) w x ↔ RB bs w x := by
  constructor
  · rintro ⟨i, l, h1, h2, h3⟩
    rcases Nat.lt_trichotomy i bs.length with h | h | h
    · exact ⟨i, l, h1, by rwa [List.getElem?_append_left h] at h2, h3⟩
    · subst h
      rw [List.getElem?_append_right (Nat.le_refl _), Nat.sub_self] at h2
      injection h2 with h2
      subst h2
      cases h3
    · rw [List.getElem?_eq_none (by rw [List.length_append]; simp; omega)] at h2
      cases h2
  · rintro ⟨i, l, h1, h2, h3⟩
    exact ⟨i, l, h1, by rw [List.getElem?_append_left (List.getElem?_eq_some_iff.1 h2).1]; exact h2, h3⟩
theorem RB_at {bs : List (List ByteArray)} {d : Nat} {l : List ByteArray} (h : bs[d]? = some l) (w : ByteArray) : RB bs w (d : Int) ↔ w ∈ l := by
  constructor
  · rintro ⟨i, l', h1, h2, h3⟩
    obtain rfl : d = i := by omega
    rw [h] at h2
    injection h2 with h2
    exact h2 ▸ h3
  · exact fun hw => ⟨d, l, rfl, h, hw⟩
/-- Behind i words dropped. -/
def RD (bs : List (List ByteArray)) (d : Nat) (l : List ByteArray) (i : Nat) (w : ByteArray) (x : Int) : Prop := RB bs w x ∧ ¬ (x = (d : Int) ∧ w ∈ l.take i)
/-- Behind i words added. -/
def RA (bs : List (List ByteArray)) (d : Nat) (l : List ByteArray) (i : Nat) (w : ByteArray) (x : Int) : Prop := (RB bs w x ∧ x ≠ (d : Int)) ∨ (x = (d : Int) ∧ w ∈ l.take i)
theorem mem_take_next {l : List ByteArray} {i : Nat} (h : i < l.length) (w : ByteArray) : w ∈ l.take (i + 1) ↔ w ∈ l.take i ∨ w = l[i] := by
  rw [List.take_add_one, List.mem_append, List.getElem?_eq_getElem h]
  simp
theorem RD_zero (bs : List (List ByteArray)) (d : Nat) (l : List ByteArray) (w : ByteArray) (x : Int) : RB bs w x ↔ RD bs d l 0 w x := by simp [RD]
theorem RD_next (bs : List (List ByteArray)) (d : Nat) (l : List ByteArray) (i : Nat) (h : i < l.length) (w : ByteArray) (x : Int) : minus (RD bs d l i) l[i] d w x ↔ RD bs d l (i + 1) w x := by
  simp only [minus, RD, mem_take_next h]
  constructor
  · rintro ⟨⟨h1, h2⟩, h3⟩
    exact ⟨h1, fun hx => hx.2.elim (fun hw => h2 ⟨hx.1, hw⟩) (fun hw => h3 ⟨hw, hx.1⟩)⟩
  · rintro ⟨h1, h2⟩
    exact ⟨⟨h1, fun hx => h2 ⟨hx.1, .inl hx.2⟩⟩, fun hx => h2 ⟨hx.2, .inr hx.1⟩⟩
theorem RD_end {bs : List (List ByteArray)} {d : Nat} {l0 : List ByteArray} (hd : bs[d]? = some l0) (l : List ByteArray) (w : ByteArray) (x : Int) : RD bs d l0 l0.length w x ↔ RA bs d l 0 w x := by
  simp only [RD, RA, List.take_length, List.take_zero, List.not_mem_nil, and_false, or_false]
  constructor
  · rintro ⟨h1, h2⟩
    refine ⟨h1, fun hx => h2 ⟨hx, ?_⟩⟩
    subst hx
    exact (RB_at hd w).1 h1
  · rintro ⟨h1, h2⟩
    exact ⟨h1, fun hx => h2 hx.1⟩
theorem RA_next (bs : List (List ByteArray)) (d : Nat) (l : List ByteArray) (i : Nat) (h : i < l.length) (w : ByteArray) (x : Int) : plus (RA bs d l i) l[i] d w x ↔ RA bs d l (i + 1) w x := by
  simp only [plus, RA, mem_take_next h]
  constructor
  · rintro ((h1 | h1) | h1)
    · exact .inl h1
    · exact .inr ⟨h1.1, .inl h1.2⟩
    · exact .inr ⟨h1.2, .inr h1.1⟩
  · rintro (h1 | ⟨h1, h2 | h2⟩)
    · exact .inl (.inl h1)
    · exact .inl (.inr ⟨h1, h2⟩)
    · exact .inr ⟨h2, h1⟩
theorem RA_end {bs : List (List ByteArray)} {d : Nat} (hd : d < bs.length) (l : List ByteArray) (w : ByteArray) (x : Int) : RA bs d l l.length w x ↔ RB (bs.set d l) w x := by
  simp only [RA, List.take_length]
  constructor
  · rintro (⟨⟨i, l', h1, h2, h3⟩, h4⟩ | ⟨h1, h2⟩)
    · have hne : d ≠ i := by
        rintro rfl
        exact h4 h1
      exact ⟨i, l', h1, by rw [List.getElem?_set_ne hne]; exact h2, h3⟩
    · exact ⟨d, l, h1, by rw [List.getElem?_set]; simp [hd], h2⟩
  · rintro ⟨i, l', h1, h2, h3⟩
    by_cases hne : d = i
    · subst hne
      rw [List.getElem?_set] at h2
      simp only [if_true, hd] at h2
      injection h2 with h2
      subst h2
      exact .inr ⟨h1, h3⟩
    · rw [List.getElem?_set_ne hne] at h2
      exact .inl ⟨⟨i, l', h1, h2, h3⟩, by omega⟩
end Go.Proofs.Ytpfmebpalejadaa.Plain
end
