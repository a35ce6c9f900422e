-- Laid by a program of this work (wip/gen): out of the translation, with texts of our own.
import Derived.Test.YtaiphfmfpedaaaaPALLx0
import Derived.Test.YtaiphfmfpedaaaaPALLx1
import Derived.Test.YtaiphfmfpedaaaaPALLx2
namespace Go.Proofs.Ytaiphfmfpedaaaa.PALL
open Go.RowKit Go.Proofs.YtaiphfmfpedaaaaW.PrintWords Go.Proofs.YtaiphfmfpedaaaaW.PrintLast Go.Proofs.YtaiphfmfpedaaaaW.PrintMore Go.Proofs.YtaiphfmfpedaaaaW.SepW
attribute [local go_sem] max2_int min2_int max_two min_two max_three min_three max_four min_four   -- for this text's walks alone
set_option linter.unusedVariables false
set_option linter.unusedSimpArgs false

/-! by hand -/
/-! ### sets_Inter: function 22 -/

theorem in_calls (A : Option Addr) (c : Nat) (l : List Int) (w : World) (hr : Kd.C (Kd.int .i64) w A l.length l) (hl : l.length ≤ 4398046511104) :
    Calls Try.prog 31 #[.slice A l.length c] w fun e w' => ∃ g v, e = .returned (.func (.func 38) #[] #[.pointer (some ⟨g, 0, none⟩)]) ∧ w'.heap[g]? = some (.cells #[v] 22 (0, 0)) ∧ OwnI w' w.heap.size v (ofL l) ∧ Below w.heap.size w w' := by
  have hmf : ∀ (fn : Fn) (first cap : Array Value) (w : World), (Instr.makeFunc fn first cap).run Try.prog w = .ok (.func fn first cap) w := fun _ _ _ _ => rfl
  have HR := Aside0.mk hr
  clear hr
  go_enter Try.func31, Try.ntmps31
  go_wp2_with (first | (go_at_call 11; (with_reducible refine (of_calls _ _ l _ HR.out hl).mono ?_); rintro e w1 ⟨v1, rfl, ho1, hb1⟩; obtain ⟨A1, c1, ev⟩ := own_form ho1; subst ev; have HO1 := Aside0.mk ho1; have HB1 := Aside0.mk hb1; clear ho1 hb1))
  go_ret
  exact ⟨w1.heap.size, _, rfl, blk_new w1 _, own_step HO1.out (below_alloc (Below.refl _ _) _), below_alloc HB1.out _⟩
theorem search_calls {base : Nat} {v : Value} {l : List Int} {w : World} (x : Int) (h : OwnI w base v l) (hl : l.length ≤ 4398046511104) (hs : l.Pairwise (· ≤ ·)) :
    Calls Try.prog 39 #[v, .int .i64 x] w fun e w' => ∃ n, e = .returned (.tuple #[.int .i64 n, .bool (l.contains x)]) ∧ ∃ q, w' = w.drewN q := by
  rcases own_shape h with ⟨rfl, h0⟩ | ⟨g, cap, rfl⟩
  · have hl0 : l = [] := List.length_eq_zero_iff.1 h0
    subst hl0
    exact (Try.slices_BinarySearch_int_empty none 0 x w).mono (by rintro e w' ⟨rfl, rfl⟩; exact ⟨_, rfl, 0, rfl⟩)
  · obtain ⟨hh, hg, hc, hm⟩ := own_holds h
    refine (Try.slices_BinarySearch_int g 0 l.length cap l x w (Nat.le_refl _) (by omega) (fun j hj => ?_) (by rw [List.take_of_length_le (Nat.le_refl _)]; exact hs)).mono ?_
    · rw [(hh j (by simpa using hj)).1]
      simp [getElem!_pos, hj]
    · rintro e w' ⟨rfl, q, rfl⟩
      rw [List.take_of_length_le (Nat.le_refl _)]
      exact ⟨_, rfl, q, rfl⟩
theorem in1_calls {base g : Nat} {v : Value} {bs : List Int} {w : World} (x : Int) (hg : w.heap[g]? = some (.cells #[v] 22 (0, 0))) (h : OwnI w base v bs) (hl : bs.length ≤ 4398046511104) (hs : bs.Pairwise (· ≤ ·)) :
    Calls Try.prog 38 #[.int .i64 x, .pointer (some ⟨g, 0, none⟩)] w fun e w' => e = .returned (.bool (bs.contains x)) ∧ Below w.heap.size w w' := by
  obtain ⟨A, c, rfl⟩ := own_form h
  have H := Aside0.mk h
  have c1 := blk_cell hg 0
  simp only [List.getElem?_toArray, List.getElem?_cons_zero, List.getElem?_cons_succ] at c1
  obtain ⟨bo, hbo⟩ : ∃ b, b = bs.contains x := ⟨_, rfl⟩
  rw [← hbo]
  have HBO := Aside0.mk hbo
  clear h hg hbo
  go_enter Try.func38, Try.ntmps38
  go_wp2_with (first | (go_at_call 39; (with_reducible refine (search_calls x H.out hl hs).mono ?_); rintro e w1 ⟨n1, rfl, q, rfl⟩; rw [← HBO.out]))
  go_ret
  exact ⟨rfl, pw_below_drewN (Below.refl _ _) q⟩
theorem pick_38 {base g : Nat} {v : Value} {bs : List Int} (A : Option Addr) (c : Nat) (l : List Int) (w : World) (hr : Kd.C (Kd.int .i64) w A l.length l) (hll : l.length ≤ 4398046511104) (hg : w.heap[g]? = some (.cells #[v] 22 (0, 0))) (ho : OwnI w base v bs) (hl : bs.length ≤ 4398046511104) (hs : bs.Pairwise (· ≤ ·)) :
    Calls Try.prog 32 #[.slice A l.length c, .func (.func 38) #[] #[.pointer (some ⟨g, 0, none⟩)]] w fun e w' => ∃ v', e = .returned v' ∧ OwnI w' w.heap.size v' (l.filter fun x => bs.contains x) ∧ Below w.heap.size w w' := by
  have HR := Aside0.mk hr
  have HG := Aside0.mk hg
  have HOW := Aside0.mk ho
  have hgl : g < w.heap.size := (Array.getElem?_eq_some_iff.1 hg).1
  clear hg ho
  obtain ⟨pf, hpf⟩ : ∃ p : Int → Bool, p = fun x => bs.contains x := ⟨_, rfl⟩
  rw [← hpf]
  have HPF := Aside0.mk hpf
  clear hr hpf
  go_enter Try.func32, Try.ntmps32
  go_wp2
  go_loopg [5, 10] l.length (fun kq v5 v10 w' => ∃ (i : Nat) (acc : List Int), v10 = .int .i64 (i : Int) ∧ Aside0 (i + kq = l.length) ∧ Aside0 (acc ++ (l.drop i).filter pf = l.filter pf) ∧ Aside0 (acc.length ≤ i) ∧ Aside0 (Kd.R (Kd.int .i64) 3 w' w.heap.size (fun _ => True) v5 acc) ∧ Aside0 (Below w.heap.size w w'))
  case atStart => exact ⟨0, [], rfl, ⟨by omega⟩, ⟨by simp⟩, ⟨by simp⟩, ⟨Kd.R_nil _ _ _ _ _⟩, ⟨Below.refl _ _⟩⟩
  case round =>
    obtain ⟨i, acc, rfl, HK, HACC, HLE, HO, HB⟩ := hrel
    cases gk with
    | zero =>
      have hi : ¬ ((i : Int) < (l.length : Int)) := by have := HK.out; omega
      have hd : acc = l.filter pf := by
        have h1 := HACC.out
        rw [List.drop_eq_nil_of_le (by have := HK.out; omega)] at h1
        simpa using h1
      obtain ⟨A5, c5, ev⟩ := Kd.R_slice HO.out
      subst ev
      go_wp2
      go_ret
      exact ⟨_, rfl, by rw [← hd]; exact own_of_R HO.out, HB.out⟩
    | succ n =>
      have hin : i < l.length := by have := HK.out; omega
      have hi : (i : Int) < (l.length : Int) := by omega
      have p0 : 0 ≤ (i : Int) := by omega
      have hx := HACC.out
      rw [List.drop_eq_getElem_cons hin] at hx
      have eg : rd l (i : Int) = l[i] := by simp [rd, hin]
      obtain ⟨ad, ea, hcell⟩ := Kd.at_int (Kd.C_below HR.out HB.out) (i : Int) p0 hi
      cases ea
      rw [eg, Int.toNat_natCast] at hcell
      obtain ⟨x, hxx⟩ : ∃ x, x = l[i] := ⟨_, rfl⟩
      rw [← hxx] at hx hcell
      clear hxx eg
      obtain ⟨A5, c5, ev⟩ := Kd.R_slice HO.out
      subst ev
      have hw1 : wrap64 ((i : Int) + 1) = ((i + 1 : Nat) : Int) := by unfold wrap64; omega
      by_cases hp : pf x = true
      · rw [List.filter_cons_of_pos hp] at hx
        have HX := Aside0.mk hx
        clear hx
        go_wp2_with (first | (go_at_call 38; (with_reducible refine (in1_calls x ((HB.out.block g hgl).trans HG.out) (own_step HOW.out HB.out) hl hs).mono ?_); rintro e w1 ⟨rfl, hb1⟩; rw [show (bs.contains x) = pf x by rw [HPF.out], hp]; have HB1 := Aside0.mk (below_step HB.out hb1); have HO1 := Aside0.mk (Kd.R_below HO.out hb1); clear hb1) | ((with_reducible refine gate_builtin (b := .append) (xs := #[.tmp 17, .tmp 19]) rfl ?_); at_builtin; refine Kd.R_append (Kd.int .i64) (w0 := w) w.heap.size rfl (.tmp 17) (.tmp 19) 22 3 (.int .i64 0) 8 rfl Try.underlying22 info3 rfl (by decide) (by omega) _ acc x [.int .i64 x] (fun _ => True) (fun _ => False) rfl rfl ?aP (fun _ hk => hk.elim) ?aF ?aO ?aB ?aS ?aL ?_; (case aP => exact rfl); (case aF => exact fun _ _ => trivial); (case aO => exact HO1.out); (case aB => exact HB1.out); (case aS => exact HB1.out.size); (case aL => have := HLE.out; omega); intro v3 w3 ho hb hg hat; obtain ⟨A3, n3, c3_, ev3⟩ := R_form ho; subst ev3; have HO2 := Aside0.mk ho; have HB2 := Aside0.mk hb; clear ho hb hg hat))
        go_roundg n
        case measure => omega
        case rel => exact ⟨i + 1, acc ++ [x], by first | rfl | rw [hw1], ⟨by have := HK.out; omega⟩, ⟨by rw [← HX.out]; simp⟩, ⟨by have := HLE.out; simp; omega⟩, HO2, HB2⟩
      · rw [List.filter_cons_of_neg hp] at hx
        have hp' : pf x = false := by simpa using hp
        have HX := Aside0.mk hx
        clear hx
        go_wp2_with (first | (go_at_call 38; (with_reducible refine (in1_calls x ((HB.out.block g hgl).trans HG.out) (own_step HOW.out HB.out) hl hs).mono ?_); rintro e w1 ⟨rfl, hb1⟩; rw [show (bs.contains x) = pf x by rw [HPF.out], hp']; have HB1 := Aside0.mk (below_step HB.out hb1); have HO1 := Aside0.mk (Kd.R_below HO.out hb1); clear hb1))
        go_roundg n
        case measure => omega
        case rel => exact ⟨i + 1, acc, by first | rfl | rw [hw1], ⟨by have := HK.out; omega⟩, ⟨HX.out⟩, ⟨by have := HLE.out; omega⟩, HO1, HB1⟩
def sets_Inter.f (l0 l1 : List Int) : Option (List Int) := if l0.length ≤ 4398046511104 ∧ l1.length ≤ 4398046511104 then some ((ofL l0).filter fun x => (ofL l1).contains x) else none
def sets_Diff.f (l0 l1 : List Int) : Option (List Int) := if l0.length ≤ 4398046511104 ∧ l1.length ≤ 4398046511104 then some ((ofL l0).filter fun x => !(ofL l1).contains x) else none
theorem own_C {w : World} {base : Nat} {A : Option Addr} {n c : Nat} {xs : List Int} (h : OwnI w base (.slice A n c) xs) : Kd.C (Kd.int .i64) w A xs.length xs := by
  obtain ⟨A', c', e, _, h1⟩ := Kd.R_reads (R_of_own h)
  injection e with e1 e2 e3
  subst e1
  exact h1
theorem own_lower {w : World} {base base' : Nat} {v : Value} {xs : List Int} (h : OwnI w base v xs) (hb : base' ≤ base) : OwnI w base' v xs := own_weaken h hb
theorem sets_Inter.calls (A0 : Option Addr) (c0 : Nat) (l0 : List Int) (A1 : Option Addr) (c1 : Nat) (l1 : List Int) (r : List Int) (w : World) (hr0 : Kd.C (Kd.int .i64) w A0 l0.length l0) (hc0 : l0.length ≤ c0) (hr1 : Kd.C (Kd.int .i64) w A1 l1.length l1) (hc1 : l1.length ≤ c1) (h : sets_Inter.f l0 l1 = some r) :
    Calls Try.prog 22 #[.slice A0 l0.length c0, .slice A1 l1.length c1] w fun e w' => ∃ v0_ : Value, e = .returned (v0_) ∧ Kd.R (Kd.int .i64) 3 w' w.heap.size (fun _ => True) v0_ r ∧ Below w.heap.size w w' := by
  unfold sets_Inter.f at h
  split at h
  case isFalse => exact absurd h (by simp)
  case isTrue hl =>
  obtain rfl := Option.some.inj h
  obtain ⟨hl0, hl1⟩ := hl
  have HR0 := Aside0.mk hr0
  have HR1 := Aside0.mk hr1
  have HL0 := Aside0.mk (Nat.le_trans (ofL_length l0) hl0)
  have HL1 := Aside0.mk (Nat.le_trans (ofL_length l1) hl1)
  have HS := Aside0.mk (ofL_sorted l1)
  clear hr0 hc0 hr1 hc1 h
  go_enter Try.func22, Try.ntmps22
  go_wp2_with (first | (go_at_call 11; (with_reducible refine (of_calls _ _ l0 _ HR0.out hl0).mono ?_); rintro e w1 ⟨v1, rfl, ho1, hb1⟩; obtain ⟨A3, c3, ev⟩ := own_form ho1; subst ev; have HO1 := Aside0.mk ho1; have HB1 := Aside0.mk hb1; clear ho1 hb1) | (go_at_call 31; (with_reducible refine (in_calls _ _ l1 _ (Kd.C_below HR1.out HB1.out) hl1).mono ?_); rintro e w2 ⟨g, v2, rfl, hg, ho2, hb2⟩; have HG := Aside0.mk hg; have HO2 := Aside0.mk ho2; have HO3 := Aside0.mk (own_step HO1.out hb2); have HB2 := Aside0.mk (below_step HB1.out hb2); clear hg ho2 hb2) | (go_at_call 32; (with_reducible refine (pick_38 _ _ (ofL l0) _ (own_C HO3.out) HL0.out HG.out HO2.out HL1.out HS.out).mono ?_); rintro e w3 ⟨v3, rfl, ho3, hb3⟩; have HO4 := Aside0.mk (own_lower ho3 HB2.out.size); have HB3 := Aside0.mk (below_step HB2.out hb3); clear ho3 hb3))
  go_ret
  exact ⟨_, rfl, R_of_own HO4.out, HB3.out⟩


/-! by hand -/
/-! ### sets_Diff: function 20 -/

theorem diff1_calls {base g g2 : Nat} {v : Value} {bs : List Int} {w : World} (x : Int) (hg2 : w.heap[g2]? = some (.cells #[.func (.func 38) #[] #[.pointer (some ⟨g, 0, none⟩)]] 33 (0, 0))) (hg : w.heap[g]? = some (.cells #[v] 22 (0, 0))) (h : OwnI w base v bs) (hl : bs.length ≤ 4398046511104) (hs : bs.Pairwise (· ≤ ·)) :
    Calls Try.prog 33 #[.int .i64 x, .pointer (some ⟨g2, 0, none⟩)] w fun e w' => e = .returned (.bool (!bs.contains x)) ∧ Below w.heap.size w w' := by
  have H := Aside0.mk h
  have HG := Aside0.mk hg
  have c1 := blk_cell hg2 0
  simp only [List.getElem?_toArray, List.getElem?_cons_zero, List.getElem?_cons_succ] at c1
  obtain ⟨bo, hbo⟩ : ∃ b, b = bs.contains x := ⟨_, rfl⟩
  rw [← hbo]
  have HBO := Aside0.mk hbo
  clear h hg hg2 hbo
  go_enter Try.func33, Try.ntmps33
  go_wp2_with (first | (go_at_call 38; (with_reducible refine (in1_calls x HG.out H.out hl hs).mono ?_); rintro e w1 ⟨rfl, hb1⟩; rw [← HBO.out]; have HB1 := Aside0.mk hb1; clear hb1))
  go_ret
  exact ⟨rfl, HB1.out⟩
theorem pick_33 {base g g2 : Nat} {v : Value} {bs : List Int} (A : Option Addr) (c : Nat) (l : List Int) (w : World) (hr : Kd.C (Kd.int .i64) w A l.length l) (hll : l.length ≤ 4398046511104) (hg2 : w.heap[g2]? = some (.cells #[.func (.func 38) #[] #[.pointer (some ⟨g, 0, none⟩)]] 33 (0, 0))) (hg : w.heap[g]? = some (.cells #[v] 22 (0, 0))) (ho : OwnI w base v bs) (hl : bs.length ≤ 4398046511104) (hs : bs.Pairwise (· ≤ ·)) :
    Calls Try.prog 32 #[.slice A l.length c, .func (.func 33) #[] #[.pointer (some ⟨g2, 0, none⟩)]] w fun e w' => ∃ v', e = .returned v' ∧ OwnI w' w.heap.size v' (l.filter fun x => !bs.contains x) ∧ Below w.heap.size w w' := by
  have HR := Aside0.mk hr
  have HG := Aside0.mk hg
  have HG2 := Aside0.mk hg2
  have hgl2 : g2 < w.heap.size := (Array.getElem?_eq_some_iff.1 hg2).1
  have HOW := Aside0.mk ho
  have hgl : g < w.heap.size := (Array.getElem?_eq_some_iff.1 hg).1
  clear hg hg2 ho
  obtain ⟨pf, hpf⟩ : ∃ p : Int → Bool, p = fun x => !bs.contains x := ⟨_, rfl⟩
  rw [← hpf]
  have HPF := Aside0.mk hpf
  clear hr hpf
  go_enter Try.func32, Try.ntmps32
  go_wp2
  go_loopg [5, 10] l.length (fun kq v5 v10 w' => ∃ (i : Nat) (acc : List Int), v10 = .int .i64 (i : Int) ∧ Aside0 (i + kq = l.length) ∧ Aside0 (acc ++ (l.drop i).filter pf = l.filter pf) ∧ Aside0 (acc.length ≤ i) ∧ Aside0 (Kd.R (Kd.int .i64) 3 w' w.heap.size (fun _ => True) v5 acc) ∧ Aside0 (Below w.heap.size w w'))
  case atStart => exact ⟨0, [], rfl, ⟨by omega⟩, ⟨by simp⟩, ⟨by simp⟩, ⟨Kd.R_nil _ _ _ _ _⟩, ⟨Below.refl _ _⟩⟩
  case round =>
    obtain ⟨i, acc, rfl, HK, HACC, HLE, HO, HB⟩ := hrel
    cases gk with
    | zero =>
      have hi : ¬ ((i : Int) < (l.length : Int)) := by have := HK.out; omega
      have hd : acc = l.filter pf := by
        have h1 := HACC.out
        rw [List.drop_eq_nil_of_le (by have := HK.out; omega)] at h1
        simpa using h1
      obtain ⟨A5, c5, ev⟩ := Kd.R_slice HO.out
      subst ev
      go_wp2
      go_ret
      exact ⟨_, rfl, by rw [← hd]; exact own_of_R HO.out, HB.out⟩
    | succ n =>
      have hin : i < l.length := by have := HK.out; omega
      have hi : (i : Int) < (l.length : Int) := by omega
      have p0 : 0 ≤ (i : Int) := by omega
      have hx := HACC.out
      rw [List.drop_eq_getElem_cons hin] at hx
      have eg : rd l (i : Int) = l[i] := by simp [rd, hin]
      obtain ⟨ad, ea, hcell⟩ := Kd.at_int (Kd.C_below HR.out HB.out) (i : Int) p0 hi
      cases ea
      rw [eg, Int.toNat_natCast] at hcell
      obtain ⟨x, hxx⟩ : ∃ x, x = l[i] := ⟨_, rfl⟩
      rw [← hxx] at hx hcell
      clear hxx eg
      obtain ⟨A5, c5, ev⟩ := Kd.R_slice HO.out
      subst ev
      have hw1 : wrap64 ((i : Int) + 1) = ((i + 1 : Nat) : Int) := by unfold wrap64; omega
      by_cases hp : pf x = true
      · rw [List.filter_cons_of_pos hp] at hx
        have HX := Aside0.mk hx
        clear hx
        go_wp2_with (first | (go_at_call 33; (with_reducible refine (diff1_calls x ((HB.out.block g2 hgl2).trans HG2.out) ((HB.out.block g hgl).trans HG.out) (own_step HOW.out HB.out) hl hs).mono ?_); rintro e w1 ⟨rfl, hb1⟩; rw [show (!bs.contains x) = pf x by rw [HPF.out], hp]; have HB1 := Aside0.mk (below_step HB.out hb1); have HO1 := Aside0.mk (Kd.R_below HO.out hb1); clear hb1) | ((with_reducible refine gate_builtin (b := .append) (xs := #[.tmp 17, .tmp 19]) rfl ?_); at_builtin; refine Kd.R_append (Kd.int .i64) (w0 := w) w.heap.size rfl (.tmp 17) (.tmp 19) 22 3 (.int .i64 0) 8 rfl Try.underlying22 info3 rfl (by decide) (by omega) _ acc x [.int .i64 x] (fun _ => True) (fun _ => False) rfl rfl ?aP (fun _ hk => hk.elim) ?aF ?aO ?aB ?aS ?aL ?_; (case aP => exact rfl); (case aF => exact fun _ _ => trivial); (case aO => exact HO1.out); (case aB => exact HB1.out); (case aS => exact HB1.out.size); (case aL => have := HLE.out; omega); intro v3 w3 ho hb hg hat; obtain ⟨A3, n3, c3_, ev3⟩ := R_form ho; subst ev3; have HO2 := Aside0.mk ho; have HB2 := Aside0.mk hb; clear ho hb hg hat))
        go_roundg n
        case measure => omega
        case rel => exact ⟨i + 1, acc ++ [x], by first | rfl | rw [hw1], ⟨by have := HK.out; omega⟩, ⟨by rw [← HX.out]; simp⟩, ⟨by have := HLE.out; simp; omega⟩, HO2, HB2⟩
      · rw [List.filter_cons_of_neg hp] at hx
        have hp' : pf x = false := by simpa using hp
        have HX := Aside0.mk hx
        clear hx
        go_wp2_with (first | (go_at_call 33; (with_reducible refine (diff1_calls x ((HB.out.block g2 hgl2).trans HG2.out) ((HB.out.block g hgl).trans HG.out) (own_step HOW.out HB.out) hl hs).mono ?_); rintro e w1 ⟨rfl, hb1⟩; rw [show (!bs.contains x) = pf x by rw [HPF.out], hp']; have HB1 := Aside0.mk (below_step HB.out hb1); have HO1 := Aside0.mk (Kd.R_below HO.out hb1); clear hb1))
        go_roundg n
        case measure => omega
        case rel => exact ⟨i + 1, acc, by first | rfl | rw [hw1], ⟨by have := HK.out; omega⟩, ⟨HX.out⟩, ⟨by have := HLE.out; omega⟩, HO1, HB1⟩
theorem sets_Diff.calls (A0 : Option Addr) (c0 : Nat) (l0 : List Int) (A1 : Option Addr) (c1 : Nat) (l1 : List Int) (r : List Int) (w : World) (hr0 : Kd.C (Kd.int .i64) w A0 l0.length l0) (hc0 : l0.length ≤ c0) (hr1 : Kd.C (Kd.int .i64) w A1 l1.length l1) (hc1 : l1.length ≤ c1) (h : sets_Diff.f l0 l1 = some r) :
    Calls Try.prog 20 #[.slice A0 l0.length c0, .slice A1 l1.length c1] w fun e w' => ∃ v0_ : Value, e = .returned (v0_) ∧ Kd.R (Kd.int .i64) 3 w' w.heap.size (fun _ => True) v0_ r ∧ Below w.heap.size w w' := by
  have hmf : ∀ (fn : Fn) (first cap : Array Value) (w : World), (Instr.makeFunc fn first cap).run Try.prog w = .ok (.func fn first cap) w := fun _ _ _ _ => rfl
  unfold sets_Diff.f at h
  split at h
  case isFalse => exact absurd h (by simp)
  case isTrue hl =>
  obtain rfl := Option.some.inj h
  obtain ⟨hl0, hl1⟩ := hl
  have HR0 := Aside0.mk hr0
  have HR1 := Aside0.mk hr1
  have HL0 := Aside0.mk (Nat.le_trans (ofL_length l0) hl0)
  have HL1 := Aside0.mk (Nat.le_trans (ofL_length l1) hl1)
  have HS := Aside0.mk (ofL_sorted l1)
  clear hr0 hc0 hr1 hc1 h
  go_enter Try.func20, Try.ntmps20
  go_wp2_with (first | (go_at_call 31; (with_reducible refine (in_calls _ _ l1 _ HR1.out hl1).mono ?_); rintro e w2 ⟨g, v2, rfl, hg, ho2, hb2⟩; have HG := Aside0.mk hg; have HO2 := Aside0.mk ho2; have HB2 := Aside0.mk hb2; clear hg ho2 hb2) | (go_at_call 11; (with_reducible refine (of_calls _ _ l0 _ (Kd.C_below HR0.out (below_alloc HB2.out _)) hl0).mono ?_); rintro e w1 ⟨v1, rfl, ho1, hb1⟩; obtain ⟨A3, c3, ev⟩ := own_form ho1; subst ev; have HO1 := Aside0.mk ho1; have HB1 := Aside0.mk (below_step (below_alloc HB2.out _) hb1); have HG2 := Aside0.mk ((hb1.block _ (by simp)).trans (blk_new w2 _)); have HG3 := Aside0.mk ((((below_alloc (Below.refl w2.heap.size w2) _).trans (hb1.mono (by simp))).block g (Array.getElem?_eq_some_iff.1 HG.out).1).trans HG.out); have HO3 := Aside0.mk (own_step HO2.out ((below_alloc (Below.refl w2.heap.size w2) _).trans (hb1.mono (by simp)))); clear ho1 hb1) | (go_at_call 32; (with_reducible refine (pick_33 _ _ (ofL l0) _ (own_C HO1.out) HL0.out HG2.out HG3.out HO3.out HL1.out HS.out).mono ?_); rintro e w3 ⟨v3, rfl, ho3, hb3⟩; have HO4 := Aside0.mk (own_lower ho3 HB1.out.size); have HB3 := Aside0.mk (below_step HB1.out hb3); clear ho3 hb3))
  go_ret
  exact ⟨_, rfl, R_of_own HO4.out, HB3.out⟩


/-! ### sets_Sub: function 15 -/
def sets_Sub.f (l0 : List Int) (l1 : List Int) : Option (Bool) := (sets_Diff.f l0 l1).bind fun t106 => (some ((t106.length : Int) == 0))
set_option maxHeartbeats 8000000 in
set_option maxRecDepth 100000 in
theorem sets_Sub.calls (A0 : Option Addr) (c0 : Nat) (l0 : List Int) (A1 : Option Addr) (c1 : Nat) (l1 : List Int) (r : Bool) (w : World) (hr0 : Kd.C (Kd.int .i64) w A0 l0.length l0) (hc0 : l0.length ≤ c0) (hr1 : Kd.C (Kd.int .i64) w A1 l1.length l1) (hc1 : l1.length ≤ c1) (h : sets_Sub.f l0 l1 = some r) :
    Calls Try.prog 15 #[.slice A0 l0.length c0, .slice A1 l1.length c1] w fun e w' => e = .returned (.bool r) ∧ Below w.heap.size w w' := by
  have HR0 := Aside0.mk hr0
  have HC0 := Aside0.mk hc0
  clear hr0 hc0
  have HR1 := Aside0.mk hr1
  have HC1 := Aside0.mk hc1
  clear hr1 hc1
  have HB := Aside0.mk (Below.refl w.heap.size w)
  have H : ((sets_Diff.f l0 l1).bind fun t106 => (some ((t106.length : Int) == 0))) = some r := h
  clear h
  replace H := Option.bind_eq_some_iff.mp H
  obtain ⟨t106, A30, H⟩ := H
  replace H : (some ((t106.length : Int) == 0)) = some r := H
  have A3 := Aside0.mk A30
  clear A30
  obtain rfl := Option.some.inj H
  go_enter Try.func15, Try.ntmps15
  go_wp2_with (first | ((with_reducible refine gate_callee (f := 20) rfl ?_); refine goesL_ (some 7) rfl rfl Try.func20 (by kernel_rfl) rfl #[.slice A0 l0.length c0, .slice A1 l1.length c1] rfl (by (try simp only [List.map_toArray, List.map_cons, List.map_nil]); first | done | rfl | (simp only [List.length_drop, List.length_take]; rfl)) ?_; (with_reducible refine (sets_Diff.calls _ _ l0 _ _ l1 t106 _ ?side1 ?side2 ?side3 ?side4 A3.out).mono ?_); (case side1 => repeat (first | exact HR0.out | (with_reducible refine Kd.C_alloc ?_ _) | (with_reducible refine Kd.C_drewN ?_ _) | (with_reducible refine Kd.C_drew ?_))); (case side2 => exact HC0.out); (case side3 => repeat (first | exact HR1.out | (with_reducible refine Kd.C_alloc ?_ _) | (with_reducible refine Kd.C_drewN ?_ _) | (with_reducible refine Kd.C_drew ?_))); (case side4 => exact HC1.out); rintro e w4 ⟨v107, rfl, ho0, hb⟩; refine ⟨_, rfl, ?_⟩; have n0_ := Aside0.mk (Kd.R_lower ho0 (below_size (by repeat (first | (with_reducible first | exact HB.out | apply below_alloc | apply pw_below_drewN | apply below_drew1) | exact HB.out)))); have n1_ := Aside0.mk (below_step (by repeat (first | (with_reducible first | exact HB.out | apply below_alloc | apply pw_below_drewN | apply below_drew1) | exact HB.out)) hb); clear HB; have HO108 := n0_; have HB := n1_; clear n0_ n1_; (try clear hb); (try clear hb2); (try clear hk); (try clear hi); (try clear ho0); obtain ⟨Ao5, co5, eo5⟩ := Kd.R_slice HO108.out; subst eo5))
  go_ret
  exact ⟨by first | rfl | (simp [errW_none, errW_some] <;> rfl) | (simp [*, errW_none, errW_some] <;> rfl), by repeat (first | (with_reducible first | exact HB.out | apply below_alloc | apply pw_below_drewN | apply below_drew1) | exact HB.out)⟩

end Go.Proofs.Ytaiphfmfpedaaaa.PALL
