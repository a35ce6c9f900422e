/-
  What a list of values is written as, and that each is read back.
-/
import Derived.Test.YtnnadgnohchmbaaPl6
import Derived.Test.YtnnadgnohchmbaaKind30
namespace Go.Proofs.Ytnnadgnohchmbaa.Pl
open Go.RowKit Go.Proofs.Ytnnadgnohchmbaa.PALL Go.Proofs.YtnnadgnohchmbaaW.PrintWords Go.Proofs.YtnnadgnohchmbaaW.PrintLast Go.Proofs.YtnnadgnohchmbaaW.PrintMore
set_option linter.unusedVariables false
set_option linter.unusedSimpArgs false

theorem enc_byte : ∀ (f n : Nat), n ≤ f → ∀ x ∈ enc n, 0 ≤ x ∧ x ≤ 255 := by
  intro f
  induction f with
  | zero => intro n h x hx; rw [enc, dif_pos (by omega)] at hx; simp at hx; omega
  | succ f ih =>
    intro n h x hx
    rw [enc] at hx
    split at hx
    · simp at hx; omega
    · rcases List.mem_cons.1 hx with rfl | hx
      · omega
      · exact ih (n / 128) (by omega) x hx
theorem enc_ne (n : Nat) : 1 ≤ (enc n).length := by rw [enc]; split <;> simp
theorem bt_mid (a b : ByteArray) (xs : List Int) (hx : ∀ x ∈ xs, 0 ≤ x ∧ x ≤ 255) (i : Nat) (hi : i < xs.length) : bt (a ++ strOfNums xs ++ b) ((a.size + i : Nat) : Int) = xs[i] := by
  have hs : (strOfNums xs).size = xs.length := strOfNums_size xs
  have h1 : a.size + i < (a ++ strOfNums xs ++ b).size := by simp [hs]; omega
  have h2 : a.size + i < (a ++ strOfNums xs).size := by simp [hs]; omega
  have hd : (a ++ strOfNums xs ++ b).data.toList = a.data.toList ++ (xs.map fun n => UInt8.ofNat n.toNat) ++ b.data.toList := by
    simp only [ByteArray.data_append, Array.toList_append, strOfNums_data]
  have hl : a.data.toList.length = a.size := rfl
  have e : (a ++ strOfNums xs ++ b)[a.size + i] = UInt8.ofNat xs[i].toNat := by
    show (a ++ strOfNums xs ++ b).data[a.size + i]'h1 = _
    rw [← Array.getElem_toList, List.getElem_of_eq hd, List.getElem_append_left (by rw [List.length_append, List.length_map]; omega), List.getElem_append_right (by omega), List.getElem_map]
    congr 2
    congr 1
    omega
  simp only [bt, Int.toNat_natCast]
  rw [dif_pos h1, e]
  have := hx xs[i] (List.getElem_mem hi)
  simp
  omega
/-- A number behind a, ahead of b. -/
theorem rdp_mid (a b : ByteArray) (n : Nat) (hn : n < 18446744073709551616) : rdp (a ++ strOfNums (enc n) ++ b) 10 a.size = ((n : Int), 0, (enc n).length) := by
  refine rdp_enc _ 9 n a.size (by decide) ?_ (.inl rfl) ?_ ?_
  · have : (2 * 128 ^ 9 : Nat) = 18446744073709551616 := by decide
    omega
  · simp [strOfNums_size]
  · intro i hi
    exact bt_mid a b _ (enc_byte n n (Nat.le_refl _)) i hi
theorem uint_mid (a b : ByteArray) (n : Nat) (hn : n < 18446744073709551616) : UintS (a ++ strOfNums (enc n) ++ b) a.size 0 = ((n : Int), a.size + (enc n).length, 0) := by
  rw [UintS, if_pos rfl, rdp_mid a b n hn]
theorem int_mid (a b : ByteArray) (i : Int) (hi : -9223372036854775808 ≤ i ∧ i ≤ 9223372036854775807) : IntS (a ++ strOfNums (enc (zig i)) ++ b) a.size 0 = (i, a.size + (enc (zig i)).length, 0) := by
  rw [IntS, uint_mid a b _ (zig_lt i hi), unzig_zig]
theorem text_mid (a b t : ByteArray) (m : Int) (hm : (t.size : Int) ≤ m) (ht : t.size ≤ 200) :
    TextS (a ++ (strOfNums (enc t.size) ++ t) ++ b) a.size 0 m = (t, a.size + (strOfNums (enc t.size) ++ t).size, 0) := by
  have hs : a ++ (strOfNums (enc t.size) ++ t) ++ b = a ++ strOfNums (enc t.size) ++ (t ++ b) := by simp [ByteArray.append_assoc]
  have hmx : mx m 0 = m := by unfold mx; rw [if_neg (by omega)]
  have hc : CountS (a ++ (strOfNums (enc t.size) ++ t) ++ b) a.size 0 m = ((t.size : Int), a.size + (enc t.size).length, 0) := by
    rw [CountS, if_pos rfl, hs, rdp_mid a _ _ (by omega), if_pos rfl, hmx, if_neg (by simp only; omega)]
  have hz : (a ++ (strOfNums (enc t.size) ++ t) ++ b).size = a.size + (enc t.size).length + t.size + b.size := by simp [strOfNums_size]; omega
  rw [TextS, hc]
  simp only
  rw [if_pos trivial, if_neg (by rw [hz]; omega), Int.toNat_natCast]
  have hx : (a ++ (strOfNums (enc t.size) ++ t) ++ b).extract (a.size + (enc t.size).length) (a.size + (enc t.size).length + t.size) = t := by
    apply ByteArray.ext
    apply Array.ext'
    have e1 : (strOfNums (enc t.size)).data.toList.length = (enc t.size).length := strOfNums_size (enc t.size)
    have e2 : a.data.toList.length = a.size := rfl
    have e3 : t.data.toList.length = t.size := rfl
    simp only [ByteArray.data_extract, Array.toList_extract, List.extract_eq_take_drop, ByteArray.data_append, Array.toList_append]
    rw [List.append_assoc, List.append_assoc, ← List.append_assoc, List.drop_append_of_le_length (by simp only [List.length_append]; omega), List.drop_of_length_le (by simp only [List.length_append]; omega), List.nil_append, List.take_append_of_le_length (by omega), List.take_of_length_le (by omega)]
  rw [hx]
  simp [strOfNums_size]; omega

/-- What a value is written as. -/
def item (x : S30) : ByteArray := if Int.tmod x.f0 3 = 0 then strOfNums (enc (IntKind.u64.wrap x.f1).toNat) else if Int.tmod x.f0 3 = 1 then strOfNums (enc (zig x.f1)) else strOfNums (enc x.f2.size) ++ x.f2
def all_ : List S30 → ByteArray
  | [] => ⟨#[]⟩
  | x :: l => item x ++ all_ l
theorem add_empty (x : ByteArray) : x ++ (⟨#[]⟩ : ByteArray) = x := by apply ByteArray.ext; simp
theorem empty_add' (x : ByteArray) : (⟨#[]⟩ : ByteArray) ++ x = x := by apply ByteArray.ext; simp
theorem all_append (l m : List S30) : all_ (l ++ m) = all_ l ++ all_ m := by
  induction l with
  | nil => exact (empty_add' _).symm
  | cons x l ih => rw [List.cons_append, all_, all_, ih, ByteArray.append_assoc]
theorem all_snoc (l : List S30) (i : Nat) (h : i < l.length) : all_ (l.take (i + 1)) = all_ (l.take i) ++ item l[i] := by
  rw [List.take_succ_eq_append_getElem h, all_append]
  show _ ++ (item l[i] ++ ⟨#[]⟩) = _
  rw [add_empty]
theorem all_split (l : List S30) (i : Nat) (h : i < l.length) : all_ l = all_ (l.take i) ++ item l[i] ++ all_ (l.drop (i + 1)) := by
  rw [← all_snoc l i h, ← all_append, List.take_append_drop]
def okV (x : S30) : Prop := (-9223372036854775808 ≤ x.f1 ∧ x.f1 ≤ 9223372036854775807) ∧ x.f2.size ≤ 140737488351232
theorem wrapN (i : Int) : 0 ≤ IntKind.u64.wrap i ∧ (IntKind.u64.wrap i).toNat < 18446744073709551616 := by rw [IntKind.wrap_u64]; omega
theorem item_size (x : S30) (h : okV x) (h2 : x.f2.size ≤ 200) : (item x).size ≤ 210 := by
  unfold item
  split
  · rw [strOfNums_size]; have := enc_le _ (wrapN x.f1).2; omega
  · split
    · rw [strOfNums_size]; have := enc_le _ (zig_lt x.f1 h.1); omega
    · rw [ByteArray.size_append, strOfNums_size]; have := enc_le x.f2.size (by omega); omega
theorem all_size (l : List S30) (h : ∀ x ∈ l, okV x ∧ x.f2.size ≤ 200) : (all_ l).size ≤ 210 * l.length := by
  induction l with
  | nil => exact Nat.zero_le _
  | cons x l ih =>
    have h1 := item_size x (h x (by simp)).1 (h x (by simp)).2
    have h2 := ih (fun y hy => h y (by simp [hy]))
    rw [all_, ByteArray.size_append, List.length_cons]
    omega
/-- Reading the value at i. -/
theorem read_uint (l : List S30) (i : Nat) (h : i < l.length) (hk : Int.tmod l[i].f0 3 = 0) : UintS (all_ l) (all_ (l.take i)).size 0 = (IntKind.u64.wrap l[i].f1, (all_ (l.take (i + 1))).size, 0) := by
  have w := wrapN l[i].f1
  have e : item l[i] = strOfNums (enc (IntKind.u64.wrap l[i].f1).toNat) := by rw [item, if_pos hk]
  rw [all_split l i h, e, uint_mid _ _ _ w.2, all_snoc l i h, e, ByteArray.size_append, strOfNums_size, Int.toNat_of_nonneg w.1]
theorem read_int (l : List S30) (i : Nat) (h : i < l.length) (hv : okV l[i]) (hk : Int.tmod l[i].f0 3 = 1) : IntS (all_ l) (all_ (l.take i)).size 0 = (l[i].f1, (all_ (l.take (i + 1))).size, 0) := by
  have e : item l[i] = strOfNums (enc (zig l[i].f1)) := by rw [item, if_neg (by omega), if_pos hk]
  rw [all_split l i h, e, int_mid _ _ _ hv.1, all_snoc l i h, e, ByteArray.size_append, strOfNums_size]
theorem read_text (l : List S30) (i : Nat) (h : i < l.length) (hz : l[i].f2.size ≤ 200) (hk : ¬ Int.tmod l[i].f0 3 = 0) (hk1 : ¬ Int.tmod l[i].f0 3 = 1) : TextS (all_ l) (all_ (l.take i)).size 0 200 = (l[i].f2, (all_ (l.take (i + 1))).size, 0) := by
  have e : item l[i] = strOfNums (enc l[i].f2.size) ++ l[i].f2 := by rw [item, if_neg hk, if_neg hk1]
  rw [all_split l i h, e, text_mid _ _ _ 200 (by omega) hz, all_snoc l i h, e, ByteArray.size_append (a := all_ (l.take i))]
/-- Writing the value at i. -/
theorem put_uint (l : List S30) (i : Nat) (h : i < l.length) (hs : (all_ (l.take i)).size ≤ 20000) (hk : Int.tmod l[i].f0 3 = 0) : wire_PutUint.f 10 (all_ (l.take i)) (IntKind.u64.wrap l[i].f1) = some (all_ (l.take (i + 1))) := by
  have w := wrapN l[i].f1
  have e : item l[i] = strOfNums (enc (IntKind.u64.wrap l[i].f1).toNat) := by rw [item, if_pos hk]
  have e2 : IntKind.u64.wrap l[i].f1 = (((IntKind.u64.wrap l[i].f1).toNat : Nat) : Int) := by omega
  rw [all_snoc l i h, e]
  rw [e2, wire_putUint _ (by omega) _ 10 w.2 (Nat.le_refl _), Int.toNat_natCast]
theorem put_int (l : List S30) (i : Nat) (h : i < l.length) (hv : okV l[i]) (hs : (all_ (l.take i)).size ≤ 20000) (hk : Int.tmod l[i].f0 3 = 1) : wire_PutInt.f 10 (all_ (l.take i)) l[i].f1 = some (all_ (l.take (i + 1))) := by
  have e : item l[i] = strOfNums (enc (zig l[i].f1)) := by rw [item, if_neg (by omega), if_pos hk]
  rw [all_snoc l i h, e, wire_putInt _ (by omega) _ 10 hv.1 (Nat.le_refl _)]
theorem put_text (l : List S30) (i : Nat) (h : i < l.length) (hv : okV l[i]) (hs : (all_ (l.take i)).size ≤ 20000) (hk : ¬ Int.tmod l[i].f0 3 = 0) (hk1 : ¬ Int.tmod l[i].f0 3 = 1) : wire_PutText.f 10 (all_ (l.take i)) l[i].f2 = some (all_ (l.take (i + 1))) := by
  have e : item l[i] = strOfNums (enc l[i].f2.size) ++ l[i].f2 := by rw [item, if_neg hk, if_neg hk1]
  rw [all_snoc l i h, e, wire_putText _ _ (by omega) hv.2 10 (Nat.le_refl _), ByteArray.append_assoc]
end Go.Proofs.Ytnnadgnohchmbaa.Pl
