/- The texts of ZoneOfs, merged: part 25. -/
import Derived.Test.YthiidgmemoineaaQZoneOfs24
import Derived.Test.YthiidgmemoineaaQZoneOfs10
import Derived.Test.YthiidgmemoineaaQZoneOfs9
/-! What the calls of layer 13 tell of any arguments, the program's and the document's, in plain lists. -/
namespace Go.Proofs.Ythiidgmemoineaa.B
set_option linter.unusedSimpArgs false
set_option linter.unusedVariables false
open Go.RowKit Go.Proofs.Ythiidgmemoineaa.Pa Go.Proofs.Ythiidgmemoineaa.L Go.Proofs.YthiidgmemoineaaW.PrintWords Go.Proofs.YthiidgmemoineaaW.PrintLast Go.Proofs.YthiidgmemoineaaW.PrintMore

/-! ### plus zero -/
theorem ord_gt (m : Nat) (hm : 0 < m) (i j : Int) : (Ieee.Datum.number false m i).order (.number false 0 j) = some .gt := by
  simp only [Ieee.Datum.order, Ieee.signed, Nat.zero_shiftLeft]
  have : 0 < m <<< (i - min i j).toNat := by rw [Nat.shiftLeft_eq]; exact Nat.mul_pos hm (Nat.two_pow_pos _)
  generalize m <<< (i - min i j).toNat = x at this
  simp [compare, compareOfLessAndEq]
  rw [if_neg (by omega), if_neg (by omega)]
theorem feq_pos (a : Nat) (h0 : 0 < a) (h : a < 9223372036854775808) : feq a 0 = false := by
  have r0 : Ieee.double.read 0 = .number false 0 Ieee.double.leastPlace := by decide +kernel
  unfold feq
  show (Ieee.double.order a 0 == some .eq) = false
  unfold Ieee.Format.order
  rw [r0]
  have hs : Ieee.double.signWeight = 9223372036854775808 := by decide +kernel
  unfold Ieee.Format.read
  rw [hs, Nat.div_eq_of_lt h, Nat.mod_eq_of_lt h]
  simp only []
  have e : ((0 % 2 == 1) : Bool) = false := rfl
  rw [e]
  have hb : 0 < Ieee.double.binade := by decide +kernel
  split
  · rw [ord_gt a h0]; rfl
  · split
    · rw [ord_gt _ (by omega)]; rfl
    · split <;> rfl
theorem plus_f (a : Nat) (h : a < 18446744073709551616) : colonnaderef05_plus.f a = some (decide (a = 0)) := by
  unfold colonnaderef05_plus.f math_Signbit.f
  by_cases h0 : a = 0
  · subst h0; decide +kernel
  · rw [decide_eq_false h0]
    by_cases h1 : a < 9223372036854775808
    · rw [feq_pos a (by omega) h1]; rfl
    · have : wrap64 (a : Int) < 0 := by unfold wrap64; omega
      split
      · simp [this]
      · rfl
/-- A value's float is a word. -/
def Wd (v : S28) : Prop := v.f2 < 18446744073709551616
theorem cnt_size {v : S28} (h : Cnt v) : v.f3.size ≤ 140737488351232 := by
  rcases h.1 with h | h
  · have : v.f3.size = 0 := by rw [← bytesOf_len, bytesOf, ← ByteArray.toList_eq, h.2]; rfl
    omega
  · omega
theorem ref_for_f {v : S28} (hv : Wd v) : Evn (fun k => colonnaderef13_For.f k v.f0 v.f1 v.f2 v.f3) (@decide (Cnt v) (Classical.propDecidable _)) := by
  unfold colonnaderef13_For.f colonnaderef05_May.f
  simp only [plus_f v.f2 hv, Option.bind_some]
  by_cases h1 : v.f0 = 1
  · refine Evn.pos h1 (Evn.bind (a := @decide (Cnt v) (Classical.propDecidable _)) ?_ (Evn.now _))
    refine Evn.neg (by omega) (Evn.pos h1 ?_)
    by_cases h2 : v.f2 = 0
    · refine Evn.pos (by simpa using h2) ?_
      have : (v.f3.toList == ([] : List UInt8)) = @decide (Cnt v) (Classical.propDecidable _) := by
        rw [Bool.eq_iff_iff, beq_iff_eq, @decide_eq_true_iff _ (Classical.propDecidable _)]
        exact ⟨fun h => ⟨Or.inl ⟨h1, h⟩, h2⟩, fun h => Or.elim h.1 (fun h => h.2) (fun h => absurd h.1 (by omega))⟩
      rw [this]; exact Evn.now _
    · refine Evn.neg (by simpa using h2) ?_
      rw [@decide_eq_false _ (Classical.propDecidable _) (fun h : Cnt v => h2 h.2)]; exact Evn.now _
  · refine Evn.neg h1 ?_
    by_cases h2 : v.f0 = 2
    · refine Evn.pos h2 (Evn.bind (a := @decide (Cnt v) (Classical.propDecidable _)) ?_ (Evn.now _))
      refine Evn.neg (by omega) (Evn.neg h1 (Evn.pos h2 ?_))
      by_cases h3 : v.f1 = 0
      · refine Evn.pos h3 ?_
        by_cases h4 : v.f2 = 0
        · refine Evn.pos (by simpa using h4) ?_
          have : decide ((v.f3.size : Int) ≤ 65535) = @decide (Cnt v) (Classical.propDecidable _) := by
            rw [Bool.eq_iff_iff, decide_eq_true_iff, @decide_eq_true_iff _ (Classical.propDecidable _)]
            exact ⟨fun h => ⟨Or.inr ⟨h2, h3, by omega⟩, h4⟩, fun h => Or.elim h.1 (fun h => absurd h.1 (by omega)) (fun h => by omega)⟩
          rw [this]; exact Evn.now _
        · refine Evn.neg (by simpa using h4) ?_
          rw [@decide_eq_false _ (Classical.propDecidable _) (fun h : Cnt v => h4 h.2)]; exact Evn.now _
      · refine Evn.neg h3 ?_
        rw [@decide_eq_false _ (Classical.propDecidable _) (fun h : Cnt v => Or.elim h.1 (fun h => h1 h.1) (fun h => h3 h.2.1))]; exact Evn.now _
    · refine Evn.neg h2 ?_
      rw [@decide_eq_false _ (Classical.propDecidable _) (fun h : Cnt v => Or.elim h.1 (fun h => h1 h.1) (fun h => h2 h.1))]; exact Evn.now _
theorem counts_no {v : S28} (hc : ¬ Cnt v) : Evn (fun k => bloom_counts.f k v.f0 v.f1 v.f2 v.f3) false := by
  unfold bloom_counts.f value_May.f
  have hj1 : ∀ x : Bool, v.f0 = 1 ∨ v.f0 = 2 → (x = true → v.f2 ≠ 0) → Evn (fun k => value_May.j1 k x v.f0 v.f1 v.f2 v.f3) false := by
    intro x h hx
    refine Evn.succ (fun _ => rfl) ?_
    simp only [value_May.j1]
    refine Evn.neg (by omega) ?_
    by_cases h1 : x = true
    · refine Evn.pos h1 (Evn.neg ?_ (Evn.now _))
      have := hx h1
      omega
    · exact Evn.neg h1 (Evn.now _)
  by_cases h1 : v.f0 = 1
  · refine Evn.pos h1 (Evn.bind (a := false) ?_ (Evn.now _))
    have hj : Evn (fun k => value_May.j0 k true v.f0 v.f1 v.f2 v.f3) false := by
      refine Evn.succ (fun _ => rfl) ?_
      simp only [value_May.j0]
      refine Evn.pos (by trivial) ?_
      by_cases h3 : v.f3.toList = []
      · exact Evn.pos h3 (hj1 _ (Or.inl h1) (fun _ h2 => hc ⟨Or.inl ⟨h1, h3⟩, h2⟩))
      · exact Evn.neg h3 (Evn.neg (by omega) (hj1 _ (Or.inl h1) (fun h => by cases h)))
    by_cases h3 : v.f1 = 0
    · exact Evn.pos h3 hj
    · refine Evn.neg h3 ?_
      have e : (v.f0 == 1) = true := by rw [h1]; rfl
      rw [e]; exact hj
  · refine Evn.neg h1 ?_
    by_cases h2 : v.f0 = 2
    · refine Evn.pos h2 (Evn.bind (a := false) ?_ (Evn.now _))
      by_cases h3 : v.f1 = 0
      · refine Evn.pos h3 ?_
        refine Evn.succ (fun _ => rfl) ?_
        simp only [value_May.j0]
        refine Evn.pos (by trivial) ?_
        by_cases h4 : v.f3.toList = []
        · refine Evn.pos h4 (hj1 _ (Or.inr h2) (fun _ h5 => hc ⟨Or.inr ⟨h2, h3, ?_⟩, h5⟩))
          have : v.f3.size = 0 := by rw [← bytesOf_len, bytesOf, ← ByteArray.toList_eq, h4]; rfl
          omega
        · refine Evn.neg h4 (Evn.pos h2 (hj1 _ (Or.inr h2) (fun h h5 => hc ⟨Or.inr ⟨h2, h3, ?_⟩, h5⟩)))
          have := of_decide_eq_true h
          omega
      · refine Evn.neg h3 ?_
        have e : (v.f0 == 1) = false := by rw [h2]; rfl
        rw [e]
        refine Evn.succ (fun _ => rfl) ?_
        simp only [value_May.j0]
        exact Evn.neg (by decide) (hj1 _ (Or.inr h2) (fun h => by cases h))
    · exact Evn.neg h2 (Evn.now _)

/-! ### the hash, the places -/
theorem stp_ref (h b : Int) : IntKind.u64.wrap ((IntKind.u64.wrap ((Go.bits .xor .u64 h (IntKind.u64.wrap b)) * 1099511627776)) + (IntKind.u64.wrap ((Go.bits .xor .u64 h (IntKind.u64.wrap b)) * 435))) = stp h b := by
  unfold stp
  generalize Go.bits .xor .u64 h (IntKind.u64.wrap b) = x
  simp only [IntKind.wrap_u64]
  omega
theorem ref_hash_l0 (l : List Int) (hl : l.length < 9223372036854775807) : ∀ (d j : Nat) (h : Int), j + d = l.length →
    Evn (fun k => colonnaderef06_Hash.l0 k l h (j : Int)) ((l.drop j).foldl stp h) := by
  intro d
  induction d with
  | zero =>
    intro j h e
    refine Evn.succ (fun _ => rfl) ?_
    simp only [colonnaderef06_Hash.l0]
    refine Evn.neg (by omega) ?_
    rw [List.drop_of_length_le (by omega)]
    exact Evn.now _
  | succ d ih =>
    intro j h e
    refine Evn.succ (fun _ => rfl) ?_
    simp only [colonnaderef06_Hash.l0]
    refine Evn.pos (by omega) (Evn.pos (by omega) ?_)
    rw [w1 (by omega), rd_nat, stp_ref, getD_lt (show j < l.length by omega), List.drop_eq_getElem_cons (show j < l.length by omega), List.foldl_cons]
    exact ih (j + 1) _ (by omega)
theorem ref_hash (l : List Int) (hl : l.length < 9223372036854775807) : Evn (fun k => colonnaderef06_Hash.f k l) (hsh l) := by
  unfold colonnaderef06_Hash.f
  exact ref_hash_l0 l hl l.length 0 _ (by omega)
theorem stp_range (h b : Int) : 0 ≤ stp h b ∧ stp h b < 18446744073709551616 := u64_range _
theorem hsh_range (l : List Int) : 0 ≤ hsh l ∧ hsh l < 18446744073709551616 := by
  have : ∀ (l : List Int) (h : Int), 0 ≤ h ∧ h < 18446744073709551616 → 0 ≤ l.foldl stp h ∧ l.foldl stp h < 18446744073709551616 := by
    intro l
    induction l with
    | nil => intro h hh; exact hh
    | cons x l ih => intro h _; exact ih _ (stp_range _ _)
  exact this l _ (by omega)
theorem sr {i : Nat} (hi : i < 8) (x : Int) : (shr .u64 (IntKind.u64.wrap x) (IntKind.u64.wrap (wrap64 (8 * (i : Int))))) % 256 = (shr .i64 x (8 * (i : Int))) % 256 := by
  rw [wrap64_in (n := 8 * (i : Int)) (by omega) (by omega), u64_in (n := 8 * (i : Int)) (by omega) (by omega)]
  have : i = 0 ∨ i = 1 ∨ i = 2 ∨ i = 3 ∨ i = 4 ∨ i = 5 ∨ i = 6 ∨ i = 7 := by omega
  rw [IntKind.wrap_u64]
  rcases this with rfl | rfl | rfl | rfl | rfl | rfl | rfl | rfl <;> simp [shr, IntKind.bits] <;> omega
theorem fixed_l0 (x0 : List Int) (hx : x0.length ≤ 10) (f : Int) : ∀ (d j : Nat) (x : List Int), j + d = 8 → x.length = j →
    Evn (fun k => colonnaderef07_Fixed.l0 k x0 (IntKind.u64.wrap f) 8 x (j : Int)) (x0 ++ (x ++ (List.range' j d).map (fun i : Nat => (shr .i64 f (8 * (i : Int))) % 256))) := by
  intro d
  induction d with
  | zero =>
    intro j x e hl
    refine Evn.succ (fun _ => rfl) ?_
    simp only [colonnaderef07_Fixed.l0]
    refine Evn.neg (by omega) (Evn.bindc (a := x0 ++ x) ?_ (by simpa using Evn.now _))
    unfold colonnaderef07_joined.f
    rw [if_pos (by simp; omega)]
    simp only [Option.bind_some, List.nil_append]
    rw [if_pos (by omega)]
  | succ d ih =>
    intro j x e hl
    refine Evn.succ (fun _ => rfl) ?_
    simp only [colonnaderef07_Fixed.l0]
    refine Evn.pos (by omega) (Evn.pos (u64_range _).1 (Evn.pos (by omega) ?_))
    rw [sr (by omega), w1 (by omega), List.range'_succ, List.map_cons]
    simpa using ih (j + 1) (x ++ [(shr .i64 f (8 * (j : Int))) % 256]) (by omega) (by simp; omega)
theorem ref_bytes {v : S28} (hv : Cnt v) : Evn (fun k => colonnaderef13_Bytes.f k v.f0 v.f1 v.f2 v.f3) (bts v) := by
  unfold colonnaderef13_Bytes.f
  simp only [Option.bind_some]
  by_cases h1 : v.f0 = 1
  · simp only [bts, if_pos h1]
    refine Evn.bind ?_ (Evn.now _)
    have := fixed_l0 [v.f0 % 256] (by simp) v.f1 8 0 [] rfl rfl
    simpa [colonnaderef07_Fixed.f] using this
  · simp only [bts, if_neg h1]
    have hb := bytesOf_len v.f3
    have h2 := cnt_size hv
    exact Evn.pos (by simp; omega) (Evn.now _)
/-! ### sizes -/
/-- A size of a filter. -/
def Sz (n : Int) : Prop := ∃ i, 3 ≤ i ∧ i ≤ 16 ∧ n = ((2 ^ i : Nat) : Int)
theorem sz_fits : ∀ i : Nat, i < 17 → 3 ≤ i → (8 ≤ 2 ^ i ∧ 2 ^ i ≤ 65536 ∧ Go.bits .and .i64 ((2 ^ i : Nat) : Int) (wrap64 (((2 ^ i : Nat) : Int) - 1)) = 0) ∧ Go.bits .and .i64 (8 * ((2 ^ i : Nat) : Int)) (wrap64 ((8 * ((2 ^ i : Nat) : Int)) - 1)) = 0 := by decide +kernel
theorem sz_fit {n : Nat} (h : Sz n) : Fit n ∧ Fit8 n := by
  obtain ⟨i, h0, h1, h2⟩ := h
  have e : n = 2 ^ i := by omega
  subst e
  exact sz_fits i (by omega) h0
theorem pow_of_and {n : Nat} (h0 : 0 < n) (h : n &&& (n - 1) = 0) : n = 2 ^ n.log2 := by
  have a := Nat.log2_self_le (Nat.pos_iff_ne_zero.1 h0)
  have b := Nat.lt_log2_self (n := n)
  rcases Nat.lt_or_ge (2 ^ n.log2) n with hlt | hge
  · have t1 := Nat.testBit_of_two_pow_le_and_two_pow_add_one_gt a b
    have t2 := Nat.testBit_of_two_pow_le_and_two_pow_add_one_gt (n := n - 1) (i := n.log2) (by omega) (by omega)
    have := Nat.testBit_and n (n - 1) n.log2
    rw [t1, t2, h] at this
    simp at this
  · omega
theorem and_i64 (a b : Nat) (ha : a < 9223372036854775808) (hb : b < 9223372036854775808) : Go.bits .and .i64 (a : Int) (b : Int) = ((a &&& b : Nat) : Int) := by
  have hk : ∀ n : Int, 0 ≤ n → n < 2 ^ 63 → IntKind.i64.wrap n = n := by intro n h0 h1; simp only [IntKind.wrap, IntKind.bits, IntKind.signed]; simp; omega
  have := bits_nat .i64 63 (by decide) hk a b (by omega) (by omega)
  exact this.1
open Classical in
theorem fit_any (n : Int) : bloom_fit.f n = some (decide (Sz n)) := by
  unfold bloom_fit.f
  by_cases h8 : n ≥ 8
  · rw [if_pos h8]
    by_cases h9 : n ≤ 65536
    · rw [if_pos h9]
      obtain ⟨m, rfl⟩ := Int.eq_ofNat_of_zero_le (show 0 ≤ n by omega)
      rw [wrap64_in (by omega) (by omega), show (m : Int) - 1 = ((m - 1 : Nat) : Int) by omega, and_i64 m (m - 1) (by omega) (by omega)]
      congr 1
      rw [Bool.eq_iff_iff, beq_iff_eq, decide_eq_true_iff]
      constructor
      · intro h
        have e := pow_of_and (n := m) (by omega) (by omega)
        refine ⟨m.log2, ?_, ?_, by omega⟩
        · have := (Nat.le_log2 (n := m) (k := 3) (by omega)).2 (by omega)
          exact this
        · have := (Nat.log2_lt (n := m) (k := 17) (by omega)).2 (by omega)
          omega
      · rintro ⟨i, h0, h1, h2⟩
        have e : m = 2 ^ i := by omega
        have := (sz_fits i (by omega) h0).1.2.2
        rw [← e, wrap64_in (by omega) (by omega), show (m : Int) - 1 = ((m - 1 : Nat) : Int) by omega, and_i64 m (m - 1) (by omega) (by omega)] at this
        exact this
    · rw [if_neg h9, decide_eq_false]
      rintro ⟨i, h0, h1, h2⟩
      have := (sz_fits i (by omega) h0).1
      omega
  · rw [if_neg h8, decide_eq_false]
    rintro ⟨i, h0, h1, h2⟩
    have := (sz_fits i (by omega) h0).1
    omega
theorem dbl : ∀ i : Nat, i < 17 → wrap64 (2 * ((2 ^ i : Nat) : Int)) = ((2 ^ (i + 1) : Nat) : Int) ∧ 2 ^ i ≤ 65536 := by decide +kernel
open Classical in
theorem size_l0 (n : Int) : ∀ (d j : Nat), j + d = 17 → 3 ≤ j → Evn (fun k => colonnaderef13_Size.l0 k n ((2 ^ j : Nat) : Int)) (decide (∃ i, j ≤ i ∧ i ≤ 16 ∧ n = ((2 ^ i : Nat) : Int))) := by
  intro d
  induction d with
  | zero =>
    intro j e hj
    obtain rfl : j = 17 := by omega
    refine Evn.succ (fun _ => rfl) ?_
    simp only [colonnaderef13_Size.l0]
    rw [decide_eq_false (by rintro ⟨i, h0, h1, h2⟩; omega)]
    exact Evn.neg (by decide) (Evn.now _)
  | succ d ih =>
    intro j e hj
    refine Evn.succ (fun _ => rfl) ?_
    simp only [colonnaderef13_Size.l0]
    have hd := dbl j (by omega)
    refine Evn.pos (by have := hd.2; omega) ?_
    by_cases h : n = ((2 ^ j : Nat) : Int)
    · rw [decide_eq_true ⟨j, Nat.le_refl _, by omega, h⟩]
      exact Evn.pos h (Evn.now _)
    · refine Evn.neg h ?_
      rw [hd.1]
      have := ih (j + 1) (by omega) (by omega)
      have e2 : (∃ i, j ≤ i ∧ i ≤ 16 ∧ n = ((2 ^ i : Nat) : Int)) ↔ (∃ i, j + 1 ≤ i ∧ i ≤ 16 ∧ n = ((2 ^ i : Nat) : Int)) := by
        constructor
        · rintro ⟨i, h0, h1, h2⟩
          rcases Nat.lt_or_ge j i with h3 | h3
          · exact ⟨i, h3, h1, h2⟩
          · obtain rfl : i = j := by omega
            exact absurd h2 h
        · rintro ⟨i, h0, h1, h2⟩
          exact ⟨i, by omega, h1, h2⟩
      simp only [e2]
      exact this
open Classical in
theorem size_any (n : Int) : Evn (fun k => colonnaderef13_Size.f k n) (decide (Sz n)) := size_l0 n 14 3 rfl (Nat.le_refl _)
/-! ### the document's places -/
theorem shl_pow : ∀ i : Nat, i < 31 → shl .i64 1 (IntKind.u64.wrap (i : Int)) = ((2 ^ i : Nat) : Int) := by decide +kernel
theorem rplaces_true (x0 x1 : Int) (R : List Int × Int) (hR : Evn (fun k => colonnaderef06_Places.j1 k x0 x1 4 false) R) : ∀ (d j : Nat), j + d = 31 → Evn (fun k => colonnaderef06_Places.l0 k x0 x1 4 true (j : Int)) R := by
  intro d
  induction d with
  | zero =>
    intro j e
    refine Evn.succ (fun _ => rfl) ?_
    simp only [colonnaderef06_Places.l0]
    refine Evn.neg (by omega) (Evn.pos trivial (Evn.neg (by omega) ?_))
    exact hR
  | succ d ih =>
    intro j e
    refine Evn.succ (fun _ => rfl) ?_
    simp only [colonnaderef06_Places.l0]
    refine Evn.pos (by omega) (Evn.pos trivial ?_)
    rw [w1 (by omega)]
    exact ih (j + 1) (by omega)
theorem rplaces_false (x0 : Int) (m : Nat) (hm : m ≤ 30) (R : List Int × Int) (hR : Evn (fun k => colonnaderef06_Places.j1 k x0 ((2 ^ m : Nat) : Int) 4 false) R) : ∀ (d j : Nat), j + d = m → Evn (fun k => colonnaderef06_Places.l0 k x0 ((2 ^ m : Nat) : Int) 4 false (j : Int)) R := by
  intro d
  induction d with
  | zero =>
    intro j e
    obtain rfl : j = m := by omega
    refine Evn.succ (fun _ => rfl) ?_
    simp only [colonnaderef06_Places.l0]
    refine Evn.pos (by omega) (Evn.neg (by decide) (Evn.pos (u64_range _).1 ?_))
    rw [shl_pow j (by omega), w1 (by omega), beq_self_eq_true]
    exact rplaces_true x0 _ R hR (30 - j) (j + 1) (by omega)
  | succ d ih =>
    intro j e
    refine Evn.succ (fun _ => rfl) ?_
    simp only [colonnaderef06_Places.l0]
    refine Evn.pos (by omega) (Evn.neg (by decide) (Evn.pos (u64_range _).1 ?_))
    have hne : (((2 ^ m : Nat) : Int) == ((2 ^ j : Nat) : Int)) = false := by
      rw [beq_eq_false_iff_ne]
      intro h
      have h1 : 2 ^ m = 2 ^ j := by omega
      have h2 : j < m := by omega
      have := Nat.pow_lt_pow_right (a := 2) (by omega) h2
      omega
    rw [shl_pow j (by omega), w1 (by omega), hne]
    exact ih (j + 1) (by omega)
theorem or_one (a : Nat) : a ||| 1 = a / 2 * 2 + 1 := by
  have h1 : (a ||| 1) / 2 = a / 2 := by
    have := Nat.or_div_two_pow (a := a) (b := 1) (n := 1)
    simpa using this
  have h2 : (a ||| 1) % 2 = 1 := by
    simp
  omega
theorem or64 (a b : Nat) (ha : a < 18446744073709551616) (hb : b < 18446744073709551616) : Go.bits .or .u64 (a : Int) (b : Int) = ((a ||| b : Nat) : Int) := by
  have hk : ∀ n : Int, 0 ≤ n → n < 2 ^ 64 → IntKind.u64.wrap n = n := by intro n h0 h1; exact u64_in h0 (by omega)
  have := bits_nat .u64 64 (Nat.le_refl _) hk a b (by omega) (by omega)
  exact this.2
theorem and_mod {x : Int} (hx : 0 ≤ x) (hx1 : x < 18446744073709551616) (m : Nat) (hm : m ≤ 30) : wrap64 (Go.bits .and .u64 x (((2 ^ m : Nat) : Int) - 1)) = wrap64 (Int.tmod x (IntKind.u64.wrap ((2 ^ m : Nat) : Int))) := by
  obtain ⟨a, rfl⟩ := Int.eq_ofNat_of_zero_le hx
  have hp : 2 ^ m ≤ 2 ^ 30 := Nat.pow_le_pow_right (by omega) hm
  have hp0 : 0 < 2 ^ m := Nat.two_pow_pos m
  rw [show ((2 ^ m : Nat) : Int) - 1 = ((2 ^ m - 1 : Nat) : Int) by omega, bits_and_u64_nat a _ (by omega) (by omega), Nat.and_two_pow_sub_one_eq_mod, u64_in (by omega) (by omega), Int.tmod_eq_emod_of_nonneg (by omega)]
  congr 1
theorem and32 {x : Int} (hx : 0 ≤ x) (hx1 : x < 18446744073709551616) : Go.bits .and .u64 x 4294967295 = Int.tmod x 4294967296 := by
  obtain ⟨a, rfl⟩ := Int.eq_ofNat_of_zero_le hx
  have := bits_and_u64_nat a 4294967295 (by omega) (by omega)
  rw [Int.tmod_eq_emod_of_nonneg (by omega)]
  have e := Nat.and_two_pow_sub_one_eq_mod a 32
  simp only [Nat.reducePow, Nat.reduceSub] at e
  rw [e] at this
  rw [show (4294967295 : Int) = ((4294967295 : Nat) : Int) from rfl, this]
  rfl
theorem rplaces {x : Int} (hx : 0 ≤ x) (hx1 : x < 18446744073709551616) (m : Nat) (hm : m ≤ 30) : Evn (fun k => colonnaderef06_Places.f k x ((2 ^ m : Nat) : Int) 4) (pl4 x (((2 ^ m : Nat) : Int) - 1), 0) := by
  unfold colonnaderef06_Places.f
  refine rplaces_false x m hm _ ?_ m 0 (by omega)
  have hp : 2 ^ m ≤ 2 ^ 30 := Nat.pow_le_pow_right (by omega) hm
  have hp0 : 0 < 2 ^ m := Nat.two_pow_pos m
  have hg : Evn (fun k => colonnaderef06_Places.j2 k ((2 ^ m : Nat) : Int) 4 (Int.tmod x 4294967296) (Go.bits .or .u64 (x / 4294967296) 1)) (pl4 x (((2 ^ m : Nat) : Int) - 1), 0) := by
    refine ⟨7, fun k hk => ?_⟩
    obtain ⟨k, rfl⟩ : ∃ n, k = n + 7 := ⟨k - 7, by omega⟩
    have hz : IntKind.u64.wrap ((2 ^ m : Nat) : Int) ≠ 0 := by rw [u64_in (by omega) (by omega)]; omega
    have r0 := bits_lo_u64 .and x 4294967295
    have r1 := bits_hi_u64 .and x 4294967295
    simp only [colonnaderef06_Places.j2, colonnaderef06_Places.l1, pl4]
    rw [and_mod r0 (by omega) m hm, and_mod (u64_range _).1 (u64_range _).2 m hm, and_mod (u64_range _).1 (u64_range _).2 m hm, and_mod (u64_range _).1 (u64_range _).2 m hm, and32 hx hx1]
    generalize Go.bits .or .u64 (x / 4294967296) 1 = g
    have b0 : 0 ≤ Int.tmod x 4294967296 ∧ Int.tmod x 4294967296 < 18446744073709551616 := by rw [Int.tmod_eq_emod_of_nonneg hx]; omega
    generalize Int.tmod x 4294967296 = a at b0
    have e0 : IntKind.u64.wrap (a + IntKind.u64.wrap (IntKind.u64.wrap 0 * g)) = a := by simp only [IntKind.wrap_u64]; simp; omega
    have e1 : IntKind.u64.wrap (a + IntKind.u64.wrap (IntKind.u64.wrap 1 * g)) = IntKind.u64.wrap (a + g) := by simp only [IntKind.wrap_u64]; simp
    have e2 : IntKind.u64.wrap (a + IntKind.u64.wrap (IntKind.u64.wrap 2 * g)) = IntKind.u64.wrap (IntKind.u64.wrap (a + g) + g) := by simp only [IntKind.wrap_u64]; simp; omega
    have e3 : IntKind.u64.wrap (a + IntKind.u64.wrap (IntKind.u64.wrap 3 * g)) = IntKind.u64.wrap (IntKind.u64.wrap (IntKind.u64.wrap (a + g) + g) + g) := by simp only [IntKind.wrap_u64]; simp; omega
    rw [if_pos (by decide), if_neg hz]
    simp [-Int.natCast_pow, hz, show wrap64 1 = 1 by decide +kernel, show wrap64 2 = 2 by decide +kernel, show wrap64 3 = 3 by decide +kernel, show wrap64 4 = 4 by decide +kernel, e0, e1, e2, e3]
  refine Evn.succ (fun _ => rfl) ?_
  simp only [colonnaderef06_Places.j1]
  refine Evn.neg (by decide) ?_
  obtain ⟨a, rfl⟩ := Int.eq_ofNat_of_zero_le hx
  have ed : Int.tdiv (a : Int) 4294967296 = ((a / 4294967296 : Nat) : Int) := by rw [Int.tdiv_eq_ediv_of_nonneg (by omega)]; rfl
  have eg : Go.bits .or .u64 ((a : Int) / 4294967296) 1 = ((a / 4294967296 / 2 * 2 + 1 : Nat) : Int) := by
    have := or64 (a / 4294967296) 1 (by omega) (by omega)
    rw [or_one] at this
    exact this
  rw [ed, u64_in (n := ((a / 4294967296 : Nat) : Int)) (by omega) (by omega), Int.tmod_eq_emod_of_nonneg (a := ((a / 4294967296 : Nat) : Int)) (by omega)]
  rw [eg] at hg
  by_cases h2 : ((a / 4294967296 : Nat) : Int) % 2 = 0
  · refine Evn.pos h2 ?_
    rw [u64_in (by omega) (by omega), show ((a / 4294967296 : Nat) : Int) + 1 = ((a / 4294967296 / 2 * 2 + 1 : Nat) : Int) by omega]
    exact hg
  · refine Evn.neg h2 ?_
    rw [show ((a / 4294967296 : Nat) : Int) = ((a / 4294967296 / 2 * 2 + 1 : Nat) : Int) by omega]
    exact hg
theorem ref_places {n : Nat} (h : Sz n) {v : S28} (hv : Cnt v) : Evn (fun k => colonnaderef13_Places.f k v.f0 v.f1 v.f2 v.f3 (n : Int)) (pls v n) := by
  unfold colonnaderef13_Places.f
  refine Evn.bind (ref_bytes hv) ?_
  have hl : (bts v).length < 9223372036854775807 := by
    have hb := bytesOf_len v.f3
    have h2 := cnt_size hv
    unfold bts
    split <;> simp <;> omega
  refine Evn.bind (ref_hash _ hl) ?_
  obtain ⟨i, h0, h1, h2⟩ := h
  have hr := hsh_range (bts v)
  have := rplaces hr.1 hr.2 (i + 3) (by omega)
  have e : wrap64 (8 * (n : Int)) = ((2 ^ (i + 3) : Nat) : Int) := by
    have h3 : (2 : Nat) ^ (i + 3) = 2 ^ i * 8 := Nat.pow_add 2 i 3
    have h4 : 2 ^ i ≤ 2 ^ 16 := Nat.pow_le_pow_right (by omega) h1
    rw [wrap64_in (by omega) (by omega)]
    omega
  have e2 : 8 * (n : Int) - 1 = ((2 ^ (i + 3) : Nat) : Int) - 1 := by
    have h3 : (2 : Nat) ^ (i + 3) = 2 ^ i * 8 := Nat.pow_add 2 i 3
    omega
  rw [e]
  refine Evn.bind (a := (pls v n, 0)) ?_ (Evn.now _)
  unfold pls
  rw [e2]
  exact this
/-! ### Has, All -/
open Classical in
/-- What Has answers of any bytes and value. -/
noncomputable def hres (b : List Int) (v : S28) : Bool := if Sz b.length then (if Cnt v then hs b v else false) else true
theorem has_any (b : List Int) {v : S28} (hv : Wd v) : Evn (fun k => bloom_Has.f k b v.f0 v.f1 v.f2 v.f3) (hres b v) := by
  by_cases h : Sz b.length
  · obtain ⟨hf, h8⟩ := sz_fit h
    unfold hres
    rw [if_pos h]
    by_cases hc : Cnt v
    · rw [if_pos hc]
      exact has hf h8 ⟨hc, cnt_size hc⟩
    · rw [if_neg hc]
      unfold bloom_Has.f
      simp only [fit_f hf, Option.bind_some]
      exact Evn.pos (by trivial) (Evn.bind (counts_no hc) (Evn.neg (by decide) (Evn.now _)))
  · unfold hres bloom_Has.f
    rw [if_neg h]
    simp only [fit_any, Option.bind_some]
    exact Evn.neg (by simp [h]) (Evn.now _)
theorem ref_has_l0 {n : Nat} (hn : n ≤ 65536) (b : List Int) (hb : b.length = n) (ps : List Int) (hp : ∀ p ∈ ps, 0 ≤ p ∧ p < 8 * n) (hl : ps.length = 4) : ∀ (d j : Nat), j + d = ps.length →
    Evn (fun k => colonnaderef13_Has.l0 k b ps (j : Int)) ((ps.drop j).all (bit b)) := by
  intro d
  induction d with
  | zero =>
    intro j e
    refine Evn.succ (fun _ => rfl) ?_
    simp only [colonnaderef13_Has.l0]
    refine Evn.neg (by omega) ?_
    rw [List.drop_of_length_le (by omega)]
    exact Evn.now _
  | succ d ih =>
    intro j e
    refine Evn.succ (fun _ => rfl) ?_
    simp only [colonnaderef13_Has.l0]
    have hj : j < ps.length := by omega
    have hq := hp ps[j] (List.getElem_mem hj)
    have hd := div8 hq.1 hq.2 hn
    have ew : IntKind.u64.wrap (Int.tmod ps[j] 8) = Int.tmod ps[j] 8 := u64_in (by omega) (by omega)
    rw [rd_nat, getD_lt hj, w1 (by omega), ew]
    refine Evn.pos (by omega) (Evn.pos (by omega) (Evn.pos (by omega) (Evn.pos (by omega) (Evn.pos (by omega) ?_))))
    rw [List.drop_eq_getElem_cons hj, List.all_cons]
    by_cases hz : (Go.bits .and .u8 (shr .u8 (rd b (wrap64 (Int.tdiv ps[j] 8))) (Int.tmod ps[j] 8)) 1) = 0
    · refine Evn.pos hz ?_
      rw [show bit b ps[j] = false by unfold bit; rw [decide_eq_true hz]; rfl]
      exact Evn.now _
    · refine Evn.neg hz ?_
      rw [show bit b ps[j] = true by unfold bit; rw [decide_eq_false hz]; rfl, Bool.true_and]
      exact ih (j + 1) (by omega)
theorem ref_has (b : List Int) {v : S28} (hv : Wd v) : Evn (fun k => colonnaderef13_Has.f k b v.f0 v.f1 v.f2 v.f3) (hres b v) := by
  unfold hres colonnaderef13_Has.f
  refine Evn.bind (size_any _) ?_
  by_cases h : Sz b.length
  · have hf := (sz_fit h).1
    rw [if_pos h]
    refine Evn.pos (@decide_eq_true _ (_) h) (Evn.bind (ref_for_f hv) ?_)
    by_cases hc : Cnt v
    · rw [if_pos hc]
      refine Evn.pos (@decide_eq_true _ (_) hc) (Evn.bind (ref_places h hc) ?_)
      exact ref_has_l0 hf.2.1 b rfl _ (pls_range hf _) (pls_len _ _) 4 0 rfl
    · rw [if_neg hc]
      exact Evn.neg (by simp [hc]) (Evn.now _)
  · rw [if_neg h]
    exact Evn.neg (by simp [h]) (Evn.now _)
end Go.Proofs.Ythiidgmemoineaa.B
