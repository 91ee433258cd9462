/- The texts of ZoneOfs, merged: part 23. -/
import Derived.Test.YthiidgmemoineaaQZoneOfs20
import Derived.Test.YthiidgmemoineaaQZoneOfs13
import Derived.Test.YthiidgmemoineaaQZoneOfs7
import Derived.Test.YthiidgmemoineaaQZoneOfs8
import Derived.Test.YthiidgmemoineaaQZoneOfs21
/- Which values may be ends, and their order: the program's and the document's answers are one. Plain: no program in sight. -/
namespace Go.Proofs.Ythiidgmemoineaa.V
open Go.RowKit Go.Proofs.Ythiidgmemoineaa.Pa Go.Proofs.Ythiidgmemoineaa.L Go.Proofs.Ythiidgmemoineaa.F Go.Proofs.YthiidgmemoineaaW.PrintWords Go.Proofs.YthiidgmemoineaaW.PrintLast Go.Proofs.YthiidgmemoineaaW.PrintMore
set_option linter.unusedVariables false
set_option linter.unusedSimpArgs false
abbrev SV := S28
theorem plus_f {r : Nat} (h : r < 18446744073709551616) : colonnaderef05_plus.f r = some (decide (r = 0)) := by
  unfold colonnaderef05_plus.f math_Signbit.f
  rw [feq_zero]
  have e : decide (wrap64 (r : Int) < 0) = decide (9223372036854775808 ≤ r) := by
    apply decide_eq_decide.2
    unfold wrap64
    omega
  rw [e]
  unfold rg
  by_cases h0 : r = 0
  · subst h0; rfl
  · by_cases h1 : r % 9223372036854775808 = 0
    · simp [h1, h0]; omega
    · simp [h1, h0]
theorem str_nil (s : ByteArray) : (s.toList == ([] : List UInt8)) = decide (s.toList = []) := by
  cases h : s.toList <;> rfl
/-- The document's May: of what is no Real as the program's; of a Real it says something. -/
theorem rmay_f (k i : Int) {r : Nat} (s : ByteArray) (h : r < 18446744073709551616) : ∃ b, Evn (fun n => colonnaderef05_May.f n k i r s) b ∧ (k ≠ 3 → b = mayS k i r s) := by
  unfold colonnaderef05_May.f
  rw [plus_f h]
  simp only [Option.bind_some, str_nil]
  by_cases k0 : k = 0
  · subst k0
    by_cases i0 : i = 0
    · by_cases r0 : r = 0
      · exact ⟨_, Evn.pos rfl (Evn.pos i0 (Evn.pos (decide_eq_true r0) (Evn.now _))), fun _ => by unfold mayS; simp [i0, r0]⟩
      · exact ⟨_, Evn.pos rfl (Evn.pos i0 (Evn.neg (by simpa using r0) (Evn.now _))), fun _ => by unfold mayS; simp [i0, r0]⟩
    · exact ⟨_, Evn.pos rfl (Evn.neg i0 (Evn.now _)), fun _ => by unfold mayS; simp [i0]⟩
  by_cases k1 : k = 1
  · subst k1
    by_cases r0 : r = 0
    · exact ⟨_, Evn.neg k0 (Evn.pos rfl (Evn.pos (decide_eq_true r0) (Evn.now _))), fun _ => by unfold mayS; simp [r0]⟩
    · exact ⟨_, Evn.neg k0 (Evn.pos rfl (Evn.neg (by simpa using r0) (Evn.now _))), fun _ => by unfold mayS; simp [r0]⟩
  by_cases k2 : k = 2
  · subst k2
    by_cases i0 : i = 0
    · by_cases r0 : r = 0
      · exact ⟨_, Evn.neg k0 (Evn.neg k1 (Evn.pos rfl (Evn.pos i0 (Evn.pos (decide_eq_true r0) (Evn.now _))))), fun _ => by unfold mayS; simp [i0, r0]; omega⟩
      · exact ⟨_, Evn.neg k0 (Evn.neg k1 (Evn.pos rfl (Evn.pos i0 (Evn.neg (by simpa using r0) (Evn.now _))))), fun _ => by unfold mayS; simp [i0, r0]⟩
    · exact ⟨_, Evn.neg k0 (Evn.neg k1 (Evn.pos rfl (Evn.neg i0 (Evn.now _)))), fun _ => by unfold mayS; simp [i0]⟩
  by_cases k3 : k = 3
  · subst k3
    have j : ∀ x, ∃ b, Evn (fun n => colonnaderef05_May.j0 n x 3 i r s) b := by
      intro x
      cases x with
      | true => exact ⟨_, Evn.succ (fun n => by rw [colonnaderef05_May.j0]) (Evn.pos rfl (Evn.now _))⟩
      | false =>
        by_cases i0 : i = 0
        · by_cases s0 : s.toList = []
          · cases hn : feq r r with
            | true => exact ⟨_, Evn.succ (fun n => by rw [colonnaderef05_May.j0]) (Evn.neg (by decide) (Evn.pos i0 (Evn.pos s0 (by unfold math_IsNaN.f math_IsInf.f math_Abs.f; rw [hn]; simp only [Option.bind_some, Bool.not_true]; exact Evn.neg (by decide) (Evn.now _)))))⟩
            | false => exact ⟨_, Evn.succ (fun n => by rw [colonnaderef05_May.j0]) (Evn.neg (by decide) (Evn.pos i0 (Evn.pos s0 (by unfold math_IsNaN.f; rw [hn]; simp only [Option.bind_some, Bool.not_false]; exact Evn.pos (by simp) (Evn.now _)))))⟩
          · exact ⟨_, Evn.succ (fun n => by rw [colonnaderef05_May.j0]) (Evn.neg (by decide) (Evn.pos i0 (Evn.neg s0 (Evn.now _))))⟩
        · exact ⟨_, Evn.succ (fun n => by rw [colonnaderef05_May.j0]) (Evn.neg (by decide) (Evn.neg i0 (Evn.now _)))⟩
    by_cases hz : feq r 0 = true
    · obtain ⟨b, hb⟩ := j (decide (wrap64 (r : Int) < 0))
      exact ⟨b, Evn.neg k0 (Evn.neg k1 (Evn.neg k2 (Evn.pos rfl (Evn.pos hz (by unfold math_Signbit.f; simp only [Option.bind_some]; exact hb))))), fun h => absurd rfl h⟩
    · obtain ⟨b, hb⟩ := j false
      exact ⟨b, Evn.neg k0 (Evn.neg k1 (Evn.neg k2 (Evn.pos rfl (Evn.neg hz hb)))), fun h => absurd rfl h⟩
  · exact ⟨false, Evn.neg k0 (Evn.neg k1 (Evn.neg k2 (Evn.neg k3 (Evn.now _)))), fun _ => by unfold mayS; simp [k0, k1, k2, k3]⟩
/-- Is a value of a column (of Ints or Texts)? -/
def fitS (ct : Int) (cn : Bool) (k i : Int) (r : Nat) (s : ByteArray) : Bool := mayS k i r s && (decide (k = ct) || (decide (k = 0) && cn))
theorem fits_e (c0 : ByteArray) (ct : Int) (cn : Bool) (k i : Int) {r : Nat} (s : ByteArray) (h : r < 18446744073709551616) : Evn (fun n => value_Fits.f n c0 ct cn k i r s) (fitS ct cn k i r s) := by
  unfold value_Fits.f fitS
  refine Evn.bind (may_f k i s h) ?_
  by_cases hm : mayS k i r s = true
  · refine Evn.pos hm ?_
    rw [hm, Bool.true_and]
    by_cases h1 : k = ct
    · rw [decide_eq_true h1]; exact Evn.pos h1 (Evn.now _)
    · rw [decide_eq_false h1, Bool.false_or]
      refine Evn.neg h1 ?_
      by_cases h2 : k = 0
      · rw [decide_eq_true h2, Bool.true_and]; exact Evn.pos h2 (Evn.now _)
      · rw [decide_eq_false h2]; exact Evn.neg h2 (Evn.now _)
  · refine Evn.neg hm ?_
    rw [Bool.not_eq_true] at hm
    rw [hm]; exact Evn.now _
theorem rfits_e (c0 : ByteArray) (ct : Int) (cn : Bool) (k i : Int) {r : Nat} (s : ByteArray) (h : r < 18446744073709551616) (ht : ct = 1 ∨ ct = 2) : Evn (fun n => colonnaderef05_Fits.f n c0 ct cn k i r s) (fitS ct cn k i r s) := by
  obtain ⟨b, hb, e⟩ := rmay_f k i s h
  unfold colonnaderef05_Fits.f
  refine Evn.bind hb ?_
  by_cases k3 : k = 3
  · have e0 : fitS ct cn k i r s = false := by unfold fitS; simp [k3]; omega
    rw [e0]
    by_cases hm : b = true
    · exact Evn.pos hm (Evn.neg (by omega) (Evn.neg (by omega) (Evn.now _)))
    · exact Evn.neg hm (Evn.now _)
  rw [e k3]
  unfold fitS
  by_cases hm : mayS k i r s = true
  · refine Evn.pos hm ?_
    rw [hm, Bool.true_and]
    by_cases h1 : k = ct
    · rw [decide_eq_true h1]; exact Evn.pos h1 (Evn.now _)
    · rw [decide_eq_false h1, Bool.false_or]
      refine Evn.neg h1 ?_
      by_cases h2 : k = 0
      · rw [decide_eq_true h2, Bool.true_and]; exact Evn.pos h2 (Evn.now _)
      · rw [decide_eq_false h2]; exact Evn.neg h2 (Evn.now _)
  · refine Evn.neg hm ?_
    rw [Bool.not_eq_true] at hm
    rw [hm]; exact Evn.now _
def emptyS (k i : Int) (r : Nat) (s : ByteArray) : Bool := decide (k = 0 ∧ i = 0 ∧ r = 0 ∧ s.toList = [])
theorem empty_f (k i : Int) (r : Nat) (s : ByteArray) : colonnaderef14_empty.f k i r s = some (emptyS k i r s) := by
  unfold colonnaderef14_empty.f colonnaderef05_Same.f emptyS
  by_cases h0 : k = 0 <;> by_cases h1 : i = 0 <;> by_cases h2 : s.toList = [] <;> by_cases h3 : r = 0 <;> simp [h0, h1, h2, h3]
theorem ints_f (a b : Int) : colonnaderef05_ints.f a b = some (sgI a b) := by
  unfold colonnaderef05_ints.f sgI
  by_cases h : a < b <;> by_cases h2 : b < a <;> simp [h, h2]
theorem less_f (a b : Int) : colonnaderef05_less.f a b = some (sgI a b) := by
  unfold colonnaderef05_less.f sgI
  by_cases h : a < b <;> by_cases h2 : b < a <;> simp [h, h2]
theorem sz_eq (s : ByteArray) : s.size = s.data.toList.length := rfl
theorem bt_get (s : ByteArray) (i : Nat) (h : i < s.size) : bt s (i : Int) = ((s.data.toList[i]'(by rw [← sz_eq]; exact h)).toNat : Int) := by
  rw [← bt_at s (i : Int) (by simpa using h)]
  rfl
theorem texts_l (a b : ByteArray) (ha : a.size < 9223372036854775807) (hb : b.size < 9223372036854775807) : ∀ (n i : Nat), a.size - i = n → i ≤ a.size → i ≤ b.size →
    Evn (fun k => colonnaderef05_texts.l0 k a b (i : Int)) (Lib.compareBytes (a.data.toList.drop i) (b.data.toList.drop i)) := by
  intro n
  induction n with
  | zero =>
    intro i hn hi hj
    have e : i = a.size := by omega
    refine Evn.succ (fun k => by rw [colonnaderef05_texts.l0]) (Evn.neg (by omega) ?_)
    refine Evn.succ (fun k => by rw [colonnaderef05_texts.j1]) (Evn.neg (by decide) ?_)
    rw [less_f, List.drop_eq_nil_of_le (by rw [← sz_eq]; omega)]
    simp only [Option.bind_some]
    have q : sgI (a.size : Int) (b.size : Int) = Lib.compareBytes [] (b.data.toList.drop i) := by
      by_cases hh : i < b.size
      · rw [List.drop_eq_getElem_cons (by rw [← sz_eq]; exact hh)]
        unfold sgI Lib.compareBytes
        rw [if_pos (by omega)]
      · rw [List.drop_eq_nil_of_le (by rw [← sz_eq]; omega)]
        unfold sgI Lib.compareBytes
        rw [if_neg (by omega), if_neg (by omega)]
    rw [q]
    exact Evn.now _
  | succ n ih =>
    intro i hn hi hj
    have hi2 : i < a.size := by omega
    refine Evn.succ (fun k => by rw [colonnaderef05_texts.l0]) (Evn.pos (by omega) ?_)
    refine Evn.succ (fun k => by rw [colonnaderef05_texts.j1]) ?_
    rw [List.drop_eq_getElem_cons (show i < a.data.toList.length by rw [← sz_eq]; exact hi2)]
    by_cases hh : i < b.size
    · rw [List.drop_eq_getElem_cons (show i < b.data.toList.length by rw [← sz_eq]; exact hh)]
      refine Evn.pos (by simpa using hh) (Evn.pos (by omega) (Evn.pos (by omega) (Evn.pos (by omega) ?_)))
      rw [bt_get a i hi2, bt_get b i hh]
      generalize a.data.toList[i]'(by rw [← sz_eq]; exact hi2) = x
      generalize b.data.toList[i]'(by rw [← sz_eq]; exact hh) = y
      have hx := x.toNat_lt
      have hy := y.toNat_lt
      by_cases he : x = y
      · subst he
        refine Evn.pos rfl ?_
        rw [wrap64_in (by omega) (by omega)]
        have := ih (i + 1) (by omega) (by omega) (by omega)
        have e2 : Lib.compareBytes (x :: a.data.toList.drop (i + 1)) (x :: b.data.toList.drop (i + 1)) = Lib.compareBytes (a.data.toList.drop (i + 1)) (b.data.toList.drop (i + 1)) := by
          rw [Lib.compareBytes, if_neg (by simp), if_neg (by simp)]
        rw [e2]
        exact this
      · refine Evn.neg (fun q => he (UInt8.toNat_inj.1 (by omega))) ?_
        rw [less_f]
        simp only [Option.bind_some]
        have q : sgI (wrap64 (x.toNat : Int)) (wrap64 (y.toNat : Int)) = Lib.compareBytes (x :: a.data.toList.drop (i + 1)) (y :: b.data.toList.drop (i + 1)) := by
          rw [wrap64_in (by omega) (by omega), wrap64_in (by omega) (by omega), Lib.compareBytes]
          unfold sgI
          rcases Nat.lt_trichotomy x.toNat y.toNat with h | h | h
          · rw [if_pos (by omega), if_pos (UInt8.lt_iff_toNat_lt.2 h)]
          · exact absurd (UInt8.toNat_inj.1 h) he
          · rw [if_neg (by omega), if_pos (by omega), if_neg (fun q => by have := UInt8.lt_iff_toNat_lt.1 q; omega), if_pos (UInt8.lt_iff_toNat_lt.2 h)]
        rw [q]
        exact Evn.now _
    · refine Evn.neg (by simpa using hh) ?_
      rw [less_f, List.drop_eq_nil_of_le (show b.data.toList.length ≤ i by rw [← sz_eq]; omega)]
      simp only [Option.bind_some]
      have q : sgI (a.size : Int) (b.size : Int) = Lib.compareBytes ((a.data.toList[i]'(by rw [← sz_eq]; exact hi2)) :: a.data.toList.drop (i + 1)) [] := by
        unfold sgI Lib.compareBytes
        rw [if_neg (by omega), if_pos (by omega)]
      rw [q]
      exact Evn.now _
theorem cmpb_eq (a b : ByteArray) : cmpb a b = Lib.compareBytes a.data.toList b.data.toList := by unfold cmpb; rw [Lib.cmp_eq]
theorem texts_e (a b : ByteArray) (ha : a.size < 9223372036854775807) (hb : b.size < 9223372036854775807) : Evn (fun k => colonnaderef05_texts.f k a b) (cmpb a b) := by
  rw [cmpb_eq]
  exact texts_l a b ha hb a.size 0 (by omega) (by omega) (by omega)
/-- A value of a column of Ints or Texts that is no null. -/
def endS (ct k i : Int) (r : Nat) (s : ByteArray) : Bool := decide (k = ct) && mayS k i r s
theorem end_e (c0 : ByteArray) (ct : Int) (cn : Bool) (k i : Int) {r : Nat} (s : ByteArray) (h : r < 18446744073709551616) : Evn (fun n => zone_end.f n c0 ct cn k i r s) (endS ct k i r s) := by
  unfold zone_end.f endS
  by_cases hk : k = ct
  · rw [decide_eq_true hk, Bool.true_and]
    exact Evn.pos hk (Evn.bind (may_f k i s h) (Evn.now _))
  · rw [decide_eq_false hk, Bool.false_and]
    exact Evn.neg hk (Evn.now _)
theorem rcmp_e {ct k i : Int} {r : Nat} {s : ByteArray} {k' i' : Int} {r' : Nat} {s' : ByteArray} (ht : ct = 1 ∨ ct = 2) (hr : r < 18446744073709551616) (hr' : r' < 18446744073709551616) (h : endS ct k i r s = true) (h' : endS ct k' i' r' s' = true) :
    Evn (fun n => colonnaderef05_Compare.f n k i r s k' i' r' s') (cmpS k i r s k' i' r' s') := by
  unfold endS at h h'
  simp only [Bool.and_eq_true, decide_eq_true_eq] at h h'
  obtain ⟨hk, hm⟩ := h
  obtain ⟨hk', hm'⟩ := h'
  subst hk
  obtain rfl : k' = k := hk'
  obtain ⟨b, hb, eb⟩ := rmay_f k' i s hr
  obtain ⟨b', hb', eb'⟩ := rmay_f k' i' s' hr'
  have e1 := (eb (by omega)).trans hm
  have e2 := (eb' (by omega)).trans hm'
  subst e1
  subst e2
  unfold colonnaderef05_Compare.f
  refine Evn.bind hb (Evn.bind hb' (Evn.pos rfl (Evn.pos rfl ?_)))
  have c1 : clS k' i r s = clS k' i' r' s' := by unfold clS; rw [hm, hm']
  have c2 : ¬ clS k' i' r' s' < 2 := by
    unfold clS
    rw [hm', if_pos rfl]
    rcases ht with rfl | rfl <;> simp
  rcases ht with rfl | rfl
  · have e : cmpS 1 i r s 1 i' r' s' = sgI i i' := by
      unfold cmpS
      rw [if_neg (by simp [c1]), c1, if_neg c2, if_neg (by decide), if_pos ⟨rfl, rfl⟩]
    rw [e, ints_f]
    refine Evn.pos rfl (Evn.pos rfl ?_)
    simp only [Option.bind_some]
    by_cases z : sgI i i' = 0
    · rw [z]; exact Evn.pos rfl (Evn.now _)
    · exact Evn.neg z (Evn.now _)
  · have e : cmpS 2 i r s 2 i' r' s' = cmpb s s' := by
      unfold cmpS
      rw [if_neg (by simp [c1]), c1, if_neg c2, if_pos rfl]
    rw [e]
    refine Evn.neg (by decide) (Evn.pos rfl (Evn.pos rfl ?_))
    have z : ∀ (i : Int) (r : Nat) (t : ByteArray), mayS 2 i r t = true → t.size ≤ 65535 := fun i r t h => by
      unfold mayS at h
      simp at h
      omega
    exact texts_e s s' (by have := z _ _ _ hm; omega) (by have := z _ _ _ hm'; omega)
/-- May the ends be? -/
def endsS (ct k i : Int) (r : Nat) (s : ByteArray) (k' i' : Int) (r' : Nat) (s' : ByteArray) : Bool :=
  (emptyS k i r s && emptyS k' i' r' s') || (endS ct k i r s && (endS ct k' i' r' s' && decide (cmpS k i r s k' i' r' s' ≤ 0)))
theorem may_empty {k i : Int} {r : Nat} {s : ByteArray} (h0 : k = 0) : mayS k i r s = emptyS k i r s := by
  subst h0
  unfold mayS emptyS
  apply decide_eq_decide.2
  constructor
  · rintro (⟨_, h1, h2, h3⟩ | ⟨h, _⟩ | ⟨h, _⟩ | ⟨h, _⟩)
    · exact ⟨rfl, h1, h3, h2⟩
    · omega
    · omega
    · omega
  · rintro ⟨_, h1, h2, h3⟩
    exact Or.inl ⟨rfl, h1, h3, h2⟩
theorem empty_may {k i : Int} {r : Nat} {s : ByteArray} (h : emptyS k i r s = true) : k = 0 ∧ mayS k i r s = true := by
  have h0 : k = 0 := by unfold emptyS at h; simp at h; exact h.1
  exact ⟨h0, (may_empty h0).trans h⟩
theorem fit_end {ct : Int} {cn : Bool} {k i : Int} {r : Nat} {s : ByteArray} (ht : ct = 1 ∨ ct = 2) (h0 : k ≠ 0) : fitS ct cn k i r s = endS ct k i r s := by
  unfold fitS endS
  rw [show decide (k = 0) = false by simpa using h0, Bool.false_and, Bool.or_false, Bool.and_comm]
theorem end_zero {ct k i : Int} {r : Nat} {s : ByteArray} (ht : ct = 1 ∨ ct = 2) (h0 : k = 0) : endS ct k i r s = false := by
  unfold endS
  rw [show decide (k = ct) = false by simp; omega, Bool.false_and]
theorem rtyped_f (c0 : ByteArray) (ct : Int) (cn : Bool) : colonnaderef14_typed.f c0 ct cn = some (decide (ct = 1 ∨ ct = 2)) := by
  unfold colonnaderef14_typed.f
  by_cases h : ct = 1 <;> by_cases h2 : ct = 2 <;> simp [h, h2]
theorem typed_f (c0 : ByteArray) (ct : Int) (cn : Bool) : zone_typed.f c0 ct cn = some (decide (ct = 1 ∨ ct = 2)) := by
  unfold zone_typed.f
  by_cases h : ct = 1 <;> by_cases h2 : ct = 2 <;> simp [h, h2]
theorem drop_rd (l : List SV) (j : Nat) (h : j < l.length) : l.drop j = rd_T28 l (j : Int) :: l.drop (j + 1) := by
  rw [List.drop_eq_getElem_cons h]
  congr 1
  unfold rd_T28
  simp [List.getD_eq_getElem?_getD, List.getElem?_eq_getElem h]
theorem rd_memj (l : List SV) (j : Nat) (h : j < l.length) : rd_T28 l (j : Int) ∈ l := by
  have : rd_T28 l (j : Int) ∈ l.drop j := by rw [drop_rd l j h]; exact List.mem_cons_self ..
  exact List.mem_of_mem_drop this
end Go.Proofs.Ythiidgmemoineaa.V
