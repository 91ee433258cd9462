/- The texts of ZoneSounds, merged: part 27. -/
import Derived.Test.YthiidgmemoineaaQZoneSounds26
import Derived.Test.YthiidgmemoineaaQZoneSounds9
/- What a record that may be is; May: the program's answer. Plain: no program in sight. -/
namespace Go.Proofs.Ythiidgmemoineaa.V
open Go.RowKit Go.Proofs.Ythiidgmemoineaa.Pa Go.Proofs.Ythiidgmemoineaa.L Go.Proofs.Ythiidgmemoineaa.F Go.Proofs.YthiidgmemoineaaW.PrintWords Go.Proofs.YthiidgmemoineaaW.PrintLast Go.Proofs.YthiidgmemoineaaW.PrintMore
set_option linter.unusedVariables false
set_option linter.unusedSimpArgs false
section
variable {c0 : ByteArray} {ct : Int} {cn : Bool} {n k i : Int} {r : Nat} {s : ByteArray} {k' i' : Int} {r' : Nat} {s' : ByteArray} {l : List Int}
theorem sizeS_le {m : Nat} (h : sizeS m = true) : m ≤ 65536 := by
  unfold sizeS at h
  simp [sizes] at h
  omega
/-- What a record that may be is. -/
theorem for_open (h : forS ct cn n k i r s k' i' r' s' l.length = true) : (ct = 1 ∨ ct = 2) ∧ 0 ≤ n ∧ n ≤ 16777216 ∧ (cn = true ∨ n = 0) ∧ l.length ≤ 65536 ∧ sizeS l.length = true ∧ endsS ct k i r s k' i' r' s' = true := by
  unfold forS at h
  simp only [Bool.and_eq_true, decide_eq_true_eq] at h
  refine ⟨h.1, h.2.1.1, h.2.1.2.1, h.2.1.2.2, sizeS_le h.2.2.2, h.2.2.2, h.2.2.1⟩
theorem may_size {k i : Int} {r : Nat} {s : ByteArray} (h : mayS k i r s = true) : s.size ≤ 65535 := by
  unfold mayS at h
  simp only [decide_eq_true_eq] at h
  have z := @size_nil s
  rcases h with h | h | h | h
  · have := z h.2.2.1; omega
  · have := z h.2.1; omega
  · omega
  · have := z h.2.2.1; omega
theorem ends_open (h : endsS ct k i r s k' i' r' s' = true) : s.size ≤ 65535 ∧ s'.size ≤ 65535 ∧ (noneS k i r s k' i' r' s' = emptyS k i r s ∨ ¬ (ct = 1 ∨ ct = 2)) := by
  unfold endsS at h
  rw [Bool.or_eq_true] at h
  rcases h with h | h
  · rw [Bool.and_eq_true] at h
    refine ⟨may_size (empty_may h.1).2, may_size (empty_may h.2).2, Or.inl ?_⟩
    rw [h.1]
    obtain ⟨a, b⟩ := h
    unfold emptyS at a b
    unfold noneS rg
    simp at a b ⊢
    obtain ⟨a1, a2, a3, a4⟩ := a
    obtain ⟨b1, b2, b3, b4⟩ := b
    exact ⟨⟨a1, a2, by omega, a4⟩, b1, b2, by omega, b4⟩
  · simp only [Bool.and_eq_true] at h
    have q : ∀ {k i : Int} {r : Nat} {s : ByteArray}, endS ct k i r s = true → k = ct ∧ s.size ≤ 65535 := fun h => by
      unfold endS at h
      simp only [Bool.and_eq_true, decide_eq_true_eq] at h
      exact ⟨h.1, may_size h.2⟩
    refine ⟨(q h.1).2, (q h.2.1).2, ?_⟩
    by_cases ht : ct = 1 ∨ ct = 2
    · left
      have := (q h.1).1
      have e1 : emptyS k i r s = false := by unfold emptyS; simp; omega
      have e2 : noneS k i r s k' i' r' s' = false := by unfold noneS; simp; omega
      rw [e1, e2]
    · exact Or.inr ht
theorem none_empty (h : forS ct cn n k i r s k' i' r' s' l.length = true) : noneS k i r s k' i' r' s' = emptyS k i r s := by
  have o := for_open h
  rcases (ends_open o.2.2.2.2.2.2).2.2 with h | h
  · exact h
  · exact absurd o.1 h
/-- May, the program's and the document's. -/
theorem may_z (rows : Int) (hl : l.length < 9223372036854775808) (hr : r < 18446744073709551616) (hr' : r' < 18446744073709551616) : Evn (fun q => zone_May.f q c0 ct cn rows n k i r s k' i' r' s' l) (mayzS ct cn n k i r s k' i' r' s' rows l.length) := by
  unfold zone_May.f mayzS
  rw [rows_f, none_f]
  simp only [Option.bind_some]
  by_cases h : decide (0 ≤ rows ∧ rows ≤ 16777216) = true
  · have h2 := of_decide_eq_true h
    refine Evn.pos h (Evn.bind (zmay_e c0 ct cn n k i r s k' i' r' s' l hl hr hr') ?_)
    by_cases hf : forS ct cn n k i r s k' i' r' s' l.length = true
    · rw [hf, Bool.true_and, none_empty hf]
      refine Evn.pos rfl ?_
      by_cases hn : n ≤ rows
      · rw [decide_eq_true (by exact ⟨h2.1, h2.2, hn⟩), Bool.true_and]
        refine Evn.pos hn ?_
        have e : (n == rows) = decide (n = rows) := by by_cases q : n = rows <;> simp [q]
        rw [e]
        exact Evn.now _
      · rw [decide_eq_false (fun q => hn q.2.2), Bool.false_and]
        exact Evn.neg hn (Evn.now _)
    · rw [Bool.not_eq_true] at hf
      rw [hf, Bool.false_and]
      exact Evn.neg (by decide) (Evn.now _)
  · have h2 : ¬ (0 ≤ rows ∧ rows ≤ 16777216) := fun q => h (decide_eq_true q)
    have e : decide (0 ≤ rows ∧ rows ≤ 16777216 ∧ n ≤ rows) = false := decide_eq_false (fun q => h2 ⟨q.1, q.2.1⟩)
    rw [e, Bool.false_and, Bool.and_false]
    exact Evn.neg h (Evn.now _)
end
end Go.Proofs.Ythiidgmemoineaa.V
