/- The texts of AtomBegins, merged: part 37. -/
import Derived.Test.YtkedejphebfneaaQAtomBegins36
import Derived.Test.YtkedejphebfneaaQAtomBegins28
/- Texts that begin so, plainly. No program in sight. -/
namespace Go.Proofs.Ytkedejphebfneaa.V
open Go.RowKit Go.Proofs.Ytkedejphebfneaa.Pa Go.Proofs.Ytkedejphebfneaa.L Go.Proofs.Ytkedejphebfneaa.F Go.Proofs.YtkedejphebfneaaW.PrintWords Go.Proofs.YtkedejphebfneaaW.PrintLast Go.Proofs.YtkedejphebfneaaW.PrintMore
set_option linter.unusedVariables false
set_option linter.unusedSimpArgs false
theorem begins_f (s p : ByteArray) : colonnadelaw18_begins.f s p = some (preS s p) := rprefix_f s p
theorem pre_iff (s p : ByteArray) : preS s p = true ↔ ∃ l, s.data.toList = p.data.toList ++ l := by
  unfold preS
  constructor
  · intro h
    split at h
    · rename_i hs
      have h := eq_of_beq h
      rw [ByteArray.toList_eq, ByteArray.toList_eq] at h
      refine ⟨s.data.toList.drop p.size, ?_⟩
      have e : (s.extract 0 p.size).data.toList = s.data.toList.take p.size := by simp [ByteArray.extract, ByteArray.copySlice]
      rw [← h, e, List.take_append_drop]
    · cases h
  · rintro ⟨l, h⟩
    have hs : p.size ≤ s.size := by
      have := congrArg List.length h
      simp only [List.length_append] at this
      have e1 : s.data.toList.length = s.size := Array.length_toList
      have e2 : p.data.toList.length = p.size := Array.length_toList
      omega
    rw [if_pos hs]
    have e : (s.extract 0 p.size).data.toList = s.data.toList.take p.size := by simp [ByteArray.extract, ByteArray.copySlice]
    rw [ByteArray.toList_eq, ByteArray.toList_eq, e, h]
    have e2 : p.size = p.data.toList.length := Array.length_toList.symm
    rw [e2, List.take_left]
    simp
theorem cmpB_range : ∀ x y : List UInt8, Lib.compareBytes x y = -1 ∨ Lib.compareBytes x y = 0 ∨ Lib.compareBytes x y = 1
  | [], [] => by simp [Lib.compareBytes]
  | [], _ :: _ => by simp [Lib.compareBytes]
  | _ :: _, [] => by simp [Lib.compareBytes]
  | a :: x, b :: y => by
    rw [Lib.compareBytes]
    split; simp
    split; simp
    exact cmpB_range x y
theorem cmpB_self : ∀ x : List UInt8, Lib.compareBytes x x = 0
  | [] => rfl
  | a :: x => by
    have h : ¬ a < a := fun k => by have := UInt8.lt_iff_toNat_lt.1 k; omega
    rw [Lib.compareBytes, if_neg h, if_neg h]
    exact cmpB_self x
theorem cmpB_zero : ∀ x y : List UInt8, Lib.compareBytes x y = 0 → x = y
  | [], [], _ => rfl
  | [], _ :: _, h => by simp [Lib.compareBytes] at h
  | _ :: _, [], h => by simp [Lib.compareBytes] at h
  | a :: x, b :: y, h => by
    rw [Lib.compareBytes] at h
    split at h; · simp at h
    split at h; · simp at h
    rename_i h1 h2
    have e : a = b := by
      refine UInt8.toNat_inj.1 ?_
      have h1 : ¬ a.toNat < b.toNat := fun k => h1 (UInt8.lt_iff_toNat_lt.2 k)
      have h2 : ¬ b.toNat < a.toNat := fun k => h2 (UInt8.lt_iff_toNat_lt.2 k)
      omega
    rw [e, cmpB_zero x y h]
/-- What begins with a text is not ahead of it. -/
theorem cmpB_pre : ∀ p l : List UInt8, Lib.compareBytes (p ++ l) p ≥ 0
  | [], [] => by simp [Lib.compareBytes]
  | [], _ :: _ => by simp [Lib.compareBytes]
  | a :: p, l => by
    have h : ¬ a < a := fun k => by have := UInt8.lt_iff_toNat_lt.1 k; omega
    rw [List.cons_append, Lib.compareBytes, if_neg h, if_neg h]
    exact cmpB_pre p l
/-- What is behind a text, and does not begin with it, is behind all that do. -/
theorem cmpB_behind : ∀ p o l : List UInt8, Lib.compareBytes o p > 0 → (¬ ∃ m, o = p ++ m) → Lib.compareBytes (p ++ l) o < 0
  | [], o, _, _, hn => absurd ⟨o, rfl⟩ hn
  | a :: p, [], l, h, _ => by simp [Lib.compareBytes] at h
  | a :: p, b :: o, l, h, hn => by
    rw [Lib.compareBytes] at h
    rw [List.cons_append, Lib.compareBytes]
    by_cases h1 : b < a
    · rw [if_pos h1] at h; omega
    · rw [if_neg h1] at h
      by_cases h2 : a < b
      · rw [if_pos h2]; omega
      · rw [if_neg h2] at h
        rw [if_neg h2, if_neg h1]
        refine cmpB_behind p o l h (fun ⟨m, hm⟩ => hn ⟨m, ?_⟩)
        have e : a = b := by
          refine UInt8.toNat_inj.1 ?_
          have h1 : ¬ b.toNat < a.toNat := fun k => h1 (UInt8.lt_iff_toNat_lt.2 k)
          have h2 : ¬ a.toNat < b.toNat := fun k => h2 (UInt8.lt_iff_toNat_lt.2 k)
          omega
        rw [hm, e, List.cons_append]
theorem cmpb_eq (a b : ByteArray) : cmpb a b = Lib.compareBytes a.data.toList b.data.toList := by unfold cmpb; rw [Lib.cmp_eq]
/-- The order of texts that may be. -/
theorem cmpS_text {s s' : ByteArray} (h : s.size ≤ 65535) (h' : s'.size ≤ 65535) : cmpS 2 0 0 s 2 0 0 s' = cmpb s s' := by
  have m : ∀ t : ByteArray, t.size ≤ 65535 → clS 2 0 0 t = 3 := fun t ht => by
    unfold clS mayS
    rw [if_pos (by simp [ht])]
    rfl
  unfold cmpS
  rw [m s h, m s' h']
  rfl
theorem may_text {s : ByteArray} (h : s.size ≤ 65535) : mayS 2 0 0 s = true := by unfold mayS; simp [h]
theorem may_null : mayS 0 0 0 (⟨#[]⟩ : ByteArray) = true := by decide +kernel
/-- Comparisons of texts. -/
theorem test_cmp (op : Int) {s c : ByteArray} (h : s.size ≤ 65535) (hc : c.size ≤ 65535) : testS 1 op 2 0 0 c [] 2 0 0 s = if stS (cmpb s c) op = true then 1 else 0 := by
  unfold testS
  rw [may_text h, if_neg (by simp), if_neg (by decide)]
  unfold sayS
  rw [if_pos rfl, cmpS_text h hc]
theorem test_pre {s c : ByteArray} (h : s.size ≤ 65535) : testS 5 0 2 0 0 c [] 2 0 0 s = if preS s c = true then 1 else 0 := by
  unfold testS
  rw [may_text h, if_neg (by simp), if_neg (by decide)]
  unfold sayS
  simp
theorem test_null (c : ByteArray) : testS 5 0 2 0 0 c [] 0 0 0 (⟨#[]⟩ : ByteArray) = 2 := by
  unfold testS
  rw [may_null]
  simp
end Go.Proofs.Ytkedejphebfneaa.V
