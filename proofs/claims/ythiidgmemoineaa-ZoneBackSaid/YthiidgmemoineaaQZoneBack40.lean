/- The texts of ZoneBack, merged: part 40. -/
import Derived.Test.YthiidgmemoineaaQZoneBack22
import Derived.Test.YthiidgmemoineaaQZoneBack32
import Derived.Test.YthiidgmemoineaaQZoneBack36
import Derived.Test.YthiidgmemoineaaQZoneBack39
/- A record's bytes, as the program puts them. Plain: no program in sight. -/
namespace Go.Proofs.Ythiidgmemoineaa.V
open Go.RowKit Go.Proofs.Ythiidgmemoineaa.Pa Go.Proofs.Ythiidgmemoineaa.Pure Go.Proofs.Ythiidgmemoineaa.L Go.Proofs.Ythiidgmemoineaa.F Go.Proofs.YthiidgmemoineaaW.PrintWords Go.Proofs.YthiidgmemoineaaW.PrintLast Go.Proofs.YthiidgmemoineaaW.PrintMore
set_option linter.unusedVariables false
set_option linter.unusedSimpArgs false
def oneB (k i : Int) (s : ByteArray) : List Int := if k = 1 then sf (foldV i).toNat else blkf (bytesOf s)
theorem blkf_len (p : List Int) (h : p.length < 18446744073709551616) : (blkf p).length ≤ p.length + 10 := by
 unfold blkf
 have := sf_len10 h
 simp
 omega
theorem bytesOf_len (s : ByteArray) : (bytesOf s).length = s.size := bytesOf_length s
theorem oneB_len (k i : Int) (s : ByteArray) (h0 : -9223372036854775808 ≤ i) (h1 : i ≤ 9223372036854775807) (hs : s.size ≤ 65535) : (oneB k i s).length ≤ 70000 := by
 unfold oneB
 split
 ·have := foldV_range i h0 h1
  have := sf_len10 (n := (foldV i).toNat) (by omega)
  omega
 ·have := blkf_len (bytesOf s) (by rw [bytesOf_len]; omega)
  rw [bytesOf_len] at this
  omega
theorem put_e (x : List Int) (k i : Int) (r : Nat) (s : ByteArray) (h0 : -9223372036854775808 ≤ i) (h1 : i ≤ 9223372036854775807) (hs : s.size ≤ 65535) (hx : x.length ≤ 1000000) :
  Evn (fun q => zone_put.f q x k i r s) (x ++ oneB k i s) := by
 unfold zone_put.f oneB
 by_cases h : k = 1
 ·simp only [if_pos h]
  exact putvi_e i h0 h1 x (by omega)
 ·simp only [if_neg h, if_pos (show s.size < 140737488355328 by omega)]
  exact putblk_e x (bytesOf s) (by rw [bytesOf_len]; omega)
section
variable (c0 : ByteArray) (ct : Int) (cn : Bool) (n k i : Int) (r : Nat) (s : ByteArray) (k' i' : Int) (r' : Nat) (s' : ByteArray) (l : List Int)
def putB : List Int := sf n.toNat ++ ((if emptyS k i r s = true then [0] else 1 :: (oneB k i s ++ oneB k' i' s')) ++ blkf l)
def putS : List Int × Int := if decide (ct = 1 ∨ ct = 2) = true then (if forS ct cn n k i r s k' i' r' s' l.length = true then (putB n k i r s k' i' s' l, 0) else ([], 140)) else ([], 150)
variable {c0 ct cn n k i r s k' i' r' s' l}
theorem sizeS_le {m : Nat} (h : sizeS m = true) : m ≤ 65536 := by
 unfold sizeS at h
 simp [sizes] at h
 omega
theorem for_open (h : forS ct cn n k i r s k' i' r' s' l.length = true) : (ct = 1 ∨ ct = 2) ∧ 0 ≤ n ∧ n ≤ 16777216 ∧ (cn = true ∨ n = 0) ∧ l.length ≤ 65536 ∧ sizeS l.length = true ∧ endsS ct k i r s k' i' r' s' = true := by
 unfold forS at h
 simp only [Bool.and_eq_true, decide_eq_true_eq] at h
 refine ⟨h.1, h.2.1.1, h.2.1.2.1, h.2.1.2.2, sizeS_le h.2.2.2, h.2.2.2, h.2.2.1⟩
theorem may_size {k i : Int} {r : Nat} {s : ByteArray} (h : mayS k i r s = true) : s.size ≤ 65535 := by
 unfold mayS at h
 simp only [decide_eq_true_eq] at h
 have z := @size_nil s
 rcases h with h | h | h | h
 ·have := z h.2.2.1; omega
 ·have := z h.2.1; omega
 ·omega
 ·have := z h.2.2.1; omega
theorem ends_open (h : endsS ct k i r s k' i' r' s' = true) : s.size ≤ 65535 ∧ s'.size ≤ 65535 ∧ (noneS k i r s k' i' r' s' = emptyS k i r s ∨ ¬ (ct = 1 ∨ ct = 2)) := by
 unfold endsS at h
 rw [Bool.or_eq_true] at h
 rcases h with h | h
 ·rw [Bool.and_eq_true] at h
  refine ⟨may_size (empty_may h.1).2, may_size (empty_may h.2).2, Or.inl ?_⟩
  rw [h.1]
  obtain ⟨a, b⟩ := h
  unfold emptyS at a b
  unfold noneS rg
  simp at a b ⊢
  obtain ⟨a1, a2, a3, a4⟩ := a
  obtain ⟨b1, b2, b3, b4⟩ := b
  exact ⟨⟨a1, a2, by omega, a4⟩, b1, b2, by omega, b4⟩
 ·simp only [Bool.and_eq_true] at h
  have q : ∀ {k i : Int} {r : Nat} {s : ByteArray}, endS ct k i r s = true → k = ct ∧ s.size ≤ 65535 := fun h => by
   unfold endS at h
   simp only [Bool.and_eq_true, decide_eq_true_eq] at h
   exact ⟨h.1, may_size h.2⟩
  refine ⟨(q h.1).2, (q h.2.1).2, ?_⟩
  by_cases ht : ct = 1 ∨ ct = 2
  ·left
   have := (q h.1).1
   have e1 : emptyS k i r s = false := by unfold emptyS; simp; omega
   have e2 : noneS k i r s k' i' r' s' = false := by unfold noneS; simp; omega
   rw [e1, e2]
  ·exact Or.inr ht
theorem none_empty (h : forS ct cn n k i r s k' i' r' s' l.length = true) : noneS k i r s k' i' r' s' = emptyS k i r s := by
 have o := for_open h
 rcases (ends_open o.2.2.2.2.2.2).2.2 with h | h
 ·exact h
 ·exact absurd o.1 h
theorem put_f (hl : l.length < 9223372036854775808) (hr : r < 18446744073709551616) (hr' : r' < 18446744073709551616) (h0 : -9223372036854775808 ≤ i) (h1 : i ≤ 9223372036854775807) (h0' : -9223372036854775808 ≤ i') (h1' : i' ≤ 9223372036854775807) :
  Evn (fun q => zone_Put.f q c0 ct cn n k i r s k' i' r' s' l) (putS ct cn n k i r s k' i' r' s' l) := by
 unfold zone_Put.f putS
 rw [typed_f, none_f]
 simp only [Option.bind_some]
 by_cases ht : decide (ct = 1 ∨ ct = 2) = true
 ·rw [if_pos ht]
  refine Evn.pos ht (Evn.bind (zmay_e c0 ct cn n k i r s k' i' r' s' l hl hr hr') ?_)
  by_cases hf : forS ct cn n k i r s k' i' r' s' l.length = true
  ·rw [if_pos hf]
   refine Evn.pos hf ?_
   rw [none_empty hf]
   have o := for_open hf
   have oe := ends_open o.2.2.2.2.2.2
   obtain ⟨m, rfl⟩ := Int.eq_ofNat_of_zero_le o.2.1
   have s10 := sf_len10 (n := m) (by omega)
   rw [u64n m (by omega)]
   refine Evn.bind (putuv_e m (by omega) [] (by simp)) ?_
   have l0 : le 1 0 = [0] := rfl
   have l1 : le 1 1 = [1] := rfl
   unfold putB
   by_cases he : emptyS k i r s = true
   ·rw [if_pos he]
    refine Evn.pos he (Evn.bind (put_uint8_e 0 (by omega) _ (by simp; omega)) (Evn.bind (putblk_e _ l (by simp [l0]; omega)) ?_))
    rw [l0, List.nil_append, List.append_assoc, Int.toNat_natCast]
    exact Evn.now _
   ·rw [if_neg he]
    have q1 := oneB_len k i s h0 h1 oe.1
    have q2 := oneB_len k' i' s' h0' h1' oe.2.1
    refine Evn.neg he (Evn.bind (put_uint8_e 1 (by omega) _ (by simp; omega)) ?_)
    rw [l1, List.nil_append]
    refine Evn.bind (put_e _ k i r s h0 h1 oe.1 (by simp; omega)) (Evn.bind (put_e _ k' i' r' s' h0' h1' oe.2.1 (by simp; omega)) (Evn.bind (putblk_e _ l (by simp; omega)) ?_))
    rw [show sf m ++ [1] ++ oneB k i s ++ oneB k' i' s' ++ blkf l = sf ((m : Int)).toNat ++ (1 :: (oneB k i s ++ oneB k' i' s') ++ blkf l) by simp]
    exact Evn.now _
  ·rw [if_neg hf]
   exact Evn.neg hf (Evn.now _)
 ·rw [if_neg ht]
  exact Evn.neg ht (Evn.now _)
end
end Go.Proofs.Ythiidgmemoineaa.V
