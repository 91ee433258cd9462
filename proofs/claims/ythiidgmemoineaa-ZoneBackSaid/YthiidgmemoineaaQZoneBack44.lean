/- The texts of ZoneBack, merged: part 44. -/
import Derived.Test.YthiidgmemoineaaQZoneBack40
import Derived.Test.YthiidgmemoineaaQZoneBack43
/- A record's bytes are read back: Take of what Put wrote, with anything behind it. Plain: no program in sight. -/
namespace Go.Proofs.Ythiidgmemoineaa.V
open Go.RowKit Go.Proofs.Ythiidgmemoineaa.Pa Go.Proofs.Ythiidgmemoineaa.Pure Go.Proofs.Ythiidgmemoineaa.L Go.Proofs.Ythiidgmemoineaa.F Go.Proofs.YthiidgmemoineaaW.PrintWords Go.Proofs.YthiidgmemoineaaW.PrintLast Go.Proofs.YthiidgmemoineaaW.PrintMore
set_option linter.unusedVariables false
set_option linter.unusedSimpArgs false
theorem strOf_bytes (s : ByteArray) : strOfNums (bytesOf s) = s := by
 apply ByteArray.ext
 apply Array.toList_inj.1
 rw [strOfNums_data, bytesOf, List.map_map]
 conv => rhs; rw [← List.map_id s.data.toList]
 apply List.map_congr_left
 intro a _
 simp
theorem nil_of {s : ByteArray} (h : s.toList = []) : s = ⟨#[]⟩ := by
 have hz := size_nil h
 obtain ⟨⟨l⟩⟩ := s
 have : l = [] := List.eq_nil_of_length_eq_zero hz
 rw [this]
theorem drop_len {bs x rest : List Int} {at_ : Int} (h0 : 0 ≤ at_) (h1 : at_ ≤ bs.length) (e : bs.drop at_.toNat = x ++ rest) :
  (bs.length : Int) - rest.length = at_ + x.length ∧ bs.drop ((bs.length : Int) - rest.length).toNat = rest ∧ at_ + x.length ≤ bs.length := by
 have hl := congrArg List.length e
 rw [List.length_drop, List.length_append] at hl
 refine ⟨by omega, ?_, by omega⟩
 have e1 : ((bs.length : Int) - rest.length).toNat = at_.toNat + x.length := by omega
 rw [e1, ← List.drop_drop, e, List.drop_left]
section
variable {c0 : ByteArray} {ct : Int} {cn : Bool} {bs : List Int} (hl : bs.length ≤ 211106232530000)
include hl
theorem val_of {k i : Int} {r : Nat} {s : ByteArray} {rest : List Int} {at_ : Int} (ht : ct = 1 ∨ ct = 2) (he : endS ct k i r s = true) (hi0 : -9223372036854775808 ≤ i) (hi1 : i ≤ 9223372036854775807) (h0 : 0 ≤ at_) (h1 : at_ ≤ bs.length) (e : bs.drop at_.toNat = oneB k i s ++ rest) :
  zone_take.f c0 ct cn bs at_ 0 = some (k, i, r, s, (bs.length : Int) - rest.length, 0) := by
 unfold endS at he
 simp only [Bool.and_eq_true, decide_eq_true_eq] at he
 obtain ⟨rfl, hm⟩ := he
 unfold mayS at hm
 simp only [decide_eq_true_eq] at hm
 rcases ht with rfl | rfl
 ·have hs : s.toList = [] ∧ r = 0 := by
   rcases hm with h | h | h | h
   ·exact absurd h.1 (by decide)
   ·exact h.2
   ·exact absurd h.1 (by decide)
   ·exact absurd h.1 (by decide)
  obtain ⟨hs1, rfl⟩ := hs
  obtain rfl := nil_of hs1
  unfold oneB at e
  rw [if_pos rfl] at e
  have hf := foldV_range i hi0 hi1
  have hn := numF_sf (foldV i).toNat (by omega) rest
  have hR : viR bs at_ 0 = (i, (bs.length : Int) - rest.length, 0) := by
   unfold viR
   rw [if_neg (by decide), e, hn]
   show (unfV (((foldV i).toNat : Nat) : Int), _, _) = _
   rw [show (((foldV i).toNat : Nat) : Int) = foldV i by omega, unf_fold i hi0 hi1]
  unfold zone_take.f cursor_Reader_Varint.f
  rw [if_pos rfl, if_pos ⟨h0, h1⟩, hR]
  rfl
 ·have hs : i = 0 ∧ s.size ≤ 65535 ∧ r = 0 := by
   rcases hm with h | h | h | h
   ·exact absurd h.1 (by decide)
   ·exact absurd h.1 (by decide)
   ·exact h.2
   ·exact absurd h.1 (by decide)
  obtain ⟨rfl, hs1, rfl⟩ := hs
  unfold oneB at e
  rw [if_neg (by decide)] at e
  have hb := blockF_of (bytesOf s) rest 65535 (by rw [bytesOf_len]; omega) (by rw [bytesOf_len]; omega)
  have hR : blkR bs at_ 0 65535 = (bytesOf s, (bs.length : Int) - rest.length, 0) := by unfold blkR; rw [if_neg (by decide), if_neg (by decide), e, hb]
  unfold zone_take.f cursor_Reader_Block.f
  rw [if_neg (by decide), if_pos ⟨⟨h0, h1⟩, by decide, by omega⟩, hR]
  simp only [Option.bind_some, strOf_bytes]
  rfl
theorem rest_of {n k i : Int} {r : Nat} {s : ByteArray} {k' i' : Int} {r' : Nat} {s' : ByteArray} {l rest : List Int} {at_ : Int} (hr : r < 18446744073709551616) (hr' : r' < 18446744073709551616) (hf : forS ct cn n k i r s k' i' r' s' l.length = true) (h0 : 0 ≤ at_) (h1 : at_ ≤ bs.length) (e : bs.drop at_.toNat = blkf l ++ rest) :
  Evn (fun q => zone_Take.j0 q n bs at_ 0 c0 ct cn 0 k i r s k' i' r' s') (n, k, i, r, s, k', i', r', s', l, 0, (bs.length : Int) - rest.length, 0) := by
 have o := for_open hf
 have hb := blockF_of l rest 65536 (by omega) (by omega)
 have hR : blkR bs at_ 0 65536 = (l, (bs.length : Int) - rest.length, 0) := by unfold blkR; rw [if_neg (by decide), if_neg (by decide), e, hb]
 obtain ⟨d1, d2, d3⟩ := drop_len h0 h1 e
 have hmn : mn n 16777217 = n := by unfold mn; split <;> omega
 have hw : wrap64 (mn n 16777217) = n := by rw [hmn, wrap64_in (by omega) (by omega)]
 refine Evn.succ (fun _ => rfl) ?_
 simp only [zone_Take.j0, cursor_Reader_Block.f]
 rw [if_pos ⟨⟨h0, h1⟩, by decide, by omega⟩, hR]
 simp only [Option.bind_some, cursor_Reader_Fault.f, if_pos (show atIn bs ((bs.length : Int) - rest.length) from ⟨by omega, by omega⟩), hw]
 exact Evn.pos trivial (Evn.bind (zmay_e c0 ct cn n k i r s k' i' r' s' l (by omega) hr hr') (Evn.pos hf (Evn.now _)))
theorem tak_of {x : Int} {t : List Int} {at_ : Int} (hx : x = 0 ∨ x = 1) (h0 : 0 ≤ at_) (h1 : at_ ≤ bs.length) (e : bs.drop at_.toNat = x :: t) : takR 1 bs at_ 0 = (x, at_ + 1, 0) := by
 have hl2 := congrArg List.length e
 rw [List.length_drop, List.length_cons] at hl2
 unfold takR
 rw [if_neg (by omega), if_pos (by omega), e]
 rcases hx with rfl | rfl <;> rfl
theorem take_of {n k i : Int} {r : Nat} {s : ByteArray} {k' i' : Int} {r' : Nat} {s' : ByteArray} {l rest : List Int} (hr : r < 18446744073709551616) (hr' : r' < 18446744073709551616) (hi0 : -9223372036854775808 ≤ i) (hi1 : i ≤ 9223372036854775807) (hj0 : -9223372036854775808 ≤ i') (hj1 : i' ≤ 9223372036854775807)
  (hf : forS ct cn n k i r s k' i' r' s' l.length = true) (e : bs = putB n k i r s k' i' s' l ++ rest) :
  Evn (fun q => zone_Take.f q c0 ct cn bs 0 0) (n, k, i, r, s, k', i', r', s', l, 0, (bs.length : Int) - rest.length, 0) := by
 have o := for_open hf
 have hty : zone_typed.f c0 ct cn = some true := by rw [typed_f, decide_eq_true o.1]
 obtain ⟨m, rfl⟩ := Int.eq_ofNat_of_zero_le o.2.1
 unfold putB at e
 rw [Int.toNat_natCast] at e
 have e0 : bs.drop (0 : Int).toNat = sf m ++ (((if emptyS k i r s = true then [0] else 1 :: (oneB k i s ++ oneB k' i' s')) ++ blkf l) ++ rest) := by rw [e]; simp
 have hn := numF_sf m (by omega) (((if emptyS k i r s = true then [0] else 1 :: (oneB k i s ++ oneB k' i' s')) ++ blkf l) ++ rest)
 obtain ⟨d1, d2, d3⟩ := drop_len (by decide) (by omega) e0
 unfold zone_Take.f
 rw [hty]
 simp only [Option.bind_some, if_true]
 unfold cursor_Reader_Uvarint.f
 rw [if_pos (show atIn bs 0 from ⟨by decide, by omega⟩)]
 have hR : uvR bs 0 0 = ((m : Int), (bs.length : Int) - (((if emptyS k i r s = true then [0] else 1 :: (oneB k i s ++ oneB k' i' s')) ++ blkf l) ++ rest).length, 0) := by
  unfold uvR
  rw [if_neg (by decide), e0, hn]
 rw [hR]
 generalize hp1 : (bs.length : Int) - (((if emptyS k i r s = true then [0] else 1 :: (oneB k i s ++ oneB k' i' s')) ++ blkf l) ++ rest).length = p1 at *
 have a1 : 0 ≤ p1 ∧ p1 ≤ bs.length := by omega
 simp only [cursor_Take_uint8.f, if_pos (show atIn bs p1 from a1), Option.bind_some]
 by_cases he : emptyS k i r s = true
 ·rw [if_pos he] at d2
  have ht := tak_of hl (x := 0) (Or.inl rfl) a1.1 a1.2 d2
  have hl2 := congrArg List.length d2
  rw [List.length_drop] at hl2
  simp only [List.length_cons, List.length_append, List.cons_append, List.nil_append] at hl2
  rw [ht]
  have d4 : bs.drop (p1 + 1).toNat = blkf l ++ rest := by
   rw [show (p1 + 1).toNat = p1.toNat + 1 by omega, ← List.drop_drop, d2]
   rfl
  have hw8 : IntKind.u8.wrap 0 = 0 := rfl
  simp only [cursor_Reader_Fault.f, if_pos (show atIn bs (p1 + 1) from ⟨by omega, by omega⟩), Option.bind_some, hw8, if_true]
  have hz : k = 0 ∧ i = 0 ∧ r = 0 ∧ s = ⟨#[]⟩ ∧ k' = 0 ∧ i' = 0 ∧ r' = 0 ∧ s' = ⟨#[]⟩ := by
   have oo := o.2.2.2.2.2.2
   unfold endsS at oo
   rw [Bool.or_eq_true] at oo
   have h1 : k = 0 ∧ i = 0 ∧ r = 0 ∧ s.toList = [] := by unfold emptyS at he; exact of_decide_eq_true he
   rcases oo with oo | oo
   ·rw [Bool.and_eq_true] at oo
    have h2 : k' = 0 ∧ i' = 0 ∧ r' = 0 ∧ s'.toList = [] := by have := oo.2; unfold emptyS at this; exact of_decide_eq_true this
    exact ⟨h1.1, h1.2.1, h1.2.2.1, nil_of h1.2.2.2, h2.1, h2.2.1, h2.2.2.1, nil_of h2.2.2.2⟩
   ·rw [end_zero o.1 h1.1, Bool.false_and] at oo
    cases oo
  obtain ⟨rfl, rfl, rfl, rfl, rfl, rfl, rfl, rfl⟩ := hz
  exact rest_of hl hr hr' hf (by omega) (by omega) d4
 ·rw [if_neg he] at d2
  have ht := tak_of hl (x := 1) (Or.inr rfl) a1.1 a1.2 d2
  have hl2 := congrArg List.length d2
  rw [List.length_drop] at hl2
  simp only [List.length_cons, List.length_append, List.cons_append, List.nil_append] at hl2
  rw [ht]
  have d4 : bs.drop (p1 + 1).toNat = oneB k i s ++ (oneB k' i' s' ++ (blkf l ++ rest)) := by
   rw [show (p1 + 1).toNat = p1.toNat + 1 by omega, ← List.drop_drop, d2]
   simp
  have hw8 : IntKind.u8.wrap 1 = 1 := rfl
  have n0 : ¬ (1 : Int) = 0 := by decide
  simp only [cursor_Reader_Fault.f, if_pos (show atIn bs (p1 + 1) from ⟨by omega, by omega⟩), Option.bind_some, hw8, if_true, if_neg n0]
  have oo := o.2.2.2.2.2.2
  unfold endsS at oo
  rw [Bool.not_eq_true] at he
  rw [he, Bool.false_and, Bool.false_or] at oo
  simp only [Bool.and_eq_true] at oo
  obtain ⟨g1, g2, g3⟩ := drop_len (by omega) (by omega) d4
  rw [val_of hl o.1 oo.1 hi0 hi1 (by omega) (by omega) d4]
  simp only [Option.bind_some]
  obtain ⟨q1, q2, q3⟩ := drop_len (by omega) (by omega) g2
  rw [val_of hl o.1 oo.2.1 hj0 hj1 (by omega) (by omega) g2]
  simp only [Option.bind_some]
  exact rest_of hl hr hr' hf (by omega) (by omega) q2
end
end Go.Proofs.Ythiidgmemoineaa.V
