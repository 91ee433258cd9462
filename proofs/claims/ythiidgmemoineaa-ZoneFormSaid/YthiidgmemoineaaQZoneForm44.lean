/- The texts of ZoneForm, merged: part 44. -/
import Derived.Test.YthiidgmemoineaaQZoneForm16
import Derived.Test.YthiidgmemoineaaQZoneForm20
import Derived.Test.YthiidgmemoineaaQZoneForm21
import Derived.Test.YthiidgmemoineaaQZoneForm27
import Derived.Test.YthiidgmemoineaaQZoneForm6
import Derived.Test.YthiidgmemoineaaQZoneForm43
/- ZoneForm: whatever is taken is put again, byte for byte. -/
namespace Go.Proofs.Ythiidgmemoineaa.Pure
open Go.RowKit Go.Proofs.Ythiidgmemoineaa.Pa Go.Proofs.Ythiidgmemoineaa.L Go.Proofs.Ythiidgmemoineaa.O Go.Proofs.Ythiidgmemoineaa.V Go.Proofs.YthiidgmemoineaaW.PrintWords Go.Proofs.YthiidgmemoineaaW.PrintLast Go.Proofs.YthiidgmemoineaaW.PrintMore
set_option linter.unusedVariables false
set_option linter.unusedSimpArgs false
/-- Has a record no ends? -/
def noneB (k i : Int) (r : Nat) (s : ByteArray) (k' i' : Int) (r' : Nat) (s' : ByteArray) : Bool :=
  (k == 0 && (i == 0 && (feq r 0 && (s.toList == ([] : List UInt8))))) && (k' == 0 && (i' == 0 && (feq r' 0 && (s'.toList == ([] : List UInt8)))))
theorem none_f (n k i : Int) (r : Nat) (s : ByteArray) (k' i' : Int) (r' : Nat) (s' : ByteArray) (l : List Int) : zone_none.f n k i r s k' i' r' s' l = some (noneB k i r s k' i' r' s') := by
  unfold zone_none.f noneB
  split
  · rename_i h; rw [h, Bool.true_and]
  · rename_i h; rw [Bool.not_eq_true] at h; rw [h, Bool.false_and]
theorem size_some (a : Int) : ∃ b, zone_size.f a = some b := by
  unfold zone_size.f bits_OnesCount.f bits_OnesCount64.f
  simp only [Option.bind_some]
  split
  · exact ⟨_, rfl⟩
  · split
    · split
      · exact ⟨_, rfl⟩
      · exact ⟨_, rfl⟩
    · exact ⟨_, rfl⟩
theorem j0_e (x : Bool) (c0 : ByteArray) (ct : Int) (cn : Bool) (n k i : Int) (r : Nat) (s : ByteArray) (k' i' : Int) (r' : Nat) (s' : ByteArray) (l : List Int) (hr : r < 18446744073709551616) (hr' : r' < 18446744073709551616) :
    ∃ b, Evn (fun q => zone_may.j0 q x c0 ct cn n k i r s k' i' r' s' l) b := by
  cases x with
  | true => exact ⟨false, Evn.succ (fun _ => rfl) (by simp only [zone_may.j0, if_true]; exact Evn.now _)⟩
  | false =>
    have hs : ∀ {b}, Evn (fun q => (zone_none.f n k i r s k' i' r' s' l).bind fun t407 => (if t407 = true then ((value_May.f q k i r s).bind fun t408 => (if t408 = true then ((value_May.f q k' i' r' s').bind fun t409 => (some t409)) else (some false))) else ((zone_end.f q c0 ct cn k i r s).bind fun t410 => (if t410 = true then ((zone_end.f q c0 ct cn k' i' r' s').bind fun t411 => (if t411 = true then ((value_Compare.f q k i r s k' i' r' s').bind fun t412 => (some (decide (t412 ≤ 0)))) else (some false))) else (some false))))) b → ∃ b, Evn (fun q => zone_may.j0 q false c0 ct cn n k i r s k' i' r' s' l) b := fun {b} h => ⟨b, Evn.succ (fun _ => rfl) (by simpa only [zone_may.j0, Bool.false_eq_true, if_false] using h)⟩
    have he : ∀ (k i : Int) (r : Nat) (s : ByteArray), r < 18446744073709551616 → ∃ b, Evn (fun q => zone_end.f q c0 ct cn k i r s) b := fun k i r s h => by
      by_cases hk : k = ct
      · exact ⟨_, Evn.pos hk (Evn.bind (may_f k i s h) (Evn.now _))⟩
      · exact ⟨_, Evn.neg hk (Evn.now _)⟩
    simp only [none_f, Option.bind_some] at hs
    cases hn : noneB k i r s k' i' r' s' with
    | true =>
      rw [hn] at hs
      cases hm : mayS k i r s with
      | true => exact hs (Evn.pos rfl (Evn.bind (hm ▸ may_f k i s hr) (Evn.pos rfl (Evn.bind (may_f k' i' s' hr') (Evn.now _)))))
      | false => exact hs (Evn.pos rfl (Evn.bind (hm ▸ may_f k i s hr) (Evn.neg (by decide) (Evn.now _))))
    | false =>
      rw [hn] at hs
      obtain ⟨b1, h1⟩ := he k i r s hr
      obtain ⟨b2, h2⟩ := he k' i' r' s' hr'
      cases b1 with
      | false => exact hs (Evn.neg (by decide) (Evn.bind h1 (Evn.neg (by decide) (Evn.now _))))
      | true =>
        cases b2 with
        | false => exact hs (Evn.neg (by decide) (Evn.bind h1 (Evn.pos rfl (Evn.bind h2 (Evn.neg (by decide) (Evn.now _))))))
        | true => exact hs (Evn.neg (by decide) (Evn.bind h1 (Evn.pos rfl (Evn.bind h2 (Evn.pos rfl (Evn.bind (compare_f k i s k' i' s' hr hr') (Evn.now _)))))))
theorem may_e (c0 : ByteArray) (ct : Int) (cn : Bool) (n k i : Int) (r : Nat) (s : ByteArray) (k' i' : Int) (r' : Nat) (s' : ByteArray) (l : List Int) (hr : r < 18446744073709551616) (hr' : r' < 18446744073709551616) (ht : zone_typed.f c0 ct cn = some true) :
    ∃ b, Evn (fun q => zone_may.f q c0 ct cn n k i r s k' i' r' s' l) b ∧ (b = true → 0 ≤ n ∧ n ≤ 16777216) := by
  obtain ⟨z, hz⟩ := size_some (l.length : Int)
  obtain ⟨b, hb⟩ := j0_e (!z) c0 ct cn n k i r s k' i' r' s' l hr hr'
  have hf : Evn (fun q => zone_may.j0 q true c0 ct cn n k i r s k' i' r' s' l) false := Evn.succ (fun _ => rfl) (by simp only [zone_may.j0, if_true]; exact Evn.now _)
  unfold zone_may.f zone_rows.f
  rw [ht, hz]
  simp only [Option.bind_some, if_true]
  by_cases h0 : 0 ≤ n
  · by_cases h1 : n ≤ 16777216
    · have hd : decide (n ≤ 16777216) = true := by simpa using h1
      simp only [if_pos h0, hd, Option.bind_some, if_true]
      by_cases h2 : n > 0
      · simp only [if_pos h2]
        cases cn with
        | true => exact ⟨b, hb, fun _ => ⟨h0, h1⟩⟩
        | false => exact ⟨false, hf, fun h => by cases h⟩
      · simp only [if_neg h2]
        exact ⟨b, hb, fun _ => ⟨h0, h1⟩⟩
    · have hd : decide (n ≤ 16777216) = false := by simpa using h1
      simp only [if_pos h0, hd, Option.bind_some]
      exact ⟨false, hf, fun h => by cases h⟩
  · simp only [if_neg h0, Option.bind_some]
    exact ⟨false, hf, fun h => by cases h⟩
theorem tk_app {bs x rest : List Int} {at_ : Int} (h0 : 0 ≤ at_) (h1 : at_ ≤ bs.length) (e : bs.drop at_.toNat = x ++ rest) :
    at_ ≤ (bs.length : Int) - rest.length ∧ (bs.length : Int) - rest.length ≤ bs.length ∧ bs.take ((bs.length : Int) - rest.length).toNat = bs.take at_.toNat ++ x ∧ x.length + rest.length ≤ bs.length ∧ (bs.take at_.toNat).length + x.length ≤ bs.length := by
  have hl := congrArg List.length e
  rw [List.length_drop, List.length_append] at hl
  have e2 : bs.take at_.toNat ++ x ++ rest = bs := by rw [List.append_assoc, ← e, List.take_append_drop]
  have h := List.take_left (l₁ := bs.take at_.toNat ++ x) (l₂ := rest)
  rw [e2, List.length_append, List.length_take] at h
  refine ⟨by omega, by omega, ?_, by omega, by rw [List.length_take]; omega⟩
  rw [← h]
  congr 1
  omega
/-- What a reading of a value does, and what the Put of its answer writes. -/
theorem val_e (c0 : ByteArray) (ct : Int) (cn : Bool) (bs : List Int) (hb : Bytes bs) (hl : bs.length ≤ 140737488351232) (ht : ct = 1 ∨ ct = 2) (at_ : Int) (h0 : 0 ≤ at_) (h1 : at_ ≤ bs.length) :
    ∃ i s at1 f, zone_take.f c0 ct cn bs at_ 0 = some (ct, i, 0, s, at1, f) ∧ 0 ≤ at1 ∧ at1 ≤ bs.length ∧ (f ≠ 0 ∨ (f = 0 ∧ at_ ≤ at1 ∧ Evn (fun k => zone_put.f k (bs.take at_.toNat) ct i 0 s) (bs.take at1.toNat))) := by
  have hlt : (bs.take at_.toNat).length ≤ bs.length := by rw [List.length_take]; omega
  rcases ht with rfl | rfl
  · unfold zone_take.f cursor_Reader_Varint.f
    rw [if_pos rfl, if_pos ⟨h0, h1⟩]
    rcases hv : numF (bs.drop at_.toNat) 0 0 with e | ⟨v, rest⟩
    · have := numF_err _ _ _ _ hv
      have hR : viR bs at_ 0 = (0, at_, e) := by unfold viR; rw [if_neg (by decide), hv]
      rw [hR]
      exact ⟨0, ⟨#[]⟩, at_, e, rfl, h0, h1, .inl (by omega)⟩
    · obtain ⟨hv0, hv1, e⟩ := numF_back (hb.drop _) hv
      obtain ⟨a1, a2, a3, a4, a5⟩ := tk_app h0 h1 e
      have hR : viR bs at_ 0 = (unfV v, (bs.length : Int) - rest.length, 0) := by unfold viR; rw [if_neg (by decide), hv]
      rw [hR]
      have hu := unf_range v hv0 hv1
      refine ⟨unfV v, ⟨#[]⟩, _, 0, rfl, (by show (0 : Int) ≤ (bs.length : Int) - rest.length; omega), a2, .inr ⟨rfl, a1, ?_⟩⟩
      have := putvi_e (unfV v) hu.1 hu.2 (bs.take at_.toNat) (by omega)
      rw [fold_unf v hv0 hv1, ← a3] at this
      unfold zone_put.f
      exact Evn.pos rfl this
  · unfold zone_take.f cursor_Reader_Block.f
    rw [if_neg (by decide), if_pos ⟨⟨h0, h1⟩, by decide, by omega⟩]
    rcases hv : blockF (bs.drop at_.toNat) 65535 with e | ⟨p, rest⟩
    · have := blockF_err hv
      have hR : blkR bs at_ 0 65535 = ([], at_, e) := by unfold blkR; rw [if_neg (by decide), if_neg (by decide), hv]
      rw [hR]
      exact ⟨0, _, at_, e, rfl, h0, h1, .inl (by omega)⟩
    · obtain ⟨e, hp, h64⟩ := blockF_back (hb.drop _) hv
      obtain ⟨a1, a2, a3, a4, a5⟩ := tk_app h0 h1 e
      have hR : blkR bs at_ 0 65535 = (p, (bs.length : Int) - rest.length, 0) := by unfold blkR; rw [if_neg (by decide), if_neg (by decide), hv]
      rw [hR]
      have hpl : p.length ≤ (blkf p).length := by rw [blkf, List.length_append]; omega
      have hbp : Bytes p := fun x hx => hb x (List.mem_of_mem_drop (i := at_.toNat) (by rw [e, blkf]; simp [hx]))
      refine ⟨0, strOfNums p, _, 0, rfl, (by show (0 : Int) ≤ (bs.length : Int) - rest.length; omega), a2, .inr ⟨rfl, a1, ?_⟩⟩
      have := putblk_e (bs.take at_.toNat) p (by omega)
      rw [← a3] at this
      unfold zone_put.f
      refine Evn.neg (by decide) (Evn.pos (by rw [str_size]; omega) ?_)
      rw [bytesOf_str hbp]
      exact this
theorem val_bad (c0 : ByteArray) (ct : Int) (cn : Bool) (bs : List Int) (hl : bs.length ≤ 140737488351232) (at_ f : Int) (hf : f ≠ 0) (h0 : 0 ≤ at_) (h1 : at_ ≤ bs.length) :
    ∃ k i s, zone_take.f c0 ct cn bs at_ f = some (k, i, 0, s, at_, f) := by
  by_cases ht : ct = 1
  · unfold zone_take.f cursor_Reader_Varint.f
    rw [if_pos ht, if_pos ⟨h0, h1⟩]
    have hR : viR bs at_ f = (0, at_, f) := by unfold viR; rw [if_pos hf]
    rw [hR]
    exact ⟨_, _, _, rfl⟩
  · unfold zone_take.f cursor_Reader_Block.f
    rw [if_neg ht, if_pos ⟨⟨h0, h1⟩, by decide, by omega⟩]
    have hR : blkR bs at_ f 65535 = ([], at_, f) := by unfold blkR; rw [if_pos hf]
    rw [hR]
    exact ⟨_, _, _, rfl⟩
abbrev Rec := Int × Int × Int × Nat × ByteArray × Int × Int × Nat × ByteArray × List Int × Int × Int × Int
/-- An error, and nothing else. -/
def Bad (r : Rec) : Prop := ∃ e p f, e ≠ 0 ∧ r = (0, 0, 0, (0 : Nat), (⟨#[]⟩ : ByteArray), 0, 0, (0 : Nat), (⟨#[]⟩ : ByteArray), ([] : List Int), e, p, f)
/-- A record, and its Put writes the bytes that were read. -/
def Good (c0 : ByteArray) (ct : Int) (cn : Bool) (bs : List Int) (r : Rec) : Prop :=
  ∃ n k i s k' i' s' bl at1, r = (n, k, i, (0 : Nat), s, k', i', (0 : Nat), s', bl, 0, at1, 0) ∧ 0 < at1 ∧ at1 ≤ bs.length ∧ Evn (fun q => zone_Put.f q c0 ct cn n k i 0 s k' i' 0 s' bl) (bs.take at1.toNat, 0)
/-- From the record's values on: the filter is read, and the record is looked at. -/
theorem rest_bad (c0 : ByteArray) (ct : Int) (cn : Bool) (bs : List Int) (hl : bs.length ≤ 140737488351232) (v at_ f k i : Int) (s : ByteArray) (k' i' : Int) (s' : ByteArray) (hf : f ≠ 0) (h0 : 0 ≤ at_) (h1 : at_ ≤ bs.length) :
    ∃ r, Evn (fun q => zone_Take.j0 q v bs at_ f c0 ct cn 0 k i 0 s k' i' 0 s') r ∧ Bad r := by
  refine ⟨_, Evn.succ (fun _ => rfl) ?_, f, at_, f, hf, rfl⟩
  simp only [zone_Take.j0, cursor_Reader_Block.f]
  rw [if_pos ⟨⟨h0, h1⟩, by decide, by omega⟩]
  have hR : blkR bs at_ f 65536 = ([], at_, f) := by unfold blkR; rw [if_pos hf]
  rw [hR]
  simp only [Option.bind_some, cursor_Reader_Fault.f, if_pos (show atIn bs at_ from ⟨h0, h1⟩)]
  exact Evn.neg hf (Evn.now _)
theorem rest_e (c0 : ByteArray) (ct : Int) (cn : Bool) (bs : List Int) (hb : Bytes bs) (hl : bs.length ≤ 140737488351232) (ht : zone_typed.f c0 ct cn = some true) (v at_ k i : Int) (s : ByteArray) (k' i' : Int) (s' : ByteArray) (hv0 : 0 ≤ v) (hv1 : v < 18446744073709551616) (h0 : 0 ≤ at_) (h1 : at_ ≤ bs.length)
    (hmid : ∀ bl : List Int, ∀ out : List Int, Evn (fun q => cursor_PutBlock.f q (bs.take at_.toNat) bl) out → Evn (fun q => (zone_none.f v k i 0 s k' i' 0 s' bl).bind fun t453 => (if t453 = true then ((cursor_Put_uint8.f q (sf v.toNat) 0).bind fun t454 => ((cursor_PutBlock.f q t454 bl).bind fun t457 => (some (t457, (0 : Int))))) else ((cursor_Put_uint8.f q (sf v.toNat) 1).bind fun t460 => ((zone_put.f q t460 k i 0 s).bind fun t463 => ((zone_put.f q t463 k' i' 0 s').bind fun t466 => ((cursor_PutBlock.f q t466 bl).bind fun t469 => (some (t469, (0 : Int))))))))) (out, 0)) (hpos : 0 < at_) :
    ∃ r, Evn (fun q => zone_Take.j0 q v bs at_ 0 c0 ct cn 0 k i 0 s k' i' 0 s') r ∧ (Bad r ∨ Good c0 ct cn bs r) := by
  have hs : ∀ {r}, Evn (fun q => (cursor_Reader_Block.f bs at_ 0 65536).bind fun bt608 => ((cursor_Reader_Fault.f bs bt608.2.1 bt608.2.2).bind fun bt613 => (if bt613.1 = 0 then ((zone_may.f q c0 ct cn (wrap64 (mn v 16777217)) k i 0 s k' i' 0 s' bt608.1).bind fun t616 => (if t616 = true then (some (wrap64 (mn v 16777217), k, i, (0 : Nat), s, k', i', (0 : Nat), s', bt608.1, (0 : Int), bt613.2.1, bt613.2.2)) else (some (0, 0, 0, (0 : Nat), (⟨#[]⟩ : ByteArray), 0, 0, (0 : Nat), (⟨#[]⟩ : ByteArray), ([] : List Int), 140, bt613.2.1, bt613.2.2)))) else (some (0, 0, 0, (0 : Nat), (⟨#[]⟩ : ByteArray), 0, 0, (0 : Nat), (⟨#[]⟩ : ByteArray), ([] : List Int), bt613.1, bt613.2.1, bt613.2.2))))) r → (Bad r ∨ Good c0 ct cn bs r) → ∃ r, Evn (fun q => zone_Take.j0 q v bs at_ 0 c0 ct cn 0 k i 0 s k' i' 0 s') r ∧ (Bad r ∨ Good c0 ct cn bs r) := fun {r} h hr => ⟨r, Evn.succ (fun _ => rfl) (by simp only [zone_Take.j0]; exact h), hr⟩
  unfold cursor_Reader_Block.f at hs
  rw [if_pos ⟨⟨h0, h1⟩, by decide, by omega⟩] at hs
  rcases hv : blockF (bs.drop at_.toNat) 65536 with e | ⟨p, rest⟩
  · have := blockF_err hv
    have hR : blkR bs at_ 0 65536 = ([], at_, e) := by unfold blkR; rw [if_neg (by decide), if_neg (by decide), hv]
    rw [hR] at hs
    simp only [Option.bind_some, cursor_Reader_Fault.f, if_pos (show atIn bs at_ from ⟨h0, h1⟩)] at hs
    exact hs (Evn.neg (by omega) (Evn.now _)) (.inl ⟨e, at_, e, by omega, rfl⟩)
  · obtain ⟨e, hp, h64⟩ := blockF_back (hb.drop _) hv
    obtain ⟨a1, a2, a3, a4, a5⟩ := tk_app h0 h1 e
    have hR : blkR bs at_ 0 65536 = (p, (bs.length : Int) - rest.length, 0) := by unfold blkR; rw [if_neg (by decide), if_neg (by decide), hv]
    rw [hR] at hs
    have hpl : p.length ≤ (blkf p).length := by rw [blkf, List.length_append]; omega
    simp only [Option.bind_some, cursor_Reader_Fault.f, if_pos (show atIn bs ((bs.length : Int) - rest.length) from ⟨by omega, a2⟩)] at hs
    obtain ⟨b, hb1, hb2⟩ := may_e c0 ct cn (wrap64 (mn v 16777217)) k i 0 s k' i' 0 s' p (by decide) (by decide) ht
    cases b with
    | false => exact hs (Evn.pos trivial (Evn.bind hb1 (Evn.neg (by decide) (Evn.now _)))) (.inl ⟨140, _, _, by decide, rfl⟩)
    | true =>
      have hn := hb2 rfl
      have hmn : mn v 16777217 = if v < 16777217 then v else 16777217 := by unfold mn; split <;> split <;> omega
      have hw : wrap64 (mn v 16777217) = v := by
        rw [hmn] at hn ⊢
        split at hn
        · rename_i h; rw [if_pos h]; exact wrap64_in (by omega) (by omega)
        · rw [wrap64_in (by omega) (by omega)] at hn; omega
      rw [hw] at hs hb1 hn
      refine hs (Evn.pos trivial (Evn.bind hb1 (Evn.pos rfl (Evn.now _)))) (.inr ⟨v, k, i, s, k', i', s', p, _, rfl, by omega, a2, ?_⟩)
      have hpb := putblk_e (bs.take at_.toNat) p (by omega)
      rw [← a3] at hpb
      have hm := hmid p _ hpb
      unfold zone_Put.f
      rw [ht]
      have hu : IntKind.u64.wrap v = ((v.toNat : Nat) : Int) := by rw [u64_in (by omega) (by omega)]; omega
      have hpu := putuv_e v.toNat (by omega) [] (by simp)
      rw [List.nil_append, ← hu] at hpu
      exact Evn.bind (Evn.now _) (Evn.pos rfl (Evn.bind hb1 (Evn.pos rfl (Evn.bind hpu hm))))
theorem takR_bad (bs : List Int) (at_ f : Int) (hf : f ≠ 0) : takR 1 bs at_ f = (0, at_, f) := by unfold takR; rw [if_pos hf]
theorem takR_no {n : Nat} {bs : List Int} {at_ : Int} (h : ¬ at_ + n ≤ bs.length) : takR n bs at_ 0 = (0, at_, 71) := by
  unfold takR
  rw [if_neg (by omega), if_neg h]
theorem takR_one {bs : List Int} {at_ : Int} (hb : Bytes bs) (h0 : 0 ≤ at_) (h : at_ + 1 ≤ bs.length) :
    ∃ v : Nat, v < 256 ∧ takR 1 bs at_ 0 = ((v : Int), at_ + 1, 0) ∧ bs.take (at_ + 1).toNat = bs.take at_.toNat ++ le 1 v := by
  have hl : ((bs.drop at_.toNat).take 1).length = 1 := by rw [List.length_take, List.length_drop]; omega
  have hbp : Bytes ((bs.drop at_.toNat).take 1) := (hb.drop _).take _
  have h1 := lv_lt _ hbp
  have h2 := le_lv _ hbp
  have h3 := takV_lv _ 0 0 hbp (by omega) (by simp)
  rw [hl] at h1 h2
  refine ⟨lv ((bs.drop at_.toNat).take 1), h1, ?_, ?_⟩
  · unfold takR
    rw [if_neg (by omega), if_pos (show at_ + ((1 : Nat) : Int) ≤ bs.length by omega)]
    congr 1
    simpa using h3
  · rw [h2, show (at_ + 1).toNat = at_.toNat + 1 by omega, List.take_add]
theorem take_e (c0 : ByteArray) (ct : Int) (cn : Bool) (bs : List Int) (hb : Bytes bs) (hl : bs.length ≤ 140737488351232) :
    ∃ r, Evn (fun q => zone_Take.f q c0 ct cn bs 0 0) r ∧ (Bad r ∨ Good c0 ct cn bs r) := by
  have h00 : atIn bs 0 := ⟨by decide, by omega⟩
  by_cases hty : ct = 1 ∨ ct = 2
  case neg =>
    have ht : zone_typed.f c0 ct cn = some false := by
      unfold zone_typed.f
      rw [if_neg (by omega)]
      simp; omega
    refine ⟨_, ?_, .inl ⟨150, 0, 0, by decide, rfl⟩⟩
    unfold zone_Take.f
    rw [ht]
    exact Evn.bind (Evn.now _) (Evn.neg (by decide) (Evn.now _))
  have ht : zone_typed.f c0 ct cn = some true := by
    unfold zone_typed.f
    rcases hty with rfl | rfl <;> rfl
  unfold zone_Take.f
  rw [ht]
  simp only [Option.bind_some, if_true]
  unfold cursor_Reader_Uvarint.f
  rw [if_pos h00]
  simp only [Option.bind_some]
  rcases hv : numF (bs.drop (0 : Int).toNat) 0 0 with e | ⟨v, rest⟩
  · have he := numF_err _ _ _ _ hv
    have hR : uvR bs 0 0 = (0, 0, e) := by unfold uvR; rw [if_neg (by decide), hv]
    rw [hR]
    simp only [cursor_Take_uint8.f, if_pos h00, takR_bad bs 0 e (by omega), Option.bind_some, cursor_Reader_Fault.f]
    exact ⟨_, Evn.neg (by omega) (Evn.now _), .inl ⟨e, 0, e, by omega, rfl⟩⟩
  · obtain ⟨hv0, hv1, e⟩ := numF_back (hb.drop _) hv
    obtain ⟨a1, a2, a3, a4, a5⟩ := tk_app (by decide) (by omega) e
    have hR : uvR bs 0 0 = (v, (bs.length : Int) - rest.length, 0) := by unfold uvR; rw [if_neg (by decide), hv]
    rw [hR]
    have ha1 : atIn bs ((bs.length : Int) - rest.length) := ⟨a1, a2⟩
    generalize hp1 : (bs.length : Int) - rest.length = p1 at *
    simp only [cursor_Take_uint8.f, if_pos ha1, Option.bind_some]
    by_cases hc : p1 + 1 ≤ bs.length
    case neg =>
      rw [takR_no (n := 1) hc]
      simp only [cursor_Reader_Fault.f, if_pos ha1, Option.bind_some]
      exact ⟨_, Evn.neg (by decide) (Evn.now _), .inl ⟨71, p1, 71, by decide, rfl⟩⟩
    obtain ⟨fl, hfl, e2, e3⟩ := takR_one hb a1 hc
    have ha2 : atIn bs (p1 + 1) := ⟨by omega, hc⟩
    rw [e2]
    have hw8 : IntKind.u8.wrap (fl : Int) = fl := by rw [IntKind.wrap_u8]; omega
    simp only [cursor_Reader_Fault.f, if_pos ha2, Option.bind_some, hw8, if_true]
    have hpre : bs.take p1.toNat = sf v.toNat := by rw [a3]; simp
    have hlt1 : (bs.take p1.toNat).length ≤ p1 := by rw [List.length_take]; omega
    by_cases f0 : fl = 0
    · subst f0
      simp only [if_pos (show ((0 : Nat) : Int) = 0 from rfl)]
      refine rest_e c0 ct cn bs hb hl ht v (p1 + 1) 0 0 ⟨#[]⟩ 0 0 ⟨#[]⟩ hv0 hv1 (by omega) hc (fun bl out hout => ?_) (by omega)
      rw [none_f]
      have hp := put_uint8_e 0 (by decide) (sf v.toNat) (by rw [← hpre]; omega)
      rw [← hpre, ← e3] at hp
      rw [hpre] at hp
      exact Evn.bind (Evn.now _) (Evn.pos (by decide +kernel) (Evn.bind hp (Evn.bind hout (Evn.now _))))
    · by_cases f1 : fl = 1
      case neg =>
        have n0 : ¬ (fl : Int) = 0 := by omega
        have n1 : ¬ (fl : Int) = 1 := by omega
        simp only [if_neg n0, if_neg n1]
        exact ⟨_, Evn.now _, .inl ⟨140, p1 + 1, 0, by decide, rfl⟩⟩
      subst f1
      have n0 : ¬ ((1 : Nat) : Int) = 0 := by decide
      have n1 : ((1 : Nat) : Int) = 1 := by decide
      simp only [if_neg n0, if_pos n1]
      obtain ⟨i, s, p2, g, t1, b0, b1, hg⟩ := val_e c0 ct cn bs hb hl hty (p1 + 1) (by omega) hc
      rw [t1]
      simp only [Option.bind_some]
      rcases hg with hg | ⟨rfl, b2, b3⟩
      · obtain ⟨k', i', s', t2⟩ := val_bad c0 ct cn bs hl p2 g hg b0 b1
        rw [t2]
        simp only [Option.bind_some]
        obtain ⟨r, hr1, hr2⟩ := rest_bad c0 ct cn bs hl v p2 g ct i s k' i' s' hg b0 b1
        exact ⟨r, hr1, .inl hr2⟩
      · obtain ⟨i', s', p3, g', t2, d0, d1, hg'⟩ := val_e c0 ct cn bs hb hl hty p2 b0 b1
        rw [t2]
        simp only [Option.bind_some]
        rcases hg' with hg' | ⟨rfl, d2, d3⟩
        · obtain ⟨r, hr1, hr2⟩ := rest_bad c0 ct cn bs hl v p3 g' ct i s ct i' s' hg' d0 d1
          exact ⟨r, hr1, .inl hr2⟩
        · refine rest_e c0 ct cn bs hb hl ht v p3 ct i s ct i' s' hv0 hv1 d0 d1 (fun bl out hout => ?_) (by omega)
          rw [none_f]
          have hp := put_uint8_e 1 (by decide) (sf v.toNat) (by rw [← hpre]; omega)
          rw [← hpre, ← e3] at hp
          rw [hpre] at hp
          have hnn : noneB ct i 0 s ct i' 0 s' = false := by
            unfold noneB
            rcases hty with rfl | rfl <;> rfl
          rw [hnn]
          exact Evn.bind (Evn.now _) (Evn.neg (by decide) (Evn.bind hp (Evn.bind b3 (Evn.bind d3 (Evn.bind hout (Evn.now _))))))
theorem ZoneForm (l0 : S23) (l1 : (List Int)) (h0 : okS23 l0) (h1 : (l1.length * 1 ≤ 140737488351232 ∧ ∀ y0_ ∈ l1, (Lit.int .u8 y0_).wf = true)) : ∃ k, colonnadelaw14_ZoneForm.f k l0.f0 l0.f1 l0.f2 l1 = some true := by
  have hb : Bytes l1 := fun x hx => wf_u8 (h1.2 x hx)
  have hl : l1.length ≤ 140737488351232 := by omega
  obtain ⟨r, hr, hg⟩ := take_e l0.f0 l0.f1 l0.f2 l1 hb hl
  refine Evn.ex (r := true) ?_
  unfold colonnadelaw14_ZoneForm.f cursor_Open.f
  rw [if_pos (show l1.length < 140737488355328 by omega)]
  refine Evn.bind (a := true) (Evn.now _) (Evn.pos rfl (Evn.bind (Evn.now _) (Evn.bind hr (Evn.bind (Evn.now _) ?_))))
  rcases hg with ⟨e, p, f, he, rfl⟩ | ⟨n, k, i, s, k', i', s', bl, at1, rfl, g0, g1, g2⟩
  · exact Evn.neg he (Evn.bindc (a := true) ((show colonnaderef14_Same.f 0 0 0 0 ⟨#[]⟩ 0 0 0 ⟨#[]⟩ [] 0 0 0 0 ⟨#[]⟩ 0 0 0 ⟨#[]⟩ [] = some true from by kernel_rfl)) (Evn.now _))
  · refine Evn.pos rfl (Evn.bind g2 ?_)
    have ha : atIn l1 at1 := ⟨by omega, g1⟩
    have hw : wrap64 ((l1.length : Int) - ((l1.length : Int) - at1)) = at1 := by rw [wrap64_in (by omega) (by omega)]; omega
    unfold cursor_Reader_Left.f
    rw [if_pos ha]
    refine Evn.bind (Evn.now _) (Evn.bind (Evn.now _) (Evn.pos rfl ?_))
    rw [hw]
    refine Evn.pos g0 (Evn.pos g1 (Evn.pos (by omega) ?_))
    have e : ((strOfNums (l1.take at1.toNat)).toList == (strOfNums (l1.take at1.toNat)).toList) = true := by simp
    rw [e]
    exact Evn.now _
end Go.Proofs.Ythiidgmemoineaa.Pure
