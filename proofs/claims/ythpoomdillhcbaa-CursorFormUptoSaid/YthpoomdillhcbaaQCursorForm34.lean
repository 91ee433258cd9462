/- The texts of CursorForm, merged: part 34. -/
import Derived.Test.YthpoomdillhcbaaQCursorForm27
import Derived.Test.YthpoomdillhcbaaQCursorForm6
import Derived.Test.YthpoomdillhcbaaQCursorForm33
/- CursorForm: of bytes (no more than the second form's size) what readings take without a fault is what the Puts of their answers write. -/
namespace Go.Proofs.Ythpoomdillhcbaa.Pure
open Go.RowKit Go.Proofs.Ythpoomdillhcbaa.Pa Go.Proofs.Ythpoomdillhcbaa.L Go.Proofs.Ythpoomdillhcbaa.O Go.Proofs.YthpoomdillhcbaaW.PrintWords Go.Proofs.YthpoomdillhcbaaW.PrintLast Go.Proofs.YthpoomdillhcbaaW.PrintMore
set_option linter.unusedVariables false
set_option linter.unusedSimpArgs false
theorem pick_f (a n : Int) (h0 : 0 ≤ a) (h1 : a < n) : colonnadelaw07_pick.f a n = some a := by
  unfold colonnadelaw07_pick.f
  rw [if_neg (by omega), Int.tmod_eq_emod_of_nonneg h0, Int.emod_eq_of_lt h0 h1, if_neg (by omega)]
theorem pick_in (a n : Int) (hn : 0 < n) (hn1 : n < 1000000) : ∃ b, 0 ≤ b ∧ b < n ∧ colonnadelaw07_pick.f a n = some b := by
  have h1 := Int.tmod_lt_of_pos a hn
  have h2 := Int.lt_tmod_of_pos a hn
  unfold colonnadelaw07_pick.f
  rw [if_neg (by omega)]
  by_cases h : Int.tmod a n < 0
  · rw [if_pos h, wrap64_in (by omega) (by omega)]
    exact ⟨_, by omega, by omega, rfl⟩
  · rw [if_neg h]
    exact ⟨_, by omega, by omega, rfl⟩
theorem tk_app {bs x rest : List Int} {at_ : Int} (h0 : 0 ≤ at_) (h1 : at_ ≤ bs.length) (e : bs.drop at_.toNat = x ++ rest) :
    at_ ≤ (bs.length : Int) - rest.length ∧ (bs.length : Int) - rest.length ≤ bs.length ∧ bs.take ((bs.length : Int) - rest.length).toNat = bs.take at_.toNat ++ x ∧ x.length + rest.length ≤ bs.length := by
  have hl := congrArg List.length e
  rw [List.length_drop, List.length_append] at hl
  have e2 : bs.take at_.toNat ++ x ++ rest = bs := by rw [List.append_assoc, ← e, List.take_append_drop]
  have h := List.take_left (l₁ := bs.take at_.toNat ++ x) (l₂ := rest)
  rw [e2, List.length_append, List.length_take] at h
  refine ⟨by omega, by omega, ?_, by omega⟩
  rw [← h]
  congr 1
  omega
theorem takR_no {n : Nat} {bs : List Int} {at_ : Int} (h : ¬ at_ + n ≤ bs.length) : takR n bs at_ 0 = (0, at_, 71) := by
  unfold takR
  rw [if_neg (by omega), if_neg h]
theorem takR_ok {n : Nat} {bs : List Int} {at_ : Int} (hn : n ≤ 8) (hb : Bytes bs) (h0 : 0 ≤ at_) (h : at_ + n ≤ bs.length) :
    ∃ v : Nat, v < 2 ^ (8 * n) ∧ takR n bs at_ 0 = ((v : Int), at_ + n, 0) ∧ bs.take (at_ + n).toNat = bs.take at_.toNat ++ le n v := by
  have hl : ((bs.drop at_.toNat).take n).length = n := by rw [List.length_take, List.length_drop]; omega
  have hbp : Bytes ((bs.drop at_.toNat).take n) := (hb.drop _).take _
  have h1 := lv_lt _ hbp
  have h2 := le_lv _ hbp
  have h3 := takV_lv _ 0 0 hbp (by omega) (by simp)
  rw [hl] at h1 h2
  refine ⟨lv ((bs.drop at_.toNat).take n), h1, ?_, ?_⟩
  · unfold takR
    rw [if_neg (by omega), if_pos h]
    congr 1
    simpa using h3
  · rw [h2, show (at_ + n).toNat = at_.toNat + n by omega, List.take_add]
theorem at_in {bs : List Int} {at_ : Int} (h0 : 0 ≤ at_) (h1 : at_ ≤ bs.length) : atIn bs at_ := ⟨h0, h1⟩
theorem blkl_le (ps : List (List Int)) : blkl ps ≤ 11 * (blks ps).length ∧ ps.length ≤ (blks ps).length := by
  induction ps with
  | nil => simp [blkl]
  | cons p ps ih =>
    have h := sf_pos p.length
    have e1 : blkl (p :: ps) = p.length + 10 + blkl ps := by simp [blkl]
    have e2 : (blks (p :: ps)).length = (sf p.length).length + p.length + (blks ps).length := by simp [blks, blkf]; omega
    rw [e1, e2, List.length_cons]
    omega
/-- What one reading does, and what the Put of its answer writes. -/
def StepOk (bs : List Int) (at_ who kk n each : Int) : Prop :=
  ∃ u b t at1 f1, colonnadelaw07_ask.f bs at_ 0 who kk n each = some (u, b, t, at1, f1) ∧
    ((f1 ≠ 0 ∧ at1 = at_) ∨ (f1 = 0 ∧ at_ ≤ at1 ∧ at1 ≤ bs.length ∧ Evn (fun k => colonnadelaw07_again.f k (bs.take at_.toNat) who kk n each u b t) (bs.take at1.toNat)))
theorem w8 (v : Nat) (h : v < 2 ^ (8 * 1)) : IntKind.u8.wrap (v : Int) = v ∧ (v : Int) % 256 = v ∧ v < 18446744073709551616 := by rw [IntKind.wrap_u8]; omega
theorem w16 (v : Nat) (h : v < 2 ^ (8 * 2)) : IntKind.u16.wrap (v : Int) = v ∧ IntKind.u16.wrap (v : Int) = v ∧ v < 18446744073709551616 := by rw [IntKind.wrap_u16]; omega
theorem w32 (v : Nat) (h : v < 2 ^ (8 * 4)) : IntKind.u32.wrap (v : Int) = v ∧ (v : Int) % 4294967296 = v ∧ v < 18446744073709551616 := by rw [IntKind.wrap_u32]; omega
theorem step_0 (bs : List Int) (hb : Bytes bs) (hl : bs.length ≤ 1048576) (at_ who n each : Int) (h0 : 0 ≤ at_) (h1 : at_ ≤ bs.length) (hn : -9223372036854775808 ≤ n ∧ n ≤ 9223372036854775807) (he : -9223372036854775808 ≤ each ∧ each ≤ 9223372036854775807) : StepOk bs at_ who 0 n each := by
  have p13 := pick_f 0 13 (by decide) (by decide)
  have p10 := pick_f 0 10 (by decide) (by decide)
  have hlt : (bs.take at_.toNat).length ≤ 1048576 := by rw [List.length_take]; omega
  by_cases h : at_ + ((1 : Nat) : Int) ≤ bs.length
  · obtain ⟨v, hv, e, e2⟩ := takR_ok (n := 1) (by omega) hb h0 h
    obtain ⟨w1, w2, w3⟩ := w8 v hv
    refine ⟨(v : Int), [], [], at_ + ((1 : Nat) : Int), 0, ?_, .inr ⟨rfl, by omega, h, ?_⟩⟩
    · simp [colonnadelaw07_ask.f, p13, cursor_Take_uint8.f, at_in h0 h1, e, w1, u64n v w3]
    · have := put_uint8_e v w3 (bs.take at_.toNat) (by omega)
      rw [← e2] at this
      simpa [colonnadelaw07_again.f, p10, w2] using this
  · refine ⟨0, [], [], at_, 71, ?_, .inl ⟨by decide, rfl⟩⟩
    simp [colonnadelaw07_ask.f, p13, cursor_Take_uint8.f, at_in h0 h1, takR_no h, show IntKind.u8.wrap 0 = 0 by decide, show IntKind.u16.wrap 0 = 0 by decide, show IntKind.u32.wrap 0 = 0 by decide, show IntKind.u64.wrap 0 = 0 by decide]
theorem step_1 (bs : List Int) (hb : Bytes bs) (hl : bs.length ≤ 1048576) (at_ who n each : Int) (h0 : 0 ≤ at_) (h1 : at_ ≤ bs.length) (hn : -9223372036854775808 ≤ n ∧ n ≤ 9223372036854775807) (he : -9223372036854775808 ≤ each ∧ each ≤ 9223372036854775807) : StepOk bs at_ who 1 n each := by
  have p13 := pick_f 1 13 (by decide) (by decide)
  have p10 := pick_f 1 10 (by decide) (by decide)
  have hlt : (bs.take at_.toNat).length ≤ 1048576 := by rw [List.length_take]; omega
  by_cases h : at_ + ((2 : Nat) : Int) ≤ bs.length
  · obtain ⟨v, hv, e, e2⟩ := takR_ok (n := 2) (by omega) hb h0 h
    obtain ⟨w1, w2, w3⟩ := w16 v hv
    refine ⟨(v : Int), [], [], at_ + ((2 : Nat) : Int), 0, ?_, .inr ⟨rfl, by omega, h, ?_⟩⟩
    · simp [colonnadelaw07_ask.f, p13, cursor_Take_uint16.f, at_in h0 h1, e, w1, u64n v w3]
    · have := put_uint16_e v w3 (bs.take at_.toNat) (by omega)
      rw [← e2] at this
      simpa [colonnadelaw07_again.f, p10, w2] using this
  · refine ⟨0, [], [], at_, 71, ?_, .inl ⟨by decide, rfl⟩⟩
    simp [colonnadelaw07_ask.f, p13, cursor_Take_uint16.f, at_in h0 h1, takR_no h, show IntKind.u8.wrap 0 = 0 by decide, show IntKind.u16.wrap 0 = 0 by decide, show IntKind.u32.wrap 0 = 0 by decide, show IntKind.u64.wrap 0 = 0 by decide]
theorem step_2 (bs : List Int) (hb : Bytes bs) (hl : bs.length ≤ 1048576) (at_ who n each : Int) (h0 : 0 ≤ at_) (h1 : at_ ≤ bs.length) (hn : -9223372036854775808 ≤ n ∧ n ≤ 9223372036854775807) (he : -9223372036854775808 ≤ each ∧ each ≤ 9223372036854775807) : StepOk bs at_ who 2 n each := by
  have p13 := pick_f 2 13 (by decide) (by decide)
  have p10 := pick_f 2 10 (by decide) (by decide)
  have hlt : (bs.take at_.toNat).length ≤ 1048576 := by rw [List.length_take]; omega
  by_cases h : at_ + ((4 : Nat) : Int) ≤ bs.length
  · obtain ⟨v, hv, e, e2⟩ := takR_ok (n := 4) (by omega) hb h0 h
    obtain ⟨w1, w2, w3⟩ := w32 v hv
    refine ⟨(v : Int), [], [], at_ + ((4 : Nat) : Int), 0, ?_, .inr ⟨rfl, by omega, h, ?_⟩⟩
    · simp [colonnadelaw07_ask.f, p13, cursor_Take_uint32.f, at_in h0 h1, e, w1, u64n v w3]
    · have := put_uint32_e v w3 (bs.take at_.toNat) (by omega)
      rw [← e2] at this
      simpa [colonnadelaw07_again.f, p10, w2] using this
  · refine ⟨0, [], [], at_, 71, ?_, .inl ⟨by decide, rfl⟩⟩
    simp [colonnadelaw07_ask.f, p13, cursor_Take_uint32.f, at_in h0 h1, takR_no h, show IntKind.u8.wrap 0 = 0 by decide, show IntKind.u16.wrap 0 = 0 by decide, show IntKind.u32.wrap 0 = 0 by decide, show IntKind.u64.wrap 0 = 0 by decide]
theorem step_3 (bs : List Int) (hb : Bytes bs) (hl : bs.length ≤ 1048576) (at_ who n each : Int) (h0 : 0 ≤ at_) (h1 : at_ ≤ bs.length) (hn : -9223372036854775808 ≤ n ∧ n ≤ 9223372036854775807) (he : -9223372036854775808 ≤ each ∧ each ≤ 9223372036854775807) : StepOk bs at_ who 3 n each := by
  have p13 := pick_f 3 13 (by decide) (by decide)
  have p10 := pick_f 3 10 (by decide) (by decide)
  have hlt : (bs.take at_.toNat).length ≤ 1048576 := by rw [List.length_take]; omega
  by_cases h : at_ + ((8 : Nat) : Int) ≤ bs.length
  · obtain ⟨v, hv, e, e2⟩ := takR_ok (n := 8) (by omega) hb h0 h
    have w3 : v < 18446744073709551616 := by omega
    refine ⟨(v : Int), [], [], at_ + ((8 : Nat) : Int), 0, ?_, .inr ⟨rfl, by omega, h, ?_⟩⟩
    · simp [colonnadelaw07_ask.f, p13, cursor_Take_uint64.f, at_in h0 h1, e]
    · have := put_uint64_e v w3 (bs.take at_.toNat) (by omega)
      rw [← e2] at this
      simpa [colonnadelaw07_again.f, p10] using this
  · refine ⟨0, [], [], at_, 71, ?_, .inl ⟨by decide, rfl⟩⟩
    simp [colonnadelaw07_ask.f, p13, cursor_Take_uint64.f, at_in h0 h1, takR_no h, show IntKind.u8.wrap 0 = 0 by decide, show IntKind.u16.wrap 0 = 0 by decide, show IntKind.u32.wrap 0 = 0 by decide, show IntKind.u64.wrap 0 = 0 by decide]
theorem step_4 (bs : List Int) (hb : Bytes bs) (hl : bs.length ≤ 1048576) (at_ who n each : Int) (h0 : 0 ≤ at_) (h1 : at_ ≤ bs.length) (hn : -9223372036854775808 ≤ n ∧ n ≤ 9223372036854775807) (he : -9223372036854775808 ≤ each ∧ each ≤ 9223372036854775807) : StepOk bs at_ who 4 n each := by
  have p13 := pick_f 4 13 (by decide) (by decide)
  have p10 := pick_f 4 10 (by decide) (by decide)
  have hlt : (bs.take at_.toNat).length ≤ 1048576 := by rw [List.length_take]; omega
  by_cases h : at_ + ((2 : Nat) : Int) ≤ bs.length
  · obtain ⟨v, hv, e, e2⟩ := takR_ok (n := 2) (by omega) hb h0 h
    obtain ⟨w1, w2, w3⟩ := w16 v hv
    refine ⟨(v : Int), [], [], at_ + ((2 : Nat) : Int), 0, ?_, .inr ⟨rfl, by omega, h, ?_⟩⟩
    · simp [colonnadelaw07_ask.f, p13, colonnadelaw07_tall_74.f, at_in h0 h1, e, w1, u64n v w3]
    · have := put_tall_e v w3 (bs.take at_.toNat) (by omega)
      rw [← e2] at this
      simpa [colonnadelaw07_again.f, p10, w2] using this
  · refine ⟨0, [], [], at_, 71, ?_, .inl ⟨by decide, rfl⟩⟩
    simp [colonnadelaw07_ask.f, p13, colonnadelaw07_tall_74.f, at_in h0 h1, takR_no h, show IntKind.u8.wrap 0 = 0 by decide, show IntKind.u16.wrap 0 = 0 by decide, show IntKind.u32.wrap 0 = 0 by decide, show IntKind.u64.wrap 0 = 0 by decide]
theorem ite_in {α : Type} {bs : List Int} {at_ n : Int} (h0 : 0 ≤ at_) (h1 : at_ ≤ bs.length) (hn : -9223372036854775808 ≤ n ∧ n ≤ 9223372036854775807) (hl : bs.length < 140737488355328) (x y : α) : (if atIn bs at_ ∧ (-9223372036854775808 ≤ n ∧ n ≤ 9223372036854775807) ∧ bs.length < 140737488355328 then x else y) = x := if_pos ⟨⟨h0, h1⟩, hn, hl⟩
theorem step_5 (bs : List Int) (hb : Bytes bs) (hl : bs.length ≤ 1048576) (at_ who n each : Int) (h0 : 0 ≤ at_) (h1 : at_ ≤ bs.length) (hn : -9223372036854775808 ≤ n ∧ n ≤ 9223372036854775807) (he : -9223372036854775808 ≤ each ∧ each ≤ 9223372036854775807) : StepOk bs at_ who 5 n each := by
  have p13 := pick_f 5 13 (by decide) (by decide)
  have p10 := pick_f 5 10 (by decide) (by decide)
  have hlt : (bs.take at_.toNat).length ≤ 1048576 := by rw [List.length_take]; omega
  rcases hv : numF (bs.drop at_.toNat) 0 0 with e | ⟨v, rest⟩
  · have := numF_err _ _ _ _ hv
    refine ⟨0, [], [], at_, e, ?_, .inl ⟨by omega, rfl⟩⟩
    simp [colonnadelaw07_ask.f, p13, cursor_Reader_Uvarint.f, at_in h0 h1, uvR, hv]
  · obtain ⟨hv0, hv1, e⟩ := numF_back (hb.drop _) hv
    obtain ⟨a1, a2, a3, _⟩ := tk_app h0 h1 e
    refine ⟨v, [], [], _, 0, by simp [colonnadelaw07_ask.f, p13, cursor_Reader_Uvarint.f, at_in h0 h1, uvR, hv], .inr ⟨rfl, a1, a2, ?_⟩⟩
    have := putuv_e v.toNat (by omega) (bs.take at_.toNat) (by omega)
    rw [← a3, Int.toNat_of_nonneg hv0] at this
    simpa [colonnadelaw07_again.f, p10] using this
theorem step_6 (bs : List Int) (hb : Bytes bs) (hl : bs.length ≤ 1048576) (at_ who n each : Int) (h0 : 0 ≤ at_) (h1 : at_ ≤ bs.length) (hn : -9223372036854775808 ≤ n ∧ n ≤ 9223372036854775807) (he : -9223372036854775808 ≤ each ∧ each ≤ 9223372036854775807) : StepOk bs at_ who 6 n each := by
  have p13 := pick_f 6 13 (by decide) (by decide)
  have p10 := pick_f 6 10 (by decide) (by decide)
  have hlt : (bs.take at_.toNat).length ≤ 1048576 := by rw [List.length_take]; omega
  rcases hv : numF (bs.drop at_.toNat) 0 0 with e | ⟨v, rest⟩
  · have := numF_err _ _ _ _ hv
    refine ⟨0, [], [], at_, e, ?_, .inl ⟨by omega, rfl⟩⟩
    simp [colonnadelaw07_ask.f, p13, cursor_Reader_Varint.f, at_in h0 h1, viR, hv, show IntKind.u64.wrap 0 = 0 by decide]
  · obtain ⟨hv0, hv1, e⟩ := numF_back (hb.drop _) hv
    obtain ⟨a1, a2, a3, _⟩ := tk_app h0 h1 e
    have hu := unf_range v hv0 hv1
    refine ⟨IntKind.u64.wrap (unfV v), [], [], _, 0, by simp [colonnadelaw07_ask.f, p13, cursor_Reader_Varint.f, at_in h0 h1, viR, hv], .inr ⟨rfl, a1, a2, ?_⟩⟩
    have := putvi_e (unfV v) hu.1 hu.2 (bs.take at_.toNat) (by omega)
    rw [fold_unf v hv0 hv1, ← a3] at this
    have ew : wrap64 (IntKind.u64.wrap (unfV v)) = unfV v := by rw [IntKind.wrap_u64]; unfold wrap64; omega
    simpa [colonnadelaw07_again.f, p10, ew] using this
theorem step_7 (bs : List Int) (hb : Bytes bs) (hl : bs.length ≤ 1048576) (at_ who n each : Int) (h0 : 0 ≤ at_) (h1 : at_ ≤ bs.length) (hn : -9223372036854775808 ≤ n ∧ n ≤ 9223372036854775807) (he : -9223372036854775808 ≤ each ∧ each ≤ 9223372036854775807) : StepOk bs at_ who 7 n each := by
  have p13 := pick_f 7 13 (by decide) (by decide)
  have p10 := pick_f 7 10 (by decide) (by decide)
  have hlt : (bs.take at_.toNat).length ≤ 1048576 := by rw [List.length_take]; omega
  have hask : colonnadelaw07_ask.f bs at_ 0 who 7 n each = some (0, (bytR bs at_ 0 n).1, ([] : List ByteArray), (bytR bs at_ 0 n).2.1, (bytR bs at_ 0 n).2.2) := by
    simp only [colonnadelaw07_ask.f, p13, cursor_Reader_Bytes.f, ite_in h0 h1 hn (show bs.length < 140737488355328 by omega), Option.bind_some]
    rfl
  unfold bytR at hask
  rw [if_neg (show ¬ ((0 : Int) ≠ 0) by decide)] at hask
  by_cases c1 : n < 0
  · rw [if_pos c1] at hask
    exact ⟨_, _, _, _, _, hask, .inl ⟨fun h_ => absurd h_ (by first | exact (by decide : ¬ (2 : Int) = 0) | exact (by decide : ¬ (71 : Int) = 0)), rfl⟩⟩
  · rw [if_neg c1] at hask
    by_cases c2 : n ≤ (bs.length : Int) - at_
    · rw [if_pos c2] at hask
      refine ⟨_, _, _, _, _, hask, .inr ⟨rfl, by show at_ ≤ at_ + n; omega, by show at_ + n ≤ _; omega, ?_⟩⟩
      show Evn (fun k => colonnadelaw07_again.f k (bs.take at_.toNat) who 7 n each 0 ((bs.drop at_.toNat).take n.toNat) []) (bs.take (at_ + n).toNat)
      rw [show (at_ + n).toNat = at_.toNat + n.toNat by omega, List.take_add]
      have h2 : ((bs.drop at_.toNat).take n.toNat).length ≤ 1048576 := by rw [List.length_take, List.length_drop]; omega
      refine Evn.congr (g' := fun _ => some (bs.take at_.toNat ++ (bs.drop at_.toNat).take n.toNat)) (fun k => ?_) (Evn.now _)
      simp only [colonnadelaw07_again.f, p10, Option.bind_some, List.nil_append, List.length_nil]
      rw [if_neg (by decide), if_neg (by decide), if_neg (by decide), if_neg (by decide), if_neg (by decide), if_neg (by decide), if_neg (by decide), if_pos (by decide), if_pos (by omega), if_pos (by omega)]
    · rw [if_neg c2] at hask
      exact ⟨_, _, _, _, _, hask, .inl ⟨fun h_ => absurd h_ (by first | exact (by decide : ¬ (2 : Int) = 0) | exact (by decide : ¬ (71 : Int) = 0)), rfl⟩⟩
theorem step_8 (bs : List Int) (hb : Bytes bs) (hl : bs.length ≤ 1048576) (at_ who n each : Int) (h0 : 0 ≤ at_) (h1 : at_ ≤ bs.length) (hn : -9223372036854775808 ≤ n ∧ n ≤ 9223372036854775807) (he : -9223372036854775808 ≤ each ∧ each ≤ 9223372036854775807) : StepOk bs at_ who 8 n each := by
  have p13 := pick_f 8 13 (by decide) (by decide)
  have p10 := pick_f 8 10 (by decide) (by decide)
  have hlt : (bs.take at_.toNat).length ≤ 1048576 := by rw [List.length_take]; omega
  have hask : colonnadelaw07_ask.f bs at_ 0 who 8 n each = some (0, (blkR bs at_ 0 n).1, ([] : List ByteArray), (blkR bs at_ 0 n).2.1, (blkR bs at_ 0 n).2.2) := by
    simp only [colonnadelaw07_ask.f, p13, cursor_Reader_Block.f, ite_in h0 h1 hn (show bs.length < 140737488355328 by omega), Option.bind_some]
    rfl
  unfold blkR at hask
  rw [if_neg (show ¬ ((0 : Int) ≠ 0) by decide)] at hask
  by_cases c1 : n < 0
  · rw [if_pos c1] at hask
    exact ⟨_, _, _, _, _, hask, .inl ⟨fun h_ => absurd h_ (by first | exact (by decide : ¬ (2 : Int) = 0) | exact (by decide : ¬ (71 : Int) = 0)), rfl⟩⟩
  · rw [if_neg c1] at hask
    rcases hv : blockF (bs.drop at_.toNat) n with e | ⟨p, rest⟩
    · rw [hv] at hask
      have := blockF_err hv
      exact ⟨_, _, _, _, _, hask, .inl ⟨by show e ≠ 0; omega, rfl⟩⟩
    · rw [hv] at hask
      obtain ⟨e, hp, h64⟩ := blockF_back (hb.drop _) hv
      obtain ⟨a1, a2, a3, a4⟩ := tk_app h0 h1 e
      have hpl : p.length ≤ (blkf p).length := by rw [blkf, List.length_append]; omega
      refine ⟨_, _, _, _, _, hask, .inr ⟨rfl, a1, a2, ?_⟩⟩
      have := putblk_e (bs.take at_.toNat) p (by omega)
      rw [← a3] at this
      simpa [colonnadelaw07_again.f, p10] using this
theorem step_9 (bs : List Int) (hb : Bytes bs) (hl : bs.length ≤ 1048576) (at_ who n each : Int) (h0 : 0 ≤ at_) (h1 : at_ ≤ bs.length) (hn : -9223372036854775808 ≤ n ∧ n ≤ 9223372036854775807) (he : -9223372036854775808 ≤ each ∧ each ≤ 9223372036854775807) : StepOk bs at_ who 9 n each := by
  have p13 := pick_f 9 13 (by decide) (by decide)
  have p10 := pick_f 9 10 (by decide) (by decide)
  have hlt : (bs.take at_.toNat).length ≤ 1048576 := by rw [List.length_take]; omega
  have hask : colonnadelaw07_ask.f bs at_ 0 who 9 n each = some (0, ([] : List Int), (txR bs at_ 0 n each).1, (txR bs at_ 0 n each).2.1, (txR bs at_ 0 n each).2.2) := by
    simp only [colonnadelaw07_ask.f, p13, cursor_Reader_Texts.f, if_pos (show atIn bs at_ ∧ (-9223372036854775808 ≤ n ∧ n ≤ 9223372036854775807) ∧ (-9223372036854775808 ≤ each ∧ each ≤ 9223372036854775807) ∧ bs.length < 8796093022208 from ⟨⟨h0, h1⟩, hn, he, by omega⟩), Option.bind_some]
    rfl
  unfold txR at hask
  rw [if_neg (show ¬ ((0 : Int) ≠ 0) by decide)] at hask
  rcases hv : textsF (bs.drop at_.toNat) n each with e | ⟨ps, rest⟩
  · rw [hv] at hask
    have := textsF_err hv
    exact ⟨_, _, _, _, _, hask, .inl ⟨by show e ≠ 0; omega, rfl⟩⟩
  · rw [hv] at hask
    obtain ⟨e, h64, hm, hq⟩ := textsF_back (hb.drop _) hv
    obtain ⟨a1, a2, a3, a4⟩ := tk_app h0 h1 e
    have hpl : (blks ps).length ≤ (txf ps).length := by rw [txf, List.length_append]; omega
    have hbl := blkl_le ps
    refine ⟨_, _, _, _, _, hask, .inr ⟨rfl, a1, a2, ?_⟩⟩
    have := puttx_e ps (fun p hp => (hq p hp).2) (bs.take at_.toNat) (by omega) (by omega)
    rw [← a3] at this
    simpa [colonnadelaw07_again.f, p10] using this
theorem step (bs : List Int) (hb : Bytes bs) (hl : bs.length ≤ 1048576) (at_ who n each : Int) (h0 : 0 ≤ at_) (h1 : at_ ≤ bs.length) (hn : -9223372036854775808 ≤ n ∧ n ≤ 9223372036854775807) (he : -9223372036854775808 ≤ each ∧ each ≤ 9223372036854775807) (kk : Int) (hk : 0 ≤ kk ∧ kk < 10) : StepOk bs at_ who kk n each := by
  have : kk = 0 ∨ kk = 1 ∨ kk = 2 ∨ kk = 3 ∨ kk = 4 ∨ kk = 5 ∨ kk = 6 ∨ kk = 7 ∨ kk = 8 ∨ kk = 9 := by omega
  rcases this with rfl | rfl | rfl | rfl | rfl | rfl | rfl | rfl | rfl | rfl
  · exact step_0 bs hb hl at_ who n each h0 h1 hn he
  · exact step_1 bs hb hl at_ who n each h0 h1 hn he
  · exact step_2 bs hb hl at_ who n each h0 h1 hn he
  · exact step_3 bs hb hl at_ who n each h0 h1 hn he
  · exact step_4 bs hb hl at_ who n each h0 h1 hn he
  · exact step_5 bs hb hl at_ who n each h0 h1 hn he
  · exact step_6 bs hb hl at_ who n each h0 h1 hn he
  · exact step_7 bs hb hl at_ who n each h0 h1 hn he
  · exact step_8 bs hb hl at_ who n each h0 h1 hn he
  · exact step_9 bs hb hl at_ who n each h0 h1 hn he
theorem form_end {bs : List Int} {at_ : Int} (hl : bs.length ≤ 1048576) (h0 : 0 ≤ at_) (h1 : at_ ≤ bs.length) :
    (if (wrap64 ((bs.length : Int) - ((bs.length : Int) - at_))) ≥ 0 then (if (wrap64 ((bs.length : Int) - ((bs.length : Int) - at_))) ≤ (bs.length : Int) then (if 0 ≤ (wrap64 ((bs.length : Int) - ((bs.length : Int) - at_))) then (some ((strOfNums (bs.take at_.toNat)).toList == (strOfNums (bs.take ((wrap64 ((bs.length : Int) - ((bs.length : Int) - at_))) : Int).toNat)).toList)) else (none)) else (some false)) else (some false)) = some true := by
  rw [show (bs.length : Int) - ((bs.length : Int) - at_) = at_ by omega, wrap64_in (by omega) (by omega), if_pos (by omega), if_pos (by omega), if_pos (by omega)]
  simp
theorem form_l0 (bs : List Int) (hb : Bytes bs) (hl : bs.length ≤ 1048576) (l1 : List S48) (hl1 : l1.length ≤ 1048576) (hok : ∀ y ∈ l1, okS48 y) (d : Nat) : ∀ (i : Nat) (at_ : Int), i + d = l1.length → 0 ≤ at_ → at_ ≤ bs.length →
    Evn (fun k => colonnadelaw07_CursorForm.l0 k bs l1 (bs.take at_.toNat) (i : Int) bs at_ 0) true := by
  induction d with
  | zero =>
    intro i at_ hi h0 h1
    refine Evn.succ (fun _ => rfl) ?_
    simp only [colonnadelaw07_CursorForm.l0]
    refine Evn.neg (by omega) ?_
    simp only [cursor_Reader_Left.f, if_pos (at_in h0 h1), Option.bind_some]
    rw [form_end hl h0 h1]
    exact Evn.now _
  | succ d ih =>
    intro i at_ hi h0 h1
    have hi' : i < l1.length := by omega
    have er : rd_T48 l1 (i : Int) = l1[i] := by unfold rd_T48; rw [Int.toNat_natCast, List.getD_eq_getElem?_getD, List.getElem?_eq_getElem hi']; rfl
    have ho := hok _ (List.getElem_mem hi')
    obtain ⟨o0, o1, o2, o3⟩ := ho
    obtain ⟨kk, hk0, hk1, hp⟩ := pick_in (l1[i]).f1 10 (by decide) (by decide)
    refine Evn.succ (fun _ => rfl) ?_
    simp only [colonnadelaw07_CursorForm.l0]
    refine Evn.pos (by omega) (Evn.pos (by omega) ?_)
    rw [er, hp]
    simp only [Option.bind_some]
    obtain ⟨u, b, t, at1, f1, e1, hc⟩ := step bs hb hl at_ (l1[i]).f0 (l1[i]).f2 (l1[i]).f3 h0 h1 (wf_i64 o2) (wf_i64 o3) kk ⟨hk0, hk1⟩
    rw [e1]
    simp only [Option.bind_some]
    rcases hc with ⟨hf, rfl⟩ | ⟨rfl, ha0, ha1, hg⟩
    · simp only [cursor_Reader_Fault.f, cursor_Reader_Left.f, if_pos (at_in h0 h1), Option.bind_some, if_neg hf]
      rw [form_end hl h0 h1]
      exact Evn.now _
    · simp only [cursor_Reader_Fault.f, if_pos (at_in (show 0 ≤ at1 by omega) ha1), Option.bind_some, if_pos]
      rw [wrap64_in (n := (i : Int) + 1) (by omega) (by omega), show (i : Int) + 1 = ((i + 1 : Nat) : Int) by omega]
      exact Evn.bind hg (ih (i + 1) at1 (by omega) (by omega) ha1)
theorem len_sum {α : Type} (m : α → Nat) (hm : ∀ x, 1 ≤ m x) (l : List α) : l.length ≤ (l.map m).sum := by
  induction l with
  | nil => simp
  | cons x l ih => have := hm x; simp only [List.length_cons, List.map_cons, List.sum_cons]; omega
theorem CursorForm (l0 : List Int) (l1 : List S48) (h0 : (l0.length * 1 ≤ 140737488351232 ∧ ∀ y0_ ∈ l0, (Lit.int .u8 y0_).wf = true)) (h1 : (l1.length * 32 ≤ 140737488351232 ∧ ∀ y0_ ∈ l1, okS48 y0_)) (hsmall : (sumB (fun _ => 1)) l0 + (sumB bS48) l1 ≤ 1048576) : ∃ k, colonnadelaw07_CursorForm.f k l0 l1 = some true := by
  have hb : Bytes l0 := fun x hx => wf_u8 (h0.2 x hx)
  have s0 := len_sum (fun _ : Int => 1) (fun _ => Nat.le_refl _) l0
  have s1 := len_sum bS48 (fun x => by simp only [bS48]; omega) l1
  unfold sumB at hsmall
  have hg := form_l0 l0 hb (by omega) l1 (by omega) h1.2 l1.length 0 0 (by omega) (by omega) (by omega)
  refine Evn.ex (r := true) ?_
  unfold colonnadelaw07_CursorForm.f colonnadelaw07_awake.f cursor_Open.f
  simp only [Option.bind_some, if_pos (show l0.length < 140737488355328 by omega)]
  exact Evn.pos trivial hg
end Go.Proofs.Ythpoomdillhcbaa.Pure
