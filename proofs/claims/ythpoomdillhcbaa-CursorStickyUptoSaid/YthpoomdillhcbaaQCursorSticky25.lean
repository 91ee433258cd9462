/- The texts of CursorSticky, merged: part 25. -/
import Derived.Test.YthpoomdillhcbaaQCursorSticky14
import Derived.Test.YthpoomdillhcbaaQCursorSticky6
import Derived.Test.YthpoomdillhcbaaQCursorSticky24
/- CursorSticky: of bytes and calls (no more than the second form's size) a reading that is refused answers zero and leaves the place; then fault and place stay. -/
namespace Go.Proofs.Ythpoomdillhcbaa.Pure
open Go.RowKit Go.Proofs.Ythpoomdillhcbaa.Pa Go.Proofs.Ythpoomdillhcbaa.L Go.Proofs.Ythpoomdillhcbaa.O Go.Proofs.YthpoomdillhcbaaW.PrintWords Go.Proofs.YthpoomdillhcbaaW.PrintLast Go.Proofs.YthpoomdillhcbaaW.PrintMore
set_option linter.unusedVariables false
set_option linter.unusedSimpArgs false
theorem pick_f (a n : Int) (h0 : 0 ≤ a) (h1 : a < n) : colonnadelaw07_pick.f a n = some a := by
  unfold colonnadelaw07_pick.f
  rw [if_neg (by omega), Int.tmod_eq_emod_of_nonneg h0, Int.emod_eq_of_lt h0 h1, if_neg (by omega)]
theorem pick_in (a n : Int) (hn : 0 < n) (hn1 : n < 1000000) : ∃ b, 0 ≤ b ∧ b < n ∧ colonnadelaw07_pick.f a n = some b := by
  have h1 := Int.tmod_lt_of_pos a hn
  have h2 := Int.lt_tmod_of_pos a hn
  unfold colonnadelaw07_pick.f
  rw [if_neg (by omega)]
  by_cases h : Int.tmod a n < 0
  · rw [if_pos h, wrap64_in (by omega) (by omega)]
    exact ⟨_, by omega, by omega, rfl⟩
  · rw [if_neg h]
    exact ⟨_, by omega, by omega, rfl⟩
/-- How a reading ends: it goes on, or is refused, or was refused before. -/
def Ends (bs : List Int) (at_ fault at1 f1 : Int) (zero : Prop) : Prop :=
  (fault = 0 ∧ f1 = 0 ∧ at_ ≤ at1 ∧ at1 ≤ bs.length) ∨ (fault = 0 ∧ f1 ≠ 0 ∧ at1 = at_ ∧ zero) ∨ (fault ≠ 0 ∧ f1 = fault ∧ at1 = at_ ∧ zero)
theorem Ends.imp {bs : List Int} {at_ fault at1 f1 : Int} {p q : Prop} (h : Ends bs at_ fault at1 f1 p) (hq : p → q) : Ends bs at_ fault at1 f1 q := by
  rcases h with h | ⟨a, b, c, d⟩ | ⟨a, b, c, d⟩
  · exact .inl h
  · exact .inr (.inl ⟨a, b, c, hq d⟩)
  · exact .inr (.inr ⟨a, b, c, hq d⟩)
theorem drop_len {bs a r : List Int} {at_ : Int} (h0 : 0 ≤ at_) (h1 : at_ ≤ bs.length) (e : bs.drop at_.toNat = a ++ r) : at_ ≤ (bs.length : Int) - r.length ∧ (bs.length : Int) - r.length ≤ bs.length := by
  have hl := congrArg List.length e
  rw [List.length_drop, List.length_append] at hl
  omega
theorem tak_e (bs : List Int) (at_ fault : Int) (n : Nat) : ∃ v at1 f1, takR n bs at_ fault = (v, at1, f1) ∧ Ends bs at_ fault at1 f1 (v = 0) := by
  unfold takR
  by_cases hf : fault = 0
  · rw [if_neg (by omega)]
    by_cases h : at_ + (n : Int) ≤ bs.length
    · rw [if_pos h]
      exact ⟨_, _, _, rfl, .inl ⟨hf, rfl, by omega, h⟩⟩
    · rw [if_neg h]
      exact ⟨_, _, _, rfl, .inr (.inl ⟨hf, by decide, rfl, rfl⟩)⟩
  · rw [if_pos hf]
    exact ⟨_, _, _, rfl, .inr (.inr ⟨hf, rfl, rfl, rfl⟩)⟩
theorem byt_e (bs : List Int) (at_ fault : Int) (n : Int) : ∃ v at1 f1, bytR bs at_ fault n = (v, at1, f1) ∧ Ends bs at_ fault at1 f1 (v = []) := by
  unfold bytR
  by_cases hf : fault = 0
  · rw [if_neg (by omega)]
    by_cases g : n < 0
    · rw [if_pos g]
      exact ⟨_, _, _, rfl, .inr (.inl ⟨hf, by decide, rfl, rfl⟩)⟩
    · rw [if_neg g]
      by_cases g2 : n ≤ (bs.length : Int) - at_
      · rw [if_pos g2]
        exact ⟨_, _, _, rfl, .inl ⟨hf, rfl, by omega, by omega⟩⟩
      · rw [if_neg g2]
        exact ⟨_, _, _, rfl, .inr (.inl ⟨hf, by decide, rfl, rfl⟩)⟩
  · rw [if_pos hf]
    exact ⟨_, _, _, rfl, .inr (.inr ⟨hf, rfl, rfl, rfl⟩)⟩
section
variable (bs : List Int) (hb : Bytes bs) (at_ fault : Int) (h0 : 0 ≤ at_) (h1 : at_ ≤ bs.length)
include hb h0 h1
theorem uv_e : ∃ v at1 f1, uvR bs at_ fault = (v, at1, f1) ∧ Ends bs at_ fault at1 f1 (v = 0) := by
  unfold uvR
  by_cases hf : fault = 0
  · rw [if_neg (by omega)]
    rcases hv : numF (bs.drop at_.toNat) 0 0 with e | ⟨v, r⟩
    · have := numF_err _ _ _ _ hv
      exact ⟨_, _, _, rfl, .inr (.inl ⟨hf, by omega, rfl, rfl⟩)⟩
    · obtain ⟨_, _, e⟩ := numF_back (hb.drop _) hv
      have := drop_len h0 h1 e
      exact ⟨_, _, _, rfl, .inl ⟨hf, rfl, this.1, this.2⟩⟩
  · rw [if_pos hf]
    exact ⟨_, _, _, rfl, .inr (.inr ⟨hf, rfl, rfl, rfl⟩)⟩
theorem vi_e : ∃ v at1 f1, viR bs at_ fault = (v, at1, f1) ∧ Ends bs at_ fault at1 f1 (v = 0) := by
  unfold viR
  by_cases hf : fault = 0
  · rw [if_neg (by omega)]
    rcases hv : numF (bs.drop at_.toNat) 0 0 with e | ⟨v, r⟩
    · have := numF_err _ _ _ _ hv
      exact ⟨_, _, _, rfl, .inr (.inl ⟨hf, by omega, rfl, rfl⟩)⟩
    · obtain ⟨_, _, e⟩ := numF_back (hb.drop _) hv
      have := drop_len h0 h1 e
      exact ⟨_, _, _, rfl, .inl ⟨hf, rfl, this.1, this.2⟩⟩
  · rw [if_pos hf]
    exact ⟨_, _, _, rfl, .inr (.inr ⟨hf, rfl, rfl, rfl⟩)⟩
theorem blk_e (n : Int) : ∃ v at1 f1, blkR bs at_ fault n = (v, at1, f1) ∧ Ends bs at_ fault at1 f1 (v = []) := by
  unfold blkR
  by_cases hf : fault = 0
  · rw [if_neg (by omega)]
    by_cases g : n < 0
    · rw [if_pos g]
      exact ⟨_, _, _, rfl, .inr (.inl ⟨hf, by decide, rfl, rfl⟩)⟩
    · rw [if_neg g]
      rcases hv : blockF (bs.drop at_.toNat) n with e | ⟨p, r⟩
      · have := blockF_err hv
        exact ⟨_, _, _, rfl, .inr (.inl ⟨hf, by omega, rfl, rfl⟩)⟩
      · obtain ⟨e, _, _⟩ := blockF_back (hb.drop _) hv
        have := drop_len h0 h1 e
        exact ⟨_, _, _, rfl, .inl ⟨hf, rfl, this.1, this.2⟩⟩
  · rw [if_pos hf]
    exact ⟨_, _, _, rfl, .inr (.inr ⟨hf, rfl, rfl, rfl⟩)⟩
theorem tx_e (n each : Int) : ∃ v at1 f1, txR bs at_ fault n each = (v, at1, f1) ∧ Ends bs at_ fault at1 f1 (v = []) := by
  unfold txR
  by_cases hf : fault = 0
  · rw [if_neg (by omega)]
    rcases hv : textsF (bs.drop at_.toNat) n each with e | ⟨p, r⟩
    · have := textsF_err hv
      exact ⟨_, _, _, rfl, .inr (.inl ⟨hf, by omega, rfl, rfl⟩)⟩
    · obtain ⟨e, _⟩ := textsF_back (hb.drop _) hv
      have := drop_len h0 h1 e
      exact ⟨_, _, _, rfl, .inl ⟨hf, rfl, this.1, this.2⟩⟩
  · rw [if_pos hf]
    exact ⟨_, _, _, rfl, .inr (.inr ⟨hf, rfl, rfl, rfl⟩)⟩
end
theorem at_in {bs : List Int} {at_ : Int} (h0 : 0 ≤ at_) (h1 : at_ ≤ bs.length) : atIn bs at_ := ⟨h0, h1⟩
theorem ask_e (bs : List Int) (hb : Bytes bs) (hl : bs.length ≤ 1048576) (at_ fault : Int) (h0 : 0 ≤ at_) (h1 : at_ ≤ bs.length) (who kk n each : Int) (hk : 0 ≤ kk ∧ kk < 10) (hn : -9223372036854775808 ≤ n ∧ n ≤ 9223372036854775807) (he : -9223372036854775808 ≤ each ∧ each ≤ 9223372036854775807) :
    ∃ u b t at1 f1, colonnadelaw07_ask.f bs at_ fault who kk n each = some (u, b, t, at1, f1) ∧ Ends bs at_ fault at1 f1 (u = 0 ∧ b = [] ∧ t = []) := by
  have hat := at_in h0 h1
  have p13 := pick_f kk 13 hk.1 (by omega)
  have hcase : kk = 0 ∨ kk = 1 ∨ kk = 2 ∨ kk = 3 ∨ kk = 4 ∨ kk = 5 ∨ kk = 6 ∨ kk = 7 ∨ kk = 8 ∨ kk = 9 := by omega
  unfold colonnadelaw07_ask.f
  rw [p13]
  simp only [Option.bind_some]
  rcases hcase with rfl | rfl | rfl | rfl | rfl | rfl | rfl | rfl | rfl | rfl
  · obtain ⟨v, at1, f1, e, hE⟩ := tak_e bs at_ fault 1
    simp only [cursor_Take_uint8.f, if_pos hat, e]
    exact ⟨_, _, _, _, _, rfl, hE.imp (fun h => ⟨by rw [h]; first | exact (by decide : IntKind.u64.wrap (IntKind.u8.wrap 0) = 0) | exact (by decide : IntKind.u64.wrap (IntKind.u16.wrap 0) = 0) | exact (by decide : IntKind.u64.wrap (IntKind.u32.wrap 0) = 0) | exact (by decide : IntKind.u64.wrap 0 = 0), rfl, rfl⟩)⟩
  · obtain ⟨v, at1, f1, e, hE⟩ := tak_e bs at_ fault 2
    simp only [cursor_Take_uint16.f, if_pos hat, e]
    exact ⟨_, _, _, _, _, rfl, hE.imp (fun h => ⟨by rw [h]; first | exact (by decide : IntKind.u64.wrap (IntKind.u8.wrap 0) = 0) | exact (by decide : IntKind.u64.wrap (IntKind.u16.wrap 0) = 0) | exact (by decide : IntKind.u64.wrap (IntKind.u32.wrap 0) = 0) | exact (by decide : IntKind.u64.wrap 0 = 0), rfl, rfl⟩)⟩
  · obtain ⟨v, at1, f1, e, hE⟩ := tak_e bs at_ fault 4
    simp only [cursor_Take_uint32.f, if_pos hat, e]
    exact ⟨_, _, _, _, _, rfl, hE.imp (fun h => ⟨by rw [h]; first | exact (by decide : IntKind.u64.wrap (IntKind.u8.wrap 0) = 0) | exact (by decide : IntKind.u64.wrap (IntKind.u16.wrap 0) = 0) | exact (by decide : IntKind.u64.wrap (IntKind.u32.wrap 0) = 0) | exact (by decide : IntKind.u64.wrap 0 = 0), rfl, rfl⟩)⟩
  · obtain ⟨v, at1, f1, e, hE⟩ := tak_e bs at_ fault 8
    simp only [cursor_Take_uint64.f, if_pos hat, e]
    exact ⟨_, _, _, _, _, rfl, hE.imp (fun h => ⟨h, rfl, rfl⟩)⟩
  · obtain ⟨v, at1, f1, e, hE⟩ := tak_e bs at_ fault 2
    simp only [colonnadelaw07_tall_74.f, if_pos hat, e]
    exact ⟨_, _, _, _, _, rfl, hE.imp (fun h => ⟨by rw [h]; first | exact (by decide : IntKind.u64.wrap (IntKind.u8.wrap 0) = 0) | exact (by decide : IntKind.u64.wrap (IntKind.u16.wrap 0) = 0) | exact (by decide : IntKind.u64.wrap (IntKind.u32.wrap 0) = 0) | exact (by decide : IntKind.u64.wrap 0 = 0), rfl, rfl⟩)⟩
  · obtain ⟨v, at1, f1, e, hE⟩ := uv_e bs hb at_ fault h0 h1
    simp only [cursor_Reader_Uvarint.f, if_pos hat, e]
    exact ⟨_, _, _, _, _, rfl, hE.imp (fun h => ⟨h, rfl, rfl⟩)⟩
  · obtain ⟨v, at1, f1, e, hE⟩ := vi_e bs hb at_ fault h0 h1
    simp only [cursor_Reader_Varint.f, if_pos hat, e]
    exact ⟨_, _, _, _, _, rfl, hE.imp (fun h => ⟨by rw [h]; first | exact (by decide : IntKind.u64.wrap (IntKind.u8.wrap 0) = 0) | exact (by decide : IntKind.u64.wrap (IntKind.u16.wrap 0) = 0) | exact (by decide : IntKind.u64.wrap (IntKind.u32.wrap 0) = 0) | exact (by decide : IntKind.u64.wrap 0 = 0), rfl, rfl⟩)⟩
  · obtain ⟨v, at1, f1, e, hE⟩ := byt_e bs at_ fault n
    simp only [cursor_Reader_Bytes.f, if_pos (show atIn bs at_ ∧ (-9223372036854775808 ≤ n ∧ n ≤ 9223372036854775807) ∧ bs.length < 140737488355328 from ⟨hat, hn, by omega⟩), e]
    exact ⟨_, _, _, _, _, rfl, hE.imp (fun h => ⟨rfl, h, rfl⟩)⟩
  · obtain ⟨v, at1, f1, e, hE⟩ := blk_e bs hb at_ fault h0 h1 n
    simp only [cursor_Reader_Block.f, if_pos (show atIn bs at_ ∧ (-9223372036854775808 ≤ n ∧ n ≤ 9223372036854775807) ∧ bs.length < 140737488355328 from ⟨hat, hn, by omega⟩), e]
    exact ⟨_, _, _, _, _, rfl, hE.imp (fun h => ⟨rfl, h, rfl⟩)⟩
  · obtain ⟨v, at1, f1, e, hE⟩ := tx_e bs hb at_ fault h0 h1 n each
    simp only [cursor_Reader_Texts.f, if_pos (show atIn bs at_ ∧ (-9223372036854775808 ≤ n ∧ n ≤ 9223372036854775807) ∧ (-9223372036854775808 ≤ each ∧ each ≤ 9223372036854775807) ∧ bs.length < 8796093022208 from ⟨hat, hn, he, by omega⟩), e]
    exact ⟨_, _, _, _, _, rfl, hE.imp (fun h => ⟨rfl, rfl, h⟩)⟩
theorem end_f (bs : List Int) (at_ f : Int) (h0 : 0 ≤ at_) (h1 : at_ ≤ bs.length) : cursor_Reader_End.f bs at_ f = some (if f ≠ 0 ∨ at_ = bs.length then f else 72, at_, f) := by
  have hat := at_in h0 h1
  unfold cursor_Reader_End.f
  simp only [cursor_Reader_Fault.f, cursor_Reader_Left.f, if_pos hat, Option.bind_some]
  by_cases hf : f = 0
  · rw [if_pos hf]
    by_cases he : at_ = (bs.length : Int)
    · rw [if_pos (by omega), if_pos (.inr he)]
    · rw [if_neg (by omega), if_neg (by omega)]
  · rw [if_neg hf, if_pos (.inl hf)]
theorem j5_e (bs : List Int) (l1 : List S48) (x8 : Int) (at_ f : Int) (h0 : 0 ≤ at_) (h1 : at_ ≤ bs.length) (hg : Evn (fun k => colonnadelaw07_CursorSticky.l0 k l1 ((bs.length : Int) - at_) f (wrap64 (x8 + 1)) bs at_ f) true) : Evn (fun k => colonnadelaw07_CursorSticky.j5 k l1 x8 false bs at_ f) true := by
  have hat := at_in h0 h1
  refine Evn.succ (fun _ => rfl) ?_
  simp only [colonnadelaw07_CursorSticky.j5]
  refine Evn.neg (by decide) ?_
  simp only [cursor_Reader_Fault.f, cursor_Reader_Left.f, if_pos hat, Option.bind_some]
  by_cases hf : f = 0
  · refine Evn.pos hf ?_
    rw [end_f bs at_ f h0 h1]
    simp only [Option.bind_some]
    refine Evn.neg ?_ hg
    by_cases he : at_ = (bs.length : Int)
    · rw [if_pos (.inr he), hf, he]; simp
    · rw [if_neg (by omega)]
      have : ((bs.length : Int) - at_ == 0) = false := beq_eq_false_iff_ne.2 (by omega)
      rw [this]
      decide
  · exact Evn.neg hf hg
section
variable (bs : List Int) (l1 : List S48) (x8 : Int)
theorem j4_e (at_ f left : Int) (h0 : 0 ≤ at_) (h1 : at_ ≤ bs.length) (hle : (bs.length : Int) - at_ ≤ left) (hg : Evn (fun k => colonnadelaw07_CursorSticky.l0 k l1 ((bs.length : Int) - at_) f (wrap64 (x8 + 1)) bs at_ f) true) : Evn (fun k => colonnadelaw07_CursorSticky.j4 k l1 left x8 false bs at_ f) true := by
  have hat := at_in h0 h1
  refine Evn.succ (fun _ => rfl) ?_
  simp only [colonnadelaw07_CursorSticky.j4]
  refine Evn.neg (by decide) ?_
  simp only [cursor_Reader_Left.f, if_pos hat, Option.bind_some]
  refine Evn.neg (by omega) ?_
  rw [decide_eq_false (by omega)]
  exact j5_e bs l1 x8 at_ f h0 h1 hg
theorem j2_e (at_ fault at1 f1 : Int) (z : Bool) (h0 : 0 ≤ at_) (h1 : at_ ≤ bs.length) (hE : Ends bs at_ fault at1 f1 (z = true)) (hg : 0 ≤ at1 → at1 ≤ bs.length → Evn (fun k => colonnadelaw07_CursorSticky.l0 k l1 ((bs.length : Int) - at1) f1 (wrap64 (x8 + 1)) bs at1 f1) true) :
    Evn (fun k => colonnadelaw07_CursorSticky.j2 k l1 ((bs.length : Int) - at_) fault x8 z bs at1 f1) true := by
  refine Evn.succ (fun _ => rfl) ?_
  simp only [colonnadelaw07_CursorSticky.j2]
  rcases hE with ⟨rfl, rfl, a, b⟩ | ⟨rfl, a, rfl, rfl⟩ | ⟨a, rfl, rfl, rfl⟩
  · have hat := at_in (show 0 ≤ at1 by omega) b
    refine Evn.pos rfl (Evn.succ (fun _ => rfl) ?_)
    simp only [colonnadelaw07_CursorSticky.j3]
    refine Evn.neg (by decide) (Evn.pos trivial ?_)
    simp only [cursor_Reader_Fault.f, if_pos hat, Option.bind_some]
    exact Evn.pos trivial (j4_e bs l1 x8 at1 0 _ (by omega) b (by omega) (hg (by omega) b))
  · have hat := at_in h0 h1
    refine Evn.pos rfl (Evn.succ (fun _ => rfl) ?_)
    simp only [colonnadelaw07_CursorSticky.j3]
    refine Evn.neg (by decide) (Evn.pos trivial ?_)
    simp only [cursor_Reader_Fault.f, cursor_Reader_Left.f, if_pos hat, Option.bind_some]
    refine Evn.neg a (Evn.pos (by simp) ?_)
    rw [show ((bs.length : Int) - at1 != (bs.length : Int) - at1) = false by simp]
    exact j4_e bs l1 x8 at1 f1 _ h0 h1 (Int.le_refl _) (hg h0 h1)
  · have hat := at_in h0 h1
    refine Evn.neg a (Evn.pos (by simp) ?_)
    simp only [cursor_Reader_Fault.f, cursor_Reader_Left.f, if_pos hat, Option.bind_some]
    refine Evn.pos trivial (Evn.pos trivial ?_)
    rw [end_f bs at1 f1 h0 h1]
    simp only [Option.bind_some]
    rw [if_pos (.inl a), show (f1 != f1) = false by simp]
    refine Evn.succ (fun _ => rfl) ?_
    simp only [colonnadelaw07_CursorSticky.j3]
    exact Evn.neg (by decide) (Evn.neg a (j4_e bs l1 x8 at1 f1 _ h0 h1 (Int.le_refl _) (hg h0 h1)))
end
theorem l0_e (bs : List Int) (hb : Bytes bs) (hl : bs.length ≤ 1048576) (l1 : List S48) (hl1 : l1.length ≤ 1048576) (hok : ∀ y ∈ l1, okS48 y) (d : Nat) : ∀ (i : Nat) (at_ f : Int), i + d = l1.length → 0 ≤ at_ → at_ ≤ bs.length → Evn (fun k => colonnadelaw07_CursorSticky.l0 k l1 ((bs.length : Int) - at_) f (i : Int) bs at_ f) true := by
  induction d with
  | zero =>
    intro i at_ f hi h0 h1
    refine Evn.succ (fun _ => rfl) ?_
    simp only [colonnadelaw07_CursorSticky.l0]
    exact Evn.neg (by omega) (Evn.now _)
  | succ d ih =>
    intro i at_ f hi h0 h1
    have hi' : i < l1.length := by omega
    have er : rd_T48 l1 (i : Int) = l1[i] := by unfold rd_T48; rw [Int.toNat_natCast, List.getD_eq_getElem?_getD, List.getElem?_eq_getElem hi']; rfl
    obtain ⟨o0, o1, o2, o3⟩ := hok _ (List.getElem_mem hi')
    obtain ⟨kk, hk0, hk1, hp⟩ := pick_in (l1[i]).f1 10 (by decide) (by decide)
    obtain ⟨u, b, t, at1, f1, e1, hE⟩ := ask_e bs hb hl at_ f h0 h1 (l1[i]).f0 kk (l1[i]).f2 (l1[i]).f3 ⟨hk0, hk1⟩ (wf_i64 o2) (wf_i64 o3)
    have hw : wrap64 ((i : Int) + 1) = ((i + 1 : Nat) : Int) := by rw [wrap64_in (by omega) (by omega)]; omega
    have hg : 0 ≤ at1 → at1 ≤ bs.length → Evn (fun k => colonnadelaw07_CursorSticky.l0 k l1 ((bs.length : Int) - at1) f1 (wrap64 ((i : Int) + 1)) bs at1 f1) true := fun a c => by
      rw [hw]
      exact ih (i + 1) at1 f1 (by omega) a c
    refine Evn.succ (fun _ => rfl) ?_
    simp only [colonnadelaw07_CursorSticky.l0]
    refine Evn.pos (by omega) (Evn.pos (by omega) ?_)
    rw [er, hp]
    simp only [Option.bind_some]
    rw [e1]
    simp only [Option.bind_some]
    by_cases hu : u = 0
    · refine Evn.pos hu ?_
      by_cases hbz : (b.length : Int) = 0
      · refine Evn.pos hbz (j2_e bs l1 i at_ f at1 f1 _ h0 h1 (hE.imp fun ⟨_, _, h3⟩ => by rw [h3]; rfl) hg)
      · exact Evn.neg hbz (j2_e bs l1 i at_ f at1 f1 _ h0 h1 (hE.imp fun ⟨_, h2, _⟩ => absurd (by rw [h2]; rfl) hbz) hg)
    · exact Evn.neg hu (j2_e bs l1 i at_ f at1 f1 _ h0 h1 (hE.imp fun ⟨h1, _, _⟩ => absurd h1 hu) hg)
theorem len_sum {α : Type} (m : α → Nat) (hm : ∀ x, 1 ≤ m x) (l : List α) : l.length ≤ (l.map m).sum := by
  induction l with
  | nil => simp
  | cons x l ih => have := hm x; simp only [List.length_cons, List.map_cons, List.sum_cons]; omega
theorem CursorSticky (l0 : List Int) (l1 : List S48) (h0 : (l0.length * 1 ≤ 140737488351232 ∧ ∀ y0_ ∈ l0, (Lit.int .u8 y0_).wf = true)) (h1 : (l1.length * 32 ≤ 140737488351232 ∧ ∀ y0_ ∈ l1, okS48 y0_)) (hsmall : (sumB (fun _ => 1)) l0 + (sumB bS48) l1 ≤ 1048576) : ∃ k, colonnadelaw07_CursorSticky.f k l0 l1 = some true := by
  have hb : Bytes l0 := fun x hx => wf_u8 (h0.2 x hx)
  have s0 := len_sum (fun _ : Int => 1) (fun _ => Nat.le_refl _) l0
  have s1 := len_sum bS48 (fun x => by simp only [bS48]; omega) l1
  unfold sumB at hsmall
  have hat : atIn l0 0 := ⟨by omega, by omega⟩
  have hg := l0_e l0 hb (by omega) l1 (by omega) h1.2 l1.length 0 0 0 (by omega) (by omega) (by omega)
  refine Evn.ex (r := true) ?_
  unfold colonnadelaw07_CursorSticky.f colonnadelaw07_awake.f cursor_Open.f
  simp only [Option.bind_some, if_pos (show l0.length < 140737488355328 by omega)]
  refine Evn.pos trivial ?_
  simp only [cursor_Reader_Left.f, cursor_Reader_Fault.f, if_pos hat, Option.bind_some]
  refine Evn.pos (by omega) (Evn.succ (fun _ => rfl) ?_)
  simp only [colonnadelaw07_CursorSticky.j0]
  refine Evn.neg (by decide) ?_
  simpa using hg
end Go.Proofs.Ythpoomdillhcbaa.Pure
