/- The texts of AtomBounded, merged: part 33. -/
import Derived.Test.YtkedejphebfneaaQAtomBounded21
import Derived.Test.YtkedejphebfneaaQAtomBounded32
import Derived.Test.YtkedejphebfneaaQAtomBounded19
import Derived.Test.YtkedejphebfneaaQAtomBounded8
/- AtomBounded: of any predicate that has bounds and any value: what it says Yes of lies between them. No conditions. -/
namespace Go.Proofs.Ytkedejphebfneaa.V
open Go.RowKit Go.Proofs.Ytkedejphebfneaa.Pa Go.Proofs.Ytkedejphebfneaa.L Go.Proofs.Ytkedejphebfneaa.F Go.Proofs.YtkedejphebfneaaW.PrintWords Go.Proofs.YtkedejphebfneaaW.PrintLast Go.Proofs.YtkedejphebfneaaW.PrintMore
set_option linter.unusedVariables false
set_option linter.unusedSimpArgs false
section
variable {a0 : Int} {a1 : ByteArray} {a2 a3 a4 : Int} {a5 : Nat} {a6 : ByteArray} {l7 : List SV} {l8 : List S32}
theorem ck_in {kind : Int} (hk : kind = 1 ∨ kind = 2) (h : ckN a0 a2 a3 a4 a5 a6 l7 l8 kind = 0) (hv : ∀ c ∈ l7, c.f2 < 18446744073709551616) : ∀ c ∈ l7, gd kind c := by
 unfold ckN rcN at h
 repeat' (split at h)
 all_goals first | (exact absurd h (by decide)) | skip
 rename_i hb
 intro c hc
 have hb2 : badL kind l7 = false := by simpa using hb
 unfold badL at hb2
 rw [List.any_eq_false] at hb2
 have := hb2 c hc
 unfold mayV at this
 rw [mayR_eq _ _ _ (hv c hc)] at this
 simp at this
 exact ⟨this.1.2, this.1.1⟩
theorem ck_val {kind : Int} (h : ckN a0 a2 a3 a4 a5 a6 l7 l8 kind = 0) (h5 : a0 = 5) (hw : a5 < 18446744073709551616) : a3 = kind ∧ mayS a3 a4 a5 a6 = true := by
 unfold ckN rcN at h
 repeat' (split at h)
 all_goals first | (exact absurd h (by decide)) | skip
 rename_i hm hb
 have h1 : mayR a3 a4 a5 a6 = true := by
  cases q : mayR a3 a4 a5 a6 with
  | true => rfl
  | false => exact absurd ⟨Or.inr h5, Or.inl q⟩ hm
 rw [mayR_eq _ _ _ hw] at h1
 refine ⟨?_, h1⟩
 by_cases q : a3 = kind
 ·exact q
 ·exact absurd ⟨Or.inr h5, Or.inr (Or.inl q)⟩ hm
theorem okN_kind (h : okN a0 a2 a3 a4 a5 a6 l7 l8 = true) : ∃ kind, (kind = 1 ∨ kind = 2) ∧ ckN a0 a2 a3 a4 a5 a6 l7 l8 kind = 0 := by
 unfold okN at h
 rw [Bool.or_eq_true, decide_eq_true_eq, decide_eq_true_eq] at h
 rcases h with h | h
 ·exact ⟨1, Or.inl rfl, h⟩
 ·exact ⟨2, Or.inr rfl, h⟩
def btw (v lo hi : SV) : Prop := (lo.f0 = 0 ∨ cmpV v lo ≥ 0) ∧ (hi.f0 = 0 ∨ cmpV v hi ≤ 0)
theorem bd_no {o : Bool} (h : o = false) : bdS a0 a2 a3 a4 a5 a6 l7 o = t9 zV zV false := by
 unfold bdS; rw [if_pos h]
theorem mnS_f2 (l : List SV) : ∀ m : SV, m.f2 < 18446744073709551616 → (∀ c ∈ l, c.f2 < 18446744073709551616) → (mnS m l).f2 < 18446744073709551616 := by
 induction l with
 | nil => intro m hm _; exact hm
 | cons c t ih =>
  intro m hm hl
  show (mnS (if cmpV c m < 0 then c else m) t).f2 < _
  refine ih _ ?_ (fun x hx => hl x (List.mem_cons_of_mem _ hx))
  split
  ·exact hl c (List.mem_cons_self ..)
  ·exact hm
theorem mxS_f2 (l : List SV) : ∀ m : SV, m.f2 < 18446744073709551616 → (∀ c ∈ l, c.f2 < 18446744073709551616) → (mxS' m l).f2 < 18446744073709551616 := by
 induction l with
 | nil => intro m hm _; exact hm
 | cons c t ih =>
  intro m hm hl
  show (mxS' (if cmpV c m > 0 then c else m) t).f2 < _
  refine ih _ ?_ (fun x hx => hl x (List.mem_cons_of_mem _ hx))
  split
  ·exact hl c (List.mem_cons_self ..)
  ·exact hm
theorem rd_mem0 {l : List SV} {j : Nat} (h : j < l.length) : rd_T28 l (j : Int) ∈ l := by
 unfold rd_T28
 simp only [Int.toNat_natCast, List.getD_eq_getElem?_getD, List.getElem?_eq_getElem h, Option.getD_some]
 exact List.getElem_mem h
theorem bd_btw (ok : okN a0 a2 a3 a4 a5 a6 l7 l8 = true) (hw : a5 < 18446744073709551616) (hv : ∀ c ∈ l7, c.f2 < 18446744073709551616) {v : SV} (ht : testS a0 a2 a3 a4 a5 a6 l7 v.f0 v.f1 v.f2 v.f3 = 1) :
  bdS a0 a2 a3 a4 a5 a6 l7 true = t9 zV zV false ∨ ∃ lo hi, bdS a0 a2 a3 a4 a5 a6 l7 true = t9 lo hi true ∧ btw v lo hi ∧ lo.f2 < 18446744073709551616 ∧ hi.f2 < 18446744073709551616 := by
 have o := okN_open ok
 obtain ⟨kind, hk, ck⟩ := okN_kind ok
 have nok : ¬ (true = false) := by decide
 have z2 : zV.f2 < 18446744073709551616 := by decide
 by_cases h4 : a0 = 4
 ·left; unfold bdS; rw [if_neg nok, if_pos h4]
 obtain ⟨hf, hs⟩ : mayS v.f0 v.f1 v.f2 v.f3 = true ∧ sayS a0 a2 a3 a4 a5 a6 l7 v.f0 v.f1 v.f2 v.f3 = true := by
  unfold testS at ht
  split at ht
  ·exact absurd ht (by decide)
  ·rename_i n1
   split at ht
   ·first | (exact absurd ht (by decide)) | (rw [if_neg h4] at ht; exact absurd ht (by decide))
   ·split at ht
    ·rename_i hs
     refine ⟨?_, hs⟩
     cases q : mayS v.f0 v.f1 v.f2 v.f3 with
     | true => rfl
     | false => exact absurd (Or.inr q) n1
    ·exact absurd ht (by decide)
 clear ht
 unfold sayS at hs
 by_cases h1 : a0 = 1
 ·rw [if_pos h1] at hs
  have o2 := o.2.2.1 h1
  have hb : bdS a0 a2 a3 a4 a5 a6 l7 true = if a2 = 1 then t9 ⟨a3, a4, a5, a6⟩ ⟨a3, a4, a5, a6⟩ true else if a2 = 2 then t9 zV zV false else if a2 = 3 ∨ a2 = 4 then t9 zV ⟨a3, a4, a5, a6⟩ true else t9 ⟨a3, a4, a5, a6⟩ zV true := by
   unfold bdS; rw [if_neg nok, if_neg h4, if_neg (by omega), if_neg (by omega), if_neg (by omega)]
  rw [hb]
  have hc : cmpS v.f0 v.f1 v.f2 v.f3 a3 a4 a5 a6 = cmpV v ⟨a3, a4, a5, a6⟩ := rfl
  rw [hc] at hs
  unfold stS at hs
  by_cases b1 : a2 = 1
  ·rw [if_pos b1]
   rw [if_pos b1, beq_iff_eq] at hs
   exact Or.inr ⟨_, _, rfl, ⟨Or.inr (by omega), Or.inr (by omega)⟩, hw, hw⟩
  by_cases b2 : a2 = 2
  ·rw [if_neg b1, if_pos b2]; exact Or.inl rfl
  by_cases b3 : a2 = 3
  ·rw [if_neg b1, if_neg b2, if_pos (Or.inl b3)]
   rw [if_neg b1, if_neg b2, if_pos b3, decide_eq_true_eq] at hs
   exact Or.inr ⟨_, _, rfl, ⟨Or.inl rfl, Or.inr (by omega)⟩, z2, hw⟩
  by_cases b4 : a2 = 4
  ·rw [if_neg b1, if_neg b2, if_pos (Or.inr b4)]
   rw [if_neg b1, if_neg b2, if_neg b3, if_pos b4, decide_eq_true_eq] at hs
   exact Or.inr ⟨_, _, rfl, ⟨Or.inl rfl, Or.inr (by omega)⟩, z2, hw⟩
  rw [if_neg b1, if_neg b2, if_neg (by omega)]
  by_cases b5 : a2 = 5
  ·rw [if_neg b1, if_neg b2, if_neg b3, if_neg b4, if_pos b5, decide_eq_true_eq] at hs
   exact Or.inr ⟨_, _, rfl, ⟨Or.inr (by omega), Or.inl rfl⟩, hw, z2⟩
  rw [if_neg b1, if_neg b2, if_neg b3, if_neg b4, if_neg b5, if_pos (show a2 = 6 by omega), decide_eq_true_eq] at hs
  exact Or.inr ⟨_, _, rfl, ⟨Or.inr (by omega), Or.inl rfl⟩, hw, z2⟩
 rw [if_neg h1] at hs
 by_cases h2 : a0 = 2
 ·rw [if_pos h2, List.any_eq_true] at hs
  obtain ⟨c, hc, hs⟩ := hs
  have hcmp : cmpV v c = 0 := eq_of_beq hs
  have hl : ¬ l7.length = 0 := fun q => by rw [List.length_eq_zero_iff.1 q] at hc; cases hc
  have hm0 : rd_T28 l7 0 ∈ l7 := rd_mem0 (j := 0) (by omega)
  have hg := ck_in hk ck hv
  have mn := mn_le hk l7 _ (hg _ hm0) hg
  have mx := mx_ge hk l7 _ (hg _ hm0) hg
  refine Or.inr ⟨_, _, (by unfold bdS; rw [if_neg nok, if_neg h4, if_pos h2, if_neg hl]), ⟨Or.inr ?_, Or.inr ?_⟩, mnS_f2 l7 _ (hv _ hm0) hv, mxS_f2 l7 _ (hv _ hm0) hv⟩
  ·rw [cmp_alike hk hf (hg c hc) mn.1 hcmp]
   have := mn.2.2 c hc
   omega
  ·rw [cmp_alike hk hf (hg c hc) mx.1 hcmp]
   have := mx.2.2 c hc
   omega
 rw [if_neg h2] at hs
 by_cases h3 : a0 = 3
 ·rw [if_pos h3, Bool.and_eq_true, Bool.and_eq_true, decide_eq_true_eq, decide_eq_true_eq, decide_eq_true_eq] at hs
  have ln := o.2.2.2.2 h3
  have q0 : cmpV v (rd_T28 l7 0) ≥ 0 := hs.1.2
  have q1 : cmpV v (rd_T28 l7 1) ≤ 0 := hs.2
  exact Or.inr ⟨_, _, (by unfold bdS; rw [if_neg nok, if_neg h4, if_neg h2, if_neg (show ¬ a0 = 5 by omega), if_pos h3]), ⟨Or.inr q0, Or.inr q1⟩, hv _ (rd_mem0 (j := 0) (by omega)), hv _ (rd_mem0 (j := 1) (by omega))⟩
 rw [if_neg h3] at hs
 have h5 : a0 = 5 := by omega
 rw [if_pos h5, Bool.and_eq_true, Bool.and_eq_true, decide_eq_true_eq, decide_eq_true_eq] at hs
 have gv : gd 2 v := ⟨hs.1.1, hf⟩
 have gc : gd 2 (⟨a3, a4, a5, a6⟩ : SV) := ⟨hs.1.2, (ck_val ck h5 hw).2⟩
 refine Or.inr ⟨_, _, (by unfold bdS; rw [if_neg nok, if_neg h4, if_neg h2, if_pos h5]), ⟨Or.inr ?_, Or.inl rfl⟩, hw, z2⟩
 rw [cmp_txt gv gc]
 obtain ⟨l, hl⟩ := (pre_iff _ _).1 hs.2
 rw [hl]
 exact cmpB_pre _ _
theorem bd_flag {o : Bool} (h : (bdS a0 a2 a3 a4 a5 a6 l7 o).2.2.2.2.2.2.2.2 = false) : bdS a0 a2 a3 a4 a5 a6 l7 o = t9 zV zV false := by
 unfold bdS at h ⊢
 repeat' split
 all_goals first | rfl | (exfalso; simp_all)
end
end Go.Proofs.Ytkedejphebfneaa.V
namespace Go.Proofs.Ytkedejphebfneaa.Pure
open Go.RowKit Go.Proofs.Ytkedejphebfneaa.Pa Go.Proofs.Ytkedejphebfneaa.V Go.Proofs.Ytkedejphebfneaa.L Go.Proofs.Ytkedejphebfneaa.F Go.Proofs.YtkedejphebfneaaW.PrintWords Go.Proofs.YtkedejphebfneaaW.PrintLast Go.Proofs.YtkedejphebfneaaW.PrintMore
theorem AtomBounded (l0 : S32) (l1 : S28) (h0 : okS32 l0) (h1 : okS28 l1) : ∃ k, colonnadelaw18_AtomBounded.f k l0.f0 l0.f1 l0.f2 l0.f3.f0 l0.f3.f1 l0.f3.f2 l0.f3.f3 l0.f4 l0.f5 l1.f0 l1.f1 l1.f2 l1.f3 = some true := by
 apply Evn.ex
 have hw : l0.f3.f2 < 18446744073709551616 ∧ (∀ c ∈ l0.f4, c.f2 < 18446744073709551616) ∧ l0.f4.length < 3518437208883 ∧ l0.f5.length < 1172812402961 := by
  cases h0 with
  | mk _ a b c d e f g => exact ⟨F.wf_word d.2.2.1, fun x hx => F.wf_word (e.2 x hx).2.2.1, by omega, by omega⟩
 have hv : l1.f2 < 18446744073709551616 := F.wf_word h1.2.2.1
 unfold colonnadelaw18_AtomBounded.f
 obtain ⟨b, hb⟩ := pred_ends l0.f0 l0.f1 l0.f2 l0.f3.f0 l0.f3.f1 l0.f3.f2 l0.f3.f3 l0.f4 l0.f5
 refine Evn.bind hb ?_
 by_cases e : b = true
 ·exact Evn.pos e (Evn.now _)
 refine Evn.neg e (Evn.bind known_f (Evn.pos rfl ?_))
 simp only [twin_f _ _ _ _ _ _ _ _ _ hw.2.2.1 hw.2.2.2, Option.bind_some]
 refine Evn.bind (abounds_f hw.1 hw.2.1) ?_
 generalize ho : okN l0.f0 l0.f2 l0.f3.f0 l0.f3.f1 l0.f3.f2 l0.f3.f3 l0.f4 l0.f5 = ok
 by_cases hf : (bdS l0.f0 l0.f2 l0.f3.f0 l0.f3.f1 l0.f3.f2 l0.f3.f3 l0.f4 ok).2.2.2.2.2.2.2.2 = false
 ·rw [bd_flag hf]
  refine Evn.neg (by decide) (Evn.pos (by decide +kernel) ?_)
  refine Evn.congr (fun k => ?_) (Evn.now true)
  decide +kernel
 ·have hf2 : (bdS l0.f0 l0.f2 l0.f3.f0 l0.f3.f1 l0.f3.f2 l0.f3.f3 l0.f4 ok).2.2.2.2.2.2.2.2 = true := by
   cases q : (bdS l0.f0 l0.f2 l0.f3.f0 l0.f3.f1 l0.f3.f2 l0.f3.f3 l0.f4 ok).2.2.2.2.2.2.2.2 with
   | true => rfl
   | false => exact absurd q hf
  have hok : ok = true := by
   cases ok with
   | true => rfl
   | false => rw [bd_no rfl] at hf2; cases hf2
  subst hok
  refine Evn.pos hf2 (Evn.bind (test_f _ _ _ _ _ _ _ _ _ _ _ _ hw.1 hw.2.1 hv) ?_)
  by_cases ht : testS l0.f0 l0.f2 l0.f3.f0 l0.f3.f1 l0.f3.f2 l0.f3.f3 l0.f4 l1.f0 l1.f1 l1.f2 l1.f3 = 1
  ·refine Evn.pos ht ?_
   rcases bd_btw ho hw.1 hw.2.1 ht with q | ⟨lo, hi, q, hbt, w1, w2⟩
   ·rw [q] at hf2; cases hf2
   rw [q]
   have hhi : hi.f0 ≠ 0 → cmpV l1 hi ≤ 0 := fun n => hbt.2.resolve_left n
   have hlo : lo.f0 ≠ 0 → cmpV l1 lo ≥ 0 := fun n => hbt.1.resolve_left n
   have chi : Evn (fun k => value_Compare.f k l1.f0 l1.f1 l1.f2 l1.f3 hi.f0 hi.f1 hi.f2 hi.f3) (cmpV l1 hi) := compare_f _ _ _ _ _ _ hv w2
   have clo : Evn (fun k => value_Compare.f k l1.f0 l1.f1 l1.f2 l1.f3 lo.f0 lo.f1 lo.f2 lo.f3) (cmpV l1 lo) := compare_f _ _ _ _ _ _ hv w1
   by_cases n1 : lo.f0 = 0
   ·refine Evn.pos n1 ?_
    by_cases n2 : hi.f0 = 0
    ·exact Evn.pos n2 (Evn.now _)
    ·refine Evn.neg n2 (Evn.bind chi ?_)
     rw [decide_eq_true (hhi n2)]
     exact Evn.now _
   ·refine Evn.neg n1 (Evn.bind clo (Evn.pos (hlo n1) ?_))
    by_cases n2 : hi.f0 = 0
    ·exact Evn.pos n2 (Evn.now _)
    ·refine Evn.neg n2 (Evn.bind chi ?_)
     rw [decide_eq_true (hhi n2)]
     exact Evn.now _
  ·exact Evn.neg ht (Evn.now _)
end Go.Proofs.Ytkedejphebfneaa.Pure
