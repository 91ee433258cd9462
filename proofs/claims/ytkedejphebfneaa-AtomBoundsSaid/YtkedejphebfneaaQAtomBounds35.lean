/- The texts of AtomBounds, merged: part 35. -/
import Derived.Test.YtkedejphebfneaaQAtomBounds28
import Derived.Test.YtkedejphebfneaaQAtomBounds31
import Derived.Test.YtkedejphebfneaaQAtomBounds32
import Derived.Test.YtkedejphebfneaaQAtomBounds34
import Derived.Test.YtkedejphebfneaaQAtomBounds8
/- AtomBounds: of any predicate Bounds answers what the document's does. No conditions. -/
namespace Go.Proofs.Ytkedejphebfneaa.V
open Go.RowKit Go.Proofs.Ytkedejphebfneaa.Pa Go.Proofs.Ytkedejphebfneaa.L Go.Proofs.Ytkedejphebfneaa.F Go.Proofs.YtkedejphebfneaaW.PrintWords Go.Proofs.YtkedejphebfneaaW.PrintLast Go.Proofs.YtkedejphebfneaaW.PrintMore
set_option linter.unusedVariables false
set_option linter.unusedSimpArgs false
abbrev SV := S28
def cmpV (a b : SV) : Int := cmpS a.f0 a.f1 a.f2 a.f3 b.f0 b.f1 b.f2 b.f3
def mnS (m : SV) (t : List SV) : SV := t.foldl (fun m c => if cmpV c m < 0 then c else m) m
def mxS' (m : SV) (t : List SV) : SV := t.foldl (fun m c => if cmpV c m > 0 then c else m) m
theorem cmpB_self : ∀ x : List UInt8, Lib.compareBytes x x = 0
 | [] => rfl
 | a :: x => by
  unfold Lib.compareBytes
  simp [cmpB_self x]
theorem cmpV_self (v : SV) : cmpV v v = 0 := by
 unfold cmpV cmpS
 rw [if_neg (by simp)]
 by_cases h : clS v.f0 v.f1 v.f2 v.f3 < 2
 ·rw [if_pos h]
 ·rw [if_neg h]
  rcases class_range v.f0 v.f1 v.f2 v.f3 with e | e | e | e
  ·omega
  ·omega
  ·rcases class_two e with h1 | h1
   ·rw [if_neg (by omega), if_pos ⟨h1, h1⟩]; exact (sgI_zero _ _).2 rfl
   ·rw [if_neg (by omega), if_neg (by omega), if_pos ⟨h1.1, h1.1⟩]; exact (sgI_zero _ _).2 rfl
  ·rw [if_pos (class_three e)]
   unfold cmpb
   rw [Lib.cmp_eq]
   exact cmpB_self _
theorem minT_e (t : List SV) : ∀ m : SV, m.f2 < 18446744073709551616 → (∀ v ∈ t, v.f2 < 18446744073709551616) → Evn (fun q => minT q m t) (mnS m t) := by
 induction t with
 | nil => intro m _ _; exact Evn.now _
 | cons c t ih =>
  intro m hm ht
  have hc := ht c (List.mem_cons_self ..)
  refine Evn.congr (fun q => by rw [minT]) (Evn.bind (compare_f c.f0 c.f1 c.f3 m.f0 m.f1 m.f3 hc hm) ?_)
  show Evn _ (mnS (if cmpV c m < 0 then c else m) t)
  by_cases h : cmpV c m < 0
  ·rw [if_pos h]; exact Evn.pos h (ih c hc (fun v hv => ht v (List.mem_cons_of_mem _ hv)))
  ·rw [if_neg h]; exact Evn.neg h (ih m hm (fun v hv => ht v (List.mem_cons_of_mem _ hv)))
theorem maxT_e (t : List SV) : ∀ m : SV, m.f2 < 18446744073709551616 → (∀ v ∈ t, v.f2 < 18446744073709551616) → Evn (fun q => maxT q m t) (mxS' m t) := by
 induction t with
 | nil => intro m _ _; exact Evn.now _
 | cons c t ih =>
  intro m hm ht
  have hc := ht c (List.mem_cons_self ..)
  refine Evn.congr (fun q => by rw [maxT]) (Evn.bind (compare_f c.f0 c.f1 c.f3 m.f0 m.f1 m.f3 hc hm) ?_)
  show Evn _ (mxS' (if cmpV c m > 0 then c else m) t)
  by_cases h : cmpV c m > 0
  ·rw [if_pos h]; exact Evn.pos h (ih c hc (fun v hv => ht v (List.mem_cons_of_mem _ hv)))
  ·rw [if_neg h]; exact Evn.neg h (ih m hm (fun v hv => ht v (List.mem_cons_of_mem _ hv)))
theorem rbT_e (t : List SV) : ∀ lo hi : SV, lo.f2 < 18446744073709551616 → hi.f2 < 18446744073709551616 → (∀ v ∈ t, v.f2 < 18446744073709551616) → Evn (fun q => rbT q lo hi t) (mnS lo t, mxS' hi t) := by
 induction t with
 | nil => intro lo hi _ _ _; exact Evn.now _
 | cons c t ih =>
  intro lo hi hlo hhi ht
  have hc := ht c (List.mem_cons_self ..)
  refine Evn.congr (fun q => by rw [rbT]) (Evn.bind (rcompare_f c.f0 c.f1 c.f3 lo.f0 lo.f1 lo.f3 hc hlo) (Evn.bind (rcompare_f c.f0 c.f1 c.f3 hi.f0 hi.f1 hi.f3 hc hhi) ?_))
  show Evn (fun q => rbT q (if cmpV c lo < 0 then c else lo) (if cmpV c hi > 0 then c else hi) t) (mnS (if cmpV c lo < 0 then c else lo) t, mxS' (if cmpV c hi > 0 then c else hi) t)
  exact ih _ _ (by split <;> assumption) (by split <;> assumption) (fun v hv => ht v (List.mem_cons_of_mem _ hv))
theorem colT_one' (s : ByteArray) (k : Int) (b : Bool) : colT [(⟨s, k, b⟩ : S23)] s = some k := by simp [colT]
section
variable (a0 : Int) (a1 : ByteArray) (a2 a3 a4 : Int) (a5 : Nat) (a6 : ByteArray) (l7 : List SV) (l8 : List S32)
def ckN (kind : Int) : Int := rcN kind true a0 a2 a3 (mayR a3 a4 a5 a6) l7 l8.length
theorem ck_a (kind : Int) (h : a5 < 18446744073709551616) (hv : ∀ c ∈ l7, c.f2 < 18446744073709551616) : Evn (fun k => atom_Check.f k [⟨a1, kind, false⟩] a0 a1 a2 a3 a4 a5 a6 l7 l8) (ckN a0 a2 a3 a4 a5 a6 l7 l8 kind) := by
 have := acheck_f [(⟨a1, kind, false⟩ : S23)] a0 a1 a2 a3 a4 a5 a6 l7 l8 h hv
 rw [colT_one'] at this
 exact this
theorem ck_r (kind : Int) : Evn (fun k => colonnaderef18_Check.f k [⟨a1, kind, false⟩] a0 a1 a2 a3 a4 a5 a6 l7 l8) (ckN a0 a2 a3 a4 a5 a6 l7 l8 kind) := by
 have := rcheck_f [(⟨a1, kind, false⟩ : S23)] a0 a1 a2 a3 a4 a5 a6 l7 l8 (by simp)
 rw [colT_one'] at this
 exact this
theorem right_f (h : a5 < 18446744073709551616) (hv : ∀ c ∈ l7, c.f2 < 18446744073709551616) :
  Evn (fun k => atom_right.f k a0 a1 a2 a3 a4 a5 a6 l7 l8) (decide (ckN a0 a2 a3 a4 a5 a6 l7 l8 1 = 0) || decide (ckN a0 a2 a3 a4 a5 a6 l7 l8 2 = 0)) := by
 unfold atom_right.f
 simp only [Option.bind_some]
 have s0 : ∀ q, atom_right.l0 (q + 1) [1, 2] (([1, 2] : List Int).length : Int) 0 a0 a1 a2 a3 a4 a5 a6 l7 l8 = (atom_Check.f q [⟨a1, 1, false⟩] a0 a1 a2 a3 a4 a5 a6 l7 l8).bind fun t => if t = 0 then some true else atom_right.l0 q [1, 2] (([1, 2] : List Int).length : Int) 1 a0 a1 a2 a3 a4 a5 a6 l7 l8 := fun q => by
  rw [atom_right.l0, if_pos (by decide), if_pos (by decide), if_pos (by decide), show wrap64 (0 + 1) = 1 from by decide +kernel, show rd ([1, 2] : List Int) 0 = 1 from rfl]
 have s1 : ∀ q, atom_right.l0 (q + 1) [1, 2] (([1, 2] : List Int).length : Int) 1 a0 a1 a2 a3 a4 a5 a6 l7 l8 = (atom_Check.f q [⟨a1, 2, false⟩] a0 a1 a2 a3 a4 a5 a6 l7 l8).bind fun t => if t = 0 then some true else atom_right.l0 q [1, 2] (([1, 2] : List Int).length : Int) 2 a0 a1 a2 a3 a4 a5 a6 l7 l8 := fun q => by
  rw [atom_right.l0, if_pos (by decide), if_pos (by decide), if_pos (by decide), show wrap64 (1 + 1) = 2 from by decide +kernel, show rd ([1, 2] : List Int) 1 = 2 from rfl]
 have s2 : ∀ q, atom_right.l0 (q + 1) [1, 2] (([1, 2] : List Int).length : Int) 2 a0 a1 a2 a3 a4 a5 a6 l7 l8 = some false := fun q => by
  rw [atom_right.l0, if_neg (by decide)]
 refine Evn.succ s0 (Evn.bind (ck_a a0 a1 a2 a3 a4 a5 a6 l7 l8 1 h hv) ?_)
 by_cases h1 : ckN a0 a2 a3 a4 a5 a6 l7 l8 1 = 0
 ·rw [decide_eq_true h1, Bool.true_or]; exact Evn.pos h1 (Evn.now _)
 ·rw [decide_eq_false h1, Bool.false_or]
  refine Evn.neg h1 (Evn.succ s1 (Evn.bind (ck_a a0 a1 a2 a3 a4 a5 a6 l7 l8 2 h hv) ?_))
  by_cases h2 : ckN a0 a2 a3 a4 a5 a6 l7 l8 2 = 0
  ·rw [decide_eq_true h2]; exact Evn.pos h2 (Evn.now _)
  ·rw [decide_eq_false h2]; exact Evn.neg h2 (Evn.succ s2 (Evn.now _))
variable {a0 a1 a2 a3 a4 a5 a6 l7 l8}
theorem ck_open {kind : Int} (h : ckN a0 a2 a3 a4 a5 a6 l7 l8 kind = 0) : 1 ≤ a0 ∧ a0 ≤ 5 ∧ (a0 = 1 → 1 ≤ a2 ∧ a2 ≤ 6) ∧ (a0 ≠ 1 → a2 = 0) ∧ (a0 = 3 → l7.length = 2) := by
 unfold ckN rcN at h
 split at h
 ·cases h
 ·rename_i n1
  split at h
  ·cases h
  ·rename_i n2
   split at h
   ·cases h
   ·rename_i n3
    have m1 : ¬ a0 < 1 := fun q => n1 (Or.inl q)
    have m2 : ¬ 5 < a0 := fun q => n1 (Or.inr (Or.inl q))
    have m3 : ¬ (a0 = 1 ∧ (a2 < 1 ∨ 6 < a2)) := fun q => n1 (Or.inr (Or.inr (Or.inl q)))
    have m4 : ¬ (a0 ≠ 1 ∧ a2 ≠ 0) := fun q => n2 (Or.inr (Or.inl q))
    exact ⟨by omega, by omega, fun q => by omega, fun q => by omega, fun q => by omega⟩
def bdS (a0 a2 a3 a4 : Int) (a5 : Nat) (a6 : ByteArray) (l7 : List SV) (n8 : Bool) : T9 :=
 if n8 = false then t9 zV zV false
 else if a0 = 4 then t9 zV zV false
 else if a0 = 2 then (if l7.length = 0 then t9 zV zV false else t9 (mnS (rd_T28 l7 0) l7) (mxS' (rd_T28 l7 0) l7) true)
 else if a0 = 5 then t9 ⟨a3, a4, a5, a6⟩ zV true
 else if a0 = 3 then t9 (rd_T28 l7 0) (rd_T28 l7 1) true
 else (if a2 = 1 then t9 ⟨a3, a4, a5, a6⟩ ⟨a3, a4, a5, a6⟩ true else if a2 = 2 then t9 zV zV false else if a2 = 3 ∨ a2 = 4 then t9 zV ⟨a3, a4, a5, a6⟩ true else t9 ⟨a3, a4, a5, a6⟩ zV true)
def okN (a0 a2 a3 a4 : Int) (a5 : Nat) (a6 : ByteArray) (l7 : List SV) (l8 : List S32) : Bool := decide (ckN a0 a2 a3 a4 a5 a6 l7 l8 1 = 0) || decide (ckN a0 a2 a3 a4 a5 a6 l7 l8 2 = 0)
theorem okN_open (h : okN a0 a2 a3 a4 a5 a6 l7 l8 = true) : 1 ≤ a0 ∧ a0 ≤ 5 ∧ (a0 = 1 → 1 ≤ a2 ∧ a2 ≤ 6) ∧ (a0 ≠ 1 → a2 = 0) ∧ (a0 = 3 → l7.length = 2) := by
 unfold okN at h
 rw [Bool.or_eq_true, decide_eq_true_eq, decide_eq_true_eq] at h
 rcases h with h | h
 ·exact ck_open h
 ·exact ck_open h
theorem rd_zero {c : SV} {t : List SV} : rd_T28 (c :: t) 0 = c := rfl
theorem mnS_self (c : SV) (t : List SV) : mnS c (c :: t) = mnS c t := by
 show mnS (if cmpV c c < 0 then c else c) t = _
 rw [ite_self]
theorem mxS_self (c : SV) (t : List SV) : mxS' c (c :: t) = mxS' c t := by
 show mxS' (if cmpV c c > 0 then c else c) t = _
 rw [ite_self]
theorem rbounds_f (h : a5 < 18446744073709551616) (hv : ∀ c ∈ l7, c.f2 < 18446744073709551616) : Evn (fun k => colonnaderef18_Bounds.f k a0 a1 a2 a3 a4 a5 a6 l7 l8) (bdS a0 a2 a3 a4 a5 a6 l7 (okN a0 a2 a3 a4 a5 a6 l7 l8)) := by
 unfold colonnaderef18_Bounds.f
 refine Evn.bind (ck_r a0 a1 a2 a3 a4 a5 a6 l7 l8 1) (Evn.bind (ck_r a0 a1 a2 a3 a4 a5 a6 l7 l8 2) ?_)
 by_cases ok : okN a0 a2 a3 a4 a5 a6 l7 l8 = true
 ·have o := okN_open ok
  have nok : ¬ okN a0 a2 a3 a4 a5 a6 l7 l8 = false := by rw [ok]; decide
  have hz : ¬ (ckN a0 a2 a3 a4 a5 a6 l7 l8 1 ≠ 0 ∧ ckN a0 a2 a3 a4 a5 a6 l7 l8 2 ≠ 0) := by
   unfold okN at ok
   rw [Bool.or_eq_true, decide_eq_true_eq, decide_eq_true_eq] at ok
   rintro ⟨q1, q2⟩
   rcases ok with q | q
   ·exact q1 q
   ·exact q2 q
  by_cases h4 : a0 = 4
  ·rw [show bdS a0 a2 a3 a4 a5 a6 l7 (okN a0 a2 a3 a4 a5 a6 l7 l8) = t9 zV zV false from by unfold bdS; rw [if_neg nok, if_pos h4]]
   exact Evn.congr (fun k => by unfold rbN; rw [if_neg hz, if_pos h4]) (Evn.now _)
  by_cases h2 : a0 = 2
  ·have z2 := o.2.2.2.1 (by omega)
   by_cases hl : l7.length = 0
   ·rw [show bdS a0 a2 a3 a4 a5 a6 l7 (okN a0 a2 a3 a4 a5 a6 l7 l8) = t9 zV zV false from by unfold bdS; rw [if_neg nok, if_neg h4, if_pos h2, if_pos hl]]
    exact Evn.congr (fun k => by unfold rbN; rw [if_neg hz, if_neg h4, if_pos h2, if_pos z2, if_pos hl]) (Evn.now _)
   ·have h0 : rd_T28 l7 0 ∈ l7 := by
     cases l7 with
     | nil => exact absurd rfl hl
     | cons c t => exact List.mem_cons_self ..
    rw [show bdS a0 a2 a3 a4 a5 a6 l7 (okN a0 a2 a3 a4 a5 a6 l7 l8) = t9 (mnS (rd_T28 l7 0) l7) (mxS' (rd_T28 l7 0) l7) true from by unfold bdS; rw [if_neg nok, if_neg h4, if_pos h2, if_neg hl]]
    refine Evn.congr (fun k => by unfold rbN; rw [if_neg hz, if_neg h4, if_pos h2, if_pos z2, if_neg hl]) ?_
    exact Evn.bind (rbT_e l7 _ _ (hv _ h0) (hv _ h0) hv) (Evn.now _)
  by_cases h5 : a0 = 5
  ·have z2 := o.2.2.2.1 (by omega)
   rw [show bdS a0 a2 a3 a4 a5 a6 l7 (okN a0 a2 a3 a4 a5 a6 l7 l8) = t9 ⟨a3, a4, a5, a6⟩ zV true from by unfold bdS; rw [if_neg nok, if_neg h4, if_neg h2, if_pos h5]]
   exact Evn.congr (fun k => by unfold rbN; rw [if_neg hz, if_neg h4, if_neg h2, if_pos h5, if_pos z2]) (Evn.now _)
  by_cases h3 : a0 = 3
  ·have z2 := o.2.2.2.1 (by omega)
   have ln : 1 < l7.length := by have := o.2.2.2.2 h3; omega
   rw [show bdS a0 a2 a3 a4 a5 a6 l7 (okN a0 a2 a3 a4 a5 a6 l7 l8) = t9 (rd_T28 l7 0) (rd_T28 l7 1) true from by unfold bdS; rw [if_neg nok, if_neg h4, if_neg h2, if_neg h5, if_pos h3]]
   exact Evn.congr (fun k => by unfold rbN; rw [if_neg hz, if_neg h4, if_neg h2, if_neg h5, if_pos h3, if_pos z2, if_pos ln]) (Evn.now _)
  have h1 : a0 = 1 := by omega
  have o2 := o.2.2.1 h1
  by_cases b1 : a2 = 1
  ·rw [show bdS a0 a2 a3 a4 a5 a6 l7 (okN a0 a2 a3 a4 a5 a6 l7 l8) = t9 ⟨a3, a4, a5, a6⟩ ⟨a3, a4, a5, a6⟩ true from by unfold bdS; rw [if_neg nok, if_neg h4, if_neg h2, if_neg h5, if_neg h3, if_pos b1]]
   exact Evn.congr (fun k => by unfold rbN; rw [if_neg hz, if_neg h4, if_neg h2, if_neg h5, if_neg h3, if_pos h1, if_pos b1]) (Evn.now _)
  by_cases b2 : a2 = 2
  ·rw [show bdS a0 a2 a3 a4 a5 a6 l7 (okN a0 a2 a3 a4 a5 a6 l7 l8) = t9 zV zV false from by unfold bdS; rw [if_neg nok, if_neg h4, if_neg h2, if_neg h5, if_neg h3, if_neg b1, if_pos b2]]
   exact Evn.congr (fun k => by unfold rbN; rw [if_neg hz, if_neg h4, if_neg h2, if_neg h5, if_neg h3, if_pos h1, if_neg b1, if_pos b2]) (Evn.now _)
  by_cases b3 : a2 = 3 ∨ a2 = 4
  ·rw [show bdS a0 a2 a3 a4 a5 a6 l7 (okN a0 a2 a3 a4 a5 a6 l7 l8) = t9 zV ⟨a3, a4, a5, a6⟩ true from by unfold bdS; rw [if_neg nok, if_neg h4, if_neg h2, if_neg h5, if_neg h3, if_neg b1, if_neg b2, if_pos b3]]
   exact Evn.congr (fun k => by unfold rbN; rw [if_neg hz, if_neg h4, if_neg h2, if_neg h5, if_neg h3, if_pos h1, if_neg b1, if_neg b2, if_pos b3]) (Evn.now _)
  rw [show bdS a0 a2 a3 a4 a5 a6 l7 (okN a0 a2 a3 a4 a5 a6 l7 l8) = t9 ⟨a3, a4, a5, a6⟩ zV true from by unfold bdS; rw [if_neg nok, if_neg h4, if_neg h2, if_neg h5, if_neg h3, if_neg b1, if_neg b2, if_neg b3]]
  exact Evn.congr (fun k => by unfold rbN; rw [if_neg hz, if_neg h4, if_neg h2, if_neg h5, if_neg h3, if_pos h1, if_neg b1, if_neg b2, if_neg b3, if_pos (show a2 = 5 ∨ a2 = 6 by omega)]) (Evn.now _)
 ·rw [Bool.not_eq_true] at ok
  rw [show bdS a0 a2 a3 a4 a5 a6 l7 (okN a0 a2 a3 a4 a5 a6 l7 l8) = t9 zV zV false from by unfold bdS; rw [if_pos ok]]
  have ok2 : ckN a0 a2 a3 a4 a5 a6 l7 l8 1 ≠ 0 ∧ ckN a0 a2 a3 a4 a5 a6 l7 l8 2 ≠ 0 := by
   unfold okN at ok
   rw [Bool.or_eq_false_iff, decide_eq_false_iff_not, decide_eq_false_iff_not] at ok
   exact ok
  exact Evn.congr (fun k => by unfold rbN; rw [if_pos ok2]) (Evn.now _)
theorem abounds_f (h : a5 < 18446744073709551616) (hv : ∀ c ∈ l7, c.f2 < 18446744073709551616) : Evn (fun k => atom_Bounds.f k a0 a1 a2 a3 a4 a5 a6 l7 l8) (bdS a0 a2 a3 a4 a5 a6 l7 (okN a0 a2 a3 a4 a5 a6 l7 l8)) := by
 unfold atom_Bounds.f
 refine Evn.bind (a := okN a0 a2 a3 a4 a5 a6 l7 l8) (right_f a0 a1 a2 a3 a4 a5 a6 l7 l8 h hv) ?_
 by_cases ok : okN a0 a2 a3 a4 a5 a6 l7 l8 = true
 ·have o := okN_open ok
  have nok : ¬ okN a0 a2 a3 a4 a5 a6 l7 l8 = false := by rw [ok]; decide
  by_cases h4 : a0 = 4
  ·rw [show bdS a0 a2 a3 a4 a5 a6 l7 (okN a0 a2 a3 a4 a5 a6 l7 l8) = t9 zV zV false from by unfold bdS; rw [if_neg nok, if_pos h4]]
   exact Evn.congr (fun k => by rw [if_neg nok, if_neg (show ¬ a0 = 1 by omega), if_neg (show ¬ a0 = 2 by omega), if_neg (show ¬ a0 = 3 by omega), if_neg (show ¬ a0 = 5 by omega)]) (Evn.now _)
  by_cases h2 : a0 = 2
  ·have z2 := o.2.2.2.1 (by omega)
   by_cases hl : l7.length = 0
   ·rw [show bdS a0 a2 a3 a4 a5 a6 l7 (okN a0 a2 a3 a4 a5 a6 l7 l8) = t9 zV zV false from by unfold bdS; rw [if_neg nok, if_neg h4, if_pos h2, if_pos hl]]
    exact Evn.congr (fun k => by rw [if_neg nok, if_neg (show ¬ a0 = 1 by omega), if_pos h2, if_pos hl]) (Evn.now _)
   ·have hm : Evn (fun k => minCompare.f k l7) (mnS (rd_T28 l7 0) l7) ∧ Evn (fun k => maxCompare.f k l7) (mxS' (rd_T28 l7 0) l7) := by
     cases l7 with
     | nil => exact absurd rfl hl
     | cons c t =>
      have hc := hv c (List.mem_cons_self ..)
      have ht : ∀ v ∈ t, v.f2 < 18446744073709551616 := fun v q => hv v (List.mem_cons_of_mem _ q)
      rw [rd_zero, mnS_self, mxS_self]
      exact ⟨minT_e t c hc ht, maxT_e t c hc ht⟩
    rw [show bdS a0 a2 a3 a4 a5 a6 l7 (okN a0 a2 a3 a4 a5 a6 l7 l8) = t9 (mnS (rd_T28 l7 0) l7) (mxS' (rd_T28 l7 0) l7) true from by unfold bdS; rw [if_neg nok, if_neg h4, if_pos h2, if_neg hl]]
    refine Evn.congr (fun k => by rw [if_neg nok, if_neg (show ¬ a0 = 1 by omega), if_pos h2, if_neg hl]) ?_
    exact Evn.bind hm.1 (Evn.bind hm.2 (Evn.now _))
  by_cases h5 : a0 = 5
  ·have z2 := o.2.2.2.1 (by omega)
   rw [show bdS a0 a2 a3 a4 a5 a6 l7 (okN a0 a2 a3 a4 a5 a6 l7 l8) = t9 ⟨a3, a4, a5, a6⟩ zV true from by unfold bdS; rw [if_neg nok, if_neg h4, if_neg h2, if_pos h5]]
   exact Evn.congr (fun k => by rw [if_neg nok, if_neg (show ¬ a0 = 1 by omega), if_neg h2, if_neg (show ¬ a0 = 3 by omega), if_pos h5]) (Evn.now _)
  by_cases h3 : a0 = 3
  ·have z2 := o.2.2.2.1 (by omega)
   have ln : 1 < l7.length := by have := o.2.2.2.2 h3; omega
   rw [show bdS a0 a2 a3 a4 a5 a6 l7 (okN a0 a2 a3 a4 a5 a6 l7 l8) = t9 (rd_T28 l7 0) (rd_T28 l7 1) true from by unfold bdS; rw [if_neg nok, if_neg h4, if_neg h2, if_neg h5, if_pos h3]]
   exact Evn.congr (fun k => by rw [if_neg nok, if_neg (show ¬ a0 = 1 by omega), if_neg h2, if_pos h3, if_pos ln]) (Evn.now _)
  have h1 : a0 = 1 := by omega
  have o2 := o.2.2.1 h1
  by_cases b1 : a2 = 1
  ·rw [show bdS a0 a2 a3 a4 a5 a6 l7 (okN a0 a2 a3 a4 a5 a6 l7 l8) = t9 ⟨a3, a4, a5, a6⟩ ⟨a3, a4, a5, a6⟩ true from by unfold bdS; rw [if_neg nok, if_neg h4, if_neg h2, if_neg h5, if_neg h3, if_pos b1]]
   exact Evn.congr (fun k => by rw [if_neg nok, if_pos h1, if_pos b1]) (Evn.now _)
  by_cases b2 : a2 = 2
  ·rw [show bdS a0 a2 a3 a4 a5 a6 l7 (okN a0 a2 a3 a4 a5 a6 l7 l8) = t9 zV zV false from by unfold bdS; rw [if_neg nok, if_neg h4, if_neg h2, if_neg h5, if_neg h3, if_neg b1, if_pos b2]]
   exact Evn.congr (fun k => by rw [if_neg nok, if_pos h1, if_neg b1, if_neg (show ¬ (a2 = 3 ∨ a2 = 4) by omega), if_neg (show ¬ (a2 = 5 ∨ a2 = 6) by omega)]) (Evn.now _)
  by_cases b3 : a2 = 3 ∨ a2 = 4
  ·rw [show bdS a0 a2 a3 a4 a5 a6 l7 (okN a0 a2 a3 a4 a5 a6 l7 l8) = t9 zV ⟨a3, a4, a5, a6⟩ true from by unfold bdS; rw [if_neg nok, if_neg h4, if_neg h2, if_neg h5, if_neg h3, if_neg b1, if_neg b2, if_pos b3]]
   exact Evn.congr (fun k => by rw [if_neg nok, if_pos h1, if_neg b1, if_pos b3]) (Evn.now _)
  rw [show bdS a0 a2 a3 a4 a5 a6 l7 (okN a0 a2 a3 a4 a5 a6 l7 l8) = t9 ⟨a3, a4, a5, a6⟩ zV true from by unfold bdS; rw [if_neg nok, if_neg h4, if_neg h2, if_neg h5, if_neg h3, if_neg b1, if_neg b2, if_neg b3]]
  exact Evn.congr (fun k => by rw [if_neg nok, if_pos h1, if_neg b1, if_neg b3, if_pos (show a2 = 5 ∨ a2 = 6 by omega)]) (Evn.now _)
 ·rw [Bool.not_eq_true] at ok
  rw [show bdS a0 a2 a3 a4 a5 a6 l7 (okN a0 a2 a3 a4 a5 a6 l7 l8) = t9 zV zV false from by unfold bdS; rw [if_pos ok]]
  exact Evn.congr (fun k => by rw [if_pos ok]) (Evn.now _)
end
end Go.Proofs.Ytkedejphebfneaa.V
namespace Go.Proofs.Ytkedejphebfneaa.Pure
open Go.RowKit Go.Proofs.Ytkedejphebfneaa.Pa Go.Proofs.Ytkedejphebfneaa.V Go.Proofs.Ytkedejphebfneaa.L Go.Proofs.YtkedejphebfneaaW.PrintWords Go.Proofs.YtkedejphebfneaaW.PrintLast Go.Proofs.YtkedejphebfneaaW.PrintMore
theorem AtomBounds (l0 : S32) (h0 : okS32 l0) : ∃ k, colonnadelaw18_AtomBounds.f k l0.f0 l0.f1 l0.f2 l0.f3.f0 l0.f3.f1 l0.f3.f2 l0.f3.f3 l0.f4 l0.f5 = some true := by
 apply Evn.ex
 have hw : l0.f3.f2 < 18446744073709551616 ∧ (∀ c ∈ l0.f4, c.f2 < 18446744073709551616) ∧ l0.f4.length < 3518437208883 ∧ l0.f5.length < 1172812402961 := by
  cases h0 with
  | mk _ a b c d e f g => exact ⟨F.wf_word d.2.2.1, fun x hx => F.wf_word (e.2 x hx).2.2.1, by omega, by omega⟩
 unfold colonnadelaw18_AtomBounds.f
 obtain ⟨b, hb⟩ := pred_ends l0.f0 l0.f1 l0.f2 l0.f3.f0 l0.f3.f1 l0.f3.f2 l0.f3.f3 l0.f4 l0.f5
 refine Evn.bind hb ?_
 by_cases e : b = true
 ·exact Evn.pos e (Evn.now _)
 refine Evn.neg e (Evn.bind (rbounds_f hw.1 hw.2.1) ?_)
 simp only [twin_f _ _ _ _ _ _ _ _ _ hw.2.2.1 hw.2.2.2, Option.bind_some, List.nil_append]
 refine Evn.bind (abounds_f hw.1 hw.2.1) ?_
 generalize bdS l0.f0 l0.f2 l0.f3.f0 l0.f3.f1 l0.f3.f2 l0.f3.f3 l0.f4 _ = t
 obtain ⟨t0, t1, t2, t3, t4, t5, t6, t7, t8⟩ := t
 refine Evn.pos (beq_self_eq_true _) ?_
 simp only [alike_self, Option.bind_some]
 exact Evn.pos trivial (Evn.pos trivial (Evn.bind known_f (Evn.now _)))
end Go.Proofs.Ytkedejphebfneaa.Pure
