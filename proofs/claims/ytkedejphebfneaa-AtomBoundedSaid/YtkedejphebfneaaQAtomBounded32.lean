/- The texts of AtomBounded, merged: part 32. -/
import Derived.Test.YtkedejphebfneaaQAtomBounded29
import Derived.Test.YtkedejphebfneaaQAtomBounded31
import Derived.Test.YtkedejphebfneaaQAtomBounded18
/- Bounds, plainly: the program's answer, and what lies between. No program in sight. -/
namespace Go.Proofs.Ytkedejphebfneaa.V
open Go.RowKit Go.Proofs.Ytkedejphebfneaa.Pa Go.Proofs.Ytkedejphebfneaa.L Go.Proofs.Ytkedejphebfneaa.F Go.Proofs.YtkedejphebfneaaW.PrintWords Go.Proofs.YtkedejphebfneaaW.PrintLast Go.Proofs.YtkedejphebfneaaW.PrintMore
set_option linter.unusedVariables false
set_option linter.unusedSimpArgs false
theorem pre_iff (s p : ByteArray) : preS s p = true ↔ ∃ l, s.data.toList = p.data.toList ++ l := by
 unfold preS
 constructor
 ·intro h
  split at h
  ·rename_i hs
   have h := eq_of_beq h
   rw [ByteArray.toList_eq, ByteArray.toList_eq] at h
   refine ⟨s.data.toList.drop p.size, ?_⟩
   have e : (s.extract 0 p.size).data.toList = s.data.toList.take p.size := by simp [ByteArray.extract, ByteArray.copySlice]
   rw [← h, e, List.take_append_drop]
  ·cases h
 ·rintro ⟨l, h⟩
  have hs : p.size ≤ s.size := by
   have := congrArg List.length h
   simp only [List.length_append] at this
   have e1 : s.data.toList.length = s.size := Array.length_toList
   have e2 : p.data.toList.length = p.size := Array.length_toList
   omega
  rw [if_pos hs]
  have e : (s.extract 0 p.size).data.toList = s.data.toList.take p.size := by simp [ByteArray.extract, ByteArray.copySlice]
  rw [ByteArray.toList_eq, ByteArray.toList_eq, e, h]
  have e2 : p.size = p.data.toList.length := Array.length_toList.symm
  rw [e2, List.take_left]
  simp
theorem cmpB_range : ∀ x y : List UInt8, Lib.compareBytes x y = -1 ∨ Lib.compareBytes x y = 0 ∨ Lib.compareBytes x y = 1
 | [], [] => by simp [Lib.compareBytes]
 | [], _ :: _ => by simp [Lib.compareBytes]
 | _ :: _, [] => by simp [Lib.compareBytes]
 | a :: x, b :: y => by
  rw [Lib.compareBytes]
  split; simp
  split; simp
  exact cmpB_range x y
theorem cmpB_self : ∀ x : List UInt8, Lib.compareBytes x x = 0
 | [] => rfl
 | a :: x => by
  have h : ¬ a < a := fun k => by have := UInt8.lt_iff_toNat_lt.1 k; omega
  rw [Lib.compareBytes, if_neg h, if_neg h]
  exact cmpB_self x
theorem cmpB_zero : ∀ x y : List UInt8, Lib.compareBytes x y = 0 → x = y
 | [], [], _ => rfl
 | [], _ :: _, h => by simp [Lib.compareBytes] at h
 | _ :: _, [], h => by simp [Lib.compareBytes] at h
 | a :: x, b :: y, h => by
  rw [Lib.compareBytes] at h
  split at h; · simp at h
  split at h; · simp at h
  rename_i h1 h2
  have e : a = b := by
   refine UInt8.toNat_inj.1 ?_
   have h1 : ¬ a.toNat < b.toNat := fun k => h1 (UInt8.lt_iff_toNat_lt.2 k)
   have h2 : ¬ b.toNat < a.toNat := fun k => h2 (UInt8.lt_iff_toNat_lt.2 k)
   omega
  rw [e, cmpB_zero x y h]
theorem cmpB_pre : ∀ p l : List UInt8, Lib.compareBytes (p ++ l) p ≥ 0
 | [], [] => by simp [Lib.compareBytes]
 | [], _ :: _ => by simp [Lib.compareBytes]
 | a :: p, l => by
  have h : ¬ a < a := fun k => by have := UInt8.lt_iff_toNat_lt.1 k; omega
  rw [List.cons_append, Lib.compareBytes, if_neg h, if_neg h]
  exact cmpB_pre p l
abbrev T9 := Int × Int × Nat × ByteArray × Int × Int × Nat × ByteArray × Bool
abbrev t9 (a b : S28) (o : Bool) : T9 := (a.f0, a.f1, a.f2, a.f3, b.f0, b.f1, b.f2, b.f3, o)
abbrev zV : S28 := ⟨0, 0, 0, ⟨#[]⟩⟩
abbrev SV := S28
def cmpV (a b : SV) : Int := cmpS a.f0 a.f1 a.f2 a.f3 b.f0 b.f1 b.f2 b.f3
def mnS (m : SV) (t : List SV) : SV := t.foldl (fun m c => if cmpV c m < 0 then c else m) m
def mxS' (m : SV) (t : List SV) : SV := t.foldl (fun m c => if cmpV c m > 0 then c else m) m
theorem cmpV_self (v : SV) : cmpV v v = 0 := by
 unfold cmpV cmpS
 rw [if_neg (by simp)]
 by_cases h : clS v.f0 v.f1 v.f2 v.f3 < 2
 ·rw [if_pos h]
 ·rw [if_neg h]
  rcases class_range v.f0 v.f1 v.f2 v.f3 with e | e | e | e
  ·omega
  ·omega
  ·rcases class_two e with h1 | h1
   ·rw [if_neg (by omega), if_pos ⟨h1, h1⟩]; exact (sgI_zero _ _).2 rfl
   ·rw [if_neg (by omega), if_neg (by omega), if_pos ⟨h1.1, h1.1⟩]; exact (sgI_zero _ _).2 rfl
  ·rw [if_pos (class_three e)]
   unfold cmpb
   rw [Lib.cmp_eq]
   exact cmpB_self _
theorem minT_e (t : List SV) : ∀ m : SV, m.f2 < 18446744073709551616 → (∀ v ∈ t, v.f2 < 18446744073709551616) → Evn (fun q => minT q m t) (mnS m t) := by
 induction t with
 | nil => intro m _ _; exact Evn.now _
 | cons c t ih =>
  intro m hm ht
  have hc := ht c (List.mem_cons_self ..)
  refine Evn.congr (fun q => by rw [minT]) (Evn.bind (compare_f c.f0 c.f1 c.f3 m.f0 m.f1 m.f3 hc hm) ?_)
  show Evn _ (mnS (if cmpV c m < 0 then c else m) t)
  by_cases h : cmpV c m < 0
  ·rw [if_pos h]; exact Evn.pos h (ih c hc (fun v hv => ht v (List.mem_cons_of_mem _ hv)))
  ·rw [if_neg h]; exact Evn.neg h (ih m hm (fun v hv => ht v (List.mem_cons_of_mem _ hv)))
theorem maxT_e (t : List SV) : ∀ m : SV, m.f2 < 18446744073709551616 → (∀ v ∈ t, v.f2 < 18446744073709551616) → Evn (fun q => maxT q m t) (mxS' m t) := by
 induction t with
 | nil => intro m _ _; exact Evn.now _
 | cons c t ih =>
  intro m hm ht
  have hc := ht c (List.mem_cons_self ..)
  refine Evn.congr (fun q => by rw [maxT]) (Evn.bind (compare_f c.f0 c.f1 c.f3 m.f0 m.f1 m.f3 hc hm) ?_)
  show Evn _ (mxS' (if cmpV c m > 0 then c else m) t)
  by_cases h : cmpV c m > 0
  ·rw [if_pos h]; exact Evn.pos h (ih c hc (fun v hv => ht v (List.mem_cons_of_mem _ hv)))
  ·rw [if_neg h]; exact Evn.neg h (ih m hm (fun v hv => ht v (List.mem_cons_of_mem _ hv)))
theorem colT_one' (s : ByteArray) (k : Int) (b : Bool) : colT [(⟨s, k, b⟩ : S23)] s = some k := by simp [colT]
section
variable (a0 : Int) (a1 : ByteArray) (a2 a3 a4 : Int) (a5 : Nat) (a6 : ByteArray) (l7 : List SV) (l8 : List S32)
def ckN (kind : Int) : Int := rcN kind true a0 a2 a3 (mayR a3 a4 a5 a6) l7 l8.length
theorem ck_a (kind : Int) (h : a5 < 18446744073709551616) (hv : ∀ c ∈ l7, c.f2 < 18446744073709551616) : Evn (fun k => atom_Check.f k [⟨a1, kind, false⟩] a0 a1 a2 a3 a4 a5 a6 l7 l8) (ckN a0 a2 a3 a4 a5 a6 l7 l8 kind) := by
 have := acheck_f [(⟨a1, kind, false⟩ : S23)] a0 a1 a2 a3 a4 a5 a6 l7 l8 h hv
 rw [colT_one'] at this
 exact this
theorem right_f (h : a5 < 18446744073709551616) (hv : ∀ c ∈ l7, c.f2 < 18446744073709551616) :
  Evn (fun k => atom_right.f k a0 a1 a2 a3 a4 a5 a6 l7 l8) (decide (ckN a0 a2 a3 a4 a5 a6 l7 l8 1 = 0) || decide (ckN a0 a2 a3 a4 a5 a6 l7 l8 2 = 0)) := by
 unfold atom_right.f
 simp only [Option.bind_some]
 have s0 : ∀ q, atom_right.l0 (q + 1) [1, 2] (([1, 2] : List Int).length : Int) 0 a0 a1 a2 a3 a4 a5 a6 l7 l8 = (atom_Check.f q [⟨a1, 1, false⟩] a0 a1 a2 a3 a4 a5 a6 l7 l8).bind fun t => if t = 0 then some true else atom_right.l0 q [1, 2] (([1, 2] : List Int).length : Int) 1 a0 a1 a2 a3 a4 a5 a6 l7 l8 := fun q => by
  rw [atom_right.l0, if_pos (by decide), if_pos (by decide), if_pos (by decide), show wrap64 (0 + 1) = 1 from by decide +kernel, show rd ([1, 2] : List Int) 0 = 1 from rfl]
 have s1 : ∀ q, atom_right.l0 (q + 1) [1, 2] (([1, 2] : List Int).length : Int) 1 a0 a1 a2 a3 a4 a5 a6 l7 l8 = (atom_Check.f q [⟨a1, 2, false⟩] a0 a1 a2 a3 a4 a5 a6 l7 l8).bind fun t => if t = 0 then some true else atom_right.l0 q [1, 2] (([1, 2] : List Int).length : Int) 2 a0 a1 a2 a3 a4 a5 a6 l7 l8 := fun q => by
  rw [atom_right.l0, if_pos (by decide), if_pos (by decide), if_pos (by decide), show wrap64 (1 + 1) = 2 from by decide +kernel, show rd ([1, 2] : List Int) 1 = 2 from rfl]
 have s2 : ∀ q, atom_right.l0 (q + 1) [1, 2] (([1, 2] : List Int).length : Int) 2 a0 a1 a2 a3 a4 a5 a6 l7 l8 = some false := fun q => by
  rw [atom_right.l0, if_neg (by decide)]
 refine Evn.succ s0 (Evn.bind (ck_a a0 a1 a2 a3 a4 a5 a6 l7 l8 1 h hv) ?_)
 by_cases h1 : ckN a0 a2 a3 a4 a5 a6 l7 l8 1 = 0
 ·rw [decide_eq_true h1, Bool.true_or]; exact Evn.pos h1 (Evn.now _)
 ·rw [decide_eq_false h1, Bool.false_or]
  refine Evn.neg h1 (Evn.succ s1 (Evn.bind (ck_a a0 a1 a2 a3 a4 a5 a6 l7 l8 2 h hv) ?_))
  by_cases h2 : ckN a0 a2 a3 a4 a5 a6 l7 l8 2 = 0
  ·rw [decide_eq_true h2]; exact Evn.pos h2 (Evn.now _)
  ·rw [decide_eq_false h2]; exact Evn.neg h2 (Evn.succ s2 (Evn.now _))
variable {a0 a1 a2 a3 a4 a5 a6 l7 l8}
theorem ck_open {kind : Int} (h : ckN a0 a2 a3 a4 a5 a6 l7 l8 kind = 0) : 1 ≤ a0 ∧ a0 ≤ 5 ∧ (a0 = 1 → 1 ≤ a2 ∧ a2 ≤ 6) ∧ (a0 ≠ 1 → a2 = 0) ∧ (a0 = 3 → l7.length = 2) := by
 unfold ckN rcN at h
 split at h
 ·cases h
 ·rename_i n1
  split at h
  ·cases h
  ·rename_i n2
   split at h
   ·cases h
   ·rename_i n3
    have m1 : ¬ a0 < 1 := fun q => n1 (Or.inl q)
    have m2 : ¬ 5 < a0 := fun q => n1 (Or.inr (Or.inl q))
    have m3 : ¬ (a0 = 1 ∧ (a2 < 1 ∨ 6 < a2)) := fun q => n1 (Or.inr (Or.inr (Or.inl q)))
    have m4 : ¬ (a0 ≠ 1 ∧ a2 ≠ 0) := fun q => n2 (Or.inr (Or.inl q))
    exact ⟨by omega, by omega, fun q => by omega, fun q => by omega, fun q => by omega⟩
def bdS (a0 a2 a3 a4 : Int) (a5 : Nat) (a6 : ByteArray) (l7 : List SV) (n8 : Bool) : T9 :=
 if n8 = false then t9 zV zV false
 else if a0 = 4 then t9 zV zV false
 else if a0 = 2 then (if l7.length = 0 then t9 zV zV false else t9 (mnS (rd_T28 l7 0) l7) (mxS' (rd_T28 l7 0) l7) true)
 else if a0 = 5 then t9 ⟨a3, a4, a5, a6⟩ zV true
 else if a0 = 3 then t9 (rd_T28 l7 0) (rd_T28 l7 1) true
 else (if a2 = 1 then t9 ⟨a3, a4, a5, a6⟩ ⟨a3, a4, a5, a6⟩ true else if a2 = 2 then t9 zV zV false else if a2 = 3 ∨ a2 = 4 then t9 zV ⟨a3, a4, a5, a6⟩ true else t9 ⟨a3, a4, a5, a6⟩ zV true)
def okN (a0 a2 a3 a4 : Int) (a5 : Nat) (a6 : ByteArray) (l7 : List SV) (l8 : List S32) : Bool := decide (ckN a0 a2 a3 a4 a5 a6 l7 l8 1 = 0) || decide (ckN a0 a2 a3 a4 a5 a6 l7 l8 2 = 0)
theorem okN_open (h : okN a0 a2 a3 a4 a5 a6 l7 l8 = true) : 1 ≤ a0 ∧ a0 ≤ 5 ∧ (a0 = 1 → 1 ≤ a2 ∧ a2 ≤ 6) ∧ (a0 ≠ 1 → a2 = 0) ∧ (a0 = 3 → l7.length = 2) := by
 unfold okN at h
 rw [Bool.or_eq_true, decide_eq_true_eq, decide_eq_true_eq] at h
 rcases h with h | h
 ·exact ck_open h
 ·exact ck_open h
theorem rd_zero {c : SV} {t : List SV} : rd_T28 (c :: t) 0 = c := rfl
theorem mnS_self (c : SV) (t : List SV) : mnS c (c :: t) = mnS c t := by
 show mnS (if cmpV c c < 0 then c else c) t = _
 rw [ite_self]
theorem mxS_self (c : SV) (t : List SV) : mxS' c (c :: t) = mxS' c t := by
 show mxS' (if cmpV c c > 0 then c else c) t = _
 rw [ite_self]
theorem abounds_f (h : a5 < 18446744073709551616) (hv : ∀ c ∈ l7, c.f2 < 18446744073709551616) : Evn (fun k => atom_Bounds.f k a0 a1 a2 a3 a4 a5 a6 l7 l8) (bdS a0 a2 a3 a4 a5 a6 l7 (okN a0 a2 a3 a4 a5 a6 l7 l8)) := by
 unfold atom_Bounds.f
 refine Evn.bind (a := okN a0 a2 a3 a4 a5 a6 l7 l8) (right_f a0 a1 a2 a3 a4 a5 a6 l7 l8 h hv) ?_
 by_cases ok : okN a0 a2 a3 a4 a5 a6 l7 l8 = true
 ·have o := okN_open ok
  have nok : ¬ okN a0 a2 a3 a4 a5 a6 l7 l8 = false := by rw [ok]; decide
  by_cases h4 : a0 = 4
  ·rw [show bdS a0 a2 a3 a4 a5 a6 l7 (okN a0 a2 a3 a4 a5 a6 l7 l8) = t9 zV zV false from by unfold bdS; rw [if_neg nok, if_pos h4]]
   exact Evn.congr (fun k => by rw [if_neg nok, if_neg (show ¬ a0 = 1 by omega), if_neg (show ¬ a0 = 2 by omega), if_neg (show ¬ a0 = 3 by omega), if_neg (show ¬ a0 = 5 by omega)]) (Evn.now _)
  by_cases h2 : a0 = 2
  ·have z2 := o.2.2.2.1 (by omega)
   by_cases hl : l7.length = 0
   ·rw [show bdS a0 a2 a3 a4 a5 a6 l7 (okN a0 a2 a3 a4 a5 a6 l7 l8) = t9 zV zV false from by unfold bdS; rw [if_neg nok, if_neg h4, if_pos h2, if_pos hl]]
    exact Evn.congr (fun k => by rw [if_neg nok, if_neg (show ¬ a0 = 1 by omega), if_pos h2, if_pos hl]) (Evn.now _)
   ·have hm : Evn (fun k => minCompare.f k l7) (mnS (rd_T28 l7 0) l7) ∧ Evn (fun k => maxCompare.f k l7) (mxS' (rd_T28 l7 0) l7) := by
     cases l7 with
     | nil => exact absurd rfl hl
     | cons c t =>
      have hc := hv c (List.mem_cons_self ..)
      have ht : ∀ v ∈ t, v.f2 < 18446744073709551616 := fun v q => hv v (List.mem_cons_of_mem _ q)
      rw [rd_zero, mnS_self, mxS_self]
      exact ⟨minT_e t c hc ht, maxT_e t c hc ht⟩
    rw [show bdS a0 a2 a3 a4 a5 a6 l7 (okN a0 a2 a3 a4 a5 a6 l7 l8) = t9 (mnS (rd_T28 l7 0) l7) (mxS' (rd_T28 l7 0) l7) true from by unfold bdS; rw [if_neg nok, if_neg h4, if_pos h2, if_neg hl]]
    refine Evn.congr (fun k => by rw [if_neg nok, if_neg (show ¬ a0 = 1 by omega), if_pos h2, if_neg hl]) ?_
    exact Evn.bind hm.1 (Evn.bind hm.2 (Evn.now _))
  by_cases h5 : a0 = 5
  ·have z2 := o.2.2.2.1 (by omega)
   rw [show bdS a0 a2 a3 a4 a5 a6 l7 (okN a0 a2 a3 a4 a5 a6 l7 l8) = t9 ⟨a3, a4, a5, a6⟩ zV true from by unfold bdS; rw [if_neg nok, if_neg h4, if_neg h2, if_pos h5]]
   exact Evn.congr (fun k => by rw [if_neg nok, if_neg (show ¬ a0 = 1 by omega), if_neg h2, if_neg (show ¬ a0 = 3 by omega), if_pos h5]) (Evn.now _)
  by_cases h3 : a0 = 3
  ·have z2 := o.2.2.2.1 (by omega)
   have ln : 1 < l7.length := by have := o.2.2.2.2 h3; omega
   rw [show bdS a0 a2 a3 a4 a5 a6 l7 (okN a0 a2 a3 a4 a5 a6 l7 l8) = t9 (rd_T28 l7 0) (rd_T28 l7 1) true from by unfold bdS; rw [if_neg nok, if_neg h4, if_neg h2, if_neg h5, if_pos h3]]
   exact Evn.congr (fun k => by rw [if_neg nok, if_neg (show ¬ a0 = 1 by omega), if_neg h2, if_pos h3, if_pos ln]) (Evn.now _)
  have h1 : a0 = 1 := by omega
  have o2 := o.2.2.1 h1
  by_cases b1 : a2 = 1
  ·rw [show bdS a0 a2 a3 a4 a5 a6 l7 (okN a0 a2 a3 a4 a5 a6 l7 l8) = t9 ⟨a3, a4, a5, a6⟩ ⟨a3, a4, a5, a6⟩ true from by unfold bdS; rw [if_neg nok, if_neg h4, if_neg h2, if_neg h5, if_neg h3, if_pos b1]]
   exact Evn.congr (fun k => by rw [if_neg nok, if_pos h1, if_pos b1]) (Evn.now _)
  by_cases b2 : a2 = 2
  ·rw [show bdS a0 a2 a3 a4 a5 a6 l7 (okN a0 a2 a3 a4 a5 a6 l7 l8) = t9 zV zV false from by unfold bdS; rw [if_neg nok, if_neg h4, if_neg h2, if_neg h5, if_neg h3, if_neg b1, if_pos b2]]
   exact Evn.congr (fun k => by rw [if_neg nok, if_pos h1, if_neg b1, if_neg (show ¬ (a2 = 3 ∨ a2 = 4) by omega), if_neg (show ¬ (a2 = 5 ∨ a2 = 6) by omega)]) (Evn.now _)
  by_cases b3 : a2 = 3 ∨ a2 = 4
  ·rw [show bdS a0 a2 a3 a4 a5 a6 l7 (okN a0 a2 a3 a4 a5 a6 l7 l8) = t9 zV ⟨a3, a4, a5, a6⟩ true from by unfold bdS; rw [if_neg nok, if_neg h4, if_neg h2, if_neg h5, if_neg h3, if_neg b1, if_neg b2, if_pos b3]]
   exact Evn.congr (fun k => by rw [if_neg nok, if_pos h1, if_neg b1, if_pos b3]) (Evn.now _)
  rw [show bdS a0 a2 a3 a4 a5 a6 l7 (okN a0 a2 a3 a4 a5 a6 l7 l8) = t9 ⟨a3, a4, a5, a6⟩ zV true from by unfold bdS; rw [if_neg nok, if_neg h4, if_neg h2, if_neg h5, if_neg h3, if_neg b1, if_neg b2, if_neg b3]]
  exact Evn.congr (fun k => by rw [if_neg nok, if_pos h1, if_neg b1, if_neg b3, if_pos (show a2 = 5 ∨ a2 = 6 by omega)]) (Evn.now _)
 ·rw [Bool.not_eq_true] at ok
  rw [show bdS a0 a2 a3 a4 a5 a6 l7 (okN a0 a2 a3 a4 a5 a6 l7 l8) = t9 zV zV false from by unfold bdS; rw [if_pos ok]]
  exact Evn.congr (fun k => by rw [if_pos ok]) (Evn.now _)
end
/-! ### the order of Ints and of Texts -/
theorem cmpb_eq (a b : ByteArray) : cmpb a b = Lib.compareBytes a.data.toList b.data.toList := by unfold cmpb; rw [Lib.cmp_eq]
theorem cB_neg : ∀ x y : List UInt8, Lib.compareBytes y x = -Lib.compareBytes x y
 | [], [] => by simp [Lib.compareBytes]
 | [], _ :: _ => by simp [Lib.compareBytes]
 | _ :: _, [] => by simp [Lib.compareBytes]
 | a :: x, b :: y => by
  rw [Lib.compareBytes, Lib.compareBytes]
  by_cases h1 : a < b
  ·have h2 : ¬ b < a := fun k => by have := UInt8.lt_iff_toNat_lt.1 k; have := UInt8.lt_iff_toNat_lt.1 h1; omega
   rw [if_neg h2, if_pos h1, if_pos h1]; rfl
  ·by_cases h2 : b < a
   ·rw [if_pos h2, if_neg h1, if_pos h2]
   ·rw [if_neg h2, if_neg h1, if_neg h1, if_neg h2]; exact cB_neg x y
theorem cB_tr : ∀ x y z : List UInt8, Lib.compareBytes x y ≥ 0 → Lib.compareBytes y z ≥ 0 → Lib.compareBytes x z ≥ 0
 | x, y, [] => fun _ _ => by cases x <;> simp [Lib.compareBytes]
 | x, [], _ :: _ => fun _ h => by simp [Lib.compareBytes] at h
 | [], _ :: _, _ :: _ => fun h _ => by simp [Lib.compareBytes] at h
 | a :: x, b :: y, c :: z => by
  rw [Lib.compareBytes, Lib.compareBytes, Lib.compareBytes]
  have lt : ∀ p q : UInt8, p < q ↔ p.toNat < q.toNat := fun p q => UInt8.lt_iff_toNat_lt
  intro h1 h2
  by_cases k1 : a < b
  ·rw [if_pos k1] at h1; omega
  rw [if_neg k1] at h1
  by_cases k2 : b < c
  ·rw [if_pos k2] at h2; omega
  rw [if_neg k2] at h2
  have n1 : ¬ a.toNat < b.toNat := fun q => k1 ((lt _ _).2 q)
  have n2 : ¬ b.toNat < c.toNat := fun q => k2 ((lt _ _).2 q)
  have n3 : ¬ a < c := fun q => by have := (lt _ _).1 q; omega
  rw [if_neg n3]
  by_cases k3 : c < a
  ·rw [if_pos k3]; decide
  ·have n4 : ¬ c.toNat < a.toNat := fun q => k3 ((lt _ _).2 q)
   have m1 : ¬ b < a := fun q => by have := (lt _ _).1 q; omega
   have m2 : ¬ c < b := fun q => by have := (lt _ _).1 q; omega
   rw [if_neg m1] at h1
   rw [if_neg m2] at h2
   rw [if_neg k3]
   exact cB_tr x y z h1 h2
def gd (kind : Int) (v : SV) : Prop := v.f0 = kind ∧ mayS v.f0 v.f1 v.f2 v.f3 = true
theorem cmp_ints {a b : SV} (ha : gd 1 a) (hb : gd 1 b) : cmpV a b = sgI a.f1 b.f1 := by
 obtain ⟨a0, a1, a2, a3⟩ := a
 obtain ⟨b0, b1, b2, b3⟩ := b
 obtain ⟨rfl, ha⟩ := ha
 obtain ⟨rfl, hb⟩ := hb
 unfold cmpV cmpS clS
 simp only at ha hb ⊢
 rw [ha, hb]
 simp
theorem cmp_txt {a b : SV} (ha : gd 2 a) (hb : gd 2 b) : cmpV a b = Lib.compareBytes a.f3.data.toList b.f3.data.toList := by
 obtain ⟨a0, a1, a2, a3⟩ := a
 obtain ⟨b0, b1, b2, b3⟩ := b
 obtain ⟨rfl, ha⟩ := ha
 obtain ⟨rfl, hb⟩ := hb
 unfold cmpV cmpS clS
 simp only at ha hb ⊢
 rw [ha, hb, ← cmpb_eq]
 simp
theorem sg_lt (x y : Int) : (sgI x y < 0 ↔ x < y) ∧ (sgI x y > 0 ↔ y < x) := by
 unfold sgI
 split
 ·constructor <;> omega
 ·split
  ·constructor <;> omega
  ·constructor <;> omega
theorem cmp_tr {kind : Int} (hk : kind = 1 ∨ kind = 2) {a b c : SV} (ha : gd kind a) (hb : gd kind b) (hc : gd kind c) : (¬ cmpV a b < 0 → ¬ cmpV b c < 0 → ¬ cmpV a c < 0) ∧ (¬ cmpV a b > 0 → ¬ cmpV b c > 0 → ¬ cmpV a c > 0) := by
 rcases hk with rfl | rfl
 ·rw [cmp_ints ha hb, cmp_ints hb hc, cmp_ints ha hc, (sg_lt _ _).1, (sg_lt _ _).1, (sg_lt _ _).1, (sg_lt _ _).2, (sg_lt _ _).2, (sg_lt _ _).2]
  constructor <;> omega
 ·rw [cmp_txt ha hb, cmp_txt hb hc, cmp_txt ha hc]
  have t1 := cB_tr a.f3.data.toList b.f3.data.toList c.f3.data.toList
  have t2 := cB_tr c.f3.data.toList b.f3.data.toList a.f3.data.toList
  have n1 := cB_neg a.f3.data.toList b.f3.data.toList
  have n2 := cB_neg b.f3.data.toList c.f3.data.toList
  have n3 := cB_neg a.f3.data.toList c.f3.data.toList
  rw [n2, n1, n3] at t2
  constructor <;> intro h1 h2 <;> omega
theorem cmp_as {kind : Int} (hk : kind = 1 ∨ kind = 2) {a b : SV} (ha : gd kind a) (hb : gd kind b) : (cmpV a b < 0 → ¬ cmpV b a < 0) ∧ (cmpV a b > 0 → ¬ cmpV b a > 0) := by
 rcases hk with rfl | rfl
 ·rw [cmp_ints ha hb, cmp_ints hb ha, (sg_lt _ _).1, (sg_lt _ _).1, (sg_lt _ _).2, (sg_lt _ _).2]
  constructor <;> omega
 ·rw [cmp_txt ha hb, cmp_txt hb ha, cB_neg a.f3.data.toList b.f3.data.toList]
  constructor <;> omega
theorem mn_le {kind : Int} (hk : kind = 1 ∨ kind = 2) : ∀ (l : List SV) (m : SV), gd kind m → (∀ c ∈ l, gd kind c) → gd kind (mnS m l) ∧ ¬ cmpV m (mnS m l) < 0 ∧ ∀ c ∈ l, ¬ cmpV c (mnS m l) < 0 := by
 intro l
 induction l with
 | nil => intro m hm _; exact ⟨hm, by show ¬ cmpV m m < 0; rw [cmpV_self]; decide, fun c hc => by cases hc⟩
 | cons c t ih =>
  intro m hm hl
  have hc := hl c (List.mem_cons_self ..)
  have ht : ∀ x ∈ t, gd kind x := fun x hx => hl x (List.mem_cons_of_mem _ hx)
  have e : mnS m (c :: t) = mnS (if cmpV c m < 0 then c else m) t := rfl
  rw [e]
  by_cases q : cmpV c m < 0
  ·rw [if_pos q]
   obtain ⟨i1, i2, i3⟩ := ih c hc ht
   refine ⟨i1, (cmp_tr hk hm hc i1).1 ((cmp_as hk hc hm).1 q) i2, fun x hx => ?_⟩
   rcases List.mem_cons.1 hx with rfl | hx
   ·exact i2
   ·exact i3 x hx
  ·rw [if_neg q]
   obtain ⟨i1, i2, i3⟩ := ih m hm ht
   refine ⟨i1, i2, fun x hx => ?_⟩
   rcases List.mem_cons.1 hx with rfl | hx
   ·exact (cmp_tr hk hc hm i1).1 q i2
   ·exact i3 x hx
theorem mx_ge {kind : Int} (hk : kind = 1 ∨ kind = 2) : ∀ (l : List SV) (m : SV), gd kind m → (∀ c ∈ l, gd kind c) → gd kind (mxS' m l) ∧ ¬ cmpV m (mxS' m l) > 0 ∧ ∀ c ∈ l, ¬ cmpV c (mxS' m l) > 0 := by
 intro l
 induction l with
 | nil => intro m hm _; exact ⟨hm, by show ¬ cmpV m m > 0; rw [cmpV_self]; decide, fun c hc => by cases hc⟩
 | cons c t ih =>
  intro m hm hl
  have hc := hl c (List.mem_cons_self ..)
  have ht : ∀ x ∈ t, gd kind x := fun x hx => hl x (List.mem_cons_of_mem _ hx)
  have e : mxS' m (c :: t) = mxS' (if cmpV c m > 0 then c else m) t := rfl
  rw [e]
  by_cases q : cmpV c m > 0
  ·rw [if_pos q]
   obtain ⟨i1, i2, i3⟩ := ih c hc ht
   refine ⟨i1, (cmp_tr hk hm hc i1).2 ((cmp_as hk hc hm).2 q) i2, fun x hx => ?_⟩
   rcases List.mem_cons.1 hx with rfl | hx
   ·exact i2
   ·exact i3 x hx
  ·rw [if_neg q]
   obtain ⟨i1, i2, i3⟩ := ih m hm ht
   refine ⟨i1, i2, fun x hx => ?_⟩
   rcases List.mem_cons.1 hx with rfl | hx
   ·exact (cmp_tr hk hc hm i1).2 q i2
   ·exact i3 x hx
theorem cmp_alike {kind : Int} (hk : kind = 1 ∨ kind = 2) {v c x : SV} (hv : mayS v.f0 v.f1 v.f2 v.f3 = true) (hc : gd kind c) (hx : gd kind x) (h : cmpV v c = 0) : cmpV v x = cmpV c x := by
 have cc : clS c.f0 c.f1 c.f2 c.f3 = if kind = 2 then 3 else 2 := by
  unfold clS
  rw [if_pos hc.2, hc.1]
  rcases hk with rfl | rfl <;> simp
 have ev : clS v.f0 v.f1 v.f2 v.f3 = clS c.f0 c.f1 c.f2 c.f3 := by
  by_cases q : clS v.f0 v.f1 v.f2 v.f3 = clS c.f0 c.f1 c.f2 c.f3
  ·exact q
  ·unfold cmpV cmpS at h
   rw [if_pos q] at h
   exact absurd ((sgI_zero _ _).1 h) q
 rw [cc] at ev
 rcases hk with rfl | rfl
 ·rw [if_neg (by decide)] at ev
  rcases class_two ev with e1 | e3
  ·have gv : gd 1 v := ⟨e1, hv⟩
   rw [cmp_ints gv hc] at h
   rw [cmp_ints gv hx, cmp_ints hc hx, (sgI_zero _ _).1 h]
  ·exfalso
   unfold cmpV cmpS at h
   rw [cc, ev, e3.1, hc.1] at h
   simp at h
   unfold mxS at h
   split at h <;> omega
 ·rw [if_pos rfl] at ev
  have gv : gd 2 v := ⟨class_three ev, hv⟩
  rw [cmp_txt gv hc] at h
  rw [cmp_txt gv hx, cmp_txt hc hx, cmpB_zero _ _ h]
end Go.Proofs.Ytkedejphebfneaa.V
