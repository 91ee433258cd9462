/- The texts of AtomKleene, merged: part 35. -/
import Derived.Test.YtkedejphebfneaaQAtomKleene30
import Derived.Test.YtkedejphebfneaaQAtomKleene33
import Derived.Test.YtkedejphebfneaaQAtomKleene26
import Derived.Test.YtkedejphebfneaaQAtomKleene34
import Derived.Test.YtkedejphebfneaaQAtomKleene28
/- Kleene's truths: opposites, intervals, lists, plainly. No program in sight. -/
namespace Go.Proofs.Ytkedejphebfneaa.V
open Go.RowKit Go.Proofs.Ytkedejphebfneaa.Pa Go.Proofs.Ytkedejphebfneaa.L Go.Proofs.Ytkedejphebfneaa.F Go.Proofs.YtkedejphebfneaaW.PrintWords Go.Proofs.YtkedejphebfneaaW.PrintLast Go.Proofs.YtkedejphebfneaaW.PrintMore
set_option linter.unusedVariables false
set_option linter.unusedSimpArgs false
def oppS (op : Int) : Int := if op = 1 then 2 else if op = 2 then 1 else if op = 3 then 6 else if op = 4 then 5 else if op = 5 then 4 else 3
theorem op_cases {op : Int} (h : 1 ≤ op ∧ op ≤ 6) : op = 1 ∨ op = 2 ∨ op = 3 ∨ op = 4 ∨ op = 5 ∨ op = 6 := by omega
theorem not_f (s : ByteArray) (op k i : Int) (r : Nat) (t : ByteArray) (h : 1 ≤ op ∧ op ≤ 6) : atom_Not.f 1 s op k i r t [] [] = some (1, s, oppS op, k, i, r, t, [], [], true) := by
  rcases op_cases h with rfl | rfl | rfl | rfl | rfl | rfl <;> rfl
theorem opp_opp {op : Int} (h : 1 ≤ op ∧ op ≤ 6) : oppS (oppS op) = op := by
  rcases op_cases h with rfl | rfl | rfl | rfl | rfl | rfl <;> rfl
theorem opp_range {op : Int} (h : 1 ≤ op ∧ op ≤ 6) : 1 ≤ oppS op ∧ oppS op ≤ 6 := by
  rcases op_cases h with rfl | rfl | rfl | rfl | rfl | rfl <;> decide
theorem st_opp (c : Int) {op : Int} (h : 1 ≤ op ∧ op ≤ 6) : stS c (oppS op) = !stS c op := by
  rw [Bool.eq_iff_iff]
  rcases op_cases h with rfl | rfl | rfl | rfl | rfl | rfl <;> simp [stS, oppS] <;> omega
def mV (v : S28) : Bool := mayS v.f0 v.f1 v.f2 v.f3
def cV (v c : S28) : Int := cmpS v.f0 v.f1 v.f2 v.f3 c.f0 c.f1 c.f2 c.f3
/-- What a comparison with c says of v. -/
def tV (op : Int) (v c : S28) : Int := if v.f0 = 0 then 2 else if stS (cV v c) op = true then 1 else 0
theorem tV_eq (op : Int) {v : S28} (c : S28) (mv : mV v = true) : testS 1 op c.f0 c.f1 c.f2 c.f3 [] v.f0 v.f1 v.f2 v.f3 = tV op v c := by
  unfold testS tV
  unfold mV at mv
  rw [mv, if_neg (by simp)]
  by_cases h0 : v.f0 = 0
  · rw [if_pos h0, if_pos h0, if_neg (by decide)]
  · rw [if_neg h0, if_neg h0]
    unfold sayS cV
    rw [if_pos rfl]
theorem tV_range (op : Int) (v c : S28) : tV op v c = 0 ∨ tV op v c = 1 ∨ tV op v c = 2 := by
  unfold tV
  split; simp
  split <;> simp
theorem okn : okL [] := fun c hc => by simp at hc
theorem testV (op : Int) {v c : S28} (hv : v.f2 < 18446744073709551616) (hc : c.f2 < 18446744073709551616) (mv : mV v = true) (s : ByteArray) : Evn (fun n => atom_Test.f n 1 s op c.f0 c.f1 c.f2 c.f3 [] [] v.f0 v.f1 v.f2 v.f3) (tV op v c) := by
  rw [← tV_eq op c mv]
  exact test_f (h5 := hc) (hl := okn) (h := hv) ..
theorem compared_f (op k i : Int) (r : Nat) (t : ByteArray) : colonnadelaw18_compared.f op k i r t = some (1, (⟨#[99]⟩ : ByteArray), op, k, i, r, t, [], []) := rfl
theorem colT_one (s : ByteArray) (k : Int) (b : Bool) : colT [(⟨s, k, b⟩ : S23)] s = some k := by simp [colT]
theorem null_may : mayR 0 0 0 (⟨#[]⟩ : ByteArray) = true := by
  rw [mayR_eq _ _ _ (by decide)]
  decide +kernel
theorem check_one {c : S28} (hc : c.f2 < 18446744073709551616) (mc : mV c = true) (k0 : c.f0 ≠ 0) (op : Int) (h : 1 ≤ op ∧ op ≤ 6) (s : ByteArray) (b : Bool) :
    Evn (fun n => atom_Check.f n [(⟨s, c.f0, b⟩ : S23)] 1 s op c.f0 c.f1 c.f2 c.f3 [] []) 0 := by
  have := acheck_f [(⟨s, c.f0, b⟩ : S23)] 1 s op c.f0 c.f1 c.f2 c.f3 [] [] hc okn
  rw [colT_one] at this
  have e : rcN ((some c.f0).getD 0) (some c.f0).isSome 1 op c.f0 (mayR c.f0 c.f1 c.f2 c.f3) [] ([] : List S32).length = 0 := by
    unfold mV at mc
    rw [mayR_eq _ _ _ hc, mc]
    unfold rcN badL
    simp [k0]
    omega
  rw [e] at this
  exact this
theorem good_of {kind : Int} {l : List S28} (ok : okL l) (h : badL kind l = false) : ∀ c ∈ l, mV c = true ∧ c.f0 = kind := by
  intro c hc
  unfold badL at h
  rw [List.any_eq_false] at h
  have := h c hc
  unfold mayV at this
  rw [mayR_eq _ _ _ (ok c hc)] at this
  unfold mV
  simp at this
  exact ⟨this.1.1, this.1.2⟩
theorem check_in (kind : Int) (s : ByteArray) (b : Bool) (l : List S28) (ok : okL l) : ∃ e, Evn (fun n => atom_Check.f n [(⟨s, kind, b⟩ : S23)] 2 s 0 0 0 0 (⟨#[]⟩ : ByteArray) l []) e ∧ (e = 0 → ∀ c ∈ l, mV c = true ∧ c.f0 = kind) := by
  have := acheck_f [(⟨s, kind, b⟩ : S23)] 2 s 0 0 0 0 (⟨#[]⟩ : ByteArray) l [] (by decide) ok
  rw [colT_one, null_may] at this
  refine ⟨_, this, fun h => good_of ok ?_⟩
  unfold rcN at h
  simp at h
  cases q : badL kind l
  · rfl
  · simp [q] at h
    split at h <;> simp at h
theorem check_be (kind : Int) (s : ByteArray) (b : Bool) (l : List S28) (hl : l.length = 2) (ok : okL l) : ∃ e, Evn (fun n => atom_Check.f n [(⟨s, kind, b⟩ : S23)] 3 s 0 0 0 0 (⟨#[]⟩ : ByteArray) l []) e ∧ (e = 0 → ∀ c ∈ l, mV c = true ∧ c.f0 = kind) := by
  have := acheck_f [(⟨s, kind, b⟩ : S23)] 3 s 0 0 0 0 (⟨#[]⟩ : ByteArray) l [] (by decide) ok
  rw [colT_one, null_may] at this
  refine ⟨_, this, fun h => good_of ok ?_⟩
  unfold rcN at h
  simp [hl] at h
  cases q : badL kind l
  · rfl
  · simp [q] at h
def kAnd (a b : Int) : Int := if a = 0 ∨ b = 0 then 0 else if a = 2 ∨ b = 2 then 2 else 1
def kOr (a b : Int) : Int := if a = 1 ∨ b = 1 then 1 else if a = 2 ∨ b = 2 then 2 else 0
theorem and_f {a b : Int} (ha : a = 0 ∨ a = 1 ∨ a = 2) (hb : b = 0 ∨ b = 1 ∨ b = 2) : Evn (fun k => value_And.f k [a, b]) (kAnd a b) := by
  refine evn_of (fun k => value_And.mono _ _) 4 ?_
  rcases ha with rfl | rfl | rfl <;> rcases hb with rfl | rfl | rfl <;> decide +kernel
theorem or_k {a b : Int} (ha : a = 0 ∨ a = 1 ∨ a = 2) (hb : b = 0 ∨ b = 1 ∨ b = 2) : Evn (fun k => value_Or.f k [a, b]) (kOr a b) := by
  refine evn_of (fun k => value_Or.mono _ _) 4 ?_
  rcases ha with rfl | rfl | rfl <;> rcases hb with rfl | rfl | rfl <;> decide +kernel
def kNot (t : Int) : Int := if t = 0 then 1 else if t = 1 then 0 else 2
theorem knot_f (t : Int) : value_Not.f t = some (kNot t) := by
  unfold value_Not.f kNot
  by_cases h0 : t = 0 <;> by_cases h1 : t = 1 <;> simp [h0, h1]
theorem tV_opp {op : Int} (h : 1 ≤ op ∧ op ≤ 6) (v c : S28) : tV (oppS op) v c = kNot (tV op v c) := by
  unfold tV kNot
  rw [st_opp _ h]
  by_cases h0 : v.f0 = 0
  · simp [h0]
  · cases stS (cV v c) op <;> simp [h0]
theorem ends_f (op : Int) (v c : S28) : colonnadelaw18_ends.f (tV op v c) v.f0 v.f1 v.f2 v.f3 = some true := by
  unfold colonnadelaw18_ends.f tV
  by_cases h0 : v.f0 = 0
  · simp [h0]
  · by_cases h1 : stS (cV v c) op = true <;> simp [h0, h1]
def yV (op : Int) (v c : S28) : Int := if tV op v c = 1 ∧ (op = 1 ∨ op = 3 ∨ op = 5) then 1 else 0
theorem yV_sum (v c : S28) : yV 1 v c + yV 2 v c + yV 3 v c + yV 4 v c + yV 5 v c + yV 6 v c = if v.f0 = 0 then 0 else 1 := by
  unfold yV tV
  by_cases h0 : v.f0 = 0
  · simp [h0]
  · rcases Int.lt_trichotomy (cV v c) 0 with h | h | h
    · have e1 : stS (cV v c) 1 = false := by simp [stS]; omega
      have e3 : stS (cV v c) 3 = true := by simp [stS]; omega
      have e5 : stS (cV v c) 5 = false := by simp [stS]; omega
      simp [h0, e1, e3, e5]
    · have e1 : stS (cV v c) 1 = true := by simp [stS]; omega
      have e3 : stS (cV v c) 3 = false := by simp [stS]; omega
      have e5 : stS (cV v c) 5 = false := by simp [stS]; omega
      simp [h0, e1, e3, e5]
    · have e1 : stS (cV v c) 1 = false := by simp [stS]; omega
      have e3 : stS (cV v c) 3 = false := by simp [stS]; omega
      have e5 : stS (cV v c) 5 = true := by simp [stS]; omega
      simp [h0, e1, e3, e5]
/-- The list's truth, value by value. -/
def anyV (v : S28) (l : List S28) : Bool := l.any (fun c => cV v c == 0)
def orV (v : S28) (b : Bool) : Int := if v.f0 = 0 then 2 else if b = true then 1 else 0
theorem inV {v : S28} (l : List S28) (mv : mV v = true) : testS 2 0 0 0 0 (⟨#[]⟩ : ByteArray) l v.f0 v.f1 v.f2 v.f3 = orV v (anyV v l) := by
  unfold testS orV
  unfold mV at mv
  rw [mv, if_neg (by simp)]
  by_cases h0 : v.f0 = 0
  · rw [if_pos h0, if_pos h0, if_neg (by decide)]
  · rw [if_neg h0, if_neg h0]
    rfl
theorem beV {v c d : S28} (mv : mV v = true) : testS 3 0 0 0 0 (⟨#[]⟩ : ByteArray) [c, d] v.f0 v.f1 v.f2 v.f3 = kAnd (tV 6 v c) (tV 4 v d) := by
  unfold testS tV kAnd
  unfold mV at mv
  rw [mv, if_neg (by simp)]
  by_cases h0 : v.f0 = 0
  · simp [h0]
  · rw [if_neg h0, if_neg h0, if_neg h0]
    unfold sayS
    have e : (decide (2 ≤ [c, d].length) && decide (cS v.f0 v.f1 v.f2 v.f3 (rz [c, d] 0) ≥ 0) && decide (cS v.f0 v.f1 v.f2 v.f3 (rz [c, d] 1) ≤ 0)) = (stS (cV v c) 6 && stS (cV v d) 4) := by
      have e0 : rz [c, d] 0 = c := rfl
      have e1 : rz [c, d] 1 = d := rfl
      rw [e0, e1]
      unfold cS cV stS
      simp
    simp only [e, show ((3:Int) = 1) = False from by simp, show ((3:Int) = 2) = False from by simp, if_true, if_false]
    cases stS (cV v c) 6 <;> cases stS (cV v d) 4 <;> simp
theorem nuV {v : S28} (mv : mV v = true) : testS 4 0 0 0 0 (⟨#[]⟩ : ByteArray) [] v.f0 v.f1 v.f2 v.f3 = if v.f0 = 0 then 1 else 0 := by
  unfold testS
  unfold mV at mv
  rw [mv, if_neg (by simp)]
  by_cases h0 : v.f0 = 0
  · simp [h0]
  · rw [if_neg h0, if_neg h0]
    rfl
theorem fits_f {v : S28} (hv : v.f2 < 18446744073709551616) (s : ByteArray) (k : Int) : ∃ b, Evn (fun n => value_Fits.f n s k true v.f0 v.f1 v.f2 v.f3) b ∧ (b = true → mV v = true) := by
  unfold value_Fits.f mV
  by_cases hm : mayS v.f0 v.f1 v.f2 v.f3 = true
  · by_cases h1 : v.f0 = k
    · exact ⟨true, Evn.bind (may_f _ _ _ hv) (Evn.pos hm (Evn.pos h1 (Evn.now _))), fun _ => hm⟩
    · by_cases h2 : v.f0 = 0
      · exact ⟨true, Evn.bind (may_f _ _ _ hv) (Evn.pos hm (Evn.neg h1 (Evn.pos h2 (Evn.now _)))), fun _ => hm⟩
      · exact ⟨false, Evn.bind (may_f _ _ _ hv) (Evn.pos hm (Evn.neg h1 (Evn.neg h2 (Evn.now _)))), fun h => by cases h⟩
  · exact ⟨false, Evn.bind (may_f _ _ _ hv) (Evn.neg hm (Evn.now _)), fun h => by cases h⟩
end Go.Proofs.Ytkedejphebfneaa.V
