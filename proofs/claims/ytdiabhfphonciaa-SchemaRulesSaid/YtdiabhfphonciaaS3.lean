/- Columns, plainly: which may be, their form, what Check, Put tell of them. -/
import Derived.Test.YtdiabhfphonciaaL
import Derived.Test.YtdiabhfphonciaaCk
import Derived.Test.YtdiabhfphonciaaPt
import Derived.Test.YtdiabhfphonciaaRp
import Derived.Test.YtdiabhfphonciaaTk
namespace Go.Proofs.Ytdiabhfphonciaa.Pa
open Go.RowKit Go.Proofs.YtdiabhfphonciaaW.PrintWords Go.Proofs.YtdiabhfphonciaaW.PrintLast Go.Proofs.YtdiabhfphonciaaW.PrintMore Go.Proofs.Ytdiabhfphonciaa.L
set_option linter.unusedVariables false
set_option linter.unusedSimpArgs false

/-! ### names -/
def isL (c : Int) : Bool := decide (97 ≤ c ∧ c ≤ 122 ∨ 65 ≤ c ∧ c ≤ 90)
def isC (c : Int) : Bool := isL c || decide (c = 95 ∨ 48 ≤ c ∧ c ≤ 57)
theorem letter_f (c : Int) : schema_letter.f c = some (isL c) := by
  unfold schema_letter.f isL
  by_cases h1 : 97 ≤ c <;> by_cases h2 : c ≤ 122 <;> by_cases h3 : 65 ≤ c <;> by_cases h4 : c ≤ 90 <;> simp [h1, h2, h3, h4] <;> omega
theorem ref_letter_f (c : Int) : colonnaderef15_letter.f c = some (isL c) := by
  unfold colonnaderef15_letter.f isL
  by_cases h1 : 97 ≤ c <;> by_cases h2 : c ≤ 122 <;> by_cases h3 : 65 ≤ c <;> by_cases h4 : c ≤ 90 <;> simp [h1, h2, h3, h4] <;> omega
/-- All places from i on. -/
def allC (s : ByteArray) : Nat → Nat → Bool
  | 0, _ => true
  | d + 1, i => isC (bt s i) && allC s d (i + 1)
def nameOk (s : ByteArray) : Bool := decide (1 ≤ s.size ∧ s.size ≤ 64) && isL (bt s 0) && allC s s.size 0
theorem named_l0 (s : ByteArray) (hs : s.size ≤ 64) : ∀ d i : Nat, i + d = s.size → Evn (fun k => schema_named.l0 k s (s.size : Int) (i : Int)) (allC s d i) := by
  intro d
  induction d with
  | zero =>
    intro i e
    refine Evn.succ (fun _ => rfl) ?_
    simp only [schema_named.l0]
    exact Evn.neg (by omega) (Evn.now _)
  | succ d ih =>
    intro i e
    refine Evn.succ (fun _ => rfl) ?_
    simp only [schema_named.l0]
    refine Evn.pos (by omega) (Evn.pos (by omega) (Evn.pos (by omega) ?_))
    rw [letter_f]
    simp only [Option.bind_some]
    have e1 : wrap64 ((i : Int) + 1) = ((i + 1 : Nat) : Int) := by rw [wrap64_in (by omega) (by omega)]; omega
    rw [e1]
    have hI := ih (i + 1) (by omega)
    unfold allC
    by_cases h1 : isL (bt s i) = true
    · have : isC (bt s i) = true := by simp [isC, h1]
      rw [this, Bool.true_and]
      exact Evn.pos h1 hI
    · refine Evn.neg h1 ?_
      by_cases h2 : bt s i = 95
      · have : isC (bt s i) = true := by simp [isC, h2]
        rw [this, Bool.true_and]
        exact Evn.pos h2 hI
      · refine Evn.neg h2 ?_
        by_cases h3 : bt s i < 48
        · have : isC (bt s i) = false := by simp [isC, h1, h2]; omega
          rw [this, Bool.false_and]
          exact Evn.pos h3 (Evn.now _)
        · refine Evn.neg h3 ?_
          by_cases h4 : bt s i > 57
          · have : isC (bt s i) = false := by simp [isC, h1, h2]; omega
            rw [this, Bool.false_and]
            exact Evn.pos h4 (Evn.now _)
          · have : isC (bt s i) = true := by simp [isC]; omega
            rw [this, Bool.true_and]
            exact Evn.neg h4 hI
theorem toList_nil (s : ByteArray) : s.toList = [] ↔ s.size = 0 := by
  rw [ByteArray.toList_eq]
  constructor
  · intro h
    have := congrArg List.length h
    simpa using this
  · intro h
    have : s.data.toList.length = 0 := by simpa using h
    exact List.eq_nil_of_length_eq_zero this
theorem named_f (s : ByteArray) : Evn (fun k => schema_named.f k s) (nameOk s) := by
  unfold schema_named.f nameOk
  by_cases h0 : s.size = 0
  · refine Evn.pos ((toList_nil s).2 h0) ?_
    have : (decide (1 ≤ s.size ∧ s.size ≤ 64)) = false := by simp; omega
    rw [this, Bool.false_and, Bool.false_and]
    refine Evn.succ (fun _ => rfl) ?_
    simp only [schema_named.j0]
    exact Evn.pos trivial (Evn.now _)
  · refine Evn.neg (fun h => h0 ((toList_nil s).1 h)) ?_
    by_cases h1 : (s.size : Int) > 64
    · refine Evn.pos h1 ?_
      have : (decide (1 ≤ s.size ∧ s.size ≤ 64)) = false := by simp; omega
      rw [this, Bool.false_and, Bool.false_and]
      refine Evn.succ (fun _ => rfl) ?_
      simp only [schema_named.j0]
      exact Evn.pos trivial (Evn.now _)
    · refine Evn.neg h1 (Evn.pos (by omega) ?_)
      rw [letter_f]
      simp only [Option.bind_some]
      refine Evn.succ (fun _ => rfl) ?_
      simp only [schema_named.j0]
      have : (decide (1 ≤ s.size ∧ s.size ≤ 64)) = true := by simp; omega
      rw [this, Bool.true_and]
      by_cases h2 : isL (bt s 0) = true
      · rw [h2, Bool.true_and]
        exact Evn.neg (by simp) (named_l0 s (by omega) s.size 0 (by omega))
      · have h2 : isL (bt s 0) = false := by simpa using h2
        rw [h2, Bool.false_and]
        exact Evn.pos rfl (Evn.now _)
theorem allC_of (s : ByteArray) (h : isL (bt s 0) = true) (hs : 1 ≤ s.size) : allC s s.size 0 = allC s (s.size - 1) 1 := by
  obtain ⟨m, hm⟩ : ∃ m, s.size = m + 1 := ⟨s.size - 1, by omega⟩
  rw [hm, allC, Nat.add_sub_cancel]
  have : isC (bt s ((0 : Nat) : Int)) = true := by simp [isC, h]
  rw [this, Bool.true_and]
theorem ref_Name_l0 (s : ByteArray) (hs : s.size ≤ 64) : ∀ d i : Nat, i + d = s.size → Evn (fun k => colonnaderef15_Name.l0 k s (i : Int)) (allC s d i) := by
  intro d
  induction d with
  | zero =>
    intro i e
    refine Evn.succ (fun _ => rfl) ?_
    simp only [colonnaderef15_Name.l0]
    exact Evn.neg (by omega) (Evn.now _)
  | succ d ih =>
    intro i e
    refine Evn.succ (fun _ => rfl) ?_
    simp only [colonnaderef15_Name.l0]
    refine Evn.pos (by omega) (Evn.pos (by omega) ?_)
    rw [ref_letter_f]
    simp only [Option.bind_some]
    have e1 : wrap64 ((i : Int) + 1) = ((i + 1 : Nat) : Int) := by rw [wrap64_in (by omega) (by omega)]; omega
    rw [e1]
    have hI := ih (i + 1) (by omega)
    unfold allC
    by_cases h1 : isL (bt s i) = true
    · have : isC (bt s i) = true := by simp [isC, h1]
      rw [this, Bool.true_and]
      exact Evn.pos h1 hI
    · refine Evn.neg h1 ?_
      by_cases h3 : bt s i ≥ 48
      · refine Evn.pos h3 ?_
        by_cases h4 : bt s i ≤ 57
        · have : isC (bt s i) = true := by simp [isC]; omega
          rw [this, Bool.true_and]
          exact Evn.pos h4 hI
        · refine Evn.neg h4 ?_
          by_cases h2 : bt s i = 95
          · have : isC (bt s i) = true := by simp [isC, h2]
            rw [this, Bool.true_and]
            exact Evn.pos h2 hI
          · have : isC (bt s i) = false := by simp [isC, h1, h2]; omega
            rw [this, Bool.false_and]
            exact Evn.neg h2 (Evn.now _)
      · refine Evn.neg h3 ?_
        by_cases h2 : bt s i = 95
        · have : isC (bt s i) = true := by simp [isC, h2]
          rw [this, Bool.true_and]
          exact Evn.pos h2 hI
        · have : isC (bt s i) = false := by simp [isC, h1, h2]; omega
          rw [this, Bool.false_and]
          exact Evn.neg h2 (Evn.now _)
theorem ref_Name_f (s : ByteArray) : Evn (fun k => colonnaderef15_Name.f k s) (nameOk s) := by
  unfold colonnaderef15_Name.f nameOk
  by_cases h0 : s.size = 0
  · refine Evn.pos (by omega) ?_
    have : (decide (1 ≤ s.size ∧ s.size ≤ 64)) = false := by simp; omega
    rw [this, Bool.false_and, Bool.false_and]
    refine Evn.succ (fun _ => rfl) ?_
    simp only [colonnaderef15_Name.j0]
    exact Evn.pos trivial (Evn.now _)
  · refine Evn.neg (by omega) ?_
    by_cases h1 : (s.size : Int) > 64
    · refine Evn.pos h1 ?_
      have : (decide (1 ≤ s.size ∧ s.size ≤ 64)) = false := by simp; omega
      rw [this, Bool.false_and, Bool.false_and]
      refine Evn.succ (fun _ => rfl) ?_
      simp only [colonnaderef15_Name.j0]
      exact Evn.pos trivial (Evn.now _)
    · refine Evn.neg h1 (Evn.pos (by omega) ?_)
      rw [ref_letter_f]
      simp only [Option.bind_some]
      refine Evn.succ (fun _ => rfl) ?_
      simp only [colonnaderef15_Name.j0]
      have : (decide (1 ≤ s.size ∧ s.size ≤ 64)) = true := by simp; omega
      rw [this, Bool.true_and]
      by_cases h2 : isL (bt s 0) = true
      · rw [allC_of s h2 (by omega), h2, Bool.true_and]
        exact Evn.neg (by simp) (ref_Name_l0 s (by omega) (s.size - 1) 1 (by omega))
      · have h2 : isL (bt s 0) = false := by simpa using h2
        rw [h2, Bool.false_and]
        exact Evn.pos rfl (Evn.now _)

/-! ### which columns may be -/
def key (c : S42) : List UInt8 := c.f0.data.toList
def good (c : S42) : Prop := nameOk c.f0 = true ∧ (c.f1 = 1 ∨ c.f1 = 2)
instance (c : S42) : Decidable (good c) := by unfold good; exact inferInstance
def OK (l : List S42) : Prop := 1 ≤ l.length ∧ l.length ≤ 256 ∧ (∀ c ∈ l, good c) ∧ (l.map key).Nodup
instance (l : List S42) : Decidable (OK l) := by unfold OK; exact inferInstance
def small (l : List S42) : Prop := ∀ c ∈ l, c.f0.size ≤ 140737488355327
theorem check_l : ∀ (l : List S42) (met : List (List UInt8)), small l → Evn (fun k => schema_Check.l k l met) (if (∀ c ∈ l, good c) ∧ (l.map key).Nodup ∧ ∀ c ∈ l, key c ∉ met then 0 else 150)
  | [], met, _ => by
    rw [if_pos ⟨by simp, by simp, by simp⟩]
    exact Evn.now _
  | c :: l, met, hs => by
    unfold schema_Check.l
    refine Evn.pos (by have := hs c (by simp); unfold maxLen; omega) ?_
    by_cases hm : c.f0.data.toList ∈ met
    · rw [if_neg (fun h => h.2.2 c (by simp) hm)]
      exact Evn.pos hm (Evn.now _)
    · refine Evn.neg hm (Evn.bind (named_f c.f0) ?_)
      have ih := check_l l (met ++ [key c]) (fun d hd => hs d (by simp [hd]))
      by_cases hg : nameOk c.f0 = true ∧ (c.f1 = 1 ∨ c.f1 = 2)
      · refine Evn.pos hg ?_
        have e : ((∀ d ∈ c :: l, good d) ∧ ((c :: l).map key).Nodup ∧ ∀ d ∈ c :: l, key d ∉ met) ↔ ((∀ d ∈ l, good d) ∧ (l.map key).Nodup ∧ ∀ d ∈ l, key d ∉ met ++ [key c]) := by
          constructor
          · rintro ⟨h1, h2, h3⟩
            rw [List.map_cons, List.nodup_cons] at h2
            refine ⟨fun d hd => h1 d (by simp [hd]), h2.2, fun d hd hk => ?_⟩
            rcases List.mem_append.1 hk with hk | hk
            · exact h3 d (by simp [hd]) hk
            · exact h2.1 (by rw [← List.mem_singleton.1 hk]; exact List.mem_map_of_mem hd)
          · rintro ⟨h1, h2, h3⟩
            refine ⟨fun d hd => ?_, ?_, fun d hd => ?_⟩
            · rcases List.mem_cons.1 hd with rfl | hd
              · exact hg
              · exact h1 d hd
            · rw [List.map_cons, List.nodup_cons]
              refine ⟨fun hk => ?_, h2⟩
              obtain ⟨d, hd, e⟩ := List.mem_map.1 hk
              exact h3 d hd (by simp [e])
            · rcases List.mem_cons.1 hd with rfl | hd
              · exact hm
              · exact fun hk => h3 d hd (by simp [hk])
        simp only [e]
        exact ih
      · rw [if_neg (fun h => hg (h.1 c (by simp)))]
        exact Evn.neg hg (Evn.now _)
theorem check_f (l : List S42) (hs : small l) : Evn (fun k => schema_Check.f k l) (if OK l then 0 else 150) := by
  unfold schema_Check.f
  by_cases h : 1 ≤ l.length ∧ l.length ≤ 256
  · refine Evn.pos h ?_
    have e : OK l ↔ ((∀ c ∈ l, good c) ∧ (l.map key).Nodup ∧ ∀ c ∈ l, key c ∉ []) := by
      unfold OK
      constructor
      · exact fun h => ⟨h.2.2.1, h.2.2.2, by simp⟩
      · exact fun h' => ⟨h.1, h.2, h'.1, h'.2.1⟩
    simp only [e]
    exact check_l l [] hs
  · refine Evn.neg h ?_
    rw [if_neg (fun h' => h ⟨h'.1, h'.2.1⟩)]
    exact Evn.now _
end Go.Proofs.Ytdiabhfphonciaa.Pa
namespace Go.Proofs.Ytdiabhfphonciaa.Pa
open Go.RowKit Go.Proofs.YtdiabhfphonciaaW.PrintWords Go.Proofs.YtdiabhfphonciaaW.PrintLast Go.Proofs.YtdiabhfphonciaaW.PrintMore Go.Proofs.Ytdiabhfphonciaa.L
set_option linter.unusedVariables false
set_option linter.unusedSimpArgs false
theorem rd_nat (l : List S42) (i : Nat) (h : i < l.length) : rd_T42 l (i : Int) = l[i] := by
  simp [rd_T42, List.getD_eq_getElem?_getD, List.getElem?_eq_getElem h]
def P42 (l : List S42) (m : Nat) (h : m < l.length) : Prop := good l[m] ∧ ∀ j (hj : j < m), key (l[j]'(by omega)) ≠ key l[m]
open Classical in
theorem ref_check_l0 (l : List S42) (hs : l.length ≤ 256) : ∀ d i : Nat, i + d = l.length → Evn (fun k => colonnaderef15_Check.l0 k l (i : Int)) (if ∀ m (h : m < l.length), i ≤ m → P42 l m h then 0 else 150) := by
  intro d
  induction d with
  | zero =>
    intro i e
    rw [if_pos (fun m h hm => absurd h (by omega))]
    refine Evn.succ (fun _ => rfl) ?_
    simp only [colonnaderef15_Check.l0]
    exact Evn.neg (by omega) (Evn.now _)
  | succ d ih =>
    intro i e
    have hi : i < l.length := by omega
    have e1 : wrap64 ((i : Int) + 1) = ((i + 1 : Nat) : Int) := by rw [wrap64_in (by omega) (by omega)]; omega
    -- the inner loop
    have inner : ∀ u j : Nat, (ej : j + u = i) → (∀ j' (h : j' < j), key (l[j']'(by omega)) ≠ key l[i]) → good l[i] → Evn (fun k => colonnaderef15_Check.l1 k l (i : Int) (j : Int)) (if ∀ m (h : m < l.length), i ≤ m → P42 l m h then 0 else 150) := by
      intro u
      induction u with
      | zero =>
        intro j ej hj hg
        obtain rfl : j = i := by omega
        refine Evn.succ (fun _ => rfl) ?_
        simp only [colonnaderef15_Check.l1]
        refine Evn.neg (by omega) ?_
        rw [e1]
        have hP : P42 l j hi := ⟨hg, hj⟩
        have e2 : (∀ m (h : m < l.length), j ≤ m → P42 l m h) ↔ (∀ m (h : m < l.length), j + 1 ≤ m → P42 l m h) := by
          constructor
          · exact fun h m hm h2 => h m hm (by omega)
          · intro h m hm h2
            rcases Nat.lt_or_ge j m with h3 | h3
            · exact h m hm h3
            · obtain rfl : m = j := by omega
              exact hP
        simp only [e2]
        exact ih (j + 1) (by omega)
      | succ u ihu =>
        intro j ej hj hg
        have e3 : wrap64 ((j : Int) + 1) = ((j + 1 : Nat) : Int) := by rw [wrap64_in (by omega) (by omega)]; omega
        refine Evn.succ (fun _ => rfl) ?_
        simp only [colonnaderef15_Check.l1]
        refine Evn.pos (by omega) (Evn.pos (by omega) (Evn.pos (by omega) (Evn.pos (by omega) (Evn.pos (by omega) ?_))))
        rw [rd_nat l j (by omega), rd_nat l i hi, ByteArray.toList_eq, ByteArray.toList_eq, e3]
        by_cases hk : l[j].f0.data.toList = l[i].f0.data.toList
        · rw [if_neg (fun h => (h i hi (Nat.le_refl _)).2 j (by omega) hk)]
          exact Evn.pos hk (Evn.now _)
        · refine Evn.neg hk (ihu (j + 1) (by omega) (fun j' h => ?_) hg)
          rcases Nat.lt_or_ge j' j with h3 | h3
          · exact hj j' h3
          · obtain rfl : j' = j := by omega
            exact hk
    refine Evn.succ (fun _ => rfl) ?_
    simp only [colonnaderef15_Check.l0]
    refine Evn.pos (by omega) (Evn.pos (by omega) (Evn.bind (ref_Name_f _) ?_))
    rw [rd_nat l i hi]
    by_cases hn : nameOk l[i].f0 = true
    · refine Evn.pos hn ?_
      by_cases h1 : l[i].f1 = 1
      · refine Evn.pos h1 (Evn.succ (fun _ => rfl) ?_)
        simp only [colonnaderef15_Check.j2]
        exact Evn.neg (by simp) (inner i 0 (by omega) (fun j' h => absurd h (by omega)) ⟨hn, Or.inl h1⟩)
      · refine Evn.neg h1 (Evn.succ (fun _ => rfl) ?_)
        simp only [colonnaderef15_Check.j2]
        by_cases h2 : l[i].f1 = 2
        · exact Evn.neg (by simp [h2]) (inner i 0 (by omega) (fun j' h => absurd h (by omega)) ⟨hn, Or.inr h2⟩)
        · rw [if_neg (fun h => (h i hi (Nat.le_refl _)).1.2.elim h1 h2)]
          exact Evn.pos (by simp [h2]) (Evn.now _)
    · rw [if_neg (fun h => hn (h i hi (Nat.le_refl _)).1.1)]
      refine Evn.neg hn (Evn.succ (fun _ => rfl) ?_)
      simp only [colonnaderef15_Check.j2]
      exact Evn.pos trivial (Evn.now _)
theorem all_P42 (l : List S42) : (∀ m (h : m < l.length), 0 ≤ m → P42 l m h) ↔ (∀ c ∈ l, good c) ∧ (l.map key).Nodup := by
  constructor
  · intro h
    refine ⟨fun c hc => ?_, ?_⟩
    · obtain ⟨m, hm, rfl⟩ := List.mem_iff_getElem.1 hc
      exact (h m hm (Nat.zero_le _)).1
    · rw [List.Nodup, List.pairwise_iff_getElem]
      intro i j hi hj hij
      simp only [List.getElem_map]
      rw [List.length_map] at hj
      exact (h j hj (Nat.zero_le _)).2 i hij
  · rintro ⟨h1, h2⟩ m hm _
    refine ⟨h1 _ (List.getElem_mem hm), fun j hj => ?_⟩
    rw [List.Nodup, List.pairwise_iff_getElem] at h2
    have := h2 j m (by rw [List.length_map]; omega) (by rw [List.length_map]; omega) hj
    simpa using this
theorem ref_check_f (l : List S42) : Evn (fun k => colonnaderef15_Check.f k l) (if OK l then 0 else 150) := by
  unfold colonnaderef15_Check.f
  by_cases h1 : (l.length : Int) < 1
  · refine Evn.pos h1 (Evn.succ (fun _ => rfl) ?_)
    simp only [colonnaderef15_Check.j0]
    rw [if_neg (fun h => by have := h.1; omega)]
    exact Evn.pos trivial (Evn.now _)
  · refine Evn.neg h1 (Evn.succ (fun _ => rfl) ?_)
    simp only [colonnaderef15_Check.j0]
    by_cases h2 : (l.length : Int) > 256
    · rw [if_neg (fun h => by have := h.2.1; omega)]
      exact Evn.pos (by simpa using h2) (Evn.now _)
    · have h0 := ref_check_l0 l (by omega) l.length 0 (by omega)
      have e : OK l ↔ (∀ m (h : m < l.length), 0 ≤ m → P42 l m h) := by
        rw [all_P42]
        exact ⟨fun h => h.2.2, fun h => ⟨by omega, by omega, h.1, h.2⟩⟩
      refine Evn.neg (by simpa using h2) ?_
      by_cases h3 : OK l
      · rw [if_pos h3]
        rw [if_pos (e.1 h3)] at h0
        exact h0
      · rw [if_neg h3]
        rw [if_neg (fun h => h3 (e.2 h))] at h0
        exact h0

/-! ### the form -/
def kd (c : S42) : Int := if c.f2 = true then c.f1 + 4 else c.f1
def encB : List S42 → List Int
  | [] => []
  | c :: l => (c.f0.size : Int) :: (bytesOf c.f0 ++ kd c :: encB l)
def enc (l : List S42) : List Int := sf l.length ++ encB l
theorem encB_append (l m : List S42) : encB (l ++ m) = encB l ++ encB m := by
  induction l with
  | nil => rfl
  | cons c l ih => simp [encB, ih]
theorem good_size {c : S42} (h : good c) : 1 ≤ c.f0.size ∧ c.f0.size ≤ 64 := by
  have := h.1
  unfold nameOk at this
  simp at this
  exact this.1.1
theorem encB_len (l : List S42) (h : ∀ c ∈ l, good c) : (encB l).length ≤ 66 * l.length := by
  induction l with
  | nil => simp [encB]
  | cons c l ih =>
    have := ih (fun d hd => h d (by simp [hd]))
    have h2 := good_size (h c (by simp))
    simp only [encB, List.length_cons, List.length_append, bytesOf_length]
    omega
theorem short_l0 : ∀ (k : Nat) (x : List Int) (v : Nat), (sf v).length ≤ k → x.length + (sf v).length ≤ 140737488355328 → cursor_short.l0 k x (v : Int) = some (x ++ sf v) := by
  intro k
  induction k with
  | zero => intro x v h; have := sf_pos v; omega
  | succ k ih =>
    intro x v h hx
    by_cases hv : v < 128
    · rw [sf_lo hv] at h hx ⊢
      simp only [List.length_cons, List.length_nil] at hx
      simp only [cursor_short.l0]
      rw [if_neg (by omega), if_pos (by omega), show (v : Int) % 256 = v by omega]
    · rw [sf_hi hv] at h hx ⊢
      simp only [List.length_cons] at h hx
      simp only [cursor_short.l0]
      rw [if_pos (by omega), if_pos (by omega), or128 (by omega) (by omega), show (v : Int) / 128 = ((v / 128 : Nat) : Int) by omega, ih _ _ (by omega) (by simp; omega), show (v : Int) % 256 % 128 + 128 = ((v % 128 + 128 : Nat) : Int) by omega]
      simp
theorem put_uvarint (v : Nat) (hv : v < 18446744073709551616) (k : Nat) (hk : 10 ≤ k) : cursor_PutUvarint.f k ([] : List Int) (v : Int) = some (sf v) := by
  have := sf_len10 hv
  unfold cursor_PutUvarint.f bytes_Clone.f cursor_short.f
  rw [if_pos (by simp)]
  simp only [Option.bind_some]
  rw [short_l0 k [] v (by omega) (by simp; omega)]
  simp
/-- How many groups are to come. -/

theorem bytesOf_bytes (s : ByteArray) : Bytes (bytesOf s) := by
  intro x hx
  unfold bytesOf at hx
  obtain ⟨b, _, rfl⟩ := List.mem_map.1 hx
  have := b.toNat_lt
  omega
theorem kd_range {c : S42} (h : good c) : 0 ≤ kd c ∧ kd c < 256 := by
  unfold kd
  rcases h.2 with h | h <;> split <;> omega
theorem encB_bytes (l : List S42) (h : ∀ c ∈ l, good c) : Bytes (encB l) := by
  induction l with
  | nil => exact Bytes.nil
  | cons c l ih =>
    have h2 := good_size (h c (by simp))
    have h3 := kd_range (h c (by simp))
    intro x hx
    simp only [encB, List.mem_cons, List.mem_append] at hx
    rcases hx with rfl | hx | rfl | hx
    · omega
    · exact bytesOf_bytes _ x hx
    · exact h3
    · exact ih (fun d hd => h d (by simp [hd])) x hx
theorem enc_bytes (l : List S42) (h : ∀ c ∈ l, good c) : Bytes (enc l) := Bytes.append (fun x hx => sf_range _ x hx) (encB_bytes l h)
theorem clone_f (l : List Int) (h : l.length < 140737488355328) : bytes_Clone.f l = some l := by rw [bytes_Clone.f, if_pos h]
theorem put_uv (l : List Int) (v : Nat) (hv : v < 18446744073709551616) (hl : l.length + 10 ≤ 140737488355320) : Evn (fun k => cursor_PutUvarint.f k l (v : Int)) (l ++ sf v) := by
  refine ⟨10, fun k hk => ?_⟩
  have h1 := sf_len10 hv
  unfold cursor_PutUvarint.f
  rw [clone_f l (by omega)]
  simp only [Option.bind_some, cursor_short.f]
  rw [short_l0 k l v (by omega) (by omega)]
  rfl
theorem put_l : ∀ (l : List S42) (b : List Int), (∀ c ∈ l, good c) → b.length + 66 * l.length ≤ 140737488355000 → Evn (fun k => schema_Put.l k l b) (b ++ encB l)
  | [], b, _, _ => by simp only [encB, List.append_nil]; exact Evn.now _
  | c :: l, b, h, hl => by
    have h2 := good_size (h c (by simp))
    simp only [List.length_cons] at hl
    unfold schema_Put.l
    refine Evn.pos (by omega) ?_
    have e1 : Evn (fun k => cursor_PutBlock.f k b (bytesOf c.f0)) (b ++ sf c.f0.size ++ bytesOf c.f0) := by
      unfold cursor_PutBlock.f
      have e2 : IntKind.u64.wrap (((bytesOf c.f0).length : Nat) : Int) = (c.f0.size : Int) := by rw [bytesOf_length, u64_in (by omega) (by omega)]
      rw [e2]
      refine Evn.bind (put_uv b c.f0.size (by omega) (by omega)) ?_
      have : (sf c.f0.size).length = 1 := by rw [sf_lo (by omega)]; rfl
      exact Evn.pos (by rw [List.length_append, bytesOf_length]; omega) (Evn.now _)
    refine Evn.bind e1 ?_
    rw [sf_lo (show c.f0.size < 128 by omega)]
    refine Evn.pos (by simp [bytesOf_length]; omega) ?_
    have e3 : (if c.f2 = true then (c.f1 + 4) % 256 else c.f1 % 256) = kd c := by
      have hg := (h c (by simp)).2
      unfold kd
      split <;> omega
    rw [e3]
    have ih := put_l l (b ++ [(c.f0.size : Int)] ++ bytesOf c.f0 ++ [kd c]) (fun d hd => h d (by simp [hd])) (by simp [bytesOf_length]; omega)
    have e4 : b ++ encB (c :: l) = b ++ [(c.f0.size : Int)] ++ bytesOf c.f0 ++ [kd c] ++ encB l := by simp [encB]
    rw [e4]
    exact ih
theorem put_f (l : List S42) (hs : small l) : Evn (fun k => schema_Put.f k l) (if OK l then (enc l, 0) else ([], 150)) := by
  unfold schema_Put.f
  refine Evn.bind (check_f l hs) ?_
  by_cases h : OK l
  · simp only [if_pos h]
    refine Evn.pos trivial ?_
    have hl := h.2.1
    have e : IntKind.u64.wrap (l.length : Int) = (l.length : Int) := u64_in (by omega) (by omega)
    rw [e]
    refine Evn.bind (put_uv [] l.length (by omega) (by simp)) ?_
    have h3 := sf_len10 (n := l.length) (by omega)
    refine Evn.bind (put_l l ([] ++ sf l.length) h.2.2.1 (by simp; omega)) ?_
    exact Evn.now _
  · simp only [if_neg h]
    exact Evn.neg (by decide) (Evn.now _)
theorem short_f (n : Nat) (h : n ≤ 256) : colonnaderef15_short.f (n : Int) = some (sf n) := by
  unfold colonnaderef15_short.f
  by_cases h1 : n < 128
  · rw [if_pos (by omega), sf_lo h1]
    congr 2
    omega
  · rw [if_neg (by omega), sf_hi h1, sf_lo (show n / 128 < 128 by omega)]
    have e1 : Int.tmod (n : Int) 128 = ((n % 128 : Nat) : Int) := by rw [Int.tmod_eq_emod_of_nonneg (by omega)]; omega
    have e2 : Int.tdiv (n : Int) 128 = ((n / 128 : Nat) : Int) := by rw [Int.tdiv_eq_ediv_of_nonneg (by omega)]; omega
    rw [e1, e2, wrap64_in (by omega) (by omega), wrap64_in (by omega) (by omega)]
    congr 2
    · omega
    · congr 1; omega
theorem ref_put_l : ∀ (l : List S42) (b : List Int), (∀ c ∈ l, good c) → b.length + 66 * l.length ≤ 140737488355000 → colonnaderef15_Put.l l b = some (b ++ encB l)
  | [], b, _, _ => by simp [encB, colonnaderef15_Put.l]
  | c :: l, b, h, hl => by
    have h2 := good_size (h c (by simp))
    simp only [List.length_cons] at hl
    unfold colonnaderef15_Put.l
    rw [short_f c.f0.size (by omega), Option.bind_some, sf_lo (show c.f0.size < 128 by omega)]
    rw [if_pos ⟨by omega, by simp; omega, by simp; omega⟩]
    have e3 : (if c.f2 = true then wrap64 (c.f1 + 4) % 256 else c.f1 % 256) = kd c := by
      have h1 := kd_range (h c (by simp))
      have hg := (h c (by simp)).2
      rw [wrap64_in (by omega) (by omega)]
      unfold kd
      split <;> omega
    rw [e3, ref_put_l l _ (fun d hd => h d (by simp [hd])) (by simp [bytesOf_length]; omega)]
    simp [encB]
theorem ref_put_f (l : List S42) : Evn (fun k => colonnaderef15_Put.f k l) (if OK l then enc l else []) := by
  unfold colonnaderef15_Put.f
  refine Evn.bind (ref_check_f l) ?_
  by_cases h : OK l
  · simp only [if_pos h]
    refine Evn.pos trivial ?_
    have hl := h.2.1
    have h3 := sf_len10 (n := l.length) (by omega)
    rw [short_f l.length hl, Option.bind_some, ref_put_l l _ h.2.2.1 (by omega)]
    exact Evn.now _
  · simp only [if_neg h]
    exact Evn.neg (by decide) (Evn.now _)
end Go.Proofs.Ytdiabhfphonciaa.Pa
namespace Go.Proofs.Ytdiabhfphonciaa.Pa
open Go.RowKit Go.Proofs.YtdiabhfphonciaaW.PrintWords Go.Proofs.YtdiabhfphonciaaW.PrintLast Go.Proofs.YtdiabhfphonciaaW.PrintMore Go.Proofs.Ytdiabhfphonciaa.L
set_option linter.unusedVariables false
set_option linter.unusedSimpArgs false
/-! ### short forms -/
theorem andNot128_all : ∀ a : Nat, a < 256 → Go.bits .andNot .u8 (a : Int) 128 = ((a % 128 : Nat) : Int) := by decide +kernel
theorem numV_nat (v m i : Nat) (hv : v < 18446744073709551616) (hm : m < 256) (hi : (m % 128) * 2 ^ (7 * i) < 18446744073709551616) : numV (v : Int) (m : Int) i = ((v ||| (m % 128) * 2 ^ (7 * i) : Nat) : Int) := by
  unfold numV
  rw [andNot128_all m hm, u64_in (n := ((m % 128 : Nat) : Int)) (by omega) (by omega)]
  have e : (((m % 128 : Nat) : Int) * 2 ^ (7 * i)) = (((m % 128) * 2 ^ (7 * i) : Nat) : Int) := by push_cast; rfl
  rw [e, u64_in (by omega) (by omega)]
  exact bits_or_u64_nat v _ hv hi
theorem numV_0 (c : Int) (h0 : 0 ≤ c) (h1 : c < 256) : numV 0 c 0 = c % 128 := by
  obtain ⟨m, rfl⟩ := Int.eq_ofNat_of_zero_le h0
  have := numV_nat 0 m 0 (by omega) (by omega) (by simp; omega)
  rw [show ((0 : Nat) : Int) = 0 from rfl] at this
  rw [this]
  simp
theorem numV_1 (v c : Int) (hv : 0 ≤ v) (hv1 : v < 128) (h0 : 0 ≤ c) (h1 : c < 256) : numV v c 1 = v + (c % 128) * 128 := by
  obtain ⟨m, rfl⟩ := Int.eq_ofNat_of_zero_le h0
  obtain ⟨n, rfl⟩ := Int.eq_ofNat_of_zero_le hv
  have h2 := numV_nat n m 1 (by omega) (by omega) (by omega)
  have h3 := Nat.two_pow_add_eq_or_of_lt (i := 7) (b := n) (by omega) (m % 128)
  rw [h2, Nat.or_comm, show (m % 128) * 2 ^ (7 * 1) = 2 ^ 7 * (m % 128) by omega, ← h3]
  omega
theorem pow7 {i : Nat} (h : 2 ≤ i) : 16384 ≤ 2 ^ (7 * i) := by
  have : 2 ^ 14 ≤ 2 ^ (7 * i) := Nat.pow_le_pow_right (by omega) (by omega)
  omega
theorem pow7_hi {i : Nat} (h : i ≤ 8) : 2 ^ (7 * i) ≤ 72057594037927936 := by
  have : 2 ^ (7 * i) ≤ 2 ^ 56 := Nat.pow_le_pow_right (by omega) (by omega)
  omega
theorem numF_big : ∀ (l : List Int) (i : Nat) (v x : Int) (rest : List Int), 2 ≤ i → i ≤ 9 → Bytes l → 0 ≤ v → v < 18446744073709551616 → numF l i v = .inr (x, rest) → 16384 ≤ x
  | [], _, _, _, _, _, _, _, _, _, h => by simp [numF] at h
  | c :: l, i, v, x, rest, hi, hi9, hb, hv, hv1, h => by
    have hc := hb c (by simp)
    rw [numF] at h
    split at h
    · rename_i hg
      split at h
      · rename_i hlt
        split at h
        · rename_i hp
          injection h with h
          injection h with h1 h2
          obtain ⟨m, rfl⟩ := Int.eq_ofNat_of_zero_le hc.1
          obtain ⟨n, rfl⟩ := Int.eq_ofNat_of_zero_le hv
          have hm : 1 ≤ m := by omega
          have hm2 : m < 128 := by omega
          have hpw : (m % 128) * 2 ^ (7 * i) < 18446744073709551616 := by
            rw [Nat.mod_eq_of_lt hm2]
            rcases Nat.lt_or_ge i 9 with h9 | h9
            · have := pow7_hi (i := i) (by omega)
              have := Nat.mul_le_mul_left m this
              omega
            · obtain rfl : i = 9 := by omega
              have : m = 1 := by omega
              subst this
              decide
          rw [numV_nat n m i (by omega) (by omega) hpw] at h1
          have h3 : (m % 128) * 2 ^ (7 * i) ≤ n ||| (m % 128) * 2 ^ (7 * i) := Nat.right_le_or
          have h4 := pow7 hi
          rw [Nat.mod_eq_of_lt hm2] at h3 h1
          have h5 : 2 ^ (7 * i) ≤ m * 2 ^ (7 * i) := Nat.le_mul_of_pos_left _ hm
          omega
        · cases h
      · have hr := numV_range v c i
        exact numF_big l (i + 1) _ x rest (by omega) (by omega) (fun y hy => hb y (by simp [hy])) hr.1 hr.2 h
    · cases h
/-- A number up to 16383 that is read is its short form. -/
theorem numF_back {l rest : List Int} {n : Int} (hb : Bytes l) (h : numF l 0 0 = .inr (n, rest)) (hn : n ≤ 16383) : 0 ≤ n ∧ l = sf n.toNat ++ rest := by
  cases l with
  | nil => simp [numF] at h
  | cons c l =>
    have hc := hb c (by simp)
    rw [numF] at h
    split at h
    · split at h
      · rename_i hlt
        split at h
        · injection h with h
          injection h with h1 h2
          rw [numV_0 c hc.1 hc.2] at h1
          subst h2
          have : n = c := by omega
          subst this
          refine ⟨hc.1, ?_⟩
          rw [sf_lo (by omega)]
          simp
          omega
        · cases h
      · rename_i hge
        rw [numV_0 c hc.1 hc.2] at h
        cases l with
        | nil => simp [numF] at h
        | cons d l =>
          have hd := hb d (by simp)
          rw [numF] at h
          split at h
          · split at h
            · rename_i hlt
              split at h
              · rename_i hp
                injection h with h
                injection h with h1 h2
                rw [numV_1 _ d (by omega) (by omega) hd.1 hd.2] at h1
                subst h2
                have hn0 : 0 ≤ n := by omega
                refine ⟨hn0, ?_⟩
                have hdp : 1 ≤ d := by
                  rcases hp with hp | hp
                  · omega
                  · simp at hp
                rw [sf_hi (by omega), sf_lo (by omega)]
                have e1 : ((n.toNat % 128 + 128 : Nat) : Int) = c := by omega
                have e2 : ((n.toNat / 128 : Nat) : Int) = d := by omega
                rw [e1, e2]
                rfl
              · cases h
            · have hr := numV_range (c % 128) d (0 + 1)
              have := numF_big l (0 + 1 + 1) _ n rest (by omega) (by omega) (fun y hy => hb y (by simp [hy])) hr.1 hr.2 h
              omega
          · cases h
    · cases h
theorem numF_sf (n : Nat) (hn : n ≤ 16383) (rest : List Int) : numF (sf n ++ rest) 0 0 = .inr ((n : Int), rest) := by
  by_cases h : n < 128
  · rw [sf_lo h]
    show numF ((n : Int) :: rest) 0 0 = _
    rw [numF, if_pos (by left; decide), if_pos (by omega), if_pos (by right; rfl), numV_0 _ (by omega) (by omega)]
    congr 2
    omega
  · rw [sf_hi h, sf_lo (show n / 128 < 128 by omega)]
    show numF (((n % 128 + 128 : Nat) : Int) :: ((n / 128 : Nat) : Int) :: rest) 0 0 = _
    rw [numF, if_pos (by left; decide), if_neg (by omega), numV_0 _ (by omega) (by omega), numF, if_pos (by left; decide), if_pos (by omega), if_pos (by left; omega), numV_1 _ _ (by omega) (by omega) (by omega) (by omega)]
    congr 2
    omega
theorem numF_err : ∀ (l : List Int) (i : Nat) (v n : Int), numF l i v = .inl n → n = 70 ∨ n = 71
  | [], _, _, n, h => by simp [numF] at h; omega
  | c :: l, i, v, n, h => by
    rw [numF] at h
    split at h
    · split at h
      · split at h
        · cases h
        · injection h with h; omega
      · exact numF_err l _ _ n h
    · injection h with h; omega
/-! ### blocks -/
theorem blockF_back {l p rest : List Int} (hb : Bytes l) (h : blockF l 64 = .inr (p, rest)) : l = (p.length : Int) :: (p ++ rest) ∧ p.length ≤ 64 := by
  rcases hv : numF l 0 0 with n | ⟨v, r1⟩
  · rw [blockF, hv] at h; cases h
  · rw [blockF, hv] at h
    simp only at h
    split at h
    · rename_i h64
      split at h
      · rename_i hle
        injection h with h
        injection h with h1 h2
        obtain ⟨h3, h4⟩ := numF_back hb hv (by omega)
        have hp : p.length = v.toNat := by rw [← h1, List.length_take]; omega
        refine ⟨?_, by omega⟩
        rw [h4, sf_lo (by omega), ← h1, ← h2, List.take_append_drop, List.length_take]
        simp
        omega
      · cases h
    · cases h
theorem blockF_of (p rest : List Int) (hp : p.length ≤ 64) : blockF ((p.length : Int) :: (p ++ rest)) 64 = .inr (p, rest) := by
  have h := numF_sf p.length (by omega) (p ++ rest)
  rw [sf_lo (by omega)] at h
  unfold blockF
  rw [show (p.length : Int) :: (p ++ rest) = [(p.length : Int)] ++ (p ++ rest) from rfl, h]
  simp only
  rw [if_pos (by omega), if_pos (by simp; omega)]
  simp
theorem blockF_err {l : List Int} {m n : Int} (h : blockF l m = .inl n) : n = 70 ∨ n = 71 := by
  rcases hv : numF l 0 0 with n1 | ⟨v, r1⟩
  · rw [blockF, hv] at h
    injection h with h
    subst h
    exact numF_err _ _ _ _ hv
  · rw [blockF, hv] at h
    simp only at h
    split at h
    · split at h
      · cases h
      · injection h with h; omega
    · injection h with h; omega
/-! ### columns -/
def mk42 (p : List Int) (q : Int) : S42 := ⟨strOfNums p, Go.bits .andNot .u8 q 4, Go.bits .and .u8 q 4 != 0⟩
theorem bytesOf_str {p : List Int} (h : Bytes p) : bytesOf (strOfNums p) = p := by
  unfold bytesOf
  rw [strOfNums_data, List.map_map]
  have : ∀ x ∈ p, ((fun b : UInt8 => (b.toNat : Int)) ∘ fun n : Int => UInt8.ofNat n.toNat) x = x := by
    intro x hx
    have := h x hx
    simp [UInt8.toNat_ofNat']
    omega
  rw [List.map_congr_left this, List.map_id']
theorem str_bytesOf (s : ByteArray) : strOfNums (bytesOf s) = s := by
  have h : (strOfNums (bytesOf s)).data.toList = s.data.toList := by
    rw [strOfNums_data]
    unfold bytesOf
    rw [List.map_map]
    conv => rhs; rw [← List.map_id s.data.toList]
    apply List.map_congr_left
    intro b _
    simp
  have h2 : (strOfNums (bytesOf s)).data = s.data := Array.toList_inj.1 h
  cases hs : strOfNums (bytesOf s)
  cases s
  rw [hs] at h2
  simpa using h2
theorem kinds_all : ∀ q : Nat, q < 256 → (Go.bits .andNot .u8 (q : Int) 4 = 1 ∨ Go.bits .andNot .u8 (q : Int) 4 = 2) → (if (Go.bits .and .u8 (q : Int) 4 != 0) = true then Go.bits .andNot .u8 (q : Int) 4 + 4 else Go.bits .andNot .u8 (q : Int) 4) = (q : Int) := by decide +kernel
theorem kd_mk {p : List Int} {q : Int} (h0 : 0 ≤ q) (h1 : q < 256) (h : good (mk42 p q)) : kd (mk42 p q) = q := by
  obtain ⟨m, rfl⟩ := Int.eq_ofNat_of_zero_le h0
  exact kinds_all m (by omega) h.2
theorem mk_kd {c : S42} (h : good c) : mk42 (bytesOf c.f0) (kd c) = c := by
  rcases c with ⟨nm, ty, nl⟩
  have h2 : ty = 1 ∨ ty = 2 := h.2
  unfold mk42
  simp only [str_bytesOf]
  rcases h2 with rfl | rfl <;> cases nl <;> simp [kd] <;> decide +kernel
def takeS : Nat → List Int → List S42 → Option (List S42 × List Int)
  | 0, s, cols => some (cols, s)
  | n + 1, s, cols => match blockF s 64 with
    | .inl _ => none
    | .inr (p, r) => match r with
      | [] => none
      | q :: r2 => takeS n r2 (cols ++ [mk42 p q])
theorem takeS_of : ∀ (l : List S42) (rest : List Int) (cols : List S42), (∀ c ∈ l, good c) → takeS l.length (encB l ++ rest) cols = some (cols ++ l, rest)
  | [], rest, cols, _ => by simp [takeS, encB]
  | c :: l, rest, cols, h => by
    have h2 := good_size (h c (by simp))
    have e : encB (c :: l) ++ rest = ((bytesOf c.f0).length : Int) :: (bytesOf c.f0 ++ (kd c :: (encB l ++ rest))) := by simp [encB, bytesOf_length]
    rw [e, List.length_cons, takeS, blockF_of _ _ (by rw [bytesOf_length]; exact h2.2)]
    simp only
    rw [mk_kd (h c (by simp)), takeS_of l rest _ (fun d hd => h d (by simp [hd]))]
    simp
theorem takeS_back : ∀ (n : Nat) (s : List Int) (cols cols' : List S42) (rest : List Int), Bytes s → takeS n s cols = some (cols', rest) → ∃ l, cols' = cols ++ l ∧ l.length = n ∧ ((∀ c ∈ l, good c) → s = encB l ++ rest) ∧ Bytes rest ∧ (∀ c ∈ l, c.f0.size ≤ 64)
  | 0, s, cols, cols', rest, hb, h => by
    simp only [takeS, Option.some.injEq, Prod.mk.injEq] at h
    obtain ⟨rfl, rfl⟩ := h
    exact ⟨[], by simp, rfl, fun _ => by simp [encB], hb, by simp⟩
  | n + 1, s, cols, cols', rest, hb, h => by
    rw [takeS] at h
    split at h
    · cases h
    · rename_i p r hbl
      obtain ⟨e, hp⟩ := blockF_back hb hbl
      cases r with
      | nil => simp at h
      | cons q r2 =>
        simp only at h
        have hb2 : Bytes (p ++ q :: r2) := fun x hx => hb x (by rw [e]; simp at hx ⊢; exact Or.inr hx)
        have hbp : Bytes p := fun x hx => hb2 x (by simp [hx])
        have hbr : Bytes r2 := fun x hx => hb2 x (by simp [hx])
        have hq := hb2 q (by simp)
        obtain ⟨l, h1, h2, h3, h4, h5⟩ := takeS_back n r2 _ cols' rest hbr h
        have hsz : (mk42 p q).f0.size = p.length := by
          show (strOfNums p).size = _
          rw [← bytesOf_length, bytesOf_str hbp]
        refine ⟨mk42 p q :: l, by rw [h1]; simp, by simp [h2], fun hg => ?_, h4, fun c hc => ?_⟩
        · have hk := kd_mk (p := p) hq.1 hq.2 (hg _ (by simp))
          have hl := h3 (fun c hc => hg c (by simp [hc]))
          have hbo : bytesOf (mk42 p q).f0 = p := bytesOf_str hbp
          rw [e, encB, hk, hsz, hbo, hl]
          simp
        · rcases List.mem_cons.1 hc with rfl | hc
          · rw [hsz]; exact hp
          · exact h5 c hc
theorem takeL_fault (bs : List Int) : ∀ (n : Nat) (a f : Int) (cols : List S42), f ≠ 0 → (takeL bs n a f cols).2.2 = f
  | 0, _, _, _, _ => rfl
  | n + 1, a, f, cols, hf => by
    rw [takeL]
    have e1 : blkR bs a f 64 = ([], a, f) := by simp [blkR, hf]
    have e2 : tkR bs a f = (0, a, f) := by simp [tkR, hf]
    rw [e1]
    simp only
    rw [e2]
    exact takeL_fault bs n a f _ hf
theorem takeL_S (bs : List Int) : ∀ (n : Nat) (s : List Int) (a : Int) (cols : List S42), 0 ≤ a → a ≤ bs.length → s = bs.drop a.toNat →
    match takeS n s cols with
    | some (cols', rest) => takeL bs n a 0 cols = (cols', (bs.length : Int) - rest.length, 0)
    | none => (takeL bs n a 0 cols).2.2 ≠ 0
  | 0, s, a, cols, h0, h1, hs => by
    have : s.length = bs.length - a.toNat := by rw [hs, List.length_drop]
    simp only [takeS, takeL]
    congr 2
    omega
  | n + 1, s, a, cols, h0, h1, hs => by
    rw [takeS, takeL]
    rcases hb : blockF s 64 with e | ⟨p, r⟩
    · have e1 : blkR bs a 0 64 = ([], a, e) := by simp [blkR, ← hs, hb]
      have he : e ≠ 0 := by have := blockF_err hb; omega
      simp only [e1]
      have e2 : tkR bs a e = (0, a, e) := by simp [tkR, he]
      rw [e2]
      simp only
      rw [takeL_fault bs n a e _ he]
      exact he
    · have e1 : blkR bs a 0 64 = (p, (bs.length : Int) - r.length, 0) := by simp [blkR, ← hs, hb]
      obtain ⟨_, _, k, hk1, hk2⟩ := blockF_len hb
      rw [hs] at hk1 hk2
      obtain ⟨d1, d2⟩ := drop_back hk2 hk1
      have e3 : ((bs.length : Int) - r.length).toNat = bs.length - r.length := by omega
      simp only [e1]
      cases r with
      | nil =>
        have e2 : tkR bs ((bs.length : Int) - ([] : List Int).length) 0 = (0, (bs.length : Int) - ([] : List Int).length, 71) := by
          simp only [tkR, e3, ← d1]
          simp
        rw [e2]
        simp only
        rw [takeL_fault bs n _ 71 _ (by decide)]
        decide
      | cons q r2 =>
        have e2 : tkR bs ((bs.length : Int) - (q :: r2).length) 0 = (q, (bs.length : Int) - r2.length, 0) := by
          simp only [tkR, e3, ← d1]
          simp
          omega
        rw [e2]
        simp only
        have hr2 : r2 = bs.drop ((bs.length : Int) - r2.length).toNat := by
          have e4 : ((bs.length : Int) - r2.length).toNat = bs.length - (q :: r2).length + 1 := by simp at d2 ⊢; omega
          rw [e4, ← List.drop_drop, ← d1]
          rfl
        exact takeL_S bs n r2 _ _ (by simp at d2; omega) (by omega) hr2
end Go.Proofs.Ytdiabhfphonciaa.Pa
