/- SchemaRules: of any columns Check tells of one column by its name's letters and its type alone; of several that each may be and no name stands twice. No conditions. -/
import Derived.Test.YtdiabhfphonciaaPa20
import Derived.Test.YtdiabhfphonciaaS6
import Derived.Test.YtdiabhfphonciaaOp
namespace Go.Proofs.Ytdiabhfphonciaa.Pa
open Go.RowKit Go.Proofs.YtdiabhfphonciaaW.PrintWords Go.Proofs.YtdiabhfphonciaaW.PrintLast Go.Proofs.YtdiabhfphonciaaW.PrintMore Go.Proofs.Ytdiabhfphonciaa.L
set_option linter.unusedVariables false
set_option linter.unusedSimpArgs false
theorem let_all : ∀ c : Nat, c < 256 → ((Go.bits .or .u8 (c : Int) 32 ≥ 97 ∧ Go.bits .or .u8 (c : Int) 32 ≤ 122 ∧ (c : Int) ≥ 65) ↔ isL (c : Int) = true) := by decide +kernel
theorem let_one (s : ByteArray) (i : Int) : (Go.bits .or .u8 (bt s i) 32 ≥ 97 ∧ Go.bits .or .u8 (bt s i) 32 ≤ 122 ∧ bt s i ≥ 65) ↔ isL (bt s i) = true := by
  have h := bt_range s i
  obtain ⟨n, hn⟩ := Int.eq_ofNat_of_zero_le h.1
  rw [hn] at h ⊢
  exact let_all n (by omega)
theorem letters_l0 (s : ByteArray) (hs : s.size ≤ 1000000000000000) : ∀ d i : Nat, 1 ≤ i → i + d = s.size → Evn (fun k => colonnadelaw15_letters.l0 k s (i : Int)) (allC s d i && decide (s.size ≤ 64)) := by
  intro d
  induction d with
  | zero =>
    intro i h1 h
    refine Evn.succ (fun _ => rfl) ?_
    simp only [colonnadelaw15_letters.l0, allC, Bool.true_and]
    refine Evn.neg (by omega) (Evn.pos (by omega) ?_)
    have : decide ((s.size : Int) ≤ 64) = decide (s.size ≤ 64) := by rw [Bool.eq_iff_iff, decide_eq_true_iff, decide_eq_true_iff]; omega
    rw [this]
    exact Evn.now _
  | succ d ih =>
    intro i h1 h
    refine Evn.succ (fun _ => rfl) ?_
    simp only [colonnadelaw15_letters.l0, allC]
    rw [wrapS ((i : Int) + 1) (by omega) (by omega)]
    have hn := ih (i + 1) (by omega) (by omega)
    have hL := let_one s i
    refine Evn.pos (by omega) (Evn.pos (by omega) ?_)
    have rest : isL (bt s i) = false → Evn (fun k => if (i : Int) = 0 then (some false) else (if (bt s i) = 95 then (colonnadelaw15_letters.l0 k s (((i : Int) + 1))) else (if (bt s i) < 48 then (some false) else (if (bt s i) > 57 then (some false) else (colonnadelaw15_letters.l0 k s (((i : Int) + 1))))))) (isC (bt s i) && allC s d (i + 1) && decide (s.size ≤ 64)) := by
      intro hl
      refine Evn.neg (by omega) ?_
      by_cases c1 : bt s i = 95
      · have : isC (bt s i) = true := by unfold isC; rw [c1]; rfl
        rw [this, Bool.true_and]
        exact Evn.pos c1 hn
      · refine Evn.neg c1 ?_
        by_cases c2 : bt s i < 48
        · have : isC (bt s i) = false := by unfold isC; rw [hl, Bool.false_or, decide_eq_false_iff_not]; omega
          rw [this]
          exact Evn.pos c2 (Evn.now _)
        · refine Evn.neg c2 ?_
          by_cases c3 : bt s i > 57
          · have : isC (bt s i) = false := by unfold isC; rw [hl, Bool.false_or, decide_eq_false_iff_not]; omega
            rw [this]
            exact Evn.pos c3 (Evn.now _)
          · have : isC (bt s i) = true := by unfold isC; rw [hl, Bool.false_or, decide_eq_true_iff]; omega
            rw [this, Bool.true_and]
            exact Evn.neg c3 hn
    by_cases b1 : Go.bits .or .u8 (bt s i) 32 ≥ 97
    · refine Evn.pos b1 ?_
      by_cases b2 : Go.bits .or .u8 (bt s i) 32 ≤ 122
      · refine Evn.pos b2 ?_
        by_cases b3 : bt s i ≥ 65
        · have hl := hL.1 ⟨b1, b2, b3⟩
          have : isC (bt s i) = true := by unfold isC; rw [hl]; rfl
          rw [this, Bool.true_and]
          exact Evn.pos b3 hn
        · exact Evn.neg b3 (rest (by rw [← Bool.not_eq_true]; exact fun e => b3 (hL.2 e).2.2))
      · exact Evn.neg b2 (rest (by rw [← Bool.not_eq_true]; exact fun e => b2 (hL.2 e).2.1))
    · exact Evn.neg b1 (rest (by rw [← Bool.not_eq_true]; exact fun e => b1 (hL.2 e).1))
theorem letters_f (s : ByteArray) (hs : s.size ≤ 1000000000000000) : Evn (fun k => colonnadelaw15_letters.f k s) (nameOk s) := by
  unfold colonnadelaw15_letters.f
  refine Evn.succ (fun _ => rfl) ?_
  simp only [colonnadelaw15_letters.l0]
  by_cases h0 : s.size = 0
  · have : nameOk s = false := by unfold nameOk; rw [decide_eq_false (by omega)]; rfl
    rw [this]
    exact Evn.neg (by omega) (Evn.neg (by omega) (Evn.now _))
  · refine Evn.pos (by omega) (Evn.pos (by omega) ?_)
    have hL := let_one s 0
    by_cases hl : isL (bt s 0) = true
    · obtain ⟨b1, b2, b3⟩ := hL.2 hl
      refine Evn.pos b1 (Evn.pos b2 (Evn.pos b3 ?_))
      have := letters_l0 s hs (s.size - 1) 1 (Nat.le_refl _) (by omega)
      have e : nameOk s = (allC s (s.size - 1) 1 && decide (s.size ≤ 64)) := by
        unfold nameOk
        rw [hl, allC_of s hl (by omega), Bool.and_true, Bool.and_comm]
        congr 1
        rw [Bool.eq_iff_iff, decide_eq_true_iff, decide_eq_true_iff]
        omega
      rw [e]
      have w1 : wrap64 (0 + 1) = ((1 : Nat) : Int) := by decide +kernel
      rw [w1]
      exact this
    · have hl : isL (bt s 0) = false := by simpa using hl
      have : nameOk s = false := by unfold nameOk; rw [hl, Bool.and_false]; rfl
      rw [this]
      by_cases b1 : Go.bits .or .u8 (bt s 0) 32 ≥ 97
      · refine Evn.pos b1 ?_
        by_cases b2 : Go.bits .or .u8 (bt s 0) 32 ≤ 122
        · refine Evn.pos b2 (Evn.neg (fun b3 => ?_) (Evn.pos trivial (Evn.now _)))
          rw [hL.1 ⟨b1, b2, b3⟩] at hl
          cases hl
        · exact Evn.neg b2 (Evn.pos trivial (Evn.now _))
      · exact Evn.neg b1 (Evn.pos trivial (Evn.now _))
open Classical in
/-- What 'all' says of the first columns. -/
noncomputable def upto (l : List S42) (i : Nat) : Bool := decide (1 ≤ l.length ∧ l.length ≤ 256 ∧ ∀ m (h : m < l.length), m < i → P42 l m h)
open Classical in
theorem rules_l1 (l : List S42) (hl : l.length ≤ 1000000000000000) (i : Nat) (hi : i < l.length) (a : Bool)
    (hR : Evn (fun k => colonnadelaw15_SchemaRules.l0 k l (a && decide (∀ j (hj : j < i), key (l[j]'(by omega)) ≠ key l[i])) ((i + 1 : Nat) : Int)) true) :
    ∀ (d j : Nat), j + d = i → Evn (fun k => colonnadelaw15_SchemaRules.l1 k l (a && decide (∀ j' (hj : j' < i), j' < j → key (l[j']'(by omega)) ≠ key l[i])) (i : Int) (j : Int) l[i].f0 l[i].f1 l[i].f2) true := by
  intro d
  induction d with
  | zero =>
    intro j h
    obtain rfl : j = i := by omega
    refine Evn.succ (fun _ => rfl) ?_
    simp only [colonnadelaw15_SchemaRules.l1]
    refine Evn.neg (by omega) ?_
    rw [wrapS ((j : Int) + 1) (by omega) (by omega)]
    have e : (∀ j' (hj : j' < j), j' < j → key (l[j']'(by omega)) ≠ key l[j]) ↔ (∀ j' (hj : j' < j), key (l[j']'(by omega)) ≠ key l[j]) := ⟨fun h j' hj => h j' hj hj, fun h j' hj _ => h j' hj⟩
    simp only [e]
    exact hR
  | succ d ih =>
    intro j h
    refine Evn.succ (fun _ => rfl) ?_
    simp only [colonnadelaw15_SchemaRules.l1]
    have hj : j < l.length := by omega
    rw [wrapS ((j : Int) + 1) (by omega) (by omega), rd_nat l j hj]
    have hn := ih (j + 1) (by omega)
    refine Evn.pos (by omega) ?_
    by_cases c : (a && decide (∀ j' (hj : j' < i), j' < j → key (l[j']'(by omega)) ≠ key l[i])) = true
    · refine Evn.pos c (Evn.pos (by omega) (Evn.pos (by omega) ?_))
      have e : (l[j].f0.toList != l[i].f0.toList) = (a && decide (∀ j' (hj : j' < i), j' < j + 1 → key (l[j']'(by omega)) ≠ key l[i])) := by
        rw [Bool.and_eq_true, decide_eq_true_iff] at c
        rw [c.1, Bool.true_and, Bool.eq_iff_iff, bne_iff_ne, decide_eq_true_iff, ByteArray.toList_eq, ByteArray.toList_eq]
        constructor
        · intro hne j' hj' hlt
          rcases Nat.lt_or_ge j' j with h1 | h1
          · exact c.2 j' hj' h1
          · obtain rfl : j' = j := by omega
            exact hne
        · intro h
          exact h j (by omega) (by omega)
      rw [e]
      exact hn
    · refine Evn.neg c ?_
      have e : (a && decide (∀ j' (hj : j' < i), j' < j + 1 → key (l[j']'(by omega)) ≠ key l[i])) = false := by
        rw [← Bool.not_eq_true, Bool.and_eq_true, decide_eq_true_iff]
        intro h
        apply c
        rw [Bool.and_eq_true, decide_eq_true_iff]
        exact ⟨h.1, fun j' hj' hlt => h.2 j' hj' (by omega)⟩
      rw [e] at hn
      exact hn
open Classical in
theorem rules_l0 (l : List S42) (hl : l.length ≤ 1000000000000000) (hs : small l) : ∀ (d i : Nat), i + d = l.length → Evn (fun k => colonnadelaw15_SchemaRules.l0 k l (upto l i) (i : Int)) true := by
  intro d
  induction d with
  | zero =>
    intro i h
    refine Evn.succ (fun _ => rfl) ?_
    simp only [colonnadelaw15_SchemaRules.l0]
    refine Evn.neg (by omega) (Evn.bind (check_f l hs) ?_)
    have e : upto l i = decide (OK l) := by
      unfold upto
      rw [Bool.eq_iff_iff, decide_eq_true_iff, decide_eq_true_iff]
      have := all_P42 l
      constructor
      · rintro ⟨h1, h2, h3⟩
        have h4 := this.1 (fun m hm _ => h3 m hm (by omega))
        exact ⟨h1, h2, h4.1, h4.2⟩
      · rintro ⟨h1, h2, h3, h4⟩
        exact ⟨h1, h2, fun m hm _ => this.2 ⟨h3, h4⟩ m hm (Nat.zero_le _)⟩
    rw [e]
    by_cases hok : OK l
    · simp only [if_pos hok, decide_eq_true hok]
      exact Evn.pos (by decide) (Evn.pos trivial (Evn.now _))
    · simp only [if_neg hok, decide_eq_false hok]
      exact Evn.pos (by decide) (Evn.neg (by decide) (Evn.now _))
  | succ d ih =>
    intro i h
    refine Evn.succ (fun _ => rfl) ?_
    simp only [colonnadelaw15_SchemaRules.l0]
    have hi : i < l.length := by omega
    have hsz := hs _ (List.getElem_mem hi)
    rw [rd_nat l i hi]
    refine Evn.pos (by omega) (Evn.pos (by omega) (Evn.bind (letters_f _ (by omega)) ?_))
    have go : Evn (fun k => colonnadelaw15_SchemaRules.j2 k l (upto l i) (i : Int) (decide (good l[i])) l[i].f0 l[i].f1 l[i].f2) true := by
      refine Evn.succ (fun _ => rfl) ?_
      simp only [colonnadelaw15_SchemaRules.j2]
      have hs1 : small [(⟨l[i].f0, l[i].f1, l[i].f2⟩ : S42)] := fun c hc => by rw [List.mem_singleton.1 hc]; exact hsz
      have e1 : OK [(⟨l[i].f0, l[i].f1, l[i].f2⟩ : S42)] ↔ good l[i] := by
        constructor
        · intro h; exact h.2.2.1 _ (List.mem_singleton.2 rfl)
        · intro h
          refine ⟨by simp, by simp, fun c hc => ?_, by simp⟩
          rw [List.mem_singleton.1 hc]; exact h
      refine Evn.bind (check_f _ hs1) ?_
      have step : Evn (fun k => colonnadelaw15_SchemaRules.j3 k l (upto l i && decide (good l[i])) (i : Int) l[i].f0 l[i].f1 l[i].f2) true := by
        refine Evn.succ (fun _ => rfl) ?_
        simp only [colonnadelaw15_SchemaRules.j3]
        have := rules_l1 l hl i hi (upto l i && decide (good l[i])) ?_ i 0 (by omega)
        · have e2 : decide (∀ j' (hj : j' < i), j' < 0 → key (l[j']'(by omega)) ≠ key l[i]) = true := decide_eq_true (fun j' _ hlt => by omega)
          rw [e2, Bool.and_true] at this
          exact this
        · have e3 : (upto l i && decide (good l[i]) && decide (∀ j (hj : j < i), key (l[j]'(by omega)) ≠ key l[i])) = upto l (i + 1) := by
            unfold upto
            rw [Bool.eq_iff_iff, Bool.and_eq_true, Bool.and_eq_true, decide_eq_true_iff, decide_eq_true_iff, decide_eq_true_iff, decide_eq_true_iff]
            constructor
            · rintro ⟨⟨⟨h1, h2, h3⟩, h4⟩, h5⟩
              refine ⟨h1, h2, fun m hm hlt => ?_⟩
              rcases Nat.lt_or_ge m i with h6 | h6
              · exact h3 m hm h6
              · obtain rfl : m = i := by omega
                exact ⟨h4, h5⟩
            · rintro ⟨h1, h2, h3⟩
              have h4 := h3 i hi (by omega)
              exact ⟨⟨⟨h1, h2, fun m hm hlt => h3 m hm (by omega)⟩, h4.1⟩, h4.2⟩
          rw [e3]
          exact ih (i + 1) (by omega)
      by_cases hg : good l[i]
      · simp only [if_pos (e1.2 hg), decide_eq_true hg] at step ⊢
        rw [Bool.and_true] at step
        refine Evn.neg (by decide) ?_
        by_cases hu : upto l i = true
        · rw [hu] at step ⊢
          exact Evn.pos rfl step
        · have hu : upto l i = false := by simpa using hu
          rw [hu] at step ⊢
          exact Evn.neg (by decide) step
      · simp only [if_neg (fun h => hg (e1.1 h)), decide_eq_false hg] at step ⊢
        rw [Bool.and_false] at step
        refine Evn.neg (by decide) ?_
        by_cases hu : upto l i = true
        · exact Evn.pos hu step
        · exact Evn.neg hu step
    by_cases hn : nameOk l[i].f0 = true
    · refine Evn.pos hn ?_
      by_cases ht : l[i].f1 = 1
      · rw [decide_eq_true (show good l[i] from ⟨hn, Or.inl ht⟩)] at go
        exact Evn.pos ht go
      · refine Evn.neg ht ?_
        have e : (l[i].f1 == 2) = decide (good l[i]) := by
          rw [Bool.eq_iff_iff, beq_iff_eq, decide_eq_true_iff]
          exact ⟨fun h => ⟨hn, Or.inr h⟩, fun h => Or.elim h.2 (fun h => absurd h ht) id⟩
        rw [e]
        exact go
    · rw [decide_eq_false (show ¬ good l[i] from fun h => hn h.1)] at go
      exact Evn.neg hn go
end Go.Proofs.Ytdiabhfphonciaa.Pa
namespace Go.Proofs.Ytdiabhfphonciaa.Pure
open Go.RowKit Go.Proofs.Ytdiabhfphonciaa.Pa Go.Proofs.Ytdiabhfphonciaa.L Go.Proofs.YtdiabhfphonciaaW.PrintWords Go.Proofs.YtdiabhfphonciaaW.PrintLast Go.Proofs.YtdiabhfphonciaaW.PrintMore
set_option linter.unusedVariables false
set_option linter.unusedSimpArgs false
open Classical in
theorem SchemaRules (l0 : (List S42)) (h0 : (l0.length * 32 ≤ 140737488351232 ∧ ∀ y0_ ∈ l0, okS42 y0_)) : ∃ k, colonnadelaw15_SchemaRules.f k l0 = some true := by
  apply Evn.ex
  have s0 : small l0 := small_of fun c hc => (h0.2 c hc).1
  unfold colonnadelaw15_SchemaRules.f
  refine Evn.bindc (a := true) rfl (Evn.pos rfl ?_)
  have hr := rules_l0 l0 (by omega) s0 l0.length 0 (by omega)
  by_cases h : (l0.length : Int) ≥ 1
  · refine Evn.pos h (Evn.succ (fun _ => rfl) ?_)
    simp only [colonnadelaw15_SchemaRules.j0]
    have e : decide ((l0.length : Int) ≤ 256) = upto l0 0 := by
      unfold upto
      rw [Bool.eq_iff_iff, decide_eq_true_iff, decide_eq_true_iff]
      exact ⟨fun h2 => ⟨by omega, by omega, fun m _ hlt => by omega⟩, fun h2 => by omega⟩
    rw [e]
    exact hr
  · refine Evn.neg h (Evn.succ (fun _ => rfl) ?_)
    simp only [colonnadelaw15_SchemaRules.j0]
    have e : false = upto l0 0 := by
      unfold upto
      rw [decide_eq_false (fun h2 => by omega)]
    rw [e]
    exact hr
end Go.Proofs.Ytdiabhfphonciaa.Pure
