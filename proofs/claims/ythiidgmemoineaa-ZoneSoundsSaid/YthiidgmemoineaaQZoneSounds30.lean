/- The texts of ZoneSounds, merged: part 30. -/
import Derived.Test.YthiidgmemoineaaQZoneSounds27
import Derived.Test.YthiidgmemoineaaQZoneSounds29
import Derived.Test.YthiidgmemoineaaQZoneSounds11
import Derived.Test.YthiidgmemoineaaQZoneSounds25
/- Sound: the program's and the document's are one. Plain: no program in sight. -/
namespace Go.Proofs.Ythiidgmemoineaa.V
open Go.RowKit Go.Proofs.Ythiidgmemoineaa.Pa Go.Proofs.Ythiidgmemoineaa.L Go.Proofs.Ythiidgmemoineaa.F Go.Proofs.YthiidgmemoineaaW.PrintWords Go.Proofs.YthiidgmemoineaaW.PrintLast Go.Proofs.YthiidgmemoineaaW.PrintMore
set_option linter.unusedVariables false
set_option linter.unusedSimpArgs false
abbrev SV := S28
section
variable (c0 : ByteArray) (ct : Int) (cn : Bool) (n k i : Int) (r : Nat) (s : ByteArray) (k' i' : Int) (r' : Nat) (s' : ByteArray) (bl : List Int)
/-- A value that is no null, within the ends, in the filter. -/
noncomputable def okv (v : SV) : Bool := !emptyS k i r s && (!decide (cmpS v.f0 v.f1 v.f2 v.f3 k i r s < 0) && (!decide (cmpS v.f0 v.f1 v.f2 v.f3 k' i' r' s' > 0) && (decide (bl.length = 0) || B.hres bl v)))
/-- How many nulls there are among values that are all of the record. -/
noncomputable def sndS : List SV → Nat → Option Nat
  | [], c => some c
  | v :: t, c => if fitS ct cn v.f0 v.f1 v.f2 v.f3 = true then (if v.f0 = 0 then sndS t (c + 1) else if okv k i r s k' i' r' s' bl v = true then sndS t c else none) else none
theorem snd_le : ∀ (l : List SV) (c m : Nat), sndS ct cn k i r s k' i' r' s' bl l c = some m → m ≤ c + l.length := by
  intro l
  induction l with
  | nil => intro c m h; rw [sndS] at h; cases h; simp
  | cons v t ih =>
    intro c m h
    rw [sndS] at h
    split at h
    · split at h
      · have := ih _ _ h; simp; omega
      · split at h
        · have := ih _ _ h; simp; omega
        · cases h
    · cases h
def sndA (o : Option Nat) : Bool := match o with | none => false | some m => decide ((m : Int) = n)
def sndB (e : Bool) (len : Nat) (o : Option Nat) : Bool := match o with | none => false | some m => decide ((m : Int) = n) && (e == decide (m = len))
variable {c0 ct cn n k i r s k' i' r' s' bl}
theorem drop_rd (l : List SV) (j : Nat) (h : j < l.length) : l.drop j = rd_T28 l (j : Int) :: l.drop (j + 1) := by
  rw [List.drop_eq_getElem_cons h]
  congr 1
  unfold rd_T28
  simp [List.getD_eq_getElem?_getD, List.getElem?_eq_getElem h]
theorem rd_memj (l : List SV) (j : Nat) (h : j < l.length) : rd_T28 l (j : Int) ∈ l := by
  have : rd_T28 l (j : Int) ∈ l.drop j := by rw [drop_rd l j h]; exact List.mem_cons_self ..
  exact List.mem_of_mem_drop this
theorem zs_l (hf : forS ct cn n k i r s k' i' r' s' bl.length = true) (hr : r < 18446744073709551616) (hr' : r' < 18446744073709551616) (l : List SV) (hl : l.length ≤ 16777216) (hw : ∀ v ∈ l, v.f2 < 18446744073709551616) :
    ∀ (d j c : Nat), j + d = l.length → c ≤ j → Evn (fun q => zone_Sound.l0 q (c : Int) l (l.length : Int) (j : Int) c0 ct cn n k i r s k' i' r' s' bl) (sndA n (sndS ct cn k i r s k' i' r' s' bl (l.drop j) c)) := by
  intro d
  induction d with
  | zero =>
    intro j c hj hc
    rw [List.drop_eq_nil_of_le (by omega), sndS]
    refine Evn.succ (fun q => by rw [zone_Sound.l0]) (Evn.neg (by omega) ?_)
    have e : sndA n (some c) = ((c : Int) == n) := by unfold sndA; by_cases q : (c : Int) = n <;> simp [q]
    rw [e]
    exact Evn.now _
  | succ d ih =>
    intro j c hj hc
    have hlt : j < l.length := by omega
    rw [drop_rd l j hlt]
    have hv := hw _ (rd_memj l j hlt)
    refine Evn.succ (fun q => by rw [zone_Sound.l0]) (Evn.pos (by omega) (Evn.pos (by omega) (Evn.pos (by omega) ?_)))
    generalize hvv : rd_T28 l (j : Int) = v at hv
    rw [sndS]
    refine Evn.bind (fits_e c0 ct cn v.f0 v.f1 v.f3 hv) ?_
    have w2 : wrap64 ((j : Int) + 1) = ((j + 1 : Nat) : Int) := by rw [wrap64_in (by omega) (by omega)]; omega
    have w3 : wrap64 ((c : Int) + 1) = ((c + 1 : Nat) : Int) := by rw [wrap64_in (by omega) (by omega)]; omega
    rw [w2, w3]
    by_cases hfit : fitS ct cn v.f0 v.f1 v.f2 v.f3 = true
    · rw [if_pos hfit]
      refine Evn.pos hfit ?_
      by_cases h0 : v.f0 = 0
      · rw [if_pos h0]
        exact Evn.pos h0 (ih (j + 1) (c + 1) (by omega) (by omega))
      · rw [if_neg h0]
        refine Evn.neg h0 ?_
        rw [none_f, none_empty hf]
        simp only [Option.bind_some]
        have no : ∀ {b : Bool}, okv k i r s k' i' r' s' bl v = false → b = true → Evn (fun q => zone_Sound.j1 q (c : Int) l (l.length : Int) (j : Int) b c0 ct cn n k i r s k' i' r' s' bl v.f0 v.f1 v.f2 v.f3) (sndA n (if okv k i r s k' i' r' s' bl v = true then sndS ct cn k i r s k' i' r' s' bl (l.drop (j + 1)) c else none)) := by
          rintro _ h rfl
          rw [if_neg (by rw [h]; decide)]
          show Evn _ false
          exact Evn.succ (fun q => by rw [zone_Sound.j1]) (Evn.pos rfl (Evn.now _))
        by_cases he : emptyS k i r s = true
        · rw [he]
          exact Evn.pos rfl (no (by unfold okv; rw [he]; rfl) rfl)
        · rw [Bool.not_eq_true] at he
          rw [he]
          refine Evn.neg (by decide) (Evn.bind (compare_f v.f0 v.f1 v.f3 k i s hv hr) ?_)
          by_cases h1 : cmpS v.f0 v.f1 v.f2 v.f3 k i r s < 0
          · exact Evn.pos h1 (no (by unfold okv; rw [decide_eq_true h1]; simp) (decide_eq_true h1))
          · refine Evn.neg h1 (Evn.bind (compare_f v.f0 v.f1 v.f3 k' i' s' hv hr') ?_)
            by_cases h2 : cmpS v.f0 v.f1 v.f2 v.f3 k' i' r' s' > 0
            · exact no (by unfold okv; rw [decide_eq_true h2]; simp) (decide_eq_true h2)
            · have ek : okv k i r s k' i' r' s' bl v = (decide (bl.length = 0) || B.hres bl v) := by unfold okv; rw [he, decide_eq_false h1, decide_eq_false h2]; simp
              rw [decide_eq_false h2, ek]
              refine Evn.succ (fun q => by rw [zone_Sound.j1]) (Evn.neg (by decide) ?_)
              rw [w2]
              by_cases h3 : bl.length = 0
              · rw [decide_eq_true h3, Bool.true_or, if_pos rfl]
                exact Evn.neg (by omega) (ih (j + 1) c (by omega) (by omega))
              · rw [decide_eq_false h3, Bool.false_or]
                refine Evn.pos (by omega) (Evn.bind (B.has_any bl hv) ?_)
                by_cases h4 : B.hres bl v = true
                · rw [if_pos h4]; exact Evn.pos h4 (ih (j + 1) c (by omega) (by omega))
                · rw [if_neg h4]; exact Evn.neg h4 (Evn.now _)
    · rw [if_neg hfit]
      exact Evn.neg hfit (Evn.now _)
theorem rs_l (hf : forS ct cn n k i r s k' i' r' s' bl.length = true) (hr : r < 18446744073709551616) (hr' : r' < 18446744073709551616) (l : List SV) (hl : l.length ≤ 16777216) (hw : ∀ v ∈ l, v.f2 < 18446744073709551616) :
    ∀ (d j c : Nat), j + d = l.length → c ≤ j → Evn (fun q => colonnaderef14_Sound.l0 q l (c : Int) (j : Int) c0 ct cn n k i r s k' i' r' s' bl) (sndB n (emptyS k i r s) l.length (sndS ct cn k i r s k' i' r' s' bl (l.drop j) c)) := by
  have O := Aside0.mk (for_open hf)
  intro d
  induction d with
  | zero =>
    intro j c hj hc
    rw [List.drop_eq_nil_of_le (by omega), sndS]
    refine Evn.succ (fun q => by rw [colonnaderef14_Sound.l0]) (Evn.neg (by omega) ?_)
    rw [empty_f]
    simp only [Option.bind_some]
    unfold sndB
    by_cases q : (c : Int) = n
    · have e : ((c : Int) == (l.length : Int)) = decide (c = l.length) := by
        by_cases q2 : c = l.length
        · simp [q2]
        · rw [decide_eq_false q2]; exact beq_eq_false_iff_ne.mpr (by omega)
      rw [e]
      simp only [decide_eq_true q, Bool.true_and]
      exact Evn.pos q (Evn.now _)
    · simp only [decide_eq_false q, Bool.false_and]
      exact Evn.neg q (Evn.now _)
  | succ d ih =>
    intro j c hj hc
    have hlt : j < l.length := by omega
    rw [drop_rd l j hlt]
    have hv := hw _ (rd_memj l j hlt)
    refine Evn.succ (fun q => by rw [colonnaderef14_Sound.l0]) (Evn.pos (by omega) (Evn.pos (by omega) ?_))
    generalize hvv : rd_T28 l (j : Int) = v at hv
    rw [sndS]
    refine Evn.bind (rfits_e c0 ct cn v.f0 v.f1 v.f3 hv O.out.1) ?_
    have w2 : wrap64 ((j : Int) + 1) = ((j + 1 : Nat) : Int) := by rw [wrap64_in (by omega) (by omega)]; omega
    have w3 : wrap64 ((c : Int) + 1) = ((c + 1 : Nat) : Int) := by rw [wrap64_in (by omega) (by omega)]; omega
    rw [w2, w3]
    by_cases hfit : fitS ct cn v.f0 v.f1 v.f2 v.f3 = true
    · rw [if_pos hfit]
      refine Evn.pos hfit ?_
      by_cases h0 : v.f0 = 0
      · rw [if_pos h0]
        exact Evn.pos h0 (ih (j + 1) (c + 1) (by omega) (by omega))
      · rw [if_neg h0]
        refine Evn.neg h0 ?_
        rw [empty_f]
        simp only [Option.bind_some]
        have hev := hfit
        rw [fit_end O.out.1 h0] at hev
        have no : ∀ {b : Bool}, okv k i r s k' i' r' s' bl v = false → b = true → Evn (fun q => colonnaderef14_Sound.j2 q l (c : Int) (j : Int) b c0 ct cn n k i r s k' i' r' s' bl) (sndB n (emptyS k i r s) l.length (if okv k i r s k' i' r' s' bl v = true then sndS ct cn k i r s k' i' r' s' bl (l.drop (j + 1)) c else none)) := by
          rintro _ h rfl
          rw [if_neg (by rw [h]; decide)]
          show Evn _ false
          exact Evn.succ (fun q => by rw [colonnaderef14_Sound.j2]) (Evn.pos rfl (Evn.now _))
        by_cases he : emptyS k i r s = true
        · exact Evn.pos he (no (by unfold okv; rw [he]; rfl) rfl)
        · refine Evn.neg he ?_
          rw [Bool.not_eq_true] at he
          have oo := O.out.2.2.2.2.2.2
          unfold endsS at oo
          rw [he, Bool.false_and, Bool.false_or] at oo
          simp only [Bool.and_eq_true] at oo
          refine Evn.bind (rcmp_e O.out.1 hv hr hev oo.1) ?_
          by_cases h1 : cmpS v.f0 v.f1 v.f2 v.f3 k i r s < 0
          · exact Evn.pos h1 (no (by unfold okv; rw [decide_eq_true h1]; simp) rfl)
          · refine Evn.neg h1 (Evn.bind (rcmp_e O.out.1 hv hr' hev oo.2.1) ?_)
            by_cases h2 : cmpS v.f0 v.f1 v.f2 v.f3 k' i' r' s' > 0
            · exact no (by unfold okv; rw [decide_eq_true h2]; simp) (decide_eq_true h2)
            · have ek : okv k i r s k' i' r' s' bl v = (decide (bl.length = 0) || B.hres bl v) := by unfold okv; rw [he, decide_eq_false h1, decide_eq_false h2]; simp
              rw [decide_eq_false h2, ek]
              refine Evn.succ (fun q => by rw [colonnaderef14_Sound.j2]) (Evn.neg (by decide) ?_)
              rw [w2, hvv]
              by_cases h3 : bl.length = 0
              · rw [decide_eq_true h3, Bool.true_or, if_pos rfl]
                exact Evn.neg (by omega) (ih (j + 1) c (by omega) (by omega))
              · rw [decide_eq_false h3, Bool.false_or]
                refine Evn.pos (by omega) (Evn.pos (by omega) (Evn.pos (by omega) (Evn.bind (B.ref_has bl hv) ?_)))
                by_cases h4 : B.hres bl v = true
                · rw [if_pos h4]; exact Evn.pos h4 (ih (j + 1) c (by omega) (by omega))
                · rw [if_neg h4]; exact Evn.neg h4 (Evn.now _)
    · rw [if_neg hfit]
      exact Evn.neg hfit (Evn.now _)
/-- Sound's answer. -/
noncomputable def soundS (ct : Int) (cn : Bool) (n k i : Int) (r : Nat) (s : ByteArray) (k' i' : Int) (r' : Nat) (s' : ByteArray) (bl : List Int) (l : List SV) : Bool :=
  forS ct cn n k i r s k' i' r' s' bl.length && (decide (l.length ≤ 16777216) && sndB n (emptyS k i r s) l.length (sndS ct cn k i r s k' i' r' s' bl l 0))
theorem sound_z (l : List SV) (hb : bl.length < 9223372036854775808) (hr : r < 18446744073709551616) (hr' : r' < 18446744073709551616) (hw : ∀ v ∈ l, v.f2 < 18446744073709551616) : Evn (fun q => zone_Sound.f q c0 ct cn l n k i r s k' i' r' s' bl) (soundS ct cn n k i r s k' i' r' s' bl l) := by
  unfold zone_Sound.f
  refine Evn.bind (may_z (c0 := c0) (l.length : Int) hb hr hr') ?_
  unfold mayzS soundS
  by_cases hf : forS ct cn n k i r s k' i' r' s' bl.length = true
  · rw [hf, Bool.true_and, Bool.true_and]
    have o := for_open hf
    by_cases hl : l.length ≤ 16777216
    · rw [decide_eq_true hl, Bool.true_and]
      have e : (decide (0 ≤ (l.length : Int) ∧ (l.length : Int) ≤ 16777216 ∧ n ≤ (l.length : Int)) && (emptyS k i r s == decide (n = (l.length : Int)))) = (decide (n ≤ (l.length : Int)) && (emptyS k i r s == decide (n = (l.length : Int)))) := by
        congr 1
        apply decide_eq_decide.2
        omega
      rw [e]
      have eq : (decide (n ≤ (l.length : Int)) && (emptyS k i r s == decide (n = (l.length : Int)))) = false → sndB n (emptyS k i r s) l.length (sndS ct cn k i r s k' i' r' s' bl l 0) = false := by
        intro h
        unfold sndB
        cases q : sndS ct cn k i r s k' i' r' s' bl l 0 with
        | none => rfl
        | some m =>
          have hm := snd_le _ _ _ _ _ _ _ _ _ _ _ _ _ _ q
          by_cases hn : (m : Int) = n
          · simp only [decide_eq_true hn, Bool.true_and]
            rw [decide_eq_true (by omega), Bool.true_and] at h
            rw [← h]
            congr 1
            apply decide_eq_decide.2
            omega
          · simp only [decide_eq_false hn, Bool.false_and]
      have eq2 : (decide (n ≤ (l.length : Int)) && (emptyS k i r s == decide (n = (l.length : Int)))) = true → sndB n (emptyS k i r s) l.length (sndS ct cn k i r s k' i' r' s' bl l 0) = sndA n (sndS ct cn k i r s k' i' r' s' bl l 0) := by
        intro h
        rw [Bool.and_eq_true] at h
        unfold sndA sndB
        cases q : sndS ct cn k i r s k' i' r' s' bl l 0 with
        | none => rfl
        | some m =>
          by_cases hn : (m : Int) = n
          · simp only [decide_eq_true hn, Bool.true_and]
            rw [← h.2]
            congr 1
            apply decide_eq_decide.2
            omega
          · simp only [decide_eq_false hn, Bool.false_and]
      cases hh : (decide (n ≤ (l.length : Int)) && (emptyS k i r s == decide (n = (l.length : Int)))) with
      | false => rw [eq hh]; exact Evn.neg (by decide) (Evn.now _)
      | true =>
        rw [eq2 hh]
        exact Evn.pos rfl (by simpa using zs_l (c0 := c0) hf hr hr' l hl hw l.length 0 0 (by omega) (by omega))
    · have e : decide (0 ≤ (l.length : Int) ∧ (l.length : Int) ≤ 16777216 ∧ n ≤ (l.length : Int)) = false := decide_eq_false (by omega)
      rw [e, decide_eq_false hl, Bool.false_and, Bool.false_and]
      exact Evn.neg (by decide) (Evn.now _)
  · rw [Bool.not_eq_true] at hf
    rw [hf, Bool.false_and, Bool.false_and]
    exact Evn.neg (by decide) (Evn.now _)
theorem rsound_z (l : List SV) (hl63 : l.length < 9223372036854775808) (hr : r < 18446744073709551616) (hr' : r' < 18446744073709551616) (hw : ∀ v ∈ l, v.f2 < 18446744073709551616) : Evn (fun q => colonnaderef14_Sound.f q c0 ct cn l n k i r s k' i' r' s' bl) (soundS ct cn n k i r s k' i' r' s' bl l) := by
  unfold colonnaderef14_Sound.f
  refine Evn.bind (for_e c0 ct cn n k i r s k' i' r' s' bl hr hr') ?_
  unfold soundS
  have no : ∀ {b x}, b = false → x = true → Evn (fun q => colonnaderef14_Sound.j0 q l x c0 ct cn n k i r s k' i' r' s' bl) b := by
    rintro _ _ rfl rfl
    exact Evn.succ (fun q => by rw [colonnaderef14_Sound.j0]) (Evn.pos rfl (Evn.now _))
  by_cases hf : forS ct cn n k i r s k' i' r' s' bl.length = true
  · rw [hf, Bool.true_and]
    refine Evn.pos rfl ?_
    by_cases hl : l.length ≤ 16777216
    · rw [decide_eq_true hl, Bool.true_and, decide_eq_false (by omega)]
      exact Evn.succ (fun q => by rw [colonnaderef14_Sound.j0]) (Evn.neg (by decide) (by simpa using rs_l (c0 := c0) hf hr hr' l hl hw l.length 0 0 (by omega) (by omega)))
    · exact no (by rw [decide_eq_false hl, Bool.false_and]) (decide_eq_true (by omega))
  · rw [Bool.not_eq_true] at hf
    rw [hf, Bool.false_and]
    exact Evn.neg (by decide) (no rfl rfl)
end
end Go.Proofs.Ythiidgmemoineaa.V
