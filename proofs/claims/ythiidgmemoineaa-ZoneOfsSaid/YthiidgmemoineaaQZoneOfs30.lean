/- The texts of ZoneOfs, merged: part 30. -/
import Derived.Test.YthiidgmemoineaaQZoneOfs23
import Derived.Test.YthiidgmemoineaaQZoneOfs26
import Derived.Test.YthiidgmemoineaaQZoneOfs29
import Derived.Test.YthiidgmemoineaaQZoneOfs22
/- Of: the program's and the document's are one. Plain: no program in sight. -/
namespace Go.Proofs.Ythiidgmemoineaa.V
open Go.RowKit Go.Proofs.Ythiidgmemoineaa.Pa Go.Proofs.Ythiidgmemoineaa.L Go.Proofs.Ythiidgmemoineaa.F Go.Proofs.YthiidgmemoineaaW.PrintWords Go.Proofs.YthiidgmemoineaaW.PrintLast Go.Proofs.YthiidgmemoineaaW.PrintMore
set_option linter.unusedVariables false
set_option linter.unusedSimpArgs false
abbrev T11 := Int × Int × Int × Nat × ByteArray × Int × Int × Nat × ByteArray × List Int × Int
def cmpV (a b : SV) : Int := cmpS a.f0 a.f1 a.f2 a.f3 b.f0 b.f1 b.f2 b.f3
def mnS (m : SV) (t : List SV) : SV := t.foldl (fun m c => if cmpV c m < 0 then c else m) m
def mxS' (m : SV) (t : List SV) : SV := t.foldl (fun m c => if cmpV c m > 0 then c else m) m
def zv : SV := ⟨0, 0, 0, ⟨#[]⟩⟩
def mnL : List SV → SV
  | [] => zv
  | m :: t => mnS m t
def mxL : List SV → SV
  | [] => zv
  | m :: t => mxS' m t
theorem mnL_snoc (r : List SV) (c : SV) : mnL (r ++ [c]) = if r.length = 0 then c else if cmpV c (mnL r) < 0 then c else mnL r := by
  cases r with
  | nil => rfl
  | cons m t => rw [if_neg (by simp)]; simp only [List.cons_append, mnL, mnS, List.foldl_append, List.foldl_cons, List.foldl_nil]; rfl
theorem mxL_snoc (r : List SV) (c : SV) : mxL (r ++ [c]) = if r.length = 0 then c else if cmpV c (mxL r) > 0 then c else mxL r := by
  cases r with
  | nil => rfl
  | cons m t => rw [if_neg (by simp)]; simp only [List.cons_append, mxL, mxS', List.foldl_append, List.foldl_cons, List.foldl_nil]; rfl
theorem mnS_mem (t : List SV) : ∀ m, mnS m t = m ∨ mnS m t ∈ t := by
  induction t with
  | nil => intro m; exact Or.inl rfl
  | cons c t ih =>
    intro m
    have e : mnS m (c :: t) = mnS (if cmpV c m < 0 then c else m) t := rfl
    rw [e]
    by_cases hc : cmpV c m < 0
    · rw [if_pos hc]
      rcases ih c with h | h
      · exact Or.inr (by rw [h]; exact List.mem_cons_self ..)
      · exact Or.inr (List.mem_cons_of_mem _ h)
    · rw [if_neg hc]
      rcases ih m with h | h
      · exact Or.inl h
      · exact Or.inr (List.mem_cons_of_mem _ h)
theorem mxS_mem (t : List SV) : ∀ m, mxS' m t = m ∨ mxS' m t ∈ t := by
  induction t with
  | nil => intro m; exact Or.inl rfl
  | cons c t ih =>
    intro m
    have e : mxS' m (c :: t) = mxS' (if cmpV c m > 0 then c else m) t := rfl
    rw [e]
    by_cases hc : cmpV c m > 0
    · rw [if_pos hc]
      rcases ih c with h | h
      · exact Or.inr (by rw [h]; exact List.mem_cons_self ..)
      · exact Or.inr (List.mem_cons_of_mem _ h)
    · rw [if_neg hc]
      rcases ih m with h | h
      · exact Or.inl h
      · exact Or.inr (List.mem_cons_of_mem _ h)
theorem mnL_mem {r : List SV} (h : r.length ≠ 0) : mnL r ∈ r := by
  cases r with
  | nil => exact absurd rfl h
  | cons m t => rcases mnS_mem t m with e | e
                · show mnS m t ∈ _; rw [e]; exact List.mem_cons_self ..
                · exact List.mem_cons_of_mem _ e
theorem mxL_mem {r : List SV} (h : r.length ≠ 0) : mxL r ∈ r := by
  cases r with
  | nil => exact absurd rfl h
  | cons m t => rcases mxS_mem t m with e | e
                · show mxS' m t ∈ _; rw [e]; exact List.mem_cons_self ..
                · exact List.mem_cons_of_mem _ e
theorem minT_e (t : List SV) : ∀ m : SV, m.f2 < 18446744073709551616 → (∀ v ∈ t, v.f2 < 18446744073709551616) → Evn (fun q => minT q m t) (mnS m t) := by
  induction t with
  | nil => intro m _ _; exact Evn.now _
  | cons c t ih =>
    intro m hm ht
    have hc := ht c (List.mem_cons_self ..)
    refine Evn.congr (fun q => by rw [minT]) (Evn.bind (compare_f c.f0 c.f1 c.f3 m.f0 m.f1 m.f3 hc hm) ?_)
    show Evn _ (mnS (if cmpV c m < 0 then c else m) t)
    by_cases h : cmpV c m < 0
    · rw [if_pos h]; exact Evn.pos h (ih c hc (fun v hv => ht v (List.mem_cons_of_mem _ hv)))
    · rw [if_neg h]; exact Evn.neg h (ih m hm (fun v hv => ht v (List.mem_cons_of_mem _ hv)))
theorem maxT_e (t : List SV) : ∀ m : SV, m.f2 < 18446744073709551616 → (∀ v ∈ t, v.f2 < 18446744073709551616) → Evn (fun q => maxT q m t) (mxS' m t) := by
  induction t with
  | nil => intro m _ _; exact Evn.now _
  | cons c t ih =>
    intro m hm ht
    have hc := ht c (List.mem_cons_self ..)
    refine Evn.congr (fun q => by rw [maxT]) (Evn.bind (compare_f c.f0 c.f1 c.f3 m.f0 m.f1 m.f3 hc hm) ?_)
    show Evn _ (mxS' (if cmpV c m > 0 then c else m) t)
    by_cases h : cmpV c m > 0
    · rw [if_pos h]; exact Evn.pos h (ih c hc (fun v hv => ht v (List.mem_cons_of_mem _ hv)))
    · rw [if_neg h]; exact Evn.neg h (ih m hm (fun v hv => ht v (List.mem_cons_of_mem _ hv)))
theorem minCmp_e {t : List SV} (h : t.length ≠ 0) (ht : ∀ v ∈ t, v.f2 < 18446744073709551616) : Evn (fun q => minCmp.f q t) ((mnL t).f0, (mnL t).f1, (mnL t).f2, (mnL t).f3) := by
  cases t with
  | nil => exact absurd rfl h
  | cons m t =>
    unfold minCmp.f
    exact Evn.bind (minT_e t m (ht m (List.mem_cons_self ..)) (fun v hv => ht v (List.mem_cons_of_mem _ hv))) (Evn.now _)
theorem maxCmp_e {t : List SV} (h : t.length ≠ 0) (ht : ∀ v ∈ t, v.f2 < 18446744073709551616) : Evn (fun q => maxCmp.f q t) ((mxL t).f0, (mxL t).f1, (mxL t).f2, (mxL t).f3) := by
  cases t with
  | nil => exact absurd rfl h
  | cons m t =>
    unfold maxCmp.f
    exact Evn.bind (maxT_e t m (ht m (List.mem_cons_self ..)) (fun v hv => ht v (List.mem_cons_of_mem _ hv))) (Evn.now _)
/-- Those that are no nulls. -/
def nn (l : List SV) : List SV := l.filter (fun v => decide (v.f0 ≠ 0))
theorem nn_len (l : List SV) : (nn l).length ≤ l.length := List.length_filter_le _ _
theorem nn_mem {l : List SV} {v : SV} (h : v ∈ nn l) : v ∈ l ∧ v.f0 ≠ 0 := by
  have := List.mem_filter.1 h
  exact ⟨this.1, of_decide_eq_true this.2⟩
theorem nn_cons0 {v : SV} (t : List SV) (h : v.f0 = 0) : nn (v :: t) = nn t := List.filter_cons_of_neg (by simpa using h)
theorem nn_cons1 {v : SV} (t : List SV) (h : v.f0 ≠ 0) : nn (v :: t) = v :: nn t := List.filter_cons_of_pos (by simpa using h)
def errT (e : Int) : T11 := (0, 0, 0, 0, ⟨#[]⟩, 0, 0, 0, ⟨#[]⟩, [], e)
def recT (n : Int) (t : List SV) (b : List Int) : T11 := (n, (mnL t).f0, (mnL t).f1, (mnL t).f2, (mnL t).f3, (mxL t).f0, (mxL t).f1, (mxL t).f2, (mxL t).f3, b, 0)
/-- What stands behind the loop. -/
noncomputable def finT (x n : Int) (t : List SV) : T11 := if x = 0 then recT n t [] else if (B.bres x t).2 = 0 then recT n t (B.bres x t).1 else errT (B.bres x t).2
def allF (ct : Int) (cn : Bool) (l : List SV) : Bool := l.all fun v => fitS ct cn v.f0 v.f1 v.f2 v.f3
theorem allF_cons (ct : Int) (cn : Bool) (v : SV) (t : List SV) : allF ct cn (v :: t) = (fitS ct cn v.f0 v.f1 v.f2 v.f3 && allF ct cn t) := rfl
noncomputable def ofS (ct : Int) (cn : Bool) (l : List SV) (x : Int) : T11 :=
  if ct = 1 ∨ ct = 2 then (if l.length > 16777216 then errT 3 else if allF ct cn l = true then finT x ((l.length : Int) - ((nn l).length : Int)) (nn l) else errT 50) else errT 150
section
variable {c0 : ByteArray} {ct : Int} {cn : Bool} {x : Int}
theorem zof_j (n : Int) (t : List SV) (b : List Int) (ht : ∀ v ∈ t, v.f2 < 18446744073709551616) : Evn (fun q => zone_Of.j1 q t n 0 0 (0 : Nat) (⟨#[]⟩ : ByteArray) 0 0 (0 : Nat) (⟨#[]⟩ : ByteArray) b) (recT n t b) := by
  refine Evn.succ (fun q => by rw [zone_Of.j1]) ?_
  by_cases h : t.length = 0
  · refine Evn.neg (by omega) ?_
    obtain rfl := List.length_eq_zero_iff.1 h
    exact Evn.now _
  · refine Evn.pos (by omega) (Evn.bind (minCmp_e h ht) (Evn.bind (maxCmp_e h ht) (Evn.now _)))
theorem zof_l (l : List SV) (hl : l.length ≤ 16777216) (hw : ∀ v ∈ l, v.f2 < 18446744073709551616) :
    ∀ (d j : Nat) (t : List SV), j + d = l.length → t.length ≤ j → (∀ v ∈ t, v.f2 < 18446744073709551616) → Evn (fun q => zone_Of.l0 q l x t l (l.length : Int) (j : Int) c0 ct cn) (if allF ct cn (l.drop j) = true then finT x ((l.length : Int) - ((t ++ nn (l.drop j)).length : Int)) (t ++ nn (l.drop j)) else errT 50) := by
  intro d
  induction d with
  | zero =>
    intro j t hj hc ht
    rw [List.drop_eq_nil_of_le (by omega), if_pos (by rfl), show nn ([] : List SV) = [] from rfl, List.append_nil]
    refine Evn.succ (fun q => by rw [zone_Of.l0]) (Evn.neg (by omega) ?_)
    rw [wrap64_in (by omega) (by omega)]
    unfold finT
    by_cases hx : x = 0
    · rw [if_pos hx]; exact Evn.pos hx (zof_j _ _ _ ht)
    · rw [if_neg hx]
      refine Evn.neg hx (Evn.bind (B.build_any x t (by omega) ht) ?_)
      by_cases he : (B.bres x t).2 = 0
      · rw [if_pos he]; exact Evn.pos he (zof_j _ _ _ ht)
      · rw [if_neg he]; exact Evn.neg he (Evn.now _)
  | succ d ih =>
    intro j t hj hc ht
    have hlt : j < l.length := by omega
    rw [drop_rd l j hlt]
    have hv := hw _ (rd_memj l j hlt)
    refine Evn.succ (fun q => by rw [zone_Of.l0]) (Evn.pos (by omega) (Evn.pos (by omega) (Evn.pos (by omega) ?_)))
    generalize hvv : rd_T28 l (j : Int) = v at hv
    rw [allF_cons]
    refine Evn.bind (fits_e c0 ct cn v.f0 v.f1 v.f3 hv) ?_
    have w2 : wrap64 ((j : Int) + 1) = ((j + 1 : Nat) : Int) := by rw [wrap64_in (by omega) (by omega)]; omega
    rw [w2]
    by_cases hfit : fitS ct cn v.f0 v.f1 v.f2 v.f3 = true
    · rw [hfit, Bool.true_and]
      refine Evn.pos rfl ?_
      by_cases h0 : v.f0 = 0
      · rw [nn_cons0 _ h0]
        exact Evn.pos h0 (ih (j + 1) t (by omega) (by omega) ht)
      · rw [nn_cons1 _ h0]
        refine Evn.neg h0 (Evn.pos (by omega) ?_)
        have := ih (j + 1) (t ++ [v]) (by omega) (by simp; omega) (fun u hu => by rcases List.mem_append.1 hu with h | h; exact ht u h; rw [List.mem_singleton.1 h]; exact hv)
        rw [List.append_assoc] at this
        exact this
    · rw [show fitS ct cn v.f0 v.f1 v.f2 v.f3 = false by simpa using hfit, Bool.false_and, if_neg (by decide)]
      exact Evn.neg (by decide) (Evn.now _)
theorem zof_e (l : List SV) (hw : ∀ v ∈ l, v.f2 < 18446744073709551616) : Evn (fun q => zone_Of.f q c0 ct cn l x) (ofS ct cn l x) := by
  unfold zone_Of.f ofS
  rw [typed_f]
  simp only [Option.bind_some]
  by_cases ht : ct = 1 ∨ ct = 2
  · rw [decide_eq_true ht, if_pos ht]
    refine Evn.pos rfl ?_
    by_cases hl : l.length > 16777216
    · rw [if_pos hl]; exact Evn.pos (by omega) (Evn.now _)
    · rw [if_neg hl]
      refine Evn.neg (by omega) (Evn.pos (by omega) (Evn.pos (by rw [Int.toNat_natCast]; omega) ?_))
      have := zof_l (c0 := c0) (ct := ct) (cn := cn) (x := x) l (by omega) hw l.length 0 [] (by omega) (by simp) (by simp)
      simpa using this
  · rw [decide_eq_false ht, if_neg ht]
    exact Evn.neg (by decide) (Evn.now _)
theorem rof_l (htt : ct = 1 ∨ ct = 2) (l : List SV) (hl : l.length ≤ 16777216) (hw : ∀ v ∈ l, v.f2 < 18446744073709551616) :
    ∀ (d j : Nat) (t : List SV), j + d = l.length → t.length ≤ j → (∀ v ∈ t, v.f2 < 18446744073709551616 ∧ endS ct v.f0 v.f1 v.f2 v.f3 = true) → Evn (fun q => colonnaderef14_Of.l0 q l x t (j : Int) c0 ct cn (((j : Int) - (t.length : Int))) (mnL t).f0 (mnL t).f1 (mnL t).f2 (mnL t).f3 (mxL t).f0 (mxL t).f1 (mxL t).f2 (mxL t).f3) (if allF ct cn (l.drop j) = true then finT x ((l.length : Int) - ((t ++ nn (l.drop j)).length : Int)) (t ++ nn (l.drop j)) else errT 50) := by
  intro d
  induction d with
  | zero =>
    intro j t hj hc ht
    rw [List.drop_eq_nil_of_le (by omega), if_pos (by rfl), show nn ([] : List SV) = [] from rfl, List.append_nil]
    refine Evn.succ (fun q => by rw [colonnaderef14_Of.l0]) (Evn.neg (by omega) ?_)
    unfold finT
    rw [show (l.length : Int) = (j : Int) by omega]
    by_cases hx : x = 0
    · rw [if_pos hx]; exact Evn.pos hx (Evn.now _)
    · rw [if_neg hx]
      refine Evn.neg hx (Evn.bind (B.ref_build x t (by omega) (fun v hv => (ht v hv).1)) ?_)
      by_cases he : (B.bres x t).2 = 0
      · simp only [if_pos he]; exact Evn.now _
      · simp only [if_neg he]; exact Evn.now _
  | succ d ih =>
    intro j t hj hc ht
    have hlt : j < l.length := by omega
    rw [drop_rd l j hlt]
    have hv := hw _ (rd_memj l j hlt)
    refine Evn.succ (fun q => by rw [colonnaderef14_Of.l0]) (Evn.pos (by omega) (Evn.pos (by omega) ?_))
    generalize hvv : rd_T28 l (j : Int) = v at hv
    rw [allF_cons]
    refine Evn.bind (rfits_e c0 ct cn v.f0 v.f1 v.f3 hv htt) ?_
    have w2 : wrap64 ((j : Int) + 1) = ((j + 1 : Nat) : Int) := by rw [wrap64_in (by omega) (by omega)]; omega
    by_cases hfit : fitS ct cn v.f0 v.f1 v.f2 v.f3 = true
    · rw [hfit, Bool.true_and]
      refine Evn.pos rfl ?_
      by_cases h0 : v.f0 = 0
      · rw [nn_cons0 _ h0, w2, wrap64_in (n := (j : Int) - (t.length : Int) + 1) (by omega) (by omega), show (j : Int) - (t.length : Int) + 1 = ((j + 1 : Nat) : Int) - (t.length : Int) by omega]
        exact Evn.pos h0 (ih (j + 1) t (by omega) (by omega) ht)
      · rw [nn_cons1 _ h0]
        have hev := hfit
        rw [fit_end htt h0] at hev
        refine Evn.neg h0 (Evn.pos (by omega) ?_)
        refine Evn.congr (g' := fun q => if ((t ++ [v]).length : Int) = 1 then colonnaderef14_Of.j1 q l x (t ++ [v]) (j : Int) true c0 ct cn ((j : Int) - (t.length : Int)) (mnL t).f0 (mnL t).f1 (mnL t).f2 (mnL t).f3 (mxL t).f0 (mxL t).f1 (mxL t).f2 (mxL t).f3 else (colonnaderef05_Compare.f q v.f0 v.f1 v.f2 v.f3 (mnL t).f0 (mnL t).f1 (mnL t).f2 (mnL t).f3).bind fun u => colonnaderef14_Of.j1 q l x (t ++ [v]) (j : Int) (decide (u < 0)) c0 ct cn ((j : Int) - (t.length : Int)) (mnL t).f0 (mnL t).f1 (mnL t).f2 (mnL t).f3 (mxL t).f0 (mxL t).f1 (mxL t).f2 (mxL t).f3) (fun q => rfl) ?_
        have ht2 : ∀ u ∈ t ++ [v], u.f2 < 18446744073709551616 ∧ endS ct u.f0 u.f1 u.f2 u.f3 = true := fun u hu => by
          rcases List.mem_append.1 hu with h | h
          · exact ht u h
          · rw [List.mem_singleton.1 h]; exact ⟨hv, hev⟩
        have hI := ih (j + 1) (t ++ [v]) (by omega) (by simp; omega) ht2
        rw [List.append_assoc, show ((j + 1 : Nat) : Int) - ((t ++ [v]).length : Int) = (j : Int) - (t.length : Int) by simp; omega] at hI
        have hlen : (t ++ [v]).length = t.length + 1 := by simp
        have hmx : t.length ≠ 0 → Evn (fun q => colonnaderef05_Compare.f q v.f0 v.f1 v.f2 v.f3 (mxL t).f0 (mxL t).f1 (mxL t).f2 (mxL t).f3) (cmpV v (mxL t)) := fun h => rcmp_e htt hv (ht _ (mxL_mem h)).1 hev (ht _ (mxL_mem h)).2
        have hmn : t.length ≠ 0 → Evn (fun q => colonnaderef05_Compare.f q v.f0 v.f1 v.f2 v.f3 (mnL t).f0 (mnL t).f1 (mnL t).f2 (mnL t).f3) (cmpV v (mnL t)) := fun h => rcmp_e htt hv (ht _ (mnL_mem h)).1 hev (ht _ (mnL_mem h)).2
        rw [mnL_snoc, mxL_snoc] at hI
        by_cases hz : t.length = 0
        · rw [if_pos hz, if_pos hz] at hI
          refine Evn.pos (by omega) (Evn.succ (fun q => by rw [colonnaderef14_Of.j1]) (Evn.pos rfl (Evn.pos (by omega) (Evn.pos (by omega) (Evn.pos (by omega) ?_)))))
          rw [hvv, w2]
          exact hI
        · rw [if_neg hz, if_neg hz] at hI
          refine Evn.neg (by omega) (Evn.bind (hmn hz) ?_)
          by_cases hm : cmpV v (mnL t) < 0
          · rw [if_pos hm] at hI
            rw [decide_eq_true hm]
            refine Evn.succ (fun q => by rw [colonnaderef14_Of.j1]) (Evn.pos rfl (Evn.pos (by omega) (Evn.pos (by omega) (Evn.neg (by omega) ?_))))
            rw [hvv, w2]
            refine Evn.bind (hmx hz) ?_
            by_cases hq : cmpV v (mxL t) > 0
            · rw [if_pos hq] at hI; exact Evn.pos hq hI
            · rw [if_neg hq] at hI; exact Evn.neg hq hI
          · rw [if_neg hm] at hI
            rw [decide_eq_false hm]
            refine Evn.succ (fun q => by rw [colonnaderef14_Of.j1]) (Evn.neg (by decide) (Evn.neg (by omega) (Evn.pos (by omega) (Evn.pos (by omega) ?_))))
            rw [hvv, w2]
            refine Evn.bind (hmx hz) ?_
            by_cases hq : cmpV v (mxL t) > 0
            · rw [if_pos hq] at hI; exact Evn.pos hq hI
            · rw [if_neg hq] at hI; exact Evn.neg hq hI
    · rw [show fitS ct cn v.f0 v.f1 v.f2 v.f3 = false by simpa using hfit, Bool.false_and, if_neg (by decide)]
      exact Evn.neg (by decide) (Evn.now _)
theorem rof_e (l : List SV) (hw : ∀ v ∈ l, v.f2 < 18446744073709551616) : Evn (fun q => colonnaderef14_Of.f q c0 ct cn l x) (ofS ct cn l x) := by
  unfold colonnaderef14_Of.f ofS
  rw [rtyped_f]
  simp only [Option.bind_some]
  by_cases ht : ct = 1 ∨ ct = 2
  · rw [decide_eq_true ht, if_pos ht]
    refine Evn.pos rfl ?_
    by_cases hl : l.length > 16777216
    · rw [if_pos hl]; exact Evn.pos (by omega) (Evn.now _)
    · rw [if_neg hl]
      refine Evn.neg (by omega) ?_
      have := rof_l (c0 := c0) (ct := ct) (cn := cn) (x := x) ht l (by omega) hw l.length 0 [] (by omega) (by simp) (by simp)
      simpa [mnL, mxL, zv] using this
  · rw [decide_eq_false ht, if_neg ht]
    exact Evn.neg (by decide) (Evn.now _)
end
end Go.Proofs.Ythiidgmemoineaa.V
