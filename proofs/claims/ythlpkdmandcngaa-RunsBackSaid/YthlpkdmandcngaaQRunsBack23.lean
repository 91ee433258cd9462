/- The texts of RunsBack, merged: part 23. -/
import Derived.Test.YthlpkdmandcngaaQRunsBack21
import Derived.Test.YthlpkdmandcngaaQRunsBack22
/- Runs' bytes, plainly: what is read is what is written; cut short, with more behind, for another number. -/
namespace Go.Proofs.Ythlpkdmandcngaa.Pa
open Go.RowKit Go.Proofs.YthlpkdmandcngaaW.PrintWords Go.Proofs.YthlpkdmandcngaaW.PrintLast Go.Proofs.YthlpkdmandcngaaW.PrintMore Go.Proofs.Ythlpkdmandcngaa.L
set_option linter.unusedVariables false
set_option linter.unusedSimpArgs false
/-- How a value is written and read. -/
structure Cod (α : Type) where
  fv : α → List Int
  rv : List Int → Int ⊕ (α × List Int)
  ok : α → Prop
  of : ∀ v rest, ok v → rv (fv v ++ rest) = .inr (v, rest)
  cut : ∀ v p q, ok v → fv v = p ++ q → q ≠ [] → rv p = .inl 71
  back : ∀ l v rest, Bytes l → rv l = .inr (v, rest) → l = fv v ++ rest ∧ ok v
  err : ∀ l e, rv l = .inl e → e = 70 ∨ e = 71
section
variable {α : Type} (C : Cod α)
def lastV (acc : List (α × Nat)) : Option α := acc.getLast?.map (·.1)
def fr (r : α × Nat) : List Int := sf r.2 ++ C.fv r.1
def frs (rs : List (α × Nat)) : List Int := rs.flatMap (fr C)
def sm (rs : List (α × Nat)) : Nat := (rs.map (·.2)).sum
theorem frs_cons (r : α × Nat) (rs : List (α × Nat)) : frs C (r :: rs) = sf r.2 ++ (C.fv r.1 ++ frs C rs) := by simp [frs, fr]
theorem lastV_snoc (acc : List (α × Nat)) (r : α × Nat) : lastV (acc ++ [r]) = some r.1 := by simp [lastV]
/-- Runs that may stand behind others. -/
def After (acc ys : List (α × Nat)) : Prop := Pr ys ∧ ∀ r t, ys = r :: t → lastV acc ≠ some r.1
theorem Pr_after : ∀ (acc ys : List (α × Nat)), Pr acc → After acc ys → Pr (acc ++ ys)
  | [], ys, _, h => h.1
  | [r], ys, hr, h => by
    cases ys with
    | nil => exact hr
    | cons s t => exact ⟨hr.hd, fun e => h.2 s t rfl (by simp [lastV, e]), h.1⟩
  | r :: s :: t, ys, hr, h => ⟨hr.1, hr.2.1, Pr_after (s :: t) ys hr.2.2 ⟨h.1, fun u w e => by have := h.2 u w e; simpa [lastV] using this⟩⟩
theorem After.next {acc : List (α × Nat)} {r : α × Nat} {ys : List (α × Nat)} (h : After acc (r :: ys)) : After (acc ++ [r]) ys :=
  ⟨h.1.tail, fun s t e he => by
    rw [lastV_snoc] at he
    subst e
    exact h.1.2.1 (Option.some.inj he)⟩
end
section
variable {α : Type} [DecidableEq α] (C : Cod α)
/-- So many runs, read off bytes. -/
def rR : Nat → Int → List (α × Nat) → List Int → List (α × Nat) × Int
  | 0, left, acc, l => if left > 0 then ([], 100) else if l = [] then (acc, 0) else ([], 72)
  | c + 1, left, acc, l => match numF l 0 0 with
    | .inl e => ([], e)
    | .inr (k, r1) => match C.rv r1 with
      | .inl e => ([], e)
      | .inr (v, r2) => if k < 1 then ([], 100) else if k > left then ([], 100) else if lastV acc = some v then ([], 100) else rR c (left - k) (acc ++ [(v, k.toNat)]) r2
theorem rR_succ (c : Nat) (left : Int) (acc : List (α × Nat)) (l : List Int) : rR C (c + 1) left acc l = match numF l 0 0 with
    | .inl e => ([], e)
    | .inr (k, r1) => match C.rv r1 with
      | .inl e => ([], e)
      | .inr (v, r2) => if k < 1 then ([], 100) else if k > left then ([], 100) else if lastV acc = some v then ([], 100) else rR C c (left - k) (acc ++ [(v, k.toNat)]) r2 := rfl
theorem rR_err : ∀ (c : Nat) (left : Int) (acc : List (α × Nat)) (l : List Int) (x : List (α × Nat)) (e : Int), rR C c left acc l = (x, e) → e ≠ 0 → x = []
  | 0, left, acc, l, x, e, h, he => by
    rw [rR] at h
    split at h
    · exact (Prod.mk.inj h).1.symm
    · split at h
      · exact absurd (Prod.mk.inj h).2.symm he
      · exact (Prod.mk.inj h).1.symm
  | c + 1, left, acc, l, x, e, h, he => by
    rw [rR] at h
    split at h
    · exact (Prod.mk.inj h).1.symm
    · split at h
      · exact (Prod.mk.inj h).1.symm
      · split at h
        · exact (Prod.mk.inj h).1.symm
        · split at h
          · exact (Prod.mk.inj h).1.symm
          · split at h
            · exact (Prod.mk.inj h).1.symm
            · exact rR_err c _ _ _ x e h he
theorem rR_ok : ∀ (c : Nat) (left : Int) (acc : List (α × Nat)) (l : List Int) (x : List (α × Nat)), Bytes l → 0 ≤ left → rR C c left acc l = (x, 0) → ∃ ys, x = acc ++ ys ∧ ys.length = c ∧ (sm ys : Int) = left ∧ l = frs C ys ∧ After acc ys ∧ ∀ r ∈ ys, C.ok r.1
  | 0, left, acc, l, x, hb, h0, h => by
    rw [rR] at h
    split at h
    · cases h
    · split at h
      · rename_i hl he
        refine ⟨[], by simpa using (Prod.mk.inj h).1.symm, rfl, by simp [sm]; omega, he, ⟨trivial, fun r t e => by cases e⟩, by simp⟩
      · cases h
  | c + 1, left, acc, l, x, hb, h0, h => by
    rw [rR] at h
    rcases hn : numF l 0 0 with e | ⟨k, r1⟩
    · rw [hn] at h
      have he := numF_err _ _ _ _ hn
      have : e = 0 := (Prod.mk.inj h).2
      omega
    · rw [hn] at h
      dsimp only at h
      obtain ⟨k0, k1, e1⟩ := numF_back hb hn
      have hb1 : Bytes r1 := fun y hy => hb y (by rw [e1]; simp [hy])
      rcases hv : C.rv r1 with e | ⟨v, r2⟩
      · rw [hv] at h
        have he := C.err _ _ hv
        have : e = 0 := (Prod.mk.inj h).2
        omega
      · rw [hv] at h
        dsimp only at h
        obtain ⟨e2, hok⟩ := C.back _ _ _ hb1 hv
        have hb2 : Bytes r2 := fun y hy => hb1 y (by rw [e2]; simp [hy])
        split at h
        · cases h
        · split at h
          · cases h
          · split at h
            · cases h
            · rename_i g1 g2 g3
              obtain ⟨ys, f1, f2, f3, f4, f5, f6⟩ := rR_ok c (left - k) _ r2 x hb2 (by omega) h
              refine ⟨(v, k.toNat) :: ys, by rw [f1]; simp, by simp [f2], ?_, ?_, ?_, ?_⟩
              · simp only [sm, List.map_cons, List.sum_cons] at f3 ⊢; omega
              · rw [frs_cons, e1, e2, f4]
              · refine ⟨?_, fun r t e => ?_⟩
                · cases ys with
                  | nil => show 1 ≤ k.toNat; omega
                  | cons s t => exact ⟨by show 1 ≤ k.toNat; omega, fun e => f5.2 s t rfl (by rw [lastV_snoc]; exact congrArg some e), f5.1⟩
                · injection e with e3 _
                  rw [← e3]
                  exact g3
              · intro r hr
                rcases List.mem_cons.1 hr with rfl | hr
                · exact hok
                · exact f6 r hr
theorem rR_of : ∀ (ys : List (α × Nat)) (left : Int) (acc : List (α × Nat)) (rest : List Int), After acc ys → (∀ r ∈ ys, C.ok r.1 ∧ r.2 < 18446744073709551616) → (sm ys : Int) ≤ left → rR C ys.length left acc (frs C ys ++ rest) = rR C 0 (left - sm ys) (acc ++ ys) rest
  | [], left, acc, rest, _, _, _ => by simp [sm, frs]
  | r :: ys, left, acc, rest, ha, hk, hs => by
    have h1 := hk r (by simp)
    have hp := ha.1.hd
    simp only [sm, List.map_cons, List.sum_cons] at hs
    rw [List.length_cons, rR_succ, frs_cons, List.append_assoc, numF_sf r.2 h1.2]
    dsimp only
    rw [List.append_assoc, C.of _ _ h1.1]
    dsimp only
    rw [if_neg (by omega), if_neg (by omega), if_neg (ha.2 r ys rfl), Int.toNat_natCast]
    have := rR_of ys (left - (r.2 : Int)) (acc ++ [r]) rest ha.next (fun s hs => hk s (by simp [hs])) (by simp only [sm]; omega)
    rw [show (acc ++ [(r.1, r.2)]) = acc ++ [r] from rfl, this]
    simp only [sm, List.map_cons, List.sum_cons, List.append_assoc, List.singleton_append]
    congr 1
    omega
theorem rR_much : ∀ (ys : List (α × Nat)) (left : Int) (acc : List (α × Nat)) (rest : List Int), 0 ≤ left → After acc ys → (∀ r ∈ ys, C.ok r.1 ∧ r.2 < 18446744073709551616) → left < (sm ys : Int) → rR C ys.length left acc (frs C ys ++ rest) = ([], 100)
  | [], left, acc, rest, h0, _, _, hs => by simp [sm] at hs; omega
  | r :: ys, left, acc, rest, h0, ha, hk, hs => by
    have h1 := hk r (by simp)
    have hp := ha.1.hd
    simp only [sm, List.map_cons, List.sum_cons] at hs
    rw [List.length_cons, rR_succ, frs_cons, List.append_assoc, numF_sf r.2 h1.2]
    dsimp only
    rw [List.append_assoc, C.of _ _ h1.1]
    dsimp only
    rw [if_neg (by omega)]
    by_cases hl : (r.2 : Int) > left
    · rw [if_pos hl]
    · rw [if_neg hl, if_neg (ha.2 r ys rfl), Int.toNat_natCast]
      exact rR_much ys (left - (r.2 : Int)) (acc ++ [r]) rest (by omega) ha.next (fun s hs => hk s (by simp [hs])) (by simp only [sm]; omega)
theorem rR_cut : ∀ (ys : List (α × Nat)) (left : Int) (acc : List (α × Nat)) (p q : List Int), After acc ys → (∀ r ∈ ys, C.ok r.1 ∧ r.2 < 18446744073709551616) → (sm ys : Int) ≤ left → frs C ys = p ++ q → q ≠ [] → rR C ys.length left acc p = ([], 71)
  | [], left, acc, p, q, _, _, _, e, hq => by
    have : p ++ q = [] := e.symm
    exact absurd (List.append_eq_nil_iff.1 this).2 hq
  | r :: ys, left, acc, p, q, ha, hk, hs, e, hq => by
    have h1 := hk r (by simp)
    have hp := ha.1.hd
    simp only [sm, List.map_cons, List.sum_cons] at hs
    rw [frs_cons] at e
    rw [List.length_cons, rR_succ]
    rcases app_app e with ⟨x, rfl, e2⟩ | ⟨x, hx, e1, _⟩
    · rw [numF_sf r.2 h1.2]
      dsimp only
      rcases app_app e2 with ⟨y, rfl, e3⟩ | ⟨y, hy, e4, _⟩
      · rw [C.of _ _ h1.1]
        dsimp only
        rw [if_neg (by omega), if_neg (by omega), if_neg (ha.2 r ys rfl), Int.toNat_natCast]
        exact rR_cut ys (left - (r.2 : Int)) (acc ++ [r]) y q ha.next (fun s hs => hk s (by simp [hs])) (by simp only [sm]; omega) e3 hq
      · rw [C.cut _ _ _ h1.1 e4 hy]
    · rw [numF_short r.2 h1.2 e1 hx]
end
end Go.Proofs.Ythlpkdmandcngaa.Pa
