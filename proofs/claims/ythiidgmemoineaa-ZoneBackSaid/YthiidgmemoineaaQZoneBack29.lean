/- The texts of ZoneBack, merged: part 29. -/
import Derived.Test.YthiidgmemoineaaQZoneBack28
/- The reader of layer 7: Texts. -/
namespace Go.Proofs.Ythiidgmemoineaa.Pa
open Go.Proofs.Ythiidgmemoineaa.L Go.RowKit Go.Proofs.YthiidgmemoineaaW.PrintWords Go.Proofs.YthiidgmemoineaaW.PrintLast Go.Proofs.YthiidgmemoineaaW.PrintMore
set_option linter.unusedVariables false
set_option linter.unusedSimpArgs false
variable {B : Nat × Nat}
theorem numF_less : ∀ (l : List Int) (i : Nat) (v x : Int) (rest : List Int), numF l i v = .inr (x, rest) → rest.length < l.length
 | [], i, v, x, rest, h => by rw [numF] at h; cases h
 | c :: l, i, v, x, rest, h => by
  rw [numF] at h
  split at h
  ·split at h
   ·split at h
    ·injection h with h
     injection h with h1 h2
     subst h2
     simp
    ·cases h
   ·have := numF_less l _ _ _ _ h
    simp; omega
  ·cases h
theorem blockF_less {l p rest : List Int} {most : Int} (h : blockF l most = .inr (p, rest)) : rest.length < l.length := by
 rcases hv : numF l 0 0 with n | ⟨v, r1⟩
 ·rw [blockF, hv] at h; cases h
 ·rw [blockF, hv] at h
  simp only at h
  have := numF_less _ _ _ _ _ hv
  split at h
  ·split at h
   ·injection h with h
    injection h with h1 h2
    subst h2
    simp only [List.length_drop]
    omega
   ·cases h
  ·cases h
def txsF : Nat → List Int → Int → List (List Int) → Int ⊕ (List (List Int) × List Int)
 | 0, l, _, acc => .inr (acc, l)
 | n + 1, l, each, acc => match blockF l each with
  | .inl e => .inl e
  | .inr (p, rest) => txsF n rest each (acc ++ [p])
def textsF (l : List Int) (most each : Int) : Int ⊕ (List (List Int) × List Int) :=
 if most < 0 ∨ each < 0 then .inl 2 else match numF l 0 0 with
  | .inl n => .inl n
  | .inr (v, rest) => if v ≤ most then txsF v.toNat rest each [] else .inl 70
end Go.Proofs.Ythiidgmemoineaa.Pa
