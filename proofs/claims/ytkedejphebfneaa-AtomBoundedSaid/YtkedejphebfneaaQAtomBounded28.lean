/- The texts of AtomBounded, merged: part 28. -/
import Derived.Test.YtkedejphebfneaaQAtomBounded26
import Derived.Test.YtkedejphebfneaaQAtomBounded11
import Derived.Test.YtkedejphebfneaaQAtomBounded20
import Derived.Test.YtkedejphebfneaaQAtomBounded6
/- Known says true; lists that are walked; a predicate's twin. Plain. -/
namespace Go.Proofs.Ytkedejphebfneaa.V
open Go.RowKit Go.Proofs.Ytkedejphebfneaa.Pa Go.Proofs.Ytkedejphebfneaa.L Go.Proofs.Ytkedejphebfneaa.F Go.Proofs.YtkedejphebfneaaW.PrintWords Go.Proofs.YtkedejphebfneaaW.PrintLast Go.Proofs.YtkedejphebfneaaW.PrintMore
set_option linter.unusedVariables false
set_option linter.unusedSimpArgs false
theorem known_f : Evn (fun k => colonnadelaw18_known.f k) true := Evn.now _
theorem idx_f {q : Nat → S28 → Option Bool} {b : S28 → Bool} : ∀ (l : List S28) (i : Int), 0 ≤ i → (∀ c ∈ l, Evn (fun k => q k c) (b c)) → ∃ r, Evn (fun k => idxT (q k) l i) r ∧ decide (0 ≤ r) = l.any b
 | [], i, _, _ => ⟨-1, Evn.now _, rfl⟩
 | c :: cs, i, h, hq => by
  have h1 := hq c (by simp)
  obtain ⟨r, e1, e2⟩ := idx_f cs (i + 1) (by omega) (fun d hd => hq d (by simp [hd]))
  by_cases hb : b c = true
  ·exact ⟨i, Evn.congr (fun k => by rw [idxT]) (Evn.bind h1 (Evn.pos hb (Evn.now _))), by simp [hb, h]⟩
  ·exact ⟨r, Evn.congr (fun k => by rw [idxT]) (Evn.bind h1 (Evn.neg hb e1)), by simp [hb, e2]⟩
theorem twin_f (a0 : Int) (a1 : ByteArray) (a2 a3 a4 : Int) (a5 : Nat) (a6 : ByteArray) (l7 : List S28) (l8 : List S32) (h7 : l7.length < 3518437208883) (h8 : l8.length < 1172812402961) :
  colonnadelaw18_twin.f a0 a1 a2 a3 a4 a5 a6 l7 l8 = some (a0, a1, a2, a3, a4, a5, a6, l7, l8) := by
 unfold colonnadelaw18_twin.f colonnadelaw18_values.f
 rw [if_pos (by simpa using h7), Option.bind_some, if_pos (by simpa using h8)]
 rfl
end Go.Proofs.Ytkedejphebfneaa.V
