/- The texts of AtomNots, merged: part 34. -/
import Derived.Test.YtkedejphebfneaaQAtomNots27
import Derived.Test.YtkedejphebfneaaQAtomNots33
import Derived.Test.YtkedejphebfneaaQAtomNots6
/- AtomNots: of any predicate Not answers what the document's does. No conditions. -/
namespace Go.Proofs.Ytkedejphebfneaa.Pure
open Go.RowKit Go.Proofs.Ytkedejphebfneaa.Pa Go.Proofs.Ytkedejphebfneaa.V Go.Proofs.Ytkedejphebfneaa.L Go.Proofs.YtkedejphebfneaaW.PrintWords Go.Proofs.YtkedejphebfneaaW.PrintLast Go.Proofs.YtkedejphebfneaaW.PrintMore
theorem AtomNots (l0 : S32) (h0 : okS32 l0) : ∃ k, colonnadelaw18_AtomNots.f k l0.f0 l0.f1 l0.f2 l0.f3.f0 l0.f3.f1 l0.f3.f2 l0.f3.f3 l0.f4 l0.f5 = some true := by
  apply Evn.ex
  have hw : l0.f4.length < 3518437208883 ∧ l0.f5.length < 1172812402961 := by
    cases h0 with
    | mk _ a b c d e f g => exact ⟨by omega, by omega⟩
  obtain ⟨a0, a1, a2, ⟨a3, a4, a5, a6⟩, l7, l8⟩ := l0
  simp only at hw ⊢
  unfold colonnadelaw18_AtomNots.f
  obtain ⟨b, hb⟩ := pred_ends a0 a1 a2 a3 a4 a5 a6 l7 l8
  refine Evn.bind hb ?_
  by_cases e : b = true
  · exact Evn.pos e (Evn.now _)
  refine Evn.neg e ?_
  simp only [twin_f _ _ _ _ _ _ _ _ _ hw.1 hw.2, Option.bind_some]
  have hz : colonnadelaw18_like.f 0 ⟨#[]⟩ 0 0 0 0 ⟨#[]⟩ [] [] 0 ⟨#[]⟩ 0 0 0 0 ⟨#[]⟩ [] [] = some true := like_self _ _ _ _ _ _ _
  have hn : (colonnaderef18_Not.f a0 a1 a2 a3 a4 a5 a6 l7 l8 = some 0 ∧ atom_Not.f a0 a1 a2 a3 a4 a5 a6 l7 l8 = some (0, ⟨#[]⟩, 0, 0, 0, 0, ⟨#[]⟩, [], [], false)) ∨ ∃ op, op ≠ 0 ∧ colonnaderef18_Not.f a0 a1 a2 a3 a4 a5 a6 l7 l8 = some op ∧ atom_Not.f a0 a1 a2 a3 a4 a5 a6 l7 l8 = some (a0, a1, op, a3, a4, a5, a6, [], [], true) := by
    unfold colonnaderef18_Not.f atom_Not.f atom_compares.f atom_other.f
    by_cases h0 : a0 = 1
    case neg => left; rw [if_neg h0, if_neg h0]; exact ⟨rfl, rfl⟩
    rw [if_pos h0, if_pos h0]
    by_cases h7 : (l7.length : Int) > 0
    · left
      rw [if_pos h7, if_pos h7]
      refine ⟨rfl, ?_⟩
      by_cases q : 1 ≤ a2 <;> by_cases q2 : a2 ≤ 6 <;> simp [q, q2]
    rw [if_neg h7, if_neg h7]
    by_cases h8 : (l8.length : Int) > 0
    · left
      rw [if_pos h8, if_pos h8]
      refine ⟨rfl, ?_⟩
      by_cases q : 1 ≤ a2 <;> by_cases q2 : a2 ≤ 6 <;> simp [q, q2]
    rw [if_neg h8, if_neg h8]
    by_cases q : 1 ≤ a2
    case neg => left; rw [if_pos (by omega), if_neg q]; exact ⟨rfl, rfl⟩
    by_cases q2 : a2 ≤ 6
    case neg => left; rw [if_neg (by omega), if_pos (by omega), if_pos q]; exact ⟨rfl, by simp [q2]⟩
    right
    rw [if_neg (by omega), if_neg (by omega), if_pos q]
    have : a2 = 1 ∨ a2 = 2 ∨ a2 = 3 ∨ a2 = 4 ∨ a2 = 5 ∨ a2 = 6 := by omega
    rcases this with rfl | rfl | rfl | rfl | rfl | rfl
    · exact ⟨2, by decide, rfl, rfl⟩
    · exact ⟨1, by decide, rfl, rfl⟩
    · exact ⟨6, by decide, rfl, rfl⟩
    · exact ⟨5, by decide, rfl, rfl⟩
    · exact ⟨4, by decide, rfl, rfl⟩
    · exact ⟨3, by decide, rfl, rfl⟩
  rcases hn with ⟨r1, r2⟩ | ⟨op, ho, r1, r2⟩
  · rw [r1, r2]
    simp only [Option.bind_some]
    refine Evn.pos trivial (Evn.pos rfl ?_)
    simp only [hz, Option.bind_some, if_true]
    exact Evn.bind known_f (Evn.now _)
  · rw [r1, r2]
    simp only [Option.bind_some]
    refine Evn.neg ho (Evn.pos (by simp [ho]) ?_)
    simp only [like_self, Option.bind_some, if_true]
    exact Evn.bind known_f (Evn.now _)
end Go.Proofs.Ytkedejphebfneaa.Pure
