/- The texts of ZoneForm, merged: part 21. -/
import Derived.Test.YthiidgmemoineaaQZoneForm14
/- Forms cut short, plainly: of any shorter beginning a reading says that it is short. -/
namespace Go.Proofs.Ythiidgmemoineaa.Pa
open Go.RowKit Go.Proofs.YthiidgmemoineaaW.PrintWords Go.Proofs.YthiidgmemoineaaW.PrintLast Go.Proofs.YthiidgmemoineaaW.PrintMore Go.Proofs.Ythiidgmemoineaa.L
set_option linter.unusedVariables false
set_option linter.unusedSimpArgs false
theorem numF_cut (m : Nat) : ∀ (i v : Nat) (p q : List Int), i ≤ 9 → v < 2 ^ (7 * i) → v + m * 2 ^ (7 * i) < 18446744073709551616 → sf m = p ++ q → q ≠ [] → numF p i (v : Int) = .inl 71 := by
  induction m using Nat.strongRecOn with
  | ind m ih =>
    intro i v p q hi hv hlt e hq
    cases p with
    | nil => rfl
    | cons c p =>
      by_cases h : m < 128
      · rw [sf_lo h, List.cons_append] at e
        injection e with e1 e2
        exact absurd (List.append_eq_nil_iff.1 e2.symm).2 hq
      · rw [sf_hi h, List.cons_append] at e
        injection e with e1 e2
        subst e1
        have hi9 : i < 9 := by
          rcases Nat.lt_or_ge i 9 with h9 | h9
          · exact h9
          · obtain rfl : i = 9 := by omega
            rw [show (2 ^ (7 * 9) : Nat) = 9223372036854775808 by decide] at hlt
            omega
        have hle := Nat.mul_le_mul_right (2 ^ (7 * i)) (show m % 128 ≤ 127 by omega)
        have hm : (m % 128) * 2 ^ (7 * i) + (m / 128) * 2 ^ (7 * (i + 1)) = m * 2 ^ (7 * i) := by
          rw [pow7s, Nat.mul_comm (2 ^ (7 * i)) 128, ← Nat.mul_assoc, ← Nat.add_mul]
          congr 1
          omega
        rw [numF, if_pos (by omega), if_neg (by omega), numV_add v _ i hi hv (by omega) (by omega), show (m % 128 + 128) % 128 = m % 128 by omega]
        exact ih (m / 128) (by omega) (i + 1) _ p q (by omega) (by rw [pow7s]; omega) (by omega) e2 hq
theorem numF_short (m : Nat) (hm : m < 18446744073709551616) {p q : List Int} (e : sf m = p ++ q) (hq : q ≠ []) : numF p 0 0 = .inl 71 := by
  have := numF_cut m 0 0 p q (by omega) (by simp) (by simpa using hm) e hq
  simpa using this
/-- Two lists that are two others behind each other: the first one ends in or at the end of the other, or goes on. -/
theorem app_app {a b c d : List Int} (e : a ++ b = c ++ d) : (∃ x, c = a ++ x ∧ b = x ++ d) ∨ (∃ x, x ≠ [] ∧ a = c ++ x ∧ d = x ++ b) := by
  rcases List.append_eq_append_iff.1 e with ⟨x, e1, e2⟩ | ⟨x, e1, e2⟩
  · exact .inl ⟨x, e1, e2⟩
  · by_cases hx : x = []
    · subst hx
      exact .inl ⟨[], by simpa using e1.symm, by simpa using e2.symm⟩
    · exact .inr ⟨x, hx, e1, e2⟩
theorem blockF_cut {p a b : List Int} {most : Int} (e : blkf p = a ++ b) (hb : b ≠ []) (hp : (p.length : Int) ≤ most) (h64 : p.length < 18446744073709551616) : blockF a most = .inl 71 := by
  unfold blkf at e
  rcases app_app e with ⟨x, rfl, e2⟩ | ⟨x, hx, e1, _⟩
  · have hl : x.length < p.length := by
      have := congrArg List.length e2
      have hb' := List.length_pos_iff.2 hb
      rw [List.length_append] at this
      omega
    unfold blockF
    rw [numF_sf _ h64]
    dsimp only
    rw [if_pos hp, if_neg (by omega)]
  · unfold blockF
    rw [numF_short _ h64 e1 hx]
theorem txsF_cut : ∀ (qs : List (List Int)) (each : Int) (acc : List (List Int)) (a b : List Int), blks qs = a ++ b → b ≠ [] → (∀ q ∈ qs, (q.length : Int) ≤ each ∧ q.length < 18446744073709551616) → txsF qs.length a each acc = .inl 71
  | [], each, acc, a, b, e, hb, h => by
    have : a ++ b = [] := e.symm
    exact absurd (List.append_eq_nil_iff.1 this).2 hb
  | q :: qs, each, acc, a, b, e, hb, h => by
    have hq := h q (by simp)
    rw [show blks (q :: qs) = blkf q ++ blks qs by simp [blks]] at e
    rw [List.length_cons, txsF]
    rcases app_app e with ⟨x, rfl, e2⟩ | ⟨x, hx, e1, _⟩
    · rw [blockF_of q _ each hq.1 hq.2]
      dsimp only
      exact txsF_cut qs each _ x b e2 hb (fun y hy => h y (by simp [hy]))
    · rw [blockF_cut e1 hx hq.1 hq.2]
theorem textsF_cut {ps : List (List Int)} {most each : Int} {a b : List Int} (e : txf ps = a ++ b) (hb : b ≠ []) (hm : (ps.length : Int) ≤ most) (h64 : ps.length < 18446744073709551616) (he : 0 ≤ each) (h : ∀ q ∈ ps, (q.length : Int) ≤ each ∧ q.length < 18446744073709551616) : textsF a most each = .inl 71 := by
  unfold txf at e
  unfold textsF
  rw [if_neg (by omega)]
  rcases app_app e with ⟨x, rfl, e2⟩ | ⟨x, hx, e1, _⟩
  · rw [numF_sf _ h64]
    dsimp only
    rw [if_pos hm, Int.toNat_natCast]
    exact txsF_cut ps each [] x b e2 hb h
  · rw [numF_short _ h64 e1 hx]
end Go.Proofs.Ythiidgmemoineaa.Pa
