/- The texts of AtomTests, merged: part 27. -/
import Derived.Test.YtkedejphebfneaaQAtomTests26
/- The document's 'stands', its walk by hand. -/
namespace Go.Proofs.Ytkedejphebfneaa.Pa
open Go.Proofs.Ytkedejphebfneaa.L Go.RowKit Go.Proofs.YtkedejphebfneaaW.PrintWords Go.Proofs.YtkedejphebfneaaW.PrintLast Go.Proofs.YtkedejphebfneaaW.PrintMore
set_option linter.unusedVariables false
set_option linter.unusedSimpArgs false
/-- How what a comparison comes to stands to an operator. -/
def stR (c op : Int) : Bool := if op = 1 then c == 0 else if op = 2 then c != 0 else if op = 3 then decide (c < 0) else if op = 4 then decide (c ≤ 0) else if op = 5 then decide (c > 0) else if op = 6 then decide (c ≥ 0) else false
def colonnaderef18_stands.f (k : Nat) (a0_0 a0_1 : Int) (a0_2 : Nat) (a0_3 : ByteArray) (a1 : Int) (a2_0 a2_1 : Int) (a2_2 : Nat) (a2_3 : ByteArray) : Option Bool :=
  (colonnaderef18_Compare.f k a0_0 a0_1 a0_2 a0_3 a2_0 a2_1 a2_2 a2_3).bind fun t => some (stR t a1)
theorem colonnaderef18_stands.mono (a0_0 a0_1 : Int) (a0_2 : Nat) (a0_3 : ByteArray) (a1 : Int) (a2_0 a2_1 : Int) (a2_2 : Nat) (a2_3 : ByteArray) (k : Nat) : LeO (colonnaderef18_stands.f k a0_0 a0_1 a0_2 a0_3 a1 a2_0 a2_1 a2_2 a2_3) (colonnaderef18_stands.f (k + 1) a0_0 a0_1 a0_2 a0_3 a1 a2_0 a2_1 a2_2 a2_3) := by
  unfold colonnaderef18_stands.f
  exact LeO.bind (colonnaderef18_Compare.mono _ _ _ _ _ _ _ _ _) (fun _ => LeO.refl _)
theorem ret_b {a b : Bool} (h : a = b) : Ending.returned (.bool a) = .returned (.bool b) := by rw [h]
set_option maxHeartbeats 4000000 in
theorem colonnaderef18_stands.calls (k : Nat) (a0_0 a0_1 : Int) (a0_2 : Nat) (a0_3 : ByteArray) (a1 : Int) (a2_0 a2_1 : Int) (a2_2 : Nat) (a2_3 : ByteArray) (r : Bool) (w : World) (h : colonnaderef18_stands.f k a0_0 a0_1 a0_2 a0_3 a1 a2_0 a2_1 a2_2 a2_3 = some r) :
    Calls Try.prog 73 #[.agg #[.int .i64 a0_0, .int .i64 a0_1, .float .f64 a0_2, .string a0_3], .int .i64 a1, .agg #[.int .i64 a2_0, .int .i64 a2_1, .float .f64 a2_2, .string a2_3]] w fun e w' => e = .returned (.bool r) ∧ Below w.heap.size w w' := by
  obtain ⟨t, ht, hr⟩ := Option.bind_eq_some_iff.1 h
  clear h
  obtain rfl := Option.some.inj hr
  clear hr
  have hC := Aside0.mk (fun W => colonnaderef18_Compare.calls k a0_0 a0_1 a0_2 a0_3 a2_0 a2_1 a2_2 a2_3 t W ht)
  clear ht
  have key : ∀ op : Int, (op = 1 ∨ op = 2 ∨ op = 3 ∨ op = 4 ∨ op = 5 ∨ op = 6) ∨ ((op == 1) = false ∧ (op == 2) = false ∧ (op == 3) = false ∧ (op == 4) = false ∧ (op == 5) = false ∧ (op == 6) = false ∧ ∀ t, stR t op = false) := by
    intro op
    by_cases h : op = 1 ∨ op = 2 ∨ op = 3 ∨ op = 4 ∨ op = 5 ∨ op = 6
    · exact Or.inl h
    · have n1 : op ≠ 1 := by omega
      have n2 : op ≠ 2 := by omega
      have n3 : op ≠ 3 := by omega
      have n4 : op ≠ 4 := by omega
      have n5 : op ≠ 5 := by omega
      have n6 : op ≠ 6 := by omega
      exact Or.inr ⟨by simpa using n1, by simpa using n2, by simpa using n3, by simpa using n4, by simpa using n5, by simpa using n6, fun t => by unfold stR; rw [if_neg n1, if_neg n2, if_neg n3, if_neg n4, if_neg n5, if_neg n6]⟩
  rcases key a1 with (rfl | rfl | rfl | rfl | rfl | rfl) | ⟨e1, e2, e3, e4, e5, e6, e7⟩
  all_goals clear key
  all_goals
    go_enter Try.func73, Try.ntmps73
    go_wp2_with (go_at_call 54; refine (hC.out _).mono ?_; rintro e w1 ⟨rfl, hb⟩)
  all_goals
    go_ret
    exact ⟨ret_b (by first | (simp only [e7]; done) | (simp [stR, *]; done) | (simp [stR, *] <;> omega)), below_then (below_alloc (below_alloc (Below.refl _ _) _) _) (by simp; omega) hb⟩
end Go.Proofs.Ytkedejphebfneaa.Pa
