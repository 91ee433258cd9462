/- The texts of ZoneBack, merged: part 36. -/
import Derived.Test.YthiidgmemoineaaQZoneBack30
import Derived.Test.YthiidgmemoineaaQZoneBack9
import Derived.Test.YthiidgmemoineaaQZoneBack35
/- Put[uint8]: one byte more. -/
namespace Go.Proofs.Ythiidgmemoineaa.Pure
open Go.RowKit Go.Proofs.Ythiidgmemoineaa.Pa Go.Proofs.Ythiidgmemoineaa.L Go.Proofs.YthiidgmemoineaaW.PrintWords Go.Proofs.YthiidgmemoineaaW.PrintLast Go.Proofs.YthiidgmemoineaaW.PrintMore
set_option linter.unusedVariables false
set_option linter.unusedSimpArgs false
theorem shr8 (v i : Nat) (hi : i < 8) : shr .u64 (v : Int) (wrap64 (8 * (i : Int))) % 256 = ((v / 256 ^ i % 256 : Nat) : Int) := by
 rw [wrap64_in (by omega) (by omega)]
 unfold shr
 rw [show min (8 * (i : Int)).toNat IntKind.u64.bits = 8 * i by simp only [IntKind.bits]; omega, show (256 : Nat) ^ i = 2 ^ (8 * i) by rw [Nat.pow_mul]]
 rw [Int.natCast_emod, Int.natCast_ediv, Int.natCast_pow]
 rfl
theorem le_at (d v i : Nat) : le (d + 1) (v / 256 ^ i) = ((v / 256 ^ i % 256 : Nat) : Int) :: le d (v / 256 ^ (i + 1)) := by
 rw [le, Nat.div_div_eq_div_mul, ← Nat.pow_succ]
theorem put_uint8_l0 (v : Nat) (hv : v < 18446744073709551616) (d : Nat) : ∀ (i : Nat) (x : List Int), i + d = 1 → x.length + d ≤ 140737488355328 → Evn (fun k => cursor_Put_uint8.l0 k (v : Int) x 1 (i : Int)) (x ++ le d (v / 256 ^ i)) := by
 induction d with
 | zero =>
  intro i x hi hx
  refine Evn.succ (fun _ => rfl) ?_
  simp only [cursor_Put_uint8.l0]
  refine Evn.neg (by omega) ?_
  rw [le, List.append_nil]
  exact Evn.now _
 | succ d ih =>
  intro i x hi hx
  refine Evn.succ (fun _ => rfl) ?_
  simp only [cursor_Put_uint8.l0]
  refine Evn.pos (by omega) (Evn.pos (by rw [wrap64_in (by omega) (by omega)]; omega) (Evn.pos (by omega) ?_))
  rw [u64_in (n := (v : Int)) (by omega) (by omega), shr8 v i (by omega), wrap64_in (n := (i : Int) + 1) (by omega) (by omega), show (i : Int) + 1 = ((i + 1 : Nat) : Int) by omega, le_at]
  have := ih (i + 1) (x ++ [((v / 256 ^ i % 256 : Nat) : Int)]) (by omega) (by simp; omega)
  rw [List.append_assoc] at this
  exact this
theorem put_uint8_e (v : Nat) (hv : v < 18446744073709551616) (x : List Int) (hx : x.length + 1 ≤ 140737488355327) : Evn (fun k => cursor_Put_uint8.f k x (v : Int)) (x ++ le 1 v) := by
 have hcl : bytes_Clone.f x = some x := by unfold bytes_Clone.f; rw [if_pos (by omega)]
 unfold cursor_Put_uint8.f cursor_width_uint8.f
 rw [hcl]
 simp only [Option.bind_some]
 have := put_uint8_l0 v hv 1 0 x (by omega) (by omega)
 simpa using this
end Go.Proofs.Ythiidgmemoineaa.Pure
