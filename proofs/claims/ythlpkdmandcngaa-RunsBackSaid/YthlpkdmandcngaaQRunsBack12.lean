/- The texts of RunsBack, merged: part 12. -/
import Derived.Test.YthlpkdmandcngaaQRunsBack11
import Derived.Handy
import Derived.Lib.BitFns
import Derived.Laws.Bits64b
/- cursor.Take of every kind: its closure's walk, and what it answers. -/
namespace Go.Proofs.Ythlpkdmandcngaa.Pa
open Go.Proofs.Ythlpkdmandcngaa.L Go.RowKit Go.Proofs.YthlpkdmandcngaaW.PrintWords Go.Proofs.YthlpkdmandcngaaW.PrintLast Go.Proofs.YthlpkdmandcngaaW.PrintMore
set_option linter.unusedVariables false
set_option linter.unusedSimpArgs false
variable {B : Nat × Nat}
theorem ret_i {a b : Int} (h : a = b) : Ending.returned (.int .i64 a) = .returned (.int .i64 b) := by rw [h]
/-- A number out of its bytes, the lowest first. -/
def takV : List Int → Nat → Int → Int
  | [], _, u => u
  | c :: l, i, u => takV l (i + 1) (Go.bits .or .u64 u (IntKind.u64.wrap (IntKind.u64.wrap c * 2 ^ (8 * i))))
theorem takV_step {p : List Int} {k : Nat} {u : Int} (hk : k < p.length) : takV (p.drop k) k u = takV (p.drop (k + 1)) (k + 1) (Go.bits .or .u64 u (IntKind.u64.wrap (IntKind.u64.wrap p[k] * 2 ^ (8 * k)))) := by
  rw [List.drop_eq_getElem_cons hk, takV]
theorem takV_end {p : List Int} {k : Nat} {u : Int} (hk : p.length ≤ k) : takV (p.drop k) k u = u := by
  rw [List.drop_eq_nil_of_le hk, takV]
theorem C_u8 {w : World} {A : Option Addr} {n : Nat} {xs : List Int} (h : Kd.C (Kd.int .u8) w A n xs) (k : Nat) (hk : k < n) : ∃ ad, A = some ad ∧ w.cell? (ad.add k) = some (.int .u8 (xs.getD k 0)) := by
  obtain ⟨ad, c, e, _, hK, hc0⟩ := Kd.C_get h 0 (k : Int) (by omega) (by omega)
  have hc : c = [.int .u8 (xs.getD k 0)] := hK
  refine ⟨ad, e, ?_⟩
  have := hc0 0 (.int .u8 (xs.getD k 0)) (by rw [hc]; rfl)
  simpa [show (Kd.int IntKind.u8).sz = 1 from rfl] using this
/-- What a Take of so many bytes answers (ahead of its conversion), the place and the fault behind it. -/
def takR (n : Nat) (bs : List Int) (at_ fault : Int) : Int × Int × Int :=
  if fault ≠ 0 then (0, at_, fault) else if at_ + n ≤ bs.length then (takV ((bs.drop at_.toNat).take n) 0 0, at_ + n, 0) else (0, at_, 71)
end Go.Proofs.Ythlpkdmandcngaa.Pa
