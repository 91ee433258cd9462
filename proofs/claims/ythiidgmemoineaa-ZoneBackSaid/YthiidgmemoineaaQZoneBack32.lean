/- The texts of ZoneBack, merged: part 32. -/
import Derived.Test.YthiidgmemoineaaQZoneBack30
import Derived.Test.YthiidgmemoineaaQZoneBack31
/- PutUvarint, PutVarint, PutBlock, plainly (out of Pu, for layers that put nothing else). -/
namespace Go.Proofs.Ythiidgmemoineaa.Pa
open Go.RowKit Go.Proofs.YthiidgmemoineaaW.PrintWords Go.Proofs.YthiidgmemoineaaW.PrintLast Go.Proofs.YthiidgmemoineaaW.PrintMore Go.Proofs.Ythiidgmemoineaa.L
set_option linter.unusedVariables false
set_option linter.unusedSimpArgs false
theorem short_k : ∀ (k : Nat) (x : List Int) (v : Nat), (sf v).length ≤ k → x.length + (sf v).length ≤ 140737488355328 → cursor_short.l0 k x (v : Int) = some (x ++ sf v) := by
 intro k
 induction k with
 | zero => intro x v h; have := sf_pos v; omega
 | succ k ih =>
  intro x v h hx
  by_cases hv : v < 128
  ·rw [sf_lo hv] at h hx ⊢
   simp only [List.length_cons, List.length_nil] at hx
   simp only [cursor_short.l0]
   rw [if_neg (by omega), if_pos (by omega), show (v : Int) % 256 = v by omega]
  ·rw [sf_hi hv] at h hx ⊢
   simp only [List.length_cons] at h hx
   simp only [cursor_short.l0]
   rw [if_pos (by omega), if_pos (by omega), or128 (by omega) (by omega), show (v : Int) / 128 = ((v / 128 : Nat) : Int) by omega, ih _ _ (by omega) (by simp; omega), show (v : Int) % 256 % 128 + 128 = ((v % 128 + 128 : Nat) : Int) by omega]
   simp
theorem short_e (v : Nat) (hv : v < 18446744073709551616) (x : List Int) (hx : x.length + 10 ≤ 140737488355328) : Evn (fun k => cursor_short.f k x (v : Int)) (x ++ sf v) :=
 ⟨10, fun k hk => by
  have := sf_len10 hv
  unfold cursor_short.f
  exact short_k k x v (by omega) (by omega)⟩
theorem putuv_e (v : Nat) (hv : v < 18446744073709551616) (x : List Int) (hx : x.length + 10 ≤ 140737488355328) : Evn (fun k => cursor_PutUvarint.f k x (v : Int)) (x ++ sf v) := by
 unfold cursor_PutUvarint.f bytes_Clone.f
 simp only [if_pos (show x.length < 211106232532992 by omega), Option.bind_some]
 exact Evn.bind (short_e v hv x hx) (Evn.now _)
theorem u64n (n : Nat) (h : n < 18446744073709551616) : IntKind.u64.wrap (n : Int) = (n : Int) := u64_in (by omega) (by omega)
theorem putblk_e (x p : List Int) (hx : x.length + p.length + 11 ≤ 140737488355328) : Evn (fun k => cursor_PutBlock.f k x p) (x ++ blkf p) := by
 unfold cursor_PutBlock.f
 rw [u64n _ (by omega)]
 have := sf_len10 (n := p.length) (by omega)
 refine Evn.bind (putuv_e p.length (by omega) x (by omega)) (Evn.pos (by simp; omega) ?_)
 rw [blkf, ← List.append_assoc]
 exact Evn.now _
theorem bytesOf_str {p : List Int} (h : Bytes p) : bytesOf (strOfNums p) = p := by
 unfold bytesOf
 rw [strOfNums_data, List.map_map]
 conv => rhs; rw [← List.map_id p]
 apply List.map_congr_left
 intro a ha
 have := h a ha
 simp
 omega
theorem str_size (p : List Int) : (strOfNums p).size = p.length := by simp [strOfNums, ByteArray.size]
/-! ### whole numbers -/
theorem xor_ones (b : Nat) (hb : b < 2 ^ 64) : (2 ^ 64 - 1) ^^^ b = 2 ^ 64 - 1 - b := by
 apply Nat.eq_of_testBit_eq
 intro i
 rw [Nat.testBit_xor, Nat.testBit_two_pow_sub_one, show 2 ^ 64 - 1 - b = 2 ^ 64 - (b + 1) by omega, Nat.testBit_two_pow_sub_succ hb]
 by_cases hi : i < 64
 ·simp [hi]
 ·have : b.testBit i = false := Nat.testBit_lt_two_pow (Nat.lt_of_lt_of_le hb (Nat.pow_le_pow_right (by decide) (by omega)))
  simp [hi, this]
theorem xor_zero (x : Int) (h0 : -9223372036854775808 ≤ x) (h1 : x ≤ 9223372036854775807) : Go.bits .xor .i64 x 0 = x := by
 show IntKind.i64.wrap ((BitVec.ofInt 64 x ^^^ BitVec.ofInt 64 0).toNat : Int) = _
 rw [show BitVec.ofInt 64 0 = 0#64 by decide, BitVec.xor_zero, BitVec.toNat_ofInt, IntKind.wrap_i64]
 omega
theorem xor_neg (x : Int) (h0 : -9223372036854775808 ≤ x) (h1 : x ≤ 9223372036854775807) : Go.bits .xor .i64 x (-1) = -1 - x := by
 show IntKind.i64.wrap ((BitVec.ofInt 64 x ^^^ BitVec.ofInt 64 (-1)).toNat : Int) = _
 have e1 : (BitVec.ofInt 64 (-1)).toNat = 2 ^ 64 - 1 := by decide
 have e2 := (BitVec.ofInt 64 x).isLt
 rw [BitVec.toNat_xor, e1, Nat.xor_comm, xor_ones _ e2, IntKind.wrap_i64]
 have e3 : ((BitVec.ofInt 64 x).toNat : Int) = x % 18446744073709551616 := by rw [BitVec.toNat_ofInt]; omega
 omega
def foldV (v : Int) : Int := if 0 ≤ v then 2 * v else -2 * v - 1
theorem fold_eq (v : Int) (h0 : -9223372036854775808 ≤ v) (h1 : v ≤ 9223372036854775807) : IntKind.u64.wrap (Go.bits .xor .i64 (wrap64 (v * 2)) (v / 9223372036854775808)) = foldV v := by
 have hw : -9223372036854775808 ≤ wrap64 (v * 2) ∧ wrap64 (v * 2) ≤ 9223372036854775807 := by unfold wrap64; omega
 unfold foldV
 by_cases h : 0 ≤ v
 ·rw [if_pos h, show v / 9223372036854775808 = 0 by omega, xor_zero _ hw.1 hw.2, IntKind.wrap_u64]
  unfold wrap64
  omega
 ·rw [if_neg h, show v / 9223372036854775808 = -1 by omega, xor_neg _ hw.1 hw.2, IntKind.wrap_u64]
  unfold wrap64
  omega
theorem foldV_range (v : Int) (h0 : -9223372036854775808 ≤ v) (h1 : v ≤ 9223372036854775807) : 0 ≤ foldV v ∧ foldV v < 18446744073709551616 := by unfold foldV; split <;> omega
theorem and_one (x : Int) (h0 : 0 ≤ x) (h1 : x < 18446744073709551616) : Go.bits .and .u64 x 1 = x % 2 := by
 obtain ⟨n, rfl⟩ := Int.eq_ofNat_of_zero_le h0
 show IntKind.u64.wrap ((BitVec.ofInt 64 (n : Int) &&& BitVec.ofInt 64 1).toNat : Int) = _
 rw [BitVec.toNat_and, show (BitVec.ofInt 64 1).toNat = 1 by decide, Nat.and_one_is_mod, BitVec.ofInt_natCast, BitVec.toNat_ofNat, IntKind.wrap_u64]
 omega
theorem unf_eq (u : Int) (h0 : 0 ≤ u) (h1 : u < 18446744073709551616) : unfV u = if u % 2 = 0 then u / 2 else -1 - u / 2 := by
 unfold unfV
 rw [and_one u h0 h1, wrap64_in (n := u / 2) (by omega) (by omega), wrap64_in (n := u % 2) (by omega) (by omega), wrap64_in (by omega) (by omega)]
 by_cases h : u % 2 = 0
 ·rw [if_pos h, h, show -(0 : Int) = 0 from rfl, xor_zero _ (by omega) (by omega)]
 ·rw [if_neg h, show u % 2 = 1 by omega, xor_neg _ (by omega) (by omega)]
theorem unf_range (u : Int) (h0 : 0 ≤ u) (h1 : u < 18446744073709551616) : -9223372036854775808 ≤ unfV u ∧ unfV u ≤ 9223372036854775807 := by rw [unf_eq u h0 h1]; split <;> omega
theorem fold_unf (u : Int) (h0 : 0 ≤ u) (h1 : u < 18446744073709551616) : foldV (unfV u) = u := by
 rw [unf_eq u h0 h1]
 unfold foldV
 split <;> split <;> omega
theorem unf_fold (v : Int) (h0 : -9223372036854775808 ≤ v) (h1 : v ≤ 9223372036854775807) : unfV (foldV v) = v := by
 have h := foldV_range v h0 h1
 rw [unf_eq _ h.1 h.2]
 unfold foldV
 split <;> split <;> omega
theorem putvi_e (v : Int) (h0 : -9223372036854775808 ≤ v) (h1 : v ≤ 9223372036854775807) (x : List Int) (hx : x.length + 10 ≤ 140737488355328) : Evn (fun k => cursor_PutVarint.f k x v) (x ++ sf (foldV v).toNat) := by
 unfold cursor_PutVarint.f
 rw [fold_eq v h0 h1]
 have h := foldV_range v h0 h1
 have := putuv_e (foldV v).toNat (by omega) x hx
 rw [Int.toNat_of_nonneg h.1] at this
 exact Evn.bind this (Evn.now _)
end Go.Proofs.Ythiidgmemoineaa.Pa
