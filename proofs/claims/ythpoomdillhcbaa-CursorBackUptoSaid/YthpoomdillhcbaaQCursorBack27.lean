/- The texts of CursorBack, merged: part 27. -/
import Derived.Test.YthpoomdillhcbaaQCursorBack14
import Derived.Test.YthpoomdillhcbaaQCursorBack17
import Derived.Test.YthpoomdillhcbaaQCursorBack18
import Derived.Test.YthpoomdillhcbaaQCursorBack19
import Derived.Test.YthpoomdillhcbaaQCursorBack20
import Derived.Test.YthpoomdillhcbaaQCursorBack21
import Derived.Test.YthpoomdillhcbaaQCursorBack24
import Derived.Test.YthpoomdillhcbaaQCursorBack25
import Derived.Test.YthpoomdillhcbaaQCursorBack26
/- The Puts, plainly. -/
namespace Go.Proofs.Ythpoomdillhcbaa.Pa
open Go.RowKit Go.Proofs.YthpoomdillhcbaaW.PrintWords Go.Proofs.YthpoomdillhcbaaW.PrintLast Go.Proofs.YthpoomdillhcbaaW.PrintMore Go.Proofs.Ythpoomdillhcbaa.L
set_option linter.unusedVariables false
set_option linter.unusedSimpArgs false
theorem short_k : ∀ (k : Nat) (x : List Int) (v : Nat), (sf v).length ≤ k → x.length + (sf v).length ≤ 140737488355328 → cursor_short.l0 k x (v : Int) = some (x ++ sf v) := by
  intro k
  induction k with
  | zero => intro x v h; have := sf_pos v; omega
  | succ k ih =>
    intro x v h hx
    by_cases hv : v < 128
    · rw [sf_lo hv] at h hx ⊢
      simp only [List.length_cons, List.length_nil] at hx
      simp only [cursor_short.l0]
      rw [if_neg (by omega), if_pos (by omega), show (v : Int) % 256 = v by omega]
    · rw [sf_hi hv] at h hx ⊢
      simp only [List.length_cons] at h hx
      simp only [cursor_short.l0]
      rw [if_pos (by omega), if_pos (by omega), or128 (by omega) (by omega), show (v : Int) / 128 = ((v / 128 : Nat) : Int) by omega, ih _ _ (by omega) (by simp; omega), show (v : Int) % 256 % 128 + 128 = ((v % 128 + 128 : Nat) : Int) by omega]
      simp
theorem short_e (v : Nat) (hv : v < 18446744073709551616) (x : List Int) (hx : x.length + 10 ≤ 140737488355328) : Evn (fun k => cursor_short.f k x (v : Int)) (x ++ sf v) :=
  ⟨10, fun k hk => by
    have := sf_len10 hv
    unfold cursor_short.f
    exact short_k k x v (by omega) (by omega)⟩
theorem putuv_e (v : Nat) (hv : v < 18446744073709551616) (x : List Int) (hx : x.length + 10 ≤ 140737488355328) : Evn (fun k => cursor_PutUvarint.f k x (v : Int)) (x ++ sf v) := by
  unfold cursor_PutUvarint.f bytes_Clone.f
  simp only [if_pos (show x.length < 140737488355328 by omega), Option.bind_some]
  exact Evn.bind (short_e v hv x hx) (Evn.now _)
theorem shr8 (v i : Nat) (hi : i < 8) : shr .u64 (v : Int) (wrap64 (8 * (i : Int))) % 256 = ((v / 256 ^ i % 256 : Nat) : Int) := by
  rw [wrap64_in (by omega) (by omega)]
  unfold shr
  rw [show min (8 * (i : Int)).toNat IntKind.u64.bits = 8 * i by simp only [IntKind.bits]; omega, show (256 : Nat) ^ i = 2 ^ (8 * i) by rw [Nat.pow_mul]]
  rw [Int.natCast_emod, Int.natCast_ediv, Int.natCast_pow]
  rfl
theorem le_at (d v i : Nat) : le (d + 1) (v / 256 ^ i) = ((v / 256 ^ i % 256 : Nat) : Int) :: le d (v / 256 ^ (i + 1)) := by
  rw [le, Nat.div_div_eq_div_mul, ← Nat.pow_succ]
theorem put_uint8_l0 (v : Nat) (hv : v < 18446744073709551616) (d : Nat) : ∀ (i : Nat) (x : List Int), i + d = 1 → x.length + d ≤ 140737488355328 → Evn (fun k => cursor_Put_uint8.l0 k (v : Int) x 1 (i : Int)) (x ++ le d (v / 256 ^ i)) := by
  induction d with
  | zero =>
    intro i x hi hx
    refine Evn.succ (fun _ => rfl) ?_
    simp only [cursor_Put_uint8.l0]
    refine Evn.neg (by omega) ?_
    rw [le, List.append_nil]
    exact Evn.now _
  | succ d ih =>
    intro i x hi hx
    refine Evn.succ (fun _ => rfl) ?_
    simp only [cursor_Put_uint8.l0]
    refine Evn.pos (by omega) (Evn.pos (by rw [wrap64_in (by omega) (by omega)]; omega) (Evn.pos (by omega) ?_))
    rw [u64_in (n := (v : Int)) (by omega) (by omega), shr8 v i (by omega), wrap64_in (n := (i : Int) + 1) (by omega) (by omega), show (i : Int) + 1 = ((i + 1 : Nat) : Int) by omega, le_at]
    have := ih (i + 1) (x ++ [((v / 256 ^ i % 256 : Nat) : Int)]) (by omega) (by simp; omega)
    rw [List.append_assoc] at this
    exact this
theorem put_uint8_e (v : Nat) (hv : v < 18446744073709551616) (x : List Int) (hx : x.length + 1 ≤ 140737488355327) : Evn (fun k => cursor_Put_uint8.f k x (v : Int)) (x ++ le 1 v) := by
  unfold cursor_Put_uint8.f bytes_Clone.f cursor_width_uint8.f
  simp only [if_pos (show x.length < 140737488355328 by omega), Option.bind_some]
  have := put_uint8_l0 v hv 1 0 x (by omega) (by omega)
  simpa using this
theorem put_uint16_l0 (v : Nat) (hv : v < 18446744073709551616) (d : Nat) : ∀ (i : Nat) (x : List Int), i + d = 2 → x.length + d ≤ 140737488355328 → Evn (fun k => cursor_Put_uint16.l0 k (v : Int) x 2 (i : Int)) (x ++ le d (v / 256 ^ i)) := by
  induction d with
  | zero =>
    intro i x hi hx
    refine Evn.succ (fun _ => rfl) ?_
    simp only [cursor_Put_uint16.l0]
    refine Evn.neg (by omega) ?_
    rw [le, List.append_nil]
    exact Evn.now _
  | succ d ih =>
    intro i x hi hx
    refine Evn.succ (fun _ => rfl) ?_
    simp only [cursor_Put_uint16.l0]
    refine Evn.pos (by omega) (Evn.pos (by rw [wrap64_in (by omega) (by omega)]; omega) (Evn.pos (by omega) ?_))
    rw [u64_in (n := (v : Int)) (by omega) (by omega), shr8 v i (by omega), wrap64_in (n := (i : Int) + 1) (by omega) (by omega), show (i : Int) + 1 = ((i + 1 : Nat) : Int) by omega, le_at]
    have := ih (i + 1) (x ++ [((v / 256 ^ i % 256 : Nat) : Int)]) (by omega) (by simp; omega)
    rw [List.append_assoc] at this
    exact this
theorem put_uint16_e (v : Nat) (hv : v < 18446744073709551616) (x : List Int) (hx : x.length + 2 ≤ 140737488355327) : Evn (fun k => cursor_Put_uint16.f k x (v : Int)) (x ++ le 2 v) := by
  unfold cursor_Put_uint16.f bytes_Clone.f cursor_width_uint16.f
  simp only [if_pos (show x.length < 140737488355328 by omega), Option.bind_some]
  have := put_uint16_l0 v hv 2 0 x (by omega) (by omega)
  simpa using this
theorem put_uint32_l0 (v : Nat) (hv : v < 18446744073709551616) (d : Nat) : ∀ (i : Nat) (x : List Int), i + d = 4 → x.length + d ≤ 140737488355328 → Evn (fun k => cursor_Put_uint32.l0 k (v : Int) x 4 (i : Int)) (x ++ le d (v / 256 ^ i)) := by
  induction d with
  | zero =>
    intro i x hi hx
    refine Evn.succ (fun _ => rfl) ?_
    simp only [cursor_Put_uint32.l0]
    refine Evn.neg (by omega) ?_
    rw [le, List.append_nil]
    exact Evn.now _
  | succ d ih =>
    intro i x hi hx
    refine Evn.succ (fun _ => rfl) ?_
    simp only [cursor_Put_uint32.l0]
    refine Evn.pos (by omega) (Evn.pos (by rw [wrap64_in (by omega) (by omega)]; omega) (Evn.pos (by omega) ?_))
    rw [u64_in (n := (v : Int)) (by omega) (by omega), shr8 v i (by omega), wrap64_in (n := (i : Int) + 1) (by omega) (by omega), show (i : Int) + 1 = ((i + 1 : Nat) : Int) by omega, le_at]
    have := ih (i + 1) (x ++ [((v / 256 ^ i % 256 : Nat) : Int)]) (by omega) (by simp; omega)
    rw [List.append_assoc] at this
    exact this
theorem put_uint32_e (v : Nat) (hv : v < 18446744073709551616) (x : List Int) (hx : x.length + 4 ≤ 140737488355327) : Evn (fun k => cursor_Put_uint32.f k x (v : Int)) (x ++ le 4 v) := by
  unfold cursor_Put_uint32.f bytes_Clone.f cursor_width_uint32.f
  simp only [if_pos (show x.length < 140737488355328 by omega), Option.bind_some]
  have := put_uint32_l0 v hv 4 0 x (by omega) (by omega)
  simpa using this
theorem put_uint64_l0 (v : Nat) (hv : v < 18446744073709551616) (d : Nat) : ∀ (i : Nat) (x : List Int), i + d = 8 → x.length + d ≤ 140737488355328 → Evn (fun k => cursor_Put_uint64.l0 k (v : Int) x 8 (i : Int)) (x ++ le d (v / 256 ^ i)) := by
  induction d with
  | zero =>
    intro i x hi hx
    refine Evn.succ (fun _ => rfl) ?_
    simp only [cursor_Put_uint64.l0]
    refine Evn.neg (by omega) ?_
    rw [le, List.append_nil]
    exact Evn.now _
  | succ d ih =>
    intro i x hi hx
    refine Evn.succ (fun _ => rfl) ?_
    simp only [cursor_Put_uint64.l0]
    refine Evn.pos (by omega) (Evn.pos (by rw [wrap64_in (by omega) (by omega)]; omega) (Evn.pos (by omega) ?_))
    rw [shr8 v i (by omega), wrap64_in (n := (i : Int) + 1) (by omega) (by omega), show (i : Int) + 1 = ((i + 1 : Nat) : Int) by omega, le_at]
    have := ih (i + 1) (x ++ [((v / 256 ^ i % 256 : Nat) : Int)]) (by omega) (by simp; omega)
    rw [List.append_assoc] at this
    exact this
theorem put_uint64_e (v : Nat) (hv : v < 18446744073709551616) (x : List Int) (hx : x.length + 8 ≤ 140737488355327) : Evn (fun k => cursor_Put_uint64.f k x (v : Int)) (x ++ le 8 v) := by
  unfold cursor_Put_uint64.f bytes_Clone.f cursor_width_uint64.f
  simp only [if_pos (show x.length < 140737488355328 by omega), Option.bind_some]
  have := put_uint64_l0 v hv 8 0 x (by omega) (by omega)
  simpa using this
theorem put_tall_l0 (v : Nat) (hv : v < 18446744073709551616) (d : Nat) : ∀ (i : Nat) (x : List Int), i + d = 2 → x.length + d ≤ 140737488355328 → Evn (fun k => colonnadelaw07_tall_58.l0 k (v : Int) x 2 (i : Int)) (x ++ le d (v / 256 ^ i)) := by
  induction d with
  | zero =>
    intro i x hi hx
    refine Evn.succ (fun _ => rfl) ?_
    simp only [colonnadelaw07_tall_58.l0]
    refine Evn.neg (by omega) ?_
    rw [le, List.append_nil]
    exact Evn.now _
  | succ d ih =>
    intro i x hi hx
    refine Evn.succ (fun _ => rfl) ?_
    simp only [colonnadelaw07_tall_58.l0]
    refine Evn.pos (by omega) (Evn.pos (by rw [wrap64_in (by omega) (by omega)]; omega) (Evn.pos (by omega) ?_))
    rw [u64_in (n := (v : Int)) (by omega) (by omega), shr8 v i (by omega), wrap64_in (n := (i : Int) + 1) (by omega) (by omega), show (i : Int) + 1 = ((i + 1 : Nat) : Int) by omega, le_at]
    have := ih (i + 1) (x ++ [((v / 256 ^ i % 256 : Nat) : Int)]) (by omega) (by simp; omega)
    rw [List.append_assoc] at this
    exact this
theorem put_tall_e (v : Nat) (hv : v < 18446744073709551616) (x : List Int) (hx : x.length + 2 ≤ 140737488355327) : Evn (fun k => colonnadelaw07_tall_58.f k x (v : Int)) (x ++ le 2 v) := by
  unfold colonnadelaw07_tall_58.f bytes_Clone.f colonnadelaw07_tall_89.f
  simp only [if_pos (show x.length < 140737488355328 by omega), Option.bind_some]
  have := put_tall_l0 v hv 2 0 x (by omega) (by omega)
  simpa using this
theorem u64n (n : Nat) (h : n < 18446744073709551616) : IntKind.u64.wrap (n : Int) = (n : Int) := u64_in (by omega) (by omega)
theorem putblk_e (x p : List Int) (hx : x.length + p.length + 11 ≤ 140737488355328) : Evn (fun k => cursor_PutBlock.f k x p) (x ++ blkf p) := by
  unfold cursor_PutBlock.f
  rw [u64n _ (by omega)]
  have := sf_len10 (n := p.length) (by omega)
  refine Evn.bind (putuv_e p.length (by omega) x (by omega)) (Evn.pos (by simp; omega) ?_)
  rw [blkf, ← List.append_assoc]
  exact Evn.now _
theorem bytesOf_str {p : List Int} (h : Bytes p) : bytesOf (strOfNums p) = p := by
  unfold bytesOf
  rw [strOfNums_data, List.map_map]
  conv => rhs; rw [← List.map_id p]
  apply List.map_congr_left
  intro a ha
  have := h a ha
  simp
  omega
theorem str_size (p : List Int) : (strOfNums p).size = p.length := by simp [strOfNums, ByteArray.size]
theorem rdOf_str (ps : List (List Int)) (i : Nat) (hi : i < ps.length) : rdOf ByteArray.empty (ps.map strOfNums) (i : Int) = strOfNums ps[i] := by
  unfold rdOf
  rw [Int.toNat_natCast, List.getD_eq_getElem?_getD, List.getElem?_eq_getElem (by simpa using hi)]
  simp
def blkl (ps : List (List Int)) : Nat := (ps.map fun p => p.length + 10).sum
theorem blks_len (ps : List (List Int)) (h : ∀ p ∈ ps, p.length < 18446744073709551616) : (blks ps).length ≤ blkl ps := by
  induction ps with
  | nil => simp [blks, blkl]
  | cons p ps ih =>
    have h1 := ih (fun q hq => h q (by simp [hq]))
    have h2 := sf_len10 (h p (by simp))
    simp only [blks, blkl, List.flatMap_cons, List.length_append, List.map_cons, List.sum_cons] at h1 ⊢
    have : (blkf p).length ≤ p.length + 10 := by rw [blkf, List.length_append]; omega
    omega
theorem puttx_l0 (ps : List (List Int)) (hb : ∀ p ∈ ps, Bytes p) (hl : ps.length < 140737488355328) (d : Nat) : ∀ (i : Nat) (x : List Int), i + d = ps.length → x.length + blkl (ps.drop i) ≤ 140737488355327 → Evn (fun k => cursor_PutTexts.l0 k x (ps.map strOfNums) (ps.length : Int) (i : Int)) (x ++ blks (ps.drop i)) := by
  induction d with
  | zero =>
    intro i x hi hx
    refine Evn.succ (fun _ => rfl) ?_
    simp only [cursor_PutTexts.l0]
    refine Evn.neg (by omega) ?_
    rw [List.drop_eq_nil_of_le (by omega)]
    simp only [blks, List.flatMap_nil, List.append_nil]
    exact Evn.now _
  | succ d ih =>
    intro i x hi hx
    have hi' : i < ps.length := by omega
    rw [List.drop_eq_getElem_cons hi'] at hx ⊢
    have hx2 : x.length + (ps[i].length + 10 + blkl (ps.drop (i + 1))) ≤ 140737488355327 := hx
    have hs := sf_len10 (n := ps[i].length) (by omega)
    refine Evn.succ (fun _ => rfl) ?_
    simp only [cursor_PutTexts.l0]
    refine Evn.pos (by omega) (Evn.pos (by omega) (Evn.pos (by rw [List.length_map]; omega) ?_))
    rw [rdOf_str ps i hi', str_size, u64n _ (by omega), bytesOf_str (hb _ (List.getElem_mem hi'))]
    refine Evn.bind (short_e ps[i].length (by omega) x (by omega)) (Evn.pos (by rw [List.length_append]; omega) ?_)
    rw [wrap64_in (n := (i : Int) + 1) (by omega) (by omega), show (i : Int) + 1 = ((i + 1 : Nat) : Int) by omega]
    have := ih (i + 1) (x ++ sf ps[i].length ++ ps[i]) (by omega) (by simp only [List.length_append]; omega)
    have e : x ++ blks (ps[i] :: ps.drop (i + 1)) = x ++ sf ps[i].length ++ ps[i] ++ blks (ps.drop (i + 1)) := by simp only [blks, blkf, List.flatMap_cons, List.append_assoc]
    rw [e]
    exact this
theorem puttx_e (ps : List (List Int)) (hb : ∀ p ∈ ps, Bytes p) (x : List Int) (hx : x.length + 10 + blkl ps ≤ 140737488355327) (hl : ps.length < 140737488355328) : Evn (fun k => cursor_PutTexts.f k x (ps.map strOfNums)) (x ++ txf ps) := by
  unfold cursor_PutTexts.f
  rw [List.length_map, u64n _ (by omega)]
  have hs := sf_len10 (n := ps.length) (by omega)
  refine Evn.bind (putuv_e ps.length (by omega) x (by omega)) ?_
  have := puttx_l0 ps hb hl ps.length 0 (x ++ sf ps.length) (by omega) (by rw [List.length_append, List.drop_zero]; omega)
  rw [List.drop_zero] at this
  rw [txf, ← List.append_assoc]
  exact this
/-! ### whole numbers -/
theorem xor_ones (b : Nat) (hb : b < 2 ^ 64) : (2 ^ 64 - 1) ^^^ b = 2 ^ 64 - 1 - b := by
  apply Nat.eq_of_testBit_eq
  intro i
  rw [Nat.testBit_xor, Nat.testBit_two_pow_sub_one, show 2 ^ 64 - 1 - b = 2 ^ 64 - (b + 1) by omega, Nat.testBit_two_pow_sub_succ hb]
  by_cases hi : i < 64
  · simp [hi]
  · have : b.testBit i = false := Nat.testBit_lt_two_pow (Nat.lt_of_lt_of_le hb (Nat.pow_le_pow_right (by decide) (by omega)))
    simp [hi, this]
theorem xor_zero (x : Int) (h0 : -9223372036854775808 ≤ x) (h1 : x ≤ 9223372036854775807) : Go.bits .xor .i64 x 0 = x := by
  show IntKind.i64.wrap ((BitVec.ofInt 64 x ^^^ BitVec.ofInt 64 0).toNat : Int) = _
  rw [show BitVec.ofInt 64 0 = 0#64 by decide, BitVec.xor_zero, BitVec.toNat_ofInt, IntKind.wrap_i64]
  omega
theorem xor_neg (x : Int) (h0 : -9223372036854775808 ≤ x) (h1 : x ≤ 9223372036854775807) : Go.bits .xor .i64 x (-1) = -1 - x := by
  show IntKind.i64.wrap ((BitVec.ofInt 64 x ^^^ BitVec.ofInt 64 (-1)).toNat : Int) = _
  have e1 : (BitVec.ofInt 64 (-1)).toNat = 2 ^ 64 - 1 := by decide
  have e2 := (BitVec.ofInt 64 x).isLt
  rw [BitVec.toNat_xor, e1, Nat.xor_comm, xor_ones _ e2, IntKind.wrap_i64]
  have e3 : ((BitVec.ofInt 64 x).toNat : Int) = x % 18446744073709551616 := by rw [BitVec.toNat_ofInt]; omega
  omega
/-- A whole number's short form's number. -/
def foldV (v : Int) : Int := if 0 ≤ v then 2 * v else -2 * v - 1
theorem fold_eq (v : Int) (h0 : -9223372036854775808 ≤ v) (h1 : v ≤ 9223372036854775807) : IntKind.u64.wrap (Go.bits .xor .i64 (wrap64 (v * 2)) (v / 9223372036854775808)) = foldV v := by
  have hw : -9223372036854775808 ≤ wrap64 (v * 2) ∧ wrap64 (v * 2) ≤ 9223372036854775807 := by unfold wrap64; omega
  unfold foldV
  by_cases h : 0 ≤ v
  · rw [if_pos h, show v / 9223372036854775808 = 0 by omega, xor_zero _ hw.1 hw.2, IntKind.wrap_u64]
    unfold wrap64
    omega
  · rw [if_neg h, show v / 9223372036854775808 = -1 by omega, xor_neg _ hw.1 hw.2, IntKind.wrap_u64]
    unfold wrap64
    omega
theorem foldV_range (v : Int) (h0 : -9223372036854775808 ≤ v) (h1 : v ≤ 9223372036854775807) : 0 ≤ foldV v ∧ foldV v < 18446744073709551616 := by unfold foldV; split <;> omega
theorem and_one (x : Int) (h0 : 0 ≤ x) (h1 : x < 18446744073709551616) : Go.bits .and .u64 x 1 = x % 2 := by
  obtain ⟨n, rfl⟩ := Int.eq_ofNat_of_zero_le h0
  show IntKind.u64.wrap ((BitVec.ofInt 64 (n : Int) &&& BitVec.ofInt 64 1).toNat : Int) = _
  rw [BitVec.toNat_and, show (BitVec.ofInt 64 1).toNat = 1 by decide, Nat.and_one_is_mod, BitVec.ofInt_natCast, BitVec.toNat_ofNat, IntKind.wrap_u64]
  omega
theorem unf_eq (u : Int) (h0 : 0 ≤ u) (h1 : u < 18446744073709551616) : unfV u = if u % 2 = 0 then u / 2 else -1 - u / 2 := by
  unfold unfV
  rw [and_one u h0 h1, wrap64_in (n := u / 2) (by omega) (by omega), wrap64_in (n := u % 2) (by omega) (by omega), wrap64_in (by omega) (by omega)]
  by_cases h : u % 2 = 0
  · rw [if_pos h, h, show -(0 : Int) = 0 from rfl, xor_zero _ (by omega) (by omega)]
  · rw [if_neg h, show u % 2 = 1 by omega, xor_neg _ (by omega) (by omega)]
theorem unf_range (u : Int) (h0 : 0 ≤ u) (h1 : u < 18446744073709551616) : -9223372036854775808 ≤ unfV u ∧ unfV u ≤ 9223372036854775807 := by rw [unf_eq u h0 h1]; split <;> omega
theorem fold_unf (u : Int) (h0 : 0 ≤ u) (h1 : u < 18446744073709551616) : foldV (unfV u) = u := by
  rw [unf_eq u h0 h1]
  unfold foldV
  split <;> split <;> omega
theorem unf_fold (v : Int) (h0 : -9223372036854775808 ≤ v) (h1 : v ≤ 9223372036854775807) : unfV (foldV v) = v := by
  have h := foldV_range v h0 h1
  rw [unf_eq _ h.1 h.2]
  unfold foldV
  split <;> split <;> omega
theorem putvi_e (v : Int) (h0 : -9223372036854775808 ≤ v) (h1 : v ≤ 9223372036854775807) (x : List Int) (hx : x.length + 10 ≤ 140737488355328) : Evn (fun k => cursor_PutVarint.f k x v) (x ++ sf (foldV v).toNat) := by
  unfold cursor_PutVarint.f
  rw [fold_eq v h0 h1]
  have h := foldV_range v h0 h1
  have := putuv_e (foldV v).toNat (by omega) x hx
  rw [Int.toNat_of_nonneg h.1] at this
  exact Evn.bind this (Evn.now _)
end Go.Proofs.Ythpoomdillhcbaa.Pa
