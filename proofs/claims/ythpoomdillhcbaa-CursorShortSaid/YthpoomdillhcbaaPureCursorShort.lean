/- CursorShort: of any two 64-bit numbers the short form says the number in as few groups as hold it, and neither form is the beginning of the other. No conditions. -/
import Derived.Test.YthpoomdillhcbaaPa4
import Derived.Test.YthpoomdillhcbaaL
namespace Go.Proofs.Ythpoomdillhcbaa.Pure
open Go.RowKit Go.Proofs.Ythpoomdillhcbaa.Pa Go.Proofs.Ythpoomdillhcbaa.L Go.Proofs.YthpoomdillhcbaaW.PrintWords Go.Proofs.YthpoomdillhcbaaW.PrintLast Go.Proofs.YthpoomdillhcbaaW.PrintMore

theorem short_l0 : ∀ (k : Nat) (x : List Int) (v : Nat), (sf v).length ≤ k → x.length + (sf v).length ≤ 140737488355328 → cursor_short.l0 k x (v : Int) = some (x ++ sf v) := by
  intro k
  induction k with
  | zero => intro x v h; have := sf_pos v; omega
  | succ k ih =>
    intro x v h hx
    by_cases hv : v < 128
    · rw [sf_lo hv] at h hx ⊢
      simp only [List.length_cons, List.length_nil] at hx
      simp only [cursor_short.l0]
      rw [if_neg (by omega), if_pos (by omega), show (v : Int) % 256 = v by omega]
    · rw [sf_hi hv] at h hx ⊢
      simp only [List.length_cons] at h hx
      simp only [cursor_short.l0]
      rw [if_pos (by omega), if_pos (by omega), or128 (by omega) (by omega), show (v : Int) / 128 = ((v / 128 : Nat) : Int) by omega, ih _ _ (by omega) (by simp; omega), show (v : Int) % 256 % 128 + 128 = ((v % 128 + 128 : Nat) : Int) by omega]
      simp
theorem put_uvarint (v : Nat) (hv : v < 18446744073709551616) (k : Nat) (hk : 10 ≤ k) : cursor_PutUvarint.f k ([] : List Int) (v : Int) = some (sf v) := by
  have := sf_len10 hv
  unfold cursor_PutUvarint.f bytes_Clone.f cursor_short.f
  rw [if_pos (by simp)]
  simp only [Option.bind_some]
  rw [short_l0 k [] v (by omega) (by simp; omega)]
  simp
/-- How many groups are to come. -/
def more (u : Nat) : Nat := if u = 0 then 0 else (sf u).length
theorem more_step {u : Nat} (h : u ≠ 0) : more u = 1 + more (u / 128) := by
  unfold more
  rw [if_neg h]
  by_cases h1 : u < 128
  · rw [sf_lo h1, if_pos (by omega)]; simp
  · rw [sf_hi h1, if_neg (by omega)]; simp; omega
theorem sf_more (v : Nat) : (sf v).length = 1 + more (v / 128) := by
  by_cases h : v < 128
  · rw [sf_lo h]; unfold more; rw [if_pos (by omega)]; simp
  · rw [sf_hi h]; unfold more; rw [if_neg (by omega)]; simp; omega
theorem sf_bytes (v : Nat) : Bytes (sf v) := sf_range v
/-- The second loop: what is summed up to group i is the number's lowest i groups. -/
theorem law_l1 (v w : Nat) (hv : v < 18446744073709551616) (d : Nat) : ∀ (k i : Nat), i + d = (sf v).length → d < k →
    colonnadelaw07_CursorShort.l1 k (v : Int) (w : Int) (sf v) (sf w) ((v % 128 ^ i : Nat) : Int) (i : Int) = some true := by
  have h10 := sf_len10 hv
  induction d with
  | zero =>
    intro k i hi hk
    obtain ⟨k, rfl⟩ : ∃ m, k = m + 1 := ⟨k - 1, by omega⟩
    obtain rfl : i = (sf v).length := by omega
    simp only [colonnadelaw07_CursorShort.l1]
    rw [if_neg (by omega), Nat.mod_eq_of_lt (lt_pow_sf v), if_pos rfl]
    have hmn : mn ((sf v).length : Int) ((sf w).length : Int) = ((min (sf v).length (sf w).length : Nat) : Int) := by unfold mn; omega
    rw [hmn, if_pos (by omega), if_pos (by omega), if_pos (by omega), Int.toNat_natCast, str_beq ((sf_bytes v).take _) ((sf_bytes w).take _)]
    congr 1
    by_cases e : v = w
    · subst e; simp
    · rw [show ((v : Int) == (w : Int)) = false from beq_eq_false_iff_ne.2 (by omega), beq_iff_eq, beq_eq_false_iff_ne]
      intro he
      apply e
      by_cases hl : (sf v).length ≤ (sf w).length
      · rw [Nat.min_eq_left hl, List.take_length] at he
        exact sf_prefix v w ⟨(sf w).drop (sf v).length, by have := List.take_append_drop (sf v).length (sf w); rw [← he] at this; exact this.symm⟩
      · rw [Nat.min_eq_right (by omega), List.take_length] at he
        exact (sf_prefix w v ⟨(sf v).drop (sf w).length, by have := List.take_append_drop (sf w).length (sf v); rw [he] at this; exact this.symm⟩).symm
  | succ d ih =>
    intro k i hi hk
    obtain ⟨k, rfl⟩ : ∃ m, k = m + 1 := ⟨k - 1, by omega⟩
    have hlt : i < (sf v).length := by omega
    simp only [colonnadelaw07_CursorShort.l1]
    have e7 : wrap64 (7 * (i : Int)) = 7 * (i : Int) := wrap64_in (by omega) (by omega)
    have e1 : wrap64 ((i : Int) + 1) = ((i + 1 : Nat) : Int) := by rw [wrap64_in (by omega) (by omega)]; omega
    rw [if_pos (by omega), if_pos (by omega), e7, u64_in (by omega) (by omega), if_pos (by omega), e1]
    have hrd : rd (sf v) (i : Int) = (((v / 128 ^ i) % 128 + (if i + 1 < (sf v).length then 128 else 0) : Nat) : Int) := by unfold rd; rw [Int.toNat_natCast]; exact sf_at v i hlt
    rw [hrd]
    clear hrd
    have hm := Nat.mod_lt (v / 128 ^ i) (show 128 > 0 by omega)
    have hc : (decide ((((v / 128 ^ i) % 128 + (if i + 1 < (sf v).length then 128 else 0) : Nat) : Int) ≥ 128)) = decide (((i + 1 : Nat) : Int) < ((sf v).length : Int)) := by
      by_cases h : i + 1 < (sf v).length
      · rw [if_pos h, decide_eq_true (by omega), decide_eq_true (by omega)]
      · rw [if_neg h, decide_eq_false (by omega), decide_eq_false (by omega)]
    rw [hc, if_neg (by simp)]
    have ht : Int.tmod (((v / 128 ^ i) % 128 + (if i + 1 < (sf v).length then 128 else 0) : Nat) : Int) 128 = (((v / 128 ^ i) % 128 : Nat) : Int) := by
      rw [Int.tmod_eq_emod_of_nonneg (by omega)]
      by_cases h : i + 1 < (sf v).length
      · rw [if_pos h]; omega
      · rw [if_neg h]; omega
    rw [ht]
    have hs : ((v / 128 ^ i) % 128) * 128 ^ i + v % 128 ^ i = v % 128 ^ (i + 1) := by
      rw [Nat.pow_succ, Nat.mod_mul, Nat.mul_comm, Nat.add_comm]
    have hle : v % 128 ^ (i + 1) ≤ v := Nat.mod_le _ _
    have hp : (2 : Int) ^ (7 * i) = ((128 ^ i : Nat) : Int) := by
      rw [show (128 : Nat) = 2 ^ 7 from rfl, ← Nat.pow_mul]; simp
    have hsh : shl .u64 (IntKind.u64.wrap (((v / 128 ^ i) % 128 : Nat) : Int)) (7 * (i : Int)) = ((((v / 128 ^ i) % 128) * 128 ^ i : Nat) : Int) := by
      rw [u64_in (n := (((v / 128 ^ i) % 128 : Nat) : Int)) (by omega) (by omega)]
      unfold shl
      rw [show (7 * (i : Int)).toNat = 7 * i by omega, Nat.min_eq_left (by show 7 * i ≤ 64; omega), hp, ← Int.natCast_mul]
      generalize ((v / 128 ^ i) % 128) * 128 ^ i = q at hs
      rw [u64_in (by omega) (by omega)]
    rw [hsh]
    have hi' := ih k (i + 1) (by omega) (by omega)
    rw [← hs] at hi'
    generalize ((v / 128 ^ i) % 128) * 128 ^ i = q at hs hi' ⊢
    rw [← Int.natCast_add, Nat.add_comm, u64_in (by omega) (by omega)]
    exact hi'
/-- The first loop: the groups are counted. -/
theorem law_l0 (v w : Nat) (hv : v < 18446744073709551616) (u : Nat) : ∀ (k g : Nat), g + more u = (sf v).length → more u + 20 ≤ k → u < 18446744073709551616 →
    colonnadelaw07_CursorShort.l0 k (v : Int) (w : Int) (sf v) (sf w) (g : Int) (u : Int) = some true := by
  have h10 := sf_len10 hv
  induction u using Nat.strongRecOn with
  | _ u ih =>
    intro k g hg hk hu
    obtain ⟨k, rfl⟩ : ∃ m, k = m + 1 := ⟨k - 1, by omega⟩
    by_cases h0 : u = 0
    · subst h0
      have : more 0 = 0 := rfl
      simp only [colonnadelaw07_CursorShort.l0]
      rw [if_neg (by omega), if_pos (by omega)]
      obtain ⟨k, rfl⟩ : ∃ m, k = m + 1 := ⟨k - 1, by omega⟩
      have hw := sf_pos w
      simp only [colonnadelaw07_CursorShort.j1]
      rw [show (((sf w).length : Int) == 0) = false from beq_eq_false_iff_ne.2 (by omega), if_neg (by simp)]
      have h := law_l1 v w hv (sf v).length k 0 (by omega) (by omega)
      rw [Nat.pow_zero, Nat.mod_one, show ((0 : Nat) : Int) = 0 from rfl] at h
      exact h
    · have hs := more_step h0
      simp only [colonnadelaw07_CursorShort.l0]
      rw [if_pos (by omega), wrap64_in (by omega) (by omega), show (u : Int) / 128 = ((u / 128 : Nat) : Int) by omega, show (g : Int) + 1 = ((g + 1 : Nat) : Int) by omega]
      exact ih (u / 128) (by omega) k (g + 1) (by omega) (by omega) (by omega)

theorem CursorShort : colonnadelaw07_CursorShort.Pure := by
  intro a b ha hb
  obtain ⟨ha0, ha1⟩ := wf_u64 ha
  obtain ⟨hb0, hb1⟩ := wf_u64 hb
  obtain ⟨v, rfl⟩ := Int.eq_ofNat_of_zero_le ha0
  obtain ⟨w, rfl⟩ := Int.eq_ofNat_of_zero_le hb0
  obtain ⟨K, hK⟩ : ∃ K : Nat, 100 ≤ K := ⟨100, Nat.le_refl _⟩
  refine ⟨K, ?_⟩
  unfold colonnadelaw07_CursorShort.f
  rw [put_uvarint v (by omega) K (by omega)]
  simp only [Option.bind_some]
  rw [put_uvarint w (by omega) K (by omega)]
  simp only [Option.bind_some]
  have h10 := sf_len10 (n := v) (by omega)
  have hm := sf_more v
  rw [show (v : Int) / 128 = ((v / 128 : Nat) : Int) by omega]
  have h := law_l0 v w (by omega) (v / 128) K 1 (by omega) (by omega) (by omega)
  rw [show ((1 : Nat) : Int) = 1 from rfl] at h
  exact h
end Go.Proofs.Ythpoomdillhcbaa.Pure
