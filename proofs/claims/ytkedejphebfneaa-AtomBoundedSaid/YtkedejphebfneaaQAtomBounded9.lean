/- The texts of AtomBounded, merged: part 9. -/
import Derived.WalkKit
import Derived.Laws.BitsLemmas
import Derived.Laws.BytesArg
import Derived.Test.YtkedejphebfneaaQAtomBounded1
/-! Plain lemmas on numbers, short forms and byte lists: no program in sight. -/
namespace Go.Proofs.Ytkedejphebfneaa.L
set_option linter.unusedSimpArgs false
open Go.RowKit Go.Proofs.YtkedejphebfneaaW.PrintWords Go.Proofs.YtkedejphebfneaaW.PrintLast Go.Proofs.YtkedejphebfneaaW.PrintMore
/-! ### numbers -/
theorem wrap64_in {n : Int} (h0 : -9223372036854775808 ≤ n) (h1 : n ≤ 9223372036854775807) : wrap64 n = n := by
 unfold wrap64; omega
theorem u64_in {n : Int} (h0 : 0 ≤ n) (h1 : n < 18446744073709551616) : IntKind.u64.wrap n = n := by
 rw [IntKind.wrap_u64]; omega
theorem wf_u64 {a : Int} (h : (Lit.int .u64 a).wf = true) : 0 ≤ a ∧ a < 18446744073709551616 := by
 simp only [Lit.wf, IntKind.min, IntKind.max, IntKind.signed, IntKind.bits, Bool.and_eq_true, decide_eq_true_eq] at h
 simp at h
 omega
theorem wf_i64 {a : Int} (h : (Lit.int .i64 a).wf = true) : -9223372036854775808 ≤ a ∧ a ≤ 9223372036854775807 := by
 simp only [Lit.wf, IntKind.min, IntKind.max, IntKind.signed, IntKind.bits, Bool.and_eq_true, decide_eq_true_eq] at h
 simp at h
 omega
theorem wf_u8 {a : Int} (h : (Lit.int .u8 a).wf = true) : 0 ≤ a ∧ a < 256 := by
 simp only [Lit.wf, IntKind.min, IntKind.max, IntKind.signed, IntKind.bits, Bool.and_eq_true, decide_eq_true_eq] at h
 simp at h
 omega
theorem or128_all : ∀ a : Nat, a < 256 → Go.bits .or .u8 (a : Int) 128 = ((a % 128 + 128 : Nat) : Int) := by decide +kernel
theorem or128 {a : Int} (h0 : 0 ≤ a) (h1 : a < 256) : Go.bits .or .u8 a 128 = a % 128 + 128 := by
 obtain ⟨n, rfl⟩ := Int.eq_ofNat_of_zero_le h0
 rw [or128_all n (by omega)]
 omega
/-! ### the short form -/
def sf (n : Nat) : List Int := if n < 128 then [(n : Int)] else ((n % 128 + 128 : Nat) : Int) :: sf (n / 128)
 termination_by n
 decreasing_by omega
theorem sf_lo {n : Nat} (h : n < 128) : sf n = [(n : Int)] := by rw [sf, if_pos h]
theorem sf_hi {n : Nat} (h : ¬ n < 128) : sf n = ((n % 128 + 128 : Nat) : Int) :: sf (n / 128) := by rw [sf, if_neg h]
theorem sf_pos (n : Nat) : 0 < (sf n).length := by
 by_cases h : n < 128
 ·rw [sf_lo h]; simp
 ·rw [sf_hi h]; simp
theorem sf_len (k : Nat) : ∀ n, n < 128 ^ (k + 1) → (sf n).length ≤ k + 1 := by
 induction k with
 | zero => intro n h; rw [sf_lo (by omega)]; simp
 | succ k ih =>
  intro n h
  by_cases h1 : n < 128
  ·rw [sf_lo h1]; simp
  ·rw [sf_hi h1]
   have := ih (n / 128) (by rw [Nat.pow_succ] at h; exact Nat.div_lt_of_lt_mul (by rw [Nat.mul_comm]; exact h))
   simp only [List.length_cons]; omega
theorem sf_len10 {n : Nat} (h : n < 18446744073709551616) : (sf n).length ≤ 10 := sf_len 9 n (by
 have : (128 : Nat) ^ (9 + 1) = 1180591620717411303424 := by decide
 omega)
theorem lt_pow_sf (n : Nat) : n < 128 ^ (sf n).length := by
 induction n using sf.induct with
 | case1 n h => rw [sf_lo h]; simp; omega
 | case2 n h ih =>
  rw [sf_hi h, List.length_cons, Nat.pow_succ]
  have := Nat.div_add_mod n 128
  have h2 := Nat.mod_lt n (show 128 > 0 by omega)
  have h3 : n / 128 + 1 ≤ 128 ^ (sf (n / 128)).length := ih
  have h4 := Nat.mul_le_mul_right 128 h3
  omega
theorem sf_at (n : Nat) : ∀ i, i < (sf n).length → (sf n).getD i 0 = (((n / 128 ^ i) % 128 + (if i + 1 < (sf n).length then 128 else 0) : Nat) : Int) := by
 induction n using sf.induct with
 | case1 n h =>
  intro i hi
  rw [sf_lo h] at hi ⊢
  simp at hi
  subst hi
  simp
  omega
 | case2 n h ih =>
  intro i hi
  rw [sf_hi h] at hi ⊢
  cases i with
  | zero =>
   have := sf_pos (n / 128)
   simp only [List.length_cons]
   rw [if_pos (by omega)]
   simp
  | succ i =>
   simp only [List.length_cons] at hi
   have := ih i (by omega)
   rw [List.getD_cons_succ, this, Nat.div_div_eq_div_mul, Nat.pow_succ]
   simp only [List.length_cons]
   rw [show 128 * 128 ^ i = 128 ^ i * 128 from Nat.mul_comm _ _]
   congr 2
   by_cases hc : i + 1 < (sf (n / 128)).length
   ·rw [if_pos hc, if_pos (by omega)]
   ·rw [if_neg hc, if_neg (by omega)]
theorem sf_range (n : Nat) : ∀ x ∈ sf n, 0 ≤ x ∧ x < 256 := by
 induction n using sf.induct with
 | case1 n h => rw [sf_lo h]; intro x hx; simp at hx; omega
 | case2 n h ih =>
  rw [sf_hi h]; intro x hx
  rcases List.mem_cons.1 hx with rfl | hx
  ·omega
  ·exact ih x hx
theorem sf_prefix (m : Nat) : ∀ n, (∃ l, sf n = sf m ++ l) → m = n := by
 induction m using sf.induct with
 | case1 m h =>
  rintro n ⟨l, e⟩
  rw [sf_lo h] at e
  by_cases h2 : n < 128
  ·rw [sf_lo h2] at e; simp at e; omega
  ·rw [sf_hi h2] at e
   simp at e
   omega
 | case2 m h ih =>
  rintro n ⟨l, e⟩
  rw [sf_hi h] at e
  by_cases h2 : n < 128
  ·rw [sf_lo h2] at e; simp at e; omega
  ·rw [sf_hi h2] at e
   simp only [List.cons_append, List.cons.injEq] at e
   have := ih (n / 128) ⟨l, e.2⟩
   omega
/-! ### bytes -/
theorem ofNat_inj {a b : Int} (ha : 0 ≤ a ∧ a < 256) (hb : 0 ≤ b ∧ b < 256) (h : UInt8.ofNat a.toNat = UInt8.ofNat b.toNat) : a = b := by
 have := congrArg UInt8.toNat h
 simp [UInt8.toNat_ofNat'] at this
 omega
def Bytes (l : List Int) : Prop := ∀ x ∈ l, 0 ≤ x ∧ x < 256
theorem map_inj {a b : List Int} (ha : Bytes a) (hb : Bytes b) (h : (a.map fun n => UInt8.ofNat n.toNat) = b.map fun n => UInt8.ofNat n.toNat) : a = b := by
 induction a generalizing b with
 | nil => cases b with
  | nil => rfl
  | cons y b => simp at h
 | cons x a ih =>
  cases b with
  | nil => simp at h
  | cons y b =>
   simp only [List.map_cons, List.cons.injEq] at h
   rw [ofNat_inj (ha x (by simp)) (hb y (by simp)) h.1, ih (fun z hz => ha z (by simp [hz])) (fun z hz => hb z (by simp [hz])) h.2]
theorem str_inj {a b : List Int} (ha : Bytes a) (hb : Bytes b) (h : (strOfNums a).toList = (strOfNums b).toList) : a = b := by
 rw [ByteArray.toList_eq, ByteArray.toList_eq, strOfNums_data, strOfNums_data] at h
 exact map_inj ha hb h
theorem str_beq {a b : List Int} (ha : Bytes a) (hb : Bytes b) : ((strOfNums a).toList == (strOfNums b).toList) = (a == b) := by
 by_cases h : a = b
 ·subst h; simp
 ·rw [beq_eq_false_iff_ne.2 h, beq_eq_false_iff_ne]
  exact fun e => h (str_inj ha hb e)
theorem Bytes.take {l : List Int} (h : Bytes l) (n : Nat) : Bytes (l.take n) := fun x hx => h x (List.mem_of_mem_take hx)
theorem Bytes.drop {l : List Int} (h : Bytes l) (n : Nat) : Bytes (l.drop n) := fun x hx => h x (List.mem_of_mem_drop hx)
theorem Bytes.append {a b : List Int} (ha : Bytes a) (hb : Bytes b) : Bytes (a ++ b) := fun x hx => by
 rcases List.mem_append.1 hx with h | h
 ·exact ha x h
 ·exact hb x h
theorem Bytes.nil : Bytes [] := fun x hx => by simp at hx
/-! ### from some number of rounds on -/
def Evn {α : Type} (g : Nat → Option α) (r : α) : Prop := ∃ K, ∀ k, K ≤ k → g k = some r
namespace Evn
variable {α β : Type} {g g' : Nat → Option α} {r : α}
theorem now (r : α) : Evn (fun _ => some r) r := ⟨0, fun _ _ => rfl⟩
theorem ex (h : Evn g r) : ∃ k, g k = some r := by
 obtain ⟨K, hK⟩ := h
 exact ⟨K, hK K (Nat.le_refl _)⟩
theorem bind {f : Nat → Option α} {g : Nat → α → Option β} {a : α} {r : β} (hf : Evn f a) (hg : Evn (fun k => g k a) r) : Evn (fun k => (f k).bind (g k)) r := by
 obtain ⟨K, hK⟩ := hf
 obtain ⟨L, hL⟩ := hg
 exact ⟨max K L, fun k hk => by show (f k).bind (g k) = some r; rw [hK k (by omega)]; exact hL k (by omega)⟩
theorem bindc {f : Option α} {g : Nat → α → Option β} {a : α} {r : β} (hf : f = some a) (hg : Evn (fun k => g k a) r) : Evn (fun k => f.bind (g k)) r := by
 subst hf; exact hg
theorem succ (h : ∀ k, g (k + 1) = g' k) (hg : Evn g' r) : Evn g r := by
 obtain ⟨K, hK⟩ := hg
 refine ⟨K + 1, fun k hk => ?_⟩
 obtain ⟨m, rfl⟩ : ∃ m, k = m + 1 := ⟨k - 1, by omega⟩
 rw [h]
 exact hK m (by omega)
theorem congr (h : ∀ k, g k = g' k) (hg : Evn g' r) : Evn g r := by
 obtain ⟨K, hK⟩ := hg
 exact ⟨K, fun k hk => (h k).trans (hK k hk)⟩
theorem pos {c : Prop} [Decidable c] (hc : c) (h : Evn g r) : Evn (fun k => if c then g k else g' k) r := by
 simp only [if_pos hc]; exact h
theorem neg {c : Prop} [Decidable c] (hc : ¬ c) (h : Evn g' r) : Evn (fun k => if c then g k else g' k) r := by
 simp only [if_neg hc]; exact h
theorem uniq {r' : α} (h : Evn g r) (h' : Evn g r') : r = r' := by
 obtain ⟨K, hK⟩ := h
 obtain ⟨L, hL⟩ := h'
 have a := hK (max K L) (by omega)
 have b := hL (max K L) (by omega)
 rw [a] at b
 exact Option.some.inj b
end Evn
end Go.Proofs.Ytkedejphebfneaa.L
