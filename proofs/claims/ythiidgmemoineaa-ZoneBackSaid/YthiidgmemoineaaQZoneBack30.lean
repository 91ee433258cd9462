/- The texts of ZoneBack, merged: part 30. -/
import Derived.Test.YthiidgmemoineaaQZoneBack29
import Derived.Test.YthiidgmemoineaaQZoneBack9
/- Forms, plainly: what readings take is just what the Puts write. -/
namespace Go.Proofs.Ythiidgmemoineaa.Pa
open Go.RowKit Go.Proofs.YthiidgmemoineaaW.PrintWords Go.Proofs.YthiidgmemoineaaW.PrintLast Go.Proofs.YthiidgmemoineaaW.PrintMore Go.Proofs.Ythiidgmemoineaa.L
set_option linter.unusedVariables false
set_option linter.unusedSimpArgs false
/-! ### short forms -/
theorem andNot128_all : ∀ a : Nat, a < 256 → Go.bits .andNot .u8 (a : Int) 128 = ((a % 128 : Nat) : Int) := by decide +kernel
theorem numV_nat (v m i : Nat) (hv : v < 18446744073709551616) (hm : m < 256) (hi : (m % 128) * 2 ^ (7 * i) < 18446744073709551616) : numV (v : Int) (m : Int) i = ((v ||| (m % 128) * 2 ^ (7 * i) : Nat) : Int) := by
 unfold numV
 rw [andNot128_all m hm, u64_in (n := ((m % 128 : Nat) : Int)) (by omega) (by omega)]
 have e : (((m % 128 : Nat) : Int) * 2 ^ (7 * i)) = (((m % 128) * 2 ^ (7 * i) : Nat) : Int) := by push_cast; rfl
 rw [e, u64_in (by omega) (by omega)]
 exact bits_or_u64_nat v _ hv hi
theorem numV_add (v m i : Nat) (hi : i ≤ 9) (hv : v < 2 ^ (7 * i)) (hm : m < 256) (h9 : i = 9 → m % 128 ≤ 1) : numV (v : Int) (m : Int) i = ((v + (m % 128) * 2 ^ (7 * i) : Nat) : Int) := by
 have hp : v < 18446744073709551616 := Nat.lt_of_lt_of_le hv (by
  have : 2 ^ (7 * i) ≤ 2 ^ 63 := Nat.pow_le_pow_right (by omega) (by omega)
  omega)
 have hq : (m % 128) * 2 ^ (7 * i) < 18446744073709551616 := by
  rcases Nat.lt_or_ge i 9 with h | h
  ·have h1 : 2 ^ (7 * i) ≤ 72057594037927936 := by
    have : 2 ^ (7 * i) ≤ 2 ^ 56 := Nat.pow_le_pow_right (by omega) (by omega)
    omega
   have h2 := Nat.mul_le_mul_left (m % 128) h1
   have h3 := Nat.mod_lt m (show 0 < 128 by omega)
   omega
  ·obtain rfl : i = 9 := by omega
   have := h9 rfl
   rw [show (2 ^ (7 * 9) : Nat) = 9223372036854775808 by decide]
   omega
 rw [numV_nat v m i hp hm hq, Nat.mul_comm (m % 128), Nat.or_comm, ← Nat.two_pow_add_eq_or_of_lt (i := 7 * i) (b := v) hv (m % 128), Nat.add_comm]
theorem pow7s (i : Nat) : 2 ^ (7 * (i + 1)) = 2 ^ (7 * i) * 128 := by rw [Nat.mul_add, Nat.pow_add]
theorem numF_form : ∀ (l : List Int) (i v : Nat) (x : Int) (rest : List Int), i ≤ 9 → v < 2 ^ (7 * i) → Bytes l → numF l i (v : Int) = .inr (x, rest) → ∃ m : Nat, x = ((v + m * 2 ^ (7 * i) : Nat) : Int) ∧ l = sf m ++ rest ∧ (0 < m ∨ i = 0)
 | [], _, _, _, _, _, _, _, h => by simp [numF] at h
 | c :: l, i, v, x, rest, hi, hv, hb, h => by
  have hc := hb c (by simp)
  obtain ⟨m, rfl⟩ := Int.eq_ofNat_of_zero_le hc.1
  rw [numF] at h
  split at h
  ·rename_i hg
   split at h
   ·rename_i hlt
    split at h
    ·rename_i hp
     injection h with h
     injection h with h1 h2
     subst h2
     rw [numV_add v m i hi hv (by omega) (by omega)] at h1
     refine ⟨m, ?_, ?_, by omega⟩
     ·rw [← h1, Nat.mod_eq_of_lt (by omega)]
     ·rw [sf_lo (by omega)]; rfl
    ·cases h
   ·rename_i hge
    have hi9 : i < 9 := by omega
    rw [numV_add v m i hi hv (by omega) (by omega)] at h
    have hle := Nat.mul_le_mul_right (2 ^ (7 * i)) (show m % 128 ≤ 127 by omega)
    obtain ⟨m', e1, e2, e3⟩ := numF_form l (i + 1) _ x rest (by omega) (by rw [pow7s]; omega) (fun y hy => hb y (by simp [hy])) h
    refine ⟨m % 128 + 128 * m', ?_, ?_, by omega⟩
    ·rw [e1, pow7s]
     congr 1
     rw [Nat.add_mul, Nat.mul_comm (2 ^ (7 * i)) 128, ← Nat.mul_assoc, Nat.mul_comm m' 128]
     omega
    ·rw [sf_hi (by omega), show (m % 128 + 128 * m') % 128 + 128 = m by omega, show (m % 128 + 128 * m') / 128 = m' by omega, e2]
     rfl
  ·cases h
theorem numF_of (m : Nat) : ∀ (i v : Nat) (rest : List Int), i ≤ 9 → v < 2 ^ (7 * i) → v + m * 2 ^ (7 * i) < 18446744073709551616 → (0 < m ∨ i = 0) → numF (sf m ++ rest) i (v : Int) = .inr (((v + m * 2 ^ (7 * i) : Nat) : Int), rest) := by
 induction m using Nat.strongRecOn with
 | ind m ih =>
  intro i v rest hi hv hlt h0
  have h9 : i = 9 → m ≤ 1 := by
   intro e
   subst e
   rw [show (2 ^ (7 * 9) : Nat) = 9223372036854775808 by decide] at hlt
   omega
  by_cases h : m < 128
  ·rw [sf_lo h]
   show numF ((m : Int) :: rest) i _ = _
   rw [numF, if_pos (by omega), if_pos (by omega), if_pos (by omega), numV_add v m i hi hv (by omega) (by omega), Nat.mod_eq_of_lt h]
  ·have hi9 : i < 9 := by omega
   have hle := Nat.mul_le_mul_right (2 ^ (7 * i)) (show m % 128 ≤ 127 by omega)
   have hm : (m % 128) * 2 ^ (7 * i) + (m / 128) * 2 ^ (7 * (i + 1)) = m * 2 ^ (7 * i) := by
    rw [pow7s, Nat.mul_comm (2 ^ (7 * i)) 128, ← Nat.mul_assoc, ← Nat.add_mul]
    congr 1
    omega
   rw [sf_hi h]
   show numF (((m % 128 + 128 : Nat) : Int) :: (sf (m / 128) ++ rest)) i _ = _
   rw [numF, if_pos (by omega), if_neg (by omega), numV_add v _ i hi hv (by omega) (by omega), show (m % 128 + 128) % 128 = m % 128 by omega, ih (m / 128) (by omega) (i + 1) _ rest (by omega) (by rw [pow7s]; omega) (by omega) (by omega)]
   congr 3
   omega
theorem numF_back {l rest : List Int} {x : Int} (hb : Bytes l) (h : numF l 0 0 = .inr (x, rest)) : 0 ≤ x ∧ x < 18446744073709551616 ∧ l = sf x.toNat ++ rest := by
 obtain ⟨m, e, e2, _⟩ := numF_form l 0 0 x rest (by omega) (by simp) hb h
 obtain ⟨_, h0, h1⟩ := numF_rest _ _ _ _ _ h
 refine ⟨h0, h1, ?_⟩
 rw [e2, e]
 simp
theorem numF_sf (n : Nat) (hn : n < 18446744073709551616) (rest : List Int) : numF (sf n ++ rest) 0 0 = .inr ((n : Int), rest) := by
 have := numF_of n 0 0 rest (by omega) (by simp) (by simpa using hn) (.inr rfl)
 simpa using this
theorem numF_err : ∀ (l : List Int) (i : Nat) (v n : Int), numF l i v = .inl n → n = 70 ∨ n = 71
 | [], _, _, n, h => by simp [numF] at h; omega
 | c :: l, i, v, n, h => by
  rw [numF] at h
  split at h
  ·split at h
   ·split at h
    ·cases h
    ·injection h with h; omega
   ·exact numF_err l _ _ n h
  ·injection h with h; omega
/-! ### blocks, texts -/
def blkf (p : List Int) : List Int := sf p.length ++ p
theorem blockF_back {l p rest : List Int} {most : Int} (hb : Bytes l) (h : blockF l most = .inr (p, rest)) : l = blkf p ++ rest ∧ (p.length : Int) ≤ most ∧ p.length < 18446744073709551616 := by
 rcases hv : numF l 0 0 with n | ⟨v, r1⟩
 ·rw [blockF, hv] at h; cases h
 ·rw [blockF, hv] at h
  dsimp only at h
  obtain ⟨h0, h1, e⟩ := numF_back hb hv
  split at h
  ·split at h
   ·injection h with h
    injection h with e1 e2
    subst e1
    subst e2
    have hl : (r1.take v.toNat).length = v.toNat := by rw [List.length_take]; omega
    refine ⟨?_, by omega, by omega⟩
    rw [blkf, hl, List.append_assoc, List.take_append_drop, e]
   ·cases h
  ·cases h
theorem blockF_of (p rest : List Int) (most : Int) (hp : (p.length : Int) ≤ most) (h64 : p.length < 18446744073709551616) : blockF (blkf p ++ rest) most = .inr (p, rest) := by
 unfold blockF blkf
 rw [List.append_assoc, numF_sf _ h64]
 dsimp only
 rw [if_pos hp, if_pos (by simp; omega), Int.toNat_natCast, List.take_left, List.drop_left]
theorem blockF_err {l : List Int} {m n : Int} (h : blockF l m = .inl n) : n = 70 ∨ n = 71 := by
 rcases hv : numF l 0 0 with n1 | ⟨v, r1⟩
 ·rw [blockF, hv] at h
  injection h with h
  subst h
  exact numF_err _ _ _ _ hv
 ·rw [blockF, hv] at h
  dsimp only at h
  split at h
  ·split at h
   ·cases h
   ·injection h with h; omega
  ·injection h with h; omega
def blks (ps : List (List Int)) : List Int := ps.flatMap blkf
theorem txsF_back : ∀ (n : Nat) (l : List Int) (each : Int) (acc ps : List (List Int)) (rest : List Int), Bytes l → txsF n l each acc = .inr (ps, rest) → ∃ qs, ps = acc ++ qs ∧ qs.length = n ∧ l = blks qs ++ rest ∧ (∀ q ∈ qs, (q.length : Int) ≤ each ∧ Bytes q)
 | 0, l, each, acc, ps, rest, hb, h => by
  rw [txsF] at h
  injection h with h
  injection h with e1 e2
  subst e1
  subst e2
  exact ⟨[], by simp, rfl, rfl, by simp⟩
 | n + 1, l, each, acc, ps, rest, hb, h => by
  rw [txsF] at h
  rcases hq : blockF l each with e | ⟨p, r⟩
  ·rw [hq] at h; cases h
  ·rw [hq] at h
   dsimp only at h
   obtain ⟨e1, hp, _⟩ := blockF_back hb hq
   have hbr : Bytes r := fun y hy => hb y (by rw [e1]; simp [hy])
   have hbp : Bytes p := fun y hy => hb y (by rw [e1, blkf]; simp [hy])
   obtain ⟨qs, e2, e3, e4, e5⟩ := txsF_back n r each _ ps rest hbr h
   refine ⟨p :: qs, by rw [e2]; simp, by simp [e3], ?_, ?_⟩
   ·rw [e1, e4]; simp [blks]
   ·intro q hq
    rcases List.mem_cons.1 hq with rfl | hq
    ·exact ⟨hp, hbp⟩
    ·exact e5 q hq
theorem txsF_of : ∀ (qs : List (List Int)) (each : Int) (acc : List (List Int)) (rest : List Int), (∀ q ∈ qs, (q.length : Int) ≤ each ∧ q.length < 18446744073709551616) → txsF qs.length (blks qs ++ rest) each acc = .inr (acc ++ qs, rest)
 | [], each, acc, rest, h => by simp [txsF, blks]
 | q :: qs, each, acc, rest, h => by
  have hq := h q (by simp)
  rw [List.length_cons, txsF, show blks (q :: qs) ++ rest = blkf q ++ (blks qs ++ rest) by simp [blks], blockF_of q _ each hq.1 hq.2]
  dsimp only
  rw [txsF_of qs each _ rest (fun x hx => h x (by simp [hx]))]
  simp
theorem txsF_err : ∀ (n : Nat) (l : List Int) (each : Int) (acc : List (List Int)) (e : Int), txsF n l each acc = .inl e → e = 70 ∨ e = 71
 | 0, l, each, acc, e, h => by rw [txsF] at h; cases h
 | n + 1, l, each, acc, e, h => by
  rw [txsF] at h
  rcases hq : blockF l each with e1 | ⟨p, r⟩
  ·rw [hq] at h
   injection h with h
   subst h
   exact blockF_err hq
  ·rw [hq] at h
   exact txsF_err n r each _ e h
def txf (ps : List (List Int)) : List Int := sf ps.length ++ blks ps
theorem textsF_back {l rest : List Int} {ps : List (List Int)} {most each : Int} (hb : Bytes l) (h : textsF l most each = .inr (ps, rest)) : l = txf ps ++ rest ∧ ps.length < 18446744073709551616 ∧ (ps.length : Int) ≤ most ∧ ∀ q ∈ ps, (q.length : Int) ≤ each ∧ Bytes q := by
 unfold textsF at h
 split at h
 ·cases h
 ·rcases hv : numF l 0 0 with n | ⟨v, r1⟩
  ·rw [hv] at h; cases h
  ·rw [hv] at h
   dsimp only at h
   obtain ⟨h0, h1, e⟩ := numF_back hb hv
   split at h
   ·obtain ⟨qs, e2, e3, e4, e5⟩ := txsF_back _ r1 each [] ps rest (fun y hy => hb y (by rw [e]; simp [hy])) h
    obtain rfl : ps = qs := by simpa using e2
    refine ⟨?_, by omega, by omega, e5⟩
    rw [e, e4, txf, e3]
    simp
   ·cases h
theorem textsF_of (ps : List (List Int)) (most each : Int) (rest : List Int) (hm : (ps.length : Int) ≤ most) (h64 : ps.length < 18446744073709551616) (he : 0 ≤ each) (h : ∀ q ∈ ps, (q.length : Int) ≤ each ∧ q.length < 18446744073709551616) : textsF (txf ps ++ rest) most each = .inr (ps, rest) := by
 unfold textsF txf
 rw [if_neg (by omega), List.append_assoc, numF_sf _ h64]
 dsimp only
 rw [if_pos hm, Int.toNat_natCast, txsF_of ps each [] rest h]
 simp
theorem textsF_err {l : List Int} {most each e : Int} (h : textsF l most each = .inl e) : e = 70 ∨ e = 71 ∨ e = 2 := by
 unfold textsF at h
 split at h
 ·injection h with h; omega
 ·rcases hv : numF l 0 0 with n | ⟨v, r1⟩
  ·rw [hv] at h
   injection h with h
   subst h
   have := numF_err _ _ _ _ hv
   omega
  ·rw [hv] at h
   dsimp only at h
   split at h
   ·have := txsF_err _ _ _ _ _ h
    omega
   ·injection h with h; omega
/-! ### numbers of a width -/
def le : Nat → Nat → List Int
 | 0, _ => []
 | n + 1, v => ((v % 256 : Nat) : Int) :: le n (v / 256)
def lv : List Int → Nat
 | [] => 0
 | c :: l => c.toNat + 256 * lv l
theorem le_length : ∀ n v, (le n v).length = n
 | 0, _ => rfl
 | n + 1, v => by rw [le, List.length_cons, le_length]
theorem le_bytes : ∀ n v, Bytes (le n v)
 | 0, _ => Bytes.nil
 | n + 1, v => fun x hx => by
  rw [le] at hx
  rcases List.mem_cons.1 hx with rfl | hx
  ·omega
  ·exact le_bytes n _ x hx
theorem le_lv : ∀ l : List Int, Bytes l → le l.length (lv l) = l
 | [], _ => rfl
 | c :: l, hb => by
  have hc := hb c (by simp)
  rw [List.length_cons, le, lv, show (c.toNat + 256 * lv l) / 256 = lv l by omega, le_lv l (fun y hy => hb y (by simp [hy]))]
  congr 1
  omega
theorem pow8s (i : Nat) : 2 ^ (8 * (i + 1)) = 2 ^ (8 * i) * 256 := by rw [Nat.mul_add, Nat.pow_add]
theorem lv_lt : ∀ l : List Int, Bytes l → lv l < 2 ^ (8 * l.length)
 | [], _ => by simp [lv]
 | c :: l, hb => by
  have hc := hb c (by simp)
  have := lv_lt l (fun y hy => hb y (by simp [hy]))
  rw [lv, List.length_cons, pow8s]
  omega
theorem lv_le : ∀ n v, v < 2 ^ (8 * n) → lv (le n v) = v
 | 0, v, h => by simp at h; subst h; rfl
 | n + 1, v, h => by
  rw [pow8s] at h
  rw [le, lv, lv_le n (v / 256) (by omega), Int.toNat_natCast]
  omega
theorem takV_lv : ∀ (l : List Int) (i u : Nat), Bytes l → i + l.length ≤ 8 → u < 2 ^ (8 * i) → takV l i (u : Int) = ((u + lv l * 2 ^ (8 * i) : Nat) : Int)
 | [], i, u, _, _, _ => by simp [takV, lv]
 | c :: l, i, u, hb, hi, hu => by
  have hc := hb c (by simp)
  obtain ⟨m, rfl⟩ := Int.eq_ofNat_of_zero_le hc.1
  rw [List.length_cons] at hi
  have hp : 2 ^ (8 * i) ≤ 72057594037927936 := by
   have : 2 ^ (8 * i) ≤ 2 ^ 56 := Nat.pow_le_pow_right (by omega) (by omega)
   omega
  have hq := Nat.mul_le_mul_left m hp
  have hle := Nat.mul_le_mul_right (2 ^ (8 * i)) (show m ≤ 255 by omega)
  rw [takV, u64_in (n := (m : Int)) (by omega) (by omega), show (m : Int) * 2 ^ (8 * i) = ((m * 2 ^ (8 * i) : Nat) : Int) by push_cast; rfl, u64_in (by omega) (by omega), bits_or_u64_nat u _ (by omega) (by omega),
   show u ||| m * 2 ^ (8 * i) = u + m * 2 ^ (8 * i) by rw [Nat.mul_comm m, Nat.or_comm, ← Nat.two_pow_add_eq_or_of_lt (i := 8 * i) (b := u) hu m, Nat.add_comm],
   takV_lv l (i + 1) _ (fun y hy => hb y (by simp [hy])) (by omega) (by rw [pow8s]; omega)]
  congr 1
  rw [lv, Int.toNat_natCast, pow8s, Nat.add_mul, Nat.mul_comm (2 ^ (8 * i)) 256, ← Nat.mul_assoc, Nat.mul_comm (lv l) 256]
  omega
end Go.Proofs.Ythiidgmemoineaa.Pa
