/- The texts of ZoneSounds, merged: part 22. -/
import Derived.Test.YthiidgmemoineaaQZoneSounds21
import Derived.Test.YthiidgmemoineaaQZoneSounds14
import Derived.Test.YthiidgmemoineaaQZoneSounds7
/- Which filters' sizes may be: the program's and the document's answers are one. Plain: no program in sight. -/
namespace Go.Proofs.Ythiidgmemoineaa.V
open Go.RowKit Go.Proofs.Ythiidgmemoineaa.Pa Go.Proofs.Ythiidgmemoineaa.L Go.Proofs.Ythiidgmemoineaa.F Go.Proofs.YthiidgmemoineaaW.PrintWords Go.Proofs.YthiidgmemoineaaW.PrintLast Go.Proofs.YthiidgmemoineaaW.PrintMore
set_option linter.unusedVariables false
set_option linter.unusedSimpArgs false
def andN (a b : Nat) : Nat := ((a % 18446744073709551616) &&& (b % 18446744073709551616)) % 18446744073709551616
theorem and_n (a b : Nat) : Go.bits .and .u64 (a : Int) (b : Int) = ((andN a b : Nat) : Int) := by
  show IntKind.u64.wrap ((BitVec.ofInt 64 (a : Int) &&& BitVec.ofInt 64 (b : Int)).toNat : Int) = _
  rw [BitVec.toNat_and, BitVec.ofInt_natCast, BitVec.ofInt_natCast, BitVec.toNat_ofNat, BitVec.toNat_ofNat, IntKind.wrap_u64]
  unfold andN
  simp
theorem wr_n (a : Nat) : IntKind.u64.wrap (a : Int) = ((a % 18446744073709551616 : Nat) : Int) := by rw [IntKind.wrap_u64]; omega
theorem d2 (x : Nat) : (x : Int) / 2 = ((x / 2 : Nat) : Int) := by omega
theorem d4 (x : Nat) : (x : Int) / 4 = ((x / 4 : Nat) : Int) := by omega
theorem d16 (x : Nat) : (x : Int) / 16 = ((x / 16 : Nat) : Int) := by omega
theorem d256 (x : Nat) : (x : Int) / 256 = ((x / 256 : Nat) : Int) := by omega
theorem d65 (x : Nat) : (x : Int) / 65536 = ((x / 65536 : Nat) : Int) := by omega
theorem d32 (x : Nat) : (x : Int) / 4294967296 = ((x / 4294967296 : Nat) : Int) := by omega
theorem ad_n (x y : Nat) : (x : Int) + (y : Int) = ((x + y : Nat) : Int) := by omega
def pcA (n : Nat) : Nat := (andN (n / 2) 6148914691236517205 + andN n 6148914691236517205) % 18446744073709551616
def pcB (n : Nat) : Nat := (andN (n / 4) 3689348814741910323 + andN n 3689348814741910323) % 18446744073709551616
def pcC (n : Nat) : Nat := andN ((n / 16 + n) % 18446744073709551616) 1085102592571150095
def pcD (n : Nat) : Nat := (n + n / 256) % 18446744073709551616
def pcE (n : Nat) : Nat := (n + n / 65536) % 18446744073709551616
def pcF (n : Nat) : Nat := (n + n / 4294967296) % 18446744073709551616
/-- How many bits are set. -/
def pc (n : Nat) : Nat := pcF (pcE (pcD (pcC (pcB (pcA n))))) % 128
theorem pc_last (x : Nat) (h : x < 18446744073709551616) : Go.bits .and .i64 (wrap64 (x : Int)) 127 = ((x % 128 : Nat) : Int) := by
  show IntKind.i64.wrap ((BitVec.ofInt 64 (wrap64 (x : Int)) &&& BitVec.ofInt 64 127).toNat : Int) = _
  have e : (BitVec.ofInt 64 (wrap64 (x : Int))).toNat = x := by
    rw [BitVec.toNat_ofInt]
    unfold wrap64
    omega
  rw [BitVec.toNat_and, e, show (BitVec.ofInt 64 127).toNat = 2 ^ 7 - 1 by decide, Nat.and_two_pow_sub_one_eq_mod, IntKind.wrap_i64]
  omega
theorem ones_f (n : Nat) : bits_OnesCount64.f (n : Int) = some ((pc n : Nat) : Int) := by
  have m1 : (6148914691236517205 : Int) = ((6148914691236517205 : Nat) : Int) := rfl
  have m2 : (3689348814741910323 : Int) = ((3689348814741910323 : Nat) : Int) := rfl
  have m3 : (1085102592571150095 : Int) = ((1085102592571150095 : Nat) : Int) := rfl
  have hA : IntKind.u64.wrap ((Go.bits .and .u64 ((n : Int) / 2) 6148914691236517205) + (Go.bits .and .u64 (n : Int) 6148914691236517205)) = ((pcA n : Nat) : Int) := by
    rw [m1, d2, and_n, and_n, ad_n, wr_n]; rfl
  unfold bits_OnesCount64.f
  rw [hA]
  generalize hx : pcA n = x
  have hB : IntKind.u64.wrap ((Go.bits .and .u64 ((x : Int) / 4) 3689348814741910323) + (Go.bits .and .u64 (x : Int) 3689348814741910323)) = ((pcB x : Nat) : Int) := by
    rw [m2, d4, and_n, and_n, ad_n, wr_n]; rfl
  rw [hB]
  generalize hy : pcB x = y
  have hC : Go.bits .and .u64 (IntKind.u64.wrap ((y : Int) / 16 + (y : Int))) 1085102592571150095 = ((pcC y : Nat) : Int) := by
    rw [m3, d16, ad_n, wr_n, and_n]; rfl
  rw [hC]
  generalize hz : pcC y = z
  have hD : IntKind.u64.wrap ((z : Int) + (z : Int) / 256) = ((pcD z : Nat) : Int) := by rw [d256, ad_n, wr_n]; rfl
  rw [hD]
  generalize hu : pcD z = u
  have hE : IntKind.u64.wrap ((u : Int) + (u : Int) / 65536) = ((pcE u : Nat) : Int) := by rw [d65, ad_n, wr_n]; rfl
  rw [hE]
  generalize hv : pcE u = v
  have hF : IntKind.u64.wrap ((v : Int) + (v : Int) / 4294967296) = ((pcF v : Nat) : Int) := by rw [d32, ad_n, wr_n]; rfl
  rw [hF, pc_last _ (by unfold pcF; omega)]
  unfold pc
  rw [hx, hy, hz, hu, hv]
def sizes : List Nat := [8, 16, 32, 64, 128, 256, 512, 1024, 2048, 4096, 8192, 16384, 32768, 65536]
def pcChk (a b : Nat) : Bool := decide (256 * a + b < 8) || ((pc (256 * a + b) == 1) == sizes.contains (256 * a + b))
def pcRow (k : Nat) : Bool := (List.range 16).all fun a => (List.range 256).all fun b => pcChk (16 * k + a) b
theorem pc_r0 : pcRow 0 = true := by kernel_rfl
theorem pc_r1 : pcRow 1 = true := by kernel_rfl
theorem pc_r2 : pcRow 2 = true := by kernel_rfl
theorem pc_r3 : pcRow 3 = true := by kernel_rfl
theorem pc_r4 : pcRow 4 = true := by kernel_rfl
theorem pc_r5 : pcRow 5 = true := by kernel_rfl
theorem pc_r6 : pcRow 6 = true := by kernel_rfl
theorem pc_r7 : pcRow 7 = true := by kernel_rfl
theorem pc_r8 : pcRow 8 = true := by kernel_rfl
theorem pc_r9 : pcRow 9 = true := by kernel_rfl
theorem pc_r10 : pcRow 10 = true := by kernel_rfl
theorem pc_r11 : pcRow 11 = true := by kernel_rfl
theorem pc_r12 : pcRow 12 = true := by kernel_rfl
theorem pc_r13 : pcRow 13 = true := by kernel_rfl
theorem pc_r14 : pcRow 14 = true := by kernel_rfl
theorem pc_r15 : pcRow 15 = true := by kernel_rfl
theorem pc_row (k : Nat) (h : k < 16) : pcRow k = true := by
  match k, h with
  | 0, _ => exact pc_r0
  | 1, _ => exact pc_r1
  | 2, _ => exact pc_r2
  | 3, _ => exact pc_r3
  | 4, _ => exact pc_r4
  | 5, _ => exact pc_r5
  | 6, _ => exact pc_r6
  | 7, _ => exact pc_r7
  | 8, _ => exact pc_r8
  | 9, _ => exact pc_r9
  | 10, _ => exact pc_r10
  | 11, _ => exact pc_r11
  | 12, _ => exact pc_r12
  | 13, _ => exact pc_r13
  | 14, _ => exact pc_r14
  | 15, _ => exact pc_r15
  | n + 16, h => exact absurd h (by omega)
theorem pc_lo (a : Nat) (ha : a < 256) (b : Nat) (hb : b < 256) (h : 8 ≤ 256 * a + b) : (pc (256 * a + b) == 1) = sizes.contains (256 * a + b) := by
  have := List.all_eq_true.1 (List.all_eq_true.1 (pc_row (a / 16) (by omega)) (a % 16) (List.mem_range.2 (by omega))) b (List.mem_range.2 hb)
  rw [show 16 * (a / 16) + a % 16 = a by omega] at this
  unfold pcChk at this
  rw [show decide (256 * a + b < 8) = false by simp; omega, Bool.false_or] at this
  exact beq_iff_eq.1 this
theorem pc_hi : (pc 65536 == 1) = sizes.contains 65536 := by kernel_rfl
/-- May a filter have so many bytes? -/
def sizeS (n : Nat) : Bool := decide (n = 0) || sizes.contains n
theorem size_f (n : Nat) (hn : n < 9223372036854775808) : zone_size.f (n : Int) = some (sizeS n) := by
  unfold zone_size.f sizeS
  by_cases h0 : n = 0
  · subst h0; rfl
  rw [if_neg (by omega)]
  rw [show decide (n = 0) = false by simpa using h0, Bool.false_or]
  have hmem : sizes.contains n = true → 8 ≤ n ∧ n ≤ 65536 := by
    intro h
    simp [sizes] at h
    omega
  by_cases h8 : 8 ≤ n
  · rw [if_pos (by omega)]
    by_cases h9 : n ≤ 65536
    · rw [if_pos (by omega)]
      unfold bits_OnesCount.f
      rw [show IntKind.u64.wrap (n : Int) = (n : Int) by rw [wr_n]; omega, ones_f]
      simp only [Option.bind_some]
      congr 1
      have e : (((pc n : Nat) : Int) == 1) = (pc n == 1) := by
        rw [Bool.eq_iff_iff]; simp; omega
      rw [e]
      by_cases hh : n = 65536
      · subst hh; exact pc_hi
      · have := pc_lo (n / 256) (by omega) (n % 256) (by omega) (by omega)
        rwa [show 256 * (n / 256) + n % 256 = n by omega] at this
    · rw [if_neg (by omega)]
      cases q : sizes.contains n
      · rfl
      · exact absurd (hmem q).2 h9
  · rw [if_neg (by omega)]
    cases q : sizes.contains n
    · rfl
    · exact absurd (hmem q).1 h8
theorem rsize_f (n : Nat) : Evn (fun k => colonnaderef14_size.f k (n : Int)) (sizes.contains n) := by
  refine evn_of (fun k => colonnaderef14_size.mono _ _) 15 ?_
  unfold colonnaderef14_size.f
  have e : sizes.contains n = (decide (n = 8) || (decide (n = 16) || (decide (n = 32) || (decide (n = 64) || (decide (n = 128) || (decide (n = 256) || (decide (n = 512) || (decide (n = 1024) || (decide (n = 2048) || (decide (n = 4096) || (decide (n = 8192) || (decide (n = 16384) || (decide (n = 32768) || decide (n = 65536)))))))))))))) := by
    rw [Bool.eq_iff_iff]; simp [sizes]; done
  rw [e]
  have st : ∀ (k m : Nat), m ≤ 65536 → colonnaderef14_size.l0 (k + 1) (n : Int) (m : Int) = if n = m then some true else colonnaderef14_size.l0 k (n : Int) ((2 * m : Nat) : Int) := by
    intro k m hm
    rw [colonnaderef14_size.l0, if_pos (by omega), wrap64_in (by omega) (by omega)]
    by_cases h : n = m
    · rw [if_pos (by omega), if_pos h]
    · rw [if_neg (by omega), if_neg h]; rfl
  have s0 := st 14 8 (by omega)
  have s1 := st 13 16 (by omega)
  have s2 := st 12 32 (by omega)
  have s3 := st 11 64 (by omega)
  have s4 := st 10 128 (by omega)
  have s5 := st 9 256 (by omega)
  have s6 := st 8 512 (by omega)
  have s7 := st 7 1024 (by omega)
  have s8 := st 6 2048 (by omega)
  have s9 := st 5 4096 (by omega)
  have s10 := st 4 8192 (by omega)
  have s11 := st 3 16384 (by omega)
  have s12 := st 2 32768 (by omega)
  have s13 := st 1 65536 (by omega)
  have s14 : colonnaderef14_size.l0 1 (n : Int) ((2 * 65536 : Nat) : Int) = some false := by rw [colonnaderef14_size.l0, if_neg (by omega)]
  have sx : ∀ (c : Prop) [Decidable c] (b : Bool) (o : Option Bool), o = some b → (if c then some true else o) = some (decide c || b) := by
    intro c _ b o h
    by_cases hc : c <;> simp [hc, h]
  refine s0.trans (sx _ _ _ (s1.trans (sx _ _ _ (s2.trans (sx _ _ _ (s3.trans (sx _ _ _ (s4.trans (sx _ _ _ (s5.trans (sx _ _ _ (s6.trans (sx _ _ _ (s7.trans (sx _ _ _ (s8.trans (sx _ _ _ (s9.trans (sx _ _ _ (s10.trans (sx _ _ _ (s11.trans (sx _ _ _ (s12.trans (sx _ _ _ (s13.trans ?_))))))))))))))))))))))))))
  rw [s14]
  by_cases h : n = 65536 <;> simp [h]
end Go.Proofs.Ythiidgmemoineaa.V
