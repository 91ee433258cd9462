/- The texts of ZoneOfs, merged: part 26. -/
import Derived.Test.YthiidgmemoineaaQZoneOfs25
import Derived.Test.YthiidgmemoineaaQZoneOfs10
/-! What Build comes to, the program's and the document's, in plain lists. -/
namespace Go.Proofs.Ythiidgmemoineaa.B
set_option linter.unusedSimpArgs false
set_option linter.unusedVariables false
open Go.RowKit Go.Proofs.Ythiidgmemoineaa.Pa Go.Proofs.Ythiidgmemoineaa.L Go.Proofs.YthiidgmemoineaaW.PrintWords Go.Proofs.YthiidgmemoineaaW.PrintLast Go.Proofs.YthiidgmemoineaaW.PrintMore
theorem build_l1 {n : Nat} (h : Fit n) (l : List S28) (i : Int) (ps : List Int) (hp : ∀ p ∈ ps, 0 ≤ p ∧ p < 8 * n) (hl : ps.length = 4) (R : List Int × Int) : ∀ (d j : Nat) (b : List Int), j + d = ps.length → b.length = n →
    Evn (fun k => bloom_Build.l0 k (n : Int) ((ps.drop j).foldl put b) l (l.length : Int) (wrap64 (i + 1))) R →
    Evn (fun k => bloom_Build.l1 k (n : Int) b l (l.length : Int) i ps (ps.length : Int) (j : Int)) R := by
  intro d
  induction d with
  | zero =>
    intro j b e hb hR
    refine Evn.succ (fun _ => rfl) ?_
    simp only [bloom_Build.l1]
    refine Evn.neg (by omega) ?_
    rw [List.drop_of_length_le (by omega)] at hR
    exact hR
  | succ d ih =>
    intro j b e hb hR
    refine Evn.succ (fun _ => rfl) ?_
    simp only [bloom_Build.l1]
    have hj : j < ps.length := by omega
    have hq := hp ps[j] (List.getElem_mem hj)
    have hn := h.2.1
    have hd := div8 hq.1 hq.2 hn
    rw [rd_nat, getD_lt hj, w1 (by omega)]
    refine Evn.pos (by omega) (Evn.pos (by omega) (Evn.pos (by omega) (Evn.pos (by omega) (Evn.pos (by omega) (Evn.pos (by omega) ?_)))))
    refine ih (j + 1) _ (by omega) (by simp [hb]) ?_
    rw [List.drop_eq_getElem_cons hj] at hR
    exact hR
theorem build_l0 {n : Nat} (h : Fit n) (h8 : Fit8 n) (l : List S28) (hl : l.length < 9223372036854775807) (hc : ∀ v ∈ l, Cnt v ∧ v.f3.size ≤ 140737488351232) : ∀ (d j : Nat) (b : List Int), j + d = l.length → b.length = n →
    Evn (fun k => bloom_Build.l0 k (n : Int) b l (l.length : Int) (j : Int)) (bld n (l.drop j) b, 0) := by
  intro d
  induction d with
  | zero =>
    intro j b e hb
    refine Evn.succ (fun _ => rfl) ?_
    simp only [bloom_Build.l0]
    refine Evn.neg (by omega) ?_
    rw [List.drop_of_length_le (by omega)]
    exact Evn.now _
  | succ d ih =>
    intro j b e hb
    refine Evn.succ (fun _ => rfl) ?_
    simp only [bloom_Build.l0]
    have hj : j < l.length := by omega
    have hv := hc l[j] (List.getElem_mem hj)
    rw [rd_T_nat, getD_lt hj]
    refine Evn.pos (by omega) (Evn.pos (by omega) (Evn.pos (by omega) ?_))
    refine Evn.bind (counts hv.1) (Evn.pos (by trivial) ?_)
    refine Evn.bind (places_f h h8 _ hv.2) ?_
    refine build_l1 h l j _ (pls_range h _) (pls_len _ _) _ 4 0 b rfl hb ?_
    rw [List.drop_zero, w1 (by omega), List.drop_eq_getElem_cons hj]
    exact ih (j + 1) _ (by omega) (by rw [puts_len, hb])
/-- What Build answers. -/
theorem build {n : Nat} (h : Fit n) (h8 : Fit8 n) (l : List S28) (hl : l.length < 9223372036854775807) (hc : ∀ v ∈ l, Cnt v ∧ v.f3.size ≤ 140737488351232) :
    Evn (fun k => bloom_Build.f k (n : Int) l) (bld n l (List.replicate n 0), 0) := by
  have h2 := h.2.1
  unfold bloom_Build.f
  simp only [fit_f h, Option.bind_some]
  refine Evn.pos (by trivial) (Evn.pos (by omega) (Evn.pos (by omega) ?_))
  rw [Int.toNat_natCast]
  exact build_l0 h h8 l hl hc l.length 0 _ (by omega) (by simp)
/-! ### bits -/
theorem shl1 : ∀ r : Nat, r < 8 → shl .u8 1 (r : Int) = ((2 ^ r : Nat) : Int) := by decide +kernel
theorem and1 : ∀ r : Nat, r < 8 → ∀ x : Nat, x < 256 → (!decide ((Go.bits .and .u8 (shr .u8 (x : Int) (r : Int)) 1) = 0)) = x.testBit r := by decide +kernel
theorem or8 (a b : Nat) (ha : a < 256) (hb : b < 256) : Go.bits .or .u8 (a : Int) (b : Int) = ((a ||| b : Nat) : Int) := by
  have hk : ∀ n : Int, 0 ≤ n → n < 2 ^ 8 → IntKind.u8.wrap n = n := by intro n h0 h1; simp only [IntKind.wrap, IntKind.bits, IntKind.signed]; simp; omega
  have := bits_nat .u8 8 (Nat.le_refl _) hk a b (by omega) (by omega)
  exact this.2
theorem bit_nat {b : List Int} (hb : Bytes b) (p : Nat) (hp : p < 8 * b.length) (hn : b.length ≤ 65536) : bit b (p : Int) = ((b.getD (p / 8) 0).toNat).testBit (p % 8) := by
  have hd := div8 (p := (p : Int)) (n := b.length) (by omega) (by omega) hn
  unfold bit
  rw [hd.1, hd.2, show (p : Int) / 8 = ((p / 8 : Nat) : Int) by omega, show (p : Int) % 8 = ((p % 8 : Nat) : Int) by omega, rd_nat, getD_lt (show p / 8 < b.length by omega)]
  have hx := hb _ (List.getElem_mem (show p / 8 < b.length by omega))
  generalize b[p / 8] = x at hx
  obtain ⟨a, rfl⟩ := Int.eq_ofNat_of_zero_le hx.1
  rw [Int.toNat_natCast]
  exact and1 _ (Nat.mod_lt _ (by omega)) a (by omega)
theorem getD_set {l : List Int} {i j : Nat} {x d : Int} (hi : i < l.length) : (l.set i x).getD j d = if i = j then x else l.getD j d := by
  simp only [List.getD_eq_getElem?_getD, List.getElem?_set, hi, if_true]
  split <;> simp
theorem put_eq {b : List Int} (p : Nat) (hp : p < 8 * b.length) (hn : b.length ≤ 65536) (hb : Bytes b) : put b (p : Int) = b.set (p / 8) ((((b.getD (p / 8) 0).toNat) ||| 2 ^ (p % 8) : Nat) : Int) := by
  have hd := div8 (p := (p : Int)) (n := b.length) (by omega) (by omega) hn
  unfold put
  rw [hd.1, hd.2, show (p : Int) / 8 = ((p / 8 : Nat) : Int) by omega, show (p : Int) % 8 = ((p % 8 : Nat) : Int) by omega, rd_nat, Int.toNat_natCast, shl1 _ (Nat.mod_lt _ (by omega)), getD_lt (show p / 8 < b.length by omega)]
  have hx := hb _ (List.getElem_mem (show p / 8 < b.length by omega))
  generalize b[p / 8] = x at hx
  obtain ⟨a, rfl⟩ := Int.eq_ofNat_of_zero_le hx.1
  rw [Int.toNat_natCast, or8 a _ (by omega) (by
    have : 2 ^ (p % 8) ≤ 2 ^ 7 := Nat.pow_le_pow_right (by omega) (by omega)
    omega)]
theorem or_lt {a b : Nat} (ha : a < 256) (hb : b < 256) : a ||| b < 256 := Nat.or_lt_two_pow (n := 8) ha hb
theorem put_bytes {b : List Int} (p : Nat) (hp : p < 8 * b.length) (hn : b.length ≤ 65536) (hb : Bytes b) : Bytes (put b (p : Int)) := by
  rw [put_eq p hp hn hb]
  intro x hx
  rcases List.mem_or_eq_of_mem_set hx with h | rfl
  · exact hb x h
  · have h1 : 2 ^ (p % 8) ≤ 2 ^ 7 := Nat.pow_le_pow_right (by omega) (by omega)
    have h2 := hb _ (List.getElem_mem (show p / 8 < b.length by omega))
    rw [getD_lt (show p / 8 < b.length by omega)]
    have := or_lt (a := (b[p / 8]).toNat) (b := 2 ^ (p % 8)) (by omega) (by omega)
    omega
theorem bit_put {b : List Int} (p q : Nat) (hp : p < 8 * b.length) (hq : q < 8 * b.length) (hn : b.length ≤ 65536) (hb : Bytes b) : bit (put b (p : Int)) (q : Int) = (bit b (q : Int) || decide (p = q)) := by
  rw [bit_nat (put_bytes p hp hn hb) q (by rw [put_len]; exact hq) (by rw [put_len]; exact hn), bit_nat hb q hq hn, put_eq p hp hn hb, getD_set (by omega)]
  by_cases e : p / 8 = q / 8
  · rw [if_pos e, Int.toNat_natCast, Nat.testBit_or, e, Nat.testBit_two_pow]
    congr 1
    exact decide_eq_decide.2 (by omega)
  · rw [if_neg e, decide_eq_false (by omega : ¬ p = q), Bool.or_false]
theorem puts_spec {n : Nat} (hn : n ≤ 65536) (ps : List Int) : ∀ b : List Int, b.length = n → Bytes b → (∀ p ∈ ps, 0 ≤ p ∧ p < 8 * n) →
    Bytes (ps.foldl put b) ∧ ∀ q : Int, 0 ≤ q → q < 8 * n → bit (ps.foldl put b) q = (bit b q || decide (q ∈ ps)) := by
  induction ps with
  | nil => intro b hb hB _; exact ⟨hB, fun q _ _ => by simp⟩
  | cons p ps ih =>
    intro b hb hB hp
    have h0 := hp p (by simp)
    obtain ⟨p, rfl⟩ := Int.eq_ofNat_of_zero_le h0.1
    have := ih (put b p) (by rw [put_len, hb]) (put_bytes p (by omega) (by omega) hB) (fun x hx => hp x (by simp [hx]))
    refine ⟨this.1, fun q hq0 hq1 => ?_⟩
    rw [List.foldl_cons, this.2 q hq0 hq1]
    obtain ⟨q, rfl⟩ := Int.eq_ofNat_of_zero_le hq0
    rw [bit_put p q (by omega) (by omega) (by omega) hB, Bool.or_assoc]
    congr 1
    by_cases e : p = q
    · subst e; simp
    · rw [decide_eq_false e, Bool.false_or]
      exact decide_eq_decide.2 (by simp only [List.mem_cons]; constructor
                                   · exact Or.inr
                                   · rintro (h | h)
                                     · omega
                                     · exact h)
theorem bld_spec {n : Nat} (h : Fit n) (l : List S28) : ∀ b : List Int, b.length = n → Bytes b →
    Bytes (bld n l b) ∧ ∀ q : Int, 0 ≤ q → q < 8 * n → bit (bld n l b) q = (bit b q || l.any fun v => decide (q ∈ pls v n)) := by
  induction l with
  | nil => intro b hb hB; exact ⟨hB, fun q _ _ => by simp [bld]⟩
  | cons v l ih =>
    intro b hb hB
    have hp := puts_spec h.2.1 (pls v n) b hb hB (pls_range h v)
    have := ih ((pls v n).foldl put b) (by rw [puts_len, hb]) hp.1
    refine ⟨this.1, fun q h0 h1 => ?_⟩
    show bit (bld n l _) q = _
    rw [this.2 q h0 h1, hp.2 q h0 h1, List.any_cons, Bool.or_assoc]
theorem zeros (n : Nat) : Bytes (List.replicate n 0) := fun x hx => by rw [(List.mem_replicate.1 hx).2]; omega
theorem bit_zeros {n : Nat} (hn : n ≤ 65536) (q : Int) (h0 : 0 ≤ q) (h1 : q < 8 * n) : bit (List.replicate n 0) q = false := by
  obtain ⟨q, rfl⟩ := Int.eq_ofNat_of_zero_le h0
  rw [bit_nat (zeros n) q (by simp; omega) (by simp; omega), getD_lt (by simp; omega)]
  simp
/-- The filter of a list. -/
def flt (n : Nat) (l : List S28) : List Int := bld n l (List.replicate n 0)
/-- What Build answers. -/
theorem buildf {n : Nat} (h : Fit n) (h8 : Fit8 n) (l : List S28) (hl : l.length < 9223372036854775807) (hc : ∀ v ∈ l, Cnt v ∧ v.f3.size ≤ 140737488351232) :
    Evn (fun k => bloom_Build.f k (n : Int) l) (flt n l, 0) := build h h8 l hl hc
theorem flt_len (n : Nat) (l : List S28) : (flt n l).length = n := by unfold flt; rw [bld_len]; simp
theorem flt_bytes {n : Nat} (h : Fit n) (l : List S28) : Bytes (flt n l) := (bld_spec h l _ (by simp) (zeros n)).1
theorem flt_bit {n : Nat} (h : Fit n) (l : List S28) (q : Int) (h0 : 0 ≤ q) (h1 : q < 8 * n) : bit (flt n l) q = l.any fun v => decide (q ∈ pls v n) := by
  have := (bld_spec h l _ (by simp) (zeros n)).2 q h0 h1
  unfold flt
  rw [this, bit_zeros h.2.1 q h0 h1, Bool.false_or]
/-- Bits say all. -/
theorem bits_ext {a b : List Int} (ha : Bytes a) (hb : Bytes b) (hl : a.length = b.length) (hn : a.length ≤ 65536) (h : ∀ q : Int, 0 ≤ q → q < 8 * a.length → bit a q = bit b q) : a = b := by
  apply List.ext_getElem hl
  intro i h1 h2
  have ra := ha _ (List.getElem_mem h1)
  have rb := hb _ (List.getElem_mem h2)
  have : (a[i]).toNat = (b[i]).toNat := by
    apply Nat.eq_of_testBit_eq
    intro j
    by_cases hj : j < 8
    · have := h ((8 * i + j : Nat) : Int) (by omega) (by omega)
      rw [bit_nat ha _ (by omega) hn, bit_nat hb _ (by omega) (by omega), show (8 * i + j) / 8 = i by omega, show (8 * i + j) % 8 = j by omega, getD_lt h1, getD_lt h2] at this
      exact this
    · have h256 : 256 ≤ 2 ^ j := by
        have : 2 ^ 8 ≤ 2 ^ j := Nat.pow_le_pow_right (by omega) (by omega)
        omega
      rw [Nat.testBit_lt_two_pow (by omega), Nat.testBit_lt_two_pow (by omega)]
  omega

/-! ### filters put together -/
/-- Two filters, put together. -/
def jn (a b : List Int) : List Int := List.zipWith (Go.bits .or .u8) a b
theorem jn_len {a b : List Int} (h : a.length = b.length) : (jn a b).length = a.length := by simp [jn, h]
theorem or8' {x y : Int} (hx : 0 ≤ x ∧ x < 256) (hy : 0 ≤ y ∧ y < 256) : Go.bits .or .u8 x y = ((x.toNat ||| y.toNat : Nat) : Int) := by
  obtain ⟨a, rfl⟩ := Int.eq_ofNat_of_zero_le hx.1
  obtain ⟨b, rfl⟩ := Int.eq_ofNat_of_zero_le hy.1
  exact or8 a b (by omega) (by omega)
theorem jn_bytes {a b : List Int} : Bytes (jn a b) := by
  intro x hx
  obtain ⟨i, hi, rfl⟩ := List.getElem_of_mem hx
  simp only [jn, List.getElem_zipWith]
  have := bits_lo_u8 .or a[i]! b[i]!
  exact ⟨bits_lo_u8 .or _ _, by have := bits_hi_u8 .or (a[i]'(by simp [jn] at hi; omega)) (b[i]'(by simp [jn] at hi; omega)); omega⟩
theorem bit_jn {a b : List Int} (ha : Bytes a) (hb : Bytes b) (hl : a.length = b.length) (hn : a.length ≤ 65536) (q : Int) (h0 : 0 ≤ q) (h1 : q < 8 * a.length) : bit (jn a b) q = (bit a q || bit b q) := by
  obtain ⟨q, rfl⟩ := Int.eq_ofNat_of_zero_le h0
  have hq : q / 8 < a.length := by omega
  have hq2 : q / 8 < b.length := by omega
  have hj := jn_len hl
  rw [bit_nat jn_bytes q (by omega) (by omega), bit_nat ha q (by omega) hn, bit_nat hb q (by omega) (by omega), getD_lt (by omega), getD_lt hq, getD_lt hq2]
  simp only [jn, List.getElem_zipWith]
  rw [or8' (ha _ (List.getElem_mem hq)) (hb _ (List.getElem_mem hq2)), Int.toNat_natCast, Nat.testBit_or]
/-! ### Build -/
open Classical in
/-- What Build answers of any size and values. -/
noncomputable def bres (x : Int) (l : List S28) : List Int × Int := if Sz x then (if ∀ v ∈ l, Cnt v then (flt x.toNat l, 0) else ([], 50)) else ([], 130)
open Classical in
theorem build_any0 {n : Nat} (h : Fit n) (h8 : Fit8 n) (l : List S28) (hl : l.length < 9223372036854775807) (hc : ∀ v ∈ l, Wd v) : ∀ (d j : Nat) (b : List Int), j + d = l.length → b.length = n →
    Evn (fun k => bloom_Build.l0 k (n : Int) b l (l.length : Int) (j : Int)) (if ∀ v ∈ l.drop j, Cnt v then (bld n (l.drop j) b, 0) else ([], 50)) := by
  intro d
  induction d with
  | zero =>
    intro j b e hb
    refine Evn.succ (fun _ => rfl) ?_
    simp only [bloom_Build.l0]
    refine Evn.neg (by omega) ?_
    rw [List.drop_of_length_le (by omega), if_pos (by simp)]
    exact Evn.now _
  | succ d ih =>
    intro j b e hb
    refine Evn.succ (fun _ => rfl) ?_
    simp only [bloom_Build.l0]
    have hj : j < l.length := by omega
    have hv := hc l[j] (List.getElem_mem hj)
    rw [rd_T_nat, getD_lt hj]
    refine Evn.pos (by omega) (Evn.pos (by omega) (Evn.pos (by omega) ?_))
    rw [List.drop_eq_getElem_cons hj]
    by_cases hcn : Cnt l[j]
    · refine Evn.bind (counts hcn) (Evn.pos (by trivial) ?_)
      refine Evn.bind (places_f h h8 _ (cnt_size hcn)) ?_
      refine build_l1 h l j _ (pls_range h _) (pls_len _ _) _ 4 0 b rfl hb ?_
      rw [List.drop_zero, w1 (by omega)]
      have := ih (j + 1) ((pls l[j] n).foldl put b) (by omega) (by rw [puts_len, hb])
      have e2 : (∀ v ∈ l[j] :: l.drop (j + 1), Cnt v) ↔ ∀ v ∈ l.drop (j + 1), Cnt v := by rw [List.forall_mem_cons]; exact ⟨fun h => h.2, fun h => ⟨hcn, h⟩⟩
      simp only [e2]
      exact this
    · refine Evn.bind (counts_no hcn) (Evn.neg (by decide) ?_)
      rw [if_neg (fun h => hcn (h _ List.mem_cons_self))]
      exact Evn.now _
theorem build_any (x : Int) (l : List S28) (hl : l.length < 9223372036854775807) (hc : ∀ v ∈ l, Wd v) : Evn (fun k => bloom_Build.f k x l) (bres x l) := by
  unfold bloom_Build.f bres
  simp only [fit_any, Option.bind_some]
  by_cases h : Sz x
  · rw [if_pos h]
    obtain ⟨n, rfl⟩ : ∃ n : Nat, x = n := by obtain ⟨i, _, _, h⟩ := h; exact ⟨_, h⟩
    obtain ⟨hf, h8⟩ := sz_fit h
    have h2 := hf.2.1
    refine Evn.pos (@decide_eq_true _ (_) h) (Evn.pos (by omega) (Evn.pos (by omega) ?_))
    rw [Int.toNat_natCast]
    exact build_any0 hf h8 l hl hc l.length 0 _ (by omega) (by simp)
  · rw [if_neg h]
    exact Evn.neg (by simp [h]) (Evn.now _)
/-! ### the document's Build -/
def setp (x : List Bool) (p : Int) : List Bool := x.set p.toNat true
theorem sets_len (ps : List Int) : ∀ x : List Bool, (ps.foldl setp x).length = x.length := by
  induction ps with
  | nil => intro b; rfl
  | cons p ps ih => intro b; rw [List.foldl_cons, ih, setp, List.length_set]
theorem sets_getD (m : Nat) (ps : List Int) : ∀ x : List Bool, x.length = m → (∀ p ∈ ps, 0 ≤ p ∧ p < m) → ∀ q : Nat, q < m → (ps.foldl setp x).getD q false = (x.getD q false || decide ((q : Int) ∈ ps)) := by
  induction ps with
  | nil => intro x _ _ q _; simp
  | cons p ps ih =>
    intro x hx hp q hq
    have h1 := hp p (by simp)
    rw [List.foldl_cons, ih _ (by rw [setp, List.length_set]; exact hx) (fun y hy => hp y (by simp [hy])) q hq]
    have e : (setp x p).getD q false = if p.toNat = q then true else x.getD q false := by
      unfold setp
      rw [List.getD_eq_getElem?_getD, List.getD_eq_getElem?_getD, List.getElem?_set]
      split
      · rw [if_pos (by omega)]; rfl
      · rfl
    rw [e, Bool.eq_iff_iff]
    by_cases h : p.toNat = q
    · have : p = q := by omega
      simp [h, this]
    · have : (q : Int) ≠ p := by omega
      simp [h, this]
def sbld (n : Nat) (l : List S28) (x : List Bool) : List Bool := l.foldl (fun b v => (pls v n).foldl setp b) x
theorem sbld_len (n : Nat) (l : List S28) : ∀ b, (sbld n l b).length = b.length := by
  induction l with
  | nil => intro b; rfl
  | cons v l ih => intro b; show (sbld n l _).length = _; rw [ih, sets_len]
theorem sbld_getD {n : Nat} (h : Fit n) (l : List S28) : ∀ x : List Bool, x.length = 8 * n → ∀ q : Nat, q < 8 * n → (sbld n l x).getD q false = (x.getD q false || l.any fun v => decide ((q : Int) ∈ pls v n)) := by
  induction l with
  | nil => intro x _ q _; simp [sbld]
  | cons v l ih =>
    intro x hx q hq
    show (sbld n l _).getD q false = _
    have hr := pls_range h v
    rw [ih _ (by rw [sets_len, hx]) q hq, sets_getD (8 * n) _ _ hx (fun p hp => by have := hr p hp; omega) q hq, List.any_cons, Bool.or_assoc]
theorem ref_l2 {n : Nat} (hn : n ≤ 65536) (l : List S28) (i : Int) (ps : List Int) (hp : ∀ p ∈ ps, 0 ≤ p ∧ p < 8 * n) (hl : ps.length = 4) (R : List Int × Int) : ∀ (d j : Nat) (b : List Bool), j + d = ps.length → b.length = 8 * n →
    Evn (fun k => colonnaderef13_Build.l1 k (n : Int) l ((ps.drop j).foldl setp b) (wrap64 (i + 1))) R →
    Evn (fun k => colonnaderef13_Build.l2 k (n : Int) l b i ps (j : Int)) R := by
  intro d
  induction d with
  | zero =>
    intro j b e hb hR
    refine Evn.succ (fun _ => rfl) ?_
    simp only [colonnaderef13_Build.l2]
    refine Evn.neg (by omega) ?_
    rw [List.drop_of_length_le (by omega)] at hR
    exact hR
  | succ d ih =>
    intro j b e hb hR
    refine Evn.succ (fun _ => rfl) ?_
    simp only [colonnaderef13_Build.l2]
    have hj : j < ps.length := by omega
    have hq := hp ps[j] (List.getElem_mem hj)
    rw [rd_nat, getD_lt hj, w1 (by omega)]
    refine Evn.pos (by omega) (Evn.pos (by omega) (Evn.pos (by omega) (Evn.pos (by omega) ?_)))
    refine ih (j + 1) _ (by omega) (by simp [hb]) ?_
    rw [List.drop_eq_getElem_cons hj] at hR
    exact hR
theorem add_or : ∀ r : Nat, r < 8 → ∀ x : Nat, x < 256 → x.testBit r = false → (x + 2 ^ r) % 256 = x ||| 2 ^ r := by decide +kernel
theorem rdOf_nat (d : Bool) (x : List Bool) (j : Nat) : rdOf d x (j : Int) = x.getD j d := by unfold rdOf; rw [Int.toNat_natCast]
theorem ref_l3 {n : Nat} (hn : n ≤ 65536) (x : List Bool) (hx : x.length = 8 * n) : ∀ (d j : Nat) (b : List Int), j + d = 8 * n → b.length = n → Bytes b →
    (∀ q : Nat, q < 8 * n → bit b (q : Int) = (decide (q < j) && x.getD q false)) →
    ∃ out, Evn (fun k => colonnaderef13_Build.l3 k x b (j : Int)) (out, 0) ∧ Bytes out ∧ out.length = n ∧ ∀ q : Nat, q < 8 * n → bit out (q : Int) = x.getD q false := by
  intro d
  induction d with
  | zero =>
    intro j b e hb hB hq
    refine ⟨b, Evn.succ (fun _ => rfl) ?_, hB, hb, fun q h => by rw [hq q h, decide_eq_true (by omega), Bool.true_and]⟩
    simp only [colonnaderef13_Build.l3]
    exact Evn.neg (by omega) (Evn.now _)
  | succ d ih =>
    intro j b e hb hB hq
    have hj : j < 8 * n := by omega
    have hd := div8 (p := (j : Int)) (n := n) (by omega) (by omega) hn
    have hcur := hq j hj
    rw [decide_eq_false (Nat.lt_irrefl _), Bool.false_and] at hcur
    by_cases hc : x.getD j false = true
    · have hr : (0 : Int) ≤ b.getD (j / 8) 0 ∧ b.getD (j / 8) 0 < 256 := by
        rw [getD_lt (show j / 8 < b.length by omega)]
        exact hB _ (List.getElem_mem _)
      have eput : b.set (wrap64 (Int.tdiv (j : Int) 8)).toNat (((rd b (wrap64 (Int.tdiv (j : Int) 8))) + (shl .u8 1 (IntKind.u64.wrap (Int.tmod (j : Int) 8)))) % 256) = put b (j : Int) := by
        unfold put
        rw [hd.1, hd.2, show (j : Int) / 8 = ((j / 8 : Nat) : Int) by omega, show (j : Int) % 8 = ((j % 8 : Nat) : Int) by omega, rd_nat, u64_in (by omega) (by omega), shl1 (j % 8) (by omega)]
        congr 1
        rw [bit_nat hB j (by omega) (by omega)] at hcur
        obtain ⟨y, hy⟩ := Int.eq_ofNat_of_zero_le hr.1
        rw [hy] at hcur hr ⊢
        have ha := add_or (j % 8) (by omega) y (by omega) hcur
        rw [or8 y _ (by omega) (Nat.pow_lt_pow_right (a := 2) (m := j % 8) (n := 8) (by omega) (by omega)), ← ha]
        omega
      obtain ⟨out, h1, h2⟩ := ih (j + 1) (put b (j : Int)) (by omega) (by rw [put_len, hb]) (put_bytes j (by omega) (by omega) hB) (by
        intro q hq2
        rw [bit_put j q (by omega) (by omega) (by omega) hB, hq q hq2]
        by_cases h : j = q
        · subst h
          rw [decide_eq_true (rfl : j = j), decide_eq_true (show j < j + 1 by omega), hc]
          simp
        · rw [decide_eq_false h, Bool.or_false]
          congr 1
          rw [Bool.eq_iff_iff, decide_eq_true_iff, decide_eq_true_iff]
          omega)
      refine ⟨out, Evn.succ (fun _ => rfl) ?_, h2⟩
      simp only [colonnaderef13_Build.l3]
      rw [eput, w1 (by omega), rdOf_nat]
      refine Evn.pos (by omega) (Evn.pos (by omega) (Evn.pos hc (Evn.pos (by omega) (Evn.pos (by rw [hd.1]; omega) (Evn.pos (u64_range _).1 ?_)))))
      exact h1
    · obtain ⟨out, h1, h2⟩ := ih (j + 1) b (by omega) hb hB (by
        intro q hq2
        rw [hq q hq2]
        by_cases h : j = q
        · subst h
          have : x.getD j false = false := by simpa using hc
          rw [this]
          simp
        · congr 1
          rw [Bool.eq_iff_iff, decide_eq_true_iff, decide_eq_true_iff]
          omega)
      refine ⟨out, Evn.succ (fun _ => rfl) ?_, h2⟩
      simp only [colonnaderef13_Build.l3]
      rw [w1 (by omega), rdOf_nat]
      refine Evn.pos (by omega) (Evn.pos (by omega) (Evn.neg hc ?_))
      exact h1
theorem ref_l1 {n : Nat} (h : Sz n) (l : List S28) (hl : l.length < 9223372036854775807) (hc : ∀ v ∈ l, Cnt v) : ∀ (d j : Nat) (b : List Bool), j + d = l.length → b.length = 8 * n →
    (∀ q : Nat, q < 8 * n → (sbld n (l.drop j) b).getD q false = l.any fun v => decide ((q : Int) ∈ pls v n)) →
    Evn (fun k => colonnaderef13_Build.l1 k (n : Int) l b (j : Int)) (flt n l, 0) := by
  have hf := (sz_fit h).1
  have hn := hf.2.1
  intro d
  induction d with
  | zero =>
    intro j b e hb hq
    rw [List.drop_of_length_le (by omega)] at hq
    refine Evn.succ (fun _ => rfl) ?_
    simp only [colonnaderef13_Build.l1]
    refine Evn.neg (by omega) (Evn.pos (by omega) (Evn.pos (by omega) ?_))
    rw [Int.toNat_natCast]
    obtain ⟨out, h1, h2, h3, h4⟩ := ref_l3 hn b hb (8 * n) 0 (List.replicate n 0) (by omega) (by simp) (zeros n) (by
      intro q hq2
      rw [bit_zeros hn _ (by omega) (by omega)]
      simp)
    have : out = flt n l := by
      have lf := flt_len n l
      refine bits_ext h2 (flt_bytes hf l) (by omega) (by omega) (fun q h0 h5 => ?_)
      obtain ⟨q, rfl⟩ := Int.eq_ofNat_of_zero_le h0
      rw [h4 q (by omega), flt_bit hf l _ (by omega) (by omega), ← hq q (by omega)]
      rfl
    rw [this] at h1
    exact h1
  | succ d ih =>
    intro j b e hb hq
    refine Evn.succ (fun _ => rfl) ?_
    simp only [colonnaderef13_Build.l1]
    have hj : j < l.length := by omega
    have hv := hc l[j] (List.getElem_mem hj)
    rw [rd_T_nat, getD_lt hj]
    refine Evn.pos (by omega) (Evn.pos (by omega) ?_)
    refine Evn.bind (ref_places h hv) ?_
    refine ref_l2 hn l j _ (pls_range hf _) (pls_len _ _) _ 4 0 b rfl hb ?_
    rw [List.drop_zero, w1 (by omega)]
    rw [List.drop_eq_getElem_cons hj] at hq
    exact ih (j + 1) _ (by omega) (by rw [sets_len, hb]) hq
open Classical in
theorem ref_l0 {n : Nat} (h : Sz n) (l : List S28) (hl : l.length < 9223372036854775807) (hc : ∀ v ∈ l, Wd v) : ∀ (d j : Nat), j + d = l.length → (∀ v ∈ l.take j, Cnt v) →
    Evn (fun k => colonnaderef13_Build.l0 k (n : Int) l (j : Int)) (if ∀ v ∈ l.drop j, Cnt v then (flt n l, 0) else ([], 50)) := by
  have hf := (sz_fit h).1
  have hn := hf.2.1
  intro d
  induction d with
  | zero =>
    intro j e ht
    refine Evn.succ (fun _ => rfl) ?_
    simp only [colonnaderef13_Build.l0]
    rw [List.drop_of_length_le (by omega), if_pos (by simp), wrap64_in (n := 8 * (n : Int)) (by omega) (by omega)]
    refine Evn.neg (by omega) (Evn.pos (by omega) (Evn.pos (by omega) ?_))
    have e8 : (8 * (n : Int)).toNat = 8 * n := by omega
    rw [e8]
    refine ref_l1 h l hl (by rw [List.take_of_length_le (by omega)] at ht; exact ht) l.length 0 _ (by omega) (by simp) (fun q hq => ?_)
    rw [List.drop_zero, sbld_getD hf l _ (by simp) q hq, List.getD_eq_getElem?_getD, List.getElem?_replicate, if_pos hq]
    rfl
  | succ d ih =>
    intro j e ht
    refine Evn.succ (fun _ => rfl) ?_
    simp only [colonnaderef13_Build.l0]
    have hj : j < l.length := by omega
    have hv := hc l[j] (List.getElem_mem hj)
    rw [rd_T_nat, getD_lt hj, w1 (by omega)]
    refine Evn.pos (by omega) (Evn.pos (by omega) (Evn.bind (ref_for_f hv) ?_))
    rw [List.drop_eq_getElem_cons hj]
    by_cases hcn : Cnt l[j]
    · refine Evn.pos (decide_eq_true hcn) ?_
      have := ih (j + 1) (by omega) (by rw [List.take_succ_eq_append_getElem hj]; intro v hv2; rcases List.mem_append.1 hv2 with h3 | h3; exact ht v h3; rw [List.mem_singleton.1 h3]; exact hcn)
      have e2 : (∀ v ∈ l[j] :: l.drop (j + 1), Cnt v) ↔ ∀ v ∈ l.drop (j + 1), Cnt v := by rw [List.forall_mem_cons]; exact ⟨fun h => h.2, fun h => ⟨hcn, h⟩⟩
      simp only [e2]
      exact this
    · refine Evn.neg (by simp [hcn]) ?_
      rw [if_neg (fun h => hcn (h _ List.mem_cons_self))]
      exact Evn.now _
theorem ref_build (x : Int) (l : List S28) (hl : l.length < 9223372036854775807) (hc : ∀ v ∈ l, Wd v) : Evn (fun k => colonnaderef13_Build.f k x l) (bres x l) := by
  unfold colonnaderef13_Build.f bres
  refine Evn.bind (size_any x) ?_
  by_cases h : Sz x
  · rw [if_pos h]
    obtain ⟨n, rfl⟩ : ∃ n : Nat, x = n := by obtain ⟨i, _, _, h⟩ := h; exact ⟨_, h⟩
    refine Evn.pos (@decide_eq_true _ (_) h) ?_
    exact ref_l0 h l hl hc l.length 0 (by omega) (by simp)
  · rw [if_neg h]
    exact Evn.neg (by simp [h]) (Evn.now _)
end Go.Proofs.Ythiidgmemoineaa.B
