/- The texts of ZoneMays, merged: part 39. -/
import Derived.Test.YthiidgmemoineaaQZoneMays23
import Derived.Test.YthiidgmemoineaaQZoneMays32
import Derived.Test.YthiidgmemoineaaQZoneMays36
import Derived.Test.YthiidgmemoineaaQZoneMays38
/- A record's bytes: the program's and the document's are one. Plain: no program in sight. -/
namespace Go.Proofs.Ythiidgmemoineaa.V
open Go.RowKit Go.Proofs.Ythiidgmemoineaa.Pa Go.Proofs.Ythiidgmemoineaa.Pure Go.Proofs.Ythiidgmemoineaa.L Go.Proofs.Ythiidgmemoineaa.F Go.Proofs.YthiidgmemoineaaW.PrintWords Go.Proofs.YthiidgmemoineaaW.PrintLast Go.Proofs.YthiidgmemoineaaW.PrintMore
set_option linter.unusedVariables false
set_option linter.unusedSimpArgs false
theorem joined_f (x y : List Int) (h : x.length + y.length < 140737488355328) : colonnaderef07_joined.f x y = some (x ++ y) := by
  unfold colonnaderef07_joined.f
  simp only [List.nil_append, List.length_nil, Nat.zero_add, List.length_append]
  rw [if_pos (by omega)]
  simp only [Option.bind_some]
  rw [if_pos (by omega)]
theorem rputuv_l : ∀ (k v : Nat) (x y : List Int), (sf v).length ≤ k → v < 18446744073709551616 → x.length + y.length + (sf v).length < 140737488355328 → colonnaderef07_PutUvarint.l0 k x (v : Int) y = some (x ++ (y ++ sf v)) := by
  intro k
  induction k with
  | zero => intro v x y h; have := sf_pos v; omega
  | succ k ih =>
    intro v x y h hv hx
    by_cases hl : v < 128
    · rw [sf_lo hl] at h hx ⊢
      simp only [List.length_cons, List.length_nil] at hx
      simp only [colonnaderef07_PutUvarint.l0]
      rw [if_neg (by omega), if_pos (by omega), joined_f _ _ (by simp; omega), show (v : Int) % 256 = v by omega]
      rfl
    · rw [sf_hi hl] at h hx ⊢
      simp only [List.length_cons] at h hx
      simp only [colonnaderef07_PutUvarint.l0]
      rw [if_pos (by omega), if_pos (by omega)]
      have e1 : IntKind.u64.wrap (Int.tdiv (v : Int) 128) = ((v / 128 : Nat) : Int) := by
        rw [show Int.tdiv (v : Int) 128 = ((v / 128 : Nat) : Int) from rfl, u64n _ (by omega)]
      have e2 : IntKind.u64.wrap (128 + Int.tmod (v : Int) 128) % 256 = ((v % 128 + 128 : Nat) : Int) := by
        rw [show Int.tmod (v : Int) 128 = ((v % 128 : Nat) : Int) from rfl, show (128 : Int) + ((v % 128 : Nat) : Int) = ((v % 128 + 128 : Nat) : Int) by omega, u64n _ (by omega)]
        omega
      rw [e1, e2, ih _ _ _ (by omega) (by omega) (by simp; omega)]
      simp
theorem rputuv_e (v : Nat) (hv : v < 18446744073709551616) (x : List Int) (hx : x.length + 10 < 140737488355328) : Evn (fun k => colonnaderef07_PutUvarint.f k x (v : Int)) (x ++ sf v) :=
  ⟨10, fun k hk => by
    have := sf_len10 hv
    show colonnaderef07_PutUvarint.l0 k x (v : Int) [] = _
    rw [rputuv_l k v x [] (by omega) hv (by simp; omega)]
    simp⟩
theorem rputblk_e (x p : List Int) (hx : x.length + p.length + 11 < 140737488355328) : Evn (fun k => colonnaderef07_PutBlock.f k x p) (x ++ blkf p) := by
  unfold colonnaderef07_PutBlock.f
  rw [u64n _ (by omega)]
  have := sf_len10 (n := p.length) (by omega)
  refine Evn.bind (rputuv_e p.length (by omega) x (by omega)) ?_
  rw [joined_f _ _ (by simp; omega), blkf, ← List.append_assoc]
  exact Evn.now _
theorem rfold_f (v : Int) (h0 : -9223372036854775808 ≤ v) (h1 : v ≤ 9223372036854775807) : colonnaderef07_Fold.f v = some (foldV v) := by
  unfold colonnaderef07_Fold.f foldV
  have hu : ∀ x : Int, 0 ≤ x → x < 18446744073709551616 → IntKind.u64.wrap x = x := fun x a b => u64_in a (by omega)
  by_cases h : v ≥ 0
  · rw [if_pos h, if_pos h, hu v (by omega) (by omega), hu _ (by omega) (by omega)]
  · rw [if_neg h, if_neg h, wrap64_in (n := v + 1) (by omega) (by omega), wrap64_in (by omega) (by omega), hu (-(v + 1)) (by omega) (by omega), hu (2 * -(v + 1)) (by omega) (by omega), hu _ (by omega) (by omega)]
    congr 1
    omega
/-- A value's bytes. -/
def oneB (k i : Int) (s : ByteArray) : List Int := if k = 1 then sf (foldV i).toNat else blkf (bytesOf s)
theorem blkf_len (p : List Int) (h : p.length < 18446744073709551616) : (blkf p).length ≤ p.length + 10 := by
  unfold blkf
  have := sf_len10 h
  simp
  omega
theorem bytesOf_len (s : ByteArray) : (bytesOf s).length = s.size := bytesOf_length s
theorem oneB_len (k i : Int) (s : ByteArray) (h0 : -9223372036854775808 ≤ i) (h1 : i ≤ 9223372036854775807) (hs : s.size ≤ 65535) : (oneB k i s).length ≤ 70000 := by
  unfold oneB
  split
  · have := foldV_range i h0 h1
    have := sf_len10 (n := (foldV i).toNat) (by omega)
    omega
  · have := blkf_len (bytesOf s) (by rw [bytesOf_len]; omega)
    rw [bytesOf_len] at this
    omega
theorem put_e (x : List Int) (k i : Int) (r : Nat) (s : ByteArray) (h0 : -9223372036854775808 ≤ i) (h1 : i ≤ 9223372036854775807) (hs : s.size ≤ 65535) (hx : x.length ≤ 1000000) :
    Evn (fun q => zone_put.f q x k i r s) (x ++ oneB k i s) := by
  unfold zone_put.f oneB
  by_cases h : k = 1
  · simp only [if_pos h]
    exact putvi_e i h0 h1 x (by omega)
  · simp only [if_neg h, if_pos (show s.size < 140737488355328 by omega)]
    exact putblk_e x (bytesOf s) (by rw [bytesOf_len]; omega)
theorem rone_e (x : List Int) (k i : Int) (r : Nat) (s : ByteArray) (h0 : -9223372036854775808 ≤ i) (h1 : i ≤ 9223372036854775807) (hs : s.size ≤ 65535) (hx : x.length ≤ 1000000) :
    Evn (fun q => colonnaderef14_one.f q x k i r s) (x ++ oneB k i s) := by
  unfold colonnaderef14_one.f oneB
  by_cases h : k = 1
  · simp only [if_pos h]
    rw [rfold_f i h0 h1]
    simp only [Option.bind_some]
    have e := foldV_range i h0 h1
    obtain ⟨m, hm⟩ := Int.eq_ofNat_of_zero_le e.1
    rw [hm, Int.toNat_natCast]
    exact rputuv_e m (by omega) x (by omega)
  · simp only [if_neg h, if_pos (show s.size < 140737488355328 by omega)]
    exact rputblk_e x (bytesOf s) (by rw [bytesOf_len]; omega)
section
variable (c0 : ByteArray) (ct : Int) (cn : Bool) (n k i : Int) (r : Nat) (s : ByteArray) (k' i' : Int) (r' : Nat) (s' : ByteArray) (l : List Int)
/-- A record's bytes. -/
def putB : List Int := sf n.toNat ++ ((if emptyS k i r s = true then [0] else 1 :: (oneB k i s ++ oneB k' i' s')) ++ blkf l)
/-- Put's answer. -/
def putS : List Int × Int := if decide (ct = 1 ∨ ct = 2) = true then (if forS ct cn n k i r s k' i' r' s' l.length = true then (putB n k i r s k' i' s' l, 0) else ([], 140)) else ([], 150)
variable {c0 ct cn n k i r s k' i' r' s' l}
theorem sizeS_le {m : Nat} (h : sizeS m = true) : m ≤ 65536 := by
  unfold sizeS at h
  simp [sizes] at h
  omega
/-- What a record that may be is. -/
theorem for_open (h : forS ct cn n k i r s k' i' r' s' l.length = true) : (ct = 1 ∨ ct = 2) ∧ 0 ≤ n ∧ n ≤ 16777216 ∧ (cn = true ∨ n = 0) ∧ l.length ≤ 65536 ∧ sizeS l.length = true ∧ endsS ct k i r s k' i' r' s' = true := by
  unfold forS at h
  simp only [Bool.and_eq_true, decide_eq_true_eq] at h
  refine ⟨h.1, h.2.1.1, h.2.1.2.1, h.2.1.2.2, sizeS_le h.2.2.2, h.2.2.2, h.2.2.1⟩
theorem may_size {k i : Int} {r : Nat} {s : ByteArray} (h : mayS k i r s = true) : s.size ≤ 65535 := by
  unfold mayS at h
  simp only [decide_eq_true_eq] at h
  have z := @size_nil s
  rcases h with h | h | h | h
  · have := z h.2.2.1; omega
  · have := z h.2.1; omega
  · omega
  · have := z h.2.2.1; omega
theorem ends_open (h : endsS ct k i r s k' i' r' s' = true) : s.size ≤ 65535 ∧ s'.size ≤ 65535 ∧ (noneS k i r s k' i' r' s' = emptyS k i r s ∨ ¬ (ct = 1 ∨ ct = 2)) := by
  unfold endsS at h
  rw [Bool.or_eq_true] at h
  rcases h with h | h
  · rw [Bool.and_eq_true] at h
    refine ⟨may_size (empty_may h.1).2, may_size (empty_may h.2).2, Or.inl ?_⟩
    rw [h.1]
    obtain ⟨a, b⟩ := h
    unfold emptyS at a b
    unfold noneS rg
    simp at a b ⊢
    obtain ⟨a1, a2, a3, a4⟩ := a
    obtain ⟨b1, b2, b3, b4⟩ := b
    exact ⟨⟨a1, a2, by omega, a4⟩, b1, b2, by omega, b4⟩
  · simp only [Bool.and_eq_true] at h
    have q : ∀ {k i : Int} {r : Nat} {s : ByteArray}, endS ct k i r s = true → k = ct ∧ s.size ≤ 65535 := fun h => by
      unfold endS at h
      simp only [Bool.and_eq_true, decide_eq_true_eq] at h
      exact ⟨h.1, may_size h.2⟩
    refine ⟨(q h.1).2, (q h.2.1).2, ?_⟩
    by_cases ht : ct = 1 ∨ ct = 2
    · left
      have := (q h.1).1
      have e1 : emptyS k i r s = false := by unfold emptyS; simp; omega
      have e2 : noneS k i r s k' i' r' s' = false := by unfold noneS; simp; omega
      rw [e1, e2]
    · exact Or.inr ht
theorem none_empty (h : forS ct cn n k i r s k' i' r' s' l.length = true) : noneS k i r s k' i' r' s' = emptyS k i r s := by
  have o := for_open h
  rcases (ends_open o.2.2.2.2.2.2).2.2 with h | h
  · exact h
  · exact absurd o.1 h
theorem put_f (hl : l.length < 9223372036854775808) (hr : r < 18446744073709551616) (hr' : r' < 18446744073709551616) (h0 : -9223372036854775808 ≤ i) (h1 : i ≤ 9223372036854775807) (h0' : -9223372036854775808 ≤ i') (h1' : i' ≤ 9223372036854775807) :
    Evn (fun q => zone_Put.f q c0 ct cn n k i r s k' i' r' s' l) (putS ct cn n k i r s k' i' r' s' l) := by
  unfold zone_Put.f putS
  rw [typed_f, none_f]
  simp only [Option.bind_some]
  by_cases ht : decide (ct = 1 ∨ ct = 2) = true
  · rw [if_pos ht]
    refine Evn.pos ht (Evn.bind (zmay_e c0 ct cn n k i r s k' i' r' s' l hl hr hr') ?_)
    by_cases hf : forS ct cn n k i r s k' i' r' s' l.length = true
    · rw [if_pos hf]
      refine Evn.pos hf ?_
      rw [none_empty hf]
      have o := for_open hf
      have oe := ends_open o.2.2.2.2.2.2
      obtain ⟨m, rfl⟩ := Int.eq_ofNat_of_zero_le o.2.1
      have s10 := sf_len10 (n := m) (by omega)
      rw [u64n m (by omega)]
      refine Evn.bind (putuv_e m (by omega) [] (by simp)) ?_
      have l0 : le 1 0 = [0] := rfl
      have l1 : le 1 1 = [1] := rfl
      unfold putB
      by_cases he : emptyS k i r s = true
      · rw [if_pos he]
        refine Evn.pos he (Evn.bind (put_uint8_e 0 (by omega) _ (by simp; omega)) (Evn.bind (putblk_e _ l (by simp [l0]; omega)) ?_))
        rw [l0, List.nil_append, List.append_assoc, Int.toNat_natCast]
        exact Evn.now _
      · rw [if_neg he]
        have q1 := oneB_len k i s h0 h1 oe.1
        have q2 := oneB_len k' i' s' h0' h1' oe.2.1
        refine Evn.neg he (Evn.bind (put_uint8_e 1 (by omega) _ (by simp; omega)) ?_)
        rw [l1, List.nil_append]
        refine Evn.bind (put_e _ k i r s h0 h1 oe.1 (by simp; omega)) (Evn.bind (put_e _ k' i' r' s' h0' h1' oe.2.1 (by simp; omega)) (Evn.bind (putblk_e _ l (by simp; omega)) ?_))
        rw [show sf m ++ [1] ++ oneB k i s ++ oneB k' i' s' ++ blkf l = sf ((m : Int)).toNat ++ (1 :: (oneB k i s ++ oneB k' i' s') ++ blkf l) by simp]
        exact Evn.now _
    · rw [if_neg hf]
      exact Evn.neg hf (Evn.now _)
  · rw [if_neg ht]
    exact Evn.neg ht (Evn.now _)
theorem rput_f (hl : l.length < 9223372036854775808) (hr : r < 18446744073709551616) (hr' : r' < 18446744073709551616) (h0 : -9223372036854775808 ≤ i) (h1 : i ≤ 9223372036854775807) (h0' : -9223372036854775808 ≤ i') (h1' : i' ≤ 9223372036854775807) :
    Evn (fun q => colonnaderef14_Put.f q c0 ct cn n k i r s k' i' r' s' l) (putS ct cn n k i r s k' i' r' s' l) := by
  unfold colonnaderef14_Put.f putS
  rw [rtyped_f, empty_f]
  simp only [Option.bind_some]
  by_cases ht : decide (ct = 1 ∨ ct = 2) = true
  · rw [if_pos ht]
    refine Evn.pos ht (Evn.bind (for_e c0 ct cn n k i r s k' i' r' s' l hr hr') ?_)
    by_cases hf : forS ct cn n k i r s k' i' r' s' l.length = true
    · rw [if_pos hf]
      refine Evn.pos hf ?_
      have o := for_open hf
      have oe := ends_open o.2.2.2.2.2.2
      obtain ⟨m, rfl⟩ := Int.eq_ofNat_of_zero_le o.2.1
      have s10 := sf_len10 (n := m) (by omega)
      rw [u64n m (by omega)]
      refine Evn.bind (rputuv_e m (by omega) [] (by simp)) ?_
      unfold putB
      rw [List.nil_append]
      by_cases he : emptyS k i r s = true
      · rw [if_pos he]
        refine Evn.pos he (Evn.pos (by omega) (Evn.bind (rputblk_e _ l (by simp; omega)) ?_))
        rw [List.append_assoc, Int.toNat_natCast]
        exact Evn.now _
      · rw [if_neg he]
        have q1 := oneB_len k i s h0 h1 oe.1
        have q2 := oneB_len k' i' s' h0' h1' oe.2.1
        refine Evn.neg he (Evn.pos (by omega) ?_)
        refine Evn.bind (rone_e _ k i r s h0 h1 oe.1 (by simp; omega)) (Evn.bind (rone_e _ k' i' r' s' h0' h1' oe.2.1 (by simp; omega)) (Evn.bind (rputblk_e _ l (by simp; omega)) ?_))
        rw [show sf m ++ [1] ++ oneB k i s ++ oneB k' i' s' ++ blkf l = sf ((m : Int)).toNat ++ (1 :: (oneB k i s ++ oneB k' i' s') ++ blkf l) by simp]
        exact Evn.now _
    · rw [if_neg hf]
      exact Evn.neg hf (Evn.now _)
  · rw [if_neg ht]
    exact Evn.neg ht (Evn.now _)
/-- May, the program's and the document's. -/
theorem may_z (rows : Int) (hl : l.length < 9223372036854775808) (hr : r < 18446744073709551616) (hr' : r' < 18446744073709551616) : Evn (fun q => zone_May.f q c0 ct cn rows n k i r s k' i' r' s' l) (mayzS ct cn n k i r s k' i' r' s' rows l.length) := by
  unfold zone_May.f mayzS
  rw [rows_f, none_f]
  simp only [Option.bind_some]
  by_cases h : decide (0 ≤ rows ∧ rows ≤ 16777216) = true
  · have h2 := of_decide_eq_true h
    refine Evn.pos h (Evn.bind (zmay_e c0 ct cn n k i r s k' i' r' s' l hl hr hr') ?_)
    by_cases hf : forS ct cn n k i r s k' i' r' s' l.length = true
    · rw [hf, Bool.true_and, none_empty hf]
      refine Evn.pos rfl ?_
      by_cases hn : n ≤ rows
      · rw [decide_eq_true (by exact ⟨h2.1, h2.2, hn⟩), Bool.true_and]
        refine Evn.pos hn ?_
        have e : (n == rows) = decide (n = rows) := by by_cases q : n = rows <;> simp [q]
        rw [e]
        exact Evn.now _
      · rw [decide_eq_false (fun q => hn q.2.2), Bool.false_and]
        exact Evn.neg hn (Evn.now _)
    · rw [Bool.not_eq_true] at hf
      rw [hf, Bool.false_and]
      exact Evn.neg (by decide) (Evn.now _)
  · have h2 : ¬ (0 ≤ rows ∧ rows ≤ 16777216) := fun q => h (decide_eq_true q)
    have e : decide (0 ≤ rows ∧ rows ≤ 16777216 ∧ n ≤ rows) = false := decide_eq_false (fun q => h2 ⟨q.1, q.2.1⟩)
    rw [e, Bool.false_and, Bool.and_false]
    exact Evn.neg h (Evn.now _)
theorem rmay_z (rows : Int) (hr : r < 18446744073709551616) (hr' : r' < 18446744073709551616) : Evn (fun q => colonnaderef14_May.f q c0 ct cn rows n k i r s k' i' r' s' l) (mayzS ct cn n k i r s k' i' r' s' rows l.length) := by
  unfold colonnaderef14_May.f mayzS
  rw [empty_f]
  simp only [Option.bind_some]
  refine Evn.bind (for_e c0 ct cn n k i r s k' i' r' s' l hr hr') ?_
  by_cases hf : forS ct cn n k i r s k' i' r' s' l.length = true
  · rw [hf, Bool.true_and]
    refine Evn.pos rfl ?_
    by_cases a : rows ≥ 0
    · refine Evn.pos a ?_
      by_cases b : rows ≤ 16777216
      · refine Evn.pos b ?_
        by_cases hn : n ≤ rows
        · rw [decide_eq_true (by exact ⟨a, b, hn⟩), Bool.true_and]
          have e : (n == rows) = decide (n = rows) := by by_cases q : n = rows <;> simp [q]
          rw [e]
          exact Evn.pos hn (Evn.now _)
        · rw [decide_eq_false (fun q => hn q.2.2), Bool.false_and]
          exact Evn.neg hn (Evn.now _)
      · rw [decide_eq_false (fun q => b q.2.1), Bool.false_and]
        exact Evn.neg b (Evn.now _)
    · rw [decide_eq_false (fun q => a q.1), Bool.false_and]
      exact Evn.neg a (Evn.now _)
  · rw [Bool.not_eq_true] at hf
    rw [hf, Bool.false_and]
    exact Evn.neg (by decide) (Evn.now _)
end
end Go.Proofs.Ythiidgmemoineaa.V
