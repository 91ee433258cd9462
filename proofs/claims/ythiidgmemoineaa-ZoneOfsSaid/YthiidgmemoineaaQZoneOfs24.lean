/- The texts of ZoneOfs, merged: part 24. -/
import Derived.Test.YthiidgmemoineaaQZoneOfs9
import Derived.Test.YthiidgmemoineaaQZoneOfs8
import Derived.Laws.Bits64b
import Derived.Laws.Closers25b
import Derived.Test.YthiidgmemoineaaQZoneOfs13
/-! What the calls of layer 13 tell, in plain lists: hashes, places, filters. No program in sight but the printed functions. -/
namespace Go.Proofs.Ythiidgmemoineaa.B
set_option linter.unusedSimpArgs false
open Go.RowKit Go.Proofs.Ythiidgmemoineaa.Pa Go.Proofs.Ythiidgmemoineaa.L Go.Proofs.YthiidgmemoineaaW.PrintWords Go.Proofs.YthiidgmemoineaaW.PrintLast Go.Proofs.YthiidgmemoineaaW.PrintMore

theorem w1 {j : Nat} (h : j < 9223372036854775807) : wrap64 ((j : Int) + 1) = ((j + 1 : Nat) : Int) := by rw [wrap64_in (by omega) (by omega)]; omega
theorem rd_nat (l : List Int) (j : Nat) : rd l (j : Int) = l.getD j 0 := by unfold rd; rw [Int.toNat_natCast]
theorem getD_lt {α : Type} {l : List α} {j : Nat} {d : α} (h : j < l.length) : l.getD j d = l[j] := by rw [List.getD_eq_getElem?_getD, List.getElem?_eq_getElem h]; rfl
theorem rd_T_nat (l : List S28) (j : Nat) : rd_T28 l (j : Int) = l.getD j z28 := by unfold rd_T28; rw [Int.toNat_natCast]

/-! ### the hash -/
def stp (h b : Int) : Int := IntKind.u64.wrap ((Go.bits .xor .u64 h (IntKind.u64.wrap b)) * 1099511628211)
def hsh (l : List Int) : Int := l.foldl stp 14695981039346656037
theorem hash_l0 (l : List Int) (hl : l.length < 9223372036854775807) : ∀ (d j : Nat) (h : Int), j + d = l.length →
    Evn (fun k => check_Hash.l0 k h l (l.length : Int) (j : Int)) ((l.drop j).foldl stp h) := by
  intro d
  induction d with
  | zero =>
    intro j h e
    refine Evn.succ (fun _ => rfl) ?_
    simp only [check_Hash.l0]
    refine Evn.neg (by omega) ?_
    rw [List.drop_of_length_le (by omega)]
    exact Evn.now _
  | succ d ih =>
    intro j h e
    refine Evn.succ (fun _ => rfl) ?_
    simp only [check_Hash.l0]
    refine Evn.pos (by omega) (Evn.pos (by omega) (Evn.pos (by omega) ?_))
    rw [w1 (by omega), rd_nat, getD_lt (show j < l.length by omega), List.drop_eq_getElem_cons (show j < l.length by omega), List.foldl_cons]
    exact ih (j + 1) _ (by omega)
theorem hash (l : List Int) (hl : l.length < 9223372036854775807) : Evn (fun k => check_Hash.f k l) (hsh l) := by
  unfold check_Hash.f
  exact hash_l0 l hl l.length 0 _ (by omega)

/-! ### the places -/
/-- The four places of a hash in a filter of m + 1 bits. -/
def pl4 (h m : Int) : List Int :=
  let g := Go.bits .or .u64 (h / 4294967296) 1
  let h0 := Go.bits .and .u64 h 4294967295
  let h1 := IntKind.u64.wrap (h0 + g)
  let h2 := IntKind.u64.wrap (h1 + g)
  let h3 := IntKind.u64.wrap (h2 + g)
  [wrap64 (Go.bits .and .u64 h0 m), wrap64 (Go.bits .and .u64 h1 m), wrap64 (Go.bits .and .u64 h2 m), wrap64 (Go.bits .and .u64 h3 m)]
/-- A size of a filter. -/
def Fit (n : Nat) : Prop := 8 ≤ n ∧ n ≤ 65536 ∧ Go.bits .and .i64 (n : Int) (wrap64 ((n : Int) - 1)) = 0
theorem fit_f {n : Nat} (h : Fit n) : bloom_fit.f (n : Int) = some true := by
  unfold bloom_fit.f
  rw [if_pos (by have := h.1; omega), if_pos (by have := h.2.1; omega), h.2.2]; rfl
/-- A size of bits. -/
def Fit8 (n : Nat) : Prop := Go.bits .and .i64 (8 * n : Int) (wrap64 ((8 * n : Int) - 1)) = 0
theorem places {n : Nat} (h : Fit n) (h8 : Fit8 n) (x : Int) : Evn (fun k => check_Places.f k x (wrap64 (8 * (n : Int))) 4) (pl4 x (8 * n - 1), 0) := by
  have h1 := h.1
  have h2 := h.2.1
  unfold Fit8 at h8
  unfold check_Places.f
  rw [wrap64_in (n := 8 * (n : Int)) (by omega) (by omega)]
  refine Evn.neg (by omega) (Evn.neg (by omega) (Evn.pos h8 (Evn.neg (by omega) ?_)))
  refine Evn.succ (fun _ => rfl) ?_
  simp only [check_Places.j0]
  refine Evn.neg (by decide) (Evn.pos (by omega) (Evn.pos (by decide) ?_))
  rw [wrap64_in (n := 8 * (n : Int) - 1) (by omega) (by omega), u64_in (by omega) (by omega)]
  have e : (List.replicate (Int.toNat 4) 0 : List Int) = [0, 0, 0, 0] := rfl
  simp only [Option.bind_some, e]
  refine ⟨5, fun k hk => ?_⟩
  obtain ⟨k, rfl⟩ : ∃ m, k = m + 5 := ⟨k - 5, by omega⟩
  show check_Places.l0 (k + 5) _ _ _ [0, 0, 0, 0] 4 0 = _
  simp [check_Places.l0, pl4, show wrap64 1 = 1 by decide +kernel, show wrap64 2 = 2 by decide +kernel, show wrap64 3 = 3 by decide +kernel, show wrap64 4 = 4 by decide +kernel]
theorem and_range {x m : Int} (hx : 0 ≤ x) (hx1 : x < 18446744073709551616) (hm : 0 ≤ m) (hm1 : m < 9223372036854775808) : 0 ≤ wrap64 (Go.bits .and .u64 x m) ∧ wrap64 (Go.bits .and .u64 x m) ≤ m := by
  obtain ⟨a, rfl⟩ := Int.eq_ofNat_of_zero_le hx
  obtain ⟨b, rfl⟩ := Int.eq_ofNat_of_zero_le hm
  rw [bits_and_u64_nat a b (by omega) (by omega)]
  have := Nat.and_le_right (n := a) (m := b)
  rw [wrap64_in (by omega) (by omega)]
  omega
theorem u64_range (x : Int) : 0 ≤ IntKind.u64.wrap x ∧ IntKind.u64.wrap x < 18446744073709551616 := by
  rw [IntKind.wrap_u64]; omega
theorem pl4_range (x m : Int) (hm : 0 ≤ m) (hm1 : m < 9223372036854775808) : ∀ p ∈ pl4 x m, 0 ≤ p ∧ p ≤ m := by
  intro p hp
  have r0 := bits_lo_u64 .and x 4294967295
  have r1 := bits_hi_u64 .and x 4294967295
  simp only [pl4, List.mem_cons, List.not_mem_nil, or_false] at hp
  rcases hp with rfl | rfl | rfl | rfl
  · exact and_range r0 (by omega) hm hm1
  all_goals exact and_range (u64_range _).1 (u64_range _).2 hm hm1

/-! ### values -/
/-- What of a value is hashed. -/
def bts (v : S28) : List Int := if v.f0 = 1 then [v.f0 % 256] ++ (List.range' 0 8).map (fun i : Nat => (shr .i64 v.f1 (8 * (i : Int))) % 256) else [v.f0 % 256] ++ bytesOf v.f3
/-- The places of a value. -/
def pls (v : S28) (n : Nat) : List Int := pl4 (hsh (bts v)) (8 * n - 1)
/-- Whether a value counts. -/
def Cnt (v : S28) : Prop := (v.f0 = 1 ∧ v.f3.toList = [] ∨ v.f0 = 2 ∧ v.f1 = 0 ∧ v.f3.size ≤ 65535) ∧ v.f2 = 0
theorem bytesOf_len (s : ByteArray) : (bytesOf s).length = s.size := by simp [bytesOf]
theorem places_l0 {n : Nat} (h : Fit n) (h8 : Fit8 n) (v : S28) : ∀ (d j : Nat) (x : List Int), j + d = 8 → x.length + d < 100 → 
    Evn (fun k => bloom_places.l0 k (n : Int) x (j : Int) v.f0 v.f1 v.f2 v.f3) (pl4 (hsh (x ++ (List.range' j d).map (fun i : Nat => (shr .i64 v.f1 (8 * (i : Int))) % 256))) (8 * n - 1)) := by
  intro d
  induction d with
  | zero =>
    intro j x e hx
    refine Evn.succ (fun _ => rfl) ?_
    simp only [bloom_places.l0]
    refine Evn.neg (by omega) ?_
    simp only [List.range'_zero, List.map_nil, List.append_nil]
    refine Evn.bind (hash x (by omega)) ?_
    exact Evn.bind (places h h8 _) (Evn.now _)
  | succ d ih => 
    intro j x e hx
    refine Evn.succ (fun _ => rfl) ?_
    simp only [bloom_places.l0]
    have e8 : wrap64 (8 * (j : Int)) = 8 * (j : Int) := wrap64_in (by omega) (by omega)
    rw [e8, w1 (by omega)]
    refine Evn.pos (by omega) (Evn.pos (by omega) (Evn.pos (by omega) ?_))
    have := ih (j + 1) (x ++ [(shr .i64 v.f1 (8 * (j : Int))) % 256]) (by omega) (by simp; omega)
    rw [List.range'_succ, List.map_cons]
    simpa using this
theorem places_f {n : Nat} (h : Fit n) (h8 : Fit8 n) (v : S28) (hs : v.f3.size ≤ 140737488351232) : Evn (fun k => bloom_places.f k v.f0 v.f1 v.f2 v.f3 (n : Int)) (pls v n) := by
  unfold bloom_places.f
  simp only [Option.bind_some]
  by_cases h1 : v.f0 = 1
  · simp only [pls, bts, if_pos h1]
    exact places_l0 h h8 v 8 0 [v.f0 % 256] rfl (by simp)
  · simp only [pls, bts, if_neg h1]
    have hb := bytesOf_len v.f3
    refine Evn.pos (by simp; omega) ?_
    refine Evn.bind (hash _ (by simp; omega)) ?_
    exact Evn.bind (places h h8 _) (Evn.now _)
theorem counts {v : S28} (h : Cnt v) : Evn (fun k => bloom_counts.f k v.f0 v.f1 v.f2 v.f3) true := by
  obtain ⟨h, h2⟩ := h
  have e0 : ((0 : Nat) : Int) = 0 := rfl
  unfold bloom_counts.f value_May.f
  rcases h with ⟨h0, h3⟩ | ⟨h0, h1, h3⟩
  · refine Evn.pos h0 (Evn.bind (a := true) ?_ (Evn.now _))
    have hj : Evn (fun k => value_May.j0 k true v.f0 v.f1 v.f2 v.f3) true := by
      refine Evn.succ (fun _ => rfl) ?_
      simp only [value_May.j0]
      refine Evn.pos (by trivial) (Evn.pos h3 ?_)
      refine Evn.succ (fun _ => rfl) ?_
      simp only [value_May.j1]
      refine Evn.neg (by omega) (Evn.pos (by trivial) (Evn.pos (by omega) (Evn.pos (by omega) ?_)))
      rw [h0]; exact Evn.now _
    by_cases h1 : v.f1 = 0
    · exact Evn.pos h1 hj
    · refine Evn.neg h1 ?_
      have e : (v.f0 == 1) = true := by rw [h0]; rfl
      rw [e]; exact hj
  · refine Evn.neg (by omega) (Evn.pos h0 (Evn.bind (a := true) ?_ (Evn.now _)))
    refine Evn.pos h1 ?_
    have hj : Evn (fun k => value_May.j1 k true v.f0 v.f1 v.f2 v.f3) true := by
      refine Evn.succ (fun _ => rfl) ?_
      simp only [value_May.j1]
      refine Evn.neg (by omega) (Evn.pos (by trivial) (Evn.pos (by omega) (Evn.pos (by omega) ?_)))
      rw [h0]; exact Evn.now _
    refine Evn.succ (fun _ => rfl) ?_
    simp only [value_May.j0]
    refine Evn.pos (by trivial) ?_
    by_cases h4 : v.f3.toList = []
    · exact Evn.pos h4 hj
    · refine Evn.neg h4 (Evn.pos h0 ?_)
      have e : decide ((v.f3.size : Int) ≤ 65535) = true := decide_eq_true (by omega)
      rw [e]; exact hj

/-! ### filters -/
/-- A bit set. -/
def put (b : List Int) (p : Int) : List Int := b.set (wrap64 (Int.tdiv p 8)).toNat (Go.bits .or .u8 (rd b (wrap64 (Int.tdiv p 8))) (shl .u8 1 (Int.tmod p 8)))
/-- A bit asked. -/
def bit (b : List Int) (p : Int) : Bool := !decide ((Go.bits .and .u8 (shr .u8 (rd b (wrap64 (Int.tdiv p 8))) (Int.tmod p 8)) 1) = 0)
/-- What is built. -/
def bld (n : Nat) (l : List S28) (b : List Int) : List Int := l.foldl (fun b v => (pls v n).foldl put b) b
theorem put_len (b : List Int) (p : Int) : (put b p).length = b.length := by simp [put]
theorem puts_len (ps : List Int) : ∀ b, (ps.foldl put b).length = b.length := by
  induction ps with
  | nil => intro b; rfl
  | cons p ps ih => intro b; rw [List.foldl_cons, ih, put_len]
theorem bld_len (n : Nat) (l : List S28) : ∀ b, (bld n l b).length = b.length := by
  induction l with
  | nil => intro b; rfl
  | cons v l ih => intro b; show (bld n l _).length = _; rw [ih, puts_len]
theorem pls_range {n : Nat} (h : Fit n) (v : S28) : ∀ p ∈ pls v n, 0 ≤ p ∧ p < 8 * n := by
  intro p hp
  have h1 := h.1
  have h2 := h.2.1
  have := pl4_range _ _ (show (0 : Int) ≤ 8 * n - 1 by omega) (by omega) p hp
  omega
theorem pls_cons (v : S28) (n : Nat) : ∃ p t, pls v n = p :: t := ⟨_, _, rfl⟩
theorem pls_len (v : S28) (n : Nat) : (pls v n).length = 4 := rfl
theorem div8 {p : Int} {n : Nat} (h0 : 0 ≤ p) (h1 : p < 8 * n) (hn : n ≤ 65536) : wrap64 (Int.tdiv p 8) = p / 8 ∧ Int.tmod p 8 = p % 8 := by
  rw [Int.tdiv_eq_ediv_of_nonneg h0, Int.tmod_eq_emod_of_nonneg h0, wrap64_in (by omega) (by omega)]
  exact ⟨rfl, rfl⟩
theorem has_l0 {n : Nat} (h : Fit n) (b : List Int) (hb : b.length = n) (ps : List Int) (hp : ∀ p ∈ ps, 0 ≤ p ∧ p < 8 * n) (hl : ps.length = 4) : ∀ (d j : Nat), j + d = ps.length →
    Evn (fun k => bloom_Has.l0 k b ps (ps.length : Int) (j : Int)) ((ps.drop j).all (bit b)) := by
  intro d
  induction d with
  | zero =>
    intro j e
    refine Evn.succ (fun _ => rfl) ?_
    simp only [bloom_Has.l0]
    refine Evn.neg (by omega) ?_
    rw [List.drop_of_length_le (by omega)]
    exact Evn.now _
  | succ d ih =>
    intro j e
    refine Evn.succ (fun _ => rfl) ?_
    simp only [bloom_Has.l0]
    have hj : j < ps.length := by omega
    have hq := hp ps[j] (List.getElem_mem hj)
    have hn := h.2.1
    have hd := div8 hq.1 hq.2 hn
    rw [rd_nat, getD_lt hj, w1 (by omega)]
    refine Evn.pos (by omega) (Evn.pos (by omega) (Evn.pos (by omega) (Evn.pos (by omega) (Evn.pos (by omega) (Evn.pos (by omega) ?_)))))
    rw [List.drop_eq_getElem_cons hj, List.all_cons]
    by_cases hz : (Go.bits .and .u8 (shr .u8 (rd b (wrap64 (Int.tdiv ps[j] 8))) (Int.tmod ps[j] 8)) 1) = 0
    · refine Evn.pos hz ?_
      rw [show bit b ps[j] = false by unfold bit; rw [decide_eq_true hz]; rfl]
      exact Evn.now _
    · refine Evn.neg hz ?_
      rw [show bit b ps[j] = true by unfold bit; rw [decide_eq_false hz]; rfl, Bool.true_and]
      exact ih (j + 1) (by omega)
/-- What Has answers. -/
def hs (b : List Int) (v : S28) : Bool := (pls v b.length).all (bit b)
theorem has {b : List Int} (h : Fit b.length) (h8 : Fit8 b.length) {v : S28} (hv : Cnt v ∧ v.f3.size ≤ 140737488351232) : Evn (fun k => bloom_Has.f k b v.f0 v.f1 v.f2 v.f3) (hs b v) := by
  unfold bloom_Has.f
  simp only [fit_f h, Option.bind_some]
  refine Evn.pos (by trivial) ?_
  refine Evn.bind (counts hv.1) (Evn.pos (by trivial) ?_)
  refine Evn.bind (places_f h h8 _ hv.2) ?_
  exact has_l0 h b rfl _ (pls_range h _) (pls_len _ _) 4 0 rfl
end Go.Proofs.Ythiidgmemoineaa.B
