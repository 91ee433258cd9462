import Derived.Test.YtgmeefgihidomaaPa11
import Derived.Test.YtgmeefgihidomaaPa14
import Derived.Test.YtgmeefgihidomaaPa4
import Derived.Laws.Bits64b
import Derived.Laws.Closers25b
import Derived.Test.YtgmeefgihidomaaL
/-! What the calls of layer 13 tell, in plain lists: hashes, places, filters. No program in sight but the printed functions. -/
namespace Go.Proofs.Ytgmeefgihidomaa.B
set_option linter.unusedSimpArgs false
open Go.RowKit Go.Proofs.Ytgmeefgihidomaa.Pa Go.Proofs.Ytgmeefgihidomaa.L Go.Proofs.YtgmeefgihidomaaW.PrintWords Go.Proofs.YtgmeefgihidomaaW.PrintLast Go.Proofs.YtgmeefgihidomaaW.PrintMore

theorem w1 {j : Nat} (h : j < 9223372036854775807) : wrap64 ((j : Int) + 1) = ((j + 1 : Nat) : Int) := by rw [wrap64_in (by omega) (by omega)]; omega
theorem rd_nat (l : List Int) (j : Nat) : rd l (j : Int) = l.getD j 0 := by unfold rd; rw [Int.toNat_natCast]
theorem getD_lt {α : Type} {l : List α} {j : Nat} {d : α} (h : j < l.length) : l.getD j d = l[j] := by rw [List.getD_eq_getElem?_getD, List.getElem?_eq_getElem h]; rfl
theorem rd_T_nat (l : List S40) (j : Nat) : rd_T40 l (j : Int) = l.getD j z40 := by unfold rd_T40; rw [Int.toNat_natCast]

/-! ### the hash -/
def stp (h b : Int) : Int := IntKind.u64.wrap ((Go.bits .xor .u64 h (IntKind.u64.wrap b)) * 1099511628211)
def hsh (l : List Int) : Int := l.foldl stp 14695981039346656037
theorem hash_l0 (l : List Int) (hl : l.length < 9223372036854775807) : ∀ (d j : Nat) (h : Int), j + d = l.length →
    Evn (fun k => check_Hash.l0 k h l (l.length : Int) (j : Int)) ((l.drop j).foldl stp h) := by
  intro d
  induction d with
  | zero =>
    intro j h e
    refine Evn.succ (fun _ => rfl) ?_
    simp only [check_Hash.l0]
    refine Evn.neg (by omega) ?_
    rw [List.drop_of_length_le (by omega)]
    exact Evn.now _
  | succ d ih =>
    intro j h e
    refine Evn.succ (fun _ => rfl) ?_
    simp only [check_Hash.l0]
    refine Evn.pos (by omega) (Evn.pos (by omega) (Evn.pos (by omega) ?_))
    rw [w1 (by omega), rd_nat, getD_lt (show j < l.length by omega), List.drop_eq_getElem_cons (show j < l.length by omega), List.foldl_cons]
    exact ih (j + 1) _ (by omega)
theorem hash (l : List Int) (hl : l.length < 9223372036854775807) : Evn (fun k => check_Hash.f k l) (hsh l) := by
  unfold check_Hash.f
  exact hash_l0 l hl l.length 0 _ (by omega)

/-! ### the places -/
/-- The four places of a hash in a filter of m + 1 bits. -/
def pl4 (h m : Int) : List Int :=
  let g := Go.bits .or .u64 (h / 4294967296) 1
  let h0 := Go.bits .and .u64 h 4294967295
  let h1 := IntKind.u64.wrap (h0 + g)
  let h2 := IntKind.u64.wrap (h1 + g)
  let h3 := IntKind.u64.wrap (h2 + g)
  [wrap64 (Go.bits .and .u64 h0 m), wrap64 (Go.bits .and .u64 h1 m), wrap64 (Go.bits .and .u64 h2 m), wrap64 (Go.bits .and .u64 h3 m)]
/-- A size of a filter. -/
def Fit (n : Nat) : Prop := 8 ≤ n ∧ n ≤ 65536 ∧ Go.bits .and .i64 (n : Int) (wrap64 ((n : Int) - 1)) = 0
theorem fit_f {n : Nat} (h : Fit n) : bloom_fit.f (n : Int) = some true := by
  unfold bloom_fit.f
  rw [if_pos (by have := h.1; omega), if_pos (by have := h.2.1; omega), h.2.2]; rfl
/-- A size of bits. -/
def Fit8 (n : Nat) : Prop := Go.bits .and .i64 (8 * n : Int) (wrap64 ((8 * n : Int) - 1)) = 0
theorem places {n : Nat} (h : Fit n) (h8 : Fit8 n) (x : Int) : Evn (fun k => check_Places.f k x (wrap64 (8 * (n : Int))) 4) (pl4 x (8 * n - 1), 0) := by
  have h1 := h.1
  have h2 := h.2.1
  unfold Fit8 at h8
  unfold check_Places.f
  rw [wrap64_in (n := 8 * (n : Int)) (by omega) (by omega)]
  refine Evn.neg (by omega) (Evn.neg (by omega) (Evn.pos h8 (Evn.neg (by omega) ?_)))
  refine Evn.succ (fun _ => rfl) ?_
  simp only [check_Places.j0]
  refine Evn.neg (by decide) (Evn.pos (by omega) (Evn.pos (by decide) ?_))
  rw [wrap64_in (n := 8 * (n : Int) - 1) (by omega) (by omega), u64_in (by omega) (by omega)]
  have e : (List.replicate (Int.toNat 4) 0 : List Int) = [0, 0, 0, 0] := rfl
  simp only [Option.bind_some, e]
  refine ⟨5, fun k hk => ?_⟩
  obtain ⟨k, rfl⟩ : ∃ m, k = m + 5 := ⟨k - 5, by omega⟩
  show check_Places.l0 (k + 5) _ _ _ [0, 0, 0, 0] 4 0 = _
  simp [check_Places.l0, pl4, show wrap64 1 = 1 by decide +kernel, show wrap64 2 = 2 by decide +kernel, show wrap64 3 = 3 by decide +kernel, show wrap64 4 = 4 by decide +kernel]
theorem and_range {x m : Int} (hx : 0 ≤ x) (hx1 : x < 18446744073709551616) (hm : 0 ≤ m) (hm1 : m < 9223372036854775808) : 0 ≤ wrap64 (Go.bits .and .u64 x m) ∧ wrap64 (Go.bits .and .u64 x m) ≤ m := by
  obtain ⟨a, rfl⟩ := Int.eq_ofNat_of_zero_le hx
  obtain ⟨b, rfl⟩ := Int.eq_ofNat_of_zero_le hm
  rw [bits_and_u64_nat a b (by omega) (by omega)]
  have := Nat.and_le_right (n := a) (m := b)
  rw [wrap64_in (by omega) (by omega)]
  omega
theorem u64_range (x : Int) : 0 ≤ IntKind.u64.wrap x ∧ IntKind.u64.wrap x < 18446744073709551616 := by
  rw [IntKind.wrap_u64]; omega
theorem pl4_range (x m : Int) (hm : 0 ≤ m) (hm1 : m < 9223372036854775808) : ∀ p ∈ pl4 x m, 0 ≤ p ∧ p ≤ m := by
  intro p hp
  have r0 := bits_lo_u64 .and x 4294967295
  have r1 := bits_hi_u64 .and x 4294967295
  simp only [pl4, List.mem_cons, List.not_mem_nil, or_false] at hp
  rcases hp with rfl | rfl | rfl | rfl
  · exact and_range r0 (by omega) hm hm1
  all_goals exact and_range (u64_range _).1 (u64_range _).2 hm hm1

/-! ### values -/
/-- What of a value is hashed. -/
def bts (v : S40) : List Int := if v.f0 = 1 then [v.f0 % 256] ++ (List.range' 0 8).map (fun i : Nat => (shr .i64 v.f1 (8 * (i : Int))) % 256) else [v.f0 % 256] ++ bytesOf v.f3
/-- The places of a value. -/
def pls (v : S40) (n : Nat) : List Int := pl4 (hsh (bts v)) (8 * n - 1)
/-- Whether a value counts. -/
def Cnt (v : S40) : Prop := (v.f0 = 1 ∧ v.f3.toList = [] ∨ v.f0 = 2 ∧ v.f1 = 0 ∧ v.f3.size ≤ 65535) ∧ v.f2 = 0
theorem bytesOf_len (s : ByteArray) : (bytesOf s).length = s.size := by simp [bytesOf]
theorem places_l0 {n : Nat} (h : Fit n) (h8 : Fit8 n) (v : S40) : ∀ (d j : Nat) (x : List Int), j + d = 8 → x.length + d < 100 → 
    Evn (fun k => bloom_places.l0 k (n : Int) x (j : Int) v.f0 v.f1 v.f2 v.f3) (pl4 (hsh (x ++ (List.range' j d).map (fun i : Nat => (shr .i64 v.f1 (8 * (i : Int))) % 256))) (8 * n - 1)) := by
  intro d
  induction d with
  | zero =>
    intro j x e hx
    refine Evn.succ (fun _ => rfl) ?_
    simp only [bloom_places.l0]
    refine Evn.neg (by omega) ?_
    simp only [List.range'_zero, List.map_nil, List.append_nil]
    refine Evn.bind (hash x (by omega)) ?_
    exact Evn.bind (places h h8 _) (Evn.now _)
  | succ d ih => 
    intro j x e hx
    refine Evn.succ (fun _ => rfl) ?_
    simp only [bloom_places.l0]
    have e8 : wrap64 (8 * (j : Int)) = 8 * (j : Int) := wrap64_in (by omega) (by omega)
    rw [e8, w1 (by omega)]
    refine Evn.pos (by omega) (Evn.pos (by omega) (Evn.pos (by omega) ?_))
    have := ih (j + 1) (x ++ [(shr .i64 v.f1 (8 * (j : Int))) % 256]) (by omega) (by simp; omega)
    rw [List.range'_succ, List.map_cons]
    simpa using this
theorem places_f {n : Nat} (h : Fit n) (h8 : Fit8 n) (v : S40) (hs : v.f3.size ≤ 140737488351232) : Evn (fun k => bloom_places.f k v.f0 v.f1 v.f2 v.f3 (n : Int)) (pls v n) := by
  unfold bloom_places.f
  simp only [Option.bind_some]
  by_cases h1 : v.f0 = 1
  · simp only [pls, bts, if_pos h1]
    exact places_l0 h h8 v 8 0 [v.f0 % 256] rfl (by simp)
  · simp only [pls, bts, if_neg h1]
    have hb := bytesOf_len v.f3
    refine Evn.pos (by simp; omega) ?_
    refine Evn.bind (hash _ (by simp; omega)) ?_
    exact Evn.bind (places h h8 _) (Evn.now _)
theorem counts {v : S40} (h : Cnt v) : Evn (fun k => bloom_counts.f k v.f0 v.f1 v.f2 v.f3) true := by
  obtain ⟨h, h2⟩ := h
  have e0 : ((0 : Nat) : Int) = 0 := rfl
  unfold bloom_counts.f value_May.f
  rcases h with ⟨h0, h3⟩ | ⟨h0, h1, h3⟩
  · refine Evn.pos h0 (Evn.bind (a := true) ?_ (Evn.now _))
    have hj : Evn (fun k => value_May.j0 k true v.f0 v.f1 v.f2 v.f3) true := by
      refine Evn.succ (fun _ => rfl) ?_
      simp only [value_May.j0]
      refine Evn.pos (by trivial) (Evn.pos h3 ?_)
      refine Evn.succ (fun _ => rfl) ?_
      simp only [value_May.j1]
      refine Evn.neg (by omega) (Evn.pos (by trivial) (Evn.pos (by omega) (Evn.pos (by omega) ?_)))
      rw [h0]; exact Evn.now _
    by_cases h1 : v.f1 = 0
    · exact Evn.pos h1 hj
    · refine Evn.neg h1 ?_
      have e : (v.f0 == 1) = true := by rw [h0]; rfl
      rw [e]; exact hj
  · refine Evn.neg (by omega) (Evn.pos h0 (Evn.bind (a := true) ?_ (Evn.now _)))
    refine Evn.pos h1 ?_
    have hj : Evn (fun k => value_May.j1 k true v.f0 v.f1 v.f2 v.f3) true := by
      refine Evn.succ (fun _ => rfl) ?_
      simp only [value_May.j1]
      refine Evn.neg (by omega) (Evn.pos (by trivial) (Evn.pos (by omega) (Evn.pos (by omega) ?_)))
      rw [h0]; exact Evn.now _
    refine Evn.succ (fun _ => rfl) ?_
    simp only [value_May.j0]
    refine Evn.pos (by trivial) ?_
    by_cases h4 : v.f3.toList = []
    · exact Evn.pos h4 hj
    · refine Evn.neg h4 (Evn.pos h0 ?_)
      have e : decide ((v.f3.size : Int) ≤ 65535) = true := decide_eq_true (by omega)
      rw [e]; exact hj

/-! ### filters -/
/-- A bit set. -/
def put (b : List Int) (p : Int) : List Int := b.set (wrap64 (Int.tdiv p 8)).toNat (Go.bits .or .u8 (rd b (wrap64 (Int.tdiv p 8))) (shl .u8 1 (Int.tmod p 8)))
/-- A bit asked. -/
def bit (b : List Int) (p : Int) : Bool := !decide ((Go.bits .and .u8 (shr .u8 (rd b (wrap64 (Int.tdiv p 8))) (Int.tmod p 8)) 1) = 0)
/-- What is built. -/
def bld (n : Nat) (l : List S40) (b : List Int) : List Int := l.foldl (fun b v => (pls v n).foldl put b) b
theorem put_len (b : List Int) (p : Int) : (put b p).length = b.length := by simp [put]
theorem puts_len (ps : List Int) : ∀ b, (ps.foldl put b).length = b.length := by
  induction ps with
  | nil => intro b; rfl
  | cons p ps ih => intro b; rw [List.foldl_cons, ih, put_len]
theorem bld_len (n : Nat) (l : List S40) : ∀ b, (bld n l b).length = b.length := by
  induction l with
  | nil => intro b; rfl
  | cons v l ih => intro b; show (bld n l _).length = _; rw [ih, puts_len]
theorem pls_range {n : Nat} (h : Fit n) (v : S40) : ∀ p ∈ pls v n, 0 ≤ p ∧ p < 8 * n := by
  intro p hp
  have h1 := h.1
  have h2 := h.2.1
  have := pl4_range _ _ (show (0 : Int) ≤ 8 * n - 1 by omega) (by omega) p hp
  omega
theorem pls_cons (v : S40) (n : Nat) : ∃ p t, pls v n = p :: t := ⟨_, _, rfl⟩
theorem pls_len (v : S40) (n : Nat) : (pls v n).length = 4 := rfl
theorem div8 {p : Int} {n : Nat} (h0 : 0 ≤ p) (h1 : p < 8 * n) (hn : n ≤ 65536) : wrap64 (Int.tdiv p 8) = p / 8 ∧ Int.tmod p 8 = p % 8 := by
  rw [Int.tdiv_eq_ediv_of_nonneg h0, Int.tmod_eq_emod_of_nonneg h0, wrap64_in (by omega) (by omega)]
  exact ⟨rfl, rfl⟩
theorem build_l1 {n : Nat} (h : Fit n) (l : List S40) (i : Int) (ps : List Int) (hp : ∀ p ∈ ps, 0 ≤ p ∧ p < 8 * n) (hl : ps.length = 4) (R : List Int × Int) : ∀ (d j : Nat) (b : List Int), j + d = ps.length → b.length = n →
    Evn (fun k => bloom_Build.l0 k (n : Int) ((ps.drop j).foldl put b) l (l.length : Int) (wrap64 (i + 1))) R →
    Evn (fun k => bloom_Build.l1 k (n : Int) b l (l.length : Int) i ps (ps.length : Int) (j : Int)) R := by
  intro d
  induction d with
  | zero =>
    intro j b e hb hR
    refine Evn.succ (fun _ => rfl) ?_
    simp only [bloom_Build.l1]
    refine Evn.neg (by omega) ?_
    rw [List.drop_of_length_le (by omega)] at hR
    exact hR
  | succ d ih =>
    intro j b e hb hR
    refine Evn.succ (fun _ => rfl) ?_
    simp only [bloom_Build.l1]
    have hj : j < ps.length := by omega
    have hq := hp ps[j] (List.getElem_mem hj)
    have hn := h.2.1
    have hd := div8 hq.1 hq.2 hn
    rw [rd_nat, getD_lt hj, w1 (by omega)]
    refine Evn.pos (by omega) (Evn.pos (by omega) (Evn.pos (by omega) (Evn.pos (by omega) (Evn.pos (by omega) (Evn.pos (by omega) ?_)))))
    refine ih (j + 1) _ (by omega) (by simp [hb]) ?_
    rw [List.drop_eq_getElem_cons hj] at hR
    exact hR
theorem build_l0 {n : Nat} (h : Fit n) (h8 : Fit8 n) (l : List S40) (hl : l.length < 9223372036854775807) (hc : ∀ v ∈ l, Cnt v ∧ v.f3.size ≤ 140737488351232) : ∀ (d j : Nat) (b : List Int), j + d = l.length → b.length = n →
    Evn (fun k => bloom_Build.l0 k (n : Int) b l (l.length : Int) (j : Int)) (bld n (l.drop j) b, 0) := by
  intro d
  induction d with
  | zero =>
    intro j b e hb
    refine Evn.succ (fun _ => rfl) ?_
    simp only [bloom_Build.l0]
    refine Evn.neg (by omega) ?_
    rw [List.drop_of_length_le (by omega)]
    exact Evn.now _
  | succ d ih =>
    intro j b e hb
    refine Evn.succ (fun _ => rfl) ?_
    simp only [bloom_Build.l0]
    have hj : j < l.length := by omega
    have hv := hc l[j] (List.getElem_mem hj)
    rw [rd_T_nat, getD_lt hj]
    refine Evn.pos (by omega) (Evn.pos (by omega) (Evn.pos (by omega) ?_))
    refine Evn.bind (counts hv.1) (Evn.pos (by trivial) ?_)
    refine Evn.bind (places_f h h8 _ hv.2) ?_
    refine build_l1 h l j _ (pls_range h _) (pls_len _ _) _ 4 0 b rfl hb ?_
    rw [List.drop_zero, w1 (by omega), List.drop_eq_getElem_cons hj]
    exact ih (j + 1) _ (by omega) (by rw [puts_len, hb])
/-- What Build answers. -/
theorem build {n : Nat} (h : Fit n) (h8 : Fit8 n) (l : List S40) (hl : l.length < 9223372036854775807) (hc : ∀ v ∈ l, Cnt v ∧ v.f3.size ≤ 140737488351232) :
    Evn (fun k => bloom_Build.f k (n : Int) l) (bld n l (List.replicate n 0), 0) := by
  have h2 := h.2.1
  unfold bloom_Build.f
  simp only [fit_f h, Option.bind_some]
  refine Evn.pos (by trivial) (Evn.pos (by omega) (Evn.pos (by omega) ?_))
  rw [Int.toNat_natCast]
  exact build_l0 h h8 l hl hc l.length 0 _ (by omega) (by simp)
theorem has_l0 {n : Nat} (h : Fit n) (b : List Int) (hb : b.length = n) (ps : List Int) (hp : ∀ p ∈ ps, 0 ≤ p ∧ p < 8 * n) (hl : ps.length = 4) : ∀ (d j : Nat), j + d = ps.length →
    Evn (fun k => bloom_Has.l0 k b ps (ps.length : Int) (j : Int)) ((ps.drop j).all (bit b)) := by
  intro d
  induction d with
  | zero =>
    intro j e
    refine Evn.succ (fun _ => rfl) ?_
    simp only [bloom_Has.l0]
    refine Evn.neg (by omega) ?_
    rw [List.drop_of_length_le (by omega)]
    exact Evn.now _
  | succ d ih =>
    intro j e
    refine Evn.succ (fun _ => rfl) ?_
    simp only [bloom_Has.l0]
    have hj : j < ps.length := by omega
    have hq := hp ps[j] (List.getElem_mem hj)
    have hn := h.2.1
    have hd := div8 hq.1 hq.2 hn
    rw [rd_nat, getD_lt hj, w1 (by omega)]
    refine Evn.pos (by omega) (Evn.pos (by omega) (Evn.pos (by omega) (Evn.pos (by omega) (Evn.pos (by omega) (Evn.pos (by omega) ?_)))))
    rw [List.drop_eq_getElem_cons hj, List.all_cons]
    by_cases hz : (Go.bits .and .u8 (shr .u8 (rd b (wrap64 (Int.tdiv ps[j] 8))) (Int.tmod ps[j] 8)) 1) = 0
    · refine Evn.pos hz ?_
      rw [show bit b ps[j] = false by unfold bit; rw [decide_eq_true hz]; rfl]
      exact Evn.now _
    · refine Evn.neg hz ?_
      rw [show bit b ps[j] = true by unfold bit; rw [decide_eq_false hz]; rfl, Bool.true_and]
      exact ih (j + 1) (by omega)
/-- What Has answers. -/
def hs (b : List Int) (v : S40) : Bool := (pls v b.length).all (bit b)
theorem has {b : List Int} (h : Fit b.length) (h8 : Fit8 b.length) {v : S40} (hv : Cnt v ∧ v.f3.size ≤ 140737488351232) : Evn (fun k => bloom_Has.f k b v.f0 v.f1 v.f2 v.f3) (hs b v) := by
  unfold bloom_Has.f
  simp only [fit_f h, Option.bind_some]
  refine Evn.pos (by trivial) ?_
  refine Evn.bind (counts hv.1) (Evn.pos (by trivial) ?_)
  refine Evn.bind (places_f h h8 _ hv.2) ?_
  exact has_l0 h b rfl _ (pls_range h _) (pls_len _ _) 4 0 rfl
theorem all_l0 {b : List Int} (h : Fit b.length) (h8 : Fit8 b.length) (l : List S40) (hl : l.length < 9223372036854775807) (hc : ∀ v ∈ l, Cnt v ∧ v.f3.size ≤ 140737488351232) : ∀ (d j : Nat), j + d = l.length →
    Evn (fun k => bloom_All.l0 k b l (l.length : Int) (j : Int)) ((l.drop j).all (hs b)) := by
  intro d
  induction d with
  | zero =>
    intro j e
    refine Evn.succ (fun _ => rfl) ?_
    simp only [bloom_All.l0]
    refine Evn.neg (by omega) ?_
    rw [List.drop_of_length_le (by omega)]
    exact Evn.now _
  | succ d ih =>
    intro j e
    refine Evn.succ (fun _ => rfl) ?_
    simp only [bloom_All.l0]
    have hj : j < l.length := by omega
    have hv := hc l[j] (List.getElem_mem hj)
    rw [rd_T_nat, getD_lt hj, w1 (by omega)]
    refine Evn.pos (by omega) (Evn.pos (by omega) (Evn.pos (by omega) ?_))
    refine Evn.bind (has h h8 hv) ?_
    rw [List.drop_eq_getElem_cons hj, List.all_cons]
    cases hs b l[j] with
    | true => exact Evn.pos (by trivial) (ih (j + 1) (by omega))
    | false => exact Evn.neg (by decide) (Evn.now _)
/-- What All answers. -/
theorem all {b : List Int} (h : Fit b.length) (h8 : Fit8 b.length) (l : List S40) (hl : l.length < 9223372036854775807) (hc : ∀ v ∈ l, Cnt v ∧ v.f3.size ≤ 140737488351232) :
    Evn (fun k => bloom_All.f k b l) (l.all (hs b)) := all_l0 h h8 l hl hc l.length 0 (by omega)

/-! ### bits -/
theorem shl1 : ∀ r : Nat, r < 8 → shl .u8 1 (r : Int) = ((2 ^ r : Nat) : Int) := by decide +kernel
theorem and1 : ∀ r : Nat, r < 8 → ∀ x : Nat, x < 256 → (!decide ((Go.bits .and .u8 (shr .u8 (x : Int) (r : Int)) 1) = 0)) = x.testBit r := by decide +kernel
theorem or8 (a b : Nat) (ha : a < 256) (hb : b < 256) : Go.bits .or .u8 (a : Int) (b : Int) = ((a ||| b : Nat) : Int) := by
  have hk : ∀ n : Int, 0 ≤ n → n < 2 ^ 8 → IntKind.u8.wrap n = n := by intro n h0 h1; simp only [IntKind.wrap, IntKind.bits, IntKind.signed]; simp; omega
  have := bits_nat .u8 8 (Nat.le_refl _) hk a b (by omega) (by omega)
  exact this.2
theorem bit_nat {b : List Int} (hb : Bytes b) (p : Nat) (hp : p < 8 * b.length) (hn : b.length ≤ 65536) : bit b (p : Int) = ((b.getD (p / 8) 0).toNat).testBit (p % 8) := by
  have hd := div8 (p := (p : Int)) (n := b.length) (by omega) (by omega) hn
  unfold bit
  rw [hd.1, hd.2, show (p : Int) / 8 = ((p / 8 : Nat) : Int) by omega, show (p : Int) % 8 = ((p % 8 : Nat) : Int) by omega, rd_nat, getD_lt (show p / 8 < b.length by omega)]
  have hx := hb _ (List.getElem_mem (show p / 8 < b.length by omega))
  generalize b[p / 8] = x at hx
  obtain ⟨a, rfl⟩ := Int.eq_ofNat_of_zero_le hx.1
  rw [Int.toNat_natCast]
  exact and1 _ (Nat.mod_lt _ (by omega)) a (by omega)
theorem getD_set {l : List Int} {i j : Nat} {x d : Int} (hi : i < l.length) : (l.set i x).getD j d = if i = j then x else l.getD j d := by
  simp only [List.getD_eq_getElem?_getD, List.getElem?_set, hi, if_true]
  split <;> simp
theorem put_eq {b : List Int} (p : Nat) (hp : p < 8 * b.length) (hn : b.length ≤ 65536) (hb : Bytes b) : put b (p : Int) = b.set (p / 8) ((((b.getD (p / 8) 0).toNat) ||| 2 ^ (p % 8) : Nat) : Int) := by
  have hd := div8 (p := (p : Int)) (n := b.length) (by omega) (by omega) hn
  unfold put
  rw [hd.1, hd.2, show (p : Int) / 8 = ((p / 8 : Nat) : Int) by omega, show (p : Int) % 8 = ((p % 8 : Nat) : Int) by omega, rd_nat, Int.toNat_natCast, shl1 _ (Nat.mod_lt _ (by omega)), getD_lt (show p / 8 < b.length by omega)]
  have hx := hb _ (List.getElem_mem (show p / 8 < b.length by omega))
  generalize b[p / 8] = x at hx
  obtain ⟨a, rfl⟩ := Int.eq_ofNat_of_zero_le hx.1
  rw [Int.toNat_natCast, or8 a _ (by omega) (by
    have : 2 ^ (p % 8) ≤ 2 ^ 7 := Nat.pow_le_pow_right (by omega) (by omega)
    omega)]
theorem or_lt {a b : Nat} (ha : a < 256) (hb : b < 256) : a ||| b < 256 := Nat.or_lt_two_pow (n := 8) ha hb
theorem put_bytes {b : List Int} (p : Nat) (hp : p < 8 * b.length) (hn : b.length ≤ 65536) (hb : Bytes b) : Bytes (put b (p : Int)) := by
  rw [put_eq p hp hn hb]
  intro x hx
  rcases List.mem_or_eq_of_mem_set hx with h | rfl
  · exact hb x h
  · have h1 : 2 ^ (p % 8) ≤ 2 ^ 7 := Nat.pow_le_pow_right (by omega) (by omega)
    have h2 := hb _ (List.getElem_mem (show p / 8 < b.length by omega))
    rw [getD_lt (show p / 8 < b.length by omega)]
    have := or_lt (a := (b[p / 8]).toNat) (b := 2 ^ (p % 8)) (by omega) (by omega)
    omega
theorem bit_put {b : List Int} (p q : Nat) (hp : p < 8 * b.length) (hq : q < 8 * b.length) (hn : b.length ≤ 65536) (hb : Bytes b) : bit (put b (p : Int)) (q : Int) = (bit b (q : Int) || decide (p = q)) := by
  rw [bit_nat (put_bytes p hp hn hb) q (by rw [put_len]; exact hq) (by rw [put_len]; exact hn), bit_nat hb q hq hn, put_eq p hp hn hb, getD_set (by omega)]
  by_cases e : p / 8 = q / 8
  · rw [if_pos e, Int.toNat_natCast, Nat.testBit_or, e, Nat.testBit_two_pow]
    congr 1
    exact decide_eq_decide.2 (by omega)
  · rw [if_neg e, decide_eq_false (by omega : ¬ p = q), Bool.or_false]
theorem puts_spec {n : Nat} (hn : n ≤ 65536) (ps : List Int) : ∀ b : List Int, b.length = n → Bytes b → (∀ p ∈ ps, 0 ≤ p ∧ p < 8 * n) →
    Bytes (ps.foldl put b) ∧ ∀ q : Int, 0 ≤ q → q < 8 * n → bit (ps.foldl put b) q = (bit b q || decide (q ∈ ps)) := by
  induction ps with
  | nil => intro b hb hB _; exact ⟨hB, fun q _ _ => by simp⟩
  | cons p ps ih =>
    intro b hb hB hp
    have h0 := hp p (by simp)
    obtain ⟨p, rfl⟩ := Int.eq_ofNat_of_zero_le h0.1
    have := ih (put b p) (by rw [put_len, hb]) (put_bytes p (by omega) (by omega) hB) (fun x hx => hp x (by simp [hx]))
    refine ⟨this.1, fun q hq0 hq1 => ?_⟩
    rw [List.foldl_cons, this.2 q hq0 hq1]
    obtain ⟨q, rfl⟩ := Int.eq_ofNat_of_zero_le hq0
    rw [bit_put p q (by omega) (by omega) (by omega) hB, Bool.or_assoc]
    congr 1
    by_cases e : p = q
    · subst e; simp
    · rw [decide_eq_false e, Bool.false_or]
      exact decide_eq_decide.2 (by simp only [List.mem_cons]; constructor
                                   · exact Or.inr
                                   · rintro (h | h)
                                     · omega
                                     · exact h)
theorem bld_spec {n : Nat} (h : Fit n) (l : List S40) : ∀ b : List Int, b.length = n → Bytes b →
    Bytes (bld n l b) ∧ ∀ q : Int, 0 ≤ q → q < 8 * n → bit (bld n l b) q = (bit b q || l.any fun v => decide (q ∈ pls v n)) := by
  induction l with
  | nil => intro b hb hB; exact ⟨hB, fun q _ _ => by simp [bld]⟩
  | cons v l ih =>
    intro b hb hB
    have hp := puts_spec h.2.1 (pls v n) b hb hB (pls_range h v)
    have := ih ((pls v n).foldl put b) (by rw [puts_len, hb]) hp.1
    refine ⟨this.1, fun q h0 h1 => ?_⟩
    show bit (bld n l _) q = _
    rw [this.2 q h0 h1, hp.2 q h0 h1, List.any_cons, Bool.or_assoc]
theorem zeros (n : Nat) : Bytes (List.replicate n 0) := fun x hx => by rw [(List.mem_replicate.1 hx).2]; omega
theorem bit_zeros {n : Nat} (hn : n ≤ 65536) (q : Int) (h0 : 0 ≤ q) (h1 : q < 8 * n) : bit (List.replicate n 0) q = false := by
  obtain ⟨q, rfl⟩ := Int.eq_ofNat_of_zero_le h0
  rw [bit_nat (zeros n) q (by simp; omega) (by simp; omega), getD_lt (by simp; omega)]
  simp
/-- The filter of a list. -/
def flt (n : Nat) (l : List S40) : List Int := bld n l (List.replicate n 0)
/-- What Build answers. -/
theorem buildf {n : Nat} (h : Fit n) (h8 : Fit8 n) (l : List S40) (hl : l.length < 9223372036854775807) (hc : ∀ v ∈ l, Cnt v ∧ v.f3.size ≤ 140737488351232) :
    Evn (fun k => bloom_Build.f k (n : Int) l) (flt n l, 0) := build h h8 l hl hc
theorem flt_len (n : Nat) (l : List S40) : (flt n l).length = n := by unfold flt; rw [bld_len]; simp
theorem flt_bytes {n : Nat} (h : Fit n) (l : List S40) : Bytes (flt n l) := (bld_spec h l _ (by simp) (zeros n)).1
theorem flt_bit {n : Nat} (h : Fit n) (l : List S40) (q : Int) (h0 : 0 ≤ q) (h1 : q < 8 * n) : bit (flt n l) q = l.any fun v => decide (q ∈ pls v n) := by
  have := (bld_spec h l _ (by simp) (zeros n)).2 q h0 h1
  unfold flt
  rw [this, bit_zeros h.2.1 q h0 h1, Bool.false_or]
/-- Bits say all. -/
theorem bits_ext {a b : List Int} (ha : Bytes a) (hb : Bytes b) (hl : a.length = b.length) (hn : a.length ≤ 65536) (h : ∀ q : Int, 0 ≤ q → q < 8 * a.length → bit a q = bit b q) : a = b := by
  apply List.ext_getElem hl
  intro i h1 h2
  have ra := ha _ (List.getElem_mem h1)
  have rb := hb _ (List.getElem_mem h2)
  have : (a[i]).toNat = (b[i]).toNat := by
    apply Nat.eq_of_testBit_eq
    intro j
    by_cases hj : j < 8
    · have := h ((8 * i + j : Nat) : Int) (by omega) (by omega)
      rw [bit_nat ha _ (by omega) hn, bit_nat hb _ (by omega) (by omega), show (8 * i + j) / 8 = i by omega, show (8 * i + j) % 8 = j by omega, getD_lt h1, getD_lt h2] at this
      exact this
    · have h256 : 256 ≤ 2 ^ j := by
        have : 2 ^ 8 ≤ 2 ^ j := Nat.pow_le_pow_right (by omega) (by omega)
        omega
      rw [Nat.testBit_lt_two_pow (by omega), Nat.testBit_lt_two_pow (by omega)]
  omega

/-! ### filters put together -/
/-- Two filters, put together. -/
def jn (a b : List Int) : List Int := List.zipWith (Go.bits .or .u8) a b
theorem jn_len {a b : List Int} (h : a.length = b.length) : (jn a b).length = a.length := by simp [jn, h]
theorem or8' {x y : Int} (hx : 0 ≤ x ∧ x < 256) (hy : 0 ≤ y ∧ y < 256) : Go.bits .or .u8 x y = ((x.toNat ||| y.toNat : Nat) : Int) := by
  obtain ⟨a, rfl⟩ := Int.eq_ofNat_of_zero_le hx.1
  obtain ⟨b, rfl⟩ := Int.eq_ofNat_of_zero_le hy.1
  exact or8 a b (by omega) (by omega)
theorem jn_bytes {a b : List Int} : Bytes (jn a b) := by
  intro x hx
  obtain ⟨i, hi, rfl⟩ := List.getElem_of_mem hx
  simp only [jn, List.getElem_zipWith]
  have := bits_lo_u8 .or a[i]! b[i]!
  exact ⟨bits_lo_u8 .or _ _, by have := bits_hi_u8 .or (a[i]'(by simp [jn] at hi; omega)) (b[i]'(by simp [jn] at hi; omega)); omega⟩
theorem bit_jn {a b : List Int} (ha : Bytes a) (hb : Bytes b) (hl : a.length = b.length) (hn : a.length ≤ 65536) (q : Int) (h0 : 0 ≤ q) (h1 : q < 8 * a.length) : bit (jn a b) q = (bit a q || bit b q) := by
  obtain ⟨q, rfl⟩ := Int.eq_ofNat_of_zero_le h0
  have hq : q / 8 < a.length := by omega
  have hq2 : q / 8 < b.length := by omega
  have hj := jn_len hl
  rw [bit_nat jn_bytes q (by omega) (by omega), bit_nat ha q (by omega) hn, bit_nat hb q (by omega) (by omega), getD_lt (by omega), getD_lt hq, getD_lt hq2]
  simp only [jn, List.getElem_zipWith]
  rw [or8' (ha _ (List.getElem_mem hq)) (hb _ (List.getElem_mem hq2)), Int.toNat_natCast, Nat.testBit_or]
theorem join_l1 (x0 : List (List Int)) (x9 : List (List Int)) (x10 i : Int) (R : List Int × Int) (hl : ∀ x : List Int, x.length < 9223372036854775807 → True) (y : List Int) (hy : y.length < 9223372036854775807) :
    ∀ (d j : Nat) (p a : List Int), j + d = y.length → p.length = j → a.length = d →
    Evn (fun k => bloom_Join.l0 k x0 (p ++ List.zipWith (Go.bits .or .u8) a (y.drop j)) x9 x10 (wrap64 (i + 1))) R →
    Evn (fun k => bloom_Join.l1 k x0 (p ++ a) x9 x10 i y (y.length : Int) (j : Int)) R := by
  intro d
  induction d with
  | zero =>
    intro j p a e hp ha hR
    refine Evn.succ (fun _ => rfl) ?_
    simp only [bloom_Join.l1]
    refine Evn.neg (by omega) ?_
    obtain rfl : a = [] := List.eq_nil_of_length_eq_zero ha
    simpa using hR
  | succ d ih =>
    intro j p a e hp ha hR
    obtain ⟨x, a, rfl⟩ : ∃ x t, a = x :: t := by cases a with
      | nil => simp at ha
      | cons x t => exact ⟨x, t, rfl⟩
    refine Evn.succ (fun _ => rfl) ?_
    simp only [bloom_Join.l1]
    have hj : j < y.length := by omega
    refine Evn.pos (by omega) (Evn.pos (by omega) (Evn.pos (by omega) (Evn.pos (by simp; omega) ?_)))
    rw [w1 (by omega), rd_nat, rd_nat, getD_lt hj, Int.toNat_natCast]
    have e1 : (p ++ x :: a).getD j 0 = x := by subst hp; simp
    have e2 : ∀ z, (p ++ x :: a).set j z = (p ++ [z]) ++ a := by intro z; subst hp; simp
    rw [e1, e2]
    refine ih (j + 1) _ _ (by omega) (by simp [hp]) (by simpa using ha) ?_
    rw [List.drop_eq_getElem_cons hj, List.zipWith_cons_cons] at hR
    rw [List.append_assoc]
    exact hR
theorem join_l0 {n : Nat} (h : Fit n) (l : List (List Int)) (hl : l.length < 9223372036854775807) (hn : ∀ b ∈ l, b.length = n) : ∀ (d j : Nat) (a : List Int), 0 < j → j + d = l.length → a.length = n →
    Evn (fun k => bloom_Join.l0 k l a l (l.length : Int) (j : Int)) ((l.drop j).foldl jn a, 0) := by
  intro d
  induction d with
  | zero =>
    intro j a h0 e ha
    refine Evn.succ (fun _ => rfl) ?_
    simp only [bloom_Join.l0]
    refine Evn.neg (by omega) ?_
    rw [List.drop_of_length_le (by omega)]
    exact Evn.now _
  | succ d ih =>
    intro j a h0 e ha
    refine Evn.succ (fun _ => rfl) ?_
    simp only [bloom_Join.l0]
    have hj : j < l.length := by omega
    have hlj := hn l[j] (List.getElem_mem hj)
    have h2 := h.2.1
    have er : rd_L1 l (j : Int) = l[j] := by unfold rd_L1; rw [Int.toNat_natCast, getD_lt hj]
    have e0 : (rd_L1 l 0).length = n := by
      have : rd_L1 l 0 = l[0] := by unfold rd_L1; exact getD_lt (by omega)
      rw [this]; exact hn _ (List.getElem_mem _)
    rw [er, e0, hlj]
    simp only [fit_f h, Option.bind_some]
    refine Evn.pos (by omega) (Evn.pos (by omega) (Evn.pos (by omega) (Evn.pos (by trivial) (Evn.pos (by omega) ?_))))
    rw [show ((n : Int) != (n : Int)) = false by simp]
    refine Evn.succ (fun _ => rfl) ?_
    simp only [bloom_Join.j1]
    refine Evn.neg (by decide) (Evn.neg (by omega) ?_)
    refine Evn.succ (fun _ => rfl) ?_
    simp only [bloom_Join.j2]
    have := join_l1 l l (l.length : Int) (j : Int) ((l.drop j).foldl jn a, 0) (fun _ _ => trivial) l[j] (by omega) n 0 [] a (by omega) rfl ha (by
      rw [w1 (by omega), List.drop_zero, List.nil_append, List.drop_eq_getElem_cons hj]
      exact ih (j + 1) _ (by omega) (by omega) (by rw [List.length_zipWith]; omega))
    exact this
/-- What Join answers. -/
theorem join {n : Nat} (h : Fit n) (l : List (List Int)) (hl : l.length < 9223372036854775807) (hn : ∀ b ∈ l, b.length = n) :
    Evn (fun k => bloom_Join.f k l) (if l = [] then [] else l.foldl jn (List.replicate n 0), 0) := by
  unfold bloom_Join.f
  refine Evn.succ (fun _ => rfl) ?_
  simp only [bloom_Join.l0]
  cases hl0 : l with
  | nil => refine Evn.neg (by simp) ?_; exact Evn.now _
  | cons b t =>
    rw [if_neg (by simp), ← hl0]
    have hj : 0 < l.length := by rw [hl0]; simp
    have hlj := hn l[0] (List.getElem_mem hj)
    have h2 := h.2.1
    have er : rd_L1 l 0 = l[0] := by unfold rd_L1; exact getD_lt (by omega)
    rw [er, hlj]
    simp only [fit_f h, Option.bind_some]
    refine Evn.pos (by omega) (Evn.pos (by omega) (Evn.pos (by omega) (Evn.pos (by trivial) (Evn.pos (by omega) ?_))))
    rw [show ((n : Int) != (n : Int)) = false by simp]
    refine Evn.succ (fun _ => rfl) ?_
    simp only [bloom_Join.j1]
    refine Evn.neg (by decide) (Evn.pos (by trivial) (Evn.pos (by omega) (Evn.pos (by omega) ?_)))
    refine Evn.succ (fun _ => rfl) ?_
    simp only [bloom_Join.j2]
    rw [hlj, Int.toNat_natCast]
    have := join_l1 l l (l.length : Int) 0 (l.foldl jn (List.replicate n 0), 0) (fun _ _ => trivial) l[0] (by omega) n 0 [] (List.replicate n 0) (by omega) rfl (by simp) (by
      have := join_l0 h l hl hn (l.length - 1) 1 (jn (List.replicate n 0) l[0]) (by omega) (by omega) (by rw [jn_len (by simp [hlj])]; simp)
      rw [show wrap64 (0 + 1) = ((1 : Nat) : Int) by decide +kernel, List.drop_zero, List.nil_append]
      have e : l.foldl jn (List.replicate n 0) = (l.drop 1).foldl jn (jn (List.replicate n 0) l[0]) := by simp [hl0]
      rw [e]
      exact this)
    rw [hlj] at this
    exact this
end Go.Proofs.Ytgmeefgihidomaa.B
