/- The texts of CursorBack, merged: part 37. -/
import Derived.Test.YthpoomdillhcbaaQCursorBack27
import Derived.Test.YthpoomdillhcbaaQCursorBack28
import Derived.Test.YthpoomdillhcbaaQCursorBack6
import Derived.Test.YthpoomdillhcbaaQCursorBack36
/- CursorBack: things (no more than the second form's size) that are put behind each other are read again; of any shorter beginning a reading says that it is short. -/
namespace Go.Proofs.Ythpoomdillhcbaa.Pure
open Go.RowKit Go.Proofs.Ythpoomdillhcbaa.Pa Go.Proofs.Ythpoomdillhcbaa.L Go.Proofs.Ythpoomdillhcbaa.O Go.Proofs.YthpoomdillhcbaaW.PrintWords Go.Proofs.YthpoomdillhcbaaW.PrintLast Go.Proofs.YthpoomdillhcbaaW.PrintMore
set_option linter.unusedVariables false
set_option linter.unusedSimpArgs false
theorem strOf_bytes (s : ByteArray) : strOfNums (bytesOf s) = s := by
  apply ByteArray.ext
  apply Array.toList_inj.1
  rw [strOfNums_data, bytesOf, List.map_map]
  conv => rhs; rw [← List.map_id s.data.toList]
  apply List.map_congr_left
  intro a _
  simp
theorem bytes_bytesOf (s : ByteArray) : Bytes (bytesOf s) := fun x hx => by
  rw [bytesOf] at hx
  obtain ⟨b, _, rfl⟩ := List.mem_map.1 hx
  have := b.toNat_lt
  omega
def tx (t : List ByteArray) : List (List Int) := t.map bytesOf
theorem tx_str (t : List ByteArray) : (tx t).map strOfNums = t := by
  unfold tx
  rw [List.map_map]
  conv => rhs; rw [← List.map_id t]
  exact List.map_congr_left (fun s _ => strOf_bytes s)
def pk (a : Int) : Int := if Int.tmod a 9 < 0 then Int.tmod a 9 + 9 else Int.tmod a 9
theorem pick9 (a : Int) : 0 ≤ pk a ∧ pk a < 9 ∧ colonnadelaw07_pick.f a 9 = some (pk a) := by
  have h1 := Int.tmod_lt_of_pos a (show (0 : Int) < 9 by decide)
  have h2 := Int.lt_tmod_of_pos a (show (0 : Int) < 9 by decide)
  have e : colonnadelaw07_pick.f a 9 = some (pk a) := by
    unfold colonnadelaw07_pick.f
    rw [if_neg (show ¬ (9 : Int) = 0 by decide)]
    unfold pk
    by_cases h : Int.tmod a 9 < 0
    · rw [if_pos h, if_pos h, wrap64_in (by omega) (by omega)]
    · rw [if_neg h, if_neg h]
  refine ⟨?_, ?_, e⟩
  · unfold pk; split <;> omega
  · unfold pk; split <;> omega
theorem pickn (a n : Int) (hn : 0 < n) (hn1 : n < 1000000000) : ∃ b, 0 ≤ b ∧ b < n ∧ colonnadelaw07_pick.f a n = some b := by
  have h1 := Int.tmod_lt_of_pos a hn
  have h2 := Int.lt_tmod_of_pos a hn
  unfold colonnadelaw07_pick.f
  rw [if_neg (by omega)]
  by_cases h : Int.tmod a n < 0
  · rw [if_pos h, wrap64_in (by omega) (by omega)]
    exact ⟨_, by omega, by omega, rfl⟩
  · rw [if_neg h]
    exact ⟨_, by omega, by omega, rfl⟩
/-- What the Put of a thing writes. -/
def form (kk : Int) (u : Nat) (s : Int) (b : List Int) (t : List ByteArray) : List Int :=
  if kk = 0 then le 1 (u % 256) else if kk = 1 then le 2 (u % 65536) else if kk = 2 then le 4 (u % 4294967296) else if kk = 3 then le 8 u else if kk = 4 then le 2 (u % 65536)
  else if kk = 5 then sf u else if kk = 6 then sf (foldV s).toNat else if kk = 7 then blkf b else txf (tx t)
theorem tx_blkl (t : List ByteArray) : blkl (tx t) = (t.map fun s => s.size + 10).sum := by
  unfold blkl tx
  rw [List.map_map]
  congr 1
  apply List.map_congr_left
  intro s _
  simp [bytesOf_length]
theorem sum10 (t : List ByteArray) : (t.map fun s => s.size + 10).sum ≤ 10 * (t.map fun s : ByteArray => s.size + 1).sum := by
  induction t with
  | nil => simp
  | cons s t ih => simp only [List.map_cons, List.sum_cons]; omega
theorem size_sum (t : List ByteArray) : ∀ s ∈ t, s.size + 1 ≤ (t.map fun s : ByteArray => s.size + 1).sum := by
  induction t with
  | nil => simp
  | cons s t ih =>
    intro x hx
    simp only [List.map_cons, List.sum_cons]
    rcases List.mem_cons.1 hx with rfl | hx
    · omega
    · have := ih x hx; omega
theorem len_sum {α : Type} (m : α → Nat) (hm : ∀ x, 1 ≤ m x) (l : List α) : l.length ≤ (l.map m).sum := by
  induction l with
  | nil => simp
  | cons x l ih => have := hm x; simp only [List.length_cons, List.map_cons, List.sum_cons]; omega
/-- A thing whose parts are small. -/
structure Ok (u : Nat) (s : Int) (b : List Int) (t : List ByteArray) : Prop where
  hu : u < 18446744073709551616
  s0 : -9223372036854775808 ≤ s
  s1 : s ≤ 9223372036854775807
  hb : Bytes b
  bl : b.length ≤ 1048576
  ht : (t.map fun s : ByteArray => s.size + 1).sum ≤ 1048576
theorem Ok.tl {u s b t} (h : Ok u s b t) : t.length ≤ 1048576 := Nat.le_trans (len_sum _ (fun _ => by omega) t) h.ht
theorem Ok.ts {u s b t} (h : Ok u s b t) : ∀ x ∈ t, x.size ≤ 1048576 := fun x hx => by have := size_sum t x hx; have := h.ht; omega
theorem form_len (kk : Int) (u : Nat) (s : Int) (b : List Int) (t : List ByteArray) (h : Ok u s b t) : 1 ≤ (form kk u s b t).length ∧ (form kk u s b t).length ≤ 12 * (3 + (b.length + 1) + ((t.map fun s : ByteArray => s.size + 1).sum + 1) + 1) := by
  unfold form
  have hu := sf_len10 h.hu
  have hv := foldV_range s h.s0 h.s1
  have hw := sf_len10 (n := (foldV s).toNat) (by omega)
  have hb := sf_len10 (n := b.length) (by have := h.bl; omega)
  have ht := sf_len10 (n := (tx t).length) (by have := h.tl; simp [tx]; omega)
  have hbl := blks_len (tx t) (fun p hp => by
    obtain ⟨x, hx, rfl⟩ := List.mem_map.1 hp
    rw [bytesOf_length]
    have := h.ts x hx
    omega)
  rw [tx_blkl] at hbl
  have h10 := sum10 t
  have p1 := sf_pos u
  have p2 := sf_pos (foldV s).toNat
  have p3 := sf_pos b.length
  have p4 := sf_pos (tx t).length
  split
  · rw [le_length]; omega
  split
  · rw [le_length]; omega
  split
  · rw [le_length]; omega
  split
  · rw [le_length]; omega
  split
  · rw [le_length]; omega
  split
  · omega
  split
  · omega
  split
  · rw [blkf, List.length_append]; omega
  · rw [txf, List.length_append]; omega
theorem u16w (u : Nat) : IntKind.u16.wrap (u : Int) = ((u % 65536 : Nat) : Int) := by rw [IntKind.wrap_u16]; omega
theorem put_e (kk : Int) (hk : 0 ≤ kk ∧ kk < 9) (f0 : Int) (hp : colonnadelaw07_pick.f f0 9 = some kk) (u : Nat) (s : Int) (b : List Int) (t : List ByteArray) (h : Ok u s b t) (x : List Int) (hx : x.length ≤ 100000000) :
    Evn (fun k => colonnadelaw07_put.f k x f0 (u : Int) s b t) (x ++ form kk u s b t) := by
  unfold colonnadelaw07_put.f form
  rw [hp]
  simp only [Option.bind_some]
  have hbl := h.bl
  have hu := h.hu
  by_cases h0 : kk = 0
  · rw [if_pos h0]
    refine Evn.pos h0 (Evn.bind ?_ (Evn.now _))
    rw [show (u : Int) % 256 = ((u % 256 : Nat) : Int) by omega]
    exact put_uint8_e _ (by omega) x (by omega)
  rw [if_neg h0]
  refine Evn.neg h0 ?_
  by_cases h0 : kk = 1
  · rw [if_pos h0]
    refine Evn.pos h0 (Evn.bind ?_ (Evn.now _))
    rw [u16w]
    exact put_uint16_e _ (by omega) x (by omega)
  rw [if_neg h0]
  refine Evn.neg h0 ?_
  by_cases h0 : kk = 2
  · rw [if_pos h0]
    refine Evn.pos h0 (Evn.bind ?_ (Evn.now _))
    rw [show (u : Int) % 4294967296 = ((u % 4294967296 : Nat) : Int) by omega]
    exact put_uint32_e _ (by omega) x (by omega)
  rw [if_neg h0]
  refine Evn.neg h0 ?_
  by_cases h0 : kk = 3
  · rw [if_pos h0]
    refine Evn.pos h0 (Evn.bind ?_ (Evn.now _))
    exact put_uint64_e _ (by omega) x (by omega)
  rw [if_neg h0]
  refine Evn.neg h0 ?_
  by_cases h0 : kk = 4
  · rw [if_pos h0]
    refine Evn.pos h0 (Evn.bind ?_ (Evn.now _))
    rw [u16w]
    exact put_tall_e _ (by omega) x (by omega)
  rw [if_neg h0]
  refine Evn.neg h0 ?_
  by_cases h0 : kk = 5
  · rw [if_pos h0]
    exact Evn.pos h0 (Evn.bind (putuv_e u hu x (by omega)) (Evn.now _))
  rw [if_neg h0]
  refine Evn.neg h0 ?_
  by_cases h0 : kk = 6
  · rw [if_pos h0]
    exact Evn.pos h0 (Evn.bind (putvi_e s h.s0 h.s1 x (by omega)) (Evn.now _))
  rw [if_neg h0]
  refine Evn.neg h0 ?_
  by_cases h0 : kk = 7
  · rw [if_pos h0]
    exact Evn.pos h0 (Evn.bind (putblk_e x b (by omega)) (Evn.now _))
  rw [if_neg h0]
  refine Evn.neg h0 ?_
  have h1 := puttx_e (tx t) (fun p hp => by obtain ⟨y, _, rfl⟩ := List.mem_map.1 hp; exact bytes_bytesOf y) x (by rw [tx_blkl]; have := sum10 t; have := h.ht; omega) (by have := h.tl; simp [tx]; omega)
  rw [tx_str] at h1
  exact Evn.bind h1 (Evn.now _)
/-! ### reading -/
theorem at_in {bs : List Int} {at_ : Int} (h0 : 0 ≤ at_) (h1 : at_ ≤ bs.length) : atIn bs at_ := ⟨h0, h1⟩
theorem takR_no {n : Nat} {bs : List Int} {at_ : Int} (h : ¬ at_ + n ≤ bs.length) : takR n bs at_ 0 = (0, at_, 71) := by
  unfold takR
  rw [if_neg (by omega), if_neg h]
theorem takR_le {n v : Nat} {bs rest : List Int} {at_ : Int} (hn : n ≤ 8) (hv : v < 2 ^ (8 * n)) (h0 : 0 ≤ at_) (h1 : at_ ≤ bs.length) (e : bs.drop at_.toNat = le n v ++ rest) : takR n bs at_ 0 = ((v : Int), (bs.length : Int) - rest.length, 0) := by
  have hl := congrArg List.length e
  rw [List.length_drop, List.length_append, le_length] at hl
  unfold takR
  rw [if_neg (by omega), if_pos (by omega), e, List.take_left' (le_length n v)]
  have h3 := takV_lv (le n v) 0 0 (le_bytes n v) (by rw [le_length]; omega) (by simp)
  rw [lv_le n v hv] at h3
  simp only [Nat.mul_zero, Nat.pow_zero, Nat.mul_one, Nat.zero_add] at h3
  rw [show (0 : Int) = ((0 : Nat) : Int) from rfl, h3]
  congr 2
  omega
theorem takR_cut {n v : Nat} {bs c : List Int} {at_ : Int} (h0 : 0 ≤ at_) (h1 : at_ ≤ bs.length) (e : le n v = bs.drop at_.toNat ++ c) (hc : c ≠ []) : takR n bs at_ 0 = (0, at_, 71) := by
  apply takR_no
  have hl := congrArg List.length e
  have hp := List.length_pos_iff.2 hc
  rw [le_length, List.length_append, List.length_drop] at hl
  omega
theorem ite_in {α : Type} {bs : List Int} {at_ n : Int} (h0 : 0 ≤ at_) (h1 : at_ ≤ bs.length) (hn : -9223372036854775808 ≤ n ∧ n ≤ 9223372036854775807) (hl : bs.length < 140737488355328) (x y : α) : (if atIn bs at_ ∧ (-9223372036854775808 ≤ n ∧ n ≤ 9223372036854775807) ∧ bs.length < 140737488355328 then x else y) = x := if_pos ⟨⟨h0, h1⟩, hn, hl⟩
theorem longest_l0 (t : List ByteArray) (hl : t.length ≤ 1048576) (ht : ∀ s ∈ t, s.size ≤ 1048576) (d : Nat) : ∀ (i : Nat) (m : Int), i + d = t.length → 0 ≤ m → m ≤ 1048576 → (∀ s ∈ t.take i, (s.size : Int) ≤ m) →
    ∃ L : Int, 0 ≤ L ∧ L ≤ 1048576 ∧ (∀ s ∈ t, (s.size : Int) ≤ L) ∧ Evn (fun k => colonnadelaw07_longest.l0 k t m (i : Int)) L := by
  induction d with
  | zero =>
    intro i m hi h0 h1 h2
    refine ⟨m, h0, h1, ?_, Evn.succ (fun _ => rfl) ?_⟩
    · rw [List.take_of_length_le (by omega)] at h2; exact h2
    · simp only [colonnadelaw07_longest.l0]
      exact Evn.neg (by omega) (Evn.now _)
  | succ d ih =>
    intro i m hi h0 h1 h2
    have hi' : i < t.length := by omega
    have er : rdOf ByteArray.empty t (i : Int) = t[i] := by unfold rdOf; rw [Int.toNat_natCast, List.getD_eq_getElem?_getD, List.getElem?_eq_getElem hi']; rfl
    have hs := ht _ (List.getElem_mem hi')
    have hm : m ≤ mx m (t[i].size : Int) ∧ (t[i].size : Int) ≤ mx m (t[i].size : Int) ∧ mx m (t[i].size : Int) ≤ 1048576 := by unfold mx; split <;> omega
    obtain ⟨L, a, b, c, e⟩ := ih (i + 1) (mx m (t[i].size : Int)) (by omega) (by omega) hm.2.2 (fun s hs => by
      rw [List.take_succ_eq_append_getElem hi'] at hs
      rcases List.mem_append.1 hs with hs | hs
      · have := h2 s hs; omega
      · obtain rfl : s = t[i] := by simpa using hs
        exact hm.2.1)
    refine ⟨L, a, b, c, Evn.succ (fun _ => rfl) ?_⟩
    simp only [colonnadelaw07_longest.l0]
    refine Evn.pos (by omega) (Evn.pos (by omega) ?_)
    rw [er, wrap64_in (n := (i : Int) + 1) (by omega) (by omega), show (i : Int) + 1 = ((i + 1 : Nat) : Int) by omega]
    exact e
theorem longest_e (t : List ByteArray) (hl : t.length ≤ 1048576) (ht : ∀ s ∈ t, s.size ≤ 1048576) : ∃ L : Int, 0 ≤ L ∧ L ≤ 1048576 ∧ (∀ s ∈ t, (s.size : Int) ≤ L) ∧ Evn (fun k => colonnadelaw07_longest.f k t) L :=
  longest_l0 t hl ht t.length 0 0 (by omega) (by omega) (by omega) (by simp)
theorem same_l0 (t : List ByteArray) (hl : t.length ≤ 1048576) (d : Nat) : ∀ i : Nat, i + d = t.length → Evn (fun k => colonnadelaw07_sameTexts.l0 k t t (i : Int)) true := by
  induction d with
  | zero =>
    intro i hi
    refine Evn.succ (fun _ => rfl) ?_
    simp only [colonnadelaw07_sameTexts.l0]
    exact Evn.neg (by omega) (Evn.now _)
  | succ d ih =>
    intro i hi
    refine Evn.succ (fun _ => rfl) ?_
    simp only [colonnadelaw07_sameTexts.l0]
    refine Evn.pos (by omega) (Evn.pos (by omega) (Evn.pos (by omega) (Evn.pos trivial ?_)))
    rw [wrap64_in (n := (i : Int) + 1) (by omega) (by omega), show (i : Int) + 1 = ((i + 1 : Nat) : Int) by omega]
    exact ih (i + 1) (by omega)
theorem same_e (t : List ByteArray) (hl : t.length ≤ 1048576) : Evn (fun k => colonnadelaw07_sameTexts.f k t t) true := by
  unfold colonnadelaw07_sameTexts.f
  exact Evn.pos rfl (same_l0 t hl t.length 0 (by omega))
theorem str_self (a : List Int) : ((strOfNums a).toList == (strOfNums a).toList) = true := beq_self_eq_true _
theorem back_ok (kk : Int) (hk : 0 ≤ kk ∧ kk < 9) (f0 : Int) (hp : colonnadelaw07_pick.f f0 9 = some kk) (u : Nat) (s : Int) (b : List Int) (t : List ByteArray) (h : Ok u s b t) (bs rest : List Int) (hl : bs.length ≤ 100000000) (at_ : Int) (h0 : 0 ≤ at_) (h1 : at_ ≤ bs.length) (e : bs.drop at_.toNat = form kk u s b t ++ rest) :
    Evn (fun k => colonnadelaw07_back.f k bs at_ 0 f0 (u : Int) s b t) (true, (bs.length : Int) - rest.length, 0) := by
  have hu := h.hu
  have hbl := h.bl
  have ha := at_in h0 h1
  unfold colonnadelaw07_back.f
  rw [hp]
  simp only [Option.bind_some]
  unfold form at e
  by_cases g : kk = 0
  · rw [if_pos g] at e
    refine Evn.pos g ?_
    simp only [cursor_Take_uint8.f, if_pos ha, takR_le (by omega) (show u % 256 < 2 ^ (8 * 1) by omega) h0 h1 e, Option.bind_some]
    rw [show (IntKind.u8.wrap ((u % 256 : Nat) : Int) == (u : Int) % 256) = true by rw [IntKind.wrap_u8, beq_iff_eq]; omega]
    exact Evn.now _
  rw [if_neg g] at e
  refine Evn.neg g ?_
  by_cases g : kk = 1
  · rw [if_pos g] at e
    refine Evn.pos g ?_
    simp only [cursor_Take_uint16.f, if_pos ha, takR_le (by omega) (show u % 65536 < 2 ^ (8 * 2) by omega) h0 h1 e, Option.bind_some]
    rw [show (IntKind.u16.wrap ((u % 65536 : Nat) : Int) == IntKind.u16.wrap (u : Int)) = true by rw [IntKind.wrap_u16, IntKind.wrap_u16, beq_iff_eq]; omega]
    exact Evn.now _
  rw [if_neg g] at e
  refine Evn.neg g ?_
  by_cases g : kk = 2
  · rw [if_pos g] at e
    refine Evn.pos g ?_
    simp only [cursor_Take_uint32.f, if_pos ha, takR_le (by omega) (show u % 4294967296 < 2 ^ (8 * 4) by omega) h0 h1 e, Option.bind_some]
    rw [show (IntKind.u32.wrap ((u % 4294967296 : Nat) : Int) == (u : Int) % 4294967296) = true by rw [IntKind.wrap_u32, beq_iff_eq]; omega]
    exact Evn.now _
  rw [if_neg g] at e
  refine Evn.neg g ?_
  by_cases g : kk = 3
  · rw [if_pos g] at e
    refine Evn.pos g ?_
    simp only [cursor_Take_uint64.f, if_pos ha, takR_le (by omega) (show u < 2 ^ (8 * 8) by omega) h0 h1 e, Option.bind_some]
    rw [show ((u : Int) == (u : Int)) = true from beq_self_eq_true _]
    exact Evn.now _
  rw [if_neg g] at e
  refine Evn.neg g ?_
  by_cases g : kk = 4
  · rw [if_pos g] at e
    refine Evn.pos g ?_
    simp only [colonnadelaw07_tall_74.f, if_pos ha, takR_le (by omega) (show u % 65536 < 2 ^ (8 * 2) by omega) h0 h1 e, Option.bind_some]
    rw [show (IntKind.u16.wrap ((u % 65536 : Nat) : Int) == IntKind.u16.wrap (u : Int)) = true by rw [IntKind.wrap_u16, IntKind.wrap_u16, beq_iff_eq]; omega]
    exact Evn.now _
  rw [if_neg g] at e
  refine Evn.neg g ?_
  by_cases g : kk = 5
  · rw [if_pos g] at e
    refine Evn.pos g ?_
    have e2 : uvR bs at_ 0 = ((u : Int), (bs.length : Int) - rest.length, 0) := by unfold uvR; rw [if_neg (by decide), e, numF_sf u hu]
    simp only [cursor_Reader_Uvarint.f, if_pos ha, e2, Option.bind_some]
    rw [show ((u : Int) == (u : Int)) = true from beq_self_eq_true _]
    exact Evn.now _
  rw [if_neg g] at e
  refine Evn.neg g ?_
  by_cases g : kk = 6
  · rw [if_pos g] at e
    refine Evn.pos g ?_
    have hv := foldV_range s h.s0 h.s1
    have e2 : viR bs at_ 0 = (s, (bs.length : Int) - rest.length, 0) := by
      unfold viR
      rw [if_neg (by decide), e, numF_sf _ (by omega)]
      dsimp only
      rw [Int.toNat_of_nonneg hv.1, unf_fold s h.s0 h.s1]
    simp only [cursor_Reader_Varint.f, if_pos ha, e2, Option.bind_some]
    rw [show (s == s) = true from beq_self_eq_true _]
    exact Evn.now _
  rw [if_neg g] at e
  refine Evn.neg g ?_
  by_cases g : kk = 7
  · rw [if_pos g] at e
    refine Evn.pos g ?_
    have e2 : blkR bs at_ 0 (b.length : Int) = (b, (bs.length : Int) - rest.length, 0) := by
      unfold blkR
      rw [if_neg (by decide), if_neg (by omega), e, blockF_of b rest _ (by omega) (by omega)]
    simp only [cursor_Reader_Block.f, if_pos (show atIn bs at_ ∧ (-9223372036854775808 ≤ (b.length : Int) ∧ (b.length : Int) ≤ 9223372036854775807) ∧ bs.length < 140737488355328 from ⟨ha, by omega, by omega⟩), e2, Option.bind_some, str_self]
    exact Evn.now _
  rw [if_neg g] at e
  refine Evn.neg g ?_
  obtain ⟨L, l0, l1, l2, l3⟩ := longest_e t h.tl h.ts
  refine Evn.bind l3 ?_
  have e2 : txR bs at_ 0 (t.length : Int) L = (t, (bs.length : Int) - rest.length, 0) := by
    unfold txR
    rw [if_neg (by decide), e, textsF_of (tx t) _ L rest (by simp [tx]) (by have := h.tl; simp [tx]; omega) l0 (fun q hq => by
      obtain ⟨y, hy, rfl⟩ := List.mem_map.1 hq
      rw [bytesOf_length]
      have := l2 y hy
      have := h.ts y hy
      omega)]
    dsimp only
    rw [tx_str]
  have htl := h.tl
  simp only [cursor_Reader_Texts.f, if_pos (show atIn bs at_ ∧ (-9223372036854775808 ≤ (t.length : Int) ∧ (t.length : Int) ≤ 9223372036854775807) ∧ (-9223372036854775808 ≤ L ∧ L ≤ 9223372036854775807) ∧ bs.length < 8796093022208 from ⟨ha, by omega, by omega, by omega⟩), e2, Option.bind_some]
  exact Evn.bind (same_e t htl) (Evn.now _)
theorem back_cut (kk : Int) (hk : 0 ≤ kk ∧ kk < 9) (f0 : Int) (hp : colonnadelaw07_pick.f f0 9 = some kk) (u : Nat) (s : Int) (b : List Int) (t : List ByteArray) (h : Ok u s b t) (bs c : List Int) (hl : bs.length ≤ 100000000) (at_ : Int) (h0 : 0 ≤ at_) (h1 : at_ ≤ bs.length) (e : form kk u s b t = bs.drop at_.toNat ++ c) (hc : c ≠ []) :
    ∃ is, Evn (fun k => colonnadelaw07_back.f k bs at_ 0 f0 (u : Int) s b t) (is, at_, 71) := by
  have hu := h.hu
  have hbl := h.bl
  have ha := at_in h0 h1
  unfold colonnadelaw07_back.f
  rw [hp]
  simp only [Option.bind_some]
  unfold form at e
  by_cases g : kk = 0
  · rw [if_pos g] at e
    refine ⟨?is1, Evn.pos g ?_⟩
    rotate_left
    simp only [cursor_Take_uint8.f, if_pos ha, takR_cut h0 h1 e hc, Option.bind_some]
    exact Evn.now _
  rw [if_neg g] at e
  by_cases g1 : kk = 1
  · rw [if_pos g1] at e
    refine ⟨?is2, Evn.neg g (Evn.pos g1 ?_)⟩
    rotate_left
    simp only [cursor_Take_uint16.f, if_pos ha, takR_cut h0 h1 e hc, Option.bind_some]
    exact Evn.now _
  rw [if_neg g1] at e
  by_cases g2 : kk = 2
  · rw [if_pos g2] at e
    refine ⟨?is3, Evn.neg g (Evn.neg g1 (Evn.pos g2 ?_))⟩
    rotate_left
    simp only [cursor_Take_uint32.f, if_pos ha, takR_cut h0 h1 e hc, Option.bind_some]
    exact Evn.now _
  rw [if_neg g2] at e
  by_cases g3 : kk = 3
  · rw [if_pos g3] at e
    refine ⟨?is4, Evn.neg g (Evn.neg g1 (Evn.neg g2 (Evn.pos g3 ?_)))⟩
    rotate_left
    simp only [cursor_Take_uint64.f, if_pos ha, takR_cut h0 h1 e hc, Option.bind_some]
    exact Evn.now _
  rw [if_neg g3] at e
  by_cases g4 : kk = 4
  · rw [if_pos g4] at e
    refine ⟨?is5, Evn.neg g (Evn.neg g1 (Evn.neg g2 (Evn.neg g3 (Evn.pos g4 ?_))))⟩
    rotate_left
    simp only [colonnadelaw07_tall_74.f, if_pos ha, takR_cut h0 h1 e hc, Option.bind_some]
    exact Evn.now _
  rw [if_neg g4] at e
  by_cases g5 : kk = 5
  · rw [if_pos g5] at e
    refine ⟨?is6, Evn.neg g (Evn.neg g1 (Evn.neg g2 (Evn.neg g3 (Evn.neg g4 (Evn.pos g5 ?_)))))⟩
    rotate_left
    have e2 : uvR bs at_ 0 = (0, at_, 71) := by unfold uvR; rw [if_neg (by decide), numF_short u hu e hc]
    simp only [cursor_Reader_Uvarint.f, if_pos ha, e2, Option.bind_some]
    exact Evn.now _
  rw [if_neg g5] at e
  by_cases g6 : kk = 6
  · rw [if_pos g6] at e
    refine ⟨?is7, Evn.neg g (Evn.neg g1 (Evn.neg g2 (Evn.neg g3 (Evn.neg g4 (Evn.neg g5 (Evn.pos g6 ?_))))))⟩
    rotate_left
    have hv := foldV_range s h.s0 h.s1
    have e2 : viR bs at_ 0 = (0, at_, 71) := by unfold viR; rw [if_neg (by decide), numF_short _ (by omega) e hc]
    simp only [cursor_Reader_Varint.f, if_pos ha, e2, Option.bind_some]
    exact Evn.now _
  rw [if_neg g6] at e
  by_cases g7 : kk = 7
  · rw [if_pos g7] at e
    refine ⟨?is8, Evn.neg g (Evn.neg g1 (Evn.neg g2 (Evn.neg g3 (Evn.neg g4 (Evn.neg g5 (Evn.neg g6 (Evn.pos g7 ?_)))))))⟩
    rotate_left
    have e2 : blkR bs at_ 0 (b.length : Int) = ([], at_, 71) := by
      unfold blkR
      rw [if_neg (by decide), if_neg (by omega), blockF_cut e hc (by omega) (by omega)]
    simp only [cursor_Reader_Block.f, if_pos (show atIn bs at_ ∧ (-9223372036854775808 ≤ (b.length : Int) ∧ (b.length : Int) ≤ 9223372036854775807) ∧ bs.length < 140737488355328 from ⟨ha, by omega, by omega⟩), e2, Option.bind_some]
    exact Evn.now _
  rw [if_neg g7] at e
  obtain ⟨L, l0, l1, l2, l3⟩ := longest_e t h.tl h.ts
  have e2 : txR bs at_ 0 (t.length : Int) L = ([], at_, 71) := by
    unfold txR
    rw [if_neg (by decide), textsF_cut e hc (by simp [tx]) (by have := h.tl; simp [tx]; omega) l0 (fun q hq => by
      obtain ⟨y, hy, rfl⟩ := List.mem_map.1 hq
      rw [bytesOf_length]
      have := l2 y hy
      have := h.ts y hy
      omega)]
  have htl := h.tl
  have hs : ∃ is, Evn (fun k => colonnadelaw07_sameTexts.f k [] t) is := by
    unfold colonnadelaw07_sameTexts.f
    by_cases hz : (([] : List ByteArray).length : Int) = (t.length : Int)
    · refine ⟨true, Evn.pos hz (Evn.succ (fun _ => rfl) ?_)⟩
      simp only [colonnadelaw07_sameTexts.l0]
      exact Evn.neg (by simp) (Evn.now _)
    · exact ⟨false, Evn.neg hz (Evn.now _)⟩
  obtain ⟨is, his⟩ := hs
  refine ⟨is, Evn.neg g (Evn.neg g1 (Evn.neg g2 (Evn.neg g3 (Evn.neg g4 (Evn.neg g5 (Evn.neg g6 (Evn.neg g7 (Evn.bind l3 ?_))))))))⟩
  simp only [cursor_Reader_Texts.f, if_pos (show atIn bs at_ ∧ (-9223372036854775808 ≤ (t.length : Int) ∧ (t.length : Int) ≤ 9223372036854775807) ∧ (-9223372036854775808 ≤ L ∧ L ≤ 9223372036854775807) ∧ bs.length < 8796093022208 from ⟨ha, by omega, by omega, by omega⟩), e2, Option.bind_some]
  exact Evn.bind his (Evn.now _)
/-! ### things -/
def fm (x : S76) : List Int := form (pk x.f0) x.f1.toNat x.f2 x.f3 x.f4
def OkT (x : S76) : Prop := Ok x.f1.toNat x.f2 x.f3 x.f4 ∧ ((x.f1.toNat : Nat) : Int) = x.f1
theorem rd_at (l : List S76) (i : Nat) (hi : i < l.length) : rd_T76 l (i : Int) = l[i] := by
  unfold rd_T76; rw [Int.toNat_natCast, List.getD_eq_getElem?_getD, List.getElem?_eq_getElem hi]; rfl
theorem drop_end {bs a r : List Int} {at_ : Int} (h0 : 0 ≤ at_) (h1 : at_ ≤ bs.length) (e : bs.drop at_.toNat = a ++ r) : 0 ≤ (bs.length : Int) - r.length ∧ (bs.length : Int) - r.length ≤ bs.length ∧ bs.drop ((bs.length : Int) - r.length).toNat = r := by
  have hl := congrArg List.length e
  rw [List.length_drop, List.length_append] at hl
  refine ⟨by omega, by omega, ?_⟩
  rw [show ((bs.length : Int) - r.length).toNat = at_.toNat + a.length by omega, ← List.drop_drop, e, List.drop_left]
theorem put_T (x : S76) (h : OkT x) (a : List Int) (ha : a.length ≤ 100000000) : Evn (fun k => colonnadelaw07_put.f k a x.f0 x.f1 x.f2 x.f3 x.f4) (a ++ fm x) := by
  have := put_e (pk x.f0) ⟨(pick9 x.f0).1, (pick9 x.f0).2.1⟩ x.f0 (pick9 x.f0).2.2 _ _ _ _ h.1 a ha
  rw [h.2] at this
  exact this
theorem backT_ok (x : S76) (h : OkT x) (bs rest : List Int) (hl : bs.length ≤ 100000000) (at_ : Int) (h0 : 0 ≤ at_) (h1 : at_ ≤ bs.length) (e : bs.drop at_.toNat = fm x ++ rest) : Evn (fun k => colonnadelaw07_back.f k bs at_ 0 x.f0 x.f1 x.f2 x.f3 x.f4) (true, (bs.length : Int) - rest.length, 0) := by
  have := back_ok (pk x.f0) ⟨(pick9 x.f0).1, (pick9 x.f0).2.1⟩ x.f0 (pick9 x.f0).2.2 _ _ _ _ h.1 bs rest hl at_ h0 h1 e
  rw [h.2] at this
  exact this
theorem backT_cut (x : S76) (h : OkT x) (bs c : List Int) (hl : bs.length ≤ 100000000) (at_ : Int) (h0 : 0 ≤ at_) (h1 : at_ ≤ bs.length) (e : fm x = bs.drop at_.toNat ++ c) (hc : c ≠ []) : ∃ is, Evn (fun k => colonnadelaw07_back.f k bs at_ 0 x.f0 x.f1 x.f2 x.f3 x.f4) (is, at_, 71) := by
  have := back_cut (pk x.f0) ⟨(pick9 x.f0).1, (pick9 x.f0).2.1⟩ x.f0 (pick9 x.f0).2.2 _ _ _ _ h.1 bs c hl at_ h0 h1 e hc
  rw [h.2] at this
  exact this
section
variable (l : List S76) (hl : l.length ≤ 1048576) (hok : ∀ y ∈ l, OkT y)
include hl hok
theorem l2_e (bs : List Int) (hbs : bs.length ≤ 100000000) (d : Nat) : ∀ (i : Nat) (at_ : Int) (q : List Int), i + d = l.length → 0 ≤ at_ → at_ ≤ bs.length → (l.drop i).flatMap fm = bs.drop at_.toNat ++ q → q ≠ [] → Evn (fun k => colonnadelaw07_CursorBack.l2 k l (i : Int) bs at_ 0) true := by
  induction d with
  | zero =>
    intro i at_ q hi h0 h1 e hq
    rw [List.drop_eq_nil_of_le (by omega), List.flatMap_nil] at e
    exact absurd (List.append_eq_nil_iff.1 e.symm).2 hq
  | succ d ih =>
    intro i at_ q hi h0 h1 e hq
    have hi' : i < l.length := by omega
    have ho := hok _ (List.getElem_mem hi')
    rw [List.drop_eq_getElem_cons hi', List.flatMap_cons] at e
    refine Evn.succ (fun _ => rfl) ?_
    simp only [colonnadelaw07_CursorBack.l2]
    refine Evn.pos (by omega) (Evn.pos (by omega) ?_)
    rw [rd_at l i hi']
    rcases app_app e with ⟨x, e1, e2⟩ | ⟨x, hx, e1, _⟩
    · obtain ⟨a0, a1, a2⟩ := drop_end h0 h1 e1
      refine Evn.bind (backT_ok _ ho bs x hbs at_ h0 h1 e1) ?_
      simp only [cursor_Reader_Fault.f, if_pos (at_in a0 a1), Option.bind_some]
      refine Evn.neg (by decide) (Evn.pos trivial (Evn.pos trivial ?_))
      rw [wrap64_in (n := (i : Int) + 1) (by omega) (by omega), show (i : Int) + 1 = ((i + 1 : Nat) : Int) by omega]
      exact ih (i + 1) _ q (by omega) a0 a1 (by rw [a2]; exact e2) hq
    · obtain ⟨is, his⟩ := backT_cut _ ho bs x hbs at_ h0 h1 e1 hx
      refine Evn.bind his ?_
      simp only [cursor_Reader_Fault.f, cursor_Reader_End.f, cursor_Reader_Left.f, if_pos (at_in h0 h1), Option.bind_some]
      refine Evn.pos trivial ?_
      simp
      exact Evn.now _
theorem j2_e (a1 : Int) (hB : (l.flatMap fm).length ≤ 100000000) : Evn (fun k => colonnadelaw07_CursorBack.j2 k l a1 (l.flatMap fm) false) true := by
  refine Evn.succ (fun _ => rfl) ?_
  simp only [colonnadelaw07_CursorBack.j2]
  refine Evn.neg (by decide) ?_
  by_cases hz : ((l.flatMap fm).length : Int) = 0
  · refine Evn.pos hz ?_
    have : l = [] := by
      cases l with
      | nil => rfl
      | cons x l =>
        have h1 := (form_len (pk x.f0) x.f1.toNat x.f2 x.f3 x.f4 (hok x (by simp)).1).1
        rw [List.flatMap_cons, List.length_append] at hz
        unfold fm at hz
        omega
    subst this
    exact Evn.now _
  · refine Evn.neg hz ?_
    obtain ⟨c, c0, c1, hc⟩ := pickn a1 ((l.flatMap fm).length : Int) (by omega) (by omega)
    rw [hc]
    simp only [Option.bind_some]
    refine Evn.pos c0 (Evn.pos (by omega) ?_)
    have ht : ((l.flatMap fm).take c.toNat).length = c.toNat := by rw [List.length_take]; omega
    simp only [cursor_Open.f, if_pos (show ((l.flatMap fm).take c.toNat).length < 140737488355328 by omega), Option.bind_some]
    refine l2_e l hl hok _ (by omega) l.length 0 0 ((l.flatMap fm).drop c.toNat) (by omega) (by omega) (by omega) ?_ ?_
    · rw [List.drop_zero, show (0 : Int).toNat = 0 from rfl, List.drop_zero, List.take_append_drop]
    · intro e
      have := congrArg List.length e
      rw [List.length_drop] at this
      simp only [List.length_nil] at this
      omega
theorem l1_e (a1 : Int) (hB : (l.flatMap fm).length ≤ 100000000) (d : Nat) : ∀ (i : Nat) (at_ : Int), i + d = l.length → 0 ≤ at_ → at_ ≤ (l.flatMap fm).length → (l.flatMap fm).drop at_.toNat = (l.drop i).flatMap fm → Evn (fun k => colonnadelaw07_CursorBack.l1 k l a1 (l.flatMap fm) (i : Int) (l.flatMap fm) at_ 0) true := by
  induction d with
  | zero =>
    intro i at_ hi h0 h1 e
    rw [List.drop_eq_nil_of_le (by omega : l.length ≤ i), List.flatMap_nil] at e
    have hz := congrArg List.length e
    rw [List.length_drop] at hz
    simp only [List.length_nil] at hz
    obtain rfl : at_ = ((l.flatMap fm).length : Int) := by omega
    refine Evn.succ (fun _ => rfl) ?_
    simp only [colonnadelaw07_CursorBack.l1]
    refine Evn.neg (by omega) ?_
    simp only [cursor_Reader_Fault.f, cursor_Reader_End.f, cursor_Reader_Left.f, if_pos (at_in h0 h1), Option.bind_some]
    refine Evn.pos (by omega) ?_
    simp
    exact j2_e l hl hok a1 hB
  | succ d ih =>
    intro i at_ hi h0 h1 e
    have hi' : i < l.length := by omega
    have ho := hok _ (List.getElem_mem hi')
    rw [List.drop_eq_getElem_cons hi', List.flatMap_cons] at e
    refine Evn.succ (fun _ => rfl) ?_
    simp only [colonnadelaw07_CursorBack.l1]
    refine Evn.pos (by omega) (Evn.pos (by omega) ?_)
    rw [rd_at l i hi']
    obtain ⟨a0, b1, a2⟩ := drop_end h0 h1 e
    refine Evn.bind (backT_ok _ ho _ _ hB at_ h0 h1 e) (Evn.pos rfl ?_)
    simp only [cursor_Reader_Fault.f, if_pos (at_in a0 b1), Option.bind_some]
    refine Evn.pos trivial ?_
    rw [wrap64_in (n := (i : Int) + 1) (by omega) (by omega), show (i : Int) + 1 = ((i + 1 : Nat) : Int) by omega]
    exact ih (i + 1) _ (by omega) a0 b1 a2
theorem l0_e (a1 : Int) (hB : (l.flatMap fm).length ≤ 100000000) (d : Nat) : ∀ (i : Nat), i + d = l.length → Evn (fun k => colonnadelaw07_CursorBack.l0 k l a1 ((l.take i).flatMap fm) (i : Int)) true := by
  induction d with
  | zero =>
    intro i hi
    refine Evn.succ (fun _ => rfl) ?_
    simp only [colonnadelaw07_CursorBack.l0]
    refine Evn.neg (by omega) ?_
    rw [List.take_of_length_le (by omega : l.length ≤ i)]
    simp only [cursor_Open.f, if_pos (show (l.flatMap fm).length < 140737488355328 by omega), Option.bind_some]
    exact l1_e l hl hok a1 hB l.length 0 0 (by omega) (by omega) (by omega) (by simp)
  | succ d ih =>
    intro i hi
    have hi' : i < l.length := by omega
    have ho := hok _ (List.getElem_mem hi')
    have hlen : ((l.take i).flatMap fm).length ≤ (l.flatMap fm).length := by
      conv => rhs; rw [← List.take_append_drop i l]
      rw [List.flatMap_append, List.length_append]; omega
    refine Evn.succ (fun _ => rfl) ?_
    simp only [colonnadelaw07_CursorBack.l0]
    refine Evn.pos (by omega) (Evn.pos (by omega) ?_)
    rw [rd_at l i hi']
    refine Evn.bind (put_T _ ho _ (by omega)) ?_
    rw [wrap64_in (n := (i : Int) + 1) (by omega) (by omega), show (i : Int) + 1 = ((i + 1 : Nat) : Int) by omega]
    have := ih (i + 1) (by omega)
    rw [List.take_succ_eq_append_getElem hi', List.flatMap_append, List.flatMap_cons, List.flatMap_nil, List.append_nil] at this
    exact this
end
theorem ones {α : Type} (l : List α) : (l.map fun _ => 1).sum = l.length := by
  induction l with
  | nil => rfl
  | cons x l ih => rw [List.map_cons, List.sum_cons, ih, List.length_cons]; omega
theorem bS_eq (x : S76) : bS76 x = 3 + (x.f3.length + 1) + ((x.f4.map fun s : ByteArray => s.size + 1).sum + 1) + 1 := by
  have h := ones x.f3
  show 1 + 1 + 1 + ((x.f3.map fun _ => 1).sum + 1) + ((x.f4.map fun s : ByteArray => s.size + 1).sum + 1) + 1 = _
  omega
theorem fm_sum (l : List S76) (hok : ∀ y ∈ l, OkT y) : (l.flatMap fm).length ≤ 12 * (l.map bS76).sum := by
  induction l with
  | nil => simp
  | cons x l ih =>
    have h1 := ih (fun y hy => hok y (by simp [hy]))
    have h2 := (form_len (pk x.f0) x.f1.toNat x.f2 x.f3 x.f4 (hok x (by simp)).1).2
    have e := bS_eq x
    rw [← e] at h2
    rw [List.flatMap_cons, List.length_append, List.map_cons, List.sum_cons]
    unfold fm at h1 ⊢
    omega
theorem mem_sum {α : Type} (m : α → Nat) (l : List α) : ∀ x ∈ l, m x ≤ (l.map m).sum := by
  induction l with
  | nil => simp
  | cons y l ih =>
    intro x hx
    simp only [List.map_cons, List.sum_cons]
    rcases List.mem_cons.1 hx with rfl | hx
    · omega
    · have := ih x hx; omega
theorem CursorBack (l0 : (List S76)) (a1 : Int) (h0 : (l0.length * 72 ≤ 140737488351232 ∧ ∀ y0_ ∈ l0, okS76 y0_)) (h1 : (Lit.int .i64 a1).wf = true) (hsmall : (sumB bS76) l0 ≤ 1048576) : ∃ k, colonnadelaw07_CursorBack.f k l0 a1 = some true := by
  unfold sumB at hsmall
  have s0 := len_sum bS76 (fun x => by simp only [bS76]; omega) l0
  have hok : ∀ y ∈ l0, OkT y := by
    intro y hy
    obtain ⟨o0, o1, o2, o3, o4⟩ := h0.2 y hy
    have hm := mem_sum bS76 l0 y hy
    have e := bS_eq y
    have hu := wf_u64 o1
    have hs := wf_i64 o2
    exact ⟨⟨by omega, hs.1, hs.2, fun z hz => wf_u8 (o3.2 z hz), by omega, by omega⟩, by omega⟩
  have hB := fm_sum l0 hok
  refine Evn.ex (r := true) ?_
  unfold colonnadelaw07_CursorBack.f colonnadelaw07_awake.f
  simp only [Option.bind_some]
  refine Evn.pos trivial ?_
  have := l0_e l0 (by omega) hok a1 (by omega) l0.length 0 (by omega)
  simpa using this
end Go.Proofs.Ythpoomdillhcbaa.Pure
