/- The texts of ZoneBack, merged: part 26. -/
import Derived.Test.YthiidgmemoineaaQZoneBack5
import Derived.Test.YthiidgmemoineaaQZoneBack9
import Derived.Test.YthiidgmemoineaaQZoneBack23
import Derived.Defers
import Derived.Recover
import Derived.Laws.Pointers
import Derived.WalkLawsBesides
import Derived.RegionDies
import Derived.OpenShut
import Derived.Deep.QuietTactic
import Derived.Deep.RegionWith
import Derived.Test.YthiidgmemoineaaQZoneBack25
import Derived.Handy
import Derived.Lib.BitFns
import Derived.Laws.Bits64b
/- The reader of layer 7, its walks by hand: each reading all of it or nothing. -/
namespace Go.Proofs.Ythiidgmemoineaa.Pa
open Go.Proofs.Ythiidgmemoineaa.L Go.RowKit Go.Proofs.YthiidgmemoineaaW.PrintWords Go.Proofs.YthiidgmemoineaaW.PrintLast Go.Proofs.YthiidgmemoineaaW.PrintMore
set_option linter.unusedVariables false
set_option linter.unusedSimpArgs false
variable {B : Nat × Nat}
set_option maxHeartbeats 4000000 in
theorem uv_no (g pr pv : Nat) (bs : List Int) (at_ n : Int) (w : World) (h0 : 0 ≤ at_) (h1 : at_ ≤ bs.length) (hn : numF (bs.drop at_.toNat) 0 0 = .inl n) (hR : Rd w B g bs at_ 0) (hr : w.cell? ⟨pr, 0, none⟩ = some (.pointer (some ⟨g, 0, none⟩))) :
  Calls Try.prog 112 #[.pointer (some ⟨pr, 0, none⟩), .pointer (some ⟨pv, 0, none⟩)] w fun e w' => e = .panicked [{ v := .iface 34 (.int .i64 n), recovered := false }] ∧ (∃ at1, Aside0 (Rd w' B g bs at1 0)) ∧ Aside0 (Keeps w w' g none) := by
 have hN := Aside0.mk (number_no g bs at_ 0 n w h0 h1 hn hR)
 clear hn hR
 go_enter Try.func112, Try.ntmps112
 go_wp2_with (go_at_call 113; refine hN.out.mono ?_; rintro e w1 ⟨rfl, ⟨at1, hR1⟩, hK1⟩)
 exact ⟨rfl, rfl, ⟨at1, hR1⟩, hK1⟩
def uvR (bs : List Int) (at_ fault : Int) : Int × Int × Int :=
 if fault ≠ 0 then (0, at_, fault) else match numF (bs.drop at_.toNat) 0 0 with
  | .inr (v, rest) => (v, (bs.length : Int) - rest.length, 0)
  | .inl n => (0, at_, n)
theorem rd_below {W W1 : World} {g : Nat} {ob : Obj} (hb : Below W.heap.size W W1) (h : W.heap[g]? = some ob) : W1.heap[g]? = some ob := by
 have : g < W.heap.size := by rcases Nat.lt_or_ge g W.heap.size with h1 | h1; exact h1; rw [Array.getElem?_eq_none (by omega)] at h; cases h
 rw [hb.block g this]; exact h
set_option maxHeartbeats 4000000 in
theorem uvarint_calls (g : Nat) (bs : List Int) (at_ fault : Int) (w : World) (h0 : 0 ≤ at_) (h1 : at_ ≤ bs.length) (hR : Rd w B g bs at_ fault) :
  Calls Try.prog 78 #[.pointer (some ⟨g, 0, none⟩)] w fun e w' => e = .returned (.int .u64 (uvR bs at_ fault).1) ∧ Aside0 (Rd w' B g bs (uvR bs at_ fault).2.1 (uvR bs at_ fault).2.2) ∧ Aside0 (Keeps w w' g none) := by
 have hmf : ∀ (fn : Fn) (first cap : Array Value) (w : World), (Instr.makeFunc fn first cap).run Try.prog w = .ok (.func fn first cap) w := fun _ _ _ _ => rfl
 obtain ⟨W2, hW2⟩ : ∃ W2, W2 = (w.alloc (.cells #[.pointer (some ⟨g, 0, none⟩)] 50)).alloc (.cells #[.int .u64 0] 82) := ⟨_, rfl⟩
 have hB2 : Below w.heap.size w W2 := by rw [hW2]; exact below_alloc (below_alloc (Below.refl _ _) _) _
 have b1 : W2.heap[w.heap.size]? = some (.cells #[.pointer (some ⟨g, 0, none⟩)] 50 (0, 0)) := by rw [hW2]; exact heap_alloc_old (by simpa using heap_alloc_new w _)
 have b2 : W2.heap[w.heap.size + 1]? = some (.cells #[.int .u64 0] 82 (0, 0)) := by rw [hW2]; simpa using heap_alloc_new (w.alloc (.cells #[.pointer (some ⟨g, 0, none⟩)] 50)) _
 have hlt := hR.lt
 have hle := hR.le
 have hR2 := hR.below hB2
 have hF : ∀ (caps : Array Value) W, (callFunc 112 caps).run Try.prog W = .ok (.enter 112 caps) W := fun caps W => by simp [go_sem]
 have key : ∃ v at1 f1, uvR bs at_ fault = (v, at1, f1) ∧ Calls Try.prog 70 #[.pointer (some ⟨g, 0, none⟩), .func (.func 112) #[] #[.pointer (some ⟨w.heap.size, 0, none⟩), .pointer (some ⟨w.heap.size + 1, 0, none⟩)]] W2 fun e w' => e = .returned (.tuple #[]) ∧ Aside0 (w'.heap[w.heap.size + 1]? = some (.cells #[.int .u64 v] 82 (0, 0))) ∧ Aside0 (Rd w' B g bs at1 f1) ∧ Aside0 (Keeps w w' g none) := by
  by_cases hz : fault = 0
  ·subst hz
   rcases hn : numF (bs.drop at_.toNat) 0 0 with n | ⟨v, rest⟩
   ·refine ⟨0, at_, n, by simp [uvR, hn], (reading_no g _ _ bs at_ n W2 (hF _) hR2 (fun W hB => uv_no g _ _ bs at_ n W h0 h1 hn (hR2.below hB) ((blk_cell (rd_below hB b1) 0).trans rfl))).mono ?_⟩
    rintro e w' ⟨rfl, hR', hK'⟩
    exact ⟨rfl, ⟨hK'.out.blk b2 (by omega) (by simp)⟩, hR', ⟨(Keeps.of_below hB2 g none).trans hK'.out (.inl rfl)⟩⟩
   ·refine ⟨v, _, 0, by simp only [uvR, hn]; rfl, (reading_ok g _ _ bs at_ W2 (fun W w' => ∃ w1, Rd w1 B g bs ((bs.length : Int) - rest.length) 0 ∧ Keeps W w1 g none ∧ w' = w1.setCell ⟨w.heap.size + 1, 0, none⟩ (.int .u64 v)) (hF _) hR2 (fun W hB => uv_ok g _ _ (.int .u64 0) bs rest at_ v W h0 h1 hn (hR2.below hB) ((blk_cell (rd_below hB b1) 0).trans rfl) (rd_below hB b2) (by omega))).mono ?_⟩
    rintro e w' ⟨rfl, W, hB, ⟨w1, hR1, hK1, rfl⟩⟩
    have hV := hK1.blk (rd_below hB b2) (show w.heap.size + 1 ≠ g by omega) (by simp)
    refine ⟨rfl, ?_, ⟨hR1.keep (Keeps.set_ (Keeps.refl w1 (w.heap.size + 1) none) 0 _) (by omega)⟩, ⟨keeps_far ((((Keeps.of_below hB2 g none).trans (Keeps.of_below hB g none) (.inl rfl))).trans hK1 (.inl rfl)) (by show w.heap.size ≤ w.heap.size + 1; omega) _⟩⟩
    have := blk_set hV 0 (.int .u64 v)
    exact ⟨by simpa using this⟩
  ·refine ⟨0, at_, fault, by simp [uvR, hz], (reading_skip g _ bs at_ fault W2 hz hR2).mono ?_⟩
   rintro e w' ⟨rfl, hB⟩
   exact ⟨rfl, ⟨rd_below hB b2⟩, ⟨hR2.below hB⟩, ⟨(Keeps.of_below hB2 g none).trans (Keeps.of_below hB g none) (.inl rfl)⟩⟩
 obtain ⟨v, at1, f1, hu, hD⟩ := key
 rw [hu]
 rw [hW2] at hD
 have hD := Aside0.mk hD
 clear hu hF hR hR2 b1 b2 hB2 hlt h0 h1
 go_enter Try.func78, Try.ntmps78
 go_wp2_with (go_at_call 70; refine hD.out.mono ?_; rintro e w1 ⟨rfl, hb1, hR1, hK1⟩; have c1 : w1.cell? ⟨w.heap.size + 1, 0, none⟩ = some (.int .u64 v) := (blk_cell hb1.out 0).trans rfl; have z1 := blk_frozen hb1.out 0)
 have c2 : (w1.setCell ⟨w.heap.size + 1, 0, none⟩ (.int .u64 v)).cell? ⟨w.heap.size + 1, 0, none⟩ = some (.int .u64 v) := (blk_cell (blk_set hb1.out 0 (.int .u64 v)) 0).trans rfl
 exact ⟨rfl, .int .u64 v, by simp [results, Try.results78, Try.f78, go_sem, c2], rfl, ⟨hR1.out.keep (Keeps.set_ (Keeps.refl w1 (w.heap.size + 1) none) 0 _) (Nat.le_succ_of_le hle)⟩, ⟨keeps_far hK1.out (Nat.le_succ _) _⟩⟩
end Go.Proofs.Ythiidgmemoineaa.Pa
namespace Go.Proofs.Ythiidgmemoineaa.Pa
open Go.Proofs.Ythiidgmemoineaa.L Go.RowKit Go.Proofs.YthiidgmemoineaaW.PrintWords Go.Proofs.YthiidgmemoineaaW.PrintLast Go.Proofs.YthiidgmemoineaaW.PrintMore
set_option linter.unusedVariables false
set_option linter.unusedSimpArgs false
variable {B : Nat × Nat}
theorem numF_rest : ∀ (l : List Int) (i : Nat) (v x : Int) (rest : List Int), numF l i v = .inr (x, rest) → (∃ k, k ≤ l.length ∧ rest = l.drop k) ∧ 0 ≤ x ∧ x < 18446744073709551616
 | [], _, _, _, _, h => by simp [numF] at h
 | c :: l, i, v, x, rest, h => by
  rw [numF] at h
  split at h
  ·split at h
   ·split at h
    ·injection h with h
     injection h with h1 h2
     subst h1 h2
     exact ⟨⟨1, by simp, by simp⟩, numV_range _ _ _⟩
    ·cases h
   ·obtain ⟨⟨k, h1, h2⟩, h3⟩ := numF_rest l _ _ _ _ h
    exact ⟨⟨k + 1, by simp; omega, by simpa using h2⟩, h3⟩
  ·cases h
theorem drop_back {bs rest : List Int} {a k : Nat} (h : rest = (bs.drop a).drop k) (hk : k ≤ (bs.drop a).length) : rest = bs.drop (bs.length - rest.length) ∧ rest.length ≤ bs.length - a := by
 have e1 : rest.length = bs.length - a - k := by rw [h]; simp; omega
 have e0 : (bs.drop a).length = bs.length - a := List.length_drop
 rw [List.drop_drop] at h
 refine ⟨?_, by omega⟩
 rw [e1]
 refine h.trans ?_
 rcases Nat.lt_or_ge bs.length a with ha | ha
 ·rw [List.drop_eq_nil_of_le (by omega), List.drop_eq_nil_of_le (by omega)]
 ·congr 1
  omega
def blockF (l : List Int) (most : Int) : Int ⊕ (List Int × List Int) :=
 match numF l 0 0 with
 | .inl n => .inl n
 | .inr (v, rest) => if v ≤ most then (if v ≤ (rest.length : Int) then .inr (rest.take v.toNat, rest.drop v.toNat) else .inl 71) else .inl 70
set_option maxHeartbeats 4000000 in
theorem block_ok (g : Nat) (bs p rest : List Int) (at_ fault most : Int) (w : World) (h0 : 0 ≤ at_) (h1 : at_ ≤ bs.length) (hm0 : 0 ≤ most) (hm1 : most ≤ 9223372036854775807) (hn : blockF (bs.drop at_.toNat) most = .inr (p, rest)) (hR : Rd w B g bs at_ fault) :
  Calls Try.prog 119 #[.pointer (some ⟨g, 0, none⟩), .int .i64 most] w fun e w' => ∃ A c, e = .returned (.slice A p.length c) ∧ Aside0 (p.length ≤ c) ∧ Aside0 (Kd.C (Kd.int .u8) w' A p.length p) ∧ Aside0 (Rd w' B g bs ((bs.length : Int) - rest.length) fault) ∧ Aside0 (Keeps w w' g none) := by
 rcases hv : numF (bs.drop at_.toNat) 0 0 with n | ⟨v, r1⟩
 ·rw [blockF, hv] at hn; cases hn
 ·rw [blockF, hv] at hn
  simp only at hn
  obtain ⟨⟨k, hk1, hk2⟩, hv0, hv1⟩ := numF_rest _ _ _ _ _ hv
  obtain ⟨hr1, hr2⟩ := drop_back hk2 hk1
  split at hn
  ·rename_i hvm
   split at hn
   ·rename_i hvl
    injection hn with hn
    injection hn with hp hrest
    subst hp hrest
    have hN := Aside0.mk (number_ok g bs r1 at_ fault v w h0 h1 hv hR)
    have hw : IntKind.u64.wrap most = most := by rw [IntKind.wrap_u64]; omega
    have hdec : decide (v ≤ most) = true := by simpa using hvm
    have hT := Aside0.mk (fun w1 (h : Rd w1 B g bs ((bs.length : Int) - r1.length) fault) => take_ok g bs _ fault v w1 (by omega) hv0 (by omega) h)
    have HX := Aside0.mk (And.intro hr1 (And.intro hr2 (And.intro hvl hv0)))
    clear hR hv hk1 hk2 hr1 hr2 hvl
    go_enter Try.func119, Try.ntmps119
    go_wp2_with (first | (go_at_call 113; refine hN.out.mono ?_; rintro e w1 ⟨rfl, hR1, hK1⟩) | (go_at_call 72; refine (must_t (by first | rfl | (simp; omega)) _ _).mono ?_; rintro e w2 ⟨rfl, rfl⟩) | (go_at_call 73; refine (hT.out _ hR1.out).mono ?_; rintro e w3 ⟨A', c', rfl, hc3, hC3, hA3, hR3, hK3⟩; replace hc3 := Aside0.mk hc3; replace hC3 := Aside0.mk hC3; replace hR3 := Aside0.mk hR3; replace hK3 := Aside0.mk hK3))
    go_ret
    obtain ⟨x1, x2, x3, x4⟩ := HX.out
    have e1 : ((bs.length : Int) - r1.length).toNat = bs.length - r1.length := by omega
    have e2 : (r1.take v.toNat).length = v.toNat := by simp; omega
    have e3 : (bs.length : Int) - r1.length + v = (bs.length : Int) - (r1.drop v.toNat).length := by rw [List.length_drop]; omega
    have hC := hC3.out
    have hR' := hR3.out
    rw [e1, ← x1] at hC
    rw [e3] at hR'
    exact ⟨A', c', by rw [e2]; rfl, ⟨by rw [e2]; exact hc3.out⟩, ⟨by rw [e2]; exact hC⟩, ⟨hR'⟩, ⟨hK1.out.trans hK3.out (.inl rfl)⟩⟩
   ·cases hn
  ·cases hn
set_option maxHeartbeats 4000000 in
theorem block_no (g : Nat) (bs : List Int) (at_ fault most n : Int) (w : World) (h0 : 0 ≤ at_) (h1 : at_ ≤ bs.length) (hm0 : 0 ≤ most) (hm1 : most ≤ 9223372036854775807) (hn : blockF (bs.drop at_.toNat) most = .inl n) (hR : Rd w B g bs at_ fault) :
  Calls Try.prog 119 #[.pointer (some ⟨g, 0, none⟩), .int .i64 most] w fun e w' => e = .panicked [{ v := .iface 34 (.int .i64 n), recovered := false }] ∧ (∃ at1, Aside0 (Rd w' B g bs at1 fault)) ∧ Aside0 (Keeps w w' g none) := by
 have hw : IntKind.u64.wrap most = most := by rw [IntKind.wrap_u64]; omega
 rcases hv : numF (bs.drop at_.toNat) 0 0 with n1 | ⟨v, r1⟩
 ·rw [blockF, hv] at hn
  injection hn with hn
  subst hn
  have hN := Aside0.mk (number_no g bs at_ fault n1 w h0 h1 hv hR)
  clear hR hv
  go_enter Try.func119, Try.ntmps119
  go_wp2_with (go_at_call 113; refine hN.out.mono ?_; rintro e w1 ⟨rfl, ⟨at1, hR1⟩, hK1⟩)
  exact ⟨rfl, rfl, ⟨at1, hR1⟩, hK1⟩
 ·rw [blockF, hv] at hn
  simp only at hn
  obtain ⟨⟨k, hk1, hk2⟩, hv0, hv1⟩ := numF_rest _ _ _ _ _ hv
  obtain ⟨hr1, hr2⟩ := drop_back hk2 hk1
  have hN := Aside0.mk (number_ok g bs r1 at_ fault v w h0 h1 hv hR)
  split at hn
  ·rename_i hvm
   split at hn
   ·cases hn
   ·rename_i hvl
    injection hn with hn
    subst hn
    have hT := Aside0.mk (fun w1 (h : Rd w1 B g bs ((bs.length : Int) - r1.length) fault) => take_no g bs _ fault v w1 (by omega) (by omega) (by omega) h)
    clear hR hv hk1 hk2 hr1 hr2
    go_enter Try.func119, Try.ntmps119
    go_wp2_with (first | (go_at_call 113; refine hN.out.mono ?_; rintro e w1 ⟨rfl, hR1, hK1⟩) | (go_at_call 72; refine (must_t (by first | rfl | (simp; omega)) _ _).mono ?_; rintro e w2 ⟨rfl, rfl⟩) | (go_at_call 73; refine (hT.out _ hR1.out).mono ?_; rintro e w3 ⟨rfl, hb3⟩))
    exact ⟨rfl, rfl, ⟨_, ⟨hR1.out.below hb3⟩⟩, ⟨hK1.out.trans (Keeps.of_below hb3 g none) (.inl rfl)⟩⟩
  ·rename_i hvm
   injection hn with hn
   subst hn
   clear hR hv hk1 hk2 hr1 hr2
   go_enter Try.func119, Try.ntmps119
   go_wp2_with (first | (go_at_call 113; refine hN.out.mono ?_; rintro e w1 ⟨rfl, hR1, hK1⟩) | (go_at_call 72; refine (must_f (by first | rfl | (simp; omega)) _ _).mono ?_; rintro e w2 ⟨rfl, rfl⟩))
   exact ⟨rfl, rfl, ⟨_, hR1⟩, hK1⟩
end Go.Proofs.Ythiidgmemoineaa.Pa
namespace Go.Proofs.Ythiidgmemoineaa.Pa
open Go.Proofs.Ythiidgmemoineaa.L Go.RowKit Go.Proofs.YthiidgmemoineaaW.PrintWords Go.Proofs.YthiidgmemoineaaW.PrintLast Go.Proofs.YthiidgmemoineaaW.PrintMore
set_option linter.unusedVariables false
set_option linter.unusedSimpArgs false
variable {B : Nat × Nat}
theorem must_s {b : Bool} (hb : b = true) (n : Int) (w : World) : Calls Try.prog 72 #[.bool b, .int .i64 n] w fun e w' => e = .returned (.tuple #[]) ∧ w = w' := (must_t hb n w).mono (fun _ _ h => ⟨h.1, h.2.symm⟩)
def blkR (bs : List Int) (at_ fault most : Int) : List Int × Int × Int :=
 if fault ≠ 0 then ([], at_, fault) else if most < 0 then ([], at_, 2) else match blockF (bs.drop at_.toNat) most with
  | .inr (p, rest) => (p, (bs.length : Int) - rest.length, 0)
  | .inl n => ([], at_, n)
set_option maxHeartbeats 4000000 in
theorem bk_ok (g pm pr pv : Nat) (x : Value) (bs p rest : List Int) (at_ most : Int) (w : World) (h0 : 0 ≤ at_) (h1 : at_ ≤ bs.length) (hm0 : 0 ≤ most) (hm1 : most ≤ 9223372036854775807) (hpl : p.length < 211106232532992) (hn : blockF (bs.drop at_.toNat) most = .inr (p, rest)) (hR : Rd w B g bs at_ 0) (hm : w.cell? ⟨pm, 0, none⟩ = some (.int .i64 most)) (hr : w.cell? ⟨pr, 0, none⟩ = some (.pointer (some ⟨g, 0, none⟩))) (hmg : pm ≠ g) (hrg : pr ≠ g) (hv : w.heap[pv]? = some (.cells #[x] 29 (0, 0))) (hg : pv ≠ g) :
  Calls Try.prog 118 #[.pointer (some ⟨pm, 0, none⟩), .pointer (some ⟨pr, 0, none⟩), .pointer (some ⟨pv, 0, none⟩)] w fun e w' => e = .returned (.tuple #[]) ∧ Aside0 (∃ w1 v, Rd w1 B g bs ((bs.length : Int) - rest.length) 0 ∧ Keeps w w1 g none ∧ Kd.R (Kd.int .u8) 5 w1 w.heap.size (fun _ => True) v p ∧ w' = w1.setCell ⟨pv, 0, none⟩ v) := by
 have hN := Aside0.mk (block_ok g bs p rest at_ 0 most w h0 h1 hm0 hm1 hn hR)
 have hV := Aside0.mk hv
 have hd : decide (most ≥ 0) = true := by simpa using hm0
 clear hn hR hv
 go_enter Try.func118, Try.ntmps118
 go_wp2_with (first | (go_at_call 72; refine (must_s (by first | rfl | (simp; omega)) _ _).mono ?_; rintro e w2 ⟨rfl, hww⟩; subst hww) | (go_at_call 119; refine hN.out.mono ?_; rintro e w1 ⟨A, c, rfl, hc1, hC1, hR1, hK1⟩) | (go_at_call 68; refine (bytes_Clone.calls A c p p _ hC1.out hc1.out (by rw [bytes_Clone.f, if_pos hpl])).mono ?_; rintro e w2 ⟨v, rfl, hv2, hb2⟩; obtain ⟨A2, c2, hvs⟩ := Kd.R_slice hv2; subst hvs; have hV1 := rd_below hb2 (hK1.out.blk hV.out hg (by simp)); have c1 := (blk_cell hV1 0).trans rfl; have z1 := blk_frozen hV1 0; replace hv2 := Aside0.mk hv2; replace hb2 := Aside0.mk hb2; clear hV1))
 have hK2 : Keeps w w2 g none := hK1.out.trans (Keeps.of_below hb2.out g none) (.inl rfl)
 exact ⟨rfl, _, results_none rfl _ _ _, rfl, ⟨w2, .slice A2 p.length c2, hR1.out.below hb2.out, hK2, Kd.R_lower hv2.out hK1.out.1, rfl⟩⟩
end Go.Proofs.Ythiidgmemoineaa.Pa
namespace Go.Proofs.Ythiidgmemoineaa.Pa
open Go.Proofs.Ythiidgmemoineaa.L Go.RowKit Go.Proofs.YthiidgmemoineaaW.PrintWords Go.Proofs.YthiidgmemoineaaW.PrintLast Go.Proofs.YthiidgmemoineaaW.PrintMore
set_option linter.unusedVariables false
set_option linter.unusedSimpArgs false
variable {B : Nat × Nat}
end Go.Proofs.Ythiidgmemoineaa.Pa
namespace Go.Proofs.Ythiidgmemoineaa.Pa
open Go.Proofs.Ythiidgmemoineaa.L Go.RowKit Go.Proofs.YthiidgmemoineaaW.PrintWords Go.Proofs.YthiidgmemoineaaW.PrintLast Go.Proofs.YthiidgmemoineaaW.PrintMore
set_option linter.unusedVariables false
set_option linter.unusedSimpArgs false
variable {B : Nat × Nat}
def endR (bs : List Int) (at_ fault : Int) : Int := if fault ≠ 0 then fault else if (bs.length : Int) - at_ = 0 then 0 else 72
theorem left_calls (g : Nat) (bs : List Int) (at_ fault : Int) (w : World) (h0 : 0 ≤ at_) (h1 : at_ ≤ bs.length) (hR : Rd w B g bs at_ fault) :
  Calls Try.prog 32 #[.pointer (some ⟨g, 0, none⟩)] w fun e w' => e = .returned (.int .i64 ((bs.length : Int) - at_)) ∧ Aside0 (Below w.heap.size w w') := by
 obtain ⟨A, c, hb, hc, hC, hA, hgB, hBs⟩ := hR
 have hm := hC.2.1
 have f0 : w.cell? ⟨g, 0, none⟩ = some (.slice A bs.length c) := (blk_cell hb 0).trans rfl
 have f1 : w.cell? ⟨g, 1, none⟩ = some (.int .i64 at_) := (blk_cell hb 1).trans rfl
 have hw1 : IntKind.i64.wrap ((bs.length : Int) - at_) = (bs.length : Int) - at_ := by rw [wrapEq]; exact wrap64_in (by omega) (by omega)
 go_enter Try.func32, Try.ntmps32
 go_wp2
 go_quiet (fail)
 go_wp2
 go_ret
 exact ⟨rfl, ⟨pw_below_drewN (Below.refl _ _) _⟩⟩
theorem open_calls (A0 : Option Addr) (c0 : Nat) (bs : List Int) (w : World) (hr0 : Kd.C (Kd.int .u8) w A0 bs.length bs) (hc0 : bs.length ≤ c0) (hl : bs.length < 211106232532992) :
  Calls Try.prog 27 #[.slice A0 bs.length c0] w fun e w' => ∃ W0 A2 c2, e = .returned (.pointer (some ⟨W0.heap.size, 0, none⟩)) ∧ Aside0 (Below w.heap.size w W0) ∧ Aside0 (Kd.C (Kd.int .u8) W0 A2 bs.length bs ∧ bs.length ≤ c2 ∧ ∀ ad : Addr, A2 = some ad → ad.block < W0.heap.size) ∧ w' = W0.alloc (.cells #[.slice A2 bs.length c2, .int .i64 0, .int .i64 0] 92) := by
 have hCl := Aside0.mk (bytes_Clone.calls A0 c0 bs bs w hr0 hc0 (by rw [bytes_Clone.f, if_pos hl]))
 clear hr0
 go_enter Try.func27, Try.ntmps27
 go_wp2_with (go_at_call 68; refine hCl.out.mono ?_; rintro e w1 ⟨v, rfl, hv, hb⟩; obtain ⟨A2, c2, hvs⟩ := Kd.R_slice hv; subst hvs; replace hv := Aside0.mk hv; replace hb := Aside0.mk hb)
 go_ret
 have hq := Kd.R_reads' hv.out
 exact ⟨w1, A2, c2, rfl, hb, ⟨hq.2.2, hq.2.1, fun ad e => by subst e; exact Kd.R_lt hv.out ad.block rfl⟩, rfl⟩
end Go.Proofs.Ythiidgmemoineaa.Pa
namespace Go.Proofs.Ythiidgmemoineaa.Pa
open Go.Proofs.Ythiidgmemoineaa.L Go.RowKit Go.Proofs.YthiidgmemoineaaW.PrintWords Go.Proofs.YthiidgmemoineaaW.PrintLast Go.Proofs.YthiidgmemoineaaW.PrintMore
set_option linter.unusedVariables false
set_option linter.unusedSimpArgs false
variable {B : Nat × Nat}
theorem R_setCell_old {α : Type} {d : Kd α} {e base : Nat} {ok : Nat → Prop} {w : World} {v : Value} {xs : List α} (h : d.R e w base ok v xs) {p : Addr} (hp : p.block < base) (u : Value) : d.R e (w.setCell p u) base ok v xs :=
 Kd.R_mono (Kd.R_far (Kd.R_bound h) (fun k hk => by have := hk.2.1; omega) u) (fun _ hk => hk.1)
set_option maxHeartbeats 4000000 in
theorem bk_no (g pm pr pv : Nat) (bs : List Int) (at_ most n : Int) (w : World) (h0 : 0 ≤ at_) (h1 : at_ ≤ bs.length) (hm0 : 0 ≤ most) (hm1 : most ≤ 9223372036854775807) (hn : blockF (bs.drop at_.toNat) most = .inl n) (hR : Rd w B g bs at_ 0) (hm : w.cell? ⟨pm, 0, none⟩ = some (.int .i64 most)) (hr : w.cell? ⟨pr, 0, none⟩ = some (.pointer (some ⟨g, 0, none⟩))) :
  Calls Try.prog 118 #[.pointer (some ⟨pm, 0, none⟩), .pointer (some ⟨pr, 0, none⟩), .pointer (some ⟨pv, 0, none⟩)] w fun e w' => e = .panicked [{ v := .iface 34 (.int .i64 n), recovered := false }] ∧ (∃ at1, Aside0 (Rd w' B g bs at1 0)) ∧ Aside0 (Keeps w w' g none) := by
 have hN := Aside0.mk (block_no g bs at_ 0 most n w h0 h1 hm0 hm1 hn hR)
 have hd : decide (most ≥ 0) = true := by simpa using hm0
 clear hn hR
 go_enter Try.func118, Try.ntmps118
 go_wp2_with (first | (go_at_call 72; refine (must_s (by first | rfl | (simp; omega)) _ _).mono ?_; rintro e w2 ⟨rfl, hww⟩; subst hww) | (go_at_call 119; refine hN.out.mono ?_; rintro e w1 ⟨rfl, ⟨at1, hR1⟩, hK1⟩))
 exact ⟨rfl, rfl, ⟨at1, hR1⟩, hK1⟩
theorem blockF_len {l p rest : List Int} {most : Int} (h : blockF l most = .inr (p, rest)) : p.length ≤ l.length ∧ (p.length : Int) ≤ most ∧ ∃ k, k ≤ l.length ∧ rest = l.drop k := by
 rcases hv : numF l 0 0 with n | ⟨v, r1⟩
 ·rw [blockF, hv] at h; cases h
 ·rw [blockF, hv] at h
  simp only at h
  obtain ⟨⟨k, hk1, hk2⟩, hv0, hv1⟩ := numF_rest _ _ _ _ _ hv
  split at h
  ·split at h
   ·injection h with h
    injection h with hp hrest
    subst hp hrest
    have e1 : r1.length = l.length - k := by rw [hk2]; simp
    refine ⟨by rw [List.length_take]; omega, by rw [List.length_take]; omega, min l.length (k + v.toNat), by omega, ?_⟩
    rw [hk2, List.drop_drop]
    rcases Nat.le_total (k + v.toNat) l.length with hh | hh
    ·rw [Nat.min_eq_right hh]
    ·rw [Nat.min_eq_left hh, List.drop_eq_nil_of_le hh, List.drop_eq_nil_of_le (Nat.le_refl _)]
   ·cases h
  ·cases h
set_option maxHeartbeats 4000000 in
theorem blk_calls (g : Nat) (bs : List Int) (at_ fault most : Int) (w : World) (hm0 : 0 ≤ most) (hm1 : most < 211106232532992) (h0 : 0 ≤ at_) (h1 : at_ ≤ bs.length) (hR : Rd w B g bs at_ fault) :
  Calls Try.prog 81 #[.pointer (some ⟨g, 0, none⟩), .int .i64 most] w fun e w' => ∃ v, e = .returned v ∧ Kd.R (Kd.int .u8) 5 w' w.heap.size (fun _ => True) v (blkR bs at_ fault most).1 ∧ Aside0 (Rd w' B g bs (blkR bs at_ fault most).2.1 (blkR bs at_ fault most).2.2) ∧ Aside0 (Keeps w w' g none) := by
 have hmf : ∀ (fn : Fn) (first cap : Array Value) (w : World), (Instr.makeFunc fn first cap).run Try.prog w = .ok (.func fn first cap) w := fun _ _ _ _ => rfl
 obtain ⟨W2, hW2⟩ : ∃ W2, W2 = ((w.alloc (.cells #[.pointer (some ⟨g, 0, none⟩)] 50)).alloc (.cells #[.int .i64 most] 3)).alloc (.cells #[.slice none 0 0] 29) := ⟨_, rfl⟩
 have hB2 : Below w.heap.size w W2 := by rw [hW2]; exact below_alloc (below_alloc (below_alloc (Below.refl _ _) _) _) _
 have b1 : W2.heap[w.heap.size]? = some (.cells #[.pointer (some ⟨g, 0, none⟩)] 50 (0, 0)) := by rw [hW2]; exact heap_alloc_old (heap_alloc_old (by simpa using heap_alloc_new w _))
 have bm : W2.heap[w.heap.size + 1]? = some (.cells #[.int .i64 most] 3 (0, 0)) := by rw [hW2]; exact heap_alloc_old (by simpa using heap_alloc_new (w.alloc (.cells #[.pointer (some ⟨g, 0, none⟩)] 50)) _)
 have b2 : W2.heap[w.heap.size + 1 + 1]? = some (.cells #[.slice none 0 0] 29 (0, 0)) := by rw [hW2]; simpa using heap_alloc_new ((w.alloc (.cells #[.pointer (some ⟨g, 0, none⟩)] 50)).alloc (.cells #[.int .i64 most] 3)) _
 have hs2 : W2.heap.size = w.heap.size + 3 := by rw [hW2]; simp
 have hlt := hR.lt
 have hle := hR.le
 have hR2 := hR.below hB2
 have hF : ∀ (caps : Array Value) W, (callFunc 118 caps).run Try.prog W = .ok (.enter 118 caps) W := fun caps W => by simp [go_sem]
 have key : ∃ p at1 f1, blkR bs at_ fault most = (p, at1, f1) ∧ Calls Try.prog 70 #[.pointer (some ⟨g, 0, none⟩), .func (.func 118) #[] #[.pointer (some ⟨w.heap.size + 1, 0, none⟩), .pointer (some ⟨w.heap.size, 0, none⟩), .pointer (some ⟨w.heap.size + 1 + 1, 0, none⟩)]] W2 fun e w' => e = .returned (.tuple #[]) ∧ ∃ A c, Aside0 (w'.heap[w.heap.size + 1 + 1]? = some (.cells #[.slice A p.length c] 29 (0, 0))) ∧ Aside0 (Kd.R (Kd.int .u8) 5 w' (w.heap.size + 3) (fun _ => True) (.slice A p.length c) p) ∧ Aside0 (Rd w' B g bs at1 f1) ∧ Aside0 (Keeps w w' g none) := by
  by_cases hz : fault = 0
  ·subst hz
   rcases hn : blockF (bs.drop at_.toNat) most with n | ⟨p, rest⟩
   ·refine ⟨[], at_, n, by simp [blkR, hn]; omega, (reading_no g _ _ bs at_ n W2 (hF _) hR2 (fun W hB => bk_no g _ _ _ bs at_ most n W h0 h1 hm0 (by omega) hn (hR2.below hB) ((blk_cell (rd_below hB bm) 0).trans rfl) ((blk_cell (rd_below hB b1) 0).trans rfl))).mono ?_⟩
    rintro e w' ⟨rfl, hR', hK'⟩
    exact ⟨rfl, none, 0, ⟨hK'.out.blk b2 (by omega) (by simp)⟩, ⟨Kd.R_nil _ _ _ _ _⟩, hR', ⟨(Keeps.of_below hB2 g none).trans hK'.out (.inl rfl)⟩⟩
   ·have hpl : p.length < 211106232532992 := by have := (blockF_len hn).2.1; omega
    refine ⟨p, _, 0, by simp only [blkR, hn]; rw [if_neg (by omega), if_neg (by omega)], (reading_ok g _ _ bs at_ W2 (fun W w' => W2.heap.size ≤ W.heap.size ∧ ∃ w1 v, Rd w1 B g bs ((bs.length : Int) - rest.length) 0 ∧ Keeps W w1 g none ∧ Kd.R (Kd.int .u8) 5 w1 W.heap.size (fun _ => True) v p ∧ w' = w1.setCell ⟨w.heap.size + 1 + 1, 0, none⟩ v) (hF _) hR2 (fun W hB => (bk_ok g _ _ _ (.slice none 0 0) bs p rest at_ most W h0 h1 hm0 (by omega) hpl hn (hR2.below hB) ((blk_cell (rd_below hB bm) 0).trans rfl) ((blk_cell (rd_below hB b1) 0).trans rfl) (by omega) (by omega) (rd_below hB b2) (by omega)).mono (fun e w' h => ⟨h.1, ⟨hB.size, h.2.out⟩⟩))).mono ?_⟩
    rintro e w' ⟨rfl, W, hB, ⟨hsz, w1, v, hR1, hK1, hv, rfl⟩⟩
    obtain ⟨A, c, rfl⟩ := Kd.R_slice hv
    have hV := hK1.blk (rd_below hB b2) (show w.heap.size + 1 + 1 ≠ g by omega) (by simp)
    refine ⟨rfl, A, c, ?_, ⟨Kd.R_lower (R_setCell_old hv (by show w.heap.size + 1 + 1 < W.heap.size; omega) _) (by omega)⟩, ⟨hR1.keep (Keeps.set_ (Keeps.refl w1 (w.heap.size + 1 + 1) none) 0 _) (by omega)⟩, ⟨keeps_far ((((Keeps.of_below hB2 g none).trans (Keeps.of_below hB g none) (.inl rfl))).trans hK1 (.inl rfl)) (by show w.heap.size ≤ w.heap.size + 1 + 1; omega) _⟩⟩
    have := blk_set hV 0 (.slice A p.length c)
    exact ⟨by simpa using this⟩
  ·refine ⟨[], at_, fault, by simp [blkR, hz], (reading_skip g _ bs at_ fault W2 hz hR2).mono ?_⟩
   rintro e w' ⟨rfl, hB⟩
   exact ⟨rfl, none, 0, ⟨rd_below hB b2⟩, ⟨Kd.R_nil _ _ _ _ _⟩, ⟨hR2.below hB⟩, ⟨(Keeps.of_below hB2 g none).trans (Keeps.of_below hB g none) (.inl rfl)⟩⟩
 obtain ⟨p, at1, f1, hu, hD⟩ := key
 rw [hu]
 rw [hW2] at hD
 have hD := Aside0.mk hD
 clear hu hF hR hR2 b1 b2 bm hB2 hlt h0 h1 hm0 hm1 hs2
 go_enter Try.func81, Try.ntmps81
 go_wp2_with (go_at_call 70; refine hD.out.mono ?_; rintro e w1 ⟨rfl, A, c, hb1, hv1, hR1, hK1⟩; have c1 : w1.cell? ⟨w.heap.size + 1 + 1, 0, none⟩ = some (.slice A p.length c) := (blk_cell hb1.out 0).trans rfl; have z1 := blk_frozen hb1.out 0)
 have c2 : (w1.setCell ⟨w.heap.size + 1 + 1, 0, none⟩ (.slice A p.length c)).cell? ⟨w.heap.size + 1 + 1, 0, none⟩ = some (.slice A p.length c) := (blk_cell (blk_set hb1.out 0 (.slice A p.length c)) 0).trans rfl
 exact ⟨rfl, .slice A p.length c, by simp [results, Try.results81, Try.f81, go_sem, c2], _, rfl, Kd.R_lower (R_setCell_old hv1.out (by show w.heap.size + 1 + 1 < w.heap.size + 3; omega) _) (by omega), ⟨hR1.out.keep (Keeps.set_ (Keeps.refl w1 (w.heap.size + 1 + 1) none) 0 _) (by omega)⟩, ⟨keeps_far hK1.out (by show w.heap.size ≤ w.heap.size + 1 + 1; omega) _⟩⟩
end Go.Proofs.Ythiidgmemoineaa.Pa
