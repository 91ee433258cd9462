/- The texts of ZoneBack, merged: part 28. -/
import Derived.Test.YthiidgmemoineaaQZoneBack27
/- The reader of layer 7: Varint, Bytes, Block of whatever limit, Fault. -/
namespace Go.Proofs.Ythiidgmemoineaa.Pa
open Go.Proofs.Ythiidgmemoineaa.L Go.RowKit Go.Proofs.YthiidgmemoineaaW.PrintWords Go.Proofs.YthiidgmemoineaaW.PrintLast Go.Proofs.YthiidgmemoineaaW.PrintMore
set_option linter.unusedVariables false
set_option linter.unusedSimpArgs false
variable {B : Nat × Nat}
def unfV (u : Int) : Int := Go.bits .xor .i64 (wrap64 (u / 2)) (wrap64 (-(wrap64 (Go.bits .and .u64 u 1))))
def viR (bs : List Int) (at_ fault : Int) : Int × Int × Int :=
 if fault ≠ 0 then (0, at_, fault) else match numF (bs.drop at_.toNat) 0 0 with
  | .inr (v, rest) => (unfV v, (bs.length : Int) - rest.length, 0)
  | .inl n => (0, at_, n)
set_option maxHeartbeats 4000000 in
theorem vi_no (g pr pv : Nat) (bs : List Int) (at_ n : Int) (w : World) (h0 : 0 ≤ at_) (h1 : at_ ≤ bs.length) (hn : numF (bs.drop at_.toNat) 0 0 = .inl n) (hR : Rd w B g bs at_ 0) (hr : w.cell? ⟨pr, 0, none⟩ = some (.pointer (some ⟨g, 0, none⟩))) :
  Calls Try.prog 139 #[.pointer (some ⟨pr, 0, none⟩), .pointer (some ⟨pv, 0, none⟩)] w fun e w' => e = .panicked [{ v := .iface 34 (.int .i64 n), recovered := false }] ∧ (∃ at1, Aside0 (Rd w' B g bs at1 0)) ∧ Aside0 (Keeps w w' g none) := by
 have hN := Aside0.mk (number_no g bs at_ 0 n w h0 h1 hn hR)
 clear hn hR
 go_enter Try.func139, Try.ntmps139
 go_wp2_with (go_at_call 113; refine hN.out.mono ?_; rintro e w1 ⟨rfl, ⟨at1, hR1⟩, hK1⟩)
 exact ⟨rfl, rfl, ⟨at1, hR1⟩, hK1⟩
set_option maxHeartbeats 4000000 in
theorem vi_ok (g pr pv : Nat) (x : Value) (bs rest : List Int) (at_ v : Int) (w : World) (h0 : 0 ≤ at_) (h1 : at_ ≤ bs.length) (hn : numF (bs.drop at_.toNat) 0 0 = .inr (v, rest)) (hR : Rd w B g bs at_ 0) (hr : w.cell? ⟨pr, 0, none⟩ = some (.pointer (some ⟨g, 0, none⟩))) (hv : w.heap[pv]? = some (.cells #[x] 2 (0, 0))) (hg : pv ≠ g) :
  Calls Try.prog 139 #[.pointer (some ⟨pr, 0, none⟩), .pointer (some ⟨pv, 0, none⟩)] w fun e w' => e = .returned (.tuple #[]) ∧ Aside0 (∃ w1, Rd w1 B g bs ((bs.length : Int) - rest.length) 0 ∧ Keeps w w1 g none ∧ w' = w1.setCell ⟨pv, 0, none⟩ (.int .i64 (unfV v))) := by
 have hN := Aside0.mk (number_ok g bs rest at_ 0 v w h0 h1 hn hR)
 have hV := Aside0.mk hv
 clear hn hR hv
 go_enter Try.func139, Try.ntmps139
 go_wp2_with (go_at_call 113; refine hN.out.mono ?_; rintro e w1 ⟨rfl, hR1, hK1⟩; have hV1 := hK1.out.blk hV.out hg (by simp); have c1 := (blk_cell hV1 0).trans rfl; have z1 := blk_frozen hV1 0; clear hV1)
 exact ⟨rfl, _, results_none rfl _ _ _, rfl, ⟨_, hR1.out, hK1.out, rfl⟩⟩
set_option maxHeartbeats 4000000 in
theorem varint_calls (g : Nat) (bs : List Int) (at_ fault : Int) (w : World) (h0 : 0 ≤ at_) (h1 : at_ ≤ bs.length) (hR : Rd w B g bs at_ fault) :
  Calls Try.prog 116 #[.pointer (some ⟨g, 0, none⟩)] w fun e w' => e = .returned (.int .i64 (viR bs at_ fault).1) ∧ Aside0 (Rd w' B g bs (viR bs at_ fault).2.1 (viR bs at_ fault).2.2) ∧ Aside0 (Keeps w w' g none) := by
 have hmf : ∀ (fn : Fn) (first cap : Array Value) (w : World), (Instr.makeFunc fn first cap).run Try.prog w = .ok (.func fn first cap) w := fun _ _ _ _ => rfl
 obtain ⟨W2, hW2⟩ : ∃ W2, W2 = (w.alloc (.cells #[.pointer (some ⟨g, 0, none⟩)] 50)).alloc (.cells #[.int .i64 0] 2) := ⟨_, rfl⟩
 have hB2 : Below w.heap.size w W2 := by rw [hW2]; exact below_alloc (below_alloc (Below.refl _ _) _) _
 have b1 : W2.heap[w.heap.size]? = some (.cells #[.pointer (some ⟨g, 0, none⟩)] 50 (0, 0)) := by rw [hW2]; exact heap_alloc_old (by simpa using heap_alloc_new w _)
 have b2 : W2.heap[w.heap.size + 1]? = some (.cells #[.int .i64 0] 2 (0, 0)) := by rw [hW2]; simpa using heap_alloc_new (w.alloc (.cells #[.pointer (some ⟨g, 0, none⟩)] 50)) _
 have hlt := hR.lt
 have hle := hR.le
 have hR2 := hR.below hB2
 have hF : ∀ (caps : Array Value) W, (callFunc 139 caps).run Try.prog W = .ok (.enter 139 caps) W := fun caps W => by simp [go_sem]
 have key : ∃ v at1 f1, viR bs at_ fault = (v, at1, f1) ∧ Calls Try.prog 70 #[.pointer (some ⟨g, 0, none⟩), .func (.func 139) #[] #[.pointer (some ⟨w.heap.size, 0, none⟩), .pointer (some ⟨w.heap.size + 1, 0, none⟩)]] W2 fun e w' => e = .returned (.tuple #[]) ∧ Aside0 (w'.heap[w.heap.size + 1]? = some (.cells #[.int .i64 v] 2 (0, 0))) ∧ Aside0 (Rd w' B g bs at1 f1) ∧ Aside0 (Keeps w w' g none) := by
  by_cases hz : fault = 0
  ·subst hz
   rcases hn : numF (bs.drop at_.toNat) 0 0 with n | ⟨v, rest⟩
   ·refine ⟨0, at_, n, by simp [viR, hn], (reading_no g _ _ bs at_ n W2 (hF _) hR2 (fun W hB => vi_no g _ _ bs at_ n W h0 h1 hn (hR2.below hB) ((blk_cell (rd_below hB b1) 0).trans rfl))).mono ?_⟩
    rintro e w' ⟨rfl, hR', hK'⟩
    exact ⟨rfl, ⟨hK'.out.blk b2 (by omega) (by simp)⟩, hR', ⟨(Keeps.of_below hB2 g none).trans hK'.out (.inl rfl)⟩⟩
   ·refine ⟨unfV v, _, 0, by simp only [viR, hn]; rfl, (reading_ok g _ _ bs at_ W2 (fun W w' => ∃ w1, Rd w1 B g bs ((bs.length : Int) - rest.length) 0 ∧ Keeps W w1 g none ∧ w' = w1.setCell ⟨w.heap.size + 1, 0, none⟩ (.int .i64 (unfV v))) (hF _) hR2 (fun W hB => vi_ok g _ _ (.int .i64 0) bs rest at_ v W h0 h1 hn (hR2.below hB) ((blk_cell (rd_below hB b1) 0).trans rfl) (rd_below hB b2) (by omega))).mono ?_⟩
    rintro e w' ⟨rfl, W, hB, ⟨w1, hR1, hK1, rfl⟩⟩
    have hV := hK1.blk (rd_below hB b2) (show w.heap.size + 1 ≠ g by omega) (by simp)
    refine ⟨rfl, ?_, ⟨hR1.keep (Keeps.set_ (Keeps.refl w1 (w.heap.size + 1) none) 0 _) (by omega)⟩, ⟨keeps_far ((((Keeps.of_below hB2 g none).trans (Keeps.of_below hB g none) (.inl rfl))).trans hK1 (.inl rfl)) (by show w.heap.size ≤ w.heap.size + 1; omega) _⟩⟩
    have := blk_set hV 0 (.int .i64 (unfV v))
    exact ⟨by simpa using this⟩
  ·refine ⟨0, at_, fault, by simp [viR, hz], (reading_skip g _ bs at_ fault W2 hz hR2).mono ?_⟩
   rintro e w' ⟨rfl, hB⟩
   exact ⟨rfl, ⟨rd_below hB b2⟩, ⟨hR2.below hB⟩, ⟨(Keeps.of_below hB2 g none).trans (Keeps.of_below hB g none) (.inl rfl)⟩⟩
 obtain ⟨v, at1, f1, hu, hD⟩ := key
 rw [hu]
 rw [hW2] at hD
 have hD := Aside0.mk hD
 clear hu hF hR hR2 b1 b2 hB2 hlt h0 h1
 go_enter Try.func116, Try.ntmps116
 go_wp2_with (go_at_call 70; refine hD.out.mono ?_; rintro e w1 ⟨rfl, hb1, hR1, hK1⟩; have c1 : w1.cell? ⟨w.heap.size + 1, 0, none⟩ = some (.int .i64 v) := (blk_cell hb1.out 0).trans rfl; have z1 := blk_frozen hb1.out 0)
 have c2 : (w1.setCell ⟨w.heap.size + 1, 0, none⟩ (.int .i64 v)).cell? ⟨w.heap.size + 1, 0, none⟩ = some (.int .i64 v) := (blk_cell (blk_set hb1.out 0 (.int .i64 v)) 0).trans rfl
 exact ⟨rfl, .int .i64 v, by simp [results, Try.results116, Try.f116, go_sem, c2], rfl, ⟨hR1.out.keep (Keeps.set_ (Keeps.refl w1 (w.heap.size + 1) none) 0 _) (Nat.le_succ_of_le hle)⟩, ⟨keeps_far hK1.out (Nat.le_succ _) _⟩⟩
set_option maxHeartbeats 4000000 in
theorem bk_neg (g pm pr pv : Nat) (bs : List Int) (at_ n : Int) (w : World) (hn : n < 0) (hR : Rd w B g bs at_ 0) (hm : w.cell? ⟨pm, 0, none⟩ = some (.int .i64 n)) :
  Calls Try.prog 118 #[.pointer (some ⟨pm, 0, none⟩), .pointer (some ⟨pr, 0, none⟩), .pointer (some ⟨pv, 0, none⟩)] w fun e w' => e = .panicked [{ v := .iface 34 (.int .i64 2), recovered := false }] ∧ (∃ at1, Aside0 (Rd w' B g bs at1 0)) ∧ Aside0 (Keeps w w' g none) := by
 have hd : decide (n ≥ 0) = false := by simpa using hn
 have hR0 := Aside0.mk hR
 clear hR
 go_enter Try.func118, Try.ntmps118
 go_wp2_with (go_at_call 72; refine (must_f (by first | rfl | (simp; omega)) _ _).mono ?_; rintro e w2 ⟨rfl, rfl⟩)
 exact ⟨rfl, rfl, ⟨at_, hR0⟩, ⟨Keeps.refl _ _ _⟩⟩
set_option maxHeartbeats 4000000 in
theorem blkg_calls (g : Nat) (bs : List Int) (at_ fault most : Int) (w : World) (hm0 : -9223372036854775808 ≤ most) (hm1 : most ≤ 9223372036854775807) (hbl : bs.length < 211106232532992) (h0 : 0 ≤ at_) (h1 : at_ ≤ bs.length) (hR : Rd w B g bs at_ fault) :
  Calls Try.prog 81 #[.pointer (some ⟨g, 0, none⟩), .int .i64 most] w fun e w' => ∃ v, e = .returned v ∧ Kd.R (Kd.int .u8) 5 w' w.heap.size (fun _ => True) v (blkR bs at_ fault most).1 ∧ Aside0 (Rd w' B g bs (blkR bs at_ fault most).2.1 (blkR bs at_ fault most).2.2) ∧ Aside0 (Keeps w w' g none) := by
 have hmf : ∀ (fn : Fn) (first cap : Array Value) (w : World), (Instr.makeFunc fn first cap).run Try.prog w = .ok (.func fn first cap) w := fun _ _ _ _ => rfl
 obtain ⟨W2, hW2⟩ : ∃ W2, W2 = ((w.alloc (.cells #[.pointer (some ⟨g, 0, none⟩)] 50)).alloc (.cells #[.int .i64 most] 3)).alloc (.cells #[.slice none 0 0] 29) := ⟨_, rfl⟩
 have hB2 : Below w.heap.size w W2 := by rw [hW2]; exact below_alloc (below_alloc (below_alloc (Below.refl _ _) _) _) _
 have b1 : W2.heap[w.heap.size]? = some (.cells #[.pointer (some ⟨g, 0, none⟩)] 50 (0, 0)) := by rw [hW2]; exact heap_alloc_old (heap_alloc_old (by simpa using heap_alloc_new w _))
 have bm : W2.heap[w.heap.size + 1]? = some (.cells #[.int .i64 most] 3 (0, 0)) := by rw [hW2]; exact heap_alloc_old (by simpa using heap_alloc_new (w.alloc (.cells #[.pointer (some ⟨g, 0, none⟩)] 50)) _)
 have b2 : W2.heap[w.heap.size + 1 + 1]? = some (.cells #[.slice none 0 0] 29 (0, 0)) := by rw [hW2]; simpa using heap_alloc_new ((w.alloc (.cells #[.pointer (some ⟨g, 0, none⟩)] 50)).alloc (.cells #[.int .i64 most] 3)) _
 have hs2 : W2.heap.size = w.heap.size + 3 := by rw [hW2]; simp
 have hlt := hR.lt
 have hle := hR.le
 have hR2 := hR.below hB2
 have hF : ∀ (caps : Array Value) W, (callFunc 118 caps).run Try.prog W = .ok (.enter 118 caps) W := fun caps W => by simp [go_sem]
 have key : ∃ p at1 f1, blkR bs at_ fault most = (p, at1, f1) ∧ Calls Try.prog 70 #[.pointer (some ⟨g, 0, none⟩), .func (.func 118) #[] #[.pointer (some ⟨w.heap.size + 1, 0, none⟩), .pointer (some ⟨w.heap.size, 0, none⟩), .pointer (some ⟨w.heap.size + 1 + 1, 0, none⟩)]] W2 fun e w' => e = .returned (.tuple #[]) ∧ ∃ A c, Aside0 (w'.heap[w.heap.size + 1 + 1]? = some (.cells #[.slice A p.length c] 29 (0, 0))) ∧ Aside0 (Kd.R (Kd.int .u8) 5 w' (w.heap.size + 3) (fun _ => True) (.slice A p.length c) p) ∧ Aside0 (Rd w' B g bs at1 f1) ∧ Aside0 (Keeps w w' g none) := by
  by_cases hz : fault = 0
  ·subst hz
   by_cases hneg : most < 0
   ·refine ⟨[], at_, 2, by simp [blkR, hneg], (reading_no g _ _ bs at_ 2 W2 (hF _) hR2 (fun W hB => bk_neg g _ _ _ bs at_ most W hneg (hR2.below hB) ((blk_cell (rd_below hB bm) 0).trans rfl))).mono ?_⟩
    rintro e w' ⟨rfl, hR', hK'⟩
    exact ⟨rfl, none, 0, ⟨hK'.out.blk b2 (by omega) (by simp)⟩, ⟨Kd.R_nil _ _ _ _ _⟩, hR', ⟨(Keeps.of_below hB2 g none).trans hK'.out (.inl rfl)⟩⟩
   have hm0 : 0 ≤ most := by omega
   rcases hn : blockF (bs.drop at_.toNat) most with n | ⟨p, rest⟩
   ·refine ⟨[], at_, n, by simp [blkR, hn]; omega, (reading_no g _ _ bs at_ n W2 (hF _) hR2 (fun W hB => bk_no g _ _ _ bs at_ most n W h0 h1 hm0 (by omega) hn (hR2.below hB) ((blk_cell (rd_below hB bm) 0).trans rfl) ((blk_cell (rd_below hB b1) 0).trans rfl))).mono ?_⟩
    rintro e w' ⟨rfl, hR', hK'⟩
    exact ⟨rfl, none, 0, ⟨hK'.out.blk b2 (by omega) (by simp)⟩, ⟨Kd.R_nil _ _ _ _ _⟩, hR', ⟨(Keeps.of_below hB2 g none).trans hK'.out (.inl rfl)⟩⟩
   ·have hpl : p.length < 211106232532992 := by have := (blockF_len hn).1; simp only [List.length_drop] at this; omega
    refine ⟨p, _, 0, by simp only [blkR, hn]; rw [if_neg (by omega), if_neg (by omega)], (reading_ok g _ _ bs at_ W2 (fun W w' => W2.heap.size ≤ W.heap.size ∧ ∃ w1 v, Rd w1 B g bs ((bs.length : Int) - rest.length) 0 ∧ Keeps W w1 g none ∧ Kd.R (Kd.int .u8) 5 w1 W.heap.size (fun _ => True) v p ∧ w' = w1.setCell ⟨w.heap.size + 1 + 1, 0, none⟩ v) (hF _) hR2 (fun W hB => (bk_ok g _ _ _ (.slice none 0 0) bs p rest at_ most W h0 h1 hm0 (by omega) hpl hn (hR2.below hB) ((blk_cell (rd_below hB bm) 0).trans rfl) ((blk_cell (rd_below hB b1) 0).trans rfl) (by omega) (by omega) (rd_below hB b2) (by omega)).mono (fun e w' h => ⟨h.1, ⟨hB.size, h.2.out⟩⟩))).mono ?_⟩
    rintro e w' ⟨rfl, W, hB, ⟨hsz, w1, v, hR1, hK1, hv, rfl⟩⟩
    obtain ⟨A, c, rfl⟩ := Kd.R_slice hv
    have hV := hK1.blk (rd_below hB b2) (show w.heap.size + 1 + 1 ≠ g by omega) (by simp)
    refine ⟨rfl, A, c, ?_, ⟨Kd.R_lower (R_setCell_old hv (by show w.heap.size + 1 + 1 < W.heap.size; omega) _) (by omega)⟩, ⟨hR1.keep (Keeps.set_ (Keeps.refl w1 (w.heap.size + 1 + 1) none) 0 _) (by omega)⟩, ⟨keeps_far ((((Keeps.of_below hB2 g none).trans (Keeps.of_below hB g none) (.inl rfl))).trans hK1 (.inl rfl)) (by show w.heap.size ≤ w.heap.size + 1 + 1; omega) _⟩⟩
    have := blk_set hV 0 (.slice A p.length c)
    exact ⟨by simpa using this⟩
  ·refine ⟨[], at_, fault, by simp [blkR, hz], (reading_skip g _ bs at_ fault W2 hz hR2).mono ?_⟩
   rintro e w' ⟨rfl, hB⟩
   exact ⟨rfl, none, 0, ⟨rd_below hB b2⟩, ⟨Kd.R_nil _ _ _ _ _⟩, ⟨hR2.below hB⟩, ⟨(Keeps.of_below hB2 g none).trans (Keeps.of_below hB g none) (.inl rfl)⟩⟩
 obtain ⟨p, at1, f1, hu, hD⟩ := key
 rw [hu]
 rw [hW2] at hD
 have hD := Aside0.mk hD
 clear hu hF hR hR2 b1 b2 bm hB2 hlt h0 h1 hm0 hm1 hbl hs2
 go_enter Try.func81, Try.ntmps81
 go_wp2_with (go_at_call 70; refine hD.out.mono ?_; rintro e w1 ⟨rfl, A, c, hb1, hv1, hR1, hK1⟩; have c1 : w1.cell? ⟨w.heap.size + 1 + 1, 0, none⟩ = some (.slice A p.length c) := (blk_cell hb1.out 0).trans rfl; have z1 := blk_frozen hb1.out 0)
 have c2 : (w1.setCell ⟨w.heap.size + 1 + 1, 0, none⟩ (.slice A p.length c)).cell? ⟨w.heap.size + 1 + 1, 0, none⟩ = some (.slice A p.length c) := (blk_cell (blk_set hb1.out 0 (.slice A p.length c)) 0).trans rfl
 exact ⟨rfl, .slice A p.length c, by simp [results, Try.results81, Try.f81, go_sem, c2], _, rfl, Kd.R_lower (R_setCell_old hv1.out (by show w.heap.size + 1 + 1 < w.heap.size + 3; omega) _) (by omega), ⟨hR1.out.keep (Keeps.set_ (Keeps.refl w1 (w.heap.size + 1 + 1) none) 0 _) (by omega)⟩, ⟨keeps_far hK1.out (by show w.heap.size ≤ w.heap.size + 1 + 1; omega) _⟩⟩
def bytR (bs : List Int) (at_ fault n : Int) : List Int × Int × Int :=
 if fault ≠ 0 then ([], at_, fault) else if n < 0 then ([], at_, 2) else if n ≤ (bs.length : Int) - at_ then ((bs.drop at_.toNat).take n.toNat, at_ + n, 0) else ([], at_, 71)
set_option maxHeartbeats 4000000 in
theorem by_neg (g pm pr pv : Nat) (bs : List Int) (at_ n : Int) (w : World) (hn : n < 0) (hR : Rd w B g bs at_ 0) (hm : w.cell? ⟨pm, 0, none⟩ = some (.int .i64 n)) :
  Calls Try.prog 71 #[.pointer (some ⟨pm, 0, none⟩), .pointer (some ⟨pr, 0, none⟩), .pointer (some ⟨pv, 0, none⟩)] w fun e w' => e = .panicked [{ v := .iface 34 (.int .i64 2), recovered := false }] ∧ (∃ at1, Aside0 (Rd w' B g bs at1 0)) ∧ Aside0 (Keeps w w' g none) := by
 have hd : decide (n ≥ 0) = false := by simpa using hn
 have hR0 := Aside0.mk hR
 clear hR
 go_enter Try.func71, Try.ntmps71
 go_wp2_with (go_at_call 72; refine (must_f (by first | rfl | (simp; omega)) _ _).mono ?_; rintro e w2 ⟨rfl, rfl⟩)
 exact ⟨rfl, rfl, ⟨at_, hR0⟩, ⟨Keeps.refl _ _ _⟩⟩
set_option maxHeartbeats 4000000 in
theorem by_ok (g pm pr pv : Nat) (x : Value) (bs : List Int) (at_ n : Int) (w : World) (h0 : 0 ≤ at_) (hn0 : 0 ≤ n) (hn : n ≤ (bs.length : Int) - at_) (hbl : bs.length < 211106232532992) (hR : Rd w B g bs at_ 0) (hm : w.cell? ⟨pm, 0, none⟩ = some (.int .i64 n)) (hr : w.cell? ⟨pr, 0, none⟩ = some (.pointer (some ⟨g, 0, none⟩))) (hmg : pm ≠ g) (hrg : pr ≠ g) (hv : w.heap[pv]? = some (.cells #[x] 29 (0, 0))) (hg : pv ≠ g) :
  Calls Try.prog 71 #[.pointer (some ⟨pm, 0, none⟩), .pointer (some ⟨pr, 0, none⟩), .pointer (some ⟨pv, 0, none⟩)] w fun e w' => e = .returned (.tuple #[]) ∧ Aside0 (∃ w1 v, Rd w1 B g bs (at_ + n) 0 ∧ Keeps w w1 g none ∧ Kd.R (Kd.int .u8) 5 w1 w.heap.size (fun _ => True) v ((bs.drop at_.toNat).take n.toNat) ∧ w' = w1.setCell ⟨pv, 0, none⟩ v) := by
 obtain ⟨p, hp⟩ : ∃ p, p = (bs.drop at_.toNat).take n.toNat := ⟨_, rfl⟩
 have hpl : p.length = n.toNat := by rw [hp]; simp; omega
 have hN := Aside0.mk (fun W (hB : Below w.heap.size w W) => take_ok g bs at_ 0 n W h0 hn0 hn (hR.below hB))
 rw [← hp, ← hpl] at hN
 rw [← hp]
 have hV := Aside0.mk hv
 have hw : IntKind.u64.wrap n = n := by rw [IntKind.wrap_u64]; omega
 have hd : decide (n ≥ 0) = true := by simpa using hn0
 have hpl2 : p.length < 211106232532992 := by omega
 have HP := Aside0.mk hpl2
 clear hR hv hp hpl hpl2
 go_enter Try.func71, Try.ntmps71
 go_wp2_with (first | (go_at_call 72; refine (must_s (by first | rfl | (simp; omega)) _ _).mono ?_; rintro e w2 ⟨rfl, hww⟩; subst hww) | (go_at_call 73; refine (hN.out _ (Below.refl _ _)).mono ?_; rintro e w1 ⟨A, c, rfl, hc1, hC1, hA1, hR1, hK1⟩; replace hc1 := Aside0.mk hc1; replace hC1 := Aside0.mk hC1; replace hA1 := Aside0.mk hA1; replace hR1 := Aside0.mk hR1; replace hK1 := Aside0.mk hK1) | (go_at_call 68; refine (bytes_Clone.calls A c p p _ hC1.out hc1.out (by rw [bytes_Clone.f, if_pos HP.out])).mono ?_; rintro e w2 ⟨v, rfl, hv2, hb2⟩; obtain ⟨A2, c2, hvs⟩ := Kd.R_slice hv2; subst hvs; have hV1 := rd_below hb2 (hK1.out.blk hV.out hg (by simp)); have c1 := (blk_cell hV1 0).trans rfl; have z1 := blk_frozen hV1 0; replace hv2 := Aside0.mk hv2; replace hb2 := Aside0.mk hb2; clear hV1))
 have hK2 : Keeps w w2 g none := hK1.out.trans (Keeps.of_below hb2.out g none) (.inl rfl)
 exact ⟨rfl, _, results_none rfl _ _ _, rfl, ⟨w2, .slice A2 p.length c2, hR1.out.below hb2.out, hK2, Kd.R_lower hv2.out hK1.out.1, rfl⟩⟩
set_option maxHeartbeats 4000000 in
theorem by_no (g pm pr pv : Nat) (bs : List Int) (at_ n : Int) (w : World) (h0 : 0 ≤ at_) (h1 : at_ ≤ bs.length) (hn0 : 0 ≤ n) (hn1 : n ≤ 9223372036854775807) (hn : (bs.length : Int) - at_ < n) (hR : Rd w B g bs at_ 0) (hm : w.cell? ⟨pm, 0, none⟩ = some (.int .i64 n)) (hr : w.cell? ⟨pr, 0, none⟩ = some (.pointer (some ⟨g, 0, none⟩))) :
  Calls Try.prog 71 #[.pointer (some ⟨pm, 0, none⟩), .pointer (some ⟨pr, 0, none⟩), .pointer (some ⟨pv, 0, none⟩)] w fun e w' => e = .panicked [{ v := .iface 34 (.int .i64 71), recovered := false }] ∧ (∃ at1, Aside0 (Rd w' B g bs at1 0)) ∧ Aside0 (Keeps w w' g none) := by
 have hN := Aside0.mk (fun W (hB : Below w.heap.size w W) => take_no g bs at_ 0 n W h0 h1 hn (hR.below hB))
 have hw : IntKind.u64.wrap n = n := by rw [IntKind.wrap_u64]; omega
 have hd : decide (n ≥ 0) = true := by simpa using hn0
 have hR0 := Aside0.mk hR
 clear hR
 go_enter Try.func71, Try.ntmps71
 go_wp2_with (first | (go_at_call 72; refine (must_s (by first | rfl | (simp; omega)) _ _).mono ?_; rintro e w2 ⟨rfl, hww⟩; subst hww) | (go_at_call 73; refine (hN.out _ (Below.refl _ _)).mono ?_; rintro e w1 ⟨rfl, hb1⟩))
 exact ⟨rfl, rfl, ⟨at_, ⟨hR0.out.below hb1⟩⟩, ⟨Keeps.of_below hb1 _ _⟩⟩
set_option maxHeartbeats 4000000 in
theorem bytes_calls (g : Nat) (bs : List Int) (at_ fault most : Int) (w : World) (hm0 : -9223372036854775808 ≤ most) (hm1 : most ≤ 9223372036854775807) (hbl : bs.length < 211106232532992) (h0 : 0 ≤ at_) (h1 : at_ ≤ bs.length) (hR : Rd w B g bs at_ fault) :
  Calls Try.prog 29 #[.pointer (some ⟨g, 0, none⟩), .int .i64 most] w fun e w' => ∃ v, e = .returned v ∧ Kd.R (Kd.int .u8) 5 w' w.heap.size (fun _ => True) v (bytR bs at_ fault most).1 ∧ Aside0 (Rd w' B g bs (bytR bs at_ fault most).2.1 (bytR bs at_ fault most).2.2) ∧ Aside0 (Keeps w w' g none) := by
 have hmf : ∀ (fn : Fn) (first cap : Array Value) (w : World), (Instr.makeFunc fn first cap).run Try.prog w = .ok (.func fn first cap) w := fun _ _ _ _ => rfl
 obtain ⟨W2, hW2⟩ : ∃ W2, W2 = ((w.alloc (.cells #[.pointer (some ⟨g, 0, none⟩)] 50)).alloc (.cells #[.int .i64 most] 3)).alloc (.cells #[.slice none 0 0] 29) := ⟨_, rfl⟩
 have hB2 : Below w.heap.size w W2 := by rw [hW2]; exact below_alloc (below_alloc (below_alloc (Below.refl _ _) _) _) _
 have b1 : W2.heap[w.heap.size]? = some (.cells #[.pointer (some ⟨g, 0, none⟩)] 50 (0, 0)) := by rw [hW2]; exact heap_alloc_old (heap_alloc_old (by simpa using heap_alloc_new w _))
 have bm : W2.heap[w.heap.size + 1]? = some (.cells #[.int .i64 most] 3 (0, 0)) := by rw [hW2]; exact heap_alloc_old (by simpa using heap_alloc_new (w.alloc (.cells #[.pointer (some ⟨g, 0, none⟩)] 50)) _)
 have b2 : W2.heap[w.heap.size + 1 + 1]? = some (.cells #[.slice none 0 0] 29 (0, 0)) := by rw [hW2]; simpa using heap_alloc_new ((w.alloc (.cells #[.pointer (some ⟨g, 0, none⟩)] 50)).alloc (.cells #[.int .i64 most] 3)) _
 have hs2 : W2.heap.size = w.heap.size + 3 := by rw [hW2]; simp
 have hlt := hR.lt
 have hle := hR.le
 have hR2 := hR.below hB2
 have hF : ∀ (caps : Array Value) W, (callFunc 71 caps).run Try.prog W = .ok (.enter 71 caps) W := fun caps W => by simp [go_sem]
 have key : ∃ p at1 f1, bytR bs at_ fault most = (p, at1, f1) ∧ Calls Try.prog 70 #[.pointer (some ⟨g, 0, none⟩), .func (.func 71) #[] #[.pointer (some ⟨w.heap.size + 1, 0, none⟩), .pointer (some ⟨w.heap.size, 0, none⟩), .pointer (some ⟨w.heap.size + 1 + 1, 0, none⟩)]] W2 fun e w' => e = .returned (.tuple #[]) ∧ ∃ A c, Aside0 (w'.heap[w.heap.size + 1 + 1]? = some (.cells #[.slice A p.length c] 29 (0, 0))) ∧ Aside0 (Kd.R (Kd.int .u8) 5 w' (w.heap.size + 3) (fun _ => True) (.slice A p.length c) p) ∧ Aside0 (Rd w' B g bs at1 f1) ∧ Aside0 (Keeps w w' g none) := by
  by_cases hz : fault = 0
  ·subst hz
   by_cases hneg : most < 0
   ·refine ⟨[], at_, 2, by simp [bytR, hneg], (reading_no g _ _ bs at_ 2 W2 (hF _) hR2 (fun W hB => by_neg g _ _ _ bs at_ most W hneg (hR2.below hB) ((blk_cell (rd_below hB bm) 0).trans rfl))).mono ?_⟩
    rintro e w' ⟨rfl, hR', hK'⟩
    exact ⟨rfl, none, 0, ⟨hK'.out.blk b2 (by omega) (by simp)⟩, ⟨Kd.R_nil _ _ _ _ _⟩, hR', ⟨(Keeps.of_below hB2 g none).trans hK'.out (.inl rfl)⟩⟩
   have hm0 : 0 ≤ most := by omega
   by_cases hn : most ≤ (bs.length : Int) - at_
   case neg =>
    refine ⟨[], at_, 71, by simp [bytR, hneg, hn], (reading_no g _ _ bs at_ 71 W2 (hF _) hR2 (fun W hB => by_no g _ _ _ bs at_ most W h0 h1 hm0 hm1 (by omega) (hR2.below hB) ((blk_cell (rd_below hB bm) 0).trans rfl) ((blk_cell (rd_below hB b1) 0).trans rfl))).mono ?_⟩
    rintro e w' ⟨rfl, hR', hK'⟩
    exact ⟨rfl, none, 0, ⟨hK'.out.blk b2 (by omega) (by simp)⟩, ⟨Kd.R_nil _ _ _ _ _⟩, hR', ⟨(Keeps.of_below hB2 g none).trans hK'.out (.inl rfl)⟩⟩
   case pos =>
    obtain ⟨p, hp⟩ : ∃ p, p = (bs.drop at_.toNat).take most.toNat := ⟨_, rfl⟩
    have hq := fun W hB => by_ok (B := B) g (w.heap.size + 1) w.heap.size (w.heap.size + 1 + 1) (.slice none 0 0) bs at_ most W h0 hm0 hn hbl (hR2.below hB) ((blk_cell (rd_below hB bm) 0).trans rfl) ((blk_cell (rd_below hB b1) 0).trans rfl) (by omega) (by omega) (rd_below hB b2) (by omega)
    rw [← hp] at hq
    refine ⟨p, _, 0, by simp only [bytR]; rw [if_neg (by omega), if_neg (by omega), if_pos hn, hp], (reading_ok g _ _ bs at_ W2 (fun W w' => W2.heap.size ≤ W.heap.size ∧ ∃ w1 v, Rd w1 B g bs (at_ + most) 0 ∧ Keeps W w1 g none ∧ Kd.R (Kd.int .u8) 5 w1 W.heap.size (fun _ => True) v p ∧ w' = w1.setCell ⟨w.heap.size + 1 + 1, 0, none⟩ v) (hF _) hR2 (fun W hB => (hq W hB).mono (fun e w' h => ⟨h.1, ⟨hB.size, h.2.out⟩⟩))).mono ?_⟩
    rintro e w' ⟨rfl, W, hB, ⟨hsz, w1, v, hR1, hK1, hv, rfl⟩⟩
    obtain ⟨A, c, rfl⟩ := Kd.R_slice hv
    have hV := hK1.blk (rd_below hB b2) (show w.heap.size + 1 + 1 ≠ g by omega) (by simp)
    refine ⟨rfl, A, c, ?_, ⟨Kd.R_lower (R_setCell_old hv (by show w.heap.size + 1 + 1 < W.heap.size; omega) _) (by omega)⟩, ⟨hR1.keep (Keeps.set_ (Keeps.refl w1 (w.heap.size + 1 + 1) none) 0 _) (by omega)⟩, ⟨keeps_far ((((Keeps.of_below hB2 g none).trans (Keeps.of_below hB g none) (.inl rfl))).trans hK1 (.inl rfl)) (by show w.heap.size ≤ w.heap.size + 1 + 1; omega) _⟩⟩
    have := blk_set hV 0 (.slice A p.length c)
    exact ⟨by simpa using this⟩
  ·refine ⟨[], at_, fault, by simp [bytR, hz], (reading_skip g _ bs at_ fault W2 hz hR2).mono ?_⟩
   rintro e w' ⟨rfl, hB⟩
   exact ⟨rfl, none, 0, ⟨rd_below hB b2⟩, ⟨Kd.R_nil _ _ _ _ _⟩, ⟨hR2.below hB⟩, ⟨(Keeps.of_below hB2 g none).trans (Keeps.of_below hB g none) (.inl rfl)⟩⟩
 obtain ⟨p, at1, f1, hu, hD⟩ := key
 rw [hu]
 rw [hW2] at hD
 have hD := Aside0.mk hD
 clear hu hF hR hR2 b1 b2 bm hB2 hlt h0 h1 hm0 hm1 hbl hs2
 go_enter Try.func29, Try.ntmps29
 go_wp2_with (go_at_call 70; refine hD.out.mono ?_; rintro e w1 ⟨rfl, A, c, hb1, hv1, hR1, hK1⟩; have c1 : w1.cell? ⟨w.heap.size + 1 + 1, 0, none⟩ = some (.slice A p.length c) := (blk_cell hb1.out 0).trans rfl; have z1 := blk_frozen hb1.out 0)
 have c2 : (w1.setCell ⟨w.heap.size + 1 + 1, 0, none⟩ (.slice A p.length c)).cell? ⟨w.heap.size + 1 + 1, 0, none⟩ = some (.slice A p.length c) := (blk_cell (blk_set hb1.out 0 (.slice A p.length c)) 0).trans rfl
 exact ⟨rfl, .slice A p.length c, by simp [results, Try.results29, Try.f29, go_sem, c2], _, rfl, Kd.R_lower (R_setCell_old hv1.out (by show w.heap.size + 1 + 1 < w.heap.size + 3; omega) _) (by omega), ⟨hR1.out.keep (Keeps.set_ (Keeps.refl w1 (w.heap.size + 1 + 1) none) 0 _) (by omega)⟩, ⟨keeps_far hK1.out (by show w.heap.size ≤ w.heap.size + 1 + 1; omega) _⟩⟩
set_option maxHeartbeats 4000000 in
theorem fault_calls (g : Nat) (bs : List Int) (at_ fault : Int) (w : World) (hR : Rd w B g bs at_ fault) :
  Calls Try.prog 34 #[.pointer (some ⟨g, 0, none⟩)] w fun e w' => e = .returned (.int .i64 fault) ∧ w' = w := by
 obtain ⟨A, c, hb, hc, hC, hA, hgB, hBs⟩ := hR
 have f2 : w.cell? ⟨g, 2, none⟩ = some (.int .i64 fault) := (blk_cell hb 2).trans rfl
 clear hb hC hA
 go_enter Try.func34, Try.ntmps34
 go_wp2
 go_ret
 exact ⟨rfl, rfl⟩
end Go.Proofs.Ythiidgmemoineaa.Pa
