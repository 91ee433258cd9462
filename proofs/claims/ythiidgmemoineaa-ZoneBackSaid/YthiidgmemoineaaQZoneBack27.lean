/- The texts of ZoneBack, merged: part 27. -/
import Derived.Test.YthiidgmemoineaaQZoneBack26
import Derived.Handy
import Derived.Lib.BitFns
import Derived.Laws.Bits64b
/- cursor.Take of every kind: its closure's walk, and what it answers. -/
namespace Go.Proofs.Ythiidgmemoineaa.Pa
open Go.Proofs.Ythiidgmemoineaa.L Go.RowKit Go.Proofs.YthiidgmemoineaaW.PrintWords Go.Proofs.YthiidgmemoineaaW.PrintLast Go.Proofs.YthiidgmemoineaaW.PrintMore
set_option linter.unusedVariables false
set_option linter.unusedSimpArgs false
variable {B : Nat × Nat}
theorem ret_i {a b : Int} (h : a = b) : Ending.returned (.int .i64 a) = .returned (.int .i64 b) := by rw [h]
def takV : List Int → Nat → Int → Int
 | [], _, u => u
 | c :: l, i, u => takV l (i + 1) (Go.bits .or .u64 u (IntKind.u64.wrap (IntKind.u64.wrap c * 2 ^ (8 * i))))
theorem takV_step {p : List Int} {k : Nat} {u : Int} (hk : k < p.length) : takV (p.drop k) k u = takV (p.drop (k + 1)) (k + 1) (Go.bits .or .u64 u (IntKind.u64.wrap (IntKind.u64.wrap p[k] * 2 ^ (8 * k)))) := by
 rw [List.drop_eq_getElem_cons hk, takV]
theorem takV_end {p : List Int} {k : Nat} {u : Int} (hk : p.length ≤ k) : takV (p.drop k) k u = u := by
 rw [List.drop_eq_nil_of_le hk, takV]
theorem C_u8 {w : World} {A : Option Addr} {n : Nat} {xs : List Int} (h : Kd.C (Kd.int .u8) w A n xs) (k : Nat) (hk : k < n) : ∃ ad, A = some ad ∧ w.cell? (ad.add k) = some (.int .u8 (xs.getD k 0)) := by
 obtain ⟨ad, c, e, _, hK, hc0⟩ := Kd.C_get h 0 (k : Int) (by omega) (by omega)
 have hc : c = [.int .u8 (xs.getD k 0)] := hK
 refine ⟨ad, e, ?_⟩
 have := hc0 0 (.int .u8 (xs.getD k 0)) (by rw [hc]; rfl)
 simpa [show (Kd.int IntKind.u8).sz = 1 from rfl] using this
def takR (n : Nat) (bs : List Int) (at_ fault : Int) : Int × Int × Int :=
 if fault ≠ 0 then (0, at_, fault) else if at_ + n ≤ bs.length then (takV ((bs.drop at_.toNat).take n) 0 0, at_ + n, 0) else (0, at_, 71)
set_option maxRecDepth 100000 in
set_option maxHeartbeats 4000000 in
theorem len64_u8 (w : World) : Calls Try.prog 137 #[.int .u64 255] w fun e w' => e = .returned (.int .i64 8) ∧ w' = w := by
 go_enter Try.func137, Try.ntmps137
 go_wp2
 go_ret
 exact ⟨ret_i (show wrap64 (wrap64 (Lib.len8 255)) = 8 from by decide +kernel), rfl⟩
theorem width_uint8 (w : World) : Calls Try.prog 108 #[] w fun e w' => e = .returned (.int .i64 1) ∧ w' = w := by
 go_enter Try.func108, Try.ntmps108
 go_wp2_with (go_at_call 137; refine (len64_u8 _).mono ?_; rintro e w2 ⟨rfl, hww⟩; replace hww := hww.symm; subst hww)
 all_goals (go_ret; exact ⟨rfl, rfl⟩)
set_option maxHeartbeats 8000000 in
theorem tk_ok_uint8 (g pr pv : Nat) (x : Value) (bs : List Int) (at_ : Int) (w : World) (h0 : 0 ≤ at_) (hn : at_ + 1 ≤ bs.length) (hR : Rd w B g bs at_ 0) (hr : w.cell? ⟨pr, 0, none⟩ = some (.pointer (some ⟨g, 0, none⟩))) (hrg : pr ≠ g) (hv : w.heap[pv]? = some (.cells #[x] 5 (0, 0))) (hg : pv ≠ g) :
  Calls Try.prog 114 #[.pointer (some ⟨pr, 0, none⟩), .pointer (some ⟨pv, 0, none⟩)] w fun e w' => e = .returned (.tuple #[]) ∧ Aside0 (∃ w1, Rd w1 B g bs (at_ + 1) 0 ∧ Keeps w w1 g none ∧ w' = w1.setCell ⟨pv, 0, none⟩ (.int .u8 (IntKind.u8.wrap (takV ((bs.drop at_.toNat).take 1) 0 0)))) := by
 have hN := Aside0.mk (fun W (hB : Below w.heap.size w W) => take_ok g bs at_ 0 1 W h0 (by omega) (by omega) (hR.below hB))
 have hr' : w.drew.cell? ⟨pr, 0, none⟩ = some (.pointer (some ⟨g, 0, none⟩)) := hr
 have hV := Aside0.mk hv
 obtain ⟨p, hp⟩ : ∃ p, p = (bs.drop at_.toNat).take 1 := ⟨_, rfl⟩
 have hpl : p.length = 1 := by rw [hp]; simp; omega
 simp only [show Int.toNat 1 = 1 from rfl] at hN
 rw [← hp] at hN ⊢
 replace hp := Aside0.mk hp
 clear hR hv
 go_enter Try.func114, Try.ntmps114
 go_wp2
 go_region_with (first | (go_at_call 108; refine (width_uint8 _).mono ?_; rintro e w2 ⟨rfl, hww⟩; replace hww := hww.symm; subst hww) | (go_at_call 73; refine (hN.out _ (below_drew (Below.refl _ _))).mono ?_; rintro e w1 ⟨A', c', rfl, hc1, hC1, hA1, hR1, hK1⟩; replace hc1 := Aside0.mk hc1; replace hC1 := Aside0.mk hC1; replace hA1 := Aside0.mk hA1; replace hR1 := Aside0.mk hR1; replace hK1 := Aside0.mk hK1))
 all_goals (clear hr hr' hN; go_wp2_with (fail))
 all_goals (try simp only [Act.put, List.getElem_toArray, List.getElem_cons_zero, List.getElem_cons_succ, List.setIfInBounds_toArray, List.set_cons_zero, List.set_cons_succ])
 all_goals (have hV1 := hK1.out.blk (rd_below (below_drew (Below.refl _ _)) hV.out) hg (by simp); have c2 : w1.cell? ⟨pv, 0, none⟩ = some x := (blk_cell hV1 0).trans rfl; have z2 := blk_frozen hV1 0; clear hV1)
 all_goals go_loop [2, 10] (fun u i => ∃ k : Nat, k ≤ 1 ∧ i = .int .i64 k ∧ ∃ uv : Int, u = .int .u64 uv ∧ Aside0 (takV (p.drop k) k uv = takV p 0 0)) (fun _ i => 1 - (intOf i).toNat)
 all_goals (first | (exact ⟨0, by omega, rfl, 0, rfl, ⟨rfl⟩⟩) | skip)
 all_goals
  obtain ⟨k, hk, rfl, uv, rfl, hT⟩ := hrel
  by_cases hlt : k < 1
  ·have hd : decide ((k : Int) < 1) = true := by simp; omega
   obtain ⟨ad, rfl, hcell⟩ := C_u8 hC1.out k (by omega)
   go_wp2
   go_round
   case rel => (refine ⟨1, by omega, by go_num, _, rfl, ⟨?_⟩⟩; have e_ := hT.out; have hk0 : k = 0 := (by omega); rw [takV_step (p := p) (k := k) (by omega)] at e_; subst hk0; simpa using e_)
   case measure => simp [intOf]; omega
  ·have hd : decide ((k : Int) < 1) = false := by simp; omega
   go_wp2
   exact ⟨rfl, _, results_none rfl _ _ _, rfl, ⟨_, hR1.out, (Keeps.of_below (below_drew (Below.refl _ _)) g none).trans hK1.out (.inl rfl), by rw [← hT.out, takV_end (p := p) (k := k) (u := uv) (by omega), IntKind.wrap_u8]⟩⟩
set_option maxHeartbeats 4000000 in
theorem tk_no_uint8 (g pr pv : Nat) (bs : List Int) (at_ : Int) (w : World) (h0 : 0 ≤ at_) (h1 : at_ ≤ bs.length) (hn : bs.length < at_ + 1) (hR : Rd w B g bs at_ 0) (hr : w.cell? ⟨pr, 0, none⟩ = some (.pointer (some ⟨g, 0, none⟩))) :
  Calls Try.prog 114 #[.pointer (some ⟨pr, 0, none⟩), .pointer (some ⟨pv, 0, none⟩)] w fun e w' => e = .panicked [{ v := .iface 34 (.int .i64 71), recovered := false }] ∧ (∃ at1, Aside0 (Rd w' B g bs at1 0)) ∧ Aside0 (Keeps w w' g none) := by
 have hN := Aside0.mk (fun W (hB : Below w.heap.size w W) => take_no g bs at_ 0 1 W h0 h1 (by omega) (hR.below hB))
 have hr' : w.drew.cell? ⟨pr, 0, none⟩ = some (.pointer (some ⟨g, 0, none⟩)) := hr
 have hR0 := Aside0.mk hR
 have he : IntKind.u64.wrap 1 = 1 := by decide +kernel
 have HE := Aside0.mk he
 clear hR hr he
 go_enter Try.func114, Try.ntmps114
 go_wp2
 go_region_dies
 all_goals (rename_i K0 hK0)
 all_goals (first | (go_at_call 108; refine (width_uint8 _).mono ?_; rintro e w2 ⟨rfl, hww⟩; replace hww := hww.symm; subst hww; refine hK0 _ _ ?_; clear hK0))
 ·(refine wpAny_ready (rs := [2]) (by kernel_rfl) (by simp) ?_; refine AllReady.cons rfl (fun K hK => ?_) AllReady.nil; go_simp; refine hK _ _ ?_; clear hK K; refine wpAny_ready (rs := [3]) (by kernel_rfl) (by simp) ?_; refine AllReady.cons rfl (fun K hK => ?_) AllReady.nil; go_simp; rw [HE.out]; refine (hN.out _ (below_drew (Below.refl _ _))).mono ?_; rintro e w3 ⟨rfl, hb⟩; exact ⟨rfl, rfl, ⟨_, ⟨(hR0.out.below (below_drew (Below.refl _ _))).below hb⟩⟩, ⟨(Keeps.of_below (below_drew (Below.refl _ _)) g none).trans (Keeps.of_below hb g none) (.inl rfl)⟩⟩)
 ·refine wpAny_ready (rs := [0, 2]) (by kernel_rfl) (by simp) ?_
  refine AllReady.cons rfl (fun K hK => ?_) (AllReady.cons rfl (fun K hK => ?_) AllReady.nil)
  ·(go_simp; refine hK _ _ ?_; clear hK K; refine wpAny_ready (rs := [2]) (by kernel_rfl) (by simp) ?_; refine AllReady.cons rfl (fun K hK => ?_) AllReady.nil; go_simp; refine hK _ _ ?_; clear hK K; refine wpAny_ready (rs := [3]) (by kernel_rfl) (by simp) ?_; refine AllReady.cons rfl (fun K hK => ?_) AllReady.nil; go_simp; rw [HE.out]; refine (hN.out _ (below_drew (Below.refl _ _))).mono ?_; rintro e w3 ⟨rfl, hb⟩; exact ⟨rfl, rfl, ⟨_, ⟨(hR0.out.below (below_drew (Below.refl _ _))).below hb⟩⟩, ⟨(Keeps.of_below (below_drew (Below.refl _ _)) g none).trans (Keeps.of_below hb g none) (.inl rfl)⟩⟩)
  ·(go_simp; refine hK _ _ ?_; clear hK K; refine wpAny_ready (rs := [0]) (by kernel_rfl) (by simp) ?_; refine AllReady.cons rfl (fun K hK => ?_) AllReady.nil; go_simp; refine hK _ _ ?_; clear hK K; refine wpAny_ready (rs := [3]) (by kernel_rfl) (by simp) ?_; refine AllReady.cons rfl (fun K hK => ?_) AllReady.nil; go_simp; rw [HE.out]; refine (hN.out _ (below_drew (Below.refl _ _))).mono ?_; rintro e w3 ⟨rfl, hb⟩; exact ⟨rfl, rfl, ⟨_, ⟨(hR0.out.below (below_drew (Below.refl _ _))).below hb⟩⟩, ⟨(Keeps.of_below (below_drew (Below.refl _ _)) g none).trans (Keeps.of_below hb g none) (.inl rfl)⟩⟩)
theorem take_uint8_calls (g : Nat) (bs : List Int) (at_ fault : Int) (w : World) (h0 : 0 ≤ at_) (h1 : at_ ≤ bs.length) (hR : Rd w B g bs at_ fault) :
  Calls Try.prog 79 #[.pointer (some ⟨g, 0, none⟩)] w fun e w' => e = .returned (.int .u8 (IntKind.u8.wrap ((takR 1 bs at_ fault).1))) ∧ Aside0 (Rd w' B g bs (takR 1 bs at_ fault).2.1 (takR 1 bs at_ fault).2.2) ∧ Aside0 (Keeps w w' g none) := by
 have hmf : ∀ (fn : Fn) (first cap : Array Value) (w : World), (Instr.makeFunc fn first cap).run Try.prog w = .ok (.func fn first cap) w := fun _ _ _ _ => rfl
 obtain ⟨W2, hW2⟩ : ∃ W2, W2 = (w.alloc (.cells #[.pointer (some ⟨g, 0, none⟩)] 50)).alloc (.cells #[.int .u8 0] 5) := ⟨_, rfl⟩
 have hB2 : Below w.heap.size w W2 := by rw [hW2]; exact below_alloc (below_alloc (Below.refl _ _) _) _
 have b1 : W2.heap[w.heap.size]? = some (.cells #[.pointer (some ⟨g, 0, none⟩)] 50 (0, 0)) := by rw [hW2]; exact heap_alloc_old (by simpa using heap_alloc_new w _)
 have b2 : W2.heap[w.heap.size + 1]? = some (.cells #[.int .u8 0] 5 (0, 0)) := by rw [hW2]; simpa using heap_alloc_new (w.alloc (.cells #[.pointer (some ⟨g, 0, none⟩)] 50)) _
 have hlt := hR.lt
 have hle := hR.le
 have hR2 := hR.below hB2
 have hF : ∀ (caps : Array Value) W, (callFunc 114 caps).run Try.prog W = .ok (.enter 114 caps) W := fun caps W => by simp [go_sem]
 have key : ∃ v at1 f1, takR 1 bs at_ fault = (v, at1, f1) ∧ Calls Try.prog 70 #[.pointer (some ⟨g, 0, none⟩), .func (.func 114) #[] #[.pointer (some ⟨w.heap.size, 0, none⟩), .pointer (some ⟨w.heap.size + 1, 0, none⟩)]] W2 fun e w' => e = .returned (.tuple #[]) ∧ Aside0 (w'.heap[w.heap.size + 1]? = some (.cells #[.int .u8 (IntKind.u8.wrap (v))] 5 (0, 0))) ∧ Aside0 (Rd w' B g bs at1 f1) ∧ Aside0 (Keeps w w' g none) := by
  by_cases hz : fault = 0
  ·subst hz
   by_cases hn : at_ + 1 ≤ bs.length
   ·refine ⟨takV ((bs.drop at_.toNat).take 1) 0 0, at_ + 1, 0, by unfold takR; rw [if_neg (by simp)]; exact if_pos hn, (reading_ok g _ _ bs at_ W2 (fun W w' => ∃ w1, Rd w1 B g bs (at_ + 1) 0 ∧ Keeps W w1 g none ∧ w' = w1.setCell ⟨w.heap.size + 1, 0, none⟩ (.int .u8 (IntKind.u8.wrap (takV ((bs.drop at_.toNat).take 1) 0 0)))) (hF _) hR2 (fun W hB => tk_ok_uint8 g _ _ (.int .u8 0) bs at_ W h0 hn (hR2.below hB) ((blk_cell (rd_below hB b1) 0).trans rfl) (by omega) (rd_below hB b2) (by omega))).mono ?_⟩
    rintro e w' ⟨rfl, W, hB, ⟨w1, hR1, hK1, rfl⟩⟩
    have hV := hK1.blk (rd_below hB b2) (show w.heap.size + 1 ≠ g by omega) (by simp)
    refine ⟨rfl, ?_, ⟨hR1.keep (Keeps.set_ (Keeps.refl w1 (w.heap.size + 1) none) 0 _) (by omega)⟩, ⟨keeps_far ((((Keeps.of_below hB2 g none).trans (Keeps.of_below hB g none) (.inl rfl))).trans hK1 (.inl rfl)) (by show w.heap.size ≤ w.heap.size + 1; omega) _⟩⟩
    have := blk_set hV 0 (.int .u8 (IntKind.u8.wrap (takV ((bs.drop at_.toNat).take 1) 0 0)))
    exact ⟨by simpa using this⟩
   ·refine ⟨0, at_, 71, by unfold takR; rw [if_neg (by simp)]; exact if_neg hn, (reading_no g _ _ bs at_ 71 W2 (hF _) hR2 (fun W hB => tk_no_uint8 g _ _ bs at_ W h0 h1 (by omega) (hR2.below hB) ((blk_cell (rd_below hB b1) 0).trans rfl))).mono ?_⟩
    rintro e w' ⟨rfl, hR', hK'⟩
    exact ⟨rfl, ⟨hK'.out.blk b2 (by omega) (by simp)⟩, hR', ⟨(Keeps.of_below hB2 g none).trans hK'.out (.inl rfl)⟩⟩
  ·refine ⟨0, at_, fault, by simp [takR, hz], (reading_skip g _ bs at_ fault W2 hz hR2).mono ?_⟩
   rintro e w' ⟨rfl, hB⟩
   exact ⟨rfl, ⟨rd_below hB b2⟩, ⟨hR2.below hB⟩, ⟨(Keeps.of_below hB2 g none).trans (Keeps.of_below hB g none) (.inl rfl)⟩⟩
 obtain ⟨v, at1, f1, hu, hD⟩ := key
 rw [hu]
 rw [hW2] at hD
 generalize hvv : (IntKind.u8.wrap (v)) = vv at hD
 have hD := Aside0.mk hD
 replace hvv := Aside0.mk hvv
 clear hu hF hR hR2 b1 b2 hB2 hlt h0 h1
 go_enter Try.func79, Try.ntmps79
 go_wp2_with (go_at_call 70; refine hD.out.mono ?_; rintro e w1 ⟨rfl, hb1, hR1, hK1⟩; have c1 : w1.cell? ⟨w.heap.size + 1, 0, none⟩ = some (.int .u8 vv) := (blk_cell hb1.out 0).trans rfl; have z1 := blk_frozen hb1.out 0)
 go_ret
 exact ⟨rfl, hR1, hK1⟩
end Go.Proofs.Ythiidgmemoineaa.Pa
