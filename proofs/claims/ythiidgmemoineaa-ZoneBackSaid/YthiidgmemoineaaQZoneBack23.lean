/- The texts of ZoneBack, merged: part 23. -/
import Derived.Test.YthiidgmemoineaaQZoneBack5
import Derived.Test.YthiidgmemoineaaQZoneBack9
import Derived.Defers
import Derived.Recover
import Derived.Laws.Pointers
import Derived.WalkLawsBesides
import Derived.RegionDies
import Derived.Deep.QuietTactic
import Derived.Deep.RegionWith
import Derived.OpenShut
/- The reader of layer 7, its walks by hand: each reading all of it or nothing. -/
namespace Go.Proofs.Ythiidgmemoineaa.Pa
open Go.Proofs.Ythiidgmemoineaa.L Go.RowKit Go.Proofs.YthiidgmemoineaaW.PrintWords Go.Proofs.YthiidgmemoineaaW.PrintLast Go.Proofs.YthiidgmemoineaaW.PrintMore
set_option linter.unusedVariables false
set_option linter.unusedSimpArgs false
variable {B : Nat × Nat}
theorem must_ok (n : Int) (w : World) : Calls Try.prog 72 #[.bool true, .int .i64 n] w fun e w' => e = .returned (.tuple #[]) ∧ w' = w := by
 go_enter Try.func72, Try.ntmps72
 go_wp2
 exact ⟨rfl, _, results_none rfl _ _ _, rfl, rfl⟩
theorem must_no (n : Int) (w : World) : Calls Try.prog 72 #[.bool false, .int .i64 n] w fun e w' => e = .panicked [{ v := .iface 34 (.int .i64 n), recovered := false }] ∧ w' = w := by
 go_enter Try.func72, Try.ntmps72
 go_wp2
 exact ⟨rfl, rfl, rfl⟩
structure Keeps (w w' : World) (g : Nat) (row : Option Nat) : Prop where
 size : w.heap.size ≤ w'.heap.size
 block : ∀ i, i < w.heap.size → i ≠ g → some i ≠ row → w'.heap[i]? = w.heap[i]?
 os : w'.os = w.os
 tape : w'.tape = w.tape
 output : w'.output = w.output
theorem Keeps.but {w w' : World} {g : Nat} {row : Option Nat} (h : Keeps w w' g row) : KeepBut w w' g row := ⟨h.size, h.block⟩
theorem Keeps.refl (w : World) (g : Nat) (row : Option Nat) : Keeps w w g row := ⟨Nat.le_refl _, fun _ _ _ _ => rfl, rfl, rfl, rfl⟩
theorem Keeps.of_below {w w1 : World} (h : Below w.heap.size w w1) (g : Nat) (row : Option Nat) : Keeps w w1 g row := ⟨h.size, fun i hi _ _ => h.block i hi, h.os, h.tape, h.output⟩
theorem setCell_rest (w : World) (p : Addr) (u : Value) : (w.setCell p u).os = w.os ∧ (w.setCell p u).tape = w.tape ∧ (w.setCell p u).output = w.output := by
 have h := (Below.refl 0 w).setCell (p := p) (Nat.zero_le _) u
 exact ⟨h.os, h.tape, h.output⟩
theorem Keeps.set_ {w w1 : World} {g : Nat} {row : Option Nat} (h : Keeps w w1 g row) (j : Nat) (u : Value) : Keeps w (w1.setCell ⟨g, j, none⟩ u) g row := by
 have k := KeepBut.set_ h.but j u
 obtain ⟨r1, r2, r3⟩ := setCell_rest w1 ⟨g, j, none⟩ u
 exact ⟨k.1, k.2, r1.trans h.os, r2.trans h.tape, r3.trans h.output⟩
theorem Keeps.trans {w w1 w2 : World} {g : Nat} {row row1 : Option Nat} (h : Keeps w w1 g row) (k : Keeps w1 w2 g row1) (hr : row1 = row ∨ ∃ b, row1 = some b ∧ w.heap.size ≤ b) : Keeps w w2 g row := by
 have j := KeepBut.trans h.but k.but hr
 exact ⟨j.1, j.2, k.os.trans h.os, k.tape.trans h.tape, k.output.trans h.output⟩
theorem Keeps.blk {w w1 : World} {g g' : Nat} {row : Option Nat} {o : Obj} (h : Keeps w w1 g row) (hb : w.heap[g']? = some o) (hg : g' ≠ g) (hr : some g' ≠ row) : w1.heap[g']? = some o := h.but.blk hb hg hr
theorem keeps_drewN {w W : World} {g : Nat} {row : Option Nat} (h : Keeps w W g row) (m : Nat) : Keeps w (W.drewN m) g row := ⟨h.size, h.block, h.os, h.tape, h.output⟩
theorem keeps_cell {w W : World} {g : Nat} (h : Keeps w W g none) {a : Addr} {v : Value} (hc : w.cell? a = some v) (hne : a.block ≠ g) : W.cell? a = some v := keep_cell h.but hc hne
theorem keeps_far {w W : World} {g : Nat} {row : Option Nat} (h : Keeps w W g row) {p : Addr} (hp : w.heap.size ≤ p.block) (u : Value) : Keeps w (W.setCell p u) g row := by
 have k := keep_far h.but hp u
 obtain ⟨r1, r2, r3⟩ := setCell_rest W p u
 exact ⟨k.1, k.2, r1.trans h.os, r2.trans h.tape, r3.trans h.output⟩
theorem below_keeps {w W W1 : World} {g : Nat} (h : Below w.heap.size w W) (k : Keeps W W1 g none) (hg : w.heap.size ≤ g) : Below w.heap.size w W1 :=
 ⟨k.os.trans h.os, k.tape.trans h.tape, k.output.trans h.output, Nat.le_trans h.size k.size, fun i hi => (k.block i (Nat.lt_of_lt_of_le hi h.size) (by omega) (by simp)).trans (h.block i hi)⟩
theorem R_keeps_old {α : Type} {d : Kd α} {e base : Nat} {ok : Nat → Prop} {w w1 : World} {v : Value} {xs : List α} (h : d.R e w base ok v xs) {g : Nat} (k : Keeps w w1 g none) (hg : g < base) : d.R e w1 base ok v xs :=
 Kd.R_mono (Kd.R_keep (Kd.R_bound h) k.but (fun i hi => by have := hi.2.1; omega)) (fun _ hk => hk.1)
def Rd (W : World) (B : Nat × Nat) (g : Nat) (bs : List Int) (at_ fault : Int) : Prop :=
 ∃ A c, W.heap[g]? = some (.cells #[.slice A bs.length c, .int .i64 at_, .int .i64 fault] 92 (0, 0)) ∧ bs.length ≤ c ∧ Kd.C (Kd.int .u8) W A bs.length bs ∧ (∀ ad, A = some ad → ad.block ≠ g ∧ ad.block < B.1) ∧ (B.1 ≤ B.2 ∧ g < B.2) ∧ B.2 ≤ W.heap.size
theorem C_bytes_at {W W1 : World} {A : Option Addr} {n : Nat} {bs : List Int} (h : Kd.C (Kd.int .u8) W A n bs) (hk : ∀ ad, A = some ad → W1.heap[ad.block]? = W.heap[ad.block]?) : Kd.C (Kd.int .u8) W1 A n bs := by
 refine ⟨h.1, h.2.1, fun hn => ?_⟩
 obtain ⟨ad, e, hc⟩ := h.2.2 hn
 refine ⟨ad, e, fun j p hj => ?_⟩
 obtain ⟨c, h1, h2, h3⟩ := hc j p hj
 refine ⟨c, h1, h2, fun i u hu => ?_⟩
 have := h3 i u hu
 have hb : (ad.add (j * (Kd.int .u8).sz + i)).block = ad.block := add_block _ _
 have hk1 := hk ad e
 unfold World.cell? at this ⊢
 rw [hb] at this ⊢
 rw [hk1]
 exact this
theorem Rd.far {W W1 : World} {g : Nat} {bs : List Int} {at_ fault : Int} (h : Rd W B g bs at_ fault) (hs : W.heap.size ≤ W1.heap.size) (hk : ∀ k, k < B.2 → W1.heap[k]? = W.heap[k]?) : Rd W1 B g bs at_ fault := by
 obtain ⟨A, c, hb, hc, hC, hA, hgB, hBs⟩ := h
 exact ⟨A, c, (hk g hgB.2).trans hb, hc, C_bytes_at hC (fun ad e => hk _ (Nat.lt_of_lt_of_le (hA ad e).2 hgB.1)), hA, hgB, Nat.le_trans hBs hs⟩
theorem Rd.below {W W1 : World} {g : Nat} {bs : List Int} {at_ fault : Int} (h : Rd W B g bs at_ fault) (hk : Below W.heap.size W W1) : Rd W1 B g bs at_ fault := by
 obtain ⟨A, c, hb, hc, hC, hA, hgB, hBs⟩ := id h
 exact h.far hk.size (fun k hk1 => hk.block k (by omega))
theorem Rd.keep {W W1 : World} {g p : Nat} {bs : List Int} {at_ fault : Int} (h : Rd W B g bs at_ fault) (hk : Keeps W W1 p none) (hp : B.2 ≤ p) : Rd W1 B g bs at_ fault := by
 obtain ⟨A, c, hb, hc, hC, hA, hgB, hBs⟩ := id h
 exact h.far hk.1 (fun k hk1 => hk.2 k (by omega) (by omega) (by simp))
theorem Rd.own {W W1 : World} {g : Nat} {bs : List Int} {at_ fault at1 fault1 : Int} (h : Rd W B g bs at_ fault) (hk : Keeps W W1 g none) (hb1 : ∀ A c, W.heap[g]? = some (.cells #[.slice A bs.length c, .int .i64 at_, .int .i64 fault] 92 (0, 0)) → W1.heap[g]? = some (.cells #[.slice A bs.length c, .int .i64 at1, .int .i64 fault1] 92 (0, 0))) : Rd W1 B g bs at1 fault1 := by
 obtain ⟨A, c, hb, hc, hC, hA, hgB, hBs⟩ := h
 exact ⟨A, c, hb1 A c hb, hc, C_bytes_at hC (fun ad e => hk.2 _ (Nat.lt_of_lt_of_le (hA ad e).2 (Nat.le_trans hgB.1 hBs)) (hA ad e).1 (by simp)), hA, hgB, Nat.le_trans hBs hk.1⟩
theorem Rd.lt {W : World} {g : Nat} {bs : List Int} {at_ fault : Int} (h : Rd W B g bs at_ fault) : g < B.2 := by
 obtain ⟨A, c, hb, hc, hC, hA, hgB, hBs⟩ := h; exact hgB.2
theorem Rd.le {W : World} {g : Nat} {bs : List Int} {at_ fault : Int} (h : Rd W B g bs at_ fault) : B.2 ≤ W.heap.size := by
 obtain ⟨A, c, hb, hc, hC, hA, hgB, hBs⟩ := h; exact hBs
theorem wrapEq (x : Int) : IntKind.i64.wrap x = wrap64 x := by rw [IntKind.wrap_i64]; unfold wrap64; omega
set_option maxHeartbeats 4000000 in
theorem take_no (g : Nat) (bs : List Int) (at_ fault n : Int) (w : World) (h0 : 0 ≤ at_) (h1 : at_ ≤ bs.length) (hn : (bs.length : Int) - at_ < n) (hR : Rd w B g bs at_ fault) :
  Calls Try.prog 73 #[.pointer (some ⟨g, 0, none⟩), .int .u64 n] w fun e w' => e = .panicked [{ v := .iface 34 (.int .i64 71), recovered := false }] ∧ Below w.heap.size w w' := by
 obtain ⟨A, c, hb, hc, hC, hA, hgB, hBs⟩ := hR
 have hm := hC.2.1
 have f0 : w.cell? ⟨g, 0, none⟩ = some (.slice A bs.length c) := (blk_cell hb 0).trans rfl
 have f1 : w.cell? ⟨g, 1, none⟩ = some (.int .i64 at_) := (blk_cell hb 1).trans rfl
 have hdec : decide (n ≤ (bs.length : Int) - at_) = false := by simp; omega
 have hw1 : IntKind.i64.wrap ((bs.length : Int) - at_) = (bs.length : Int) - at_ := by rw [wrapEq]; exact wrap64_in (by omega) (by omega)
 have hw2 : IntKind.u64.wrap ((bs.length : Int) - at_) = (bs.length : Int) - at_ := by rw [IntKind.wrap_u64]; omega
 go_enter Try.func73, Try.ntmps73
 go_wp2
 go_region_dies
 all_goals (go_at_call 72; refine (must_no _ _).mono ?_; rintro e w1 ⟨rfl, rfl⟩; exact ⟨rfl, rfl, below_drew (Below.refl _ _)⟩)
end Go.Proofs.Ythiidgmemoineaa.Pa
namespace Go.Proofs.Ythiidgmemoineaa.Pa
open Go.Proofs.Ythiidgmemoineaa.L Go.RowKit Go.Proofs.YthiidgmemoineaaW.PrintWords Go.Proofs.YthiidgmemoineaaW.PrintLast Go.Proofs.YthiidgmemoineaaW.PrintMore
set_option linter.unusedVariables false
set_option linter.unusedSimpArgs false
variable {B : Nat × Nat}
theorem cutRd {A : Option Addr} {c : Nat} {bs : List Int} {at_ n : Int} (h0 : 0 ≤ at_) (hn0 : 0 ≤ n) (hn : n ≤ (bs.length : Int) - at_) (hc : bs.length ≤ c) :
  ∃ A' c', (∀ W : World, (Instr.slice 29 (.slice A bs.length c) (some (.int .i64 at_)) (some (.int .i64 (at_ + n))) none).run Try.prog W = .ok (.slice A' n.toNat c') W) ∧ n.toNat ≤ c' ∧
   (∀ w : World, Kd.C (Kd.int .u8) w A bs.length bs → Kd.C (Kd.int .u8) w A' n.toNat ((bs.drop at_.toNat).take n.toNat)) ∧ (∀ ad, A' = some ad → ∃ ad0, A = some ad0 ∧ ad.block = ad0.block) := by
 have i5 : (Try.prog.info? 5).map (fun i => (i.zero, i.size, i.bytes)) = some (some (.int .u8 0), 1, 1) := by kernel_rfl
 obtain ⟨i0, hi, _, hsz, _⟩ := info_parts i5
 have hcut := cut_mid (P := Try.prog) 29 5 .i64 .i64 Try.underlying29 hi 1 hsz A bs.length c at_ (at_ + n) h0 (by omega) (by omega) hc
 have e1 : (at_ + n).toNat - at_.toNat = n.toNat := by omega
 rw [e1] at hcut
 refine ⟨_, _, hcut, by omega, fun w h => ?_, fun ad h => ?_⟩
 ·have := Kd.C_mid (lo := at_.toNat) (hi := (at_ + n).toNat) h (by omega) (by omega) hc
  have e2 : (bs.take (at_ + n).toNat).drop at_.toNat = (bs.drop at_.toNat).take n.toNat := by rw [List.drop_take, e1]
  have e3 : ((bs.drop at_.toNat).take n.toNat).length = n.toNat := by simp; omega
  rw [e2, e3] at this
  exact this
 ·split at h
  ·exact ⟨ad, h, rfl⟩
  ·obtain ⟨ad0, h1, h2⟩ := Option.map_eq_some_iff.1 h
   exact ⟨ad0, h1, by rw [← h2]; exact add_block _ _⟩
set_option maxHeartbeats 4000000 in
theorem take_ok (g : Nat) (bs : List Int) (at_ fault n : Int) (w : World) (h0 : 0 ≤ at_) (hn0 : 0 ≤ n) (hn : n ≤ (bs.length : Int) - at_) (hR : Rd w B g bs at_ fault) :
  Calls Try.prog 73 #[.pointer (some ⟨g, 0, none⟩), .int .u64 n] w fun e w' => ∃ A' c', e = .returned (.slice A' n.toNat c') ∧ n.toNat ≤ c' ∧ Kd.C (Kd.int .u8) w' A' n.toNat ((bs.drop at_.toNat).take n.toNat) ∧ (∀ ad, A' = some ad → ad.block ≠ g ∧ ad.block < B.1) ∧ Rd w' B g bs (at_ + n) fault ∧ Keeps w w' g none := by
 have hR0 := hR
 obtain ⟨A, c, hb, hc, hC, hA, hgB, hBs⟩ := hR
 have hm := hC.2.1
 have f0 : w.cell? ⟨g, 0, none⟩ = some (.slice A bs.length c) := (blk_cell hb 0).trans rfl
 have f1 : w.cell? ⟨g, 1, none⟩ = some (.int .i64 at_) := (blk_cell hb 1).trans rfl
 have hdec : decide (n ≤ (bs.length : Int) - at_) = true := by simp; omega
 have hw1 : IntKind.i64.wrap ((bs.length : Int) - at_) = (bs.length : Int) - at_ := by rw [wrapEq]; exact wrap64_in (by omega) (by omega)
 have hw2 : IntKind.u64.wrap ((bs.length : Int) - at_) = (bs.length : Int) - at_ := by rw [IntKind.wrap_u64]; omega
 have hw3 : IntKind.i64.wrap n = n := by rw [wrapEq]; exact wrap64_in (by omega) (by omega)
 have hw4 : IntKind.i64.wrap (at_ + n) = at_ + n := by rw [wrapEq]; exact wrap64_in (by omega) (by omega)
 obtain ⟨A', c', hcut, hc', hC', hA'⟩ := cutRd (A := A) (c := c) (bs := bs) h0 hn0 hn hc
 have z1 := blk_frozen hb 1
 have hnil : (some (⟨g, 0, none⟩ : Addr)).isSome = true := rfl
 go_enter Try.func73, Try.ntmps73
 go_wp2
 go_quiet (first | (go_at_call 72; refine Calls.quiet_of_same (must_ok _ _)))
 go_wp2
 go_quiet (fail)
 go_wp2
 go_ret
 have fin : ∀ m, ∃ A'_1 c'_1, Value.slice A' n.toNat c' = .slice A'_1 n.toNat c'_1 ∧ n.toNat ≤ c'_1 ∧ Kd.C (Kd.int .u8) ((w.drewN m).setCell ⟨g, 1, none⟩ (.int .i64 (at_ + n))) A'_1 n.toNat ((bs.drop at_.toNat).take n.toNat) ∧ (∀ ad, A'_1 = some ad → ad.block ≠ g ∧ ad.block < B.1) ∧ Rd ((w.drewN m).setCell ⟨g, 1, none⟩ (.int .i64 (at_ + n))) B g bs (at_ + n) fault ∧ Keeps w ((w.drewN m).setCell ⟨g, 1, none⟩ (.int .i64 (at_ + n))) g none := by
  intro m
  have hk : Keeps w ((w.drewN m).setCell ⟨g, 1, none⟩ (.int .i64 (at_ + n))) g none := Keeps.set_ (keeps_drewN (Keeps.refl w g none) m) 1 _
  have hA2 : ∀ ad, A' = some ad → ad.block ≠ g ∧ ad.block < B.1 := fun ad e => by
   obtain ⟨ad0, e0, e1⟩ := hA' ad e
   rw [e1]
   exact hA ad0 e0
  exact ⟨A', c', rfl, hc', C_bytes_at (hC' w hC) (fun ad e => hk.2 _ (Nat.lt_of_lt_of_le (hA2 ad e).2 (Nat.le_trans hgB.1 hBs)) (hA2 ad e).1 (by simp)), hA2, hR0.own hk (fun A c hb => by have := blk_set (w := w.drewN m) hb 1 (.int .i64 (at_ + n)); simpa using this), hk⟩
 obtain ⟨A1, c1, e1, r⟩ := fin _
 exact ⟨A1, c1, congrArg Ending.returned e1, r⟩
end Go.Proofs.Ythiidgmemoineaa.Pa
namespace Go.Proofs.Ythiidgmemoineaa.Pa
open Go.Proofs.Ythiidgmemoineaa.L Go.RowKit Go.Proofs.YthiidgmemoineaaW.PrintWords Go.Proofs.YthiidgmemoineaaW.PrintLast Go.Proofs.YthiidgmemoineaaW.PrintMore
set_option linter.unusedVariables false
set_option linter.unusedSimpArgs false
variable {B : Nat × Nat}
theorem must_t {b : Bool} (hb : b = true) (n : Int) (w : World) : Calls Try.prog 72 #[.bool b, .int .i64 n] w fun e w' => e = .returned (.tuple #[]) ∧ w' = w := by subst hb; exact must_ok n w
theorem must_f {b : Bool} (hb : b = false) (n : Int) (w : World) : Calls Try.prog 72 #[.bool b, .int .i64 n] w fun e w' => e = .panicked [{ v := .iface 34 (.int .i64 n), recovered := false }] ∧ w' = w := by subst hb; exact must_no n w
def numV (v c : Int) (i : Nat) : Int := Go.bits .or .u64 v (IntKind.u64.wrap (IntKind.u64.wrap (Go.bits .andNot .u8 c 128) * 2 ^ (7 * i)))
def numF : List Int → Nat → Int → Int ⊕ (Int × List Int)
 | [], _, _ => .inl 71
 | c :: rest, i, v => if (i : Int) < 9 ∨ c ≤ 1 then (if c < 128 then (if c > 0 ∨ (i : Int) = 0 then .inr (numV v c i, rest) else .inl 70) else numF rest (i + 1) (numV v c i)) else .inl 70
theorem take_one (g : Nat) (bs rest : List Int) (c : Int) (fault : Int) (w : World) (hl : (c :: rest).length ≤ bs.length) (hd : c :: rest = bs.drop (bs.length - (c :: rest).length)) (hR : Rd w B g bs ((bs.length : Int) - (c :: rest).length) fault) :
  Calls Try.prog 73 #[.pointer (some ⟨g, 0, none⟩), .int .u64 1] w fun e w' => ∃ ad c', e = .returned (.slice (some ad) 1 c') ∧ w'.cell? ad = some (.int .u8 c) ∧ Aside0 (Rd w' B g bs ((bs.length : Int) - rest.length) fault) ∧ Aside0 (Keeps w w' g none) := by
 refine (take_ok g bs _ fault 1 w (by simp at hl ⊢; omega) (by omega) (by simp at hl ⊢; omega) hR).mono ?_
 rintro e w' ⟨A', c', rfl, h1, h2, h3, h4, h5⟩
 have e1 : ((bs.length : Int) - (c :: rest).length).toNat = bs.length - (c :: rest).length := by omega
 rw [e1, ← hd] at h2
 have h2' : Kd.C (Kd.int .u8) w' A' 1 [c] := by simpa using h2
 obtain ⟨ad, rfl, hc⟩ := Kd.at_int h2' 0 (by omega) (by omega)
 refine ⟨ad, c', rfl, by simpa [rd, Addr.add_zero'] using hc, ⟨?_⟩, ⟨h5⟩⟩
 have e2 : (bs.length : Int) - (c :: rest).length + 1 = (bs.length : Int) - rest.length := by simp; omega
 rw [e2] at h4
 exact h4
def NumPost (B : Nat × Nat) (g : Nat) (bs : List Int) (fault : Int) (w : World) (res : Int ⊕ (Int × List Int)) (e : Ending) (w' : World) : Prop :=
 Keeps w w' g none ∧ ((∃ v rest, res = .inr (v, rest) ∧ e = .returned (.int .u64 v) ∧ Rd w' B g bs ((bs.length : Int) - rest.length) fault) ∨ (∃ n at1, res = .inl n ∧ e = .panicked [{ v := .iface 34 (.int .i64 n), recovered := false }] ∧ Rd w' B g bs at1 fault))
set_option maxHeartbeats 4000000 in
theorem number_calls (g : Nat) (bs : List Int) (at_ fault : Int) (w : World) (h0 : 0 ≤ at_) (h1 : at_ ≤ bs.length) (hR : Rd w B g bs at_ fault) :
  Calls Try.prog 113 #[.pointer (some ⟨g, 0, none⟩)] w fun e w' => NumPost B g bs fault w (numF (bs.drop at_.toNat) 0 0) e w' := by
 go_enter Try.func113, Try.ntmps113
 go_wp2_with (fail)
 go_loopg [3, 4] (bs.length - at_.toNat) (fun kq v3 v4 w' => ∃ (rest : List Int) (v : Int) (i : Nat), v3 = .int .u64 v ∧ v4 = .int .i64 i ∧ kq = rest.length ∧ Aside0 (rest = bs.drop (bs.length - rest.length) ∧ rest.length ≤ bs.length ∧ i ≤ 9 ∧ numF (bs.drop at_.toNat) 0 0 = numF rest i v) ∧ Aside0 (Rd w' B g bs ((bs.length : Int) - rest.length) fault) ∧ Aside0 (Keeps w w' g none))
 case atStart =>
  refine ⟨bs.drop at_.toNat, 0, 0, rfl, rfl, by simp, ⟨?_⟩, ⟨?_⟩, ⟨Keeps.refl _ _ _⟩⟩
  ·have e1 : (bs.drop at_.toNat).length = bs.length - at_.toNat := List.length_drop
   refine ⟨?_, by omega, by omega, rfl⟩
   rw [e1]
   congr 1
   omega
  ·have e1 : (bs.length : Int) - (bs.drop at_.toNat).length = at_ := by rw [List.length_drop]; omega
   rw [e1]
   exact hR
 case round =>
  obtain ⟨rest, v, i, rfl, rfl, hkq, HA, HR, HK⟩ := hrel
  cases rest with
  | nil =>
   have hR1 := Aside0.mk (take_no g bs _ fault 1 wr (by simp) (by simp) (by simp) HR.out)
   clear hR
   go_wp2_with (go_at_call 73; refine hR1.out.mono ?_; rintro e w1 ⟨rfl, hb⟩)
   have e1 := HA.out.2.2.2
   exact ⟨rfl, HK.out.trans (Keeps.of_below hb g none) (.inl rfl), .inr ⟨_, _, e1, rfl, HR.out.below hb⟩⟩
  | cons c rest =>
   have hl := HA.out.2.1
   have hT := Aside0.mk (take_one g bs rest c fault wr hl HA.out.1 HR.out)
   have hi9 := HA.out.2.2.1
   have hm7 : IntKind.i64.wrap (7 * (i : Int)) = 7 * (i : Int) := by rw [wrapEq]; exact wrap64_in (by omega) (by omega)
   have hm8 : wrap64 (7 * (i : Int)) = 7 * (i : Int) := wrap64_in (by omega) (by omega)
   have hm9 : wrap64 ((i : Int) + 1) = ((i + 1 : Nat) : Int) := by rw [wrap64_in (by omega) (by omega)]; omega
   clear hR
   have hn := HA.out.2.2.2
   by_cases p1 : (i : Int) < 9 ∨ c ≤ 1
   ·by_cases p2 : c < 128
    ·by_cases p3 : c > 0 ∨ (i : Int) = 0
     ·have HN := Aside0.mk (hn.trans (show numF (c :: rest) i v = .inr (numV v c i, rest) by rw [numF, if_pos p1, if_pos p2, if_pos p3]))
      clear hn
      go_wp2_with (first | (go_at_call 73; refine hT.out.mono ?_; rintro e w1 ⟨ad, c', rfl, hcell, hR1, hK1⟩) | (go_at_call 72; refine (must_t (by first | rfl | (simp; omega)) _ _).mono ?_; rintro e w2 ⟨rfl, rfl⟩) | (go_at_call 72; refine (must_f (by first | rfl | (simp; omega)) _ _).mono ?_; rintro e w2 ⟨rfl, rfl⟩))
      all_goals (go_ret; exact ⟨HK.out.trans hK1.out (.inl rfl), .inl ⟨_, _, HN.out, rfl, hR1.out⟩⟩)
     ·have HN := Aside0.mk (hn.trans (show numF (c :: rest) i v = .inl 70 by rw [numF, if_pos p1, if_pos p2, if_neg p3]))
      clear hn
      go_wp2_with (first | (go_at_call 73; refine hT.out.mono ?_; rintro e w1 ⟨ad, c', rfl, hcell, hR1, hK1⟩) | (go_at_call 72; refine (must_t (by first | rfl | (simp; omega)) _ _).mono ?_; rintro e w2 ⟨rfl, rfl⟩) | (go_at_call 72; refine (must_f (by first | rfl | (simp; omega)) _ _).mono ?_; rintro e w2 ⟨rfl, rfl⟩))
      all_goals exact ⟨rfl, HK.out.trans hK1.out (.inl rfl), .inr ⟨_, _, HN.out, rfl, hR1.out⟩⟩
    ·have HN := Aside0.mk (hn.trans (show numF (c :: rest) i v = numF rest (i + 1) (numV v c i) by rw [numF, if_pos p1, if_neg p2]))
     clear hn
     go_wp2_with (first | (go_at_call 73; refine hT.out.mono ?_; rintro e w1 ⟨ad, c', rfl, hcell, hR1, hK1⟩) | (go_at_call 72; refine (must_t (by first | rfl | (simp; omega)) _ _).mono ?_; rintro e w2 ⟨rfl, rfl⟩) | (go_at_call 72; refine (must_f (by first | rfl | (simp; omega)) _ _).mono ?_; rintro e w2 ⟨rfl, rfl⟩))
     go_roundg rest.length
     case measure => rw [hkq]; simp
     case rel =>
      have hd := HA.out.1
      refine ⟨rest, _, i + 1, rfl, by simp, rfl, ⟨?_, by simp at hl; omega, by omega, HN.out⟩, hR1, ⟨HK.out.trans hK1.out (.inl rfl)⟩⟩
      have e1 : bs.length - rest.length = bs.length - (c :: rest).length + 1 := by simp at hl ⊢; omega
      rw [e1, ← List.drop_drop, ← hd]
      rfl
   ·have HN := Aside0.mk (hn.trans (show numF (c :: rest) i v = .inl 70 by rw [numF, if_neg p1]))
    clear hn
    go_wp2_with (first | (go_at_call 73; refine hT.out.mono ?_; rintro e w1 ⟨ad, c', rfl, hcell, hR1, hK1⟩) | (go_at_call 72; refine (must_t (by first | rfl | (simp; omega)) _ _).mono ?_; rintro e w2 ⟨rfl, rfl⟩) | (go_at_call 72; refine (must_f (by first | rfl | (simp; omega)) _ _).mono ?_; rintro e w2 ⟨rfl, rfl⟩))
    all_goals exact ⟨rfl, HK.out.trans hK1.out (.inl rfl), .inr ⟨_, _, HN.out, rfl, hR1.out⟩⟩
end Go.Proofs.Ythiidgmemoineaa.Pa
namespace Go.Proofs.Ythiidgmemoineaa.Pa
open Go.Proofs.Ythiidgmemoineaa.L Go.RowKit Go.Proofs.YthiidgmemoineaaW.PrintWords Go.Proofs.YthiidgmemoineaaW.PrintLast Go.Proofs.YthiidgmemoineaaW.PrintMore
set_option linter.unusedVariables false
set_option linter.unusedSimpArgs false
variable {B : Nat × Nat}
theorem numV_range (v c : Int) (i : Nat) : 0 ≤ numV v c i ∧ numV v c i < 18446744073709551616 := by
 have := wf_bits .or .u64 v (IntKind.u64.wrap (IntKind.u64.wrap (Go.bits .andNot .u8 c 128) * 2 ^ (7 * i)))
 have h1 : IntKind.min .u64 = 0 := by rfl
 have h2 : IntKind.max .u64 = 18446744073709551615 := by rfl
 unfold Lit.wf at this
 simp only [h1, h2, Bool.and_eq_true, decide_eq_true_eq] at this
 unfold numV
 omega
theorem number_ok (g : Nat) (bs rest : List Int) (at_ fault v : Int) (w : World) (h0 : 0 ≤ at_) (h1 : at_ ≤ bs.length) (hn : numF (bs.drop at_.toNat) 0 0 = .inr (v, rest)) (hR : Rd w B g bs at_ fault) :
  Calls Try.prog 113 #[.pointer (some ⟨g, 0, none⟩)] w fun e w' => e = .returned (.int .u64 v) ∧ Aside0 (Rd w' B g bs ((bs.length : Int) - rest.length) fault) ∧ Aside0 (Keeps w w' g none) := by
 refine (number_calls g bs at_ fault w h0 h1 hR).mono ?_
 rintro e w' ⟨hk, ⟨v', rest', h2, rfl, h3⟩ | ⟨n, at1, h2, rfl, h3⟩⟩
 ·rw [hn] at h2
  injection h2 with h2
  injection h2 with h4 h5
  subst h4 h5
  exact ⟨rfl, ⟨h3⟩, ⟨hk⟩⟩
 ·rw [hn] at h2; cases h2
theorem number_no (g : Nat) (bs : List Int) (at_ fault n : Int) (w : World) (h0 : 0 ≤ at_) (h1 : at_ ≤ bs.length) (hn : numF (bs.drop at_.toNat) 0 0 = .inl n) (hR : Rd w B g bs at_ fault) :
  Calls Try.prog 113 #[.pointer (some ⟨g, 0, none⟩)] w fun e w' => e = .panicked [{ v := .iface 34 (.int .i64 n), recovered := false }] ∧ (∃ at1, Aside0 (Rd w' B g bs at1 fault)) ∧ Aside0 (Keeps w w' g none) := by
 refine (number_calls g bs at_ fault w h0 h1 hR).mono ?_
 rintro e w' ⟨hk, ⟨v', rest', h2, rfl, h3⟩ | ⟨n, at1, h2, rfl, h3⟩⟩
 ·rw [hn] at h2; cases h2
 ·rw [hn] at h2
  injection h2 with h2
  subst h2
  exact ⟨rfl, ⟨_, ⟨h3⟩⟩, ⟨hk⟩⟩
set_option maxHeartbeats 4000000 in
theorem catch_panicking (pf pr : Addr) (g : Nat) (from_ n : Int) (older : List PanicEntry) (w : World) (bs : List Int) (at1 fault : Int) (hf : w.cell? pf = some (.int .i64 from_)) (hr : w.cell? pr = some (.pointer (some ⟨g, 0, none⟩))) (hR : Rd w B g bs at1 fault) :
  CallsD Try.prog 110 #[.pointer (some pf), .pointer (some pr)] (.panicking ({ v := .iface 34 (.int .i64 n), recovered := false } :: older)) w fun e u' w' =>
   e = .returned (.tuple #[]) ∧ u' = .panicking ({ v := .iface 34 (.int .i64 n), recovered := true } :: older) ∧ w' = (w.setCell ⟨g, 1, none⟩ (.int .i64 from_)).setCell ⟨g, 2, none⟩ (.int .i64 n) := by
 obtain ⟨A, c, hb, hc, hC, hA, hgB, hBs⟩ := hR
 have f1 : w.cell? ⟨g, 1, none⟩ = some (.int .i64 at1) := (blk_cell hb 1).trans rfl
 have f2 : w.cell? ⟨g, 2, none⟩ = some (.int .i64 fault) := (blk_cell hb 2).trans rfl
 have z1 := blk_frozen hb 1
 have z2 := blk_frozen hb 2
 have hta : ∀ w, (Instr.typeAssert (.iface 34 (.int .i64 n)) 20 34 true).run Try.prog w = .ok (.tuple #[.int .i64 n, .bool true]) w := fun _ => by kernel_rfl
 refine callsD_of_wpS Try.func110 rfl fun c₀ cs hu => ?_
 simp only [Try.ntmps110, List.size_toArray, List.length_cons, List.length_nil, Nat.reduceAdd, Nat.reduceSub, Array.replicate_succ, Array.replicate_zero, List.push_toArray, List.append_toArray, List.nil_append, List.cons_append]
 apply wpS_seq
 apply wpS_region
 simp [wpOpsS, go_sem, recoverD, hu, Exit.thenS, hta]
 refine wpS_of_wp ?_
 go_wp2
 simp [bodyPostS, results, Try.results110, Try.f110]
theorem catch_idle (pf pr : Addr) (w : World) :
  CallsD Try.prog 110 #[.pointer (some pf), .pointer (some pr)] .returning w fun e u' w' => e = .returned (.tuple #[]) ∧ u' = .returning ∧ w' = w := by
 have hta : ∀ w, (Instr.typeAssert .nilIface 20 34 true).run Try.prog w = .ok (.tuple #[.int .i64 0, .bool false]) w := fun _ => by kernel_rfl
 refine callsD_of_wpS Try.func110 rfl fun c₀ cs hu => ?_
 simp only [Try.ntmps110, List.size_toArray, List.length_cons, List.length_nil, Nat.reduceAdd, Nat.reduceSub, Array.replicate_succ, Array.replicate_zero, List.push_toArray, List.append_toArray, List.nil_append, List.cons_append]
 apply wpS_seq
 apply wpS_region
 simp [wpOpsS, go_sem, recoverD, hu, Exit.thenS, hta]
 refine wpS_of_wp ?_
 go_wp2
 cases c₀
 simp_all [bodyPostS, results, Try.results110, Try.f110]
end Go.Proofs.Ythiidgmemoineaa.Pa
namespace Go.Proofs.Ythiidgmemoineaa.Pa
open Go.Proofs.Ythiidgmemoineaa.L Go.RowKit Go.Proofs.YthiidgmemoineaaW.PrintWords Go.Proofs.YthiidgmemoineaaW.PrintLast Go.Proofs.YthiidgmemoineaaW.PrintMore
set_option linter.unusedVariables false
set_option linter.unusedSimpArgs false
variable {B : Nat × Nat}
theorem heap_alloc_old {W : World} {g : Nat} {o ob : Obj} (h : W.heap[g]? = some ob) : (W.alloc o).heap[g]? = some ob := by
 have := (below_alloc (Below.refl W.heap.size W) o).block g (by rcases Nat.lt_or_ge g W.heap.size with h1 | h1; exact h1; rw [Array.getElem?_eq_none (by omega)] at h; cases h)
 rw [this]; exact h
set_option maxHeartbeats 4000000 in
theorem reading_ok (g F : Nat) (caps : Array Value) (bs : List Int) (at_ : Int) (w : World) (P : World → World → Prop) (hF : ∀ W, (callFunc F caps).run Try.prog W = .ok (.enter F caps) W) (hR : Rd w B g bs at_ 0)
  (hdo : ∀ W, Below w.heap.size w W → Calls Try.prog F caps W (fun e w' => e = .returned (.tuple #[]) ∧ Aside0 (P W w'))) :
  Calls Try.prog 70 #[.pointer (some ⟨g, 0, none⟩), .func (.func F) #[] caps] w fun e w' => e = .returned (.tuple #[]) ∧ ∃ W, Below w.heap.size w W ∧ Aside0 (P W w') := by
 have hmf : ∀ (fn : Fn) (first cap : Array Value) (w : World), (Instr.makeFunc fn first cap).run Try.prog w = .ok (.func fn first cap) w := fun _ _ _ _ => rfl
 obtain ⟨A, c, hb, hc, hC, hA, hgB, hBs⟩ := hR
 have f1 : ∀ o, (w.alloc o).cell? ⟨g, 1, none⟩ = some (.int .i64 at_) := fun o => (blk_cell (heap_alloc_old hb) 1).trans rfl
 have f2 : ∀ o, (w.alloc o).cell? ⟨g, 2, none⟩ = some (.int .i64 0) := fun o => (blk_cell (heap_alloc_old hb) 2).trans rfl
 have f3 : ∀ o o', ((w.alloc o).alloc o').cell? ⟨g, 1, none⟩ = some (.int .i64 at_) := fun o o' => (blk_cell (heap_alloc_old (heap_alloc_old hb)) 1).trans rfl
 have hD := Aside0.mk hdo
 clear hdo hC hA hb
 go_enter_defers Try.func70, Try.ntmps70
 go_wp2_with (refine (hD.out _ (below_alloc (below_alloc (Below.refl _ _) _) _)).mono ?_; rintro e w1 ⟨rfl, hP⟩)
 refine leaves_cons (f := 110) (args := #[.pointer (some ⟨w.heap.size + 1, 0, none⟩), .pointer (some ⟨w.heap.size, 0, none⟩)]) (by simp) (by simp [go_sem]) ?_
 refine (catch_idle ⟨w.heap.size + 1, 0, none⟩ ⟨w.heap.size, 0, none⟩ _).mono ?_
 rintro e u' w'' ⟨rfl, rfl, rfl⟩
 exact ⟨_, results_none rfl _ _ _, rfl, _, below_alloc (below_alloc (Below.refl _ _) _) _, hP⟩
set_option maxHeartbeats 4000000 in
theorem reading_no (g F : Nat) (caps : Array Value) (bs : List Int) (at_ n : Int) (w : World) (hF : ∀ W, (callFunc F caps).run Try.prog W = .ok (.enter F caps) W) (hR : Rd w B g bs at_ 0)
  (hdo : ∀ W, Below w.heap.size w W → Calls Try.prog F caps W (fun e w' => e = .panicked [{ v := .iface 34 (.int .i64 n), recovered := false }] ∧ (∃ at1, Aside0 (Rd w' B g bs at1 0)) ∧ Aside0 (Keeps W w' g none))) :
  Calls Try.prog 70 #[.pointer (some ⟨g, 0, none⟩), .func (.func F) #[] caps] w fun e w' => e = .returned (.tuple #[]) ∧ Aside0 (Rd w' B g bs at_ n) ∧ Aside0 (Keeps w w' g none) := by
 have hmf : ∀ (fn : Fn) (first cap : Array Value) (w : World), (Instr.makeFunc fn first cap).run Try.prog w = .ok (.func fn first cap) w := fun _ _ _ _ => rfl
 have hR0 := Aside0.mk hR
 obtain ⟨A, c, hb, hc, hC, hA, hgB, hBs⟩ := hR
 have hlt := Aside0.mk (blk_lt hb)
 have f1 : ∀ o, (w.alloc o).cell? ⟨g, 1, none⟩ = some (.int .i64 at_) := fun o => (blk_cell (heap_alloc_old hb) 1).trans rfl
 have f2 : ∀ o, (w.alloc o).cell? ⟨g, 2, none⟩ = some (.int .i64 0) := fun o => (blk_cell (heap_alloc_old hb) 2).trans rfl
 have f3 : ∀ o o', ((w.alloc o).alloc o').cell? ⟨g, 1, none⟩ = some (.int .i64 at_) := fun o o' => (blk_cell (heap_alloc_old (heap_alloc_old hb)) 1).trans rfl
 have hD := Aside0.mk hdo
 clear hdo hC hA hb
 go_enter_defers Try.func70, Try.ntmps70
 go_wp2_with (refine (hD.out _ (below_alloc (below_alloc (Below.refl _ _) _) _)).mono ?_; rintro e w1 ⟨rfl, ⟨at1, hR1⟩, hK1⟩)
 refine leaves_cons (f := 110) (args := #[.pointer (some ⟨w.heap.size + 1, 0, none⟩), .pointer (some ⟨w.heap.size, 0, none⟩)]) (by simp) (by simp [go_sem]) ?_
 have c1 : w1.cell? ⟨w.heap.size + 1, 0, none⟩ = some (.int .i64 at_) := keeps_cell hK1.out (by simp [go_sem]) (by have := hlt.out; show w.heap.size + 1 ≠ g; omega)
 have c2 : w1.cell? ⟨w.heap.size, 0, none⟩ = some (.pointer (some ⟨g, 0, none⟩)) := keeps_cell hK1.out (by simp [go_sem]) (by have := hlt.out; show w.heap.size ≠ g; omega)
 refine (catch_panicking ⟨w.heap.size + 1, 0, none⟩ ⟨w.heap.size, 0, none⟩ g at_ n [] w1 bs at1 0 c1 c2 hR1.out).mono ?_
 rintro e u' w'' ⟨rfl, rfl, rfl⟩
 have hk2 : Keeps w1 ((w1.setCell ⟨g, 1, none⟩ (.int .i64 at_)).setCell ⟨g, 2, none⟩ (.int .i64 n)) g none := Keeps.set_ (Keeps.set_ (Keeps.refl _ _ _) 1 _) 2 _
 refine ⟨_, results_none rfl _ _ _, rfl, ⟨hR1.out.own hk2 (fun A c hb => ?_)⟩, ⟨((Keeps.of_below (below_alloc (below_alloc (Below.refl _ _) _) _) g none).trans hK1.out (.inl rfl)).trans hk2 (.inl rfl)⟩⟩
 have h1 := blk_set hb 1 (.int .i64 at_)
 have h2 := blk_set h1 2 (.int .i64 n)
 simpa using h2
set_option maxHeartbeats 4000000 in
theorem reading_skip (g : Nat) (fv : Value) (bs : List Int) (at_ fault : Int) (w : World) (hz : fault ≠ 0) (hR : Rd w B g bs at_ fault) :
  Calls Try.prog 70 #[.pointer (some ⟨g, 0, none⟩), fv] w fun e w' => e = .returned (.tuple #[]) ∧ Below w.heap.size w w' := by
 obtain ⟨A, c, hb, hc, hC, hA, hgB, hBs⟩ := hR
 have f2 : ∀ o, (w.alloc o).cell? ⟨g, 2, none⟩ = some (.int .i64 fault) := fun o => (blk_cell (heap_alloc_old hb) 2).trans rfl
 have hzb : (fault != 0) = true := by simpa using hz
 go_enter_defers Try.func70, Try.ntmps70
 go_wp2
 exact ⟨_, results_none rfl _ _ _, rfl, below_alloc (Below.refl _ _) _⟩
/-! ### what is handed to 'reading' -/
set_option maxHeartbeats 4000000 in
theorem uv_ok (g pr pv : Nat) (x : Value) (bs rest : List Int) (at_ v : Int) (w : World) (h0 : 0 ≤ at_) (h1 : at_ ≤ bs.length) (hn : numF (bs.drop at_.toNat) 0 0 = .inr (v, rest)) (hR : Rd w B g bs at_ 0) (hr : w.cell? ⟨pr, 0, none⟩ = some (.pointer (some ⟨g, 0, none⟩))) (hv : w.heap[pv]? = some (.cells #[x] 82 (0, 0))) (hg : pv ≠ g) :
  Calls Try.prog 112 #[.pointer (some ⟨pr, 0, none⟩), .pointer (some ⟨pv, 0, none⟩)] w fun e w' => e = .returned (.tuple #[]) ∧ Aside0 (∃ w1, Rd w1 B g bs ((bs.length : Int) - rest.length) 0 ∧ Keeps w w1 g none ∧ w' = w1.setCell ⟨pv, 0, none⟩ (.int .u64 v)) := by
 have hN := Aside0.mk (number_ok g bs rest at_ 0 v w h0 h1 hn hR)
 have hV := Aside0.mk hv
 clear hn hR hv
 go_enter Try.func112, Try.ntmps112
 go_wp2_with (go_at_call 113; refine hN.out.mono ?_; rintro e w1 ⟨rfl, hR1, hK1⟩; have hV1 := hK1.out.blk hV.out hg (by simp); have c1 := (blk_cell hV1 0).trans rfl; have z1 := blk_frozen hV1 0; clear hV1)
 exact ⟨rfl, _, results_none rfl _ _ _, rfl, ⟨_, hR1.out, hK1.out, rfl⟩⟩
end Go.Proofs.Ythiidgmemoineaa.Pa
