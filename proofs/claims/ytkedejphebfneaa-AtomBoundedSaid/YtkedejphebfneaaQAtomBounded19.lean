/- The texts of AtomBounded, merged: part 19. -/
import Derived.Test.YtkedejphebfneaaQAtomBounded5
import Derived.Test.YtkedejphebfneaaQAtomBounded9
import Derived.Laws.Pointers
import Derived.WalkLawsBesides
import Derived.Handy
/- colonnaderef00.Pred: its walk by hand: a count that is written while a tree of predicates is gone through. -/
namespace Go.Proofs.Ytkedejphebfneaa.Pa
open Go.Proofs.Ytkedejphebfneaa.L Go.RowKit Go.Proofs.YtkedejphebfneaaW.PrintWords Go.Proofs.YtkedejphebfneaaW.PrintLast Go.Proofs.YtkedejphebfneaaW.PrintMore
set_option linter.unusedVariables false
set_option linter.unusedSimpArgs false
structure Kb (w w' : World) (g : Nat) : Prop where
 os : w'.os = w.os
 tape : w'.tape = w.tape
 output : w'.output = w.output
 size : w.heap.size ≤ w'.heap.size
 block : ∀ b, b < w.heap.size → b ≠ g → w'.heap[b]? = w.heap[b]?
theorem Kb.refl (w : World) (g : Nat) : Kb w w g := ⟨rfl, rfl, rfl, Nat.le_refl _, fun _ _ _ => rfl⟩
theorem Kb.trans {w w1 w2 : World} {g : Nat} (h : Kb w w1 g) (k : Kb w1 w2 g) : Kb w w2 g := ⟨k.os.trans h.os, k.tape.trans h.tape, k.output.trans h.output, Nat.le_trans h.size k.size, fun b hb hg => (k.block b (Nat.lt_of_lt_of_le hb h.size) hg).trans (h.block b hb hg)⟩
theorem Kb.set_ {w w1 : World} {g : Nat} (h : Kb w w1 g) (j : Nat) (u : Value) : Kb w (w1.setCell ⟨g, j, none⟩ u) g :=
 ⟨h.os, h.tape, h.output, by simpa [World.setCell, Array.size_modify] using h.size, fun b hb hg => by rw [Below.heap_setCell w1 ⟨g, j, none⟩ u b hg]; exact h.block b hb hg⟩
theorem Kb.drawN {w w1 : World} {g : Nat} (h : Kb w w1 g) (n : Nat) : Kb w (w1.drewN n) g := ⟨h.os, h.tape, h.output, h.size, h.block⟩
theorem Kb.below {w w1 W : World} {g : Nat} (h : Below w.heap.size w w1) (k : Kb w1 W g) (hg : w.heap.size ≤ g) : Below w.heap.size w W :=
 ⟨k.os.trans h.os, k.tape.trans h.tape, k.output.trans h.output, Nat.le_trans h.size k.size, fun b hb => (k.block b (Nat.lt_of_lt_of_le hb h.size) (by omega)).trans (h.block b hb)⟩
theorem Kb.cell {w W : World} {g : Nat} (h : Kb w W g) {a : Addr} {v : Value} (hc : w.cell? a = some v) (hb : a.block ≠ g) : W.cell? a = some v := by
 have hlt : a.block < w.heap.size := by
  rcases Nat.lt_or_ge a.block w.heap.size with h1 | h1
  ·exact h1
  ·unfold World.cell? at hc
   rw [Array.getElem?_eq_none h1] at hc
   simp at hc
 rw [← hc]
 simp only [World.cell?, h.block a.block hlt hb]
def bey : Nat → Int → List S32 → Int → Option (Bool × Int)
 | 0, _, _, _ => none
 | _ + 1, n, [], _ => some (false, n)
 | k + 1, n, p :: ps, left => if left = 0 ∨ wrap64 (n + 1) > 2147483647 then some (true, wrap64 (n + 1)) else (bey k (wrap64 (n + 1)) p.f5 (wrap64 (left - 1))).bind fun r => if r.1 = true then some (true, r.2) else bey k r.2 ps left
theorem bey_mono : ∀ (k : Nat) (n : Int) (l : List S32) (left : Int), LeO (bey k n l left) (bey (k + 1) n l left)
 | 0, _, _, _ => LeO.none _
 | k + 1, n, [], left => LeO.refl _
 | k + 1, n, p :: ps, left => by
  rw [bey, bey]
  exact LeO.ite (LeO.refl _) (LeO.bind (bey_mono k _ _ _) (fun r => LeO.ite (LeO.refl _) (bey_mono k _ _ _)))
theorem bey_ends (l : List S32) : ∀ (n left : Int), ∃ r, Evn (fun k => bey k n l left) r := by
 intro n left
 match l with
 | [] => exact ⟨_, Evn.succ (fun _ => rfl) (Evn.now (false, n))⟩
 | p :: ps =>
  by_cases hc : left = 0 ∨ wrap64 (n + 1) > 2147483647
  ·exact ⟨_, Evn.succ (g' := fun _ => some (true, wrap64 (n + 1))) (fun k => by rw [bey, if_pos hc]) (Evn.now _)⟩
  ·obtain ⟨r, hr⟩ := bey_ends p.f5 (wrap64 (n + 1)) (wrap64 (left - 1))
   by_cases hb : r.1 = true
   ·exact ⟨(true, r.2), Evn.succ (g' := fun k => (bey k (wrap64 (n + 1)) p.f5 (wrap64 (left - 1))).bind fun r => if r.1 = true then some (true, r.2) else bey k r.2 ps left) (fun k => by rw [bey, if_neg hc]) (Evn.bind hr (Evn.pos hb (Evn.now _)))⟩
   ·obtain ⟨s, hs⟩ := bey_ends ps r.2 left
    exact ⟨s, Evn.succ (g' := fun k => (bey k (wrap64 (n + 1)) p.f5 (wrap64 (left - 1))).bind fun r => if r.1 = true then some (true, r.2) else bey k r.2 ps left) (fun k => by rw [bey, if_neg hc]) (Evn.bind hr (Evn.neg hb hs))⟩
termination_by SizeOf.sizeOf l
decreasing_by
 ·cases p; simp_wf; omega
 ·simp_wf; omega
theorem far_of {w : World} {g : Nat} {n : Int} {t : TypeId} {a : Addr} {s : ByteArray} (hg : w.heap[g]? = some (.cells #[.int .i64 n] t (0, 0))) (hs : w.cell? ⟨a.block, a.off + 1, none⟩ = some (.string s)) : a.block ≠ g := by
 intro e
 rw [e, blk_cell hg] at hs
 simp at hs
set_option maxHeartbeats 8000000 in
theorem beyond_calls (k : Nat) : ∀ (n left : Int) (A0 : Option Addr) (c0 : Nat) (l : List S32) (r : Bool × Int) (w : World) (g : Nat), (∀ W, Kb w W g → Kd.C k32 W A0 l.length l) → w.heap[g]? = some (.cells #[.int .i64 n] 73 (0, 0)) → bey k n l left = some r →
  Calls Try.prog 47 #[.pointer (some ⟨g, 0, none⟩), .slice A0 l.length c0, .int .i64 left] w fun e w' => e = .returned (.bool r.1) ∧ Kb w w' g ∧ w'.heap[g]? = some (.cells #[.int .i64 r.2] 73 (0, 0)) := by
 induction k using Nat.strongRecOn with
 | ind k ih =>
 intro n left A0 c0 l r w g hT hg h
 have hm := (hT w (Kb.refl w g)).2.1
 have HT := Aside0.mk hT
 have HG := Aside0.mk hg
 have H0 := Aside0.mk h
 have IH := Aside0.mk ih
 clear hT hg h ih
 go_enter Try.func47, Try.ntmps47
 go_wp2_with (fail)
 go_loopg [7] l.length (fun kq v7 w' => ∃ (i : Nat) (n1 : Int) (k1 : Nat), v7 = .int .i64 i ∧ Aside0 (kq = l.length - i ∧ i ≤ l.length ∧ k1 ≤ k ∧ bey k1 n1 (l.drop i) left = some r) ∧ Aside0 (w'.heap[g]? = some (.cells #[.int .i64 n1] 73 (0, 0))) ∧ Aside0 (Kb w w' g))
 case atStart => exact ⟨0, n, k, rfl, ⟨by omega, by omega, Nat.le_refl _, by simpa using H0.out⟩, HG, ⟨Kb.refl _ _⟩⟩
 case round =>
  obtain ⟨i, n1, k1, rfl, hi, hK, hB⟩ := hrel
  obtain ⟨k2, hk2⟩ : ∃ k2, k1 = k2 + 1 := by
   cases k1 with
   | zero => have := hi.out.2.2.2; rw [bey] at this; cases this
   | succ k2 => exact ⟨k2, rfl⟩
  have HI := hi.out.2.2.2
  rw [hk2] at HI
  replace hk2 := Aside0.mk hk2
  rcases Nat.lt_or_ge i l.length with hlt | hge
  ·have p1 : (0 : Int) ≤ i := by omega
   have q1 : (i : Int) < (l.length : Int) := by omega
   have hB1 := Aside0.mk (hB.out.set_ 0 (.int .i64 (wrap64 (n1 + 1))))
   obtain ⟨ad, A7, c7, A8, c8, e1, x0, x1, x2, x3, x4, x5, x6, x7, x8, _, _, hc8, g8⟩ := at_T32 (HT.out _ hB1.out) i p1 q1
   subst e1
   obtain ⟨p, hp⟩ : ∃ p, p = rd_T32 l i := ⟨_, rfl⟩
   rw [← hp] at x0 x1 x2 x3 x4 x5 x6 x7 x8 hc8 g8
   have hdr : l.drop i = p :: l.drop (i + 1) := by rw [List.drop_eq_getElem_cons hlt, hp]; simp [rd_T32, List.getD_eq_getElem?_getD, List.getElem?_eq_getElem hlt]
   simp only [Int.toNat_natCast] at x0 x1 x2 x3 x4 x5 x6 x7 x8
   rw [hdr, bey] at HI
   have hK1 : (wr.setCell ⟨g, 0, none⟩ (.int .i64 (wrap64 (n1 + 1)))).heap[g]? = some (.cells #[.int .i64 (wrap64 (n1 + 1))] 73 (0, 0)) := blk_put hK.out 0 _ rfl
   have hfar : (ad.add (i * 9)).block ≠ g := far_of hK1 x1
   have hT8 := Aside0.mk (show ∀ W, Kb (wr.setCell ⟨g, 0, none⟩ (.int .i64 (wrap64 (n1 + 1)))) W g → Kd.C k32 W A8 p.f5.length p.f5 from fun W hW => by
    obtain ⟨ad', A7', c7', A8', c8', e1, _, _, _, _, _, _, _, _, y8, _, _, _, z8⟩ := at_T32 (HT.out W (hB1.out.trans hW)) i p1 q1
    obtain rfl := Option.some.inj e1
    rw [← hp] at y8 z8
    simp only [Int.toNat_natCast] at y8
    have e2 := hW.cell x8 hfar
    rw [y8] at e2
    have e3 := Option.some.inj e2
    injection e3 with e4
    rw [← e4]; exact z8)
   have HK1 := Aside0.mk hK1
   have HP := Aside0.mk (And.intro hp hdr)
   have hw9 : wrap64 ((i : Int) + 1) = ((i + 1 : Nat) : Int) := by rw [wrap64_in (by omega) (by omega)]; omega
   have hn0 : wr.cell? ⟨g, 0, none⟩ = some (.int .i64 n1) := (blk_cell hK.out 0).trans rfl
   have hf0 : wr.frozen? ⟨g, 0, none⟩ = false := blk_frozen hK.out 0
   have hn1 : (wr.setCell ⟨g, 0, none⟩ (.int .i64 (wrap64 (n1 + 1)))).cell? ⟨g, 0, none⟩ = some (.int .i64 (wrap64 (n1 + 1))) := (blk_cell hK1 0).trans rfl
   clear x0 x1 x2 x3 x4 x5 x6 x7 hp hdr g8 hc8 hfar hK1
   by_cases hl : left = 0
   ·rw [if_pos (Or.inl hl)] at HI
    obtain rfl := Option.some.inj HI
    clear HI
    have hl0 : (left == 0) = true := by simpa using hl
    clear hl
    go_wp2_with (fail)
    all_goals (go_ret; exact ⟨rfl, hB1.out, HK1.out⟩)
   ·have hl0 : (left == 0) = false := by simpa using hl
    by_cases hn : wrap64 (n1 + 1) > 2147483647
    ·rw [if_pos (Or.inr hn)] at HI
     obtain rfl := Option.some.inj HI
     clear HI hl
     have hn5 : decide (2147483647 < wrap64 (n1 + 1)) = true := decide_eq_true hn
     clear hn
     go_wp2_with (fail)
     all_goals (go_ret; exact ⟨rfl, hB1.out, HK1.out⟩)
    ·rw [if_neg (fun h => h.elim hl hn)] at HI
     obtain ⟨r1, hr1, HI⟩ := Option.bind_eq_some_iff.1 HI
     have hn5 : decide (2147483647 < wrap64 (n1 + 1)) = false := decide_eq_false hn
     have hC := Aside0.mk (IH.out k2 (by have := hi.out.2.2.1; have := hk2.out; omega) (wrap64 (n1 + 1)) (wrap64 (left - 1)) A8 c8 p.f5 r1 (wr.setCell ⟨g, 0, none⟩ (.int .i64 (wrap64 (n1 + 1)))) g hT8.out HK1.out hr1)
     clear hl hn hr1
     by_cases hb : r1.1 = true
     ·rw [if_pos hb] at HI
      obtain rfl := Option.some.inj HI
      clear HI
      go_wp2_with (go_at_call 47; refine hC.out.mono ?_; rintro e w2 ⟨rfl, hb2, hk2⟩; have HB2 := Aside0.mk hb2; have HK2 := Aside0.mk hk2; clear hb2 hk2)
      all_goals (go_ret; exact ⟨rfl, hB1.out.trans HB2.out, HK2.out⟩)
     ·rw [if_neg hb] at HI
      replace HI := Aside0.mk HI
      have hb5 : r1.1 = false := by simpa using hb
      clear hb
      go_wp2_with (go_at_call 47; refine hC.out.mono ?_; rintro e w2 ⟨rfl, hb2, hk2⟩; have HB2 := Aside0.mk hb2; have HK2 := Aside0.mk hk2; clear hb2 hk2)
      go_roundg (l.length - (i + 1))
      case measure => have := hi.out.1; omega
      case rel => exact ⟨i + 1, r1.2, k2, by simp, ⟨rfl, by omega, by have := hi.out.2.2.1; have := hk2.out; omega, HI.out⟩, HK2, ⟨hB1.out.trans HB2.out⟩⟩
  ·have he : i = l.length := by have := hi.out.2.1; omega
   rw [List.drop_eq_nil_of_le (by omega), bey] at HI
   obtain rfl := Option.some.inj HI
   clear HI
   subst he
   go_wp2_with (fail)
   all_goals (go_ret; exact ⟨rfl, hB.out, hK.out⟩)
def colonnaderef00_Pred.f (k : Nat) (a0 : Int) (a1 : ByteArray) (a2 a3 a4 : Int) (a5 : Nat) (a6 : ByteArray) (l7 : List S28) (l8 : List S32) : Option Bool :=
 (bey k 0 [⟨a0, a1, a2, ⟨a3, a4, a5, a6⟩, l7, l8⟩] 65528).bind fun r => some r.1
theorem colonnaderef00_Pred.mono (a0 : Int) (a1 : ByteArray) (a2 a3 a4 : Int) (a5 : Nat) (a6 : ByteArray) (l7 : List S28) (l8 : List S32) (k : Nat) : LeO (colonnaderef00_Pred.f k a0 a1 a2 a3 a4 a5 a6 l7 l8) (colonnaderef00_Pred.f (k + 1) a0 a1 a2 a3 a4 a5 a6 l7 l8) := by
 unfold colonnaderef00_Pred.f
 exact LeO.bind (bey_mono _ _ _ _) (fun _ => LeO.refl _)
theorem pred_ends (a0 : Int) (a1 : ByteArray) (a2 a3 a4 : Int) (a5 : Nat) (a6 : ByteArray) (l7 : List S28) (l8 : List S32) : ∃ b, Evn (fun k => colonnaderef00_Pred.f k a0 a1 a2 a3 a4 a5 a6 l7 l8) b := by
 obtain ⟨r, hr⟩ := bey_ends [⟨a0, a1, a2, ⟨a3, a4, a5, a6⟩, l7, l8⟩] 0 65528
 exact ⟨r.1, Evn.bind hr (Evn.now _)⟩
theorem one_pred {w W : World} {b : Nat} (p : S32) {A7 : Option Addr} {c7 : Nat} {A8 : Option Addr} {c8 : Nat} (hW : W.heap[b]? = some (.cells #[.int .i64 p.f0, .string p.f1, .int .i64 p.f2, .int .i64 p.f3.f0, .int .i64 p.f3.f1, .float .f64 p.f3.f2, .string p.f3.f3, .slice A7 p.f4.length c7, .slice A8 p.f5.length c8] 32 (0, 0)))
  (l7 : p.f4.length ≤ c7) (g7 : Kd.C k28 W A7 p.f4.length p.f4) (l8 : p.f5.length ≤ c8) (g8 : Kd.C k32 W A8 p.f5.length p.f5) : Kd.C k32 W (some ⟨b, 0, none⟩) [p].length [p] := by
 refine ⟨rfl, by simp, fun _ => ⟨_, rfl, fun j q hj => ?_⟩⟩
 have ha : ∀ i, (⟨b, 0, none⟩ : Addr).add i = ⟨b, i, none⟩ := fun i => by unfold Addr.add; by_cases h : i = 0 <;> simp [h]
 rcases j with _ | j
 ·obtain rfl : p = q := by simpa using hj
  refine ⟨_, rfl, k32_mk _ _ l7 g7 l8 g8, fun i u hu => ?_⟩
  rw [ha, blk_cell hW]
  have e9 : 0 * k32.sz + i = i := by omega
  rw [e9]
  simpa using hu
 ·simp at hj
set_option maxHeartbeats 8000000 in
theorem colonnaderef00_Pred.calls (k : Nat) (a0_0 : Int) (a0_1 : ByteArray) (a0_2 a0_3 a0_4 : Int) (a0_5 : Nat) (a0_6 : ByteArray) (A0_7 : Option Addr) (c0_7 : Nat) (l0_7 : List S28) (A0_8 : Option Addr) (c0_8 : Nat) (l0_8 : List S32) (r : Bool) (w : World) (hr0_7 : Kd.C k28 w A0_7 l0_7.length l0_7) (hc0_7 : l0_7.length ≤ c0_7) (hr0_8 : Kd.C k32 w A0_8 l0_8.length l0_8) (hc0_8 : l0_8.length ≤ c0_8) (h : colonnaderef00_Pred.f k a0_0 a0_1 a0_2 a0_3 a0_4 a0_5 a0_6 l0_7 l0_8 = some r) :
  Calls Try.prog 16 #[.agg #[.int .i64 a0_0, .string a0_1, .int .i64 a0_2, .int .i64 a0_3, .int .i64 a0_4, .float .f64 a0_5, .string a0_6, .slice A0_7 l0_7.length c0_7, .slice A0_8 l0_8.length c0_8]] w fun e w' => e = .returned (.bool r) ∧ Below w.heap.size w w' := by
 unfold colonnaderef00_Pred.f at h
 obtain ⟨q, hq, h⟩ := Option.bind_eq_some_iff.1 h
 obtain rfl := Option.some.inj h
 clear h
 have HR7 := Aside0.mk (And.intro hr0_7 hc0_7)
 have HR8 := Aside0.mk (And.intro hr0_8 hc0_8)
 have HQ := Aside0.mk hq
 clear hq hr0_7 hc0_7 hr0_8 hc0_8
 go_enter Try.func16, Try.ntmps16
 go_wp2_with (go_at_call 47; refine (beyond_calls k 0 65528 (some ⟨w.heap.size + 1 + 1, 0, none⟩) 1 [⟨a0_0, a0_1, a0_2, ⟨a0_3, a0_4, a0_5, a0_6⟩, l0_7, l0_8⟩] q _ (w.heap.size + 1) ?hT ?hg HQ.out).mono ?_; (case hT => intro W hW; have hb0 : Below w.heap.size w W := Kb.below (below_alloc (below_alloc (below_alloc (Below.refl _ _) _) _) _) hW (by omega); exact one_pred (w := w) (A7 := A0_7) (c7 := c0_7) (A8 := A0_8) (c8 := c0_8) ⟨a0_0, a0_1, a0_2, ⟨a0_3, a0_4, a0_5, a0_6⟩, l0_7, l0_8⟩ ((hW.block _ (by simp) (by omega)).trans (by simpa using blk_new ((w.alloc _).alloc _) _)) HR7.out.2 (Kd.C_below HR7.out.1 hb0) HR8.out.2 (Kd.C_below HR8.out.1 hb0)); (case hg => exact blk_alloc (by simpa using blk_new (w.alloc _) _) _); rintro e w2 ⟨rfl, hb2, hk2⟩; have HB2 := Aside0.mk (Kb.below (below_alloc (below_alloc (below_alloc (Below.refl _ _) _) _) _) hb2 (by omega)); clear hb2 hk2)
 go_ret
 exact ⟨rfl, HB2.out⟩
end Go.Proofs.Ytkedejphebfneaa.Pa
