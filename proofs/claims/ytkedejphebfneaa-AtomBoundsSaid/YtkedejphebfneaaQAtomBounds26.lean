/- The texts of AtomBounds, merged: part 26. -/
import Derived.WalkKit
import Derived.Deep.MidRow
import Derived.Test.YtkedejphebfneaaQAtomBounds1
/- Boxes: a struct in a block of its own is read, stored and written as a whole; the world behind a store is a letter. -/
namespace Go.Proofs.YtkedejphebfneaaW.PrintWords
open Go.RowKit
set_option linter.unusedVariables false
structure Only (w w' : World) (g : Nat) : Prop where
 os : w'.os = w.os
 tape : w'.tape = w.tape
 output : w'.output = w.output
 size : w'.heap.size = w.heap.size
 block : ∀ k, k ≠ g → w'.heap[k]? = w.heap[k]?
theorem Only.refl (w : World) (g : Nat) : Only w w g := ⟨rfl, rfl, rfl, rfl, fun _ _ => rfl⟩
theorem Only.trans {a b c : World} {g : Nat} (h : Only a b g) (k : Only b c g) : Only a c g :=
 ⟨k.os.trans h.os, k.tape.trans h.tape, k.output.trans h.output, k.size.trans h.size, fun i hi => (k.block i hi).trans (h.block i hi)⟩
theorem Only.set (w : World) (g i : Nat) (u : Value) : Only w (w.setCell ⟨g, i, none⟩ u) g := by
 have hb := Below.setCell (B := g) (Below.refl g w) (p := ⟨g, i, none⟩) (Nat.le_refl g) u
 exact ⟨hb.os, hb.tape, hb.output, by simp, fun k hk => Below.heap_setCell w ⟨g, i, none⟩ u k hk⟩
theorem Only.cells (g : Nat) : ∀ (vs : List Value) (o : Nat) (w : World), Only w (w.setCells g o vs) g
 | [], _, w => Only.refl w g
 | v :: r, o, w => (Only.set w g o v).trans (Only.cells g r (o + 1) _)
theorem Only.below {w0 w w' : World} {g : Nat} (h : Only w w' g) (hb : Below w0.heap.size w0 w) (hg : w0.heap.size ≤ g) : Below w0.heap.size w0 w' :=
 ⟨h.os.trans hb.os, h.tape.trans hb.tape, h.output.trans hb.output, by rw [h.size]; exact hb.size, fun k hk => (h.block k (by omega)).trans (hb.block k hk)⟩
theorem Only.blk {w w' : World} {g k : Nat} {o : Obj} (h : Only w w' g) (hb : w.heap[k]? = some o) (hk : k ≠ g) : w'.heap[k]? = some o := (h.block k hk).trans hb
def putAt (cs : Array Value) : Nat → List Value → Array Value
 | _, [] => cs
 | o, v :: r => putAt (cs.setIfInBounds o v) (o + 1) r
theorem putAt_get : ∀ (vs : List Value) (o : Nat) (cs : Array Value), o + vs.length ≤ cs.size → ∀ i, (putAt cs o vs)[i]? = if i < o then cs[i]? else if i < o + vs.length then vs[i - o]? else cs[i]?
 | [], o, cs, h, i => by
  rw [putAt]
  split
  ·rfl
  ·rw [if_neg (by simp; omega)]
 | v :: r, o, cs, h, i => by
  simp only [List.length_cons] at h ⊢
  rw [putAt, putAt_get r (o + 1) _ (by simp; omega) i]
  simp only [Array.getElem?_setIfInBounds]
  by_cases h1 : i < o
  ·rw [if_pos (show i < o + 1 by omega), if_neg (show ¬ o = i by omega), if_pos h1]
  ·rw [if_neg h1]
   by_cases h2 : o = i
   ·subst h2
    rw [if_pos (show o < o + 1 by omega), if_pos rfl, if_pos (show o < cs.size by omega), if_pos (show o < o + (r.length + 1) by omega)]
    simp
   ·rw [if_neg (show ¬ i < o + 1 by omega), if_neg h2]
    by_cases h3 : i < o + 1 + r.length
    ·rw [if_pos h3, if_pos (show i < o + (r.length + 1) by omega), show i - o = (i - (o + 1)) + 1 by omega, List.getElem?_cons_succ]
    ·rw [if_neg h3, if_neg (show ¬ i < o + (r.length + 1) by omega)]
theorem putAt_all {cs vs : Array Value} (h : cs.size = vs.size) : putAt cs 0 vs.toList = vs := by
 apply Array.ext_getElem?
 intro i
 rw [putAt_get vs.toList 0 cs (by simp; omega) i, if_neg (by omega)]
 simp only [Nat.zero_add, Nat.sub_zero, Array.length_toList, Array.getElem?_toList]
 by_cases hi : i < vs.size
 ·rw [if_pos hi]
 ·rw [if_neg hi, Array.getElem?_eq_none (by omega), Array.getElem?_eq_none (by omega)]
theorem cells_blk (g : Nat) (t : TypeId) : ∀ (vs : List Value) (o : Nat) (w : World) (cs : Array Value), w.heap[g]? = some (.cells cs t (0, 0)) → (w.setCells g o vs).heap[g]? = some (.cells (putAt cs o vs) t (0, 0))
 | [], _, _, _, h => h
 | v :: r, o, w, cs, h => cells_blk g t r (o + 1) _ _ (blk_set h o v)
section
variable {P : Program} {ops : Array Oper} {rest : List Oper} {o : Oper} {a : Act} {Q : Exit → Act → World → Prop}
theorem st_blk {W : World} (hgd : o.guard = none) (ty : TypeId) (x y : Operand) (ho : o.op = .store ty x y) (hd : o.dst = none) {g : Nat} {t : TypeId} {cs : Array Value} (vs : Array Value)
  (hx : a.eval x = .pointer (some ⟨g, 0, none⟩)) (hy : a.eval y = .agg vs) (hb : W.heap[g]? = some (.cells cs t (0, 0))) (hsz : cs.size = vs.size)
  (hi : (P.info? ty).map (·.size) = some vs.size) (h1 : vs.all (·.oneCell') = true)
  (h : ∀ w', w'.heap[g]? = some (.cells vs t (0, 0)) → Only W w' g → wpList P ops Q rest (a.put none undef) w') : wpList P ops Q (o :: rest) a W := by
 refine wpList_store_mid hgd ty x y ho g 0 vs hx hy (fun j hj => ?_) hi h1 ?_
 ·rw [Nat.zero_add, blk_cell hb, blk_frozen hb]
  exact ⟨by rw [Array.getElem?_eq_getElem (by omega)]; rfl, rfl⟩
 ·rw [hd]
  refine h _ ?_ (Only.cells g _ _ _)
  rw [cells_blk g t _ _ _ _ hb, putAt_all hsz]
theorem st_rng {W : World} (hgd : o.guard = none) (ty : TypeId) (x y : Operand) (ho : o.op = .store ty x y) (hd : o.dst = none) {g f : Nat} {t : TypeId} {cs : Array Value} (vs cs' : Array Value)
  (hx : a.eval x = .pointer (some ⟨g, f, none⟩)) (hy : a.eval y = .agg vs) (hb : W.heap[g]? = some (.cells cs t (0, 0))) (hsz : f + vs.size ≤ cs.size)
  (hi : (P.info? ty).map (·.size) = some vs.size) (h1 : vs.all (·.oneCell') = true) (he : putAt cs f vs.toList = cs')
  (h : ∀ w', w'.heap[g]? = some (.cells cs' t (0, 0)) → Only W w' g → wpList P ops Q rest (a.put none undef) w') : wpList P ops Q (o :: rest) a W := by
 refine wpList_store_mid hgd ty x y ho g f vs hx hy (fun j hj => ?_) hi h1 ?_
 ·rw [blk_cell hb, blk_frozen hb]
  exact ⟨by rw [Array.getElem?_eq_getElem (by omega)]; rfl, rfl⟩
 ·rw [hd]
  refine h _ ?_ (Only.cells g _ _ _)
  rw [cells_blk g t _ _ _ _ hb, he]
theorem ld_blk {W : World} (hgd : o.guard = none) (ty : TypeId) (x : Operand) (ho : o.op = .load ty x) {g : Nat} {t : TypeId} {cs : Array Value} {d : TypeDesc}
  (hx : a.eval x = .pointer (some ⟨g, 0, none⟩)) (hb : W.heap[g]? = some (.cells cs t (0, 0))) (hu : P.underlying ty = some d) (hd : d.isRow = true) (hi : (P.info? ty).map (·.size) = some cs.size)
  (h : wpList P ops Q rest (a.put o.dst (.agg cs)) W) : wpList P ops Q (o :: rest) a W := by
 refine wpList_load_mid hgd ty x ho g 0 hx cs.toList d (fun j v hv => ?_) hu hd (by rw [hi, Array.length_toList]) (by simpa using h)
 rw [Nat.zero_add, blk_cell hb]
 simpa using hv
theorem ld_fld {W : World} (hgd : o.guard = none) (ty : TypeId) (x : Operand) (ho : o.op = .load ty x) {g i : Nat} {t : TypeId} {cs : Array Value} {d : TypeDesc} (v : Value)
  (hx : a.eval x = .pointer (some ⟨g, i, none⟩)) (hb : W.heap[g]? = some (.cells cs t (0, 0))) (hv : cs[i]? = some v) (hu : P.underlying ty = some d) (hd : d.isRow = false)
  (h : wpList P ops Q rest (a.put o.dst v) W) : wpList P ops Q (o :: rest) a W := by
 refine wpList_plain hgd fun K hK => ?_
 have hc : W.cell? ⟨g, i, none⟩ = some v := (blk_cell hb i).trans hv
 have hagg : (isAgg ty).run P W = .ok false W := by
  unfold isAgg
  rw [Sem.run_bind, run_underlying hu W]
  cases d <;> simp_all
 have hrun : (loadVar ty ⟨g, i, none⟩).run P W = .ok v W := by
  simp [loadVar, Sem.run_bind, hagg, hc]
 unfold Oper.wp execOp
 simp only [ho, hx, Instr.loadAt, Instr.sureAddr, Sem.run_bind, Sem.run_pure, Result.andThen_ok, hrun]
 exact hK _ _ h
theorem st_fld {W : World} (hgd : o.guard = none) (ty : TypeId) (x y : Operand) (ho : o.op = .store ty x y) (hd : o.dst = none) {g i : Nat} {t : TypeId} {cs : Array Value} (v : Value)
  (hx : a.eval x = .pointer (some ⟨g, i, none⟩)) (hy : a.eval y = v) (hb : W.heap[g]? = some (.cells cs t (0, 0))) (hlt : i < cs.size)
  (hi : (P.info? ty).map (·.size) = some 1) (h1 : v.oneCell' = true) (cs' : Array Value) (he : cs.setIfInBounds i v = cs')
  (hrun : (execOp a.eval o).run P W = .ok .skip (W.setCell ⟨g, i, none⟩ v))
  (h : ∀ w', w'.heap[g]? = some (.cells cs' t (0, 0)) → Only W w' g → wpList P ops Q rest (a.put none undef) w') : wpList P ops Q (o :: rest) a W := by
 refine wpList_plain hgd fun K hK => ?_
 unfold Oper.wp
 rw [hrun]
 show K (a.put o.dst undef) _
 rw [hd]
 exact hK _ _ (h _ (blk_put hb i v he) (Only.set W g i v))
theorem st_blk_step {W : World} {Kc : Act → World → Prop} (hw : Region.wanted o (yielded ops a.tmps) = true) (ty : TypeId) (x y : Operand) (ho : o.op = .store ty x y) (hd : o.dst = none) {g : Nat} {t : TypeId} {cs : Array Value} (vs : Array Value)
  (hx : a.eval x = .pointer (some ⟨g, 0, none⟩)) (hy : a.eval y = .agg vs) (hb : W.heap[g]? = some (.cells cs t (0, 0))) (hsz : cs.size = vs.size)
  (hi : (P.info? ty).map (·.size) = some vs.size) (h1 : vs.all (·.oneCell') = true)
  (h : ∀ w', w'.heap[g]? = some (.cells vs t (0, 0)) → Only W w' g → Kc (a.put none undef) w') : if Region.wanted o (yielded ops a.tmps) = true then Oper.wp P o a W Kc Q else Kc (a.put none undef) W := by
 rw [if_pos hw]
 refine wp_store_mid ty x y ho g 0 vs hx hy (fun j hj => ?_) hi h1 ?_
 ·rw [Nat.zero_add, blk_cell hb, blk_frozen hb]
  exact ⟨by rw [Array.getElem?_eq_getElem (by omega)]; rfl, rfl⟩
 ·rw [hd]
  refine h _ ?_ (Only.cells g _ _ _)
  rw [cells_blk g t _ _ _ _ hb, putAt_all hsz]
end
def Std (W : World) (Q : World → Prop) : Prop := ∀ W', Below W.heap.size W W' → Q W'
section
variable {w W W2 : World} {Q Q1 Q2 : World → Prop}
theorem Std.step (h : Std W Q) (hb : Below W.heap.size W W2) : Std W2 Q := fun W' h' => h W' (below_step hb h')
theorem Std.now (h : Std W Q) : Q W := h W (Below.refl _ _)
theorem Std.and (h1 : Std W Q1) (h2 : Std W Q2) : Std W (fun W => Q1 W ∧ Q2 W) := fun W' h' => ⟨h1 W' h', h2 W' h'⟩
theorem Std.drop (h : Std W (fun W => Q1 W ∧ Q2 W)) : Std W Q2 := fun W' h' => (h W' h').2
theorem Std.blk {g : Nat} {o : Obj} (h : W.heap[g]? = some o) : Std W (fun W => W.heap[g]? = some o) := fun W' h' => blk_below h h'
theorem Std.rowR {α : Type} {d : Kd α} {e B : Nat} {ok : Nat → Prop} {A : Option Addr} {n c : Nat} {xs : List α} (ho : d.R e W B ok (.slice A n c) xs) (hn : xs.length = n) : Std W (fun W => n ≤ c ∧ d.C W A n xs) := by
 subst hn
 have h := Kd.R_reads' ho
 exact fun W' h' => ⟨h.2.1, Kd.C_below h.2.2 h'⟩
theorem Std.bel (h : Below w.heap.size w W) : Std W (fun W => Below w.heap.size w W) := fun W' h' => below_step h h'
end
theorem Only.belowW {W w1 w2 : World} {g : Nat} (h : Only w1 w2 g) (hb : Below W.heap.size W w1) (hg : W.heap.size ≤ g) : Below W.heap.size W w2 := h.below hb hg
theorem Std.rowC {α : Type} {W : World} {d : Kd α} {A : Option Addr} {n c : Nat} {xs : List α} (hc : n ≤ c) (h : d.C W A n xs) : Std W (fun W => n ≤ c ∧ d.C W A n xs) := fun W' h' => ⟨hc, Kd.C_below h h'⟩
theorem C_zero {α : Type} (d : Kd α) (W : World) (A : Option Addr) : d.C W A 0 ([] : List α) := ⟨rfl, by decide, fun h => absurd h (by decide)⟩
end Go.Proofs.YtkedejphebfneaaW.PrintWords
