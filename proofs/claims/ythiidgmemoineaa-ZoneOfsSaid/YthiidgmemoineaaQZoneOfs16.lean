/- The texts of ZoneOfs, merged: part 16. -/
import Derived.Test.YthiidgmemoineaaQZoneOfs15
import Derived.Test.YthiidgmemoineaaQZoneOfs14
/- Rows of one's own that are written: each is told whole, the world behind a store is a letter. -/
namespace Go.Proofs.Ythiidgmemoineaa.Pa
open Go.RowKit Go.Proofs.Ythiidgmemoineaa.L Go.Proofs.YthiidgmemoineaaW.PrintWords Go.Proofs.YthiidgmemoineaaW.PrintLast Go.Proofs.YthiidgmemoineaaW.PrintMore
set_option linter.unusedVariables false
set_option linter.unusedSimpArgs false
theorem add_off (g j : Nat) : (⟨g, 0, none⟩ : Addr).add j = ⟨g, j, none⟩ := by
  unfold Addr.add
  split
  · rename_i h; subst h; rfl
  · simp
theorem Std.row {α : Type} {W : World} {d : Kd α} {e base : Nat} {ok : Nat → Prop} {v : Value} {xs : List α} (h : d.R e W base ok v xs) : Std W (fun W => d.R e W base ok v xs) := fun _ h' => Kd.R_below h h'
theorem own_g {α : Type} {d : Kd α} (hE : d.E = []) {W : World} {e base n c : Nat} {ok : Nat → Prop} {g : Nat} {xs : List α} (h : d.R e W base ok (.slice (some ⟨g, 0, none⟩) n c) xs) : d.R e W base (fun k => k = g) (.slice (some ⟨g, 0, none⟩) n c) xs :=
  Kd.R_mono (Kd.R_tight hE h) (fun k hk => Option.some.inj (show some k = some g from hk))
theorem own_at {α : Type} {d : Kd α} (hE : d.E = []) {W : World} {e base n c : Nat} {ok : Nat → Prop} {A : Option Addr} {xs : List α} (h : d.R e W base ok (.slice A n c) xs) (hp : 0 < xs.length) : ∃ g, A = some ⟨g, 0, none⟩ ∧ d.R e W base (fun k => k = g) (.slice A n c) xs := by
  obtain ⟨g, cap, e1, _, _, _⟩ := Kd.R_form h hp
  obtain ⟨rfl, _, _⟩ := Value.slice.inj e1
  exact ⟨g, rfl, own_g hE h⟩
theorem two_rows {α β : Type} {d : Kd α} {d' : Kd β} {W : World} {e e' base base' n n' c c' g g' : Nat} {ok ok' : Nat → Prop} {xs : List α} {ys : List β} (h : d.R e W base ok (.slice (some ⟨g, 0, none⟩) n c) xs) (h' : d'.R e' W base' ok' (.slice (some ⟨g', 0, none⟩) n' c') ys) (hn : e ≠ e') : g ≠ g' := by
  obtain ⟨cells, hc⟩ := Kd.R_typed h' g' rfl
  intro hg
  have := Kd.R_ne h hc hn
  rw [hg] at this
  exact this rfl
theorem row_box {α : Type} {d : Kd α} {W : World} {e base n c g k t : Nat} {ok : Nat → Prop} {xs : List α} {cs : Array Value} (h : d.R e W base ok (.slice (some ⟨g, 0, none⟩) n c) xs) (hb : W.heap[k]? = some (.cells cs t (0, 0))) (hn : e ≠ t) : some k ≠ some g := Kd.R_ne h hb hn
theorem grown_blk {W W' : World} {g k : Nat} {o : Obj} (hg : W.grownBy W' (some g)) (hb : W.heap[k]? = some o) (hk : some k ≠ some g) : W'.heap[k]? = some o := (hg.block _ (blk_lt hb) hk).trans hb
/-- One box and one row, made behind W0. -/
structure Own1 {α : Type} (W0 : World) (g t : Nat) (cs : Array Value) (d : Kd α) (e : Nat) (v : Value) (xs : List α) (W : World) : Prop where
  hb : Below W0.heap.size W0 W
  bx : W.heap[g]? = some (.cells cs t (0, 0))
  ge : W0.heap.size ≤ g
  row : d.R e W W0.heap.size (fun k => k ≠ g) v xs
section
variable {α : Type} {d : Kd α} {W0 W W' : World} {g t e : Nat} {cs cs' : Array Value} {v v' : Value} {xs xs' : List α} {ok : Nat → Prop}
theorem Own1.start (hb : Below W0.heap.size W0 W) (bx : W.heap[g]? = some (.cells cs t (0, 0))) (hg : g = W0.heap.size) (ho : d.R e W' W.heap.size ok v xs) (hb' : Below W.heap.size W W') : Own1 W0 g t cs d e v xs W' := by
  refine ⟨below_step hb hb', blk_below bx hb', by omega, Kd.R_lower (Kd.R_mono (Kd.R_bound ho) (fun k hk => ?_)) (below_size hb)⟩
  have := blk_lt bx
  have := hk.2.1
  omega
theorem Own1.grow (h : Own1 W0 g t cs d e v xs W) (ho : d.R e W' W0.heap.size (fun k => k ≠ g) v' xs') (hb : Below W0.heap.size W0 W') (hg : W.grownBy W' v.ownBlock) : Own1 W0 g t cs d e v' xs' W' := by
  have n1 : some g ≠ v.ownBlock := fun e => (h.row.1 _ e.symm) rfl
  exact ⟨hb, (hg.block _ (blk_lt h.bx) n1).trans h.bx, h.ge, ho⟩
theorem Own1.fresh (h : Own1 W0 g t cs d e v xs W) : ∀ k, W.heap.size ≤ k → k ≠ g := fun k hk => by
  have := blk_lt h.bx
  omega
theorem Own1.set (h : Own1 W0 g t cs d e v xs W) (hx : W'.heap[g]? = some (.cells cs' t (0, 0))) (ho : Only W W' g) : Own1 W0 g t cs' d e v xs W' := ⟨ho.below h.hb h.ge, hx, h.ge, Kd.R_step h.row (fun k hk _ => ho.block k hk)⟩
end
section
variable {P : Program} {ops : Array Oper} {o : Oper} {a : Act} {Q : Exit → Act → World → Prop}
/-- A store of one cell as the last step of a region that draws. -/
theorem st_fld_step {W W' : World} {Kc : Act → World → Prop} (hw : Region.wanted o (yielded ops a.tmps) = true) (hd : o.dst = none) (hrun : (execOp a.eval o).run P W = .ok .skip W') (h : Kc (a.put none undef) W') : if Region.wanted o (yielded ops a.tmps) = true then Oper.wp P o a W Kc Q else Kc (a.put none undef) W := by
  rw [if_pos hw]
  unfold Oper.wp
  rw [hrun]
  show Kc (a.put o.dst undef) _
  rw [hd]
  exact h
end
abbrev SV := S28
/-- Values whose words are words. -/
def okW (l : List SV) : Prop := ∀ v ∈ l, v.f2 < 18446744073709551616
theorem okW_set {l : List SV} (h : okW l) (j : Nat) {x : SV} (hx : x.f2 < 18446744073709551616) : okW (l.set j x) := fun v hv => by
  rcases List.mem_or_eq_of_mem_set hv with h1 | rfl
  · exact h v h1
  · exact hx
theorem rdv_mem {l : List SV} {j : Nat} (h : j < l.length) : rd_T28 l (j : Int) ∈ l := by
  unfold rd_T28
  simp only [Int.toNat_natCast, List.getD_eq_getElem?_getD, List.getElem?_eq_getElem h, Option.getD_some]
  exact List.getElem_mem h
theorem rdv_left (l m : List SV) {j : Nat} (h : j < l.length) : rd_T28 (l ++ m) (j : Int) = rd_T28 l (j : Int) := by
  unfold rd_T28
  simp only [Int.toNat_natCast, List.getD_eq_getElem?_getD, List.getElem?_append_left h]
theorem own_cells {W : World} {g n base cap : Nat} {ok : Nat → Prop} {xs : List SV} (h : Kd.R k28 28 W base ok (.slice (some ⟨g, 0, none⟩) n cap) xs) {j : Nat} (hj : j < n) : ∀ q u, ([.int .i64 (rd_T28 xs (j : Int)).f0, .int .i64 (rd_T28 xs (j : Int)).f1, .float .f64 (rd_T28 xs (j : Int)).f2, .string (rd_T28 xs (j : Int)).f3] : List Value)[q]? = some u → W.cell? ⟨g, (j : Int).toNat * k28.sz + q, none⟩ = some u := by
  have hq := Kd.R_reads' h
  obtain ⟨e0, e1, e2, e3⟩ := el_at hq.2.2 (j := j) (by omega)
  rw [add_off] at e0 e1 e2 e3
  rw [Int.toNat_natCast, show k28.sz = 4 from rfl]
  intro q u hq
  match q with
  | 0 => obtain rfl := Option.some.inj hq; exact e0
  | 1 => obtain rfl := Option.some.inj hq; exact e1
  | 2 => obtain rfl := Option.some.inj hq; exact e2
  | 3 => obtain rfl := Option.some.inj hq; exact e3
  | q + 4 => simp at hq
/-- No cell of a row of one's own is frozen. -/
theorem own_hot {W : World} {g n base cap : Nat} {ok : Nat → Prop} {xs : List SV} (h : Kd.R k28 28 W base ok (.slice (some ⟨g, 0, none⟩) n cap) xs) {j : Nat} (hj : j < n) (q : Nat) : W.frozen? ⟨g, j * 4 + q, none⟩ = false := by
  obtain ⟨_, _, _, _, hf⟩ := Kd.R_elem h (⟨0, 0, 0, ⟨#[]⟩⟩ : S28) (j : Int) (by omega) (by omega)
  have := hf q
  rw [Int.toNat_natCast, show k28.sz = 4 from rfl] at this
  exact this
/-- The number of an element is written. -/
theorem own_num {W : World} {g n base cap : Nat} {xs : List SV} (h : Kd.R k28 28 W base (fun k => k = g) (.slice (some ⟨g, 0, none⟩) n cap) xs) {j : Nat} (hj : j < n) (y : Int) :
    Kd.R k28 28 (W.setCell ⟨g, j * 4 + 1, none⟩ (.int .i64 y)) base (fun k => k = g) (.slice (some ⟨g, 0, none⟩) n cap) (xs.set j ⟨(rd_T28 xs (j : Int)).f0, y, (rd_T28 xs (j : Int)).f2, (rd_T28 xs (j : Int)).f3⟩) ∧ W.grownBy (W.setCell ⟨g, j * 4 + 1, none⟩ (.int .i64 y)) (some g) := by
  have := Kd.R_seg h (j : Int) (by omega) (by omega) (c := [.int .i64 (rd_T28 xs (j : Int)).f0, .int .i64 (rd_T28 xs (j : Int)).f1, .float .f64 (rd_T28 xs (j : Int)).f2, .string (rd_T28 xs (j : Int)).f3]) (seg := [.int .i64 y]) (j := 1) (x' := (⟨(rd_T28 xs (j : Int)).f0, y, (rd_T28 xs (j : Int)).f2, (rd_T28 xs (j : Int)).f3⟩ : S28)) (okp := fun _ => False) rfl (own_cells h hj) (show (2 : Nat) ≤ 4 from by decide) (k28_mkM _ _ _ (⟨(rd_T28 xs (j : Int)).f0, y, (rd_T28 xs (j : Int)).f2, (rd_T28 xs (j : Int)).f3⟩ : S28)) (fun _ hk => hk.elim)
  rw [Int.toNat_natCast] at this
  exact this
/-- An element is written. -/
theorem own_elem {W : World} {g n base cap : Nat} {xs : List SV} (h : Kd.R k28 28 W base (fun k => k = g) (.slice (some ⟨g, 0, none⟩) n cap) xs) {j : Nat} (hj : j < n) (x : SV) :
    Kd.R k28 28 (W.setCells g (j * 4) [.int .i64 x.f0, .int .i64 x.f1, .float .f64 x.f2, .string x.f3]) base (fun k => k = g) (.slice (some ⟨g, 0, none⟩) n cap) (xs.set j x) ∧ W.grownBy (W.setCells g (j * 4) [.int .i64 x.f0, .int .i64 x.f1, .float .f64 x.f2, .string x.f3]) (some g) := by
  have := Kd.R_seg h (j : Int) (by omega) (by omega) (c := [.int .i64 (rd_T28 xs (j : Int)).f0, .int .i64 (rd_T28 xs (j : Int)).f1, .float .f64 (rd_T28 xs (j : Int)).f2, .string (rd_T28 xs (j : Int)).f3]) (seg := [.int .i64 x.f0, .int .i64 x.f1, .float .f64 x.f2, .string x.f3]) (j := 0) (x' := x) (okp := fun _ => False) rfl (own_cells h hj) (show (4 : Nat) ≤ 4 from by decide) (k28_mkM _ _ _ x) (fun _ hk => hk.elim)
  rw [Int.toNat_natCast] at this
  exact this
theorem C_leftn {W : World} {B : Option Addr} {l : List SV} {n : Nat} (hn : l.length = n) (h : Kd.C k28 W B (n + 2) (l ++ mk2)) : Kd.C k28 W B n l := by
  subst hn; exact C_leftv h
theorem kept_n (n : Nat) (A B : Option Addr) (c cb : Nat) (l : List SV) (w : World) (hn : l.length = n) (hm : n + 2 ≤ cb ∧ Kd.C k28 w B (n + 2) (l ++ mk2)) (hr : Kd.C k28 w A l.length l) (hc : l.length ≤ c) (hl : n ≤ 3518437208780) :
    Calls Try.prog 17 #[.slice B n cb, .slice A l.length c] w fun e w' => e = .returned (.bool true) ∧ Below w.heap.size w w' := by
  subst hn; exact kept_calls A B c cb l w hm hr hc hl
end Go.Proofs.Ythiidgmemoineaa.Pa
