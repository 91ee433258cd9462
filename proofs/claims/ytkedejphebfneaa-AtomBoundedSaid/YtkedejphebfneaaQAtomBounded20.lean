/- The texts of AtomBounded, merged: part 20. -/
import Derived.Test.YtkedejphebfneaaQAtomBounded16
import Derived.Test.YtkedejphebfneaaQAtomBounded18
import Derived.Test.YtkedejphebfneaaQAtomBounded13
import Derived.Test.YtkedejphebfneaaQAtomBounded7
/- Layer 18's known, its walk by hand: closed, one way. -/
namespace Go.Proofs.Ytkedejphebfneaa.Pa
open Go.Proofs.Ytkedejphebfneaa.L Go.RowKit Go.Proofs.YtkedejphebfneaaW.PrintWords Go.Proofs.YtkedejphebfneaaW.PrintLast Go.Proofs.YtkedejphebfneaaW.PrintMore
set_option linter.unusedVariables false
set_option linter.unusedSimpArgs false
attribute [local go_sem] run_store_float cmp_feq cmp_fne cmp_flt cmp_fle cmp_fgt cmp_fge un_fneg equalIn_feq run_fop run_fint run_freal cmp_sgt
def Held (W : World) (L : List (Nat × Obj)) : Prop := ∀ p ∈ L, W.heap[p.1]? = some p.2
structure St (w W : World) (v : Value) (L : List (Nat × Obj)) : Prop where
  ho : Kd.R k23 23 W w.heap.size (fun _ => True) v ([⟨⟨#[97]⟩, 1, false⟩, ⟨⟨#[116]⟩, 2, true⟩] : List S23)
  hk : Held W L
  hb : Below w.heap.size w W
theorem St.step {w W W' : World} {v : Value} {L : List (Nat × Obj)} (h : St w W v L) (hb : Below W.heap.size W W') : St w W' v L :=
  ⟨Kd.R_below h.ho hb, fun p hp => blk_below (h.hk p hp) hb, below_step h.hb hb⟩
theorem St.drew {w W : World} {v : Value} {L : List (Nat × Obj)} (h : St w W v L) : St w W.drew v L :=
  ⟨Kd.R_drew h.ho, fun p hp => blk_drew (h.hk p hp), below_drew1 h.hb⟩
theorem St.drewN {w W : World} {v : Value} {L : List (Nat × Obj)} (h : St w W v L) (n : Nat) : St w (W.drewN n) v L :=
  ⟨Kd.R_drewN h.ho n, fun p hp => blk_drewN (h.hk p hp) n, pw_below_drewN h.hb n⟩
theorem St.box {w W W' : World} {v : Value} {L : List (Nat × Obj)} {g : Nat} {ob : Obj} (h : St w W v L) (hb : Below W.heap.size W W') (hg : W'.heap[g]? = some ob) : St w W' v ((g, ob) :: L) :=
  ⟨Kd.R_below h.ho hb, fun p hp => (List.mem_cons.1 hp).elim (fun e => by rw [e]; exact hg) (fun m => blk_below (h.hk p m) hb), below_step h.hb hb⟩
theorem St.set1 {w W : World} {v : Value} {L : List (Nat × Obj)} {g : Nat} {cs cs' : Array Value} {t : TypeId} (h : St w W v ((g, .cells cs t (0, 0)) :: L)) (ht : ∀ q ∈ 23 :: k23.E, q ≠ t) (hL : ∀ p ∈ L, p.1 ≠ g) (hge : w.heap.size ≤ g) (i : Nat) (y : Value) (hi : cs.setIfInBounds i y = cs') : St w (W.setCell ⟨g, i, none⟩ y) v ((g, .cells cs' t (0, 0)) :: L) :=
  ⟨Kd.R_mono (Kd.R_far (p := ⟨g, i, none⟩) (Kd.R_types h.ho (h.hk _ (List.mem_cons_self ..)) ht) (fun _ hk => hk.2) y) (fun _ h_ => h_.1),
   fun p hp => (List.mem_cons.1 hp).elim (fun e => by rw [e]; exact blk_put (h.hk _ (List.mem_cons_self ..)) i y hi) (fun m => by rw [Below.heap_setCell _ _ _ _ (hL p m)]; exact h.hk p (List.mem_cons_of_mem _ m)),
   below_set h.hb hge⟩
theorem St.put9 {w W : World} {v : Value} {L : List (Nat × Obj)} {g : Nat} {x0 x1 x2 x3 x4 x5 x6 x7 x8 : Value} {t : TypeId} (h : St w W v ((g, .cells #[x0, x1, x2, x3, x4, x5, x6, x7, x8] t (0, 0)) :: L)) (ht : ∀ q ∈ 23 :: k23.E, q ≠ t) (hL : ∀ p ∈ L, p.1 ≠ g) (hge : w.heap.size ≤ g) (y0 y1 y2 y3 y4 y5 y6 y7 y8 : Value) :
    St w (((((((((W.setCell ⟨g, 0, none⟩ y0).setCell ⟨g, 1, none⟩ y1).setCell ⟨g, 2, none⟩ y2).setCell ⟨g, 3, none⟩ y3).setCell ⟨g, 4, none⟩ y4).setCell ⟨g, 5, none⟩ y5).setCell ⟨g, 6, none⟩ y6).setCell ⟨g, 7, none⟩ y7).setCell ⟨g, 8, none⟩ y8) v ((g, .cells #[y0, y1, y2, y3, y4, y5, y6, y7, y8] t (0, 0)) :: L) :=
  ((((((((h.set1 (cs' := #[y0, x1, x2, x3, x4, x5, x6, x7, x8]) ht hL hge 0 y0 rfl).set1 (cs' := #[y0, y1, x2, x3, x4, x5, x6, x7, x8]) ht hL hge 1 y1 rfl).set1 (cs' := #[y0, y1, y2, x3, x4, x5, x6, x7, x8]) ht hL hge 2 y2 rfl).set1 (cs' := #[y0, y1, y2, y3, x4, x5, x6, x7, x8]) ht hL hge 3 y3 rfl).set1 (cs' := #[y0, y1, y2, y3, y4, x5, x6, x7, x8]) ht hL hge 4 y4 rfl).set1 (cs' := #[y0, y1, y2, y3, y4, y5, x6, x7, x8]) ht hL hge 5 y5 rfl).set1 (cs' := #[y0, y1, y2, y3, y4, y5, y6, x7, x8]) ht hL hge 6 y6 rfl).set1 (cs' := #[y0, y1, y2, y3, y4, y5, y6, y7, x8]) ht hL hge 7 y7 rfl).set1 ht hL hge 8 y8 rfl
theorem St.put4 {w W : World} {v : Value} {L : List (Nat × Obj)} {g : Nat} {x0 x1 x2 x3 : Value} {t : TypeId} (h : St w W v ((g, .cells #[x0, x1, x2, x3] t (0, 0)) :: L)) (ht : ∀ q ∈ 23 :: k23.E, q ≠ t) (hL : ∀ p ∈ L, p.1 ≠ g) (hge : w.heap.size ≤ g) (y0 y1 y2 y3 : Value) :
    St w ((((W.setCell ⟨g, 0, none⟩ y0).setCell ⟨g, 1, none⟩ y1).setCell ⟨g, 2, none⟩ y2).setCell ⟨g, 3, none⟩ y3) v ((g, .cells #[y0, y1, y2, y3] t (0, 0)) :: L) :=
  (((h.set1 (cs' := #[y0, x1, x2, x3]) ht hL hge 0 y0 rfl).set1 (cs' := #[y0, y1, x2, x3]) ht hL hge 1 y1 rfl).set1 (cs' := #[y0, y1, y2, x3]) ht hL hge 2 y2 rfl).set1 ht hL hge 3 y3 rfl
theorem St.swap {w W : World} {v : Value} {L : List (Nat × Obj)} {a b : Nat × Obj} (h : St w W v (a :: b :: L)) : St w W v (b :: a :: L) :=
  ⟨h.ho, fun p hp => h.hk p (by simp only [List.mem_cons] at hp ⊢; rcases hp with e | e | e <;> simp [e]), h.hb⟩
theorem St.fresh {w W : World} {v : Value} {L : List (Nat × Obj)} (h : St w W v L) {g : Nat} (hg : g = W.heap.size) : w.heap.size ≤ g ∧ ∀ p ∈ L, p.1 ≠ g :=
  ⟨by rw [hg]; exact h.hb.size, fun p hp => by rw [hg]; exact Nat.ne_of_lt (blk_lt (h.hk p hp))⟩
theorem vcells0 {W : World} {g : Nat} {t : TypeId} {v0 v1 v2 v3 : Value} (h : W.heap[g]? = some (.cells #[v0, v1, v2, v3] t (0, 0))) : W.cell? ⟨g, 0, none⟩ = some v0 ∧ W.cell? ⟨g, 1, none⟩ = some v1 ∧ W.cell? ⟨g, 2, none⟩ = some v2 ∧ W.cell? ⟨g, 3, none⟩ = some v3 :=
  ⟨(blk_cell h 0).trans rfl, (blk_cell h 1).trans rfl, (blk_cell h 2).trans rfl, (blk_cell h 3).trans rfl⟩
theorem fcells {W : World} {g : Nat} {t : TypeId} {v0 v1 v2 v3 v4 v5 v6 v7 v8 : Value} (h : W.heap[g]? = some (.cells #[v0, v1, v2, v3, v4, v5, v6, v7, v8] t (0, 0))) :
    (W.cell? ⟨g, 0, none⟩ = some v0 ∧ W.cell? ⟨g, 1, none⟩ = some v1 ∧ W.cell? ⟨g, 2, none⟩ = some v2 ∧ W.cell? ⟨g, 3, none⟩ = some v3 ∧ W.cell? ⟨g, 4, none⟩ = some v4 ∧ W.cell? ⟨g, 5, none⟩ = some v5 ∧ W.cell? ⟨g, 6, none⟩ = some v6 ∧ W.cell? ⟨g, 7, none⟩ = some v7 ∧ W.cell? ⟨g, 8, none⟩ = some v8) ∧ W.frozen? ⟨g, 0, none⟩ = false ∧ W.frozen? ⟨g, 1, none⟩ = false ∧ W.frozen? ⟨g, 2, none⟩ = false ∧ W.frozen? ⟨g, 3, none⟩ = false ∧ W.frozen? ⟨g, 4, none⟩ = false ∧ W.frozen? ⟨g, 5, none⟩ = false ∧ W.frozen? ⟨g, 6, none⟩ = false ∧ W.frozen? ⟨g, 7, none⟩ = false ∧ W.frozen? ⟨g, 8, none⟩ = false :=
  ⟨pcells h, blk_frozen h 0, blk_frozen h 1, blk_frozen h 2, blk_frozen h 3, blk_frozen h 4, blk_frozen h 5, blk_frozen h 6, blk_frozen h 7, blk_frozen h 8⟩
def colonnadelaw18_known.f (k : Nat) : Option Bool := some true
theorem colonnadelaw18_known.mono (k : Nat) : LeO (colonnadelaw18_known.f k) (colonnadelaw18_known.f (k + 1)) := LeO.refl _
set_option maxHeartbeats 16000000 in
set_option maxRecDepth 100000 in
theorem colonnadelaw18_known.calls (k : Nat) (r : Bool) (w : World) (h : colonnadelaw18_known.f k = some r) : Calls Try.prog 15 #[] w fun e w' => e = .returned (.bool r) ∧ Below w.heap.size w w' := by
  obtain rfl : true = r := Option.some.inj h
  clear h
  have F5 := Aside0.mk (show colonnadelaw18_number.f 5 = some (1, 5, 0, ⟨#[]⟩) by rfl)
  have FX := Aside0.mk (show colonnadelaw18_word.f ⟨#[120]⟩ = some (2, 0, 0, ⟨#[120]⟩) by rfl)
  have FN := Aside0.mk (show atom_Not.f 1 ⟨#[97]⟩ 3 1 5 0 ⟨#[]⟩ [] [] = some (1, ⟨#[97]⟩, 6, 1, 5, 0, ⟨#[]⟩, [], [], true) by rfl)
  have FC1 := Aside0.mk (show atom_Check.f 5 [⟨⟨#[97]⟩, 1, false⟩, ⟨⟨#[116]⟩, 2, true⟩] 1 ⟨#[97]⟩ 3 1 5 0 ⟨#[]⟩ [] [] = some 0 by kernel_rfl)
  have FC2 := Aside0.mk (show atom_Check.f 5 [⟨⟨#[97]⟩, 1, false⟩, ⟨⟨#[116]⟩, 2, true⟩] 5 ⟨#[97]⟩ 0 2 0 0 ⟨#[120]⟩ [] [] = some 180 by kernel_rfl)
  have F4 := Aside0.mk (show colonnadelaw18_number.f 4 = some (1, 4, 0, ⟨#[]⟩) by rfl)
  have FW := Aside0.mk (show colonnadelaw18_word.f ⟨#[]⟩ = some (2, 0, 0, ⟨#[]⟩) by rfl)
  have FT1 := Aside0.mk (show atom_Test.f 5 1 ⟨#[97]⟩ 3 1 5 0 ⟨#[]⟩ [] [] 1 4 0 ⟨#[]⟩ = some 1 by kernel_rfl)
  have FT2 := Aside0.mk (show atom_Test.f 5 1 ⟨#[97]⟩ 3 1 5 0 ⟨#[]⟩ [] [] 1 5 0 ⟨#[]⟩ = some 0 by kernel_rfl)
  have FT3 := Aside0.mk (show atom_Test.f 5 1 ⟨#[97]⟩ 3 1 5 0 ⟨#[]⟩ [] [] 0 0 0 ⟨#[]⟩ = some 2 by kernel_rfl)
  have FT4 := Aside0.mk (show atom_Test.f 5 4 ⟨#[116]⟩ 0 0 0 0 ⟨#[]⟩ [] [] 0 0 0 ⟨#[]⟩ = some 1 by kernel_rfl)
  have FT5 := Aside0.mk (show atom_Test.f 5 4 ⟨#[116]⟩ 0 0 0 0 ⟨#[]⟩ [] [] 2 0 0 ⟨#[]⟩ = some 0 by kernel_rfl)
  have FB := Aside0.mk (show atom_Bounds.f 5 1 ⟨#[97]⟩ 3 1 5 0 ⟨#[]⟩ [] [] = some (0, 0, 0, ⟨#[]⟩, 1, 5, 0, ⟨#[]⟩, true) by kernel_rfl)
  go_enter Try.func15, Try.ntmps15
  go_upto_region 2 with (first | ((with_reducible refine gate_dst (N := 13) rfl ?_); refine Kd.R_lit k23 _ 23 ?hg (N := 13) ?hd (xs := ([⟨⟨#[97]⟩, 1, false⟩, ⟨⟨#[116]⟩, 2, true⟩] : List S23)) (inner := [.string ⟨#[97]⟩, .int .i64 1, .bool false, .string ⟨#[116]⟩, .int .i64 2, .bool true]) (ok := fun _ => True) (okp := fun _ => True) ?hr ?hp (fun _ hk => hk) trivial (Below.refl _ _) (Nat.le_refl _) (by simp) ?_; (case hd => rfl); (case hg => rfl); (case hr => first | (go_simp; done) | (go_simp; rfl)); (case hp => exact (Reps.c3 (k23_mkM _ _ _ (⟨⟨#[97]⟩, 1, false⟩ : S23)) (Reps.c3 (k23_mkM _ _ _ (⟨⟨#[116]⟩, 2, true⟩ : S23)) (Reps.none _ _)))); intro v1 w1 ho hb hg_ hnew_; clear hg_ hnew_; have ST : Aside0 (St w w1 v1 []) := ⟨⟨ho, fun p hp => by simp at hp, hb⟩⟩; clear ho hb))
  go_upto_region 3 with (first | ((with_reducible refine gate_callee (f := 12) rfl ?_); refine goesL_ (some 14) rfl rfl Try.func12 (by kernel_rfl) rfl #[.int .i64 5] rfl (by (try simp only [List.map_toArray, List.map_cons, List.map_nil]); first | done | rfl) ?_; refine (colonnadelaw18_number.calls 5 1 5 0 ⟨#[]⟩ _ F5.out).mono ?_; rintro e w2 ⟨rfl, hb⟩; refine ⟨_, rfl, ?_⟩; have ST1 := Aside0.mk (St.step (by repeat (first | (with_reducible exact ST.out) | apply St.drew | apply St.drewN)) hb); clear ST; have ST := ST1; clear ST1 hb) | ((with_reducible refine gate_dst (N := 2) rfl ?_); refine box_event ?hg (N := 2) ?hd (cs := #[.int .i64 0, .string ⟨#[]⟩, .int .i64 0, .int .i64 0, .int .i64 0, .float .f64 0, .string ⟨#[]⟩, .slice none 0 0, .slice none 0 0]) (t := 32) ?hr ?_; (case hd => rfl); (case hg => rfl); (case hr => first | (go_simp; done) | (go_simp; rfl)); intro g2 hg w3 hbox hb; have ST1 := Aside0.mk (St.box (by repeat (first | (with_reducible exact ST.out) | apply St.drew | apply St.drewN)) hb hbox); have GEg2 := Aside0.mk (St.fresh (by repeat (first | (with_reducible exact ST.out) | apply St.drew | apply St.drewN)) hg); clear ST; have ST := ST1; clear ST1 hb hg hbox; obtain ⟨⟨z0, z1, z2, z3, z4, z5, z6, z7, z8⟩, f0, f1, f2, f3, f4, f5, f6, f7, f8⟩ := fcells (ST.out.hk _ (List.mem_cons_self ..))))
  have ST1 := Aside0.mk (ST.out.put9 (by decide) GEg2.out.2 GEg2.out.1 (.int .i64 1) (.string ⟨#[97]⟩) (.int .i64 3) (.int .i64 1) (.int .i64 5) (.float .f64 0) (.string ⟨#[]⟩) (.slice none 0 0) (.slice none 0 0))
  clear ST z0 z1 z2 z3 z4 z5 z6 z7 z8 f0 f1 f2 f3 f4 f5 f6 f7 f8
  have ST := ST1
  clear ST1
  generalize (((((((((w3.setCell ⟨g2, 0, none⟩ (.int .i64 1)).setCell ⟨g2, 1, none⟩ (.string ⟨#[97]⟩)).setCell ⟨g2, 2, none⟩ (.int .i64 3)).setCell ⟨g2, 3, none⟩ (.int .i64 1)).setCell ⟨g2, 4, none⟩ (.int .i64 5)).setCell ⟨g2, 5, none⟩ (.float .f64 0)).setCell ⟨g2, 6, none⟩ (.string ⟨#[]⟩)).setCell ⟨g2, 7, none⟩ (.slice none 0 0)).setCell ⟨g2, 8, none⟩ (.slice none 0 0)) = w4 at ST ⊢
  go_upto_region 4 with (first | ((with_reducible refine gate_callee (f := 14) rfl ?_); refine goesL_ (some 16) rfl rfl Try.func14 (by kernel_rfl) rfl #[.string ⟨#[120]⟩] rfl (by (try simp only [List.map_toArray, List.map_cons, List.map_nil]); first | done | rfl) ?_; refine (colonnadelaw18_word.calls ⟨#[120]⟩ 2 0 0 ⟨#[120]⟩ _ FX.out).mono ?_; rintro e w5 ⟨rfl, hb⟩; refine ⟨_, rfl, ?_⟩; have ST1 := Aside0.mk (St.step (by repeat (first | (with_reducible exact ST.out) | apply St.drew | apply St.drewN)) hb); clear ST; have ST := ST1; clear ST1 hb) | ((with_reducible refine gate_dst (N := 3) rfl ?_); refine box_event ?hg (N := 3) ?hd (cs := #[.int .i64 0, .string ⟨#[]⟩, .int .i64 0, .int .i64 0, .int .i64 0, .float .f64 0, .string ⟨#[]⟩, .slice none 0 0, .slice none 0 0]) (t := 32) ?hr ?_; (case hd => rfl); (case hg => rfl); (case hr => first | (go_simp; done) | (go_simp; rfl)); intro g3 hg w6 hbox hb; have ST1 := Aside0.mk (St.box (by repeat (first | (with_reducible exact ST.out) | apply St.drew | apply St.drewN)) hb hbox); have GEg3 := Aside0.mk (St.fresh (by repeat (first | (with_reducible exact ST.out) | apply St.drew | apply St.drewN)) hg); clear ST; have ST := ST1; clear ST1 hb hg hbox; obtain ⟨⟨z0, z1, z2, z3, z4, z5, z6, z7, z8⟩, f0, f1, f2, f3, f4, f5, f6, f7, f8⟩ := fcells (ST.out.hk _ (List.mem_cons_self ..))))
  have ST1 := Aside0.mk (ST.out.put9 (by decide) GEg3.out.2 GEg3.out.1 (.int .i64 5) (.string ⟨#[97]⟩) (.int .i64 0) (.int .i64 2) (.int .i64 0) (.float .f64 0) (.string ⟨#[120]⟩) (.slice none 0 0) (.slice none 0 0))
  clear ST z0 z1 z2 z3 z4 z5 z6 z7 z8 f0 f1 f2 f3 f4 f5 f6 f7 f8
  have ST := ST1
  clear ST1
  generalize (((((((((w6.setCell ⟨g3, 0, none⟩ (.int .i64 5)).setCell ⟨g3, 1, none⟩ (.string ⟨#[97]⟩)).setCell ⟨g3, 2, none⟩ (.int .i64 0)).setCell ⟨g3, 3, none⟩ (.int .i64 2)).setCell ⟨g3, 4, none⟩ (.int .i64 0)).setCell ⟨g3, 5, none⟩ (.float .f64 0)).setCell ⟨g3, 6, none⟩ (.string ⟨#[120]⟩)).setCell ⟨g3, 7, none⟩ (.slice none 0 0)).setCell ⟨g3, 8, none⟩ (.slice none 0 0)) = w7 at ST ⊢
  go_upto_region 5 with ((with_reducible refine gate_dst (N := 4) rfl ?_); refine box_event ?hg (N := 4) ?hd (cs := #[.int .i64 0, .string ⟨#[]⟩, .int .i64 0, .int .i64 0, .int .i64 0, .float .f64 0, .string ⟨#[]⟩, .slice none 0 0, .slice none 0 0]) (t := 32) ?hr ?_; (case hd => rfl); (case hg => rfl); (case hr => first | (go_simp; done) | (go_simp; rfl)); intro g4 hg w8 hbox hb; have ST1 := Aside0.mk (St.box (by repeat (first | (with_reducible exact ST.out) | apply St.drew | apply St.drewN)) hb hbox); have GEg4 := Aside0.mk (St.fresh (by repeat (first | (with_reducible exact ST.out) | apply St.drew | apply St.drewN)) hg); clear ST; have ST := ST1; clear ST1 hb hg hbox; obtain ⟨⟨z0, z1, z2, z3, z4, z5, z6, z7, z8⟩, f0, f1, f2, f3, f4, f5, f6, f7, f8⟩ := fcells (ST.out.hk _ (List.mem_cons_self ..)))
  have ST1 := Aside0.mk (ST.out.put9 (by decide) GEg4.out.2 GEg4.out.1 (.int .i64 4) (.string ⟨#[116]⟩) (.int .i64 0) (.int .i64 0) (.int .i64 0) (.float .f64 0) (.string ⟨#[]⟩) (.slice none 0 0) (.slice none 0 0))
  clear ST z0 z1 z2 z3 z4 z5 z6 z7 z8 f0 f1 f2 f3 f4 f5 f6 f7 f8
  have ST := ST1
  clear ST1
  generalize (((((((((w8.setCell ⟨g4, 0, none⟩ (.int .i64 4)).setCell ⟨g4, 1, none⟩ (.string ⟨#[116]⟩)).setCell ⟨g4, 2, none⟩ (.int .i64 0)).setCell ⟨g4, 3, none⟩ (.int .i64 0)).setCell ⟨g4, 4, none⟩ (.int .i64 0)).setCell ⟨g4, 5, none⟩ (.float .f64 0)).setCell ⟨g4, 6, none⟩ (.string ⟨#[]⟩)).setCell ⟨g4, 7, none⟩ (.slice none 0 0)).setCell ⟨g4, 8, none⟩ (.slice none 0 0)) = w9 at ST ⊢
  obtain ⟨y0, y1, y2, y3, y4, y5, y6, y7, y8⟩ := pcells (ST.out.hk _ (List.mem_cons_of_mem _ (List.mem_cons_of_mem _ (List.mem_cons_self ..))))
  go_upto_region 6 with (first | ((with_reducible refine gate_callee (f := 22) rfl ?_); refine goesL_ (some 21) rfl rfl Try.func22 (by kernel_rfl) rfl #[.agg #[.int .i64 1, .string ⟨#[97]⟩, .int .i64 3, .int .i64 1, .int .i64 5, .float .f64 0, .string ⟨#[]⟩, .slice none 0 0, .slice none 0 0]] rfl (by (try simp only [List.map_toArray, List.map_cons, List.map_nil]); first | done | rfl) ?_; refine (atom_Not.calls 1 ⟨#[97]⟩ 3 1 5 0 ⟨#[]⟩ none 0 [] none 0 [] 1 ⟨#[97]⟩ 6 1 5 0 ⟨#[]⟩ [] [] true _ (Kd.C_nil _ _) (Nat.le_refl _) (Kd.C_nil _ _) (Nat.le_refl _) FN.out).mono ?_; rintro e w10 ⟨v7, v8, rfl, hr7, hr8, hb⟩; obtain ⟨A7, c7, e7⟩ := Kd.R_slice hr7; obtain ⟨A8, c8, e8⟩ := Kd.R_slice hr8; subst e7; subst e8; clear hr7 hr8; refine ⟨_, rfl, ?_⟩; have ST1 := Aside0.mk (St.step (by repeat (first | (with_reducible exact ST.out) | apply St.drew | apply St.drewN)) hb); clear ST; have ST := ST1; clear ST1 hb) | ((with_reducible refine gate_dst (N := 5) rfl ?_); refine box_event ?hg (N := 5) ?hd (cs := #[.int .i64 0, .string ⟨#[]⟩, .int .i64 0, .int .i64 0, .int .i64 0, .float .f64 0, .string ⟨#[]⟩, .slice none 0 0, .slice none 0 0]) (t := 32) ?hr ?_; (case hd => rfl); (case hg => rfl); (case hr => first | (go_simp; done) | (go_simp; rfl)); intro g5 hg w11 hbox hb; have ST1 := Aside0.mk (St.box (by repeat (first | (with_reducible exact ST.out) | apply St.drew | apply St.drewN)) hb hbox); have GEg5 := Aside0.mk (St.fresh (by repeat (first | (with_reducible exact ST.out) | apply St.drew | apply St.drewN)) hg); clear ST; have ST := ST1; clear ST1 hb hg hbox; obtain ⟨⟨z0, z1, z2, z3, z4, z5, z6, z7, z8⟩, f0, f1, f2, f3, f4, f5, f6, f7, f8⟩ := fcells (ST.out.hk _ (List.mem_cons_self ..))))
  have ST1 := Aside0.mk (ST.out.put9 (by decide) GEg5.out.2 GEg5.out.1 (.int .i64 1) (.string ⟨#[97]⟩) (.int .i64 6) (.int .i64 1) (.int .i64 5) (.float .f64 0) (.string ⟨#[]⟩) (.slice A7 0 c7) (.slice A8 0 c8))
  clear ST z0 z1 z2 z3 z4 z5 z6 z7 z8 f0 f1 f2 f3 f4 f5 f6 f7 f8
  have ST := ST1
  clear ST1
  generalize (((((((((w11.setCell ⟨g5, 0, none⟩ (.int .i64 1)).setCell ⟨g5, 1, none⟩ (.string ⟨#[97]⟩)).setCell ⟨g5, 2, none⟩ (.int .i64 6)).setCell ⟨g5, 3, none⟩ (.int .i64 1)).setCell ⟨g5, 4, none⟩ (.int .i64 5)).setCell ⟨g5, 5, none⟩ (.float .f64 0)).setCell ⟨g5, 6, none⟩ (.string ⟨#[]⟩)).setCell ⟨g5, 7, none⟩ (.slice A7 0 c7)).setCell ⟨g5, 8, none⟩ (.slice A8 0 c8)) = w12 at ST ⊢
  clear y0 y1 y2 y3 y4 y5 y6 y7 y8
  obtain ⟨y0, y1, y2, y3, y4, y5, y6, y7, y8⟩ := pcells (ST.out.hk _ (List.mem_cons_of_mem _ (List.mem_cons_of_mem _ (List.mem_cons_of_mem _ (List.mem_cons_self ..)))))
  go_upto_region 7 with (first | ((with_reducible refine gate_callee (f := 25) rfl ?_); refine goesL_ (some 26) rfl rfl Try.func25 (by kernel_rfl) rfl #[.agg #[.int .i64 1, .string ⟨#[97]⟩, .int .i64 3, .int .i64 1, .int .i64 5, .float .f64 0, .string ⟨#[]⟩, .slice none 0 0, .slice none 0 0]] rfl (by (try simp only [List.map_toArray, List.map_cons, List.map_nil]); first | done | rfl) ?_; refine (atom_Bounds.calls 5 1 ⟨#[97]⟩ 3 1 5 0 ⟨#[]⟩ none 0 [] none 0 [] 0 0 0 ⟨#[]⟩ 1 5 0 ⟨#[]⟩ true _ (Kd.C_nil _ _) (Nat.le_refl _) (Kd.C_nil _ _) (Nat.le_refl _) FB.out).mono ?_; rintro e w13 ⟨rfl, hb⟩; refine ⟨_, rfl, ?_⟩; have ST1 := Aside0.mk (St.step (by repeat (first | (with_reducible exact ST.out) | apply St.drew | apply St.drewN)) hb); clear ST; have ST := ST1; clear ST1 hb) | ((with_reducible refine gate_dst (N := 7) rfl ?_); refine box_event ?hg (N := 7) ?hd (cs := #[.int .i64 0, .int .i64 0, .float .f64 0, .string ⟨#[]⟩]) (t := 28) ?hr ?_; (case hd => rfl); (case hg => rfl); (case hr => first | (go_simp; done) | (go_simp; rfl)); intro g7 hg w14 hbox hb; have ST1 := Aside0.mk (St.box (by repeat (first | (with_reducible exact ST.out) | apply St.drew | apply St.drewN)) hb hbox); have GEg7 := Aside0.mk (St.fresh (by repeat (first | (with_reducible exact ST.out) | apply St.drew | apply St.drewN)) hg); clear ST; have ST := ST1; clear ST1 hb hg hbox) | ((with_reducible refine gate_dst (N := 8) rfl ?_); refine box_event ?hg (N := 8) ?hd (cs := #[.int .i64 0, .int .i64 0, .float .f64 0, .string ⟨#[]⟩]) (t := 28) ?hr ?_; (case hd => rfl); (case hg => rfl); (case hr => first | (go_simp; done) | (go_simp; rfl)); intro g8 hg w15 hbox hb; have ST1 := Aside0.mk (St.box (by repeat (first | (with_reducible exact ST.out) | apply St.drew | apply St.drewN)) hb hbox); have GEg8 := Aside0.mk (St.fresh (by repeat (first | (with_reducible exact ST.out) | apply St.drew | apply St.drewN)) hg); clear ST; have ST := ST1; clear ST1 hb hg hbox; obtain ⟨z0, z1, z2, z3, f0, f1, f2, f3⟩ := vcells (ST.out.hk _ (List.mem_cons_of_mem _ (List.mem_cons_self ..))); obtain ⟨u0, u1, u2, u3, e0, e1, e2, e3⟩ := vcells (ST.out.hk _ (List.mem_cons_self ..)); have nb2 : g7 ≠ g8 := GEg8.out.2 _ (List.mem_cons_self ..); have nb1 := nb2.symm))
  have ST1 := Aside0.mk ((ST.out.swap.put4 (by decide) (fun p hp => (List.mem_cons.1 hp).elim (fun e => by rw [e]; exact (GEg8.out.2 _ (List.mem_cons_self ..)).symm) (GEg7.out.2 p)) GEg7.out.1 (.int .i64 0) (.int .i64 0) (.float .f64 0) (.string ⟨#[]⟩)).swap.put4 (by decide) (fun p hp => (List.mem_cons.1 hp).elim (fun e => by rw [e]; exact GEg8.out.2 _ (List.mem_cons_self ..)) (fun m => GEg8.out.2 p (List.mem_cons_of_mem _ m))) GEg8.out.1 (.int .i64 1) (.int .i64 5) (.float .f64 0) (.string ⟨#[]⟩))
  clear nb1 nb2 ST z0 z1 z2 z3 f0 f1 f2 f3 u0 u1 u2 u3 e0 e1 e2 e3 y0 y1 y2 y3 y4 y5 y6 y7 y8 GEg2 GEg3 GEg4 GEg5 GEg7 GEg8
  have ST := ST1
  clear ST1
  generalize ((((((((w15.setCell ⟨g7, 0, none⟩ (.int .i64 0)).setCell ⟨g7, 1, none⟩ (.int .i64 0)).setCell ⟨g7, 2, none⟩ (.float .f64 0)).setCell ⟨g7, 3, none⟩ (.string ⟨#[]⟩)).setCell ⟨g8, 0, none⟩ (.int .i64 1)).setCell ⟨g8, 1, none⟩ (.int .i64 5)).setCell ⟨g8, 2, none⟩ (.float .f64 0)).setCell ⟨g8, 3, none⟩ (.string ⟨#[]⟩)) = w16 at ST ⊢
  obtain ⟨Ac, cc, ec⟩ := Kd.R_slice ST.out.ho
  replace ec : v1 = .slice Ac 2 cc := ec
  subst ec
  refine start_ (n := 29) (S := fun w' => (w'.cell? ⟨g2, 0, none⟩ = some (.int .i64 1) ∧ w'.cell? ⟨g2, 1, none⟩ = some (.string ⟨#[97]⟩) ∧ w'.cell? ⟨g2, 2, none⟩ = some (.int .i64 3) ∧ w'.cell? ⟨g2, 3, none⟩ = some (.int .i64 1) ∧ w'.cell? ⟨g2, 4, none⟩ = some (.int .i64 5) ∧ w'.cell? ⟨g2, 5, none⟩ = some (.float .f64 0) ∧ w'.cell? ⟨g2, 6, none⟩ = some (.string ⟨#[]⟩) ∧ w'.cell? ⟨g2, 7, none⟩ = some (.slice none 0 0) ∧ w'.cell? ⟨g2, 8, none⟩ = some (.slice none 0 0)) ∧ w'.cell? ⟨g3, 0, none⟩ = some (.int .i64 5) ∧ w'.cell? ⟨g3, 1, none⟩ = some (.string ⟨#[97]⟩) ∧ w'.cell? ⟨g3, 2, none⟩ = some (.int .i64 0) ∧ w'.cell? ⟨g3, 3, none⟩ = some (.int .i64 2) ∧ w'.cell? ⟨g3, 4, none⟩ = some (.int .i64 0) ∧ w'.cell? ⟨g3, 5, none⟩ = some (.float .f64 0) ∧ w'.cell? ⟨g3, 6, none⟩ = some (.string ⟨#[120]⟩) ∧ w'.cell? ⟨g3, 7, none⟩ = some (.slice none 0 0) ∧ w'.cell? ⟨g3, 8, none⟩ = some (.slice none 0 0)) (ds := []) #[false, false, false, false, false, false, false, false, false, false, false, false, false, false, false, false, false, false, false, false, false, false, false, false, false, false, false, false, false] (by kernel_rfl) rfl rfl ⟨pcells (ST.out.hk _ (List.mem_cons_of_mem _ (List.mem_cons_of_mem _ (List.mem_cons_of_mem _ (List.mem_cons_of_mem _ (List.mem_cons_of_mem _ (List.mem_cons_self ..))))))), pcells (ST.out.hk _ (List.mem_cons_of_mem _ (List.mem_cons_of_mem _ (List.mem_cons_of_mem _ (List.mem_cons_of_mem _ (List.mem_cons_self ..))))))⟩ (fun hHeld => ?_)
  have ST1 := Aside0.mk (St.drew ST.out)
  clear ST
  have ST := ST1
  clear ST1
  generalize w16.drew = w17 at ST hHeld ⊢
  refine pureP #[true, false, false, false, false, false, false, false, false, false, false, false, false, false, false, false, false, false, false, false, false, false, false, false, false, false, false, false, false] (by kernel_rfl) (i := 0) (N := some 30) ?_
  refine take_ (i := 1) (N := some 31) (v := ?_) (a' := ?_) #[true, true, false, false, false, false, false, false, false, false, false, false, false, false, false, false, false, false, false, false, false, false, false, false, false, false, false, false, false] rfl rfl (by kernel_rfl) (fun _ _ _ h => h) (Or.inl ⟨by rfl, ?_⟩) hHeld ?_ ?_
  rotate_left
  · rintro w' ⟨⟨s0, s1, s2, s3, s4, s5, s6, s7, s8⟩, r0, r1, r2, r3, r4, r5, r6, r7, r8⟩
    go_simp
    with_reducible rfl
  rotate_left
  · simp only [Act.put, List.setIfInBounds_toArray, List.set_cons_zero, List.set_cons_succ, i64_w, i32_w]
    rfl
  refine one_ (i := 2) (N := some 32) #[true, true, true, false, false, false, false, false, false, false, false, false, false, false, false, false, false, false, false, false, false, false, false, false, false, false, false, false, false] rfl rfl (by kernel_rfl) (by decide) (fun K hK => ?_)
  refine goes_ Try.func13 (by kernel_rfl) rfl #[.slice Ac 2 cc, .agg #[.int .i64 1, .string ⟨#[97]⟩, .int .i64 3, .int .i64 1, .int .i64 5, .float .f64 0, .string ⟨#[]⟩, .slice none 0 0, .slice none 0 0]] (by rfl) rfl rfl (by (try simp only [List.map_toArray, List.map_cons, List.map_nil]); first | done | rfl) ?_
  refine (atom_Check.calls 5 Ac cc [⟨⟨#[97]⟩, 1, false⟩, ⟨⟨#[116]⟩, 2, true⟩] 1 ⟨#[97]⟩ 3 1 5 0 ⟨#[]⟩ none 0 [] none 0 [] 0 _ (Kd.R_reads' ST.out.ho).2.2 (Kd.R_reads' ST.out.ho).2.1 (Kd.C_nil _ _) (Nat.le_refl _) (Kd.C_nil _ _) (Nat.le_refl _) FC1.out).mono ?_
  rintro e w18 ⟨rfl, hb⟩
  refine ⟨_, rfl, ?_⟩
  have ST1 := Aside0.mk (St.step ST.out hb)
  clear ST hb
  have ST := ST1
  clear ST1
  refine hK.out _ _ ⟨pcells (ST.out.hk _ (List.mem_cons_of_mem _ (List.mem_cons_of_mem _ (List.mem_cons_of_mem _ (List.mem_cons_of_mem _ (List.mem_cons_of_mem _ (List.mem_cons_self ..))))))), pcells (ST.out.hk _ (List.mem_cons_of_mem _ (List.mem_cons_of_mem _ (List.mem_cons_of_mem _ (List.mem_cons_of_mem _ (List.mem_cons_self ..))))))⟩ (fun hHeld => ?_)
  clear hK K
  refine norm_ (a' := ?_) ?_ ?_
  rotate_left
  · show Act.put _ (some 32) _ = _
    simp only [Act.put, List.setIfInBounds_toArray, List.set_cons_zero, List.set_cons_succ, i64_w, i32_w]
    rfl
  refine pureP #[true, true, true, true, false, false, false, false, false, false, false, false, false, false, false, false, false, false, false, false, false, false, false, false, false, false, false, false, false] (by kernel_rfl) (i := 3) (N := some 33) ?_
  refine pureP #[true, true, true, true, true, false, false, false, false, false, false, false, false, false, false, false, false, false, false, false, false, false, false, false, false, false, false, false, false] (by kernel_rfl) (i := 4) (N := some 34) ?_
  refine pureP #[true, true, true, true, true, true, false, false, false, false, false, false, false, false, false, false, false, false, false, false, false, false, false, false, false, false, false, false, false] (by kernel_rfl) (i := 5) (N := some 35) ?_
  refine take_ (i := 6) (N := some 36) (v := ?_) (a' := ?_) #[true, true, true, true, true, true, true, false, false, false, false, false, false, false, false, false, false, false, false, false, false, false, false, false, false, false, false, false, false] rfl rfl (by kernel_rfl) (fun _ _ _ h => h) (Or.inl ⟨by rfl, ?_⟩) hHeld ?_ ?_
  rotate_left
  · rintro w' ⟨⟨s0, s1, s2, s3, s4, s5, s6, s7, s8⟩, r0, r1, r2, r3, r4, r5, r6, r7, r8⟩
    go_simp
    with_reducible rfl
  rotate_left
  · simp only [Act.put, List.setIfInBounds_toArray, List.set_cons_zero, List.set_cons_succ, i64_w, i32_w]
    rfl
  refine one_ (i := 7) (N := some 37) #[true, true, true, true, true, true, true, true, false, false, false, false, false, false, false, false, false, false, false, false, false, false, false, false, false, false, false, false, false] rfl rfl (by kernel_rfl) (by decide) (fun K hK => ?_)
  refine goes_ Try.func13 (by kernel_rfl) rfl #[.slice Ac 2 cc, .agg #[.int .i64 5, .string ⟨#[97]⟩, .int .i64 0, .int .i64 2, .int .i64 0, .float .f64 0, .string ⟨#[120]⟩, .slice none 0 0, .slice none 0 0]] (by rfl) rfl rfl (by (try simp only [List.map_toArray, List.map_cons, List.map_nil]); first | done | rfl) ?_
  refine (atom_Check.calls 5 Ac cc [⟨⟨#[97]⟩, 1, false⟩, ⟨⟨#[116]⟩, 2, true⟩] 5 ⟨#[97]⟩ 0 2 0 0 ⟨#[120]⟩ none 0 [] none 0 [] 180 _ (Kd.R_reads' ST.out.ho).2.2 (Kd.R_reads' ST.out.ho).2.1 (Kd.C_nil _ _) (Nat.le_refl _) (Kd.C_nil _ _) (Nat.le_refl _) FC2.out).mono ?_
  rintro e w19 ⟨rfl, hb⟩
  refine ⟨_, rfl, ?_⟩
  have ST1 := Aside0.mk (St.step ST.out hb)
  clear ST hb
  have ST := ST1
  clear ST1
  refine hK.out _ _ ⟨pcells (ST.out.hk _ (List.mem_cons_of_mem _ (List.mem_cons_of_mem _ (List.mem_cons_of_mem _ (List.mem_cons_of_mem _ (List.mem_cons_of_mem _ (List.mem_cons_self ..))))))), pcells (ST.out.hk _ (List.mem_cons_of_mem _ (List.mem_cons_of_mem _ (List.mem_cons_of_mem _ (List.mem_cons_of_mem _ (List.mem_cons_self ..))))))⟩ (fun hHeld => ?_)
  clear hK K
  refine norm_ (a' := ?_) ?_ ?_
  rotate_left
  · show Act.put _ (some 37) _ = _
    simp only [Act.put, List.setIfInBounds_toArray, List.set_cons_zero, List.set_cons_succ, i64_w, i32_w]
    rfl
  refine pureP #[true, true, true, true, true, true, true, true, true, false, false, false, false, false, false, false, false, false, false, false, false, false, false, false, false, false, false, false, false] (by kernel_rfl) (i := 8) (N := some 38) ?_
  refine pureP #[true, true, true, true, true, true, true, true, true, true, false, false, false, false, false, false, false, false, false, false, false, false, false, false, false, false, false, false, false] (by kernel_rfl) (i := 9) (N := some 39) ?_
  refine pureP #[true, true, true, true, true, true, true, true, true, true, true, false, false, false, false, false, false, false, false, false, false, false, false, false, false, false, false, false, false] (by kernel_rfl) (i := 10) (N := some 40) ?_
  refine take_ (i := 11) (N := some 41) (v := ?_) (a' := ?_) #[true, true, true, true, true, true, true, true, true, true, true, true, false, false, false, false, false, false, false, false, false, false, false, false, false, false, false, false, false] rfl rfl (by kernel_rfl) (fun _ _ _ h => h) (Or.inl ⟨by rfl, ?_⟩) hHeld ?_ ?_
  rotate_left
  · rintro w' ⟨⟨s0, s1, s2, s3, s4, s5, s6, s7, s8⟩, r0, r1, r2, r3, r4, r5, r6, r7, r8⟩
    go_simp
    with_reducible rfl
  rotate_left
  · simp only [Act.put, List.setIfInBounds_toArray, List.set_cons_zero, List.set_cons_succ, i64_w, i32_w]
    rfl
  refine one_ (i := 12) (N := some 42) #[true, true, true, true, true, true, true, true, true, true, true, true, true, false, false, false, false, false, false, false, false, false, false, false, false, false, false, false, false] rfl rfl (by kernel_rfl) (by decide) (fun K hK => ?_)
  refine goes_ Try.func12 (by kernel_rfl) rfl #[.int .i64 4] (by rfl) rfl rfl (by (try simp only [List.map_toArray, List.map_cons, List.map_nil]); first | done | rfl) ?_
  refine (colonnadelaw18_number.calls 4 1 4 0 ⟨#[]⟩ _ F4.out).mono ?_
  rintro e w20 ⟨rfl, hb⟩
  refine ⟨_, rfl, ?_⟩
  have ST1 := Aside0.mk (St.step ST.out hb)
  clear ST hb
  have ST := ST1
  clear ST1
  refine hK.out _ _ ⟨pcells (ST.out.hk _ (List.mem_cons_of_mem _ (List.mem_cons_of_mem _ (List.mem_cons_of_mem _ (List.mem_cons_of_mem _ (List.mem_cons_of_mem _ (List.mem_cons_self ..))))))), pcells (ST.out.hk _ (List.mem_cons_of_mem _ (List.mem_cons_of_mem _ (List.mem_cons_of_mem _ (List.mem_cons_of_mem _ (List.mem_cons_self ..))))))⟩ (fun hHeld => ?_)
  clear hK K
  refine norm_ (a' := ?_) ?_ ?_
  rotate_left
  · show Act.put _ (some 42) _ = _
    simp only [Act.put, List.setIfInBounds_toArray, List.set_cons_zero, List.set_cons_succ, i64_w, i32_w]
    rfl
  refine one_ (i := 13) (N := some 43) #[true, true, true, true, true, true, true, true, true, true, true, true, true, true, false, false, false, false, false, false, false, false, false, false, false, false, false, false, false] rfl rfl (by kernel_rfl) (by decide) (fun K hK => ?_)
  refine goes_ Try.func20 (by kernel_rfl) rfl #[.agg #[.int .i64 1, .string ⟨#[97]⟩, .int .i64 3, .int .i64 1, .int .i64 5, .float .f64 0, .string ⟨#[]⟩, .slice none 0 0, .slice none 0 0], .agg #[.int .i64 1, .int .i64 4, .float .f64 0, .string ⟨#[]⟩]] (by rfl) rfl rfl (by (try simp only [List.map_toArray, List.map_cons, List.map_nil]); first | done | rfl) ?_
  refine (atom_Test.calls 5 1 ⟨#[97]⟩ 3 1 5 0 ⟨#[]⟩ none 0 [] none 0 [] 1 4 0 ⟨#[]⟩ 1 _ (Kd.C_nil _ _) (Nat.le_refl _) (Kd.C_nil _ _) (Nat.le_refl _) FT1.out).mono ?_
  rintro e w21 ⟨rfl, hb⟩
  refine ⟨_, rfl, ?_⟩
  have ST1 := Aside0.mk (St.step ST.out hb)
  clear ST hb
  have ST := ST1
  clear ST1
  refine hK.out _ _ ⟨pcells (ST.out.hk _ (List.mem_cons_of_mem _ (List.mem_cons_of_mem _ (List.mem_cons_of_mem _ (List.mem_cons_of_mem _ (List.mem_cons_of_mem _ (List.mem_cons_self ..))))))), pcells (ST.out.hk _ (List.mem_cons_of_mem _ (List.mem_cons_of_mem _ (List.mem_cons_of_mem _ (List.mem_cons_of_mem _ (List.mem_cons_self ..))))))⟩ (fun hHeld => ?_)
  clear hK K
  refine norm_ (a' := ?_) ?_ ?_
  rotate_left
  · show Act.put _ (some 43) _ = _
    simp only [Act.put, List.setIfInBounds_toArray, List.set_cons_zero, List.set_cons_succ, i64_w, i32_w]
    rfl
  refine pureP #[true, true, true, true, true, true, true, true, true, true, true, true, true, true, true, false, false, false, false, false, false, false, false, false, false, false, false, false, false] (by kernel_rfl) (i := 14) (N := some 44) ?_
  refine pureP #[true, true, true, true, true, true, true, true, true, true, true, true, true, true, true, true, false, false, false, false, false, false, false, false, false, false, false, false, false] (by kernel_rfl) (i := 15) (N := some 45) ?_
  refine pureP #[true, true, true, true, true, true, true, true, true, true, true, true, true, true, true, true, true, false, false, false, false, false, false, false, false, false, false, false, false] (by kernel_rfl) (i := 16) (N := some 46) ?_
  refine take_ (i := 17) (N := some 47) (v := ?_) (a' := ?_) #[true, true, true, true, true, true, true, true, true, true, true, true, true, true, true, true, true, true, false, false, false, false, false, false, false, false, false, false, false] rfl rfl (by kernel_rfl) (fun _ _ _ h => h) (Or.inl ⟨by rfl, ?_⟩) hHeld ?_ ?_
  rotate_left
  · rintro w' ⟨⟨s0, s1, s2, s3, s4, s5, s6, s7, s8⟩, r0, r1, r2, r3, r4, r5, r6, r7, r8⟩
    go_simp
    with_reducible rfl
  rotate_left
  · simp only [Act.put, List.setIfInBounds_toArray, List.set_cons_zero, List.set_cons_succ, i64_w, i32_w]
    rfl
  refine one_ (i := 18) (N := some 48) #[true, true, true, true, true, true, true, true, true, true, true, true, true, true, true, true, true, true, true, false, false, false, false, false, false, false, false, false, false] rfl rfl (by kernel_rfl) (by decide) (fun K hK => ?_)
  refine goes_ Try.func12 (by kernel_rfl) rfl #[.int .i64 5] (by rfl) rfl rfl (by (try simp only [List.map_toArray, List.map_cons, List.map_nil]); first | done | rfl) ?_
  refine (colonnadelaw18_number.calls 5 1 5 0 ⟨#[]⟩ _ F5.out).mono ?_
  rintro e w22 ⟨rfl, hb⟩
  refine ⟨_, rfl, ?_⟩
  have ST1 := Aside0.mk (St.step ST.out hb)
  clear ST hb
  have ST := ST1
  clear ST1
  refine hK.out _ _ ⟨pcells (ST.out.hk _ (List.mem_cons_of_mem _ (List.mem_cons_of_mem _ (List.mem_cons_of_mem _ (List.mem_cons_of_mem _ (List.mem_cons_of_mem _ (List.mem_cons_self ..))))))), pcells (ST.out.hk _ (List.mem_cons_of_mem _ (List.mem_cons_of_mem _ (List.mem_cons_of_mem _ (List.mem_cons_of_mem _ (List.mem_cons_self ..))))))⟩ (fun hHeld => ?_)
  clear hK K
  refine norm_ (a' := ?_) ?_ ?_
  rotate_left
  · show Act.put _ (some 48) _ = _
    simp only [Act.put, List.setIfInBounds_toArray, List.set_cons_zero, List.set_cons_succ, i64_w, i32_w]
    rfl
  refine one_ (i := 19) (N := some 49) #[true, true, true, true, true, true, true, true, true, true, true, true, true, true, true, true, true, true, true, true, false, false, false, false, false, false, false, false, false] rfl rfl (by kernel_rfl) (by decide) (fun K hK => ?_)
  refine goes_ Try.func20 (by kernel_rfl) rfl #[.agg #[.int .i64 1, .string ⟨#[97]⟩, .int .i64 3, .int .i64 1, .int .i64 5, .float .f64 0, .string ⟨#[]⟩, .slice none 0 0, .slice none 0 0], .agg #[.int .i64 1, .int .i64 5, .float .f64 0, .string ⟨#[]⟩]] (by rfl) rfl rfl (by (try simp only [List.map_toArray, List.map_cons, List.map_nil]); first | done | rfl) ?_
  refine (atom_Test.calls 5 1 ⟨#[97]⟩ 3 1 5 0 ⟨#[]⟩ none 0 [] none 0 [] 1 5 0 ⟨#[]⟩ 0 _ (Kd.C_nil _ _) (Nat.le_refl _) (Kd.C_nil _ _) (Nat.le_refl _) FT2.out).mono ?_
  rintro e w23 ⟨rfl, hb⟩
  refine ⟨_, rfl, ?_⟩
  have ST1 := Aside0.mk (St.step ST.out hb)
  clear ST hb
  have ST := ST1
  clear ST1
  refine hK.out _ _ ⟨pcells (ST.out.hk _ (List.mem_cons_of_mem _ (List.mem_cons_of_mem _ (List.mem_cons_of_mem _ (List.mem_cons_of_mem _ (List.mem_cons_of_mem _ (List.mem_cons_self ..))))))), pcells (ST.out.hk _ (List.mem_cons_of_mem _ (List.mem_cons_of_mem _ (List.mem_cons_of_mem _ (List.mem_cons_of_mem _ (List.mem_cons_self ..))))))⟩ (fun hHeld => ?_)
  clear hK K
  refine norm_ (a' := ?_) ?_ ?_
  rotate_left
  · show Act.put _ (some 49) _ = _
    simp only [Act.put, List.setIfInBounds_toArray, List.set_cons_zero, List.set_cons_succ, i64_w, i32_w]
    rfl
  refine pureP #[true, true, true, true, true, true, true, true, true, true, true, true, true, true, true, true, true, true, true, true, true, false, false, false, false, false, false, false, false] (by kernel_rfl) (i := 20) (N := some 50) ?_
  refine pureP #[true, true, true, true, true, true, true, true, true, true, true, true, true, true, true, true, true, true, true, true, true, true, false, false, false, false, false, false, false] (by kernel_rfl) (i := 21) (N := some 51) ?_
  refine pureP #[true, true, true, true, true, true, true, true, true, true, true, true, true, true, true, true, true, true, true, true, true, true, true, false, false, false, false, false, false] (by kernel_rfl) (i := 22) (N := some 52) ?_
  refine take_ (i := 23) (N := some 53) (v := ?_) (a' := ?_) #[true, true, true, true, true, true, true, true, true, true, true, true, true, true, true, true, true, true, true, true, true, true, true, true, false, false, false, false, false] rfl rfl (by kernel_rfl) (fun _ _ _ h => h) (Or.inl ⟨by rfl, ?_⟩) hHeld ?_ ?_
  rotate_left
  · rintro w' ⟨⟨s0, s1, s2, s3, s4, s5, s6, s7, s8⟩, r0, r1, r2, r3, r4, r5, r6, r7, r8⟩
    go_simp
    with_reducible rfl
  rotate_left
  · simp only [Act.put, List.setIfInBounds_toArray, List.set_cons_zero, List.set_cons_succ, i64_w, i32_w]
    rfl
  refine pureP #[true, true, true, true, true, true, true, true, true, true, true, true, true, true, true, true, true, true, true, true, true, true, true, true, true, false, false, false, false] (by kernel_rfl) (i := 24) (N := some 54) ?_
  refine one_ (i := 25) (N := some 55) #[true, true, true, true, true, true, true, true, true, true, true, true, true, true, true, true, true, true, true, true, true, true, true, true, true, true, false, false, false] rfl rfl (by kernel_rfl) (by decide) (fun K hK => ?_)
  refine goes_ Try.func20 (by kernel_rfl) rfl #[.agg #[.int .i64 1, .string ⟨#[97]⟩, .int .i64 3, .int .i64 1, .int .i64 5, .float .f64 0, .string ⟨#[]⟩, .slice none 0 0, .slice none 0 0], .agg #[.int .i64 0, .int .i64 0, .float .f64 0, .string ⟨#[]⟩]] (by rfl) rfl rfl (by (try simp only [List.map_toArray, List.map_cons, List.map_nil]); first | done | rfl) ?_
  refine (atom_Test.calls 5 1 ⟨#[97]⟩ 3 1 5 0 ⟨#[]⟩ none 0 [] none 0 [] 0 0 0 ⟨#[]⟩ 2 _ (Kd.C_nil _ _) (Nat.le_refl _) (Kd.C_nil _ _) (Nat.le_refl _) FT3.out).mono ?_
  rintro e w24 ⟨rfl, hb⟩
  refine ⟨_, rfl, ?_⟩
  have ST1 := Aside0.mk (St.step ST.out hb)
  clear ST hb
  have ST := ST1
  clear ST1
  refine hK.out _ _ ⟨pcells (ST.out.hk _ (List.mem_cons_of_mem _ (List.mem_cons_of_mem _ (List.mem_cons_of_mem _ (List.mem_cons_of_mem _ (List.mem_cons_of_mem _ (List.mem_cons_self ..))))))), pcells (ST.out.hk _ (List.mem_cons_of_mem _ (List.mem_cons_of_mem _ (List.mem_cons_of_mem _ (List.mem_cons_of_mem _ (List.mem_cons_self ..))))))⟩ (fun hHeld => ?_)
  clear hK K
  refine norm_ (a' := ?_) ?_ ?_
  rotate_left
  · show Act.put _ (some 55) _ = _
    simp only [Act.put, List.setIfInBounds_toArray, List.set_cons_zero, List.set_cons_succ, i64_w, i32_w]
    rfl
  refine pureP #[true, true, true, true, true, true, true, true, true, true, true, true, true, true, true, true, true, true, true, true, true, true, true, true, true, true, true, false, false] (by kernel_rfl) (i := 26) (N := some 56) ?_
  refine pureP #[true, true, true, true, true, true, true, true, true, true, true, true, true, true, true, true, true, true, true, true, true, true, true, true, true, true, true, true, false] (by kernel_rfl) (i := 27) (N := some 57) ?_
  refine pureP #[true, true, true, true, true, true, true, true, true, true, true, true, true, true, true, true, true, true, true, true, true, true, true, true, true, true, true, true, true] (by kernel_rfl) (i := 28) (N := some 10) ?_
  refine done_ (by kernel_rfl) ?_
  clear hHeld
  have e00 : feq 0 0 = true := by kernel_rfl
  try go_wp2
  refine start_ (n := 35) (S := fun w' => ((w'.cell? ⟨g4, 0, none⟩ = some (.int .i64 4) ∧ w'.cell? ⟨g4, 1, none⟩ = some (.string ⟨#[116]⟩) ∧ w'.cell? ⟨g4, 2, none⟩ = some (.int .i64 0) ∧ w'.cell? ⟨g4, 3, none⟩ = some (.int .i64 0) ∧ w'.cell? ⟨g4, 4, none⟩ = some (.int .i64 0) ∧ w'.cell? ⟨g4, 5, none⟩ = some (.float .f64 0) ∧ w'.cell? ⟨g4, 6, none⟩ = some (.string ⟨#[]⟩) ∧ w'.cell? ⟨g4, 7, none⟩ = some (.slice none 0 0) ∧ w'.cell? ⟨g4, 8, none⟩ = some (.slice none 0 0)) ∧ w'.cell? ⟨g5, 2, none⟩ = some (.int .i64 6)) ∧ (w'.cell? ⟨g7, 0, none⟩ = some (.int .i64 0) ∧ w'.cell? ⟨g7, 1, none⟩ = some (.int .i64 0) ∧ w'.cell? ⟨g7, 2, none⟩ = some (.float .f64 0) ∧ w'.cell? ⟨g7, 3, none⟩ = some (.string ⟨#[]⟩)) ∧ w'.cell? ⟨g8, 0, none⟩ = some (.int .i64 1) ∧ w'.cell? ⟨g8, 1, none⟩ = some (.int .i64 5) ∧ w'.cell? ⟨g8, 2, none⟩ = some (.float .f64 0) ∧ w'.cell? ⟨g8, 3, none⟩ = some (.string ⟨#[]⟩)) (ds := []) #[false, false, false, false, false, false, false, false, false, false, false, false, false, false, false, false, false, false, false, false, false, false, false, false, false, false, false, false, false, false, false, false, false, false, false] (by kernel_rfl) rfl rfl ⟨⟨pcells (ST.out.hk _ (List.mem_cons_of_mem _ (List.mem_cons_of_mem _ (List.mem_cons_of_mem _ (List.mem_cons_self ..))))), (pcells (ST.out.hk _ (List.mem_cons_of_mem _ (List.mem_cons_of_mem _ (List.mem_cons_self ..))))).2.2.1⟩, vcells0 (ST.out.hk _ (List.mem_cons_of_mem _ (List.mem_cons_self ..))), vcells0 (ST.out.hk _ (List.mem_cons_self ..))⟩ (fun hHeld => ?_)
  have ST1 := Aside0.mk (St.drew ST.out)
  clear ST
  have ST := ST1
  clear ST1
  generalize w24.drew = w25 at ST hHeld ⊢
  refine pureP #[true, false, false, false, false, false, false, false, false, false, false, false, false, false, false, false, false, false, false, false, false, false, false, false, false, false, false, false, false, false, false, false, false, false, false] (by kernel_rfl) (i := 0) (N := some 58) ?_
  refine pureP #[true, true, false, false, false, false, false, false, false, false, false, false, false, false, false, false, false, false, false, false, false, false, false, false, false, false, false, false, false, false, false, false, false, false, false] (by kernel_rfl) (i := 1) (N := some 59) ?_
  refine take_ (i := 2) (N := some 60) (v := ?_) (a' := ?_) #[true, true, true, false, false, false, false, false, false, false, false, false, false, false, false, false, false, false, false, false, false, false, false, false, false, false, false, false, false, false, false, false, false, false, false] rfl rfl (by kernel_rfl) (fun _ _ _ h => h) (Or.inl ⟨by rfl, ?_⟩) hHeld ?_ ?_
  rotate_left
  · rintro w' ⟨⟨⟨s0, s1, s2, s3, s4, s5, s6, s7, s8⟩, r0⟩, ⟨t0, t1, t2, t3⟩, u0, u1, u2, u3⟩
    go_simp
    with_reducible rfl
  rotate_left
  · simp only [Act.put, List.setIfInBounds_toArray, List.set_cons_zero, List.set_cons_succ, i64_w, i32_w]
    rfl
  refine pureP #[true, true, true, true, false, false, false, false, false, false, false, false, false, false, false, false, false, false, false, false, false, false, false, false, false, false, false, false, false, false, false, false, false, false, false] (by kernel_rfl) (i := 3) (N := some 61) ?_
  refine one_ (i := 4) (N := some 62) #[true, true, true, true, true, false, false, false, false, false, false, false, false, false, false, false, false, false, false, false, false, false, false, false, false, false, false, false, false, false, false, false, false, false, false] rfl rfl (by kernel_rfl) (by decide) (fun K hK => ?_)
  refine goes_ Try.func20 (by kernel_rfl) rfl #[.agg #[.int .i64 4, .string ⟨#[116]⟩, .int .i64 0, .int .i64 0, .int .i64 0, .float .f64 0, .string ⟨#[]⟩, .slice none 0 0, .slice none 0 0], .agg #[.int .i64 0, .int .i64 0, .float .f64 0, .string ⟨#[]⟩]] (by rfl) rfl rfl (by (try simp only [List.map_toArray, List.map_cons, List.map_nil]); first | done | rfl) ?_
  refine (atom_Test.calls 5 4 ⟨#[116]⟩ 0 0 0 0 ⟨#[]⟩ none 0 [] none 0 [] 0 0 0 ⟨#[]⟩ 1 _ (Kd.C_nil _ _) (Nat.le_refl _) (Kd.C_nil _ _) (Nat.le_refl _) FT4.out).mono ?_
  rintro e w26 ⟨rfl, hb⟩
  refine ⟨_, rfl, ?_⟩
  have ST1 := Aside0.mk (St.step ST.out hb)
  clear ST hb
  have ST := ST1
  clear ST1
  refine hK.out _ _ ⟨⟨pcells (ST.out.hk _ (List.mem_cons_of_mem _ (List.mem_cons_of_mem _ (List.mem_cons_of_mem _ (List.mem_cons_self ..))))), (pcells (ST.out.hk _ (List.mem_cons_of_mem _ (List.mem_cons_of_mem _ (List.mem_cons_self ..))))).2.2.1⟩, vcells0 (ST.out.hk _ (List.mem_cons_of_mem _ (List.mem_cons_self ..))), vcells0 (ST.out.hk _ (List.mem_cons_self ..))⟩ (fun hHeld => ?_)
  clear hK K
  refine norm_ (a' := ?_) ?_ ?_
  rotate_left
  · show Act.put _ (some 62) _ = _
    simp only [Act.put, List.setIfInBounds_toArray, List.set_cons_zero, List.set_cons_succ, i64_w, i32_w]
    rfl
  refine pureP #[true, true, true, true, true, true, false, false, false, false, false, false, false, false, false, false, false, false, false, false, false, false, false, false, false, false, false, false, false, false, false, false, false, false, false] (by kernel_rfl) (i := 5) (N := some 63) ?_
  refine pureP #[true, true, true, true, true, true, true, false, false, false, false, false, false, false, false, false, false, false, false, false, false, false, false, false, false, false, false, false, false, false, false, false, false, false, false] (by kernel_rfl) (i := 6) (N := some 64) ?_
  refine pureP #[true, true, true, true, true, true, true, true, false, false, false, false, false, false, false, false, false, false, false, false, false, false, false, false, false, false, false, false, false, false, false, false, false, false, false] (by kernel_rfl) (i := 7) (N := some 65) ?_
  refine take_ (i := 8) (N := some 66) (v := ?_) (a' := ?_) #[true, true, true, true, true, true, true, true, true, false, false, false, false, false, false, false, false, false, false, false, false, false, false, false, false, false, false, false, false, false, false, false, false, false, false] rfl rfl (by kernel_rfl) (fun _ _ _ h => h) (Or.inl ⟨by rfl, ?_⟩) hHeld ?_ ?_
  rotate_left
  · rintro w' ⟨⟨⟨s0, s1, s2, s3, s4, s5, s6, s7, s8⟩, r0⟩, ⟨t0, t1, t2, t3⟩, u0, u1, u2, u3⟩
    go_simp
    with_reducible rfl
  rotate_left
  · simp only [Act.put, List.setIfInBounds_toArray, List.set_cons_zero, List.set_cons_succ, i64_w, i32_w]
    rfl
  refine one_ (i := 9) (N := some 67) #[true, true, true, true, true, true, true, true, true, true, false, false, false, false, false, false, false, false, false, false, false, false, false, false, false, false, false, false, false, false, false, false, false, false, false] rfl rfl (by kernel_rfl) (by decide) (fun K hK => ?_)
  refine goes_ Try.func14 (by kernel_rfl) rfl #[.string ⟨#[]⟩] (by rfl) rfl rfl (by (try simp only [List.map_toArray, List.map_cons, List.map_nil]); first | done | rfl) ?_
  refine (colonnadelaw18_word.calls ⟨#[]⟩ 2 0 0 ⟨#[]⟩ _ FW.out).mono ?_
  rintro e w27 ⟨rfl, hb⟩
  refine ⟨_, rfl, ?_⟩
  have ST1 := Aside0.mk (St.step ST.out hb)
  clear ST hb
  have ST := ST1
  clear ST1
  refine hK.out _ _ ⟨⟨pcells (ST.out.hk _ (List.mem_cons_of_mem _ (List.mem_cons_of_mem _ (List.mem_cons_of_mem _ (List.mem_cons_self ..))))), (pcells (ST.out.hk _ (List.mem_cons_of_mem _ (List.mem_cons_of_mem _ (List.mem_cons_self ..))))).2.2.1⟩, vcells0 (ST.out.hk _ (List.mem_cons_of_mem _ (List.mem_cons_self ..))), vcells0 (ST.out.hk _ (List.mem_cons_self ..))⟩ (fun hHeld => ?_)
  clear hK K
  refine norm_ (a' := ?_) ?_ ?_
  rotate_left
  · show Act.put _ (some 67) _ = _
    simp only [Act.put, List.setIfInBounds_toArray, List.set_cons_zero, List.set_cons_succ, i64_w, i32_w]
    rfl
  refine one_ (i := 10) (N := some 68) #[true, true, true, true, true, true, true, true, true, true, true, false, false, false, false, false, false, false, false, false, false, false, false, false, false, false, false, false, false, false, false, false, false, false, false] rfl rfl (by kernel_rfl) (by decide) (fun K hK => ?_)
  refine goes_ Try.func20 (by kernel_rfl) rfl #[.agg #[.int .i64 4, .string ⟨#[116]⟩, .int .i64 0, .int .i64 0, .int .i64 0, .float .f64 0, .string ⟨#[]⟩, .slice none 0 0, .slice none 0 0], .agg #[.int .i64 2, .int .i64 0, .float .f64 0, .string ⟨#[]⟩]] (by rfl) rfl rfl (by (try simp only [List.map_toArray, List.map_cons, List.map_nil]); first | done | rfl) ?_
  refine (atom_Test.calls 5 4 ⟨#[116]⟩ 0 0 0 0 ⟨#[]⟩ none 0 [] none 0 [] 2 0 0 ⟨#[]⟩ 0 _ (Kd.C_nil _ _) (Nat.le_refl _) (Kd.C_nil _ _) (Nat.le_refl _) FT5.out).mono ?_
  rintro e w28 ⟨rfl, hb⟩
  refine ⟨_, rfl, ?_⟩
  have ST1 := Aside0.mk (St.step ST.out hb)
  clear ST hb
  have ST := ST1
  clear ST1
  refine hK.out _ _ ⟨⟨pcells (ST.out.hk _ (List.mem_cons_of_mem _ (List.mem_cons_of_mem _ (List.mem_cons_of_mem _ (List.mem_cons_self ..))))), (pcells (ST.out.hk _ (List.mem_cons_of_mem _ (List.mem_cons_of_mem _ (List.mem_cons_self ..))))).2.2.1⟩, vcells0 (ST.out.hk _ (List.mem_cons_of_mem _ (List.mem_cons_self ..))), vcells0 (ST.out.hk _ (List.mem_cons_self ..))⟩ (fun hHeld => ?_)
  clear hK K
  refine norm_ (a' := ?_) ?_ ?_
  rotate_left
  · show Act.put _ (some 68) _ = _
    simp only [Act.put, List.setIfInBounds_toArray, List.set_cons_zero, List.set_cons_succ, i64_w, i32_w]
    rfl
  refine pureP #[true, true, true, true, true, true, true, true, true, true, true, true, false, false, false, false, false, false, false, false, false, false, false, false, false, false, false, false, false, false, false, false, false, false, false] (by kernel_rfl) (i := 11) (N := some 69) ?_
  refine pureP #[true, true, true, true, true, true, true, true, true, true, true, true, true, false, false, false, false, false, false, false, false, false, false, false, false, false, false, false, false, false, false, false, false, false, false] (by kernel_rfl) (i := 12) (N := some 70) ?_
  refine pureP #[true, true, true, true, true, true, true, true, true, true, true, true, true, true, false, false, false, false, false, false, false, false, false, false, false, false, false, false, false, false, false, false, false, false, false] (by kernel_rfl) (i := 13) (N := some 71) ?_
  refine pureP #[true, true, true, true, true, true, true, true, true, true, true, true, true, true, true, false, false, false, false, false, false, false, false, false, false, false, false, false, false, false, false, false, false, false, false] (by kernel_rfl) (i := 14) (N := some 72) ?_
  refine pureP #[true, true, true, true, true, true, true, true, true, true, true, true, true, true, true, true, false, false, false, false, false, false, false, false, false, false, false, false, false, false, false, false, false, false, false] (by kernel_rfl) (i := 15) (N := some 73) ?_
  refine pureP #[true, true, true, true, true, true, true, true, true, true, true, true, true, true, true, true, true, false, false, false, false, false, false, false, false, false, false, false, false, false, false, false, false, false, false] (by kernel_rfl) (i := 16) (N := some 74) ?_
  refine pureP #[true, true, true, true, true, true, true, true, true, true, true, true, true, true, true, true, true, true, false, false, false, false, false, false, false, false, false, false, false, false, false, false, false, false, false] (by kernel_rfl) (i := 17) (N := some 75) ?_
  refine take_ (i := 18) (N := some 76) (v := ?_) (a' := ?_) #[true, true, true, true, true, true, true, true, true, true, true, true, true, true, true, true, true, true, true, false, false, false, false, false, false, false, false, false, false, false, false, false, false, false, false] rfl rfl (by kernel_rfl) (fun _ _ _ h => h) (Or.inl ⟨by rfl, ?_⟩) hHeld ?_ ?_
  rotate_left
  · rintro w' ⟨⟨⟨s0, s1, s2, s3, s4, s5, s6, s7, s8⟩, r0⟩, ⟨t0, t1, t2, t3⟩, u0, u1, u2, u3⟩
    go_simp
    with_reducible rfl
  rotate_left
  · simp only [Act.put, List.setIfInBounds_toArray, List.set_cons_zero, List.set_cons_succ, i64_w, i32_w]
    rfl
  refine pureP #[true, true, true, true, true, true, true, true, true, true, true, true, true, true, true, true, true, true, true, true, false, false, false, false, false, false, false, false, false, false, false, false, false, false, false] (by kernel_rfl) (i := 19) (N := some 77) ?_
  refine pureP #[true, true, true, true, true, true, true, true, true, true, true, true, true, true, true, true, true, true, true, true, true, false, false, false, false, false, false, false, false, false, false, false, false, false, false] (by kernel_rfl) (i := 20) (N := some 78) ?_
  refine pureP #[true, true, true, true, true, true, true, true, true, true, true, true, true, true, true, true, true, true, true, true, true, true, false, false, false, false, false, false, false, false, false, false, false, false, false] (by kernel_rfl) (i := 21) (N := some 79) ?_
  refine pureP #[true, true, true, true, true, true, true, true, true, true, true, true, true, true, true, true, true, true, true, true, true, true, true, false, false, false, false, false, false, false, false, false, false, false, false] (by kernel_rfl) (i := 22) (N := some 80) ?_
  refine pureP #[true, true, true, true, true, true, true, true, true, true, true, true, true, true, true, true, true, true, true, true, true, true, true, true, false, false, false, false, false, false, false, false, false, false, false] (by kernel_rfl) (i := 23) (N := some 81) ?_
  refine pureP #[true, true, true, true, true, true, true, true, true, true, true, true, true, true, true, true, true, true, true, true, true, true, true, true, true, false, false, false, false, false, false, false, false, false, false] (by kernel_rfl) (i := 24) (N := some 82) ?_
  refine pureP #[true, true, true, true, true, true, true, true, true, true, true, true, true, true, true, true, true, true, true, true, true, true, true, true, true, true, false, false, false, false, false, false, false, false, false] (by kernel_rfl) (i := 25) (N := some 83) ?_
  refine take_ (i := 26) (N := some 84) (v := ?_) (a' := ?_) #[true, true, true, true, true, true, true, true, true, true, true, true, true, true, true, true, true, true, true, true, true, true, true, true, true, true, true, false, false, false, false, false, false, false, false] rfl rfl (by kernel_rfl) (fun _ _ _ h => h) (Or.inl ⟨by rfl, ?_⟩) hHeld ?_ ?_
  rotate_left
  · rintro w' ⟨⟨⟨s0, s1, s2, s3, s4, s5, s6, s7, s8⟩, r0⟩, ⟨t0, t1, t2, t3⟩, u0, u1, u2, u3⟩
    go_simp
    with_reducible rfl
  rotate_left
  · simp only [Act.put, List.setIfInBounds_toArray, List.set_cons_zero, List.set_cons_succ, i64_w, i32_w]
    rfl
  refine pureP #[true, true, true, true, true, true, true, true, true, true, true, true, true, true, true, true, true, true, true, true, true, true, true, true, true, true, true, true, false, false, false, false, false, false, false] (by kernel_rfl) (i := 27) (N := some 85) ?_
  refine pureP #[true, true, true, true, true, true, true, true, true, true, true, true, true, true, true, true, true, true, true, true, true, true, true, true, true, true, true, true, true, false, false, false, false, false, false] (by kernel_rfl) (i := 28) (N := some 86) ?_
  refine pureP #[true, true, true, true, true, true, true, true, true, true, true, true, true, true, true, true, true, true, true, true, true, true, true, true, true, true, true, true, true, true, false, false, false, false, false] (by kernel_rfl) (i := 29) (N := some 87) ?_
  refine take_ (i := 30) (N := some 88) (v := ?_) (a' := ?_) #[true, true, true, true, true, true, true, true, true, true, true, true, true, true, true, true, true, true, true, true, true, true, true, true, true, true, true, true, true, true, true, false, false, false, false] rfl rfl (by kernel_rfl) (fun _ _ _ h => h) (Or.inl ⟨by rfl, ?_⟩) hHeld ?_ ?_
  rotate_left
  · rintro w' ⟨⟨⟨s0, s1, s2, s3, s4, s5, s6, s7, s8⟩, r0⟩, ⟨t0, t1, t2, t3⟩, u0, u1, u2, u3⟩
    go_simp
    with_reducible rfl
  rotate_left
  · simp only [Act.put, List.setIfInBounds_toArray, List.set_cons_zero, List.set_cons_succ, i64_w, i32_w]
    rfl
  refine one_ (i := 31) (N := some 89) #[true, true, true, true, true, true, true, true, true, true, true, true, true, true, true, true, true, true, true, true, true, true, true, true, true, true, true, true, true, true, true, true, false, false, false] rfl rfl (by kernel_rfl) (by decide) (fun K hK => ?_)
  refine goes_ Try.func12 (by kernel_rfl) rfl #[.int .i64 5] (by rfl) rfl rfl (by (try simp only [List.map_toArray, List.map_cons, List.map_nil]); first | done | rfl) ?_
  refine (colonnadelaw18_number.calls 5 1 5 0 ⟨#[]⟩ _ F5.out).mono ?_
  rintro e w29 ⟨rfl, hb⟩
  refine ⟨_, rfl, ?_⟩
  have ST1 := Aside0.mk (St.step ST.out hb)
  clear ST hb
  have ST := ST1
  clear ST1
  refine hK.out _ _ ⟨⟨pcells (ST.out.hk _ (List.mem_cons_of_mem _ (List.mem_cons_of_mem _ (List.mem_cons_of_mem _ (List.mem_cons_self ..))))), (pcells (ST.out.hk _ (List.mem_cons_of_mem _ (List.mem_cons_of_mem _ (List.mem_cons_self ..))))).2.2.1⟩, vcells0 (ST.out.hk _ (List.mem_cons_of_mem _ (List.mem_cons_self ..))), vcells0 (ST.out.hk _ (List.mem_cons_self ..))⟩ (fun hHeld => ?_)
  clear hK K
  refine norm_ (a' := ?_) ?_ ?_
  rotate_left
  · show Act.put _ (some 89) _ = _
    simp only [Act.put, List.setIfInBounds_toArray, List.set_cons_zero, List.set_cons_succ, i64_w, i32_w]
    rfl
  refine pureP #[true, true, true, true, true, true, true, true, true, true, true, true, true, true, true, true, true, true, true, true, true, true, true, true, true, true, true, true, true, true, true, true, true, false, false] (by kernel_rfl) (i := 32) (N := some 90) ?_
  refine pureP #[true, true, true, true, true, true, true, true, true, true, true, true, true, true, true, true, true, true, true, true, true, true, true, true, true, true, true, true, true, true, true, true, true, true, false] (by kernel_rfl) (i := 33) (N := some 91) ?_
  refine pureP #[true, true, true, true, true, true, true, true, true, true, true, true, true, true, true, true, true, true, true, true, true, true, true, true, true, true, true, true, true, true, true, true, true, true, true] (by kernel_rfl) (i := 34) (N := some 0) ?_
  refine done_ (by kernel_rfl) ?_
  clear hHeld
  try go_wp2
  go_ret
  exact ⟨rfl, ST.out.hb⟩
end Go.Proofs.Ytkedejphebfneaa.Pa
