/- The texts of ZoneSounds, merged: part 31. -/
import Derived.Test.YthiidgmemoineaaQZoneSounds17
import Derived.Test.YthiidgmemoineaaQZoneSounds30
import Derived.Test.YthiidgmemoineaaQZoneSounds12
/- ZoneSounds: every Sound; what is handed in stays, and again, when the same memory holds others. No conditions. -/
namespace Go.Proofs.Ythiidgmemoineaa.Pa
open Go.RowKit Go.Proofs.Ythiidgmemoineaa.L Go.Proofs.Ythiidgmemoineaa.V Go.Proofs.Ythiidgmemoineaa.O Go.Proofs.YthiidgmemoineaaW.PrintWords Go.Proofs.YthiidgmemoineaaW.PrintLast Go.Proofs.YthiidgmemoineaaW.PrintMore
set_option linter.unusedVariables false
set_option linter.unusedSimpArgs false
theorem C_left_n {W : World} {B : Option Addr} {l : List Int} {n : Nat} (hn : l.length = n) (h : Kd.C (Kd.int .u8) W B (n + 66) (l ++ mk66)) : Kd.C (Kd.int .u8) W B n l := by
  subst hn; exact C_left h
theorem stays_n (m : Nat) (n k i : Int) (r : Nat) (s : ByteArray) (k' i' : Int) (r' : Nat) (s' : ByteArray) (A B : Option Addr) (c cb : Nat) (l : List Int) (w : World) (hn : l.length = m) (hr : Kd.C (Kd.int .u8) w A l.length l) (hc : l.length ≤ c) (hl : m ≤ 140737488351232) (hm : m + 66 ≤ cb ∧ Kd.C (Kd.int .u8) w B (m + 66) (l ++ mk66)) :
    Calls Try.prog 23 #[.agg #[.int .i64 n, .int .i64 k, .int .i64 i, .float .f64 r, .string s, .int .i64 k', .int .i64 i', .float .f64 r', .string s', .slice B m cb], .agg #[.int .i64 n, .int .i64 k, .int .i64 i, .float .f64 r, .string s, .int .i64 k', .int .i64 i', .float .f64 r', .string s', .slice A l.length c]] w fun e w' => e = .returned (.bool true) ∧ Below w.heap.size w w' := by
  subst hn; exact stays_calls n k i r s k' i' r' s' A B c cb l w hr hc hl hm
theorem sound_n (a m : Nat) (q : Nat) (c0 : ByteArray) (ct : Int) (cn : Bool) (A0 : Option Addr) (ca : Nat) (x : List SV) (n k i : Int) (r : Nat) (s : ByteArray) (k' i' : Int) (r' : Nat) (s' : ByteArray) (B : Option Addr) (cb : Nat) (y : List Int) (v : Bool) (w : World) (ha : x.length = a) (hm : y.length = m) (h1 : Kd.C k28 w A0 a x) (h2 : a ≤ ca) (h3 : Kd.C (Kd.int .u8) w B m y) (h4 : m ≤ cb) (h : zone_Sound.f q c0 ct cn x n k i r s k' i' r' s' y = some v) :
    Calls Try.prog 24 #[.agg #[.string c0, .int .i64 ct, .bool cn], .slice A0 a ca, .agg #[.int .i64 n, .int .i64 k, .int .i64 i, .float .f64 r, .string s, .int .i64 k', .int .i64 i', .float .f64 r', .string s', .slice B m cb]] w fun e w' => e = .returned (.bool v) ∧ Below w.heap.size w w' := by
  subst ha hm; exact zone_Sound.calls q c0 ct cn A0 ca x n k i r s k' i' r' s' B cb y v w h1 h2 h3 h4 h
/-- The values and the filter that are written over. -/
structure Snd (w : World) (g3 g8 gA nA cA gB nB cB : Nat) (col rec : Array Value) (xs : List SV) (ys : List Int) (W : World) : Prop where
  hb : Below w.heap.size w W
  b3 : W.heap[g3]? = some (.cells col 23 (0, 0))
  b8 : W.heap[g8]? = some (.cells rec 31 (0, 0))
  ra : Kd.R k28 28 W w.heap.size (fun k => k = gA) (.slice (some ⟨gA, 0, none⟩) nA cA) xs
  rb : Kd.R (Kd.int .u8) 5 W w.heap.size (fun k => k = gB) (.slice (some ⟨gB, 0, none⟩) nB cB) ys
section
variable {w W W' : World} {g3 g8 gA nA cA gB nB cB : Nat} {col rec : Array Value} {xs xs' : List SV} {ys ys' : List Int}
theorem Snd.below (h : Snd w g3 g8 gA nA cA gB nB cB col rec xs ys W) (hb : Below W.heap.size W W') : Snd w g3 g8 gA nA cA gB nB cB col rec xs ys W' := ⟨below_step h.hb hb, blk_below h.b3 hb, blk_below h.b8 hb, Kd.R_below h.ra hb, Kd.R_below h.rb hb⟩
theorem Snd.std (h : Snd w g3 g8 gA nA cA gB nB cB col rec xs ys W) : Std W (fun W => Snd w g3 g8 gA nA cA gB nB cB col rec xs ys W) := fun _ hb => h.below hb
theorem Snd.setA (h : Snd w g3 g8 gA nA cA gB nB cB col rec xs ys W) (hr : Kd.R k28 28 W' w.heap.size (fun k => k = gA) (.slice (some ⟨gA, 0, none⟩) nA cA) xs') (hb : Below w.heap.size w W') (hg : W.grownBy W' (some gA)) : Snd w g3 g8 gA nA cA gB nB cB col rec xs' ys W' :=
  ⟨hb, grown_blk hg h.b3 (row_box h.ra h.b3 (by decide)), grown_blk hg h.b8 (row_box h.ra h.b8 (by decide)), hr, Kd.R_grown h.rb hg (fun k hk he => two_rows h.ra h.rb (by decide) (by have := Option.some.inj he; omega))⟩
theorem Snd.putB (h : Snd w g3 g8 gA nA cA gB nB cB col rec xs ys W) (j : Nat) (x : Int) : Snd w g3 g8 gA nA cA gB nB cB col rec xs (ys.set j x) (W.setCell ⟨gB, j, none⟩ (.int .u8 x)) := by
  have hp := Kd.R_putg h.rb (j : Int) x
  rw [Int.toNat_natCast] at hp
  exact ⟨below_set h.hb (Kd.R_base h.rb gB rfl), grown_blk hp.2 h.b3 (row_box h.rb h.b3 (by decide)), grown_blk hp.2 h.b8 (row_box h.rb h.b8 (by decide)), Kd.R_grown h.ra hp.2 (fun k hk he => two_rows h.ra h.rb (by decide) (by have := Option.some.inj he; omega)), hp.1⟩
theorem Snd.putA {n : Nat} (h : Snd w g3 g8 gA (n + 2) cA gB nB cB col rec (xs ++ mk2) ys W) (hx : xs.length = n) {j : Nat} (hj : j < n) (y : Int) : Snd w g3 g8 gA (n + 2) cA gB nB cB col rec (xs.set j ⟨(rd_T28 xs (j : Int)).f0, y, (rd_T28 xs (j : Int)).f2, (rd_T28 xs (j : Int)).f3⟩ ++ mk2) ys (W.setCell ⟨gA, j * 4 + 1, none⟩ (.int .i64 y)) := by
  have hp := own_num h.ra (j := j) (by omega) y
  rw [List.set_append_left _ _ (by omega), rdv_left _ _ (by omega)] at hp
  exact h.setA hp.1 (below_set h.hb (Kd.R_base h.ra gA rfl)) hp.2
theorem Snd.inC (h : Snd w g3 g8 gA nA cA gB nB cB col rec xs ys W) : nA ≤ cA ∧ Kd.C k28 W (some ⟨gA, 0, none⟩) nA xs := by
  have := Kd.R_reads' h.ra
  exact ⟨this.2.1, by rw [this.1]; exact this.2.2⟩
theorem Snd.filC (h : Snd w g3 g8 gA nA cA gB nB cB col rec xs ys W) : nB ≤ cB ∧ Kd.C (Kd.int .u8) W (some ⟨gB, 0, none⟩) nB ys := by
  have := Kd.R_reads' h.rb
  exact ⟨this.2.1, by rw [this.1]; exact this.2.2⟩
end
theorem fil_at {w W : World} {g3 g8 gA nA cA gB nB cB : Nat} {col rec : Array Value} {xs : List SV} {ys : List Int} (h : Snd w g3 g8 gA nA cA gB nB cB col rec xs ys W) {z : Nat} (hz : z < nB) : W.cell? ⟨gB, z, none⟩ = some (.int .u8 (rd ys (z : Int))) ∧ W.frozen? ⟨gB, z, none⟩ = false := by
  have := Kd.R_celln 0 h.rb (z : Int) (by omega) (by omega)
  rw [Int.toNat_natCast] at this
  exact this
set_option maxHeartbeats 8000000 in
set_option maxRecDepth 100000 in
theorem zoneSounds_walk (c0 : ByteArray) (ct : Int) (cn : Bool) (A0 : Option Addr) (ca : Nat) (l : List SV) (n k i : Int) (r : Nat) (s : ByteArray) (k' i' : Int) (r' : Nat) (s' : ByteArray) (A : Option Addr) (c : Nat) (bl : List Int) (w : World) (hl0 : Kd.C k28 w A0 l.length l) (hlc : l.length ≤ ca) (hll : l.length ≤ 3518437208780) (hok : okW l) (hr : Kd.C (Kd.int .u8) w A bl.length bl) (hc : bl.length ≤ c) (hl : bl.length ≤ 140737488351232) (hr0 : r < 18446744073709551616) (hr1 : r' < 18446744073709551616) :
    Calls Try.prog 5 #[.agg #[.string c0, .int .i64 ct, .bool cn], .slice A0 l.length ca, .agg #[.int .i64 n, .int .i64 k, .int .i64 i, .float .f64 r, .string s, .int .i64 k', .int .i64 i', .float .f64 r', .string s', .slice A bl.length c]] w fun e w' => e = .returned (.bool true) ∧ Below w.heap.size w w' := by
  have hu31 := Try.underlying31
  have hu23 := Try.underlying23
  have hu29 := Try.underlying29
  have HS := Aside0.mk (Std.and (Std.rowC hlc hl0) (Std.and (Std.rowC hc hr) (Std.bel (Below.refl w.heap.size w))))
  have HOK := Aside0.mk hok
  clear hr hc hl0 hlc hok
  go_enter Try.func5, Try.ntmps5
  go_upto_region 1 with (first | ((with_reducible refine gate_dst (N := 3) rfl ?_); refine box_event ?hg (N := 3) ?hd (cs := #[.string c0, .int .i64 ct, .bool cn]) (t := 23) ?hr ?_; (case hd => rfl); (case hg => rfl); (case hr => first | (go_simp; done) | (go_simp; rfl)); intro g3 hg_ w1 hbox hb_; have HG_ := Aside0.mk hg_; have HX_ := Aside0.mk hbox; have HY_ := Aside0.mk hb_; clear hg_ hbox hb_; have HGg3 := HG_; have HS1 := Aside0.mk (Std.and (Std.blk HX_.out) (Std.step HS.out HY_.out)); clear HS; have HS := HS1; clear HS1; clear HX_ HY_ HG_) | ((with_reducible refine gate_dst (N := 5) rfl ?_); refine box_event ?hg (N := 5) ?hd (cs := #[.int .i64 n, .int .i64 k, .int .i64 i, .float .f64 r, .string s, .int .i64 k', .int .i64 i', .float .f64 r', .string s', .slice A bl.length c]) (t := 31) ?hr ?_; (case hd => rfl); (case hg => rfl); (case hr => first | (go_simp; done) | (go_simp; rfl)); intro g5 hg_ w2 hbox hb_; have HG_ := Aside0.mk hg_; have HX_ := Aside0.mk hbox; have HY_ := Aside0.mk hb_; clear hg_ hbox hb_; have HGg5 := HG_; have HS1 := Aside0.mk (Std.and (Std.blk HX_.out) (Std.step HS.out HY_.out)); clear HS; have HS := HS1; clear HS1; clear HX_ HY_ HG_))
  clear HGg3 HGg5
  go_upto_region 2 with ((with_reducible refine gate_callee (f := 12) rfl ?_); (with_reducible refine gate_dst (N := 15) rfl ?_); refine goesQ 15 Try.func12 #[.slice A0 l.length ca] ?_; refine (lent_calls A0 ca l _ HS.out.now.2.2.1.2 HS.out.now.2.2.1.1 hll).mono ?_; rintro e w_ ⟨gA, cA, rfl, hm_, hb_⟩; refine ⟨_, rfl, ?_⟩; have HS1 := Aside0.mk (Std.and (Std.row (Kd.R_lower hm_ (below_size HS.out.now.2.2.2.2))) (Std.step HS.out hb_)); clear HS; have HS := HS1; clear HS1; clear hb_ hm_)
  go_upto_region 3 with (first | ((with_reducible refine gate_dst (N := 16) rfl ?_); refine ld_blk (d := (.struct _)) rfl 31 _ rfl (by rfl) (HS.out.now.2.1) hu31 rfl (by kernel_rfl) ?_) | ((with_reducible refine gate_callee (f := 18) rfl ?_); (with_reducible refine gate_dst (N := 17) rfl ?_); refine goesQ 17 Try.func18 #[.agg #[.int .i64 n, .int .i64 k, .int .i64 i, .float .f64 r, .string s, .int .i64 k', .int .i64 i', .float .f64 r', .string s', .slice A bl.length c]] ?_; refine (handed_own n k i r s k' i' r' s' A c bl _ HS.out.now.2.2.2.2.1.2 HS.out.now.2.2.2.2.1.1 hl).mono ?_; rintro e w_ ⟨B, cB, rfl, hm_, hb_⟩; obtain ⟨gB, rfl, hm2_⟩ := own_at (by rfl) hm_ (by rw [List.length_append, mk66_len]; omega); clear hm_; refine ⟨_, rfl, ?_⟩; have HS1 := Aside0.mk (Std.and (Std.row (Kd.R_lower hm2_ (below_size HS.out.now.2.2.2.2.2))) (Std.step HS.out hb_)); clear HS; have HS := HS1; clear HS1; clear hb_ hm2_) | ((with_reducible refine gate_dst (N := 8) rfl ?_); refine box_event ?hg (N := 8) ?hd (cs := #[.int .i64 0, .int .i64 0, .int .i64 0, .float .f64 0, .string ⟨#[]⟩, .int .i64 0, .int .i64 0, .float .f64 0, .string ⟨#[]⟩, .slice none 0 0]) (t := 31) ?hr ?_; (case hd => rfl); (case hg => rfl); (case hr => first | (go_simp; done) | (go_simp; rfl)); intro g8 hg_ w4 hbox hb_; have HG_ := Aside0.mk hg_; have HX_ := Aside0.mk hbox; have HY_ := Aside0.mk hb_; clear hg_ hbox hb_) | ((with_reducible refine gate_store (p := 8) rfl ?_); refine st_blk rfl 31 _ _ rfl rfl #[.int .i64 n, .int .i64 k, .int .i64 i, .float .f64 r, .string s, .int .i64 k', .int .i64 i', .float .f64 r', .string s', .slice (some ⟨gB, 0, none⟩) bl.length cB] (by rfl) (by rfl) HX_.out (by rfl) (by kernel_rfl) (by simp [Value.oneCell']) ?_; intro w5 hbox2 ho_; have hb2_ := Only.belowW ho_ HY_.out (Nat.le_of_eq HG_.out.symm); have HGg8 := HG_; clear HX_ HY_ HG_ ho_; have HS1 := Aside0.mk (Std.and (Std.blk hbox2) (Std.step HS.out hb2_)); clear HS; have HS := HS1; clear HS1; clear hb2_ hbox2))
  clear HGg8
  have HT : Aside0 (Snd w g3 g8 gA (l.length + 2) cA gB (bl.length + 66) cB #[.string c0, .int .i64 ct, .bool cn] #[.int .i64 n, .int .i64 k, .int .i64 i, .float .f64 r, .string s, .int .i64 k', .int .i64 i', .float .f64 r', .string s', .slice (some ⟨gB, 0, none⟩) bl.length cB] (l ++ mk2) (bl ++ mk66) _) := Aside0.mk ⟨HS.out.now.2.2.2.2.2.2.2, HS.out.now.2.2.2.2.1, HS.out.now.1, HS.out.now.2.2.1, HS.out.now.2.1⟩
  clear HS
  go_wp2_with (fail)
  go_loopw [9] (fun s9 wr => ∃ (t : Nat) (xs : List SV) (ys : List Int), t ≤ 2 ∧ s9 = .int .i64 (t : Int) ∧ Aside0 (xs.length = l.length) ∧ Aside0 (ys.length = bl.length) ∧ Aside0 (okW xs) ∧ Aside0 (Snd w g3 g8 gA (l.length + 2) cA gB (bl.length + 66) cB #[.string c0, .int .i64 ct, .bool cn] #[.int .i64 n, .int .i64 k, .int .i64 i, .float .f64 r, .string s, .int .i64 k', .int .i64 i', .float .f64 r', .string s', .slice (some ⟨gB, 0, none⟩) bl.length cB] (xs ++ mk2) (ys ++ mk66) wr)) (fun i _ => 2 - (intOf i).toNat)
  case atStart => exact ⟨0, l, bl, by omega, rfl, ⟨rfl⟩, ⟨rfl⟩, HOK, HT⟩
  case round =>
    clear HT HOK
    obtain ⟨t, xs, ys, ht, rfl, HX, HY, HOK, HT⟩ := hrel
    by_cases hlt : t < 2
    · have b1 : decide ((t : Int) < 2) = true := decide_eq_true (by omega)
      obtain ⟨q1, f1⟩ := (sound_z (c0 := c0) (ct := ct) (cn := cn) (n := n) (k := k) (i := i) (r := r) (s := s) (k' := k') (i' := i') (r' := r') (s' := s') (bl := ys) xs (by have := HY.out; omega) hr0 hr1 HOK.out).ex
      obtain ⟨q2, f2⟩ := (rsound_z (c0 := c0) (ct := ct) (cn := cn) (n := n) (k := k) (i := i) (r := r) (s := s) (k' := k') (i' := i') (r' := r') (s' := s') (bl := ys) xs (by have := HX.out; omega) hr0 hr1 HOK.out).ex
      generalize soundS ct cn n k i r s k' i' r' s' ys xs = m at f1 f2
      have F1 := Aside0.mk f1
      have F2 := Aside0.mk f2
      clear f1 f2
      have HS := Aside0.mk (Snd.std HT.out)
      clear HT
      have hmm : (m != m) = false := by cases m <;> rfl
      go_upto_region 7 with (first | ((with_reducible refine gate_dst (N := 22) rfl ?_); refine Kd.R_lit (k28) _ 28 ?hg (N := 22) ?hd (xs := ([] : List S28)) (inner := []) (ok := fun _ => True) (okp := fun _ => True) ?hr ?hp (fun _ hk => hk) trivial (Below.refl _ _) (Nat.le_refl _) (by simp) ?_; (case hd => rfl); (case hg => rfl); (case hr => first | (go_simp; done) | (go_simp; rfl)); (case hp => exact Reps.none _ _); intro v22 y0 ho_ hb_ hg_ hnew_; clear hg_ hnew_; have HO := Aside0.mk ho_; have HBt := Aside0.mk hb_; clear ho_ hb_) | ((with_reducible refine gate_builtin (b := .append) (xs := #[.tmp 22, .tmp 23]) rfl ?_); at_builtin; refine Kd.R_append_rows (k28) (w0 := wr) wr.heap.size rfl (.tmp 22) (.tmp 23) 24 28 (.agg #[(.int .i64 0), (.int .i64 0), (.float .f64 0), (.string ⟨#[]⟩)]) 40 rfl Try.underlying24 info28 rfl (by decide) (by omega) v22 ([] : List S28) xs _ _ _ (fun _ => True) (fun _ => False) rfl rfl HO.out (Kd.C_below (C_leftn HX.out HS.out.now.inC.2) HBt.out) (fun _ _ h => h) (fun _ h => h.elim) (fun _ _ => trivial) HBt.out (below_size HBt.out) (by have := HX.out; simp; omega) ?_; intro v24 y1 ho_ hb_ hg_ hat_; rw [List.nil_append] at ho_; clear HO HBt; obtain ⟨An, cn_, e24⟩ := Kd.R_slice ho_; subst e24; have HS1 := Aside0.mk (Std.and (Std.rowR ho_ rfl) (Std.step HS.out hb_)); clear HS; have HS := HS1; clear HS1; clear ho_ hb_ hg_ hat_))
      go_upto_region 8 with (first | ((with_reducible refine gate_dst (N := 25) rfl ?_); refine ld_blk (d := (.struct _)) rfl 31 _ rfl (by rfl) (HS.out.now.2.b8) hu31 rfl (by kernel_rfl) ?_) | ((with_reducible refine gate_dst (N := 11) rfl ?_); refine box_event ?hg (N := 11) ?hd (cs := #[.int .i64 0, .int .i64 0, .int .i64 0, .float .f64 0, .string ⟨#[]⟩, .int .i64 0, .int .i64 0, .float .f64 0, .string ⟨#[]⟩, .slice none 0 0]) (t := 31) ?hr ?_; (case hd => rfl); (case hg => rfl); (case hr => first | (go_simp; done) | (go_simp; rfl)); intro g11 hg_ y2 hbox hb_; have HG_ := Aside0.mk hg_; have HX_ := Aside0.mk hbox; have HY_ := Aside0.mk hb_; clear hg_ hbox hb_) | ((with_reducible refine gate_store (p := 11) rfl ?_); refine st_blk rfl 31 _ _ rfl rfl #[.int .i64 n, .int .i64 k, .int .i64 i, .float .f64 r, .string s, .int .i64 k', .int .i64 i', .float .f64 r', .string s', .slice (some ⟨gB, 0, none⟩) bl.length cB] (by rfl) (by rfl) HX_.out (by rfl) (by kernel_rfl) (by simp [Value.oneCell']) ?_; intro y3 hbox2 ho_; have hb2_ := Only.belowW ho_ HY_.out (Nat.le_of_eq HG_.out.symm); have HGg11 := HG_; clear HX_ HY_ HG_ ho_; have HBt := Aside0.mk hb2_; have HXt := Aside0.mk hbox2; clear hb2_ hbox2))
      go_upto_region 9 with (first | ((with_reducible refine gate_dst (N := 26) rfl ?_); refine Kd.R_lit (Kd.int .u8) _ 5 ?hg (N := 26) ?hd (xs := ([] : List Int)) (inner := []) (ok := fun _ => True) (okp := fun _ => True) ?hr ?hp (fun _ hk => hk) trivial (Below.refl _ _) (Nat.le_refl _) (by simp) ?_; (case hd => rfl); (case hg => rfl); (case hr => first | (go_simp; done) | (go_simp; rfl)); (case hp => exact Reps.none _ _); intro v26 y4 ho_ hb_ hg_ hnew_; clear hg_ hnew_; have HO := Aside0.mk (Own1.start HBt.out HXt.out HGg11.out ho_ hb_); clear HBt HXt; clear ho_ hb_) | ((with_reducible refine gate_dst (N := 28) rfl ?_); refine ld_fld rfl 29 _ rfl (.slice (some ⟨gB, 0, none⟩) bl.length cB) (by rfl) ((blk_below HS.out.now.2.b8 HO.out.hb)) (by rfl) hu29 rfl ?_) | ((with_reducible refine gate_builtin (b := .append) (xs := #[.tmp 26, .tmp 28]) rfl ?_); at_builtin; refine Kd.R_append_rows (Kd.int .u8) (w0 := y1) y1.heap.size rfl (.tmp 26) (.tmp 28) 29 5 (.int .u8 0) 1 rfl Try.underlying29 info5 rfl (by decide) (by omega) v26 ([] : List Int) ys _ _ _ (fun k => k ≠ g11) (fun _ => False) rfl rfl HO.out.row (Kd.C_below (C_left_n HY.out HS.out.now.2.filC.2) HO.out.hb) (fun _ _ h => h) (fun _ h => h.elim) (HO.out.fresh) HO.out.hb (below_size HO.out.hb) (by have := HY.out; simp; omega) ?_; intro v29 y5 ho_ hb_ hg_ hat_; rw [List.nil_append] at ho_; have HO1 := Aside0.mk (Own1.grow HO.out ho_ hb_ hg_); clear HO; have HO := HO1; clear HO1; obtain ⟨As, cs, e29⟩ := Kd.R_slice HO.out.row; subst e29; clear ho_ hb_ hg_ hat_) | ((with_reducible refine gate_store (p := 30) rfl ?_); refine st_fld rfl 29 _ _ rfl rfl (.slice As ys.length cs) (by rfl) (by rfl) HO.out.bx (by simp) (by kernel_rfl) (by simp [Value.oneCell']) #[.int .i64 n, .int .i64 k, .int .i64 i, .float .f64 r, .string s, .int .i64 k', .int .i64 i', .float .f64 r', .string s', .slice As ys.length cs] (by rfl) (by have z_ := (blk_cell HO.out.bx 9).trans rfl; have f_ := blk_frozen HO.out.bx 9; go_simp) ?_; intro y6 hx_ ho_; have HO1 := Aside0.mk (Own1.set HO.out hx_ ho_); clear HO; have HO := HO1; clear HO1; have HS1 := Aside0.mk (Std.and (Std.blk HO.out.bx) (Std.and (Std.rowR HO.out.row rfl) (Std.step HS.out HO.out.hb))); clear HS HO hx_ ho_; have HS := HS1; clear HS1))
      clear HGg11
      have HS1 := Aside0.mk (Std.step HS.out (below_drew1 (Below.refl _ _)))
      refine start_ (n := 21) (S := fun w' => (w'.cell? ⟨g3, 0, none⟩ = some (.string c0) ∧ w'.cell? ⟨g3, 1, none⟩ = some (.int .i64 ct) ∧ w'.cell? ⟨g3, 2, none⟩ = some (.bool cn)) ∧ (w'.cell? ⟨g8, 0, none⟩ = some (.int .i64 n) ∧ w'.cell? ⟨g8, 1, none⟩ = some (.int .i64 k) ∧ w'.cell? ⟨g8, 2, none⟩ = some (.int .i64 i) ∧ w'.cell? ⟨g8, 3, none⟩ = some (.float .f64 r) ∧ w'.cell? ⟨g8, 4, none⟩ = some (.string s) ∧ w'.cell? ⟨g8, 5, none⟩ = some (.int .i64 k') ∧ w'.cell? ⟨g8, 6, none⟩ = some (.int .i64 i') ∧ w'.cell? ⟨g8, 7, none⟩ = some (.float .f64 r') ∧ w'.cell? ⟨g8, 8, none⟩ = some (.string s') ∧ w'.cell? ⟨g8, 9, none⟩ = some (.slice (some ⟨gB, 0, none⟩) bl.length cB)) ∧ (w'.cell? ⟨g11, 0, none⟩ = some (.int .i64 n) ∧ w'.cell? ⟨g11, 1, none⟩ = some (.int .i64 k) ∧ w'.cell? ⟨g11, 2, none⟩ = some (.int .i64 i) ∧ w'.cell? ⟨g11, 3, none⟩ = some (.float .f64 r) ∧ w'.cell? ⟨g11, 4, none⟩ = some (.string s) ∧ w'.cell? ⟨g11, 5, none⟩ = some (.int .i64 k') ∧ w'.cell? ⟨g11, 6, none⟩ = some (.int .i64 i') ∧ w'.cell? ⟨g11, 7, none⟩ = some (.float .f64 r') ∧ w'.cell? ⟨g11, 8, none⟩ = some (.string s') ∧ w'.cell? ⟨g11, 9, none⟩ = some (.slice As ys.length cs))) (ds := []) #[false, false, false, false, false, false, false, false, false, false, false, false, false, false, false, false, false, false, false, false, false] (by kernel_rfl) rfl rfl ⟨cells_3 HS1.out.now.2.2.2.b3, cells_10 HS1.out.now.2.2.2.b8, cells_10 HS1.out.now.1⟩ (fun hHeld => ?_)
      clear HS
      have HS := HS1
      clear HS1
      generalize World.drew _ = z1 at HS hHeld ⊢
      refine takeP #[true, false, false, false, false, false, false, false, false, false, false, false, false, false, false, false, false, false, false, false, false] (by kernel_rfl) hHeld (i := 0) (N := some 31) ?_
      refine pureP #[true, true, false, false, false, false, false, false, false, false, false, false, false, false, false, false, false, false, false, false, false] (by kernel_rfl) (i := 1) (N := some 32) ?_
      refine takeP #[true, true, true, false, false, false, false, false, false, false, false, false, false, false, false, false, false, false, false, false, false] (by kernel_rfl) hHeld (i := 2) (N := some 33) ?_
      refine takeP #[true, true, true, false, true, false, false, false, false, false, false, false, false, false, false, false, false, false, false, false, false] (by kernel_rfl) hHeld (i := 4) (N := some 35) ?_
      refine pureP #[true, true, true, false, true, true, false, false, false, false, false, false, false, false, false, false, false, false, false, false, false] (by kernel_rfl) (i := 5) (N := some 36) ?_
      refine takeP #[true, true, true, false, true, true, true, false, false, false, false, false, false, false, false, false, false, false, false, false, false] (by kernel_rfl) hHeld (i := 6) (N := some 37) ?_
      refine one_ (i := 3) (N := some 34) #[true, true, true, true, true, true, true, false, false, false, false, false, false, false, false, false, false, false, false, false, false] rfl rfl (by kernel_rfl) (by decide) (fun K hK => ?_)
      refine goes_ Try.func24 (by kernel_rfl) rfl #[.agg #[.string c0, .int .i64 ct, .bool cn], .slice (some ⟨gA, 0, none⟩) l.length cA, .agg #[.int .i64 n, .int .i64 k, .int .i64 i, .float .f64 r, .string s, .int .i64 k', .int .i64 i', .float .f64 r', .string s', .slice (some ⟨gB, 0, none⟩) bl.length cB]] (by rfl) rfl rfl (by (try simp only [List.map_toArray, List.map_cons, List.map_nil]); first | done | rfl) ?_
      refine (sound_n l.length bl.length q1 c0 ct cn (some ⟨gA, 0, none⟩) cA xs n k i r s k' i' r' s' (some ⟨gB, 0, none⟩) cB ys m _ HX.out HY.out (C_leftn HX.out HS.out.now.2.2.2.inC.2) (Nat.le_trans (Nat.le_add_right _ 2) HS.out.now.2.2.2.inC.1) (C_left_n HY.out HS.out.now.2.2.2.filC.2) (Nat.le_trans (Nat.le_add_right _ 66) HS.out.now.2.2.2.filC.1) F1.out).mono ?_
      rintro e_ w_ ⟨rfl, hb_⟩
      refine ⟨_, rfl, ?_⟩
      have HS1 := Aside0.mk (Std.step HS.out hb_)
      clear HS hb_
      have HS := HS1
      clear HS1
      refine hK.out _ _ ⟨cells_3 HS.out.now.2.2.2.b3, cells_10 HS.out.now.2.2.2.b8, cells_10 HS.out.now.1⟩ (fun hHeld => ?_)
      clear hK K
      refine norm_ (a' := ?_) ?_ ?_
      rotate_left
      · show Act.put _ (some 34) _ = _
        simp only [Act.put, List.setIfInBounds_toArray, List.set_cons_zero, List.set_cons_succ, i64_w, i32_w]
        rfl
      refine one_ (i := 7) (N := some 38) #[true, true, true, true, true, true, true, true, false, false, false, false, false, false, false, false, false, false, false, false, false] rfl rfl (by kernel_rfl) (by decide) (fun K hK => ?_)
      refine goes_ Try.func25 (by kernel_rfl) rfl #[.agg #[.string c0, .int .i64 ct, .bool cn], .slice An xs.length cn_, .agg #[.int .i64 n, .int .i64 k, .int .i64 i, .float .f64 r, .string s, .int .i64 k', .int .i64 i', .float .f64 r', .string s', .slice As ys.length cs]] (by rfl) rfl rfl (by (try simp only [List.map_toArray, List.map_cons, List.map_nil]); first | done | rfl) ?_
      refine (colonnaderef14_Sound.calls q2 c0 ct cn An cn_ xs n k i r s k' i' r' s' As cs ys m _ HS.out.now.2.2.1.2 HS.out.now.2.2.1.1 HS.out.now.2.1.2 HS.out.now.2.1.1 F2.out).mono ?_
      rintro e_ w_ ⟨rfl, hb_⟩
      refine ⟨_, rfl, ?_⟩
      have HS1 := Aside0.mk (Std.step HS.out hb_)
      clear HS hb_
      have HS := HS1
      clear HS1
      refine hK.out _ _ ⟨cells_3 HS.out.now.2.2.2.b3, cells_10 HS.out.now.2.2.2.b8, cells_10 HS.out.now.1⟩ (fun hHeld => ?_)
      clear hK K
      refine norm_ (a' := ?_) ?_ ?_
      rotate_left
      · show Act.put _ (some 38) _ = _
        simp only [Act.put, List.setIfInBounds_toArray, List.set_cons_zero, List.set_cons_succ, i64_w, i32_w]
        rfl
      refine pureP #[true, true, true, true, true, true, true, true, true, false, false, false, false, false, false, false, false, false, false, false, false] (by kernel_rfl) (i := 8) (N := some 39) ?_
      refine pureP #[true, true, true, true, true, true, true, true, true, true, false, false, false, false, false, false, false, false, false, false, false] (by kernel_rfl) (i := 9) (N := some 40) ?_
      refine pureP #[true, true, true, true, true, true, true, true, true, true, true, false, false, false, false, false, false, false, false, false, false] (by kernel_rfl) (i := 10) (N := some 41) ?_
      refine pureP #[true, true, true, true, true, true, true, true, true, true, true, true, false, false, false, false, false, false, false, false, false] (by kernel_rfl) (i := 11) (N := some 42) ?_
      refine one_ (i := 12) (N := some 43) #[true, true, true, true, true, true, true, true, true, true, true, true, true, false, false, false, false, false, false, false, false] rfl rfl (by kernel_rfl) (by decide) (fun K hK => ?_)
      refine goes_ Try.func17 (by kernel_rfl) rfl #[.slice (some ⟨gA, 0, none⟩) l.length cA, .slice An xs.length cn_] (by rfl) rfl rfl (by (try simp only [List.map_toArray, List.map_cons, List.map_nil]); first | done | rfl) ?_
      refine (kept_n l.length An (some ⟨gA, 0, none⟩) cn_ cA xs _ HX.out ⟨HS.out.now.2.2.2.inC.1, HS.out.now.2.2.2.inC.2⟩ HS.out.now.2.2.1.2 HS.out.now.2.2.1.1 hll).mono ?_
      rintro e_ w_ ⟨rfl, hb_⟩
      refine ⟨_, rfl, ?_⟩
      have HS1 := Aside0.mk (Std.step HS.out hb_)
      clear HS hb_
      have HS := HS1
      clear HS1
      refine hK.out _ _ ⟨cells_3 HS.out.now.2.2.2.b3, cells_10 HS.out.now.2.2.2.b8, cells_10 HS.out.now.1⟩ (fun hHeld => ?_)
      clear hK K
      refine norm_ (a' := ?_) ?_ ?_
      rotate_left
      · show Act.put _ (some 43) _ = _
        simp only [Act.put, List.setIfInBounds_toArray, List.set_cons_zero, List.set_cons_succ, i64_w, i32_w]
        rfl
      refine pureP #[true, true, true, true, true, true, true, true, true, true, true, true, true, true, false, false, false, false, false, false, false] (by kernel_rfl) (i := 13) (N := some 44) ?_
      refine pureP #[true, true, true, true, true, true, true, true, true, true, true, true, true, true, true, false, false, false, false, false, false] (by kernel_rfl) (i := 14) (N := some 45) ?_
      refine pureP #[true, true, true, true, true, true, true, true, true, true, true, true, true, true, true, true, false, false, false, false, false] (by kernel_rfl) (i := 15) (N := some 46) ?_
      refine takeP #[true, true, true, true, true, true, true, true, true, true, true, true, true, true, true, true, true, false, false, false, false] (by kernel_rfl) hHeld (i := 16) (N := some 47) ?_
      refine takeP #[true, true, true, true, true, true, true, true, true, true, true, true, true, true, true, true, true, true, false, false, false] (by kernel_rfl) hHeld (i := 17) (N := some 48) ?_
      refine one_ (i := 18) (N := some 49) #[true, true, true, true, true, true, true, true, true, true, true, true, true, true, true, true, true, true, true, false, false] rfl rfl (by kernel_rfl) (by decide) (fun K hK => ?_)
      refine goes_ Try.func23 (by kernel_rfl) rfl #[.agg #[.int .i64 n, .int .i64 k, .int .i64 i, .float .f64 r, .string s, .int .i64 k', .int .i64 i', .float .f64 r', .string s', .slice (some ⟨gB, 0, none⟩) bl.length cB], .agg #[.int .i64 n, .int .i64 k, .int .i64 i, .float .f64 r, .string s, .int .i64 k', .int .i64 i', .float .f64 r', .string s', .slice As ys.length cs]] (by rfl) rfl rfl (by (try simp only [List.map_toArray, List.map_cons, List.map_nil]); first | done | rfl) ?_
      refine (stays_n bl.length n k i r s k' i' r' s' As (some ⟨gB, 0, none⟩) cs cB ys _ HY.out HS.out.now.2.1.2 HS.out.now.2.1.1 hl ⟨HS.out.now.2.2.2.filC.1, HS.out.now.2.2.2.filC.2⟩).mono ?_
      rintro e_ w_ ⟨rfl, hb_⟩
      refine ⟨_, rfl, ?_⟩
      have HS1 := Aside0.mk (Std.step HS.out hb_)
      clear HS hb_
      have HS := HS1
      clear HS1
      refine hK.out _ _ ⟨cells_3 HS.out.now.2.2.2.b3, cells_10 HS.out.now.2.2.2.b8, cells_10 HS.out.now.1⟩ (fun hHeld => ?_)
      clear hK K
      refine norm_ (a' := ?_) ?_ ?_
      rotate_left
      · show Act.put _ (some 49) _ = _
        simp only [Act.put, List.setIfInBounds_toArray, List.set_cons_zero, List.set_cons_succ, i64_w, i32_w]
        rfl
      refine pureP #[true, true, true, true, true, true, true, true, true, true, true, true, true, true, true, true, true, true, true, true, false] (by kernel_rfl) (i := 19) (N := some 50) ?_
      refine pureP #[true, true, true, true, true, true, true, true, true, true, true, true, true, true, true, true, true, true, true, true, true] (by kernel_rfl) (i := 20) (N := some 51) ?_
      refine done_ (by kernel_rfl) ?_
      clear hHeld
      have HT := Aside0.mk HS.out.now.2.2.2
      clear HS hmm F1 F2 b1
      go_wp2_with (fail)
      go_loopw [12] (fun s12 wr => ∃ (j : Nat) (xs : List SV), j ≤ l.length ∧ s12 = .int .i64 (j : Int) ∧ Aside0 (xs.length = l.length) ∧ Aside0 (okW xs) ∧ Aside0 (Snd w g3 g8 gA (l.length + 2) cA gB (bl.length + 66) cB #[.string c0, .int .i64 ct, .bool cn] #[.int .i64 n, .int .i64 k, .int .i64 i, .float .f64 r, .string s, .int .i64 k', .int .i64 i', .float .f64 r', .string s', .slice (some ⟨gB, 0, none⟩) bl.length cB] (xs ++ mk2) (ys ++ mk66) wr)) (fun i _ => l.length - (intOf i).toNat)
      case atStart => exact ⟨0, xs, by omega, rfl, HX, HOK, HT⟩
      case round =>
        clear HT HX HOK
        obtain ⟨j, xs, hj, rfl, HX, HOK, HT⟩ := hrel
        by_cases hlj : j < l.length
        · have p1 : (0 : Int) ≤ (j : Int) := by omega
          have p2 : (j : Int) < (l.length : Int) := by omega
          have p3 : decide ((j : Int) < (l.length : Int)) = true := decide_eq_true p2
          have p4 : decide (j < l.length) = true := decide_eq_true hlj
          obtain ⟨e0, e1, e2, e3⟩ := el_at (C_leftn HX.out HT.out.inC.2) hlj
          rw [add_off] at e0 e1 e2 e3
          have HLJ := Aside0.mk hlj
          by_cases hk1 : (rd_T28 xs (j : Int)).f0 = 1
          · have k1 : ((rd_T28 xs (j : Int)).f0 == 1) = true := beq_iff_eq.mpr hk1
            clear hk1
            have hf := own_hot HT.out.ra (j := j) (by omega) 1
            go_wp2_with (fail)
            go_roundw
            case rel => exact ⟨j + 1, xs.set j (⟨(rd_T28 xs (j : Int)).f0, Go.bits .xor .i64 (rd_T28 xs (j : Int)).f1 1, (rd_T28 xs (j : Int)).f2, (rd_T28 xs (j : Int)).f3⟩ : SV), by omega, by go_num, ⟨by rw [List.length_set]; exact HX.out⟩, ⟨okW_set HOK.out j (HOK.out (rd_T28 xs (j : Int)) (rdv_mem (by have := HX.out; have := HLJ.out; omega)))⟩, ⟨HT.out.putA HX.out HLJ.out _⟩⟩
            case measure => simp [intOf]; omega
          · have k1 : ((rd_T28 xs (j : Int)).f0 == 1) = false := beq_eq_false_iff_ne.mpr hk1
            clear hk1
            go_wp2_with (fail)
            go_roundw
            case rel => exact ⟨j + 1, xs, by omega, by go_num, HX, HOK, HT⟩
            case measure => simp [intOf]; omega
        · have p3 : decide ((j : Int) < (l.length : Int)) = false := decide_eq_false (by omega)
          have p4 : decide (j < l.length) = false := decide_eq_false hlj
          go_wp2_with (fail)
          clear p3 p4
          go_loopw [13] (fun s13 wr => ∃ (z : Nat) (ys : List Int), z ≤ bl.length ∧ s13 = .int .i64 (z : Int) ∧ Aside0 (ys.length = bl.length) ∧ Aside0 (Snd w g3 g8 gA (l.length + 2) cA gB (bl.length + 66) cB #[.string c0, .int .i64 ct, .bool cn] #[.int .i64 n, .int .i64 k, .int .i64 i, .float .f64 r, .string s, .int .i64 k', .int .i64 i', .float .f64 r', .string s', .slice (some ⟨gB, 0, none⟩) bl.length cB] (xs ++ mk2) (ys ++ mk66) wr)) (fun i _ => bl.length - (intOf i).toNat)
          case atStart => exact ⟨0, ys, by omega, rfl, HY, HT⟩
          case round =>
            clear HT HY
            obtain ⟨z, ys, hz, rfl, HY, HT⟩ := hrel
            have HS := Aside0.mk (Snd.std HT.out)
            clear HT
            by_cases hlz : z < bl.length
            · have p3 : decide ((z : Int) < (bl.length : Int)) = true := decide_eq_true (by omega)
              have p4 : decide (z < bl.length) = true := decide_eq_true hlz
              have p1 : (0 : Int) ≤ (z : Int) := by omega
              have p2 : (z : Int) < (bl.length : Int) := by omega
              have HLZ := Aside0.mk hlz
              go_upto_region 19 with ((with_reducible refine gate_dst (N := 76) rfl ?_); refine ld_fld rfl 29 _ rfl (.slice (some ⟨gB, 0, none⟩) bl.length cB) (by rfl) (HS.out.now.b8) (by rfl) hu29 rfl ?_)
              have HS1 := Aside0.mk (Std.step HS.out (below_drew1 (Below.refl _ _)))
              refine start_ (n := 11) (S := fun w' => w'.cell? ⟨g8, 9, none⟩ = some (.slice (some ⟨gB, 0, none⟩) bl.length cB) ∧ w'.cell? ⟨gB, z, none⟩ = some (.int .u8 (rd (ys ++ mk66) (z : Int)))) (ds := [10]) #[false, false, false, false, false, false, false, false, false, false, false] (by kernel_rfl) rfl rfl ⟨(blk_cell HS1.out.now.b8 9).trans rfl, (fil_at HS1.out.now (z := z) (by have := HLZ.out; omega)).1⟩ (fun hHeld => ?_)
              clear HS
              have HS := HS1
              clear HS1
              generalize World.drew _ = z1 at HS hHeld ⊢
              refine pureP #[true, false, false, false, false, false, false, false, false, false, false] (by kernel_rfl) (i := 0) (N := some 81) ?_
              refine takeP #[true, true, false, false, false, false, false, false, false, false, false] (by kernel_rfl) hHeld (i := 1) (N := some 82) ?_
              refine pureP #[true, true, true, false, false, false, false, false, false, false, false] (by kernel_rfl) (i := 2) (N := some 83) ?_
              refine pureP #[true, true, true, true, false, false, false, false, false, false, false] (by kernel_rfl) (i := 3) (N := some 84) ?_
              refine takeP #[true, true, true, true, true, false, false, false, false, false, false] (by kernel_rfl) hHeld (i := 4) (N := some 85) ?_
              refine pureP #[true, true, true, true, true, true, false, false, false, false, false] (by kernel_rfl) (i := 5) (N := some 86) ?_
              refine pureP #[true, true, true, true, true, true, true, false, false, false, false] (by kernel_rfl) (i := 6) (N := some 87) ?_
              refine takeP #[true, true, true, true, true, true, true, true, false, false, false] (by kernel_rfl) hHeld (i := 7) (N := some 88) ?_
              refine pureP #[true, true, true, true, true, true, true, true, true, false, false] (by kernel_rfl) (i := 8) (N := some 89) ?_
              refine pureP #[true, true, true, true, true, true, true, true, true, true, false] (by kernel_rfl) (i := 9) (N := some 90) ?_
              refine last_ (i := 10) (N := none) #[true, true, true, true, true, true, true, true, true, true, true] rfl rfl (by kernel_rfl) (by decide) (fun K hK => ?_)
              have hz_ := (fil_at HS.out.now (z := z) (by have := HLZ.out; omega)).1
              have hf_ := (fil_at HS.out.now (z := z) (by have := HLZ.out; omega)).2
              refine st_fld_step (W' := World.setCell z1 ⟨gB, z, none⟩ (.int .u8 (Go.bits .xor .u8 (rd (ys ++ mk66) (z : Int)) 9))) (by rfl) rfl (by go_simp) ?_
              clear hz_ hf_
              have HT := Aside0.mk (HS.out.now.putB z (Go.bits .xor .u8 (rd (ys ++ mk66) (z : Int)) 9))
              clear HS
              generalize World.setCell z1 _ _ = y9 at HT ⊢
              refine hK.out _ _ ?_
              clear hK K
              refine norm_ (a' := ?_) ?_ ?_
              rotate_left
              · show Act.put _ (none) _ = _
                simp only [Act.put, List.setIfInBounds_toArray, List.set_cons_zero, List.set_cons_succ, i64_w, i32_w]
                rfl
              refine done_ (by kernel_rfl) ?_
              clear hHeld
              go_wp2_with (fail)
              go_roundw
              case rel => exact ⟨z + 1, ys.set z (Go.bits .xor .u8 (rd (ys ++ mk66) (z : Int)) 9), by omega, by go_num, ⟨by rw [List.length_set]; exact HY.out⟩, by rw [List.set_append_left _ _ (by have := HY.out; have := HLZ.out; omega)] at HT; exact HT⟩
              case measure => simp [intOf]; omega
            · have p3 : decide ((z : Int) < (bl.length : Int)) = false := decide_eq_false (by omega)
              have p4 : decide (z < bl.length) = false := decide_eq_false hlz
              go_wp2_with ((with_reducible refine gate_dst (N := 76) rfl ?_); refine ld_fld rfl 29 _ rfl (.slice (some ⟨gB, 0, none⟩) bl.length cB) (by rfl) (HS.out.now.b8) (by rfl) hu29 rfl ?_)
              go_roundw
              case rel => exact ⟨t + 1, xs, ys, by omega, by go_num, HX, HY, HOK, ⟨HS.out.now⟩⟩
              case measure => simp [intOf]; omega
    · have b1 : decide ((t : Int) < 2) = false := decide_eq_false (by omega)
      go_wp2_with (fail)
      go_ret
      exact ⟨rfl, HT.out.hb⟩
theorem Walk.ZoneSounds (c0 : ByteArray) (ct : Int) (cn : Bool) (A0 : Option Addr) (ca : Nat) (l : List SV) (n k i : Int) (r : Nat) (s : ByteArray) (k' i' : Int) (r' : Nat) (s' : ByteArray) (A : Option Addr) (c : Nat) (bl : List Int) (w : World) (hl0 : Kd.C k28 w A0 l.length l) (hlc : l.length ≤ ca) (hr : Kd.C (Kd.int .u8) w A bl.length bl) (hc : bl.length ≤ c)
    (h0 : okS23 ⟨c0, ct, cn⟩) (h1 : l.length * 40 ≤ 140737488351232 ∧ ∀ y0_ ∈ l, okS28 y0_) (h2 : okS31 ⟨n, ⟨k, i, r, s⟩, ⟨k', i', r', s'⟩, bl⟩) : Calls Try.prog 5 #[.agg #[.string c0, .int .i64 ct, .bool cn], .slice A0 l.length ca, .agg #[.int .i64 n, .int .i64 k, .int .i64 i, .float .f64 r, .string s, .int .i64 k', .int .i64 i', .float .f64 r', .string s', .slice A bl.length c]] w fun e w' => e = .returned (.bool true) ∧ Below w.heap.size w w' :=
  zoneSounds_walk c0 ct cn A0 ca l n k i r s k' i' r' s' A c bl w hl0 hlc (by omega) (fun x hx => F.wf_word (h1.2 x hx).2.2.1) hr hc (by have q_ : bl.length * 1 ≤ 140737488351232 := h2.2.2.2.1; omega) (F.wf_word h2.2.1.2.2.1) (F.wf_word h2.2.2.1.2.2.1)
end Go.Proofs.Ythiidgmemoineaa.Pa
