/- The texts of AtomBounded, merged: part 8. -/
import Derived.Test.YtkedejphebfneaaQAtomBounded3
import Derived.Test.YtkedejphebfneaaQAtomBounded5
/- How the arguments of this layer's laws open: by their types. -/
namespace Go.Proofs.Ytkedejphebfneaa.Pa
open Go.RowKit Go.Proofs.Ytkedejphebfneaa.O Go.Proofs.YtkedejphebfneaaW.PrintWords
set_option linter.unusedVariables false
def okS28 (x : S28) : Prop := (Lit.int .i64 x.f0).wf = true ∧ (Lit.int .i64 x.f1).wf = true ∧ (Lit.float .f64 x.f2).wf = true ∧ x.f3.size ≤ 140737488351232
def bS28 (x : S28) : Nat := (fun _ => 1) x.f0 + (fun _ => 1) x.f1 + (fun _ => 1) x.f2 + (fun s : ByteArray => s.size + 1) x.f3 + 1
set_option maxRecDepth 20000 in
theorem open_S28 {H : Type} {enc : TypeId × Value → H} {W : World} (fuel : Nat) : Opens enc Try.prog W 28 k28 okS28 bS28 fuel := by
 intro cs y ps h hw
 obtain ⟨xs, n, rfl, hx, hcl, hl, hf⟩ := DataW.trod_struct Try.underlying28 h
 obtain ⟨rfl, rfl⟩ := Prod.mk.inj hx
 have hct : Try.prog.cellsOf 28 = 4 := by kernel_rfl
 rw [hct] at hcl
 obtain ⟨x0, k0_, o0, m0_⟩ := field_of 0 _ hl rfl hf Try.underlying28 hw (show Opens enc Try.prog W 3 (Kd.int .i64) (fun x_ => (Lit.int .i64 x_).wf = true) (fun _ => 1) n from (opens_int Try.underlying3))
 have z0 : Try.prog.cellsOf 3 = 1 := by kernel_rfl
 replace k0_ : ((Kd.int .i64)).K W x0 ((cs.drop 0).take 1) := by rw [← z0]; exact k0_
 have e0 : (cs.drop 0).take 1 = [.int .i64 x0] := k0_
 obtain ⟨x1, k1_, o1, m1_⟩ := field_of 1 _ hl rfl hf Try.underlying28 hw (show Opens enc Try.prog W 2 (Kd.int .i64) (fun x_ => (Lit.int .i64 x_).wf = true) (fun _ => 1) n from (opens_int Try.underlying2))
 have z1 : Try.prog.cellsOf 2 = 1 := by kernel_rfl
 replace k1_ : ((Kd.int .i64)).K W x1 ((cs.drop 1).take 1) := by rw [← z1]; exact k1_
 have e1 : (cs.drop 1).take 1 = [.int .i64 x1] := k1_
 obtain ⟨x2, k2_, o2, m2_⟩ := field_of 2 _ hl rfl hf Try.underlying28 hw (show Opens enc Try.prog W 26 Kd.f64 (fun x_ => (Lit.float .f64 x_).wf = true) (fun _ => 1) n from (opens_float Try.underlying26))
 have z2 : Try.prog.cellsOf 26 = 1 := by kernel_rfl
 replace k2_ : (Kd.f64).K W x2 ((cs.drop 2).take 1) := by rw [← z2]; exact k2_
 have e2 : (cs.drop 2).take 1 = [.float .f64 x2] := k2_
 obtain ⟨x3, k3_, o3, m3_⟩ := field_of 3 _ hl rfl hf Try.underlying28 hw (show Opens enc Try.prog W 9 Kd.string (fun x_ => x_.size ≤ 140737488351232) (fun s : ByteArray => s.size + 1) n from (opens_string Try.underlying9))
 have z3 : Try.prog.cellsOf 9 = 1 := by kernel_rfl
 replace k3_ : (Kd.string).K W x3 ((cs.drop 3).take 1) := by rw [← z3]; exact k3_
 have e3 : (cs.drop 3).take 1 = [.string x3] := k3_
 have hcs : cs = [.int .i64 x0, .int .i64 x1, .float .f64 x2, .string x3] := by
  have t0 : cs.drop 0 = (cs.drop 0).take 1 ++ cs.drop 1 := cut_at cs 0 1
  have t1 : cs.drop 1 = (cs.drop 1).take 1 ++ cs.drop 2 := cut_at cs 1 1
  have t2 : cs.drop 2 = (cs.drop 2).take 1 ++ cs.drop 3 := cut_at cs 2 1
  have t3 : cs.drop 3 = (cs.drop 3).take 1 ++ cs.drop 4 := cut_at cs 3 1
  have hd : cs.drop 4 = [] := List.drop_eq_nil_of_le (by omega)
  have h0 : cs = cs.drop 0 := rfl
  rw [h0, t0, e0, t1, e1, t2, e2, t3, e3, hd]
  rfl
 have hbulk : bS28 (⟨x0, x1, x2, x3⟩ : S28) ≤ Rows.uptoBulk (DataW.agg (xs.map (·.1))) := by
  have hxl : (xs.map (·.1)).length = 4 := by rw [List.length_map, hl]; rfl
  have hs := bulk_sum (xs.map (·.1))
  rw [hxl] at hs
  simp only [List.range, List.range.loop, List.map_cons, List.map_nil, List.sum_cons, List.sum_nil] at hs
  simp only [bS28, Rows.uptoBulk]
  rw [hs]
  have t_ := (Nat.add_le_add (Nat.add_le_add (Nat.add_le_add m0_ m1_) m2_) m3_)
  exact Nat.succ_le_succ (Nat.le_trans t_ (by omega))
 exact ⟨⟨x0, x1, x2, x3⟩, by rw [hcs]; exact k28_mk W (⟨x0, x1, x2, x3⟩ : S28) , ⟨o0, o1, o2, o3⟩, hbulk⟩
inductive okS32 : S32 → Prop where
 | mk (x : S32) (h0 : (Lit.int .i64 x.f0).wf = true) (h1 : x.f1.size ≤ 140737488351232) (h2 : (Lit.int .i64 x.f2).wf = true) (h3 : okS28 x.f3) (h4 : (x.f4.length * 40 ≤ 140737488351232 ∧ ∀ y0_ ∈ x.f4, okS28 y0_)) (h5 : x.f5.length * 120 ≤ 140737488351232) (g5 : ∀ y0_ ∈ x.f5, okS32 y0_) : okS32 x
def bS32 (_x : S32) : Nat := 1
set_option maxRecDepth 20000 in
theorem open_S32 {H : Type} {enc : TypeId × Value → H} {W : World} (fuel : Nat) : Opens enc Try.prog W 32 k32 okS32 bS32 fuel := by
 induction fuel using Nat.strongRecOn with
 | _ fuel ih =>
 intro cs y ps h hw
 obtain ⟨xs, n, rfl, hx, hcl, hl, hf⟩ := DataW.trod_struct Try.underlying32 h
 obtain ⟨rfl, rfl⟩ := Prod.mk.inj hx
 have hct : Try.prog.cellsOf 32 = 9 := by kernel_rfl
 rw [hct] at hcl
 obtain ⟨x0, k0_, o0, m0_⟩ := field_of 0 _ hl rfl hf Try.underlying32 hw (show Opens enc Try.prog W 3 (Kd.int .i64) (fun x_ => (Lit.int .i64 x_).wf = true) (fun _ => 1) n from (opens_int Try.underlying3))
 have z0 : Try.prog.cellsOf 3 = 1 := by kernel_rfl
 replace k0_ : ((Kd.int .i64)).K W x0 ((cs.drop 0).take 1) := by rw [← z0]; exact k0_
 have e0 : (cs.drop 0).take 1 = [.int .i64 x0] := k0_
 obtain ⟨x1, k1_, o1, m1_⟩ := field_of 1 _ hl rfl hf Try.underlying32 hw (show Opens enc Try.prog W 9 Kd.string (fun x_ => x_.size ≤ 140737488351232) (fun s : ByteArray => s.size + 1) n from (opens_string Try.underlying9))
 have z1 : Try.prog.cellsOf 9 = 1 := by kernel_rfl
 replace k1_ : (Kd.string).K W x1 ((cs.drop 1).take 1) := by rw [← z1]; exact k1_
 have e1 : (cs.drop 1).take 1 = [.string x1] := k1_
 obtain ⟨x2, k2_, o2, m2_⟩ := field_of 2 _ hl rfl hf Try.underlying32 hw (show Opens enc Try.prog W 3 (Kd.int .i64) (fun x_ => (Lit.int .i64 x_).wf = true) (fun _ => 1) n from (opens_int Try.underlying3))
 have z2 : Try.prog.cellsOf 3 = 1 := by kernel_rfl
 replace k2_ : ((Kd.int .i64)).K W x2 ((cs.drop 2).take 1) := by rw [← z2]; exact k2_
 have e2 : (cs.drop 2).take 1 = [.int .i64 x2] := k2_
 obtain ⟨x3, k3_, o3, m3_⟩ := field_of 3 _ hl rfl hf Try.underlying32 hw (show Opens enc Try.prog W 28 k28 (fun x_ => okS28 x_) bS28 n from (open_S28 n))
 have z3 : Try.prog.cellsOf 28 = 4 := by kernel_rfl
 replace k3_ : (k28).K W x3 ((cs.drop 3).take 4) := by rw [← z3]; exact k3_
 obtain e3 := k28_open k3_
 obtain ⟨x4, k4_, o4, m4_⟩ := field_of 4 _ hl rfl hf Try.underlying32 hw (show Opens enc Try.prog W 25 (Kd.slice 28 k28) (fun x_ => (x_.length * 40 ≤ 140737488351232 ∧ ∀ y0_ ∈ x_, okS28 y0_)) (sumB bS28) n from (opens_slice (d := k28) (ok := (fun x_ => okS28 x_)) (m := bS28) 40 Try.underlying25 (by kernel_rfl) (by kernel_rfl) (fun m_ hm_ => (open_S28 m_))))
 have z4 : Try.prog.cellsOf 25 = 1 := by kernel_rfl
 replace k4_ : ((Kd.slice 28 k28)).K W x4 ((cs.drop 7).take 1) := by rw [← z4]; exact k4_
 obtain ⟨A4, c4, e4, l4, g4⟩ := k4_
 obtain ⟨x5, k5_, o5, m5_⟩ := field_of 5 _ hl rfl hf Try.underlying32 hw (show Opens enc Try.prog W 30 (Kd.slice 32 k32) (fun x_ => (x_.length * 120 ≤ 140737488351232 ∧ ∀ y0_ ∈ x_, okS32 y0_)) (sumB bS32) n from (opens_slice (d := k32) (ok := (fun x_ => okS32 x_)) (m := bS32) 120 Try.underlying30 (by kernel_rfl) (by kernel_rfl) (fun m_ hm_ => ih m_ (by omega))))
 have z5 : Try.prog.cellsOf 30 = 1 := by kernel_rfl
 replace k5_ : ((Kd.slice 32 k32)).K W x5 ((cs.drop 8).take 1) := by rw [← z5]; exact k5_
 obtain ⟨A5, c5, e5, l5, g5⟩ := k5_
 have hcs : cs = [.int .i64 x0, .string x1, .int .i64 x2, .int .i64 x3.f0, .int .i64 x3.f1, .float .f64 x3.f2, .string x3.f3, .slice A4 x4.length c4, .slice A5 x5.length c5] := by
  have t0 : cs.drop 0 = (cs.drop 0).take 1 ++ cs.drop 1 := cut_at cs 0 1
  have t1 : cs.drop 1 = (cs.drop 1).take 1 ++ cs.drop 2 := cut_at cs 1 1
  have t2 : cs.drop 2 = (cs.drop 2).take 1 ++ cs.drop 3 := cut_at cs 2 1
  have t3 : cs.drop 3 = (cs.drop 3).take 4 ++ cs.drop 7 := cut_at cs 3 4
  have t4 : cs.drop 7 = (cs.drop 7).take 1 ++ cs.drop 8 := cut_at cs 7 1
  have t5 : cs.drop 8 = (cs.drop 8).take 1 ++ cs.drop 9 := cut_at cs 8 1
  have hd : cs.drop 9 = [] := List.drop_eq_nil_of_le (by omega)
  have h0 : cs = cs.drop 0 := rfl
  rw [h0, t0, e0, t1, e1, t2, e2, t3, e3, t4, e4, t5, e5, hd]
  rfl
 have hbulk : bS32 (⟨x0, x1, x2, x3, x4, x5⟩ : S32) ≤ Rows.uptoBulk (DataW.agg (xs.map (·.1))) := one_le _
 exact ⟨⟨x0, x1, x2, x3, x4, x5⟩, by rw [hcs]; exact k32_mk W (⟨x0, x1, x2, x3, x4, x5⟩ : S32) l4 g4 l5 g5, .mk _ o0 o1 o2 o3 o4 o5.1 o5.2, hbulk⟩
end Go.Proofs.Ytkedejphebfneaa.Pa
