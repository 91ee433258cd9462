/- The texts of CursorSticky, merged: part 6. -/
import Derived.Test.YthpoomdillhcbaaQCursorSticky3
import Derived.Test.YthpoomdillhcbaaQCursorSticky5
/- How the arguments of this layer's laws open: by their types. -/
namespace Go.Proofs.Ythpoomdillhcbaa.Pa
open Go.RowKit Go.Proofs.Ythpoomdillhcbaa.O Go.Proofs.YthpoomdillhcbaaW.PrintWords
set_option linter.unusedVariables false
def okS30 (x : S30) : Prop := (x.f0.length * 1 ≤ 140737488351232 ∧ ∀ y0_ ∈ x.f0, (Lit.int .u8 y0_).wf = true) ∧ (Lit.int .u64 x.f1).wf = true ∧ (Lit.int .i64 x.f2).wf = true ∧ (x.f3.length * 1 ≤ 140737488351232 ∧ ∀ y0_ ∈ x.f3, (Lit.int .u8 y0_).wf = true) ∧ (x.f4.length * 16 ≤ 140737488351232 ∧ ∀ y0_ ∈ x.f4, y0_.size ≤ 140737488351232)
def bS30 (x : S30) : Nat := (sumB (fun _ => 1)) x.f0 + (fun _ => 1) x.f1 + (fun _ => 1) x.f2 + (sumB (fun _ => 1)) x.f3 + (sumB (fun s : ByteArray => s.size + 1)) x.f4 + 1
set_option maxRecDepth 20000 in
theorem open_S30 {H : Type} {enc : TypeId × Value → H} {W : World} (fuel : Nat) : Opens enc Try.prog W 30 k30 okS30 bS30 fuel := by
  intro cs y ps h hw
  obtain ⟨xs, n, rfl, hx, hcl, hl, hf⟩ := DataW.trod_struct Try.underlying30 h
  obtain ⟨rfl, rfl⟩ := Prod.mk.inj hx
  have hct : Try.prog.cellsOf 30 = 5 := by kernel_rfl
  rw [hct] at hcl
  obtain ⟨x0, k0_, o0, m0_⟩ := field_of 0 _ hl rfl hf Try.underlying30 hw (show Opens enc Try.prog W 24 (Kd.slice 5 (Kd.int .u8)) (fun x_ => (x_.length * 1 ≤ 140737488351232 ∧ ∀ y0_ ∈ x_, (Lit.int .u8 y0_).wf = true)) (sumB (fun _ => 1)) n from (opens_slice (d := (Kd.int .u8)) (ok := (fun x_ => (Lit.int .u8 x_).wf = true)) (m := (fun _ => 1)) 1 Try.underlying24 (by kernel_rfl) (by kernel_rfl) (fun m_ hm_ => (opens_int Try.underlying5))))
  have z0 : Try.prog.cellsOf 24 = 1 := by kernel_rfl
  replace k0_ : ((Kd.slice 5 (Kd.int .u8))).K W x0 ((cs.drop 0).take 1) := by rw [← z0]; exact k0_
  obtain ⟨A0, c0, e0, l0, g0⟩ := k0_
  obtain ⟨x1, k1_, o1, m1_⟩ := field_of 1 _ hl rfl hf Try.underlying30 hw (show Opens enc Try.prog W 23 (Kd.int .u64) (fun x_ => (Lit.int .u64 x_).wf = true) (fun _ => 1) n from (opens_int Try.underlying23))
  have z1 : Try.prog.cellsOf 23 = 1 := by kernel_rfl
  replace k1_ : ((Kd.int .u64)).K W x1 ((cs.drop 1).take 1) := by rw [← z1]; exact k1_
  have e1 : (cs.drop 1).take 1 = [.int .u64 x1] := k1_
  obtain ⟨x2, k2_, o2, m2_⟩ := field_of 2 _ hl rfl hf Try.underlying30 hw (show Opens enc Try.prog W 2 (Kd.int .i64) (fun x_ => (Lit.int .i64 x_).wf = true) (fun _ => 1) n from (opens_int Try.underlying2))
  have z2 : Try.prog.cellsOf 2 = 1 := by kernel_rfl
  replace k2_ : ((Kd.int .i64)).K W x2 ((cs.drop 2).take 1) := by rw [← z2]; exact k2_
  have e2 : (cs.drop 2).take 1 = [.int .i64 x2] := k2_
  obtain ⟨x3, k3_, o3, m3_⟩ := field_of 3 _ hl rfl hf Try.underlying30 hw (show Opens enc Try.prog W 24 (Kd.slice 5 (Kd.int .u8)) (fun x_ => (x_.length * 1 ≤ 140737488351232 ∧ ∀ y0_ ∈ x_, (Lit.int .u8 y0_).wf = true)) (sumB (fun _ => 1)) n from (opens_slice (d := (Kd.int .u8)) (ok := (fun x_ => (Lit.int .u8 x_).wf = true)) (m := (fun _ => 1)) 1 Try.underlying24 (by kernel_rfl) (by kernel_rfl) (fun m_ hm_ => (opens_int Try.underlying5))))
  have z3 : Try.prog.cellsOf 24 = 1 := by kernel_rfl
  replace k3_ : ((Kd.slice 5 (Kd.int .u8))).K W x3 ((cs.drop 3).take 1) := by rw [← z3]; exact k3_
  obtain ⟨A3, c3, e3, l3, g3⟩ := k3_
  obtain ⟨x4, k4_, o4, m4_⟩ := field_of 4 _ hl rfl hf Try.underlying30 hw (show Opens enc Try.prog W 28 (Kd.slice 9 Kd.string) (fun x_ => (x_.length * 16 ≤ 140737488351232 ∧ ∀ y0_ ∈ x_, y0_.size ≤ 140737488351232)) (sumB (fun s : ByteArray => s.size + 1)) n from (opens_slice (d := Kd.string) (ok := (fun x_ => x_.size ≤ 140737488351232)) (m := (fun s : ByteArray => s.size + 1)) 16 Try.underlying28 (by kernel_rfl) (by kernel_rfl) (fun m_ hm_ => (opens_string Try.underlying9))))
  have z4 : Try.prog.cellsOf 28 = 1 := by kernel_rfl
  replace k4_ : ((Kd.slice 9 Kd.string)).K W x4 ((cs.drop 4).take 1) := by rw [← z4]; exact k4_
  obtain ⟨A4, c4, e4, l4, g4⟩ := k4_
  have hcs : cs = [.slice A0 x0.length c0, .int .u64 x1, .int .i64 x2, .slice A3 x3.length c3, .slice A4 x4.length c4] := by
    have t0 : cs.drop 0 = (cs.drop 0).take 1 ++ cs.drop 1 := cut_at cs 0 1
    have t1 : cs.drop 1 = (cs.drop 1).take 1 ++ cs.drop 2 := cut_at cs 1 1
    have t2 : cs.drop 2 = (cs.drop 2).take 1 ++ cs.drop 3 := cut_at cs 2 1
    have t3 : cs.drop 3 = (cs.drop 3).take 1 ++ cs.drop 4 := cut_at cs 3 1
    have t4 : cs.drop 4 = (cs.drop 4).take 1 ++ cs.drop 5 := cut_at cs 4 1
    have hd : cs.drop 5 = [] := List.drop_eq_nil_of_le (by omega)
    have h0 : cs = cs.drop 0 := rfl
    rw [h0, t0, e0, t1, e1, t2, e2, t3, e3, t4, e4, hd]
    rfl
  have hbulk : bS30 (⟨x0, x1, x2, x3, x4⟩ : S30) ≤ Rows.uptoBulk (DataW.agg (xs.map (·.1))) := by
    have hxl : (xs.map (·.1)).length = 5 := by rw [List.length_map, hl]; rfl
    have hs := bulk_sum (xs.map (·.1))
    rw [hxl] at hs
    simp only [List.range, List.range.loop, List.map_cons, List.map_nil, List.sum_cons, List.sum_nil] at hs
    simp only [bS30, Rows.uptoBulk]
    rw [hs]
    have t_ := (Nat.add_le_add (Nat.add_le_add (Nat.add_le_add (Nat.add_le_add m0_ m1_) m2_) m3_) m4_)
    exact Nat.succ_le_succ (Nat.le_trans t_ (by omega))
  exact ⟨⟨x0, x1, x2, x3, x4⟩, by rw [hcs]; exact k30_mk W (⟨x0, x1, x2, x3, x4⟩ : S30) l0 g0 l3 g3 l4 g4, ⟨o0, o1, o2, o3, o4⟩, hbulk⟩
def okS48 (x : S48) : Prop := (Lit.int .i64 x.f0).wf = true ∧ (Lit.int .i64 x.f1).wf = true ∧ (Lit.int .i64 x.f2).wf = true ∧ (Lit.int .i64 x.f3).wf = true
def bS48 (x : S48) : Nat := (fun _ => 1) x.f0 + (fun _ => 1) x.f1 + (fun _ => 1) x.f2 + (fun _ => 1) x.f3 + 1
set_option maxRecDepth 20000 in
theorem open_S48 {H : Type} {enc : TypeId × Value → H} {W : World} (fuel : Nat) : Opens enc Try.prog W 48 k48 okS48 bS48 fuel := by
  intro cs y ps h hw
  obtain ⟨xs, n, rfl, hx, hcl, hl, hf⟩ := DataW.trod_struct Try.underlying48 h
  obtain ⟨rfl, rfl⟩ := Prod.mk.inj hx
  have hct : Try.prog.cellsOf 48 = 4 := by kernel_rfl
  rw [hct] at hcl
  obtain ⟨x0, k0_, o0, m0_⟩ := field_of 0 _ hl rfl hf Try.underlying48 hw (show Opens enc Try.prog W 3 (Kd.int .i64) (fun x_ => (Lit.int .i64 x_).wf = true) (fun _ => 1) n from (opens_int Try.underlying3))
  have z0 : Try.prog.cellsOf 3 = 1 := by kernel_rfl
  replace k0_ : ((Kd.int .i64)).K W x0 ((cs.drop 0).take 1) := by rw [← z0]; exact k0_
  have e0 : (cs.drop 0).take 1 = [.int .i64 x0] := k0_
  obtain ⟨x1, k1_, o1, m1_⟩ := field_of 1 _ hl rfl hf Try.underlying48 hw (show Opens enc Try.prog W 3 (Kd.int .i64) (fun x_ => (Lit.int .i64 x_).wf = true) (fun _ => 1) n from (opens_int Try.underlying3))
  have z1 : Try.prog.cellsOf 3 = 1 := by kernel_rfl
  replace k1_ : ((Kd.int .i64)).K W x1 ((cs.drop 1).take 1) := by rw [← z1]; exact k1_
  have e1 : (cs.drop 1).take 1 = [.int .i64 x1] := k1_
  obtain ⟨x2, k2_, o2, m2_⟩ := field_of 2 _ hl rfl hf Try.underlying48 hw (show Opens enc Try.prog W 3 (Kd.int .i64) (fun x_ => (Lit.int .i64 x_).wf = true) (fun _ => 1) n from (opens_int Try.underlying3))
  have z2 : Try.prog.cellsOf 3 = 1 := by kernel_rfl
  replace k2_ : ((Kd.int .i64)).K W x2 ((cs.drop 2).take 1) := by rw [← z2]; exact k2_
  have e2 : (cs.drop 2).take 1 = [.int .i64 x2] := k2_
  obtain ⟨x3, k3_, o3, m3_⟩ := field_of 3 _ hl rfl hf Try.underlying48 hw (show Opens enc Try.prog W 3 (Kd.int .i64) (fun x_ => (Lit.int .i64 x_).wf = true) (fun _ => 1) n from (opens_int Try.underlying3))
  have z3 : Try.prog.cellsOf 3 = 1 := by kernel_rfl
  replace k3_ : ((Kd.int .i64)).K W x3 ((cs.drop 3).take 1) := by rw [← z3]; exact k3_
  have e3 : (cs.drop 3).take 1 = [.int .i64 x3] := k3_
  have hcs : cs = [.int .i64 x0, .int .i64 x1, .int .i64 x2, .int .i64 x3] := by
    have t0 : cs.drop 0 = (cs.drop 0).take 1 ++ cs.drop 1 := cut_at cs 0 1
    have t1 : cs.drop 1 = (cs.drop 1).take 1 ++ cs.drop 2 := cut_at cs 1 1
    have t2 : cs.drop 2 = (cs.drop 2).take 1 ++ cs.drop 3 := cut_at cs 2 1
    have t3 : cs.drop 3 = (cs.drop 3).take 1 ++ cs.drop 4 := cut_at cs 3 1
    have hd : cs.drop 4 = [] := List.drop_eq_nil_of_le (by omega)
    have h0 : cs = cs.drop 0 := rfl
    rw [h0, t0, e0, t1, e1, t2, e2, t3, e3, hd]
    rfl
  have hbulk : bS48 (⟨x0, x1, x2, x3⟩ : S48) ≤ Rows.uptoBulk (DataW.agg (xs.map (·.1))) := by
    have hxl : (xs.map (·.1)).length = 4 := by rw [List.length_map, hl]; rfl
    have hs := bulk_sum (xs.map (·.1))
    rw [hxl] at hs
    simp only [List.range, List.range.loop, List.map_cons, List.map_nil, List.sum_cons, List.sum_nil] at hs
    simp only [bS48, Rows.uptoBulk]
    rw [hs]
    have t_ := (Nat.add_le_add (Nat.add_le_add (Nat.add_le_add m0_ m1_) m2_) m3_)
    exact Nat.succ_le_succ (Nat.le_trans t_ (by omega))
  exact ⟨⟨x0, x1, x2, x3⟩, by rw [hcs]; exact k48_mk W (⟨x0, x1, x2, x3⟩ : S48) , ⟨o0, o1, o2, o3⟩, hbulk⟩
def okS76 (x : S76) : Prop := (Lit.int .i64 x.f0).wf = true ∧ (Lit.int .u64 x.f1).wf = true ∧ (Lit.int .i64 x.f2).wf = true ∧ (x.f3.length * 1 ≤ 140737488351232 ∧ ∀ y0_ ∈ x.f3, (Lit.int .u8 y0_).wf = true) ∧ (x.f4.length * 16 ≤ 140737488351232 ∧ ∀ y0_ ∈ x.f4, y0_.size ≤ 140737488351232)
def bS76 (x : S76) : Nat := (fun _ => 1) x.f0 + (fun _ => 1) x.f1 + (fun _ => 1) x.f2 + (sumB (fun _ => 1)) x.f3 + (sumB (fun s : ByteArray => s.size + 1)) x.f4 + 1
set_option maxRecDepth 20000 in
theorem open_S76 {H : Type} {enc : TypeId × Value → H} {W : World} (fuel : Nat) : Opens enc Try.prog W 76 k76 okS76 bS76 fuel := by
  intro cs y ps h hw
  obtain ⟨xs, n, rfl, hx, hcl, hl, hf⟩ := DataW.trod_struct Try.underlying76 h
  obtain ⟨rfl, rfl⟩ := Prod.mk.inj hx
  have hct : Try.prog.cellsOf 76 = 5 := by kernel_rfl
  rw [hct] at hcl
  obtain ⟨x0, k0_, o0, m0_⟩ := field_of 0 _ hl rfl hf Try.underlying76 hw (show Opens enc Try.prog W 3 (Kd.int .i64) (fun x_ => (Lit.int .i64 x_).wf = true) (fun _ => 1) n from (opens_int Try.underlying3))
  have z0 : Try.prog.cellsOf 3 = 1 := by kernel_rfl
  replace k0_ : ((Kd.int .i64)).K W x0 ((cs.drop 0).take 1) := by rw [← z0]; exact k0_
  have e0 : (cs.drop 0).take 1 = [.int .i64 x0] := k0_
  obtain ⟨x1, k1_, o1, m1_⟩ := field_of 1 _ hl rfl hf Try.underlying76 hw (show Opens enc Try.prog W 23 (Kd.int .u64) (fun x_ => (Lit.int .u64 x_).wf = true) (fun _ => 1) n from (opens_int Try.underlying23))
  have z1 : Try.prog.cellsOf 23 = 1 := by kernel_rfl
  replace k1_ : ((Kd.int .u64)).K W x1 ((cs.drop 1).take 1) := by rw [← z1]; exact k1_
  have e1 : (cs.drop 1).take 1 = [.int .u64 x1] := k1_
  obtain ⟨x2, k2_, o2, m2_⟩ := field_of 2 _ hl rfl hf Try.underlying76 hw (show Opens enc Try.prog W 2 (Kd.int .i64) (fun x_ => (Lit.int .i64 x_).wf = true) (fun _ => 1) n from (opens_int Try.underlying2))
  have z2 : Try.prog.cellsOf 2 = 1 := by kernel_rfl
  replace k2_ : ((Kd.int .i64)).K W x2 ((cs.drop 2).take 1) := by rw [← z2]; exact k2_
  have e2 : (cs.drop 2).take 1 = [.int .i64 x2] := k2_
  obtain ⟨x3, k3_, o3, m3_⟩ := field_of 3 _ hl rfl hf Try.underlying76 hw (show Opens enc Try.prog W 24 (Kd.slice 5 (Kd.int .u8)) (fun x_ => (x_.length * 1 ≤ 140737488351232 ∧ ∀ y0_ ∈ x_, (Lit.int .u8 y0_).wf = true)) (sumB (fun _ => 1)) n from (opens_slice (d := (Kd.int .u8)) (ok := (fun x_ => (Lit.int .u8 x_).wf = true)) (m := (fun _ => 1)) 1 Try.underlying24 (by kernel_rfl) (by kernel_rfl) (fun m_ hm_ => (opens_int Try.underlying5))))
  have z3 : Try.prog.cellsOf 24 = 1 := by kernel_rfl
  replace k3_ : ((Kd.slice 5 (Kd.int .u8))).K W x3 ((cs.drop 3).take 1) := by rw [← z3]; exact k3_
  obtain ⟨A3, c3, e3, l3, g3⟩ := k3_
  obtain ⟨x4, k4_, o4, m4_⟩ := field_of 4 _ hl rfl hf Try.underlying76 hw (show Opens enc Try.prog W 28 (Kd.slice 9 Kd.string) (fun x_ => (x_.length * 16 ≤ 140737488351232 ∧ ∀ y0_ ∈ x_, y0_.size ≤ 140737488351232)) (sumB (fun s : ByteArray => s.size + 1)) n from (opens_slice (d := Kd.string) (ok := (fun x_ => x_.size ≤ 140737488351232)) (m := (fun s : ByteArray => s.size + 1)) 16 Try.underlying28 (by kernel_rfl) (by kernel_rfl) (fun m_ hm_ => (opens_string Try.underlying9))))
  have z4 : Try.prog.cellsOf 28 = 1 := by kernel_rfl
  replace k4_ : ((Kd.slice 9 Kd.string)).K W x4 ((cs.drop 4).take 1) := by rw [← z4]; exact k4_
  obtain ⟨A4, c4, e4, l4, g4⟩ := k4_
  have hcs : cs = [.int .i64 x0, .int .u64 x1, .int .i64 x2, .slice A3 x3.length c3, .slice A4 x4.length c4] := by
    have t0 : cs.drop 0 = (cs.drop 0).take 1 ++ cs.drop 1 := cut_at cs 0 1
    have t1 : cs.drop 1 = (cs.drop 1).take 1 ++ cs.drop 2 := cut_at cs 1 1
    have t2 : cs.drop 2 = (cs.drop 2).take 1 ++ cs.drop 3 := cut_at cs 2 1
    have t3 : cs.drop 3 = (cs.drop 3).take 1 ++ cs.drop 4 := cut_at cs 3 1
    have t4 : cs.drop 4 = (cs.drop 4).take 1 ++ cs.drop 5 := cut_at cs 4 1
    have hd : cs.drop 5 = [] := List.drop_eq_nil_of_le (by omega)
    have h0 : cs = cs.drop 0 := rfl
    rw [h0, t0, e0, t1, e1, t2, e2, t3, e3, t4, e4, hd]
    rfl
  have hbulk : bS76 (⟨x0, x1, x2, x3, x4⟩ : S76) ≤ Rows.uptoBulk (DataW.agg (xs.map (·.1))) := by
    have hxl : (xs.map (·.1)).length = 5 := by rw [List.length_map, hl]; rfl
    have hs := bulk_sum (xs.map (·.1))
    rw [hxl] at hs
    simp only [List.range, List.range.loop, List.map_cons, List.map_nil, List.sum_cons, List.sum_nil] at hs
    simp only [bS76, Rows.uptoBulk]
    rw [hs]
    have t_ := (Nat.add_le_add (Nat.add_le_add (Nat.add_le_add (Nat.add_le_add m0_ m1_) m2_) m3_) m4_)
    exact Nat.succ_le_succ (Nat.le_trans t_ (by omega))
  exact ⟨⟨x0, x1, x2, x3, x4⟩, by rw [hcs]; exact k76_mk W (⟨x0, x1, x2, x3, x4⟩ : S76) l3 g3 l4 g4, ⟨o0, o1, o2, o3, o4⟩, hbulk⟩
end Go.Proofs.Ythpoomdillhcbaa.Pa
