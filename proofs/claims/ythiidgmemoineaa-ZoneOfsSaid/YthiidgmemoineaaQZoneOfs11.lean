/- The texts of ZoneOfs, merged: part 11. -/
import Derived.Test.YthiidgmemoineaaQZoneOfs3
import Derived.Test.YthiidgmemoineaaQZoneOfs6
/- How the arguments of this layer's laws open: by their types. -/
namespace Go.Proofs.Ythiidgmemoineaa.Pa
open Go.RowKit Go.Proofs.Ythiidgmemoineaa.O Go.Proofs.YthiidgmemoineaaW.PrintWords
set_option linter.unusedVariables false
def okS23 (x : S23) : Prop := x.f0.size ≤ 140737488351232 ∧ (Lit.int .i64 x.f1).wf = true ∧ True
def bS23 (x : S23) : Nat := (fun s : ByteArray => s.size + 1) x.f0 + (fun _ => 1) x.f1 + (fun _ => 1) x.f2 + 1
set_option maxRecDepth 20000 in
theorem open_S23 {H : Type} {enc : TypeId × Value → H} {W : World} (fuel : Nat) : Opens enc Try.prog W 23 k23 okS23 bS23 fuel := by
  intro cs y ps h hw
  obtain ⟨xs, n, rfl, hx, hcl, hl, hf⟩ := DataW.trod_struct Try.underlying23 h
  obtain ⟨rfl, rfl⟩ := Prod.mk.inj hx
  have hct : Try.prog.cellsOf 23 = 3 := by kernel_rfl
  rw [hct] at hcl
  obtain ⟨x0, k0_, o0, m0_⟩ := field_of 0 _ hl rfl hf Try.underlying23 hw (show Opens enc Try.prog W 9 Kd.string (fun x_ => x_.size ≤ 140737488351232) (fun s : ByteArray => s.size + 1) n from (opens_string Try.underlying9))
  have z0 : Try.prog.cellsOf 9 = 1 := by kernel_rfl
  replace k0_ : (Kd.string).K W x0 ((cs.drop 0).take 1) := by rw [← z0]; exact k0_
  have e0 : (cs.drop 0).take 1 = [.string x0] := k0_
  obtain ⟨x1, k1_, o1, m1_⟩ := field_of 1 _ hl rfl hf Try.underlying23 hw (show Opens enc Try.prog W 3 (Kd.int .i64) (fun x_ => (Lit.int .i64 x_).wf = true) (fun _ => 1) n from (opens_int Try.underlying3))
  have z1 : Try.prog.cellsOf 3 = 1 := by kernel_rfl
  replace k1_ : ((Kd.int .i64)).K W x1 ((cs.drop 1).take 1) := by rw [← z1]; exact k1_
  have e1 : (cs.drop 1).take 1 = [.int .i64 x1] := k1_
  obtain ⟨x2, k2_, o2, m2_⟩ := field_of 2 _ hl rfl hf Try.underlying23 hw (show Opens enc Try.prog W 4 Kd.bool (fun x_ => True) (fun _ => 1) n from (opens_bool Try.underlying4))
  have z2 : Try.prog.cellsOf 4 = 1 := by kernel_rfl
  replace k2_ : (Kd.bool).K W x2 ((cs.drop 2).take 1) := by rw [← z2]; exact k2_
  have e2 : (cs.drop 2).take 1 = [.bool x2] := k2_
  have hcs : cs = [.string x0, .int .i64 x1, .bool x2] := by
    have t0 : cs.drop 0 = (cs.drop 0).take 1 ++ cs.drop 1 := cut_at cs 0 1
    have t1 : cs.drop 1 = (cs.drop 1).take 1 ++ cs.drop 2 := cut_at cs 1 1
    have t2 : cs.drop 2 = (cs.drop 2).take 1 ++ cs.drop 3 := cut_at cs 2 1
    have hd : cs.drop 3 = [] := List.drop_eq_nil_of_le (by omega)
    have h0 : cs = cs.drop 0 := rfl
    rw [h0, t0, e0, t1, e1, t2, e2, hd]
    rfl
  have hbulk : bS23 (⟨x0, x1, x2⟩ : S23) ≤ Rows.uptoBulk (DataW.agg (xs.map (·.1))) := by
    have hxl : (xs.map (·.1)).length = 3 := by rw [List.length_map, hl]; rfl
    have hs := bulk_sum (xs.map (·.1))
    rw [hxl] at hs
    simp only [List.range, List.range.loop, List.map_cons, List.map_nil, List.sum_cons, List.sum_nil] at hs
    simp only [bS23, Rows.uptoBulk]
    rw [hs]
    have t_ := (Nat.add_le_add (Nat.add_le_add m0_ m1_) m2_)
    exact Nat.succ_le_succ (Nat.le_trans t_ (by omega))
  exact ⟨⟨x0, x1, x2⟩, by rw [hcs]; exact k23_mk W (⟨x0, x1, x2⟩ : S23) , ⟨o0, o1, o2⟩, hbulk⟩
def okS28 (x : S28) : Prop := (Lit.int .i64 x.f0).wf = true ∧ (Lit.int .i64 x.f1).wf = true ∧ (Lit.float .f64 x.f2).wf = true ∧ x.f3.size ≤ 140737488351232
def bS28 (x : S28) : Nat := (fun _ => 1) x.f0 + (fun _ => 1) x.f1 + (fun _ => 1) x.f2 + (fun s : ByteArray => s.size + 1) x.f3 + 1
set_option maxRecDepth 20000 in
theorem open_S28 {H : Type} {enc : TypeId × Value → H} {W : World} (fuel : Nat) : Opens enc Try.prog W 28 k28 okS28 bS28 fuel := by
  intro cs y ps h hw
  obtain ⟨xs, n, rfl, hx, hcl, hl, hf⟩ := DataW.trod_struct Try.underlying28 h
  obtain ⟨rfl, rfl⟩ := Prod.mk.inj hx
  have hct : Try.prog.cellsOf 28 = 4 := by kernel_rfl
  rw [hct] at hcl
  obtain ⟨x0, k0_, o0, m0_⟩ := field_of 0 _ hl rfl hf Try.underlying28 hw (show Opens enc Try.prog W 3 (Kd.int .i64) (fun x_ => (Lit.int .i64 x_).wf = true) (fun _ => 1) n from (opens_int Try.underlying3))
  have z0 : Try.prog.cellsOf 3 = 1 := by kernel_rfl
  replace k0_ : ((Kd.int .i64)).K W x0 ((cs.drop 0).take 1) := by rw [← z0]; exact k0_
  have e0 : (cs.drop 0).take 1 = [.int .i64 x0] := k0_
  obtain ⟨x1, k1_, o1, m1_⟩ := field_of 1 _ hl rfl hf Try.underlying28 hw (show Opens enc Try.prog W 2 (Kd.int .i64) (fun x_ => (Lit.int .i64 x_).wf = true) (fun _ => 1) n from (opens_int Try.underlying2))
  have z1 : Try.prog.cellsOf 2 = 1 := by kernel_rfl
  replace k1_ : ((Kd.int .i64)).K W x1 ((cs.drop 1).take 1) := by rw [← z1]; exact k1_
  have e1 : (cs.drop 1).take 1 = [.int .i64 x1] := k1_
  obtain ⟨x2, k2_, o2, m2_⟩ := field_of 2 _ hl rfl hf Try.underlying28 hw (show Opens enc Try.prog W 26 Kd.f64 (fun x_ => (Lit.float .f64 x_).wf = true) (fun _ => 1) n from (opens_float Try.underlying26))
  have z2 : Try.prog.cellsOf 26 = 1 := by kernel_rfl
  replace k2_ : (Kd.f64).K W x2 ((cs.drop 2).take 1) := by rw [← z2]; exact k2_
  have e2 : (cs.drop 2).take 1 = [.float .f64 x2] := k2_
  obtain ⟨x3, k3_, o3, m3_⟩ := field_of 3 _ hl rfl hf Try.underlying28 hw (show Opens enc Try.prog W 9 Kd.string (fun x_ => x_.size ≤ 140737488351232) (fun s : ByteArray => s.size + 1) n from (opens_string Try.underlying9))
  have z3 : Try.prog.cellsOf 9 = 1 := by kernel_rfl
  replace k3_ : (Kd.string).K W x3 ((cs.drop 3).take 1) := by rw [← z3]; exact k3_
  have e3 : (cs.drop 3).take 1 = [.string x3] := k3_
  have hcs : cs = [.int .i64 x0, .int .i64 x1, .float .f64 x2, .string x3] := by
    have t0 : cs.drop 0 = (cs.drop 0).take 1 ++ cs.drop 1 := cut_at cs 0 1
    have t1 : cs.drop 1 = (cs.drop 1).take 1 ++ cs.drop 2 := cut_at cs 1 1
    have t2 : cs.drop 2 = (cs.drop 2).take 1 ++ cs.drop 3 := cut_at cs 2 1
    have t3 : cs.drop 3 = (cs.drop 3).take 1 ++ cs.drop 4 := cut_at cs 3 1
    have hd : cs.drop 4 = [] := List.drop_eq_nil_of_le (by omega)
    have h0 : cs = cs.drop 0 := rfl
    rw [h0, t0, e0, t1, e1, t2, e2, t3, e3, hd]
    rfl
  have hbulk : bS28 (⟨x0, x1, x2, x3⟩ : S28) ≤ Rows.uptoBulk (DataW.agg (xs.map (·.1))) := by
    have hxl : (xs.map (·.1)).length = 4 := by rw [List.length_map, hl]; rfl
    have hs := bulk_sum (xs.map (·.1))
    rw [hxl] at hs
    simp only [List.range, List.range.loop, List.map_cons, List.map_nil, List.sum_cons, List.sum_nil] at hs
    simp only [bS28, Rows.uptoBulk]
    rw [hs]
    have t_ := (Nat.add_le_add (Nat.add_le_add (Nat.add_le_add m0_ m1_) m2_) m3_)
    exact Nat.succ_le_succ (Nat.le_trans t_ (by omega))
  exact ⟨⟨x0, x1, x2, x3⟩, by rw [hcs]; exact k28_mk W (⟨x0, x1, x2, x3⟩ : S28) , ⟨o0, o1, o2, o3⟩, hbulk⟩
end Go.Proofs.Ythiidgmemoineaa.Pa
