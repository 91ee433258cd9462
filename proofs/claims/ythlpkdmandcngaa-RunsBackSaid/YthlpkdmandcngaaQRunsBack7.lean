/- The texts of RunsBack, merged: part 7. -/
import Derived.Test.YthlpkdmandcngaaQRunsBack3
import Derived.Test.YthlpkdmandcngaaQRunsBack6
/- How the arguments of this layer's laws open: by their types. -/
namespace Go.Proofs.Ythlpkdmandcngaa.Pa
open Go.RowKit Go.Proofs.Ythlpkdmandcngaa.O Go.Proofs.YthlpkdmandcngaaW.PrintWords
set_option linter.unusedVariables false
def okS42 (x : S42) : Prop := x.f0.size ≤ 140737488351232 ∧ (Lit.int .i64 x.f1).wf = true
def bS42 (x : S42) : Nat := (fun s : ByteArray => s.size + 1) x.f0 + (fun _ => 1) x.f1 + 1
set_option maxRecDepth 20000 in
theorem open_S42 {H : Type} {enc : TypeId × Value → H} {W : World} (fuel : Nat) : Opens enc Try.prog W 42 k42 okS42 bS42 fuel := by
  intro cs y ps h hw
  obtain ⟨xs, n, rfl, hx, hcl, hl, hf⟩ := DataW.trod_struct Try.underlying42 h
  obtain ⟨rfl, rfl⟩ := Prod.mk.inj hx
  have hct : Try.prog.cellsOf 42 = 2 := by kernel_rfl
  rw [hct] at hcl
  obtain ⟨x0, k0_, o0, m0_⟩ := field_of 0 _ hl rfl hf Try.underlying42 hw (show Opens enc Try.prog W 9 Kd.string (fun x_ => x_.size ≤ 140737488351232) (fun s : ByteArray => s.size + 1) n from (opens_string Try.underlying9))
  have z0 : Try.prog.cellsOf 9 = 1 := by kernel_rfl
  replace k0_ : (Kd.string).K W x0 ((cs.drop 0).take 1) := by rw [← z0]; exact k0_
  have e0 : (cs.drop 0).take 1 = [.string x0] := k0_
  obtain ⟨x1, k1_, o1, m1_⟩ := field_of 1 _ hl rfl hf Try.underlying42 hw (show Opens enc Try.prog W 3 (Kd.int .i64) (fun x_ => (Lit.int .i64 x_).wf = true) (fun _ => 1) n from (opens_int Try.underlying3))
  have z1 : Try.prog.cellsOf 3 = 1 := by kernel_rfl
  replace k1_ : ((Kd.int .i64)).K W x1 ((cs.drop 1).take 1) := by rw [← z1]; exact k1_
  have e1 : (cs.drop 1).take 1 = [.int .i64 x1] := k1_
  have hcs : cs = [.string x0, .int .i64 x1] := by
    have t0 : cs.drop 0 = (cs.drop 0).take 1 ++ cs.drop 1 := cut_at cs 0 1
    have t1 : cs.drop 1 = (cs.drop 1).take 1 ++ cs.drop 2 := cut_at cs 1 1
    have hd : cs.drop 2 = [] := List.drop_eq_nil_of_le (by omega)
    have h0 : cs = cs.drop 0 := rfl
    rw [h0, t0, e0, t1, e1, hd]
    rfl
  have hbulk : bS42 (⟨x0, x1⟩ : S42) ≤ Rows.uptoBulk (DataW.agg (xs.map (·.1))) := by
    have hxl : (xs.map (·.1)).length = 2 := by rw [List.length_map, hl]; rfl
    have hs := bulk_sum (xs.map (·.1))
    rw [hxl] at hs
    simp only [List.range, List.range.loop, List.map_cons, List.map_nil, List.sum_cons, List.sum_nil] at hs
    simp only [bS42, Rows.uptoBulk]
    rw [hs]
    have t_ := (Nat.add_le_add m0_ m1_)
    exact Nat.succ_le_succ (Nat.le_trans t_ (by omega))
  exact ⟨⟨x0, x1⟩, by rw [hcs]; exact k42_mk W (⟨x0, x1⟩ : S42) , ⟨o0, o1⟩, hbulk⟩
end Go.Proofs.Ythlpkdmandcngaa.Pa
