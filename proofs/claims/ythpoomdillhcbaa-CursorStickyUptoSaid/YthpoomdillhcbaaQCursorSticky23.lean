/- The texts of CursorSticky, merged: part 23. -/
import Derived.Test.YthpoomdillhcbaaQCursorSticky16
import Derived.Test.YthpoomdillhcbaaQCursorSticky5
import Derived.Test.YthpoomdillhcbaaQCursorSticky21
import Derived.Test.YthpoomdillhcbaaQCursorSticky22
import Derived.Test.YthpoomdillhcbaaQCursorSticky17
/- awake: closed. -/
namespace Go.Proofs.Ythpoomdillhcbaa.Pa
open Go.Proofs.Ythpoomdillhcbaa.L Go.RowKit Go.Proofs.YthpoomdillhcbaaW.PrintWords Go.Proofs.YthpoomdillhcbaaW.PrintLast Go.Proofs.YthpoomdillhcbaaW.PrintMore
set_option linter.unusedVariables false
/-- A world's draws stand beside its cells. -/
theorem drewN_set (W : World) (p : Addr) (v : Value) (m : Nat) : (W.setCell p v).drewN m = (W.drewN m).setCell p v := rfl
theorem up_f : cursor_PutUvarint.f 10 ([] : List Int) 300 = some [172, 2] := by kernel_rfl
def tx2 : List ByteArray := [⟨#[97]⟩, ⟨#[]⟩]
theorem pt_f : cursor_PutTexts.f 10 [172, 2] tx2 = some [172, 2, 2, 1, 97, 0] := by kernel_rfl
theorem op_f : cursor_Open.f [172, 2, 2, 1, 97, 0] = some ([172, 2, 2, 1, 97, 0], 0, 0) := by kernel_rfl
theorem uv_f : cursor_Reader_Uvarint.f [172, 2, 2, 1, 97, 0] 0 0 = some (300, 2, 0) := by kernel_rfl
theorem tx_f : cursor_Reader_Texts.f [172, 2, 2, 1, 97, 0] 2 0 2 1 = some (tx2, 6, 0) := by kernel_rfl
theorem en_f : cursor_Reader_End.f [172, 2, 2, 1, 97, 0] 6 0 = some (0, 6, 0) := by kernel_rfl
theorem by_f : cursor_Reader_Bytes.f [172, 2, 2, 1, 97, 0] 6 0 1 = some ([], 6, 71) := by kernel_rfl
theorem fa_f : cursor_Reader_Fault.f [172, 2, 2, 1, 97, 0] 6 71 = some (71, 6, 71) := by kernel_rfl
theorem st_f : colonnadelaw07_sameTexts.f 10 tx2 tx2 = some true := by kernel_rfl
theorem str_f : strOfNums [172, 2, 2, 1, 97, 0] = ⟨#[172, 2, 2, 1, 97, 0]⟩ := by kernel_rfl
theorem C_tx2 (W : World) : Kd.C Kd.string (W.alloc (.cells #[.string ⟨#[97]⟩, .string ⟨#[]⟩] 9)) (some ⟨W.heap.size, 0, none⟩) 2 tx2 :=
  (Kd.R_reads' (Kd.R_of_own (h1 := fun _ => rfl) (own_lit_of (enc := Value.string) W W.heap.size 9 tx2 (Nat.le_refl _) (by decide)) (ok := fun _ => True) (fun _ _ => trivial))).2.2
def colonnadelaw07_awake.f (k : Nat) : Option Bool := some true
theorem colonnadelaw07_awake.mono : ∀ k, LeO (colonnadelaw07_awake.f k) (colonnadelaw07_awake.f (k + 1)) := fun _ => LeO.refl _
set_option maxRecDepth 100000 in
set_option maxHeartbeats 4000000 in
theorem colonnadelaw07_awake.calls (k : Nat) (r : Bool) (w : World) (h : colonnadelaw07_awake.f k = some r) :
    Calls Try.prog 27 #[] w fun e w' => e = .returned (.bool r) ∧ Below w.heap.size w w' := by
  obtain rfl := Option.some.inj h
  clear h
  have HS := str_f
  go_enter Try.func27, Try.ntmps27
  go_wp2_with (first
    | (go_at_call 11; (with_reducible refine calls_of_args (args' := #[.slice none 0 0, .int .u64 300]) rfl ?_); refine (cursor_PutUvarint.calls 10 none 0 [] 300 [172, 2] _ (Kd.C_nil _ _) (Nat.le_refl _) up_f).mono ?_; rintro e w1 ⟨v1, rfl, ho1, hb1⟩; obtain ⟨A1, c1, rfl⟩ := Kd.R_slice ho1; have HB := Aside0.mk hb1; have HC := Aside0.mk (Kd.R_reads' ho1); clear ho1 hb1)
    | (go_at_call 30; refine (cursor_PutTexts.calls 10 A1 c1 [172, 2] (some ⟨w1.heap.size, 0, none⟩) 2 tx2 [172, 2, 2, 1, 97, 0] _ (Kd.C_alloc HC.out.2.2 _) HC.out.2.1 (C_tx2 w1) (by decide) pt_f).mono ?_; rintro e w2 ⟨v2, rfl, ho2, hb2⟩; obtain ⟨A2, c2, rfl⟩ := Kd.R_slice ho2; have HB2 := Aside0.mk (below_step (below_alloc HB.out _) hb2); have HC2 := Aside0.mk (Kd.R_reads' ho2); clear ho2 hb2)
    | (go_at_call 20; refine (cursor_Open.callsW A2 c2 [172, 2, 2, 1, 97, 0] [172, 2, 2, 1, 97, 0] 0 0 w2 HC2.out.2.2 HC2.out.2.1 op_f).mono ?_; rintro e w3 ⟨W0, g, rfl, hb0, hI3, hb3⟩; have HB3 := Aside0.mk (below_step HB2.out hb0.out); have hcv : (convert 24 9 (.slice A2 6 c2)).run Try.prog w3 = .ok (.string ⟨#[172, 2, 2, 1, 97, 0]⟩) w3 := (Kd.C_string (P := Try.prog) (A := A2) (n := 6) (c := c2) Try.underlying24 Try.underlying5 Try.underlying9 (Kd.C_below (Kd.C_below HC2.out.2.2 hb0.out) hb3.out)).trans (by rw [str_f]))
    | (go_at_call 33; refine (cursor_Reader_Uvarint.calls g [172, 2, 2, 1, 97, 0] 0 0 300 2 0 W0 w3 hI3.out hb3.out uv_f).mono ?_; rintro e w4 ⟨rfl, hi4, hb4, hk4⟩; have hI4 := Aside0.mk hi4; have hB4 := Aside0.mk hb4; clear hi4 hb4)
    | (go_at_call 35; refine (cursor_Reader_Texts.calls g [172, 2, 2, 1, 97, 0] 2 0 2 1 tx2 6 0 W0 w4 hI4.out hB4.out tx_f).mono ?_; rintro e w5 ⟨v5, rfl, ho5, hi5, hb5, hk5⟩; obtain ⟨A5, c5, rfl⟩ := Kd.R_slice ho5; have HO5 := Aside0.mk ho5; have hI5 := Aside0.mk hi5; have hB5 := Aside0.mk hb5; clear hi5 hb5 ho5)
    | (go_at_call 37; refine (cursor_Reader_End.calls g [172, 2, 2, 1, 97, 0] 6 0 0 6 0 W0 w5 hI5.out hB5.out en_f).mono ?_; rintro e w6 ⟨rfl, hi6, hb6, hk6⟩; have HO6 := Aside0.mk (Kd.R_mono (Kd.R_keep (IsS46.apart hI5.out HO5.out (by decide)) hk6 (fun _ h => h.2)) (fun _ h => h.1)); have hI6 := Aside0.mk hi6; have hB6 := Aside0.mk hb6; clear hi6 hb6)
    | (go_at_call 34; refine (cursor_Reader_Bytes.calls g [172, 2, 2, 1, 97, 0] 6 0 1 [] 6 71 W0 w6 hI6.out hB6.out by_f).mono ?_; rintro e w7 ⟨v7, rfl, ho7, hi7, hb7, hk7⟩; have HO7 := Aside0.mk (Kd.R_mono (Kd.R_keep (IsS46.apart hI6.out HO6.out (by decide)) hk7 (fun _ h => h.2)) (fun _ h => h.1)); have hI7 := Aside0.mk hi7; have hB7 := Aside0.mk hb7; clear hi7 hb7 ho7)
    | (go_at_call 38; refine (colonnadelaw07_sameTexts.calls 10 A5 c5 tx2 (some ⟨w7.heap.size, 0, none⟩) 2 tx2 true _ (Kd.C_alloc (Kd.R_reads' HO7.out).2.2 _) (Kd.R_reads' HO7.out).2.1 (C_tx2 w7) (by decide) st_f).mono ?_; rintro e w8 ⟨rfl, ⟨m, rfl⟩⟩; have hI8 := Aside0.mk (IsS46.drewN (IsS46.alloc hI7.out (.cells #[.string ⟨#[97]⟩, .string ⟨#[]⟩] 9)) m); have hB8 := Aside0.mk (pw_below_drewN (below_alloc hB7.out (.cells #[.string ⟨#[97]⟩, .string ⟨#[]⟩] 9)) m))
    | (go_at_call 43; refine (cursor_Reader_Fault.calls g [172, 2, 2, 1, 97, 0] 6 71 71 6 71 W0 _ hI8.out hB8.out fa_f).mono ?_; rintro e w9 ⟨rfl, hi9, hb9, hk9⟩; have hB9 := Aside0.mk hb9; clear hi9 hb9))
  go_ret
  exact ⟨rfl, below_step HB3.out hB9.out⟩
end Go.Proofs.Ythpoomdillhcbaa.Pa
