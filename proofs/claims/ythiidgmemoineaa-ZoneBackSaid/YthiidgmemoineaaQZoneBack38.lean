/- The texts of ZoneBack, merged: part 38. -/
import Derived.Test.YthiidgmemoineaaQZoneBack37
import Derived.Test.YthiidgmemoineaaQZoneBack31
/- zone.put: a value that is not null behind bytes; its walk by hand. -/
namespace Go.Proofs.Ythiidgmemoineaa.Pa
open Go.RowKit Go.Proofs.YthiidgmemoineaaW.PrintWords Go.Proofs.YthiidgmemoineaaW.PrintLast Go.Proofs.YthiidgmemoineaaW.PrintMore
set_option linter.unusedVariables false
def zone_put.f (k : Nat) (l0 : List Int) (a1_0 a1_1 : Int) (a1_2 : Nat) (a1_3 : ByteArray) : Option (List Int) := if a1_0 = 1 then cursor_PutVarint.f k l0 a1_1 else (if a1_3.size < 140737488355328 then cursor_PutBlock.f k l0 (bytesOf a1_3) else none)
theorem zone_put.mono : ∀ a0 a1 a2 a3 a4 k, LeO (zone_put.f k a0 a1 a2 a3 a4) (zone_put.f (k + 1) a0 a1 a2 a3 a4) := by
 intro a0 a1 a2 a3 a4 k
 unfold zone_put.f
 exact LeO.ite (cursor_PutVarint.mono _ _ _) (LeO.ite (cursor_PutBlock.mono _ _ _) (LeO.refl _))
set_option maxHeartbeats 4000000 in
theorem zone_put.calls (k : Nat) (A0 : Option Addr) (c0 : Nat) (l0 : List Int) (a1_0 a1_1 : Int) (a1_2 : Nat) (a1_3 : ByteArray) (r : List Int) (w : World) (hr0 : Kd.C (Kd.int .u8) w A0 l0.length l0) (hc0 : l0.length ≤ c0) (h : zone_put.f k l0 a1_0 a1_1 a1_2 a1_3 = some r) :
  Calls Try.prog 63 #[.slice A0 l0.length c0, .agg #[.int .i64 a1_0, .int .i64 a1_1, .float .f64 a1_2, .string a1_3]] w fun e w' => ∃ v0_ : Value, e = .returned (v0_) ∧ Kd.R (Kd.int .u8) 5 w' w.heap.size (fun _ => True) v0_ r ∧ Below w.heap.size w w' := by
 unfold zone_put.f at h
 by_cases h1 : a1_0 = 1
 ·rw [if_pos h1] at h
  subst h1
  have HC := Aside0.mk (fun (W : World) (hB : Below w.heap.size w W) => cursor_PutVarint.calls k A0 c0 l0 a1_1 r W (Kd.C_below hr0 hB) hc0 h)
  clear h hr0
  go_enter Try.func63, Try.ntmps63
  go_wp2_with (go_at_call 109; (with_reducible refine (HC.out _ ?sd).mono ?_); (case sd => (repeat (first | with_reducible exact Below.refl _ _ | (with_reducible apply below_alloc) | (with_reducible apply pw_below_drewN) | (with_reducible apply below_drew1)))); rintro e w2 ⟨v0, rfl, hv, hb⟩)
  go_ret
  exact ⟨_, rfl, Kd.R_lower hv (by simp), below_step (by repeat (first | with_reducible exact Below.refl _ _ | (with_reducible apply below_alloc) | (with_reducible apply pw_below_drewN) | (with_reducible apply below_drew1))) hb⟩
 ·rw [if_neg h1] at h
  split at h
  case isFalse => cases h
  rename_i hs
  have n1 : (a1_0 == 1) = false := by simpa using h1
  have hcv : ∀ W : World, (convert 9 29 (.string a1_3)).run Try.prog W = .ok (.slice (some ⟨W.heap.size, 0, none⟩) (bytesOf a1_3).length (grownCap W a1_3.size 0 5)) (Lib.bytesWorld W 5 a1_3) := fun W => by
   rw [bytesOf_length]
   exact Lib.run_convert_string_bytes W _ _ _ a1_3 Try.underlying9 Try.underlying29 Try.underlying5
  have HC := Aside0.mk (fun (W : World) (hB : Below w.heap.size w W) (g : Nat) (hg : g = W.heap.size) => (hg ▸ cursor_PutBlock.calls k A0 c0 l0 (some ⟨W.heap.size, 0, none⟩) (grownCap W a1_3.size 0 5) (bytesOf a1_3) r (Lib.bytesWorld W 5 a1_3) (Kd.C_below hr0 (below_step hB (bytesW_below W 5 a1_3))) hc0 (bytesW_C W 5 a1_3 (by omega)) (bytesW_cap W 5 a1_3) h : Calls Try.prog 64 #[.slice A0 l0.length c0, .slice (some ⟨g, 0, none⟩) (bytesOf a1_3).length (grownCap W a1_3.size 0 5)] (Lib.bytesWorld W 5 a1_3) fun e w' => ∃ v0_ : Value, e = .returned (v0_) ∧ Kd.R (Kd.int .u8) 5 w' (Lib.bytesWorld W 5 a1_3).heap.size (fun _ => True) v0_ r ∧ Below (Lib.bytesWorld W 5 a1_3).heap.size (Lib.bytesWorld W 5 a1_3) w'))
  have HS := Aside0.mk (fun (W : World) => bytesW_below W 5 a1_3)
  clear h hr0 hs h1
  go_enter Try.func63, Try.ntmps63
  go_wp2_with (go_at_call 64; (with_reducible refine (HC.out _ ?sd _ ?sg).mono ?_); (case sg => simp); (case sd => (repeat (first | with_reducible exact Below.refl _ _ | (with_reducible apply below_alloc) | (with_reducible apply pw_below_drewN) | (with_reducible apply below_drew1)))); rintro e w2 ⟨v0, rfl, hv, hb⟩)
  go_ret
  exact ⟨_, rfl, Kd.R_lower hv (Nat.le_trans (by simp) (HS.out _).size), below_step (below_step (by repeat (first | with_reducible exact Below.refl _ _ | (with_reducible apply below_alloc) | (with_reducible apply pw_below_drewN) | (with_reducible apply below_drew1))) (HS.out _)) hb⟩
end Go.Proofs.Ythiidgmemoineaa.Pa
