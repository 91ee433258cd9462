/- The texts of ZoneBack, merged: part 25. -/
import Derived.Test.YthiidgmemoineaaQZoneBack5
import Derived.Lib.SliceRun
import Derived.Test.YthiidgmemoineaaQZoneBack24
/- bytes.Clone, its walk by hand. -/
namespace Go.Proofs.Ythiidgmemoineaa.Pa
open Go.RowKit Go.Proofs.YthiidgmemoineaaW.PrintWords Go.Proofs.YthiidgmemoineaaW.PrintLast Go.Proofs.YthiidgmemoineaaW.PrintMore
set_option linter.unusedVariables false
theorem C_none {α : Type} {d : Kd α} {w : World} {n : Nat} {xs : List α} (h : d.C w none n xs) : xs = [] := by
 rcases Nat.eq_zero_or_pos n with h0 | h0
 ·have := h.1; exact List.eq_nil_of_length_eq_zero (by omega)
 ·obtain ⟨ad, e, _⟩ := h.2.2 h0; cases e
def bytes_Clone.f (l0 : List Int) : Option (List Int) := if l0.length < 211106232532992 then some l0 else none
set_option maxHeartbeats 4000000 in
theorem bytes_Clone.calls (A0 : Option Addr) (c0 : Nat) (l0 : List Int) (r : List Int) (w : World) (hr0 : Kd.C (Kd.int .u8) w A0 l0.length l0) (hc0 : l0.length ≤ c0) (h : bytes_Clone.f l0 = some r) :
  Calls Try.prog 68 #[.slice A0 l0.length c0] w fun e w' => ∃ v0_ : Value, e = .returned (v0_) ∧ Kd.R (Kd.int .u8) 5 w' w.heap.size (fun _ => True) v0_ r ∧ Below w.heap.size w w' := by
 obtain ⟨hm, rfl⟩ : l0.length < 211106232532992 ∧ l0 = r := by
  unfold bytes_Clone.f at h
  split at h
  ·exact ⟨‹_›, Option.some.inj h⟩
  ·cases h
 clear h
 have qE : ∀ (w : World) (a : Option Addr) (n c n' c' : Nat), (binOp .eql 29 (.slice a n c) (.slice none n' c')).run Try.prog w = .ok (.bool a.isNone) w := fun w a n c n' c' => Lib.run_eql_slice_nil w _ _ a n c n' c' Try.underlying29
 have HR := Aside0.mk hr0
 have LM := Aside0.mk hm
 clear hr0 hm
 rcases A0 with _ | ad
 ·have hl := C_none HR.out
  have HL := Aside0.mk hl
  clear hl
  go_enter Try.func68, Try.ntmps68
  go_wp2
  go_ret
  exact ⟨_, rfl, by rw [HL.out]; exact Kd.R_nil _ _ _ _ _, Below.refl _ _⟩
 ·have i5 : (Try.prog.info? 5).map (fun i => (i.zero, i.size, i.bytes)) = some (some (.int .u8 0), 1, 1) := by kernel_rfl
  go_enter Try.func68, Try.ntmps68
  go_wp2_with (first | (at_builtin; refine Kd.R_append_rowsB (Kd.int .u8) (w0 := w) w.heap.size rfl _ _ _ 5 (.int .u8 0) 1 rfl Try.underlying29 i5 rfl (by decide) (by omega) (.slice (some ⟨w.heap.size, 0, none⟩) 0 0) [] l0 _ _ _ (fun _ => True) (fun _ => False) rfl rfl ?aO ?aR (fun _ _ h => h) (fun _ h => h.elim) (fun _ _ => trivial) ?aB ?aS rfl ?aL ?_; (case aO => exact Kd.R_of_own (h1 := fun _ => rfl) (own_lit w w.heap.size 5 .u8 [] (Nat.le_refl _) (by simp)) (fun _ _ => trivial)); (case aR => exact Kd.C_alloc HR.out _); (case aB => exact below_alloc (Below.refl _ _) _); (case aS => simp); (case aL => have := LM.out; simp; omega); intro v1 w1 ho hb hg hat))
  go_ret
  exact ⟨_, rfl, by simpa using ho, hb⟩
end Go.Proofs.Ythiidgmemoineaa.Pa
