/- The texts of ZoneBack, merged: part 41. -/
import Derived.Test.YthiidgmemoineaaQZoneBack18
import Derived.Test.YthiidgmemoineaaQZoneBack34
/- A reader's state among facts that stand (Bx): Left and Fault leave the world as it was. -/
namespace Go.Proofs.Ythiidgmemoineaa.Pa
open Go.Proofs.Ythiidgmemoineaa.L Go.RowKit Go.Proofs.YthiidgmemoineaaW.PrintWords Go.Proofs.YthiidgmemoineaaW.PrintLast Go.Proofs.YthiidgmemoineaaW.PrintMore
set_option linter.unusedVariables false
theorem isg_lt {w0 w : World} {g : Nat} {bs : List Int} {at_ f : Int} (h : IsS92 w0 w g bs at_ f) : g < w.heap.size := by
 obtain ⟨A, c, hb, _⟩ := h
 exact blk_lt hb
theorem isg_below {w0 w w1 : World} {g : Nat} {bs : List Int} {at_ f : Int} (h : IsS92 w0 w g bs at_ f) (hb : Below w.heap.size w w1) : IsS92 w0 w1 g bs at_ f := by
 obtain ⟨A, c, h1, h2⟩ := h
 exact ⟨A, c, blk_below h1 hb, h2⟩
theorem isg_std {w0 w : World} {g : Nat} {bs : List Int} {at_ f : Int} (h : IsS92 w0 w g bs at_ f) (hB : Below w0.heap.size w0 w) : Std w (fun W => IsS92 w0 W g bs at_ f ∧ Below w0.heap.size w0 W) := fun W' hb => ⟨isg_below h hb, below_step hB hb⟩
theorem left_c {w0 w : World} {g : Nat} {bs : List Int} {at_ f r1 r2 r3 : Int} (h : IsS92 w0 w g bs at_ f ∧ Below w0.heap.size w0 w) (hf : cursor_Reader_Left.f bs at_ f = some (r1, r2, r3)) :
  Calls Try.prog 32 #[.pointer (some ⟨g, 0, none⟩)] w fun e w' => e = .returned (.int .i64 r1) ∧ Below w.heap.size w w' := by
 unfold cursor_Reader_Left.f at hf
 split at hf
 ·rename_i hc
  simp only [Option.some.injEq, Prod.mk.injEq] at hf
  obtain ⟨rfl, _, _⟩ := hf
  exact (left_calls g bs at_ f w hc.1 hc.2 (rd_of h.1 h.2)).mono fun e w' ⟨a, b⟩ => ⟨a, b.out⟩
 ·cases hf
theorem fault_c {w0 w : World} {g : Nat} {bs : List Int} {at_ f r1 r2 r3 : Int} (h : IsS92 w0 w g bs at_ f ∧ Below w0.heap.size w0 w) (hf : cursor_Reader_Fault.f bs at_ f = some (r1, r2, r3)) :
  Calls Try.prog 34 #[.pointer (some ⟨g, 0, none⟩)] w fun e w' => e = .returned (.int .i64 r1) ∧ Below w.heap.size w w' := by
 unfold cursor_Reader_Fault.f at hf
 split at hf
 ·simp only [Option.some.injEq, Prod.mk.injEq] at hf
  obtain ⟨rfl, _, _⟩ := hf
  exact (fault_calls g bs at_ f w (rd_of h.1 h.2)).mono fun e w' ⟨a, b⟩ => ⟨a, by rw [b]; exact Below.refl _ _⟩
 ·cases hf
end Go.Proofs.Ythiidgmemoineaa.Pa
