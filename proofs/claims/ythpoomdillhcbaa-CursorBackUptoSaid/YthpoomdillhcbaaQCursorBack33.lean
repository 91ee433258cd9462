/- The texts of CursorBack, merged: part 33. -/
import Derived.Test.YthpoomdillhcbaaQCursorBack15
import Derived.Test.YthpoomdillhcbaaQCursorBack31
import Derived.Test.YthpoomdillhcbaaQCursorBack16
import Derived.Test.YthpoomdillhcbaaQCursorBack32
/- States over a world of their own: bytes that were copied behind what came in (printed by openb.py). -/
namespace Go.Proofs.Ythpoomdillhcbaa.Pa
open Go.Proofs.Ythpoomdillhcbaa.L Go.RowKit Go.Proofs.YthpoomdillhcbaaW.PrintWords Go.Proofs.YthpoomdillhcbaaW.PrintLast Go.Proofs.YthpoomdillhcbaaW.PrintMore
set_option linter.unusedVariables false
def IsB46 (w0 W : World) (g : Nat) (f0 : List Int) (f1 f2 : Int) : Prop := ∃ W0, Below w0.heap.size w0 W0 ∧ Below W0.heap.size W0 W ∧ IsS46 W0 W g f0 f1 f2
section
variable {w0 W : World} {g : Nat} {f0 : List Int} {f1 f2 : Int}
theorem IsB46.alloc (h : IsB46 w0 W g f0 f1 f2) (o : Obj) : IsB46 w0 (W.alloc o) g f0 f1 f2 := by
  obtain ⟨W0, h0, h1, h2⟩ := h
  exact ⟨W0, h0, below_alloc h1 o, IsS46.alloc h2 o⟩
theorem IsB46.drewN (h : IsB46 w0 W g f0 f1 f2) (m : Nat) : IsB46 w0 (W.drewN m) g f0 f1 f2 := by
  obtain ⟨W0, h0, h1, h2⟩ := h
  exact ⟨W0, h0, pw_below_drewN h1 m, IsS46.drewN h2 m⟩
theorem IsB46.drew (h : IsB46 w0 W g f0 f1 f2) : IsB46 w0 W.drew g f0 f1 f2 := by
  obtain ⟨W0, h0, h1, h2⟩ := h
  exact ⟨W0, h0, below_drew1 h1, IsS46.drew h2⟩
theorem IsB46.at_ {w' : World} {m : Nat} (hq : W.drewN m = w') (h : IsB46 w0 W g f0 f1 f2) : IsB46 w0 w' g f0 f1 f2 := by subst hq; exact IsB46.drewN h m
theorem IsB46.below {W1 : World} (h : IsB46 w0 W g f0 f1 f2) (hw : Below W.heap.size W W1) : IsB46 w0 W1 g f0 f1 f2 := by
  obtain ⟨W0, h0, h1, h2⟩ := h
  exact ⟨W0, h0, below_step h1 hw, IsS46.below h2 hw⟩
theorem IsB46.ge (h : IsB46 w0 W g f0 f1 f2) : w0.heap.size ≤ g := by
  obtain ⟨W0, h0, h1, h2⟩ := h
  exact Nat.le_trans h0.size (IsS46.ge h2)
theorem IsB46.lt (h : IsB46 w0 W g f0 f1 f2) : g < W.heap.size := by
  obtain ⟨W0, h0, h1, h2⟩ := h
  exact IsS46.lt h2
theorem IsB46.set_1 (h : IsB46 w0 W g f0 f1 f2) (x : Int) : IsB46 w0 (W.setCell ⟨g, 1, none⟩ (.int .i64 x)) g f0 x f2 := by
  obtain ⟨W0, h0, h1, h2⟩ := h
  exact ⟨W0, h0, below_set h1 (IsS46.ge h2), IsS46.set_1 h2 x⟩
theorem IsB46.set_2 (h : IsB46 w0 W g f0 f1 f2) (x : Int) : IsB46 w0 (W.setCell ⟨g, 2, none⟩ (.int .i64 x)) g f0 f1 x := by
  obtain ⟨W0, h0, h1, h2⟩ := h
  exact ⟨W0, h0, below_set h1 (IsS46.ge h2), IsS46.set_2 h2 x⟩
theorem IsB46.apart {α : Type} {d : Kd α} {e : Nat} {base : Nat} {ok : Nat → Prop} {v : Value} {xs : List α} (h : IsB46 w0 W g f0 f1 f2) (ho : d.R e W base ok v xs) (ht : ∀ q, q ∈ e :: d.E → q ≠ 46) : d.R e W base (fun k => ok k ∧ k ≠ g) v xs := by
  obtain ⟨W0, h0, h1, h2⟩ := h
  exact IsS46.apart h2 ho ht
end
theorem colonnadelaw07_back.callsB (k : Nat) (g : Nat) (s0_0 : List Int) (s0_1 : Int) (s0_2 : Int) (a1_0 : Int) (a1_1 : Int) (a1_2 : Int) (A1_3 : Option Addr) (c1_3 : Nat) (l1_3 : List Int) (A1_4 : Option Addr) (c1_4 : Nat) (l1_4 : List ByteArray) (r1 : Bool) (r2 : Int) (r3 : Int) (w0 w : World) (hI : IsB46 w0 w g s0_0 s0_1 s0_2) (hB : Below w0.heap.size w0 w) (hr1_3 : Kd.C (Kd.int .u8) w A1_3 l1_3.length l1_3) (hc1_3 : l1_3.length ≤ c1_3) (hf1_3 : ∀ ad, A1_3 = some ad → 0 < l1_3.length → ad.block ≠ g) (hr1_4 : Kd.C Kd.string w A1_4 l1_4.length l1_4) (hc1_4 : l1_4.length ≤ c1_4) (hf1_4 : ∀ ad, A1_4 = some ad → 0 < l1_4.length → ad.block ≠ g) (h : colonnadelaw07_back.f k s0_0 s0_1 s0_2 a1_0 a1_1 a1_2 l1_3 l1_4 = some (r1, r2, r3)) :
    Calls Try.prog 45 #[.pointer (some ⟨g, 0, none⟩), .agg #[.int .i64 a1_0, .int .u64 a1_1, .int .i64 a1_2, .slice A1_3 l1_3.length c1_3, .slice A1_4 l1_4.length c1_4]] w fun e w' => e = .returned (.bool r1) ∧ IsB46 w0 w' g s0_0 r2 r3 ∧ Below w0.heap.size w0 w' ∧ KeepBut w w' g none := by
  obtain ⟨W0, hb0, hb, hi⟩ := hI
  refine (colonnadelaw07_back.calls (k := k) (g := g) (s0_0 := s0_0) (s0_1 := s0_1) (s0_2 := s0_2) (a1_0 := a1_0) (a1_1 := a1_1) (a1_2 := a1_2) (A1_3 := A1_3) (c1_3 := c1_3) (l1_3 := l1_3) (A1_4 := A1_4) (c1_4 := c1_4) (l1_4 := l1_4) (r1 := r1) (r2 := r2) (r3 := r3) (w0 := W0) (w := w) (hI := hi) (hB := hb) (hr1_3 := hr1_3) (hc1_3 := hc1_3) (hf1_3 := hf1_3) (hr1_4 := hr1_4) (hc1_4 := hc1_4) (hf1_4 := hf1_4) (h := h)).mono ?_
  rintro e w' ⟨h0_, h1_, h2_, h3_⟩
  exact ⟨h0_, ⟨W0, hb0, h2_, h1_⟩, below_step hb0 h2_, h3_⟩
theorem cursor_Open.callsB (A0 : Option Addr) (c0 : Nat) (l0 r1 : List Int) (r2 r3 : Int) (w0 w : World) (hB : Below w0.heap.size w0 w) (hr0 : Kd.C (Kd.int .u8) w A0 l0.length l0) (hc0 : l0.length ≤ c0) (h : cursor_Open.f l0 = some (r1, r2, r3)) :
    Calls Try.prog 20 #[.slice A0 l0.length c0] w fun e w' => ∃ g, e = .returned (.pointer (some ⟨g, 0, none⟩)) ∧ IsB46 w0 w' g r1 r2 r3 ∧ Below w0.heap.size w0 w' ∧ Below w.heap.size w w' := by
  refine (cursor_Open.callsW A0 c0 l0 r1 r2 r3 w hr0 hc0 h).mono ?_
  rintro e w' ⟨W0, g, rfl, hb0, hi, hb⟩
  exact ⟨g, rfl, ⟨W0, below_step hB hb0.out, hb.out, hi.out⟩, below_step (below_step hB hb0.out) hb.out, below_step hb0.out hb.out⟩
theorem cursor_Reader_End.callsB (g : Nat) (s0_0 : List Int) (s0_1 : Int) (s0_2 : Int) (r1 : Int) (r2 : Int) (r3 : Int) (w0 w : World) (hI : IsB46 w0 w g s0_0 s0_1 s0_2) (hB : Below w0.heap.size w0 w) (h : cursor_Reader_End.f s0_0 s0_1 s0_2 = some (r1, r2, r3)) :
    Calls Try.prog 37 #[.pointer (some ⟨g, 0, none⟩)] w fun e w' => e = .returned (.int .i64 r1) ∧ IsB46 w0 w' g s0_0 r2 r3 ∧ Below w0.heap.size w0 w' ∧ KeepBut w w' g none := by
  obtain ⟨W0, hb0, hb, hi⟩ := hI
  refine (cursor_Reader_End.calls (g := g) (s0_0 := s0_0) (s0_1 := s0_1) (s0_2 := s0_2) (r1 := r1) (r2 := r2) (r3 := r3) (w0 := W0) (w := w) (hI := hi) (hB := hb) (h := h)).mono ?_
  rintro e w' ⟨h0_, h1_, h2_, h3_⟩
  exact ⟨h0_, ⟨W0, hb0, h2_, h1_⟩, below_step hb0 h2_, h3_⟩
theorem cursor_Reader_Fault.callsB (g : Nat) (s0_0 : List Int) (s0_1 s0_2 : Int) (r1 r2 r3 : Int) (w0 w : World) (hI : IsB46 w0 w g s0_0 s0_1 s0_2) (hB : Below w0.heap.size w0 w) (h : cursor_Reader_Fault.f s0_0 s0_1 s0_2 = some (r1, r2, r3)) :
    Calls Try.prog 43 #[.pointer (some ⟨g, 0, none⟩)] w fun e w' => e = .returned (.int .i64 r1) ∧ IsB46 w0 w' g s0_0 r2 r3 ∧ Below w0.heap.size w0 w' ∧ KeepBut w w' g none := by
  obtain ⟨W0, hb0, hb, hi⟩ := hI
  refine (cursor_Reader_Fault.calls (g := g) (s0_0 := s0_0) (s0_1 := s0_1) (s0_2 := s0_2) (r1 := r1) (r2 := r2) (r3 := r3) (w0 := W0) (w := w) (hI := hi) (hB := hb) (h := h)).mono ?_
  rintro e w' ⟨h0_, h1_, h2_, h3_⟩
  exact ⟨h0_, ⟨W0, hb0, h2_, h1_⟩, below_step hb0 h2_, h3_⟩
theorem cursor_Reader_Left.callsB (g : Nat) (s0_0 : List Int) (s0_1 s0_2 : Int) (r1 r2 r3 : Int) (w0 w : World) (hI : IsB46 w0 w g s0_0 s0_1 s0_2) (hB : Below w0.heap.size w0 w) (h : cursor_Reader_Left.f s0_0 s0_1 s0_2 = some (r1, r2, r3)) :
    Calls Try.prog 42 #[.pointer (some ⟨g, 0, none⟩)] w fun e w' => e = .returned (.int .i64 r1) ∧ IsB46 w0 w' g s0_0 r2 r3 ∧ Below w0.heap.size w0 w' ∧ KeepBut w w' g none := by
  obtain ⟨W0, hb0, hb, hi⟩ := hI
  refine (cursor_Reader_Left.calls (g := g) (s0_0 := s0_0) (s0_1 := s0_1) (s0_2 := s0_2) (r1 := r1) (r2 := r2) (r3 := r3) (w0 := W0) (w := w) (hI := hi) (hB := hb) (h := h)).mono ?_
  rintro e w' ⟨h0_, h1_, h2_, h3_⟩
  exact ⟨h0_, ⟨W0, hb0, h2_, h1_⟩, below_step hb0 h2_, h3_⟩
end Go.Proofs.Ythpoomdillhcbaa.Pa
