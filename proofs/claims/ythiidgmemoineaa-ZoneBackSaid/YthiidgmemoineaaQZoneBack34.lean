/- The texts of ZoneBack, merged: part 34. -/
import Derived.Test.YthiidgmemoineaaQZoneBack29
import Derived.Test.YthiidgmemoineaaQZoneBack25
import Derived.Test.YthiidgmemoineaaQZoneBack33
/- The reader's contracts, in the print's form. -/
namespace Go.Proofs.Ythiidgmemoineaa.Pa
open Go.Proofs.Ythiidgmemoineaa.L Go.RowKit Go.Proofs.YthiidgmemoineaaW.PrintWords Go.Proofs.YthiidgmemoineaaW.PrintLast Go.Proofs.YthiidgmemoineaaW.PrintMore
set_option linter.unusedVariables false
set_option linter.unusedSimpArgs false
theorem is_lt {W : World} {g : Nat} {ob : Obj} (h : W.heap[g]? = some ob) : g < W.heap.size := by
 rcases Nat.lt_or_ge g W.heap.size with h1 | h1
 ·exact h1
 ·rw [Array.getElem?_eq_none (by omega)] at h; cases h
theorem C_u8_lt {w : World} {A : Option Addr} {n : Nat} {bs : List Int} (h : Kd.C (Kd.int .u8) w A n bs) (hn : 0 < n) {ad : Addr} (e : A = some ad) : ad.block < w.heap.size := by
 obtain ⟨ad1, e1, hc⟩ := C_u8 h 0 hn
 subst e
 obtain rfl := Option.some.inj e1
 have := World.block_lt_of_cell? w _ hc
 rw [show (ad.add 0) = ad from rfl] at this
 exact this
theorem rd_of {w0 w : World} {g : Nat} {bs : List Int} {at_ fault : Int} (hI : IsS92 w0 w g bs at_ fault) (hB : Below w0.heap.size w0 w) : Rd w (w0.heap.size, w.heap.size) g bs at_ fault := by
 obtain ⟨A0, c0, hb, hg, hr0, hc0, hA⟩ := hI
 exact ⟨A0, c0, hb, hc0, Kd.C_below hr0 hB, fun ad e => ⟨by have := hA ad e; omega, hA ad e⟩, ⟨hB.size, is_lt hb⟩, Nat.le_refl _⟩
theorem is_ge {w0 w : World} {g : Nat} {bs : List Int} {at_ fault : Int} (hI : IsS92 w0 w g bs at_ fault) : w0.heap.size ≤ g := by
 obtain ⟨A0, c0, hb, hg, hr0⟩ := hI
 exact hg
theorem is_of {w0 w' : World} {b g : Nat} {bs : List Int} {at_ fault : Int} (h : Rd w' (w0.heap.size, b) g bs at_ fault) (hg : w0.heap.size ≤ g) (hB : Below w0.heap.size w0 w') : IsS92 w0 w' g bs at_ fault := by
 obtain ⟨A, c, hb, hc, hC, hA, hgB, hBs⟩ := h
 exact ⟨A, c, hb, hg, C_bytes_at hC (fun ad e => (hB.block _ (hA ad e).2).symm), hc, fun ad e => (hA ad e).2⟩
def cursor_Open.f (l0 : List Int) : Option (List Int × Int × Int) := if l0.length < 211106232532992 then some (l0, 0, 0) else none
theorem cursor_Open.callsW (A0 : Option Addr) (c0 : Nat) (l0 r1 : List Int) (r2 r3 : Int) (w : World) (hr0 : Kd.C (Kd.int .u8) w A0 l0.length l0) (hc0 : l0.length ≤ c0) (h : cursor_Open.f l0 = some (r1, r2, r3)) :
  Calls Try.prog 27 #[.slice A0 l0.length c0] w fun e w' => ∃ W0 g, e = .returned (.pointer (some ⟨g, 0, none⟩)) ∧ Aside0 (Below w.heap.size w W0) ∧ Aside0 (IsS92 W0 w' g r1 r2 r3) ∧ Aside0 (Below W0.heap.size W0 w') := by
 unfold cursor_Open.f at h
 split at h
 ·rename_i hl
  simp only [Option.some.injEq, Prod.mk.injEq] at h
  obtain ⟨rfl, rfl, rfl⟩ := h
  refine (open_calls A0 c0 l0 w hr0 hc0 hl).mono ?_
  rintro e w' ⟨W0, A2, c2, rfl, hb, ⟨hC, hc2, hA⟩, rfl⟩
  exact ⟨W0, W0.heap.size, rfl, hb, ⟨⟨A2, c2, by simpa using heap_alloc_new W0 _, Nat.le_refl _, hC, hc2, hA⟩⟩, ⟨below_alloc (Below.refl _ _) _⟩⟩
 ·cases h
def atIn (bs : List Int) (at_ : Int) : Prop := 0 ≤ at_ ∧ at_ ≤ bs.length
instance (bs : List Int) (at_ : Int) : Decidable (atIn bs at_) := by unfold atIn; infer_instance
def cursor_Take_uint8.f (s0_0 : List Int) (s0_1 s0_2 : Int) : Option (Int × Int × Int) := if atIn s0_0 s0_1 then some (IntKind.u8.wrap (takR 1 s0_0 s0_1 s0_2).1, (takR 1 s0_0 s0_1 s0_2).2.1, (takR 1 s0_0 s0_1 s0_2).2.2) else none
theorem cursor_Take_uint8.calls (g : Nat) (s0_0 : List Int) (s0_1 s0_2 : Int) (r1 r2 r3 : Int) (w0 w : World) (hI : IsS92 w0 w g s0_0 s0_1 s0_2) (hB : Below w0.heap.size w0 w) (h : cursor_Take_uint8.f s0_0 s0_1 s0_2 = some (r1, r2, r3)) :
  Calls Try.prog 79 #[.pointer (some ⟨g, 0, none⟩)] w fun e w' => e = .returned (.int .u8 r1) ∧ IsS92 w0 w' g s0_0 r2 r3 ∧ Below w0.heap.size w0 w' ∧ KeepBut w w' g none := by
 unfold cursor_Take_uint8.f at h
 split at h
 ·rename_i hc
  have hR := rd_of hI hB
  have hg := is_ge hI
  simp only [Option.some.injEq, Prod.mk.injEq] at h
  obtain ⟨rfl, rfl, rfl⟩ := h
  refine (take_uint8_calls g s0_0 s0_1 s0_2 w hc.1 hc.2 hR).mono ?_
  rintro e w' ⟨rfl, hR', hK⟩
  have hB' := below_keeps hB hK.out hg
  exact ⟨rfl, is_of hR'.out hg hB', hB', hK.out.but⟩
 ·cases h
def cursor_width_uint8.f : Option Int := some 1
theorem cursor_width_uint8.calls (r : Int) (w : World) (h : cursor_width_uint8.f = some r) : Calls Try.prog 108 #[] w fun e w' => e = .returned (.int .i64 r) ∧ Below w.heap.size w w' := by
 obtain rfl := Option.some.inj h
 refine (width_uint8 w).mono ?_
 rintro e w' ⟨rfl, rfl⟩
 exact ⟨rfl, Below.refl _ _⟩
def cursor_Reader_Uvarint.f (s0_0 : List Int) (s0_1 s0_2 : Int) : Option (Int × Int × Int) := if atIn s0_0 s0_1 then some ((uvR s0_0 s0_1 s0_2).1, (uvR s0_0 s0_1 s0_2).2.1, (uvR s0_0 s0_1 s0_2).2.2) else none
theorem cursor_Reader_Uvarint.calls (g : Nat) (s0_0 : List Int) (s0_1 s0_2 : Int) (r1 r2 r3 : Int) (w0 w : World) (hI : IsS92 w0 w g s0_0 s0_1 s0_2) (hB : Below w0.heap.size w0 w) (h : cursor_Reader_Uvarint.f s0_0 s0_1 s0_2 = some (r1, r2, r3)) :
  Calls Try.prog 78 #[.pointer (some ⟨g, 0, none⟩)] w fun e w' => e = .returned (.int .u64 r1) ∧ IsS92 w0 w' g s0_0 r2 r3 ∧ Below w0.heap.size w0 w' ∧ KeepBut w w' g none := by
 unfold cursor_Reader_Uvarint.f at h
 split at h
 ·rename_i hc
  have hR := rd_of hI hB
  have hg := is_ge hI
  simp only [Option.some.injEq, Prod.mk.injEq] at h
  obtain ⟨rfl, rfl, rfl⟩ := h
  refine (uvarint_calls g s0_0 s0_1 s0_2 w hc.1 hc.2 hR).mono ?_
  rintro e w' ⟨rfl, hR', hK⟩
  have hB' := below_keeps hB hK.out hg
  exact ⟨rfl, is_of hR'.out hg hB', hB', hK.out.but⟩
 ·cases h
def cursor_Reader_Varint.f (s0_0 : List Int) (s0_1 s0_2 : Int) : Option (Int × Int × Int) := if atIn s0_0 s0_1 then some ((viR s0_0 s0_1 s0_2).1, (viR s0_0 s0_1 s0_2).2.1, (viR s0_0 s0_1 s0_2).2.2) else none
theorem cursor_Reader_Varint.calls (g : Nat) (s0_0 : List Int) (s0_1 s0_2 : Int) (r1 r2 r3 : Int) (w0 w : World) (hI : IsS92 w0 w g s0_0 s0_1 s0_2) (hB : Below w0.heap.size w0 w) (h : cursor_Reader_Varint.f s0_0 s0_1 s0_2 = some (r1, r2, r3)) :
  Calls Try.prog 116 #[.pointer (some ⟨g, 0, none⟩)] w fun e w' => e = .returned (.int .i64 r1) ∧ IsS92 w0 w' g s0_0 r2 r3 ∧ Below w0.heap.size w0 w' ∧ KeepBut w w' g none := by
 unfold cursor_Reader_Varint.f at h
 split at h
 ·rename_i hc
  have hR := rd_of hI hB
  have hg := is_ge hI
  simp only [Option.some.injEq, Prod.mk.injEq] at h
  obtain ⟨rfl, rfl, rfl⟩ := h
  refine (varint_calls g s0_0 s0_1 s0_2 w hc.1 hc.2 hR).mono ?_
  rintro e w' ⟨rfl, hR', hK⟩
  have hB' := below_keeps hB hK.out hg
  exact ⟨rfl, is_of hR'.out hg hB', hB', hK.out.but⟩
 ·cases h
def cursor_Reader_Left.f (s0_0 : List Int) (s0_1 s0_2 : Int) : Option (Int × Int × Int) := if atIn s0_0 s0_1 then some ((s0_0.length : Int) - s0_1, s0_1, s0_2) else none
theorem cursor_Reader_Left.calls (g : Nat) (s0_0 : List Int) (s0_1 s0_2 : Int) (r1 r2 r3 : Int) (w0 w : World) (hI : IsS92 w0 w g s0_0 s0_1 s0_2) (hB : Below w0.heap.size w0 w) (h : cursor_Reader_Left.f s0_0 s0_1 s0_2 = some (r1, r2, r3)) :
  Calls Try.prog 32 #[.pointer (some ⟨g, 0, none⟩)] w fun e w' => e = .returned (.int .i64 r1) ∧ IsS92 w0 w' g s0_0 r2 r3 ∧ Below w0.heap.size w0 w' ∧ KeepBut w w' g none := by
 unfold cursor_Reader_Left.f at h
 split at h
 ·rename_i hc
  have hR := rd_of hI hB
  have hg := is_ge hI
  simp only [Option.some.injEq, Prod.mk.injEq] at h
  obtain ⟨rfl, rfl, rfl⟩ := h
  refine (left_calls g s0_0 s0_1 s0_2 w hc.1 hc.2 hR).mono ?_
  rintro e w' ⟨rfl, hb⟩
  have hB' := below_then hB hB.size hb.out
  exact ⟨rfl, hI.below hb.out, hB', (Keeps.of_below hb.out g none).but⟩
 ·cases h
def cursor_Reader_Fault.f (s0_0 : List Int) (s0_1 s0_2 : Int) : Option (Int × Int × Int) := if atIn s0_0 s0_1 then some (s0_2, s0_1, s0_2) else none
theorem cursor_Reader_Fault.calls (g : Nat) (s0_0 : List Int) (s0_1 s0_2 : Int) (r1 r2 r3 : Int) (w0 w : World) (hI : IsS92 w0 w g s0_0 s0_1 s0_2) (hB : Below w0.heap.size w0 w) (h : cursor_Reader_Fault.f s0_0 s0_1 s0_2 = some (r1, r2, r3)) :
  Calls Try.prog 34 #[.pointer (some ⟨g, 0, none⟩)] w fun e w' => e = .returned (.int .i64 r1) ∧ IsS92 w0 w' g s0_0 r2 r3 ∧ Below w0.heap.size w0 w' ∧ KeepBut w w' g none := by
 unfold cursor_Reader_Fault.f at h
 split at h
 ·rename_i hc
  have hR := rd_of hI hB
  have hg := is_ge hI
  simp only [Option.some.injEq, Prod.mk.injEq] at h
  obtain ⟨rfl, rfl, rfl⟩ := h
  refine (fault_calls g s0_0 s0_1 s0_2 w hR).mono ?_
  rintro e w' ⟨rfl, rfl⟩
  exact ⟨rfl, hI, hB, (Keeps.refl _ _ _).but⟩
 ·cases h
def cursor_Reader_Bytes.f (s0_0 : List Int) (s0_1 s0_2 : Int) (a1 : Int) : Option (List Int × Int × Int) := if atIn s0_0 s0_1 ∧ (-9223372036854775808 ≤ a1 ∧ a1 ≤ 9223372036854775807) ∧ s0_0.length < 211106232532992 then some ((bytR s0_0 s0_1 s0_2 a1).1, (bytR s0_0 s0_1 s0_2 a1).2.1, (bytR s0_0 s0_1 s0_2 a1).2.2) else none
theorem cursor_Reader_Bytes.calls (g : Nat) (s0_0 : List Int) (s0_1 s0_2 : Int) (a1 : Int) (r1 : List Int) (r2 r3 : Int) (w0 w : World) (hI : IsS92 w0 w g s0_0 s0_1 s0_2) (hB : Below w0.heap.size w0 w) (h : cursor_Reader_Bytes.f s0_0 s0_1 s0_2 a1 = some (r1, r2, r3)) :
  Calls Try.prog 29 #[.pointer (some ⟨g, 0, none⟩), .int .i64 a1] w fun e w' => ∃ v0_ : Value, e = .returned v0_ ∧ Kd.R (Kd.int .u8) 5 w' w.heap.size (fun _ => True) v0_ r1 ∧ IsS92 w0 w' g s0_0 r2 r3 ∧ Below w0.heap.size w0 w' ∧ KeepBut w w' g none := by
 unfold cursor_Reader_Bytes.f at h
 split at h
 ·rename_i hc
  have hR := rd_of hI hB
  have hg := is_ge hI
  simp only [Option.some.injEq, Prod.mk.injEq] at h
  obtain ⟨rfl, rfl, rfl⟩ := h
  refine (bytes_calls g s0_0 s0_1 s0_2 a1 w hc.2.1.1 hc.2.1.2 hc.2.2 hc.1.1 hc.1.2 hR).mono ?_
  rintro e w' ⟨v, rfl, hv, hR', hK⟩
  have hB' := below_keeps hB hK.out hg
  exact ⟨v, rfl, hv, is_of hR'.out hg hB', hB', hK.out.but⟩
 ·cases h
def cursor_Reader_Block.f (s0_0 : List Int) (s0_1 s0_2 : Int) (a1 : Int) : Option (List Int × Int × Int) := if atIn s0_0 s0_1 ∧ (-9223372036854775808 ≤ a1 ∧ a1 ≤ 9223372036854775807) ∧ s0_0.length < 211106232532992 then some ((blkR s0_0 s0_1 s0_2 a1).1, (blkR s0_0 s0_1 s0_2 a1).2.1, (blkR s0_0 s0_1 s0_2 a1).2.2) else none
theorem cursor_Reader_Block.calls (g : Nat) (s0_0 : List Int) (s0_1 s0_2 : Int) (a1 : Int) (r1 : List Int) (r2 r3 : Int) (w0 w : World) (hI : IsS92 w0 w g s0_0 s0_1 s0_2) (hB : Below w0.heap.size w0 w) (h : cursor_Reader_Block.f s0_0 s0_1 s0_2 a1 = some (r1, r2, r3)) :
  Calls Try.prog 81 #[.pointer (some ⟨g, 0, none⟩), .int .i64 a1] w fun e w' => ∃ v0_ : Value, e = .returned v0_ ∧ Kd.R (Kd.int .u8) 5 w' w.heap.size (fun _ => True) v0_ r1 ∧ IsS92 w0 w' g s0_0 r2 r3 ∧ Below w0.heap.size w0 w' ∧ KeepBut w w' g none := by
 unfold cursor_Reader_Block.f at h
 split at h
 ·rename_i hc
  have hR := rd_of hI hB
  have hg := is_ge hI
  simp only [Option.some.injEq, Prod.mk.injEq] at h
  obtain ⟨rfl, rfl, rfl⟩ := h
  refine (blkg_calls g s0_0 s0_1 s0_2 a1 w hc.2.1.1 hc.2.1.2 hc.2.2 hc.1.1 hc.1.2 hR).mono ?_
  rintro e w' ⟨v, rfl, hv, hR', hK⟩
  have hB' := below_keeps hB hK.out hg
  exact ⟨v, rfl, hv, is_of hR'.out hg hB', hB', hK.out.but⟩
 ·cases h
end Go.Proofs.Ythiidgmemoineaa.Pa
