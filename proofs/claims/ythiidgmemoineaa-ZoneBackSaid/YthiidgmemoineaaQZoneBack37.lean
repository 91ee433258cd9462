/- The texts of ZoneBack, merged: part 37. -/
import Derived.Lib.ConvBytes
import Derived.Test.YthiidgmemoineaaQZoneBack5
/- '[]byte(s)': bytes in a row of their own that may be read. -/
namespace Go.Proofs.Ythiidgmemoineaa.Pa
open Go.RowKit Go.Proofs.YthiidgmemoineaaW.PrintWords Go.Proofs.YthiidgmemoineaaW.PrintLast Go.Proofs.YthiidgmemoineaaW.PrintMore
theorem bytesW_below (w : World) (e : TypeId) (s : ByteArray) : Below w.heap.size w (Lib.bytesWorld w e s) :=
 ⟨rfl, rfl, rfl, by rw [Lib.bytesWorld_size]; omega, fun k hk => Lib.bytesWorld_at_old w e s k hk⟩
theorem bytesW_C (w : World) (e : TypeId) (s : ByteArray) (hs : s.size ≤ 9223372036854775807) : Kd.C (Kd.int .u8) (Lib.bytesWorld w e s) (some ⟨w.heap.size, 0, none⟩) (bytesOf s).length (bytesOf s) := by
 refine Kd.C_of_reads (enc := Value.int .u8) (d := (0 : Int)) (h1 := fun _ => rfl) ⟨rfl, by rw [bytesOf_length]; exact hs, fun hn => ⟨_, rfl, fun j hj => ?_⟩⟩
 rw [bytesOf_length] at hj
 have h := Lib.bytesWorld_cell w e s j hj
 have e1 : (⟨w.heap.size, 0, none⟩ : Addr).add j = ⟨w.heap.size, j, none⟩ := by
  unfold Addr.add
  split
  ·rename_i h0; rw [h0]
  ·simp
 rw [e1, h]
 have hl : j < s.data.toList.length := by rw [Array.length_toList]; exact hj
 rw [bytesOf, List.getD_eq_getElem?_getD, List.getD_eq_getElem?_getD, List.getElem?_map, List.getElem?_eq_getElem hl]
 rfl
theorem bytesW_cap (w : World) (e : TypeId) (s : ByteArray) : (bytesOf s).length ≤ grownCap w s.size 0 e := by rw [bytesOf_length]; exact grownCap_ge _ _ _ _
end Go.Proofs.Ythiidgmemoineaa.Pa
