/- The texts of ZoneBack, merged: part 5. -/
import Derived.Test.YthiidgmemoineaaProg
import Derived.Below
import Derived.Deep.Draws
import Derived.Deep.AppendLies
import Derived.Maps.AppendAt
import Derived.OwnWalk
import Derived.Laws.BytesArg
import Derived.Laws.MakeOwn
import Derived.Laws.OwnMore
import Derived.Deep.OwnRows
import Derived.Tactics
import Derived.Lib.ConvBytes
import Derived.Laws.Slices
import Derived.WalkKit
import Derived.KernelRfl
import Derived.RowKit3
import Derived.Deep.LoopGhost
import Derived.Deep.QuietTactic
import Derived.BigQuiet
import Derived.WideLaws
import Derived.Deep.DeepCutAuto
import Derived.Deep.CutBlock
import Derived.Deep.RegionHeld3
import Derived.Laws.Rows
import Derived.Lib.AppendStr
import Derived.ArgAppend
import Derived.Laws.IdiomCopy
import Derived.OrdersHeld
import Derived.Laws.BitsLemmas
import Derived.RowKit
import Derived.Test.YthiidgmemoineaaQZoneBack0
import Derived.Test.YthiidgmemoineaaQZoneBack1
import Derived.Test.YthiidgmemoineaaQZoneBack2
import Derived.Test.YthiidgmemoineaaQZoneBack4
namespace Go.Proofs.Ythiidgmemoineaa.Pa
open Go.RowKit Go.Proofs.YthiidgmemoineaaW.PrintWords Go.Proofs.YthiidgmemoineaaW.PrintLast Go.Proofs.YthiidgmemoineaaW.PrintMore
attribute [local go_sem] max2_int min2_int max_two min_two max_three min_three max_four min_four
attribute [local go_sem] run_store_float cmp_feq cmp_fne cmp_flt cmp_fle cmp_fgt cmp_fge un_fneg equalIn_feq run_fop run_fint run_freal cmp_sgt ext_bits ext_frombits ext_cmpb
set_option linter.unusedVariables false
set_option linter.unusedSimpArgs false
def errW : Option Int → Value
 | none => .nilIface
 | some c => .iface 0 (.int .i64 c)
theorem errW_none : errW none = .nilIface := rfl
theorem errW_some (c : Int) : errW (some c) = .iface 0 (.int .i64 c) := rfl
theorem info3 : (Try.prog.info? 3).map (fun i => (i.zero, i.size, i.bytes)) = some (some (.int .i64 0), 1, 8) := by kernel_rfl
theorem info4 : (Try.prog.info? 4).map (fun i => (i.zero, i.size, i.bytes)) = some (some (.bool false), 1, 1) := by kernel_rfl
theorem info5 : (Try.prog.info? 5).map (fun i => (i.zero, i.size, i.bytes)) = some (some (.int .u8 0), 1, 1) := by kernel_rfl
theorem info28 : (Try.prog.info? 28).map (fun i => (i.zero, i.size, i.bytes)) = some (some (.agg #[(.int .i64 0), (.int .i64 0), (.float .f64 0), (.string ⟨#[]⟩)]), 4, 40) := by kernel_rfl
theorem info29 : (Try.prog.info? 29).map (fun i => (i.zero, i.size, i.bytes)) = some (some (.slice none 0 0), 1, 24) := by kernel_rfl
-- the values' own types
/-! #### struct type 28 -/
structure S28 where
 f0 : Int
 f1 : Int
 f2 : Nat
 f3 : ByteArray
def z28 : S28 := ⟨(0 : Int), (0 : Int), (0 : Nat), (⟨#[]⟩ : ByteArray)⟩
def k28 : Kd S28 := Kd.iso (Kd.pair (Kd.int .i64) (Kd.pair (Kd.int .i64) (Kd.pair Kd.f64 Kd.string))) (fun x : S28 => (x.f0, x.f1, x.f2, x.f3))
theorem k28_open {w : World} {x : S28} {cs : List Value} (h : k28.K w x cs) : cs = [.int .i64 x.f0, .int .i64 x.f1, .float .f64 x.f2, .string x.f3] := by
 obtain ⟨_, _, rfl, rfl, ⟨_, _, rfl, rfl, ⟨_, _, rfl, rfl, rfl⟩⟩⟩ := h
 exact rfl
theorem k28_openM {w : World} {base : Nat} {ok : Nat → Prop} {x : S28} {cs : List Value} (h : k28.M w base ok x cs) : cs = [.int .i64 x.f0, .int .i64 x.f1, .float .f64 x.f2, .string x.f3] := by
 obtain ⟨_, _, rfl, rfl, ⟨_, _, rfl, rfl, ⟨_, _, rfl, rfl, rfl⟩⟩⟩ := h
 exact rfl
theorem k28_mk (w : World) (x : S28)  : k28.K w x [.int .i64 x.f0, .int .i64 x.f1, .float .f64 x.f2, .string x.f3] := ⟨[.int .i64 x.f0], [.int .i64 x.f1, .float .f64 x.f2, .string x.f3], rfl, rfl, ⟨[.int .i64 x.f1], [.float .f64 x.f2, .string x.f3], rfl, rfl, ⟨[.float .f64 x.f2], [.string x.f3], rfl, rfl, rfl⟩⟩⟩
theorem k28_mkM (w : World) (base : Nat) (ok : Nat → Prop) (x : S28)  : k28.M w base ok x [.int .i64 x.f0, .int .i64 x.f1, .float .f64 x.f2, .string x.f3] := ⟨[.int .i64 x.f0], [.int .i64 x.f1, .float .f64 x.f2, .string x.f3], rfl, rfl, ⟨[.int .i64 x.f1], [.float .f64 x.f2, .string x.f3], rfl, rfl, ⟨[.float .f64 x.f2], [.string x.f3], rfl, rfl, rfl⟩⟩⟩
theorem k28_mkF (W : World) (ok : Nat → Prop) (x : S28) : Kd.FK k28 W ok x [.int .i64 x.f0, .int .i64 x.f1, .float .f64 x.f2, .string x.f3] := fun W2 _ => k28_mk W2 x
def rd_T28 (xs : List S28) (i : Int) : S28 := xs.getD i.toNat z28
theorem at_T28 {w : World} {A : Option Addr} {n : Nat} {xs : List S28} (h : Kd.C k28 w A n xs) (i : Int) (h0 : 0 ≤ i) (h1 : i < n) : ∃ ad , A = some ad ∧ w.cell? (ad.add (i.toNat * 4)) = some (.int .i64 (rd_T28 xs i).f0) ∧ w.cell? ⟨(ad.add (i.toNat * 4)).block, (ad.add (i.toNat * 4)).off + 1, none⟩ = some (.int .i64 (rd_T28 xs i).f1) ∧ w.cell? ⟨(ad.add (i.toNat * 4)).block, (ad.add (i.toNat * 4)).off + 2, none⟩ = some (.float .f64 (rd_T28 xs i).f2) ∧ w.cell? ⟨(ad.add (i.toNat * 4)).block, (ad.add (i.toNat * 4)).off + 3, none⟩ = some (.string (rd_T28 xs i).f3) := by
 obtain ⟨ad, c, e, _, hK, hc0⟩ := Kd.C_get h z28 i h0 h1
 have hc : ∀ j u, c[j]? = some u → w.cell? (ad.add (i.toNat * 4 + j)) = some u := hc0
 obtain rfl := k28_open hK
 exact ⟨ad, e, hc 0 _ rfl, by rw [← add_field _ _ 1 (by omega)]; exact hc 1 _ rfl, by rw [← add_field _ _ 2 (by omega)]; exact hc 2 _ rfl, by rw [← add_field _ _ 3 (by omega)]; exact hc 3 _ rfl⟩
def rd_L6 (xs : List (List S28)) (i : Int) : (List S28) := xs.getD i.toNat ([] : List S28)
theorem at_L6 {w : World} {A : Option Addr} {n : Nat} {xs : List (List S28)} (h : Kd.C (Kd.slice 28 k28) w A n xs) (i : Int) (h0 : 0 ≤ i) (h1 : i < n) : ∃ ad A0 c0, A = some ad ∧ w.cell? (ad.add i.toNat) = some (.slice A0 (rd_L6 xs i).length c0) ∧ (rd_L6 xs i).length ≤ c0 ∧ k28.C w A0 (rd_L6 xs i).length (rd_L6 xs i) := by
 obtain ⟨ad, c, e, _, hK, hc0⟩ := Kd.C_get h ([] : List S28) i h0 h1
 have hc : ∀ j u, c[j]? = some u → w.cell? (ad.add (i.toNat * 1 + j)) = some u := hc0
 obtain ⟨A0, c0, rfl, l0, g0⟩ := hK
 exact ⟨ad, A0, c0, e, by have hq := hc 0 _ rfl; rwa [Nat.mul_one, Nat.add_zero] at hq, l0, g0⟩
/-! #### struct type 23 -/
structure S23 where
 f0 : ByteArray
 f1 : Int
 f2 : Bool
def z23 : S23 := ⟨(⟨#[]⟩ : ByteArray), (0 : Int), false⟩
def k23 : Kd S23 := Kd.iso (Kd.pair Kd.string (Kd.pair (Kd.int .i64) Kd.bool)) (fun x : S23 => (x.f0, x.f1, x.f2))
theorem k23_open {w : World} {x : S23} {cs : List Value} (h : k23.K w x cs) : cs = [.string x.f0, .int .i64 x.f1, .bool x.f2] := by
 obtain ⟨_, _, rfl, rfl, ⟨_, _, rfl, rfl, rfl⟩⟩ := h
 exact rfl
theorem k23_openM {w : World} {base : Nat} {ok : Nat → Prop} {x : S23} {cs : List Value} (h : k23.M w base ok x cs) : cs = [.string x.f0, .int .i64 x.f1, .bool x.f2] := by
 obtain ⟨_, _, rfl, rfl, ⟨_, _, rfl, rfl, rfl⟩⟩ := h
 exact rfl
theorem k23_mk (w : World) (x : S23)  : k23.K w x [.string x.f0, .int .i64 x.f1, .bool x.f2] := ⟨[.string x.f0], [.int .i64 x.f1, .bool x.f2], rfl, rfl, ⟨[.int .i64 x.f1], [.bool x.f2], rfl, rfl, rfl⟩⟩
theorem k23_mkM (w : World) (base : Nat) (ok : Nat → Prop) (x : S23)  : k23.M w base ok x [.string x.f0, .int .i64 x.f1, .bool x.f2] := ⟨[.string x.f0], [.int .i64 x.f1, .bool x.f2], rfl, rfl, ⟨[.int .i64 x.f1], [.bool x.f2], rfl, rfl, rfl⟩⟩
theorem k23_mkF (W : World) (ok : Nat → Prop) (x : S23) : Kd.FK k23 W ok x [.string x.f0, .int .i64 x.f1, .bool x.f2] := fun W2 _ => k23_mk W2 x
def rd_T23 (xs : List S23) (i : Int) : S23 := xs.getD i.toNat z23
theorem at_T23 {w : World} {A : Option Addr} {n : Nat} {xs : List S23} (h : Kd.C k23 w A n xs) (i : Int) (h0 : 0 ≤ i) (h1 : i < n) : ∃ ad , A = some ad ∧ w.cell? (ad.add (i.toNat * 3)) = some (.string (rd_T23 xs i).f0) ∧ w.cell? ⟨(ad.add (i.toNat * 3)).block, (ad.add (i.toNat * 3)).off + 1, none⟩ = some (.int .i64 (rd_T23 xs i).f1) ∧ w.cell? ⟨(ad.add (i.toNat * 3)).block, (ad.add (i.toNat * 3)).off + 2, none⟩ = some (.bool (rd_T23 xs i).f2) := by
 obtain ⟨ad, c, e, _, hK, hc0⟩ := Kd.C_get h z23 i h0 h1
 have hc : ∀ j u, c[j]? = some u → w.cell? (ad.add (i.toNat * 3 + j)) = some u := hc0
 obtain rfl := k23_open hK
 exact ⟨ad, e, hc 0 _ rfl, by rw [← add_field _ _ 1 (by omega)]; exact hc 1 _ rfl, by rw [← add_field _ _ 2 (by omega)]; exact hc 2 _ rfl⟩
def rd_L8 (xs : List (List Int)) (i : Int) : (List Int) := xs.getD i.toNat ([] : List Int)
theorem at_L8 {w : World} {A : Option Addr} {n : Nat} {xs : List (List Int)} (h : Kd.C (Kd.slice 5 (Kd.int .u8)) w A n xs) (i : Int) (h0 : 0 ≤ i) (h1 : i < n) : ∃ ad A0 c0, A = some ad ∧ w.cell? (ad.add i.toNat) = some (.slice A0 (rd_L8 xs i).length c0) ∧ (rd_L8 xs i).length ≤ c0 ∧ (Kd.int .u8).C w A0 (rd_L8 xs i).length (rd_L8 xs i) := by
 obtain ⟨ad, c, e, _, hK, hc0⟩ := Kd.C_get h ([] : List Int) i h0 h1
 have hc : ∀ j u, c[j]? = some u → w.cell? (ad.add (i.toNat * 1 + j)) = some u := hc0
 obtain ⟨A0, c0, rfl, l0, g0⟩ := hK
 exact ⟨ad, A0, c0, e, by have hq := hc 0 _ rfl; rwa [Nat.mul_one, Nat.add_zero] at hq, l0, g0⟩
/-! #### struct type 31 -/
structure S31 where
 f0 : Int
 f1 : S28
 f2 : S28
 f3 : (List Int)
def z31 : S31 := ⟨(0 : Int), z28, z28, ([] : List Int)⟩
def k31 : Kd S31 := Kd.iso (Kd.pair (Kd.int .i64) (Kd.pair k28 (Kd.pair k28 (Kd.slice 5 (Kd.int .u8))))) (fun x : S31 => (x.f0, x.f1, x.f2, x.f3))
theorem k31_open {w : World} {x : S31} {cs : List Value} (h : k31.K w x cs) : ∃ A9 c9, cs = [.int .i64 x.f0, .int .i64 x.f1.f0, .int .i64 x.f1.f1, .float .f64 x.f1.f2, .string x.f1.f3, .int .i64 x.f2.f0, .int .i64 x.f2.f1, .float .f64 x.f2.f2, .string x.f2.f3, .slice A9 x.f3.length c9] ∧ x.f3.length ≤ c9 ∧ (Kd.int .u8).C w A9 x.f3.length x.f3 := by
 obtain ⟨_, _, rfl, rfl, ⟨_, _, rfl, s1, ⟨_, _, rfl, s5, ⟨A9, c9, rfl, l9, g9⟩⟩⟩⟩ := h
 obtain rfl := k28_open s1
 obtain rfl := k28_open s5
 exact ⟨A9, c9, rfl, l9, g9⟩
theorem k31_openM {w : World} {base : Nat} {ok : Nat → Prop} {x : S31} {cs : List Value} (h : k31.M w base ok x cs) : ∃ v9, cs = [.int .i64 x.f0, .int .i64 x.f1.f0, .int .i64 x.f1.f1, .float .f64 x.f1.f2, .string x.f1.f3, .int .i64 x.f2.f0, .int .i64 x.f2.f1, .float .f64 x.f2.f2, .string x.f2.f3, v9] ∧ (Kd.int .u8).R 5 w base ok v9 x.f3 := by
 obtain ⟨_, _, rfl, rfl, ⟨_, _, rfl, s1, ⟨_, _, rfl, s5, ⟨v9, rfl, g9⟩⟩⟩⟩ := h
 obtain rfl := k28_openM s1
 obtain rfl := k28_openM s5
 exact ⟨v9, rfl, g9⟩
theorem k31_mk (w : World) (x : S31) {A9 : Option Addr} {c9 : Nat} (l9 : x.f3.length ≤ c9) (g9 : (Kd.int .u8).C w A9 x.f3.length x.f3) : k31.K w x [.int .i64 x.f0, .int .i64 x.f1.f0, .int .i64 x.f1.f1, .float .f64 x.f1.f2, .string x.f1.f3, .int .i64 x.f2.f0, .int .i64 x.f2.f1, .float .f64 x.f2.f2, .string x.f2.f3, .slice A9 x.f3.length c9] := ⟨[.int .i64 x.f0], [.int .i64 x.f1.f0, .int .i64 x.f1.f1, .float .f64 x.f1.f2, .string x.f1.f3, .int .i64 x.f2.f0, .int .i64 x.f2.f1, .float .f64 x.f2.f2, .string x.f2.f3, .slice A9 x.f3.length c9], rfl, rfl, ⟨[.int .i64 x.f1.f0, .int .i64 x.f1.f1, .float .f64 x.f1.f2, .string x.f1.f3], [.int .i64 x.f2.f0, .int .i64 x.f2.f1, .float .f64 x.f2.f2, .string x.f2.f3, .slice A9 x.f3.length c9], rfl, (k28_mk w x.f1 ), ⟨[.int .i64 x.f2.f0, .int .i64 x.f2.f1, .float .f64 x.f2.f2, .string x.f2.f3], [.slice A9 x.f3.length c9], rfl, (k28_mk w x.f2 ), ⟨A9, c9, rfl, l9, g9⟩⟩⟩⟩
theorem k31_mkM (w : World) (base : Nat) (ok : Nat → Prop) (x : S31) {v9 : Value} (g9 : (Kd.int .u8).R 5 w base ok v9 x.f3) : k31.M w base ok x [.int .i64 x.f0, .int .i64 x.f1.f0, .int .i64 x.f1.f1, .float .f64 x.f1.f2, .string x.f1.f3, .int .i64 x.f2.f0, .int .i64 x.f2.f1, .float .f64 x.f2.f2, .string x.f2.f3, v9] := ⟨[.int .i64 x.f0], [.int .i64 x.f1.f0, .int .i64 x.f1.f1, .float .f64 x.f1.f2, .string x.f1.f3, .int .i64 x.f2.f0, .int .i64 x.f2.f1, .float .f64 x.f2.f2, .string x.f2.f3, v9], rfl, rfl, ⟨[.int .i64 x.f1.f0, .int .i64 x.f1.f1, .float .f64 x.f1.f2, .string x.f1.f3], [.int .i64 x.f2.f0, .int .i64 x.f2.f1, .float .f64 x.f2.f2, .string x.f2.f3, v9], rfl, (k28_mkM w base ok x.f1 ), ⟨[.int .i64 x.f2.f0, .int .i64 x.f2.f1, .float .f64 x.f2.f2, .string x.f2.f3], [v9], rfl, (k28_mkM w base ok x.f2 ), ⟨v9, rfl, g9⟩⟩⟩⟩
theorem k31_openF {W : World} {ok : Nat → Prop} {x : S31} {cs : List Value} (h : Kd.FK k31 W ok x cs) : ∃ A9 c9, cs = [.int .i64 x.f0, .int .i64 x.f1.f0, .int .i64 x.f1.f1, .float .f64 x.f1.f2, .string x.f1.f3, .int .i64 x.f2.f0, .int .i64 x.f2.f1, .float .f64 x.f2.f2, .string x.f2.f3, .slice A9 x.f3.length c9] ∧ x.f3.length ≤ c9 ∧ Kd.F (Kd.int .u8) W ok A9 x.f3.length x.f3 := by
 obtain ⟨A9, c9, rfl, l9, _⟩ := k31_open (Kd.FK_now h)
 exact ⟨A9, c9, rfl, l9, (fun W' hW => by obtain ⟨A9_, c9_, he, l9_, g9_⟩ := k31_open (h W' hW); injection (Option.some.inj (show some (Value.slice A9 x.f3.length c9) = some (Value.slice A9_ x.f3.length c9_) from congrArg (fun l => l[9]?) he)) with ha_ _ _; rw [ha_]; exact g9_)⟩
theorem k31_mkF (W : World) (ok : Nat → Prop) (x : S31) {A9 : Option Addr} {c9 : Nat} (l9 : x.f3.length ≤ c9) (g9 : Kd.F (Kd.int .u8) W ok A9 x.f3.length x.f3) : Kd.FK k31 W ok x [.int .i64 x.f0, .int .i64 x.f1.f0, .int .i64 x.f1.f1, .float .f64 x.f1.f2, .string x.f1.f3, .int .i64 x.f2.f0, .int .i64 x.f2.f1, .float .f64 x.f2.f2, .string x.f2.f3, .slice A9 x.f3.length c9] := fun W2 hW => k31_mk W2 x l9 (g9 W2 hW)
def rd_T31 (xs : List S31) (i : Int) : S31 := xs.getD i.toNat z31
theorem at_T31 {w : World} {A : Option Addr} {n : Nat} {xs : List S31} (h : Kd.C k31 w A n xs) (i : Int) (h0 : 0 ≤ i) (h1 : i < n) : ∃ ad A9 c9, A = some ad ∧ w.cell? (ad.add (i.toNat * 10)) = some (.int .i64 (rd_T31 xs i).f0) ∧ w.cell? ⟨(ad.add (i.toNat * 10)).block, (ad.add (i.toNat * 10)).off + 1, none⟩ = some (.int .i64 (rd_T31 xs i).f1.f0) ∧ w.cell? ⟨(ad.add (i.toNat * 10)).block, (ad.add (i.toNat * 10)).off + 2, none⟩ = some (.int .i64 (rd_T31 xs i).f1.f1) ∧ w.cell? ⟨(ad.add (i.toNat * 10)).block, (ad.add (i.toNat * 10)).off + 3, none⟩ = some (.float .f64 (rd_T31 xs i).f1.f2) ∧ w.cell? ⟨(ad.add (i.toNat * 10)).block, (ad.add (i.toNat * 10)).off + 4, none⟩ = some (.string (rd_T31 xs i).f1.f3) ∧ w.cell? ⟨(ad.add (i.toNat * 10)).block, (ad.add (i.toNat * 10)).off + 5, none⟩ = some (.int .i64 (rd_T31 xs i).f2.f0) ∧ w.cell? ⟨(ad.add (i.toNat * 10)).block, (ad.add (i.toNat * 10)).off + 6, none⟩ = some (.int .i64 (rd_T31 xs i).f2.f1) ∧ w.cell? ⟨(ad.add (i.toNat * 10)).block, (ad.add (i.toNat * 10)).off + 7, none⟩ = some (.float .f64 (rd_T31 xs i).f2.f2) ∧ w.cell? ⟨(ad.add (i.toNat * 10)).block, (ad.add (i.toNat * 10)).off + 8, none⟩ = some (.string (rd_T31 xs i).f2.f3) ∧ w.cell? ⟨(ad.add (i.toNat * 10)).block, (ad.add (i.toNat * 10)).off + 9, none⟩ = some (.slice A9 (rd_T31 xs i).f3.length c9) ∧ (rd_T31 xs i).f3.length ≤ c9 ∧ (Kd.int .u8).C w A9 (rd_T31 xs i).f3.length (rd_T31 xs i).f3 := by
 obtain ⟨ad, c, e, _, hK, hc0⟩ := Kd.C_get h z31 i h0 h1
 have hc : ∀ j u, c[j]? = some u → w.cell? (ad.add (i.toNat * 10 + j)) = some u := hc0
 obtain ⟨A9, c9, rfl, l9, g9⟩ := k31_open hK
 exact ⟨ad, A9, c9, e, hc 0 _ rfl, by rw [← add_field _ _ 1 (by omega)]; exact hc 1 _ rfl, by rw [← add_field _ _ 2 (by omega)]; exact hc 2 _ rfl, by rw [← add_field _ _ 3 (by omega)]; exact hc 3 _ rfl, by rw [← add_field _ _ 4 (by omega)]; exact hc 4 _ rfl, by rw [← add_field _ _ 5 (by omega)]; exact hc 5 _ rfl, by rw [← add_field _ _ 6 (by omega)]; exact hc 6 _ rfl, by rw [← add_field _ _ 7 (by omega)]; exact hc 7 _ rfl, by rw [← add_field _ _ 8 (by omega)]; exact hc 8 _ rfl, by rw [← add_field _ _ 9 (by omega)]; exact hc 9 _ rfl, l9, g9⟩
/-! #### struct type 63 -/
structure S63 where
 f0 : S23
 f1 : (List S28)
 f2 : (List S28)
 f3 : Int
 f4 : S31
def z63 : S63 := ⟨z23, ([] : List S28), ([] : List S28), (0 : Int), z31⟩
def k63 : Kd S63 := Kd.iso (Kd.pair k23 (Kd.pair (Kd.slice 28 k28) (Kd.pair (Kd.slice 28 k28) (Kd.pair (Kd.int .i64) k31)))) (fun x : S63 => (x.f0, x.f1, x.f2, x.f3, x.f4))
theorem k63_open {w : World} {x : S63} {cs : List Value} (h : k63.K w x cs) : ∃ A3 c3 A4 c4 A15 c15, cs = [.string x.f0.f0, .int .i64 x.f0.f1, .bool x.f0.f2, .slice A3 x.f1.length c3, .slice A4 x.f2.length c4, .int .i64 x.f3, .int .i64 x.f4.f0, .int .i64 x.f4.f1.f0, .int .i64 x.f4.f1.f1, .float .f64 x.f4.f1.f2, .string x.f4.f1.f3, .int .i64 x.f4.f2.f0, .int .i64 x.f4.f2.f1, .float .f64 x.f4.f2.f2, .string x.f4.f2.f3, .slice A15 x.f4.f3.length c15] ∧ x.f1.length ≤ c3 ∧ k28.C w A3 x.f1.length x.f1 ∧ x.f2.length ≤ c4 ∧ k28.C w A4 x.f2.length x.f2 ∧ x.f4.f3.length ≤ c15 ∧ (Kd.int .u8).C w A15 x.f4.f3.length x.f4.f3 := by
 obtain ⟨_, _, rfl, s0, ⟨_, _, rfl, ⟨A3, c3, rfl, l3, g3⟩, ⟨_, _, rfl, ⟨A4, c4, rfl, l4, g4⟩, ⟨_, _, rfl, rfl, s6⟩⟩⟩⟩ := h
 obtain rfl := k23_open s0
 obtain ⟨A15, c15, rfl, l15, g15⟩ := k31_open s6
 exact ⟨A3, c3, A4, c4, A15, c15, rfl, l3, g3, l4, g4, l15, g15⟩
theorem k63_openM {w : World} {base : Nat} {ok : Nat → Prop} {x : S63} {cs : List Value} (h : k63.M w base ok x cs) : ∃ v3 v4 v15, cs = [.string x.f0.f0, .int .i64 x.f0.f1, .bool x.f0.f2, v3, v4, .int .i64 x.f3, .int .i64 x.f4.f0, .int .i64 x.f4.f1.f0, .int .i64 x.f4.f1.f1, .float .f64 x.f4.f1.f2, .string x.f4.f1.f3, .int .i64 x.f4.f2.f0, .int .i64 x.f4.f2.f1, .float .f64 x.f4.f2.f2, .string x.f4.f2.f3, v15] ∧ k28.R 28 w base ok v3 x.f1 ∧ k28.R 28 w base ok v4 x.f2 ∧ (Kd.int .u8).R 5 w base ok v15 x.f4.f3 := by
 obtain ⟨_, _, rfl, s0, ⟨_, _, rfl, ⟨v3, rfl, g3⟩, ⟨_, _, rfl, ⟨v4, rfl, g4⟩, ⟨_, _, rfl, rfl, s6⟩⟩⟩⟩ := h
 obtain rfl := k23_openM s0
 obtain ⟨v15, rfl, g15⟩ := k31_openM s6
 exact ⟨v3, v4, v15, rfl, g3, g4, g15⟩
theorem k63_mk (w : World) (x : S63) {A3 : Option Addr} {c3 : Nat} (l3 : x.f1.length ≤ c3) (g3 : k28.C w A3 x.f1.length x.f1) {A4 : Option Addr} {c4 : Nat} (l4 : x.f2.length ≤ c4) (g4 : k28.C w A4 x.f2.length x.f2) {A15 : Option Addr} {c15 : Nat} (l15 : x.f4.f3.length ≤ c15) (g15 : (Kd.int .u8).C w A15 x.f4.f3.length x.f4.f3) : k63.K w x [.string x.f0.f0, .int .i64 x.f0.f1, .bool x.f0.f2, .slice A3 x.f1.length c3, .slice A4 x.f2.length c4, .int .i64 x.f3, .int .i64 x.f4.f0, .int .i64 x.f4.f1.f0, .int .i64 x.f4.f1.f1, .float .f64 x.f4.f1.f2, .string x.f4.f1.f3, .int .i64 x.f4.f2.f0, .int .i64 x.f4.f2.f1, .float .f64 x.f4.f2.f2, .string x.f4.f2.f3, .slice A15 x.f4.f3.length c15] := ⟨[.string x.f0.f0, .int .i64 x.f0.f1, .bool x.f0.f2], [.slice A3 x.f1.length c3, .slice A4 x.f2.length c4, .int .i64 x.f3, .int .i64 x.f4.f0, .int .i64 x.f4.f1.f0, .int .i64 x.f4.f1.f1, .float .f64 x.f4.f1.f2, .string x.f4.f1.f3, .int .i64 x.f4.f2.f0, .int .i64 x.f4.f2.f1, .float .f64 x.f4.f2.f2, .string x.f4.f2.f3, .slice A15 x.f4.f3.length c15], rfl, (k23_mk w x.f0 ), ⟨[.slice A3 x.f1.length c3], [.slice A4 x.f2.length c4, .int .i64 x.f3, .int .i64 x.f4.f0, .int .i64 x.f4.f1.f0, .int .i64 x.f4.f1.f1, .float .f64 x.f4.f1.f2, .string x.f4.f1.f3, .int .i64 x.f4.f2.f0, .int .i64 x.f4.f2.f1, .float .f64 x.f4.f2.f2, .string x.f4.f2.f3, .slice A15 x.f4.f3.length c15], rfl, ⟨A3, c3, rfl, l3, g3⟩, ⟨[.slice A4 x.f2.length c4], [.int .i64 x.f3, .int .i64 x.f4.f0, .int .i64 x.f4.f1.f0, .int .i64 x.f4.f1.f1, .float .f64 x.f4.f1.f2, .string x.f4.f1.f3, .int .i64 x.f4.f2.f0, .int .i64 x.f4.f2.f1, .float .f64 x.f4.f2.f2, .string x.f4.f2.f3, .slice A15 x.f4.f3.length c15], rfl, ⟨A4, c4, rfl, l4, g4⟩, ⟨[.int .i64 x.f3], [.int .i64 x.f4.f0, .int .i64 x.f4.f1.f0, .int .i64 x.f4.f1.f1, .float .f64 x.f4.f1.f2, .string x.f4.f1.f3, .int .i64 x.f4.f2.f0, .int .i64 x.f4.f2.f1, .float .f64 x.f4.f2.f2, .string x.f4.f2.f3, .slice A15 x.f4.f3.length c15], rfl, rfl, (k31_mk w x.f4 l15 g15)⟩⟩⟩⟩
theorem k63_mkM (w : World) (base : Nat) (ok : Nat → Prop) (x : S63) {v3 : Value} (g3 : k28.R 28 w base ok v3 x.f1) {v4 : Value} (g4 : k28.R 28 w base ok v4 x.f2) {v15 : Value} (g15 : (Kd.int .u8).R 5 w base ok v15 x.f4.f3) : k63.M w base ok x [.string x.f0.f0, .int .i64 x.f0.f1, .bool x.f0.f2, v3, v4, .int .i64 x.f3, .int .i64 x.f4.f0, .int .i64 x.f4.f1.f0, .int .i64 x.f4.f1.f1, .float .f64 x.f4.f1.f2, .string x.f4.f1.f3, .int .i64 x.f4.f2.f0, .int .i64 x.f4.f2.f1, .float .f64 x.f4.f2.f2, .string x.f4.f2.f3, v15] := ⟨[.string x.f0.f0, .int .i64 x.f0.f1, .bool x.f0.f2], [v3, v4, .int .i64 x.f3, .int .i64 x.f4.f0, .int .i64 x.f4.f1.f0, .int .i64 x.f4.f1.f1, .float .f64 x.f4.f1.f2, .string x.f4.f1.f3, .int .i64 x.f4.f2.f0, .int .i64 x.f4.f2.f1, .float .f64 x.f4.f2.f2, .string x.f4.f2.f3, v15], rfl, (k23_mkM w base ok x.f0 ), ⟨[v3], [v4, .int .i64 x.f3, .int .i64 x.f4.f0, .int .i64 x.f4.f1.f0, .int .i64 x.f4.f1.f1, .float .f64 x.f4.f1.f2, .string x.f4.f1.f3, .int .i64 x.f4.f2.f0, .int .i64 x.f4.f2.f1, .float .f64 x.f4.f2.f2, .string x.f4.f2.f3, v15], rfl, ⟨v3, rfl, g3⟩, ⟨[v4], [.int .i64 x.f3, .int .i64 x.f4.f0, .int .i64 x.f4.f1.f0, .int .i64 x.f4.f1.f1, .float .f64 x.f4.f1.f2, .string x.f4.f1.f3, .int .i64 x.f4.f2.f0, .int .i64 x.f4.f2.f1, .float .f64 x.f4.f2.f2, .string x.f4.f2.f3, v15], rfl, ⟨v4, rfl, g4⟩, ⟨[.int .i64 x.f3], [.int .i64 x.f4.f0, .int .i64 x.f4.f1.f0, .int .i64 x.f4.f1.f1, .float .f64 x.f4.f1.f2, .string x.f4.f1.f3, .int .i64 x.f4.f2.f0, .int .i64 x.f4.f2.f1, .float .f64 x.f4.f2.f2, .string x.f4.f2.f3, v15], rfl, rfl, (k31_mkM w base ok x.f4 g15)⟩⟩⟩⟩
theorem k63_openF {W : World} {ok : Nat → Prop} {x : S63} {cs : List Value} (h : Kd.FK k63 W ok x cs) : ∃ A3 c3 A4 c4 A15 c15, cs = [.string x.f0.f0, .int .i64 x.f0.f1, .bool x.f0.f2, .slice A3 x.f1.length c3, .slice A4 x.f2.length c4, .int .i64 x.f3, .int .i64 x.f4.f0, .int .i64 x.f4.f1.f0, .int .i64 x.f4.f1.f1, .float .f64 x.f4.f1.f2, .string x.f4.f1.f3, .int .i64 x.f4.f2.f0, .int .i64 x.f4.f2.f1, .float .f64 x.f4.f2.f2, .string x.f4.f2.f3, .slice A15 x.f4.f3.length c15] ∧ x.f1.length ≤ c3 ∧ Kd.F k28 W ok A3 x.f1.length x.f1 ∧ x.f2.length ≤ c4 ∧ Kd.F k28 W ok A4 x.f2.length x.f2 ∧ x.f4.f3.length ≤ c15 ∧ Kd.F (Kd.int .u8) W ok A15 x.f4.f3.length x.f4.f3 := by
 obtain ⟨A3, c3, A4, c4, A15, c15, rfl, l3, _, l4, _, l15, _⟩ := k63_open (Kd.FK_now h)
 exact ⟨A3, c3, A4, c4, A15, c15, rfl, l3, (fun W' hW => by obtain ⟨A3_, c3_, A4_, c4_, A15_, c15_, he, l3_, g3_, l4_, g4_, l15_, g15_⟩ := k63_open (h W' hW); injection (Option.some.inj (show some (Value.slice A3 x.f1.length c3) = some (Value.slice A3_ x.f1.length c3_) from congrArg (fun l => l[3]?) he)) with ha_ _ _; rw [ha_]; exact g3_), l4, (fun W' hW => by obtain ⟨A3_, c3_, A4_, c4_, A15_, c15_, he, l3_, g3_, l4_, g4_, l15_, g15_⟩ := k63_open (h W' hW); injection (Option.some.inj (show some (Value.slice A4 x.f2.length c4) = some (Value.slice A4_ x.f2.length c4_) from congrArg (fun l => l[4]?) he)) with ha_ _ _; rw [ha_]; exact g4_), l15, (fun W' hW => by obtain ⟨A3_, c3_, A4_, c4_, A15_, c15_, he, l3_, g3_, l4_, g4_, l15_, g15_⟩ := k63_open (h W' hW); injection (Option.some.inj (show some (Value.slice A15 x.f4.f3.length c15) = some (Value.slice A15_ x.f4.f3.length c15_) from congrArg (fun l => l[15]?) he)) with ha_ _ _; rw [ha_]; exact g15_)⟩
theorem k63_mkF (W : World) (ok : Nat → Prop) (x : S63) {A3 : Option Addr} {c3 : Nat} (l3 : x.f1.length ≤ c3) (g3 : Kd.F k28 W ok A3 x.f1.length x.f1) {A4 : Option Addr} {c4 : Nat} (l4 : x.f2.length ≤ c4) (g4 : Kd.F k28 W ok A4 x.f2.length x.f2) {A15 : Option Addr} {c15 : Nat} (l15 : x.f4.f3.length ≤ c15) (g15 : Kd.F (Kd.int .u8) W ok A15 x.f4.f3.length x.f4.f3) : Kd.FK k63 W ok x [.string x.f0.f0, .int .i64 x.f0.f1, .bool x.f0.f2, .slice A3 x.f1.length c3, .slice A4 x.f2.length c4, .int .i64 x.f3, .int .i64 x.f4.f0, .int .i64 x.f4.f1.f0, .int .i64 x.f4.f1.f1, .float .f64 x.f4.f1.f2, .string x.f4.f1.f3, .int .i64 x.f4.f2.f0, .int .i64 x.f4.f2.f1, .float .f64 x.f4.f2.f2, .string x.f4.f2.f3, .slice A15 x.f4.f3.length c15] := fun W2 hW => k63_mk W2 x l3 (g3 W2 hW) l4 (g4 W2 hW) l15 (g15 W2 hW)
def rd_T63 (xs : List S63) (i : Int) : S63 := xs.getD i.toNat z63
theorem at_T63 {w : World} {A : Option Addr} {n : Nat} {xs : List S63} (h : Kd.C k63 w A n xs) (i : Int) (h0 : 0 ≤ i) (h1 : i < n) : ∃ ad A3 c3 A4 c4 A15 c15, A = some ad ∧ w.cell? (ad.add (i.toNat * 16)) = some (.string (rd_T63 xs i).f0.f0) ∧ w.cell? ⟨(ad.add (i.toNat * 16)).block, (ad.add (i.toNat * 16)).off + 1, none⟩ = some (.int .i64 (rd_T63 xs i).f0.f1) ∧ w.cell? ⟨(ad.add (i.toNat * 16)).block, (ad.add (i.toNat * 16)).off + 2, none⟩ = some (.bool (rd_T63 xs i).f0.f2) ∧ w.cell? ⟨(ad.add (i.toNat * 16)).block, (ad.add (i.toNat * 16)).off + 3, none⟩ = some (.slice A3 (rd_T63 xs i).f1.length c3) ∧ w.cell? ⟨(ad.add (i.toNat * 16)).block, (ad.add (i.toNat * 16)).off + 4, none⟩ = some (.slice A4 (rd_T63 xs i).f2.length c4) ∧ w.cell? ⟨(ad.add (i.toNat * 16)).block, (ad.add (i.toNat * 16)).off + 5, none⟩ = some (.int .i64 (rd_T63 xs i).f3) ∧ w.cell? ⟨(ad.add (i.toNat * 16)).block, (ad.add (i.toNat * 16)).off + 6, none⟩ = some (.int .i64 (rd_T63 xs i).f4.f0) ∧ w.cell? ⟨(ad.add (i.toNat * 16)).block, (ad.add (i.toNat * 16)).off + 7, none⟩ = some (.int .i64 (rd_T63 xs i).f4.f1.f0) ∧ w.cell? ⟨(ad.add (i.toNat * 16)).block, (ad.add (i.toNat * 16)).off + 8, none⟩ = some (.int .i64 (rd_T63 xs i).f4.f1.f1) ∧ w.cell? ⟨(ad.add (i.toNat * 16)).block, (ad.add (i.toNat * 16)).off + 9, none⟩ = some (.float .f64 (rd_T63 xs i).f4.f1.f2) ∧ w.cell? ⟨(ad.add (i.toNat * 16)).block, (ad.add (i.toNat * 16)).off + 10, none⟩ = some (.string (rd_T63 xs i).f4.f1.f3) ∧ w.cell? ⟨(ad.add (i.toNat * 16)).block, (ad.add (i.toNat * 16)).off + 11, none⟩ = some (.int .i64 (rd_T63 xs i).f4.f2.f0) ∧ w.cell? ⟨(ad.add (i.toNat * 16)).block, (ad.add (i.toNat * 16)).off + 12, none⟩ = some (.int .i64 (rd_T63 xs i).f4.f2.f1) ∧ w.cell? ⟨(ad.add (i.toNat * 16)).block, (ad.add (i.toNat * 16)).off + 13, none⟩ = some (.float .f64 (rd_T63 xs i).f4.f2.f2) ∧ w.cell? ⟨(ad.add (i.toNat * 16)).block, (ad.add (i.toNat * 16)).off + 14, none⟩ = some (.string (rd_T63 xs i).f4.f2.f3) ∧ w.cell? ⟨(ad.add (i.toNat * 16)).block, (ad.add (i.toNat * 16)).off + 15, none⟩ = some (.slice A15 (rd_T63 xs i).f4.f3.length c15) ∧ (rd_T63 xs i).f1.length ≤ c3 ∧ k28.C w A3 (rd_T63 xs i).f1.length (rd_T63 xs i).f1 ∧ (rd_T63 xs i).f2.length ≤ c4 ∧ k28.C w A4 (rd_T63 xs i).f2.length (rd_T63 xs i).f2 ∧ (rd_T63 xs i).f4.f3.length ≤ c15 ∧ (Kd.int .u8).C w A15 (rd_T63 xs i).f4.f3.length (rd_T63 xs i).f4.f3 := by
 obtain ⟨ad, c, e, _, hK, hc0⟩ := Kd.C_get h z63 i h0 h1
 have hc : ∀ j u, c[j]? = some u → w.cell? (ad.add (i.toNat * 16 + j)) = some u := hc0
 obtain ⟨A3, c3, A4, c4, A15, c15, rfl, l3, g3, l4, g4, l15, g15⟩ := k63_open hK
 exact ⟨ad, A3, c3, A4, c4, A15, c15, e, hc 0 _ rfl, by rw [← add_field _ _ 1 (by omega)]; exact hc 1 _ rfl, by rw [← add_field _ _ 2 (by omega)]; exact hc 2 _ rfl, by rw [← add_field _ _ 3 (by omega)]; exact hc 3 _ rfl, by rw [← add_field _ _ 4 (by omega)]; exact hc 4 _ rfl, by rw [← add_field _ _ 5 (by omega)]; exact hc 5 _ rfl, by rw [← add_field _ _ 6 (by omega)]; exact hc 6 _ rfl, by rw [← add_field _ _ 7 (by omega)]; exact hc 7 _ rfl, by rw [← add_field _ _ 8 (by omega)]; exact hc 8 _ rfl, by rw [← add_field _ _ 9 (by omega)]; exact hc 9 _ rfl, by rw [← add_field _ _ 10 (by omega)]; exact hc 10 _ rfl, by rw [← add_field _ _ 11 (by omega)]; exact hc 11 _ rfl, by rw [← add_field _ _ 12 (by omega)]; exact hc 12 _ rfl, by rw [← add_field _ _ 13 (by omega)]; exact hc 13 _ rfl, by rw [← add_field _ _ 14 (by omega)]; exact hc 14 _ rfl, by rw [← add_field _ _ 15 (by omega)]; exact hc 15 _ rfl, l3, g3, l4, g4, l15, g15⟩
end Go.Proofs.Ythiidgmemoineaa.Pa
