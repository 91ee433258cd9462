/- The texts of AtomBounded, merged: part 10. -/
import Derived.Test.YtkedejphebfneaaQAtomBounded5
import Derived.Test.YtkedejphebfneaaQAtomBounded9
import Derived.Maps.OwnSet
import Derived.StringKeys
import Derived.Defers
import Derived.Recover
import Derived.Laws.Pointers
import Derived.WalkLawsBesides
import Derived.RegionDies
import Derived.OpenShut
import Derived.Handy
import Derived.Lib.BitFns
import Derived.Laws.Bits64b
import Derived.Deep.QuietTactic
import Derived.Deep.RegionWith
/- schema.Find, its walk by hand. -/
namespace Go.Proofs.Ytkedejphebfneaa.Pa
open Go.Proofs.Ytkedejphebfneaa.L Go.RowKit Go.Proofs.YtkedejphebfneaaW.PrintWords Go.Proofs.YtkedejphebfneaaW.PrintLast Go.Proofs.YtkedejphebfneaaW.PrintMore
set_option linter.unusedVariables false
set_option linter.unusedSimpArgs false
theorem blk_cell_same {W W1 : World} {pn : Nat} (h : W1.heap[pn]? = W.heap[pn]?) (j : Nat) : W1.cell? ⟨pn, j, none⟩ = W.cell? ⟨pn, j, none⟩ := by simp only [World.cell?, h]
theorem find_closure (pn : Nat) (s : ByteArray) (c : S23) (w : World) (hs : w.cell? ⟨pn, 0, none⟩ = some (.string s)) (hlt : pn < w.heap.size) :
  Calls Try.prog 67 #[.agg #[.string c.f0, .int .i64 c.f1, .bool c.f2], .pointer (some ⟨pn, 0, none⟩)] w fun e w' => e = .returned (.bool (c.f0.toList == s.toList)) ∧ Aside0 (Below w.heap.size w w') := by
 have hs' : ∀ o, (w.alloc o).cell? ⟨pn, 0, none⟩ = some (.string s) := fun o => World.cell?_alloc_past _ _ _ hlt |>.trans hs
 go_enter Try.func67, Try.ntmps67
 go_wp2
 all_goals (go_ret; exact ⟨rfl, ⟨below_alloc (Below.refl _ _) _⟩⟩)
def schema_Find.i : List S23 → ByteArray → Int → Int
 | [], _, _ => -1
 | c :: cs, s, i => if c.f0.toList = s.toList then i else schema_Find.i cs s (i + 1)
set_option maxHeartbeats 8000000 in
theorem index_calls (pn : Nat) (s : ByteArray) (A0 : Option Addr) (c0 : Nat) (l : List S23) (w : World) (hr0 : Kd.C k23 w A0 l.length l) (hc0 : l.length ≤ c0) (hs : w.cell? ⟨pn, 0, none⟩ = some (.string s)) (hlt : pn < w.heap.size) :
  Calls Try.prog 66 #[.slice A0 l.length c0, .func (.func 67) #[] #[.pointer (some ⟨pn, 0, none⟩)]] w fun e w' => e = .returned (.int .i64 (schema_Find.i l s 0)) ∧ Below w.heap.size w w' := by
 have hR0 := Aside0.mk hr0
 have hm := hr0.2.1
 have hS := Aside0.mk (And.intro hs hlt)
 clear hr0 hs hlt
 go_enter Try.func66, Try.ntmps66
 go_wp2_with (fail)
 go_loopg [8] l.length (fun kq v8 w' => ∃ (i : Nat), v8 = .int .i64 i ∧ Aside0 (kq = l.length - i ∧ i ≤ l.length ∧ schema_Find.i l s 0 = schema_Find.i (l.drop i) s i) ∧ Aside0 (Below w.heap.size w w'))
 case atStart => exact ⟨0, rfl, ⟨by omega, by omega, by simp⟩, ⟨Below.refl _ _⟩⟩
 case round =>
  obtain ⟨i, rfl, hi, hB⟩ := hrel
  have HI := hi.out.2.2
  rcases Nat.lt_or_ge i l.length with hlt | hge
  ·have hR1 := Kd.C_below hR0.out hB.out
   have p1 : (0 : Int) ≤ i := by omega
   have q1 : (i : Int) < (l.length : Int) := by omega
   obtain ⟨ad, e1, x0, x1, x2⟩ := at_T23 hR1 i p1 q1
   clear hR1
   subst e1
   obtain ⟨c, hc⟩ : ∃ c, c = rd_T23 l i := ⟨_, rfl⟩
   rw [← hc] at x0 x1 x2
   have hdr : l.drop i = c :: l.drop (i + 1) := by rw [List.drop_eq_getElem_cons hlt, hc]; simp [rd_T23, List.getD_eq_getElem?_getD, List.getElem?_eq_getElem hlt]
   replace hc := Aside0.mk hc
   simp only [Int.toNat_natCast] at x0 x1 x2
   rw [hdr, schema_Find.i] at HI
   have hw9 : wrap64 ((i : Int) + 1) = ((i + 1 : Nat) : Int) := by rw [wrap64_in (by omega) (by omega)]; omega
   have hC := Aside0.mk (find_closure pn s c wr ((blk_cell_same (hB.out.block pn hS.out.2) _).trans hS.out.1) (Nat.lt_of_lt_of_le hS.out.2 hB.out.size))
   by_cases he : c.f0.toList = s.toList
   ·rw [if_pos he] at HI
    replace HI := Aside0.mk HI
    clear hdr
    have hb : (c.f0.toList == s.toList) = true := by simpa using he
    go_wp2_with (go_at_call 67; refine hC.out.mono ?_; rintro e w2 ⟨rfl, hb2⟩)
    all_goals (go_ret; rw [HI.out]; exact ⟨rfl, below_then hB.out hB.out.size hb2.out⟩)
   ·rw [if_neg he] at HI
    replace HI := Aside0.mk HI
    replace hdr := Aside0.mk hdr
    have hb : (c.f0.toList == s.toList) = false := by simpa using he
    go_wp2_with (go_at_call 67; refine hC.out.mono ?_; rintro e w2 ⟨rfl, hb2⟩)
    go_roundg (l.length - (i + 1))
    case measure => have := hi.out.1; omega
    case rel => exact ⟨i + 1, by simp, ⟨rfl, by omega, by rw [HI.out]; rfl⟩, ⟨below_then hB.out hB.out.size hb2.out⟩⟩
  ·have he : i = l.length := by have := hi.out.2.1; omega
   rw [List.drop_eq_nil_of_le (by omega), schema_Find.i] at HI
   replace HI := Aside0.mk HI
   subst he
   go_wp2_with (fail)
   all_goals (go_ret; rw [HI.out]; exact ⟨rfl, hB.out⟩)
def schema_Find.f (l : List S23) (s : ByteArray) : Option (Int × Bool) := some (mx (schema_Find.i l s 0) 0, decide (schema_Find.i l s 0 ≥ 0))
set_option maxHeartbeats 8000000 in
theorem schema_Find.calls (A0 : Option Addr) (c0 : Nat) (l0 : List S23) (a1 : ByteArray) (r1 : Int) (r2 : Bool) (w : World) (hr0 : Kd.C k23 w A0 l0.length l0) (hc0 : l0.length ≤ c0) (h : schema_Find.f l0 a1 = some (r1, r2)) :
  Calls Try.prog 39 #[.slice A0 l0.length c0, .string a1] w fun e w' => e = .returned (.tuple #[.int .i64 r1, .bool r2]) ∧ Below w.heap.size w w' := by
 have hmf : ∀ (fn : Fn) (first cap : Array Value) (w : World), (Instr.makeFunc fn first cap).run Try.prog w = .ok (.func fn first cap) w := fun _ _ _ _ => rfl
 obtain ⟨rfl, rfl⟩ : mx (schema_Find.i l0 a1 0) 0 = r1 ∧ decide (schema_Find.i l0 a1 0 ≥ 0) = r2 := by
  have := Option.some.inj h
  exact ⟨congrArg Prod.fst this, congrArg Prod.snd this⟩
 have hI := Aside0.mk (index_calls w.heap.size a1 A0 c0 l0 (w.alloc (.cells #[.string a1] 9)) (Kd.C_alloc hr0 _) hc0 (by simp [go_sem]) (by simp))
 clear hr0 h
 go_enter Try.func39, Try.ntmps39
 go_wp2_with (go_at_call 66; refine hI.out.mono ?_; rintro e w2 ⟨rfl, hb2⟩)
 ·have e1 : mx (schema_Find.i l0 a1 0) 0 = 0 := by unfold mx; omega
  go_ret2
  rw [e1]
  exact ⟨rfl, below_then (below_alloc (Below.refl _ _) _) (by simp) hb2⟩
 ·have e1 : mx (schema_Find.i l0 a1 0) 0 = schema_Find.i l0 a1 0 := by unfold mx; omega
  go_ret2
  rw [e1]
  exact ⟨rfl, below_then (below_alloc (Below.refl _ _) _) (by simp) hb2⟩
end Go.Proofs.Ytkedejphebfneaa.Pa
