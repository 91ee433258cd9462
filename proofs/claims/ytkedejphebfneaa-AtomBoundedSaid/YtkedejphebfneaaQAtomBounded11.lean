/- The texts of AtomBounded, merged: part 11. -/
import Derived.Test.YtkedejphebfneaaQAtomBounded10
/- slices.IndexFunc and ContainsFunc over lists of values, at any function value that only reads and makes: their walks by hand. -/
namespace Go.Proofs.Ytkedejphebfneaa.Pa
open Go.Proofs.Ytkedejphebfneaa.L Go.RowKit Go.Proofs.YtkedejphebfneaaW.PrintWords Go.Proofs.YtkedejphebfneaaW.PrintLast Go.Proofs.YtkedejphebfneaaW.PrintMore
set_option linter.unusedVariables false
set_option linter.unusedSimpArgs false
def idxT (q : S28 → Option Bool) : List S28 → Int → Option Int
 | [], _ => some (-1)
 | c :: cs, i => (q c).bind fun b => if b = true then some i else idxT q cs (i + 1)
theorem idxT_mono {q q' : S28 → Option Bool} (h : ∀ c, LeO (q c) (q' c)) : ∀ (l : List S28) (i : Int), LeO (idxT q l i) (idxT q' l i)
 | [], _ => LeO.refl _
 | c :: cs, i => by
  rw [idxT, idxT]
  exact LeO.bind (h c) (fun b => LeO.ite (LeO.refl _) (idxT_mono h cs (i + 1)))
theorem idxT_ge {q : S28 → Option Bool} : ∀ (l : List S28) (i r : Int), 0 ≤ i → idxT q l i = some r → -1 ≤ r ∧ r < i + l.length
 | [], i, r, h0, h => by rw [idxT] at h; cases h; simp; omega
 | c :: cs, i, r, h0, h => by
  rw [idxT] at h
  obtain ⟨b, h1, h⟩ := Option.bind_eq_some_iff.1 h
  by_cases hb : b = true
  ·rw [if_pos hb] at h; cases h; simp; omega
  ·rw [if_neg hb] at h
   have := idxT_ge cs (i + 1) r (by omega) h
   simp; omega
set_option maxHeartbeats 8000000 in
theorem indexS_calls (P1 : Value) (q : S28 → Option Bool) (Inv : World → Prop) (hInv : ∀ W W', Inv W → Below W.heap.size W W' → Inv W') (hF : ∀ (c : S28) (b : Bool) (W : World), Inv W → q c = some b → Calls Try.prog 75 #[.agg #[.int .i64 c.f0, .int .i64 c.f1, .float .f64 c.f2, .string c.f3], P1] W fun e w' => e = .returned (.bool b) ∧ Below W.heap.size W w')
  (A0 : Option Addr) (c0 : Nat) (l : List S28) (r : Int) (w : World) (hr0 : Kd.C k28 w A0 l.length l) (hc0 : l.length ≤ c0) (hi0 : Inv w) (h : idxT q l 0 = some r) :
  Calls Try.prog 72 #[.slice A0 l.length c0, .func (.func 75) #[] #[P1]] w fun e w' => e = .returned (.int .i64 r) ∧ Below w.heap.size w w' := by
 have hR0 := Aside0.mk hr0
 have hm := hr0.2.1
 have hS := Aside0.mk hi0
 have H0 := Aside0.mk h
 have HF := Aside0.mk hF
 clear hr0 hi0 h hF
 go_enter Try.func72, Try.ntmps72
 go_wp2_with (fail)
 go_loopg [8] l.length (fun kq v8 w' => ∃ (i : Nat), v8 = .int .i64 i ∧ Aside0 (kq = l.length - i ∧ i ≤ l.length ∧ idxT q (l.drop i) i = some r) ∧ Aside0 (Below w.heap.size w w'))
 case atStart => exact ⟨0, rfl, ⟨by omega, by omega, by simpa using H0.out⟩, ⟨Below.refl _ _⟩⟩
 case round =>
  obtain ⟨i, rfl, hi, hB⟩ := hrel
  have HI := hi.out.2.2
  rcases Nat.lt_or_ge i l.length with hlt | hge
  ·have hR1 := Kd.C_below hR0.out hB.out
   have p1 : (0 : Int) ≤ i := by omega
   have q1 : (i : Int) < (l.length : Int) := by omega
   obtain ⟨ad, e1, x0, x1, x2, x3⟩ := at_T28 hR1 i p1 q1
   clear hR1
   subst e1
   obtain ⟨c, hc⟩ : ∃ c, c = rd_T28 l i := ⟨_, rfl⟩
   rw [← hc] at x0 x1 x2 x3
   have hdr : l.drop i = c :: l.drop (i + 1) := by rw [List.drop_eq_getElem_cons hlt, hc]; simp [rd_T28, List.getD_eq_getElem?_getD, List.getElem?_eq_getElem hlt]
   replace hc := Aside0.mk hc
   simp only [Int.toNat_natCast] at x0 x1 x2 x3
   rw [hdr, idxT] at HI
   obtain ⟨b, hqb, HI⟩ := Option.bind_eq_some_iff.1 HI
   have hw9 : wrap64 ((i : Int) + 1) = ((i + 1 : Nat) : Int) := by rw [wrap64_in (by omega) (by omega)]; omega
   have hC := Aside0.mk (HF.out c b wr (hInv _ _ hS.out hB.out) hqb)
   clear hqb
   by_cases he : b = true
   ·rw [if_pos he] at HI
    obtain rfl := Option.some.inj HI
    clear HI
    subst he
    clear hdr
    go_wp2_with (go_at_call 75; refine hC.out.mono ?_; rintro e w2 ⟨rfl, hb2⟩)
    all_goals (go_ret; exact ⟨rfl, below_then hB.out hB.out.size hb2⟩)
   ·rw [if_neg he] at HI
    replace HI := Aside0.mk HI
    replace hdr := Aside0.mk hdr
    obtain rfl : b = false := by simpa using he
    clear he
    go_wp2_with (go_at_call 75; refine hC.out.mono ?_; rintro e w2 ⟨rfl, hb2⟩)
    go_roundg (l.length - (i + 1))
    case measure => have := hi.out.1; omega
    case rel => exact ⟨i + 1, by simp, ⟨rfl, by omega, by have := HI.out; simpa using this⟩, ⟨below_then hB.out hB.out.size hb2⟩⟩
  ·have he : i = l.length := by have := hi.out.2.1; omega
   rw [List.drop_eq_nil_of_le (by omega), idxT] at HI
   obtain rfl := Option.some.inj HI
   clear HI
   subst he
   go_wp2_with (fail)
   all_goals (go_ret; exact ⟨rfl, hB.out⟩)
theorem containsS_calls (P1 : Value) (q : S28 → Option Bool) (Inv : World → Prop) (hInv : ∀ W W', Inv W → Below W.heap.size W W' → Inv W') (hF : ∀ (c : S28) (b : Bool) (W : World), Inv W → q c = some b → Calls Try.prog 75 #[.agg #[.int .i64 c.f0, .int .i64 c.f1, .float .f64 c.f2, .string c.f3], P1] W fun e w' => e = .returned (.bool b) ∧ Below W.heap.size W w')
  (A0 : Option Addr) (c0 : Nat) (l : List S28) (r : Int) (w : World) (hr0 : Kd.C k28 w A0 l.length l) (hc0 : l.length ≤ c0) (hi0 : Inv w) (h : idxT q l 0 = some r) :
  Calls Try.prog 46 #[.slice A0 l.length c0, .func (.func 75) #[] #[P1]] w fun e w' => e = .returned (.bool (decide (0 ≤ r))) ∧ Below w.heap.size w w' := by
 have hC := Aside0.mk (indexS_calls P1 q Inv hInv hF A0 c0 l r w hr0 hc0 hi0 h)
 clear hr0 hi0 h hF hInv hc0
 go_enter Try.func46, Try.ntmps46
 go_wp2_with (go_at_call 72; refine hC.out.mono ?_; rintro e w2 ⟨rfl, hb2⟩)
 go_ret
 exact ⟨rfl, hb2⟩
set_option maxHeartbeats 8000000 in
theorem indexK_calls (P1 : Value) (P2 : Value) (q : S28 → Option Bool) (Inv : World → Prop) (hInv : ∀ W W', Inv W → Below W.heap.size W W' → Inv W') (hF : ∀ (c : S28) (b : Bool) (W : World), Inv W → q c = some b → Calls Try.prog 43 #[.agg #[.int .i64 c.f0, .int .i64 c.f1, .float .f64 c.f2, .string c.f3], P1, P2] W fun e w' => e = .returned (.bool b) ∧ Below W.heap.size W w')
  (A0 : Option Addr) (c0 : Nat) (l : List S28) (r : Int) (w : World) (hr0 : Kd.C k28 w A0 l.length l) (hc0 : l.length ≤ c0) (hi0 : Inv w) (h : idxT q l 0 = some r) :
  Calls Try.prog 72 #[.slice A0 l.length c0, .func (.func 43) #[] #[P1, P2]] w fun e w' => e = .returned (.int .i64 r) ∧ Below w.heap.size w w' := by
 have hR0 := Aside0.mk hr0
 have hm := hr0.2.1
 have hS := Aside0.mk hi0
 have H0 := Aside0.mk h
 have HF := Aside0.mk hF
 clear hr0 hi0 h hF
 go_enter Try.func72, Try.ntmps72
 go_wp2_with (fail)
 go_loopg [8] l.length (fun kq v8 w' => ∃ (i : Nat), v8 = .int .i64 i ∧ Aside0 (kq = l.length - i ∧ i ≤ l.length ∧ idxT q (l.drop i) i = some r) ∧ Aside0 (Below w.heap.size w w'))
 case atStart => exact ⟨0, rfl, ⟨by omega, by omega, by simpa using H0.out⟩, ⟨Below.refl _ _⟩⟩
 case round =>
  obtain ⟨i, rfl, hi, hB⟩ := hrel
  have HI := hi.out.2.2
  rcases Nat.lt_or_ge i l.length with hlt | hge
  ·have hR1 := Kd.C_below hR0.out hB.out
   have p1 : (0 : Int) ≤ i := by omega
   have q1 : (i : Int) < (l.length : Int) := by omega
   obtain ⟨ad, e1, x0, x1, x2, x3⟩ := at_T28 hR1 i p1 q1
   clear hR1
   subst e1
   obtain ⟨c, hc⟩ : ∃ c, c = rd_T28 l i := ⟨_, rfl⟩
   rw [← hc] at x0 x1 x2 x3
   have hdr : l.drop i = c :: l.drop (i + 1) := by rw [List.drop_eq_getElem_cons hlt, hc]; simp [rd_T28, List.getD_eq_getElem?_getD, List.getElem?_eq_getElem hlt]
   replace hc := Aside0.mk hc
   simp only [Int.toNat_natCast] at x0 x1 x2 x3
   rw [hdr, idxT] at HI
   obtain ⟨b, hqb, HI⟩ := Option.bind_eq_some_iff.1 HI
   have hw9 : wrap64 ((i : Int) + 1) = ((i + 1 : Nat) : Int) := by rw [wrap64_in (by omega) (by omega)]; omega
   have hC := Aside0.mk (HF.out c b wr (hInv _ _ hS.out hB.out) hqb)
   clear hqb
   by_cases he : b = true
   ·rw [if_pos he] at HI
    obtain rfl := Option.some.inj HI
    clear HI
    subst he
    clear hdr
    go_wp2_with (go_at_call 43; refine hC.out.mono ?_; rintro e w2 ⟨rfl, hb2⟩)
    all_goals (go_ret; exact ⟨rfl, below_then hB.out hB.out.size hb2⟩)
   ·rw [if_neg he] at HI
    replace HI := Aside0.mk HI
    replace hdr := Aside0.mk hdr
    obtain rfl : b = false := by simpa using he
    clear he
    go_wp2_with (go_at_call 43; refine hC.out.mono ?_; rintro e w2 ⟨rfl, hb2⟩)
    go_roundg (l.length - (i + 1))
    case measure => have := hi.out.1; omega
    case rel => exact ⟨i + 1, by simp, ⟨rfl, by omega, by have := HI.out; simpa using this⟩, ⟨below_then hB.out hB.out.size hb2⟩⟩
  ·have he : i = l.length := by have := hi.out.2.1; omega
   rw [List.drop_eq_nil_of_le (by omega), idxT] at HI
   obtain rfl := Option.some.inj HI
   clear HI
   subst he
   go_wp2_with (fail)
   all_goals (go_ret; exact ⟨rfl, hB.out⟩)
theorem containsK_calls (P1 : Value) (P2 : Value) (q : S28 → Option Bool) (Inv : World → Prop) (hInv : ∀ W W', Inv W → Below W.heap.size W W' → Inv W') (hF : ∀ (c : S28) (b : Bool) (W : World), Inv W → q c = some b → Calls Try.prog 43 #[.agg #[.int .i64 c.f0, .int .i64 c.f1, .float .f64 c.f2, .string c.f3], P1, P2] W fun e w' => e = .returned (.bool b) ∧ Below W.heap.size W w')
  (A0 : Option Addr) (c0 : Nat) (l : List S28) (r : Int) (w : World) (hr0 : Kd.C k28 w A0 l.length l) (hc0 : l.length ≤ c0) (hi0 : Inv w) (h : idxT q l 0 = some r) :
  Calls Try.prog 46 #[.slice A0 l.length c0, .func (.func 43) #[] #[P1, P2]] w fun e w' => e = .returned (.bool (decide (0 ≤ r))) ∧ Below w.heap.size w w' := by
 have hC := Aside0.mk (indexK_calls P1 P2 q Inv hInv hF A0 c0 l r w hr0 hc0 hi0 h)
 clear hr0 hi0 h hF hInv hc0
 go_enter Try.func46, Try.ntmps46
 go_wp2_with (go_at_call 72; refine hC.out.mono ?_; rintro e w2 ⟨rfl, hb2⟩)
 go_ret
 exact ⟨rfl, hb2⟩
end Go.Proofs.Ytkedejphebfneaa.Pa
