/- schema.Check, its walk by hand: a map of the names met. -/
import Derived.Test.YtdiabhfphonciaaPa0
import Derived.Test.YtdiabhfphonciaaL
import Derived.Test.YtdiabhfphonciaaPa2
import Derived.Maps.OwnSet
import Derived.StringKeys
import Derived.Test.YtdiabhfphonciaaCl
import Derived.Defers
import Derived.Recover
import Derived.Laws.Pointers
import Derived.WalkLawsBesides
import Derived.RegionDies
import Derived.OpenShut
import Derived.Handy
import Derived.Lib.BitFns
import Derived.Laws.Bits64b
import Derived.Deep.QuietTactic
import Derived.Deep.RegionWith
namespace Go.Proofs.Ytdiabhfphonciaa.Pa
open Go.Maps Go.Proofs.Ytdiabhfphonciaa.L Go.RowKit Go.Proofs.YtdiabhfphonciaaW.PrintWords Go.Proofs.YtdiabhfphonciaaW.PrintLast Go.Proofs.YtdiabhfphonciaaW.PrintMore
set_option linter.unusedVariables false
set_option linter.unusedSimpArgs false

theorem lawS : Keyed Try.prog 9 := string_keyed Try.underlying9
theorem zeroI (w : World) : (zeroValue 3).run Try.prog w = .ok (.int .i64 0) w := by kernel_rfl
/-- The names met, in a map. -/
def Met (W : World) (b n : Nat) (met : List (List UInt8)) : Prop :=
  ∃ D : DataW Unit, W.ownsMap Try.prog 9 (plainElem Try.prog 3) b n D ∧ ∀ s : ByteArray, s.size ≤ maxLen → Maps.has D (.string s.data.toList) = decide (s.data.toList ∈ met)
/-- Check's rounds: the columns that are left, the names met. -/
def schema_Check.l (k : Nat) : List S42 → List (List UInt8) → Option Int
  | [], _ => some 0
  | c :: cs, met => if c.f0.size ≤ maxLen then (if c.f0.data.toList ∈ met then some 150 else (schema_named.f k c.f0).bind fun t => if t = true ∧ (c.f1 = 1 ∨ c.f1 = 2) then schema_Check.l k cs (met ++ [c.f0.data.toList]) else some 150) else none
def schema_Check.f (k : Nat) (l : List S42) : Option Int := if 1 ≤ l.length ∧ l.length ≤ 256 then schema_Check.l k l [] else some 150
theorem schema_Check.mono_l : ∀ (l : List S42) (met : List (List UInt8)) (k : Nat), LeO (schema_Check.l k l met) (schema_Check.l (k + 1) l met)
  | [], _, _ => LeO.refl _
  | c :: cs, met, k => by
    rw [schema_Check.l, schema_Check.l]
    refine LeO.ite (LeO.ite (LeO.refl _) (LeO.bind (schema_named.mono _ _) (fun t => LeO.ite (schema_Check.mono_l cs _ k) (LeO.refl _)))) (LeO.none _)
theorem schema_Check.mono : ∀ l k, LeO (schema_Check.f k l) (schema_Check.f (k + 1) l) := by
  intro l k
  unfold schema_Check.f
  exact LeO.ite (schema_Check.mono_l _ _ _) (LeO.refl _)
set_option maxHeartbeats 8000000 in
theorem schema_Check.calls (k : Nat) (A0 : Option Addr) (c0 : Nat) (l0 : List S42) (r : Int) (w : World) (hr0 : Kd.C k42 w A0 l0.length l0) (hc0 : l0.length ≤ c0) (h : schema_Check.f k l0 = some r) :
    Calls Try.prog 16 #[.slice A0 l0.length c0] w fun e w' => e = .returned (.int .i64 r) ∧ Below w.heap.size w w' := by
  have hmm := @run_makeMap Try.prog
  have hR0 := Aside0.mk hr0
  clear hr0
  unfold schema_Check.f at h
  by_cases hlen : 1 ≤ l0.length ∧ l0.length ≤ 256
  · rw [if_pos hlen] at h
    obtain ⟨h1, h2⟩ := hlen
    have d1 : decide ((l0.length : Int) < 1) = false := by simp; omega
    have d2 : decide (256 < (l0.length : Int)) = false := by simp; omega
    have H0 := Aside0.mk h
    clear h
    go_enter Try.func16, Try.ntmps16
    go_wp2_with (fail)
    go_loopg [19] l0.length (fun kq v19 w' => ∃ (i : Nat) (met : List (List UInt8)), v19 = .int .i64 i ∧ Aside0 (kq = l0.length - i ∧ i ≤ l0.length ∧ schema_Check.l k (l0.drop i) met = some r) ∧ Aside0 (Met w' w.heap.size i met) ∧ Aside0 (Below w.heap.size w w'))
    case atStart => exact ⟨0, [], rfl, ⟨by omega, by omega, by simpa using H0.out⟩, ⟨.map [], by simpa using World.ownsMap_made w Try.prog 9 (plainElem Try.prog 3), fun s _ => by simp [Maps.has]⟩, ⟨below_alloc (Below.refl _ _) _⟩⟩
    case round =>
      obtain ⟨i, met, rfl, hi, hM, hB⟩ := hrel
      rcases Nat.lt_or_ge i l0.length with hlt | hge
      · have hR1 := Kd.C_below hR0.out hB.out
        have p1 : (0 : Int) ≤ i := by omega
        have q1 : (i : Int) < (l0.length : Int) := by omega
        obtain ⟨ad, e1, x0, x1, x2⟩ := at_T42 hR1 i p1 q1
        clear hR1
        subst e1
        obtain ⟨c, hc⟩ : ∃ c, c = rd_T42 l0 i := ⟨_, rfl⟩
        rw [← hc] at x0 x1 x2
        have hdr := Aside0.mk (show l0.drop i = c :: l0.drop (i + 1) by rw [List.drop_eq_getElem_cons hlt, hc]; simp [rd_T42, List.getD_eq_getElem?_getD, List.getElem?_eq_getElem hlt])
        replace hc := Aside0.mk hc
        simp only [Int.toNat_natCast] at x0 x1 x2
        obtain ⟨D, hown, hhas⟩ := hM.out
        have hhas := Aside0.mk hhas
        have HL := hi.out.2.2
        rw [hdr.out, schema_Check.l] at HL
        by_cases hsz : c.f0.size ≤ maxLen
        · rw [if_pos hsz] at HL
          have hkey := Go.WideMaps.keyOf_string_mk (P := Try.prog) Try.underlying9 hsz
          by_cases hmt : c.f0.data.toList ∈ met
          · rw [if_pos hmt] at HL
            have HR := Aside0.mk (Option.some.inj HL)
            clear HL
            have hT : Aside0 (schema_named.f k c.f0 = some true) → True := fun _ => trivial
            go_wp2_with (first | (at_lookup; refine wpList_lookup_own_ok_int _ rfl _ _ 57 rfl 9 3 .i64 lawS Try.underlying57 Try.underlying3 (zeroI _) w.heap.size i D rfl (hown.alloc _) _ _ rfl hkey ?_; intro cv hat hwc; have hh := hhas.out c.f0 hsz; clear hat hwc))
            all_goals (go_ret; rw [← HR.out]; exact ⟨rfl, below_alloc hB.out _⟩)
          · rw [if_neg hmt] at HL
            obtain ⟨t, hT, HL⟩ := Option.bind_eq_some_iff.mp HL
            replace hT := Aside0.mk hT
            by_cases hg : t = true ∧ (c.f1 = 1 ∨ c.f1 = 2)
            · rw [if_pos hg] at HL
              obtain ⟨rfl, hty⟩ := hg
              replace HL := Aside0.mk HL
              have hne : ((c.f1 != 1) && (c.f1 != 2)) = false := by rcases hty with h | h <;> simp [h]
              go_wp2_with (first | (at_lookup; refine wpList_lookup_own_ok_int _ rfl _ _ 57 rfl 9 3 .i64 lawS Try.underlying57 Try.underlying3 (zeroI _) w.heap.size i D rfl (hown.alloc _) _ _ rfl hkey ?_; intro cv hat hwc; have hh := hhas.out c.f0 hsz; clear hat hwc) | (go_at_call 39; refine (schema_named.calls k c.f0 _ _ hT.out).mono ?_; rintro e w2 ⟨rfl, hd2⟩; have hb2 := Aside0.mk (below_alloc hB.out (.cells #[.string c.f0, .int .i64 c.f1, .bool c.f2] 42)); obtain ⟨m2, rfl⟩ := hd2.out) | (at_mapUpdate; refine wpList_mapUpdate_own _ rfl _ _ _ 57 rfl 9 3 lawS Try.underlying57 _ w.heap.size i D rfl (hown.alloc _) (by unfold maxLen; omega) _ _ _ rfl rfl hkey _ [] (plainElem_int Try.underlying3 (WalkArith.wf_i64 (by omega))) ?_; intro w3 hown3 hg3))
              all_goals (have hk3 : Below w.heap.size w w3 := Below.grown (pw_below_drewN (below_alloc hB.out _) m2) hg3 (by have := hB.out.size; have h9 : ∀ (W : World) (o : Obj) m, ((W.alloc o).drewN m).heap.size = W.heap.size + 1 := (fun W o m => by show (W.alloc o).heap.size = _; simp); rw [h9]; omega) (fun j hj => by cases hj; exact Nat.le_refl _))
              all_goals (clear hb2; go_roundg (l0.length - (i + 1)))
              all_goals first
                | (have := hi.out.1; omega)
                | (refine ⟨i + 1, met ++ [c.f0.data.toList], by simp, ⟨rfl, by omega, HL.out⟩, ⟨_, hown3, fun s hs => ?_⟩, ⟨hk3⟩⟩
                   by_cases hsc : s.data.toList = c.f0.data.toList
                   · rw [hsc, has_put_same hown.isMap (by trivial)]
                     simp
                   · rw [has_put_other (by intro e; injection e with e; exact hsc e), hhas.out s hs]
                     simp [hsc])
            · rw [if_neg hg] at HL
              have HR := Aside0.mk (Option.some.inj HL)
              clear HL
              rcases t with _ | _
              · go_wp2_with (first | (at_lookup; refine wpList_lookup_own_ok_int _ rfl _ _ 57 rfl 9 3 .i64 lawS Try.underlying57 Try.underlying3 (zeroI _) w.heap.size i D rfl (hown.alloc _) _ _ rfl hkey ?_; intro cv hat hwc; have hh := hhas.out c.f0 hsz; clear hat hwc) | (go_at_call 39; refine (schema_named.calls k c.f0 _ _ hT.out).mono ?_; rintro e w2 ⟨rfl, hd2⟩; have hb2 := Aside0.mk (below_alloc hB.out (.cells #[.string c.f0, .int .i64 c.f1, .bool c.f2] 42)); obtain ⟨m2, rfl⟩ := hd2.out) | (at_mapUpdate; refine wpList_mapUpdate_own _ rfl _ _ _ 57 rfl 9 3 lawS Try.underlying57 _ w.heap.size i D rfl (hown.alloc _) (by unfold maxLen; omega) _ _ _ rfl rfl hkey _ [] (plainElem_int Try.underlying3 (WalkArith.wf_i64 (by omega))) ?_; intro w3 hown3 hg3))
                all_goals (go_ret; rw [← HR.out]; exact ⟨rfl, pw_below_drewN (below_alloc hB.out _) _⟩)
              · have q1 : (c.f1 != 1) = true := by simp at hg ⊢; exact hg.1
                have q2 : (c.f1 != 2) = true := by simp at hg ⊢; exact hg.2
                clear hg
                go_wp2_with (first | (at_lookup; refine wpList_lookup_own_ok_int _ rfl _ _ 57 rfl 9 3 .i64 lawS Try.underlying57 Try.underlying3 (zeroI _) w.heap.size i D rfl (hown.alloc _) _ _ rfl hkey ?_; intro cv hat hwc; have hh := hhas.out c.f0 hsz; clear hat hwc) | (go_at_call 39; refine (schema_named.calls k c.f0 _ _ hT.out).mono ?_; rintro e w2 ⟨rfl, hd2⟩; have hb2 := Aside0.mk (below_alloc hB.out (.cells #[.string c.f0, .int .i64 c.f1, .bool c.f2] 42)); obtain ⟨m2, rfl⟩ := hd2.out) | (at_mapUpdate; refine wpList_mapUpdate_own _ rfl _ _ _ 57 rfl 9 3 lawS Try.underlying57 _ w.heap.size i D rfl (hown.alloc _) (by unfold maxLen; omega) _ _ _ rfl rfl hkey _ [] (plainElem_int Try.underlying3 (WalkArith.wf_i64 (by omega))) ?_; intro w3 hown3 hg3))
                all_goals (go_ret; rw [← HR.out]; exact ⟨rfl, pw_below_drewN (below_alloc hB.out _) _⟩)
        · rw [if_neg hsz] at HL; cases HL
      · have he : i = l0.length := by have := hi.out.2.1; omega
        have HR := hi.out.2.2
        rw [List.drop_eq_nil_of_le (by omega), schema_Check.l] at HR
        have HR := Aside0.mk (Option.some.inj HR)
        subst he
        go_wp2_with (fail)
        all_goals (go_ret; rw [← HR.out]; exact ⟨rfl, hB.out⟩)
  · rw [if_neg hlen] at h
    have HR := Aside0.mk (Option.some.inj h)
    clear h
    have d1 : (decide ((l0.length : Int) < 1) || decide (256 < (l0.length : Int))) = true := by simp; omega
    go_enter Try.func16, Try.ntmps16
    go_wp2_with (fail)
    all_goals (go_ret; rw [← HR.out]; exact ⟨rfl, Below.refl _ _⟩)
end Go.Proofs.Ytdiabhfphonciaa.Pa
