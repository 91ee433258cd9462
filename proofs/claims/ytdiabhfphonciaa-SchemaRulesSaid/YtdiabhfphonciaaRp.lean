/- colonnaderef15.Put, its walk by hand. -/
import Derived.Test.YtdiabhfphonciaaPa0
import Derived.Test.YtdiabhfphonciaaL
import Derived.Test.YtdiabhfphonciaaRdE
import Derived.Test.YtdiabhfphonciaaPa14
import Derived.Test.YtdiabhfphonciaaPa9
import Derived.Lib.ConvBytes
import Derived.Test.YtdiabhfphonciaaCl
import Derived.Defers
import Derived.Recover
import Derived.Laws.Pointers
import Derived.WalkLawsBesides
import Derived.RegionDies
import Derived.OpenShut
import Derived.Handy
import Derived.Lib.BitFns
import Derived.Laws.Bits64b
import Derived.Deep.QuietTactic
import Derived.Deep.RegionWith
namespace Go.Proofs.Ytdiabhfphonciaa.Pa
open Go.Proofs.Ytdiabhfphonciaa.L Go.RowKit Go.Proofs.YtdiabhfphonciaaW.PrintWords Go.Proofs.YtdiabhfphonciaaW.PrintLast Go.Proofs.YtdiabhfphonciaaW.PrintMore
set_option linter.unusedVariables false
set_option linter.unusedSimpArgs false
variable {B : Nat}

/-- The document's Put: its rounds. -/
def colonnaderef15_Put.l : List S42 → List Int → Option (List Int)
  | [], b => some b
  | c :: cs, b => (colonnaderef15_short.f (c.f0.size : Int)).bind fun sh => if c.f0.size < 140737488355328 ∧ b.length + sh.length < 140737488355328 ∧ (b ++ sh).length + c.f0.size < 140737488355328 then colonnaderef15_Put.l cs (b ++ sh ++ bytesOf c.f0 ++ [if c.f2 = true then (wrap64 (c.f1 + 4)) % 256 else c.f1 % 256]) else none
def colonnaderef15_Put.f (k : Nat) (l : List S42) : Option (List Int) := (colonnaderef15_Check.f k l).bind fun e => if e = 0 then (colonnaderef15_short.f (l.length : Int)).bind fun b => colonnaderef15_Put.l l b else some []
theorem colonnaderef15_Put.mono : ∀ l k, LeO (colonnaderef15_Put.f k l) (colonnaderef15_Put.f (k + 1) l) := by
  intro l k
  unfold colonnaderef15_Put.f
  exact LeO.bind (colonnaderef15_Check.mono _ _) (fun e => LeO.refl _)
set_option maxHeartbeats 8000000 in
theorem colonnaderef15_Put.calls (k : Nat) (A0 : Option Addr) (c0 : Nat) (l0 : List S42) (r : List Int) (w : World) (hr0 : Kd.C k42 w A0 l0.length l0) (hc0 : l0.length ≤ c0) (h : colonnaderef15_Put.f k l0 = some r) :
    Calls Try.prog 24 #[.slice A0 l0.length c0] w fun e w' => ∃ v0_ : Value, e = .returned v0_ ∧ Kd.R (Kd.int .u8) 5 w' w.heap.size (fun _ => True) v0_ r ∧ Below w.heap.size w w' := by
  unfold colonnaderef15_Put.f at h
  replace h := Option.bind_eq_some_iff.mp h
  obtain ⟨ck, hck, h⟩ := h
  have hCk := Aside0.mk (colonnaderef15_Check.calls k A0 c0 l0 ck w hr0 hc0 hck)
  have hR0 := Aside0.mk hr0
  have hm := hr0.2.1
  clear hr0 hck
  by_cases hz : ck = 0
  · rw [if_pos hz] at h
    replace h := Option.bind_eq_some_iff.mp h
    obtain ⟨b0, hb0, h⟩ := h
    have hPu := Aside0.mk (fun W => colonnaderef15_short.calls _ b0 W hb0)
    replace h := Aside0.mk h
    have dC : (ck != 0) = false := by simpa using hz
    clear hz hb0
    go_enter Try.func24, Try.ntmps24
    go_wp2_with (first | (go_at_call 19; refine hCk.out.mono ?_; rintro e w1 ⟨rfl, hb1⟩; replace hb1 := Aside0.mk hb1.below) | (go_at_call 43; refine (hPu.out _).mono ?_; rintro e w2 ⟨v2, rfl, hv2, hb2⟩; replace hv2 := Aside0.mk hv2; replace hb2 := Aside0.mk hb2))
    go_loopg [3, 4] l0.length (fun kq v3 v4 w' => ∃ (i : Nat) (b : List Int), v4 = .int .i64 i ∧ Aside0 (kq = l0.length - i ∧ i ≤ l0.length ∧ colonnaderef15_Put.l (l0.drop i) b = some r) ∧ Aside0 (Kd.R (Kd.int .u8) 5 w' w.heap.size (fun _ => True) v3 b) ∧ Aside0 (Below w.heap.size w w'))
    case atStart => exact ⟨0, b0, rfl, ⟨by omega, by omega, by simpa using h.out⟩, ⟨Kd.R_lower hv2.out hb1.out.size⟩, ⟨below_then hb1.out hb1.out.size hb2.out⟩⟩
    case round =>
      obtain ⟨i, b, rfl, hi, hv, hB⟩ := hrel
      obtain ⟨A6, c6, hvs⟩ := Kd.R_slice hv.out
      subst hvs
      have HL := hi.out.2.2
      rcases Nat.lt_or_ge i l0.length with hlt | hge
      · have p1 : (0 : Int) ≤ i := by omega
        have q1 : (i : Int) < (l0.length : Int) := by omega
        obtain ⟨ad, e1, y0, y1, y2⟩ := at_T42 hR0.out i p1 q1
        subst e1
        obtain ⟨c, hc⟩ : ∃ c, c = rd_T42 l0 i := ⟨_, rfl⟩
        rw [← hc] at y0 y1 y2
        have hdr : l0.drop i = c :: l0.drop (i + 1) := by rw [List.drop_eq_getElem_cons hlt, hc]; simp [rd_T42, List.getD_eq_getElem?_getD, List.getElem?_eq_getElem hlt]
        replace hc := Aside0.mk hc
        rcases c with ⟨nm, ty, nl⟩
        simp only [Int.toNat_natCast] at y0 y1 y2
        have hX := Aside0.mk (fun W (hb : Below w.heap.size w W) => (And.intro (pw_cell_below hb y0) (And.intro (pw_cell_below hb y1) (pw_cell_below hb y2))))
        clear y0 y1 y2
        obtain ⟨x0, x1, x2⟩ := hX.out _ hB.out
        rw [hdr, colonnaderef15_Put.l] at HL
        clear hdr
        replace HL := Option.bind_eq_some_iff.mp HL
        obtain ⟨sh, hsh, HL⟩ := HL
        replace hsh := Aside0.mk hsh
        have hw9 : wrap64 ((i : Int) + 1) = ((i + 1 : Nat) : Int) := by rw [wrap64_in (by omega) (by omega)]; omega
        have i5 : (Try.prog.info? 5).map (fun i => (i.zero, i.size, i.bytes)) = some (some (.int .u8 0), 1, 1) := by kernel_rfl
        split at HL
        · rename_i hG
          obtain ⟨y1, hy1⟩ : ∃ y, y = b ++ sh := ⟨_, rfl⟩
          obtain ⟨y2, hy2⟩ : ∃ y, y = y1 ++ bytesOf nm := ⟨_, rfl⟩
          have hl2 : y2.length = y1.length + nm.size := by rw [hy2, List.length_append, bytesOf_length]
          rw [← hy1] at hG HL
          rw [← hy2] at HL
          replace hG := Aside0.mk (And.intro hl2 hG)
          replace hy1 := Aside0.mk hy1
          replace hy2 := Aside0.mk hy2
          clear hl2
          cases nl
          · simp only [Bool.false_eq_true, if_false] at HL
            replace HL := Aside0.mk HL
            go_wp2_with (first | (go_at_call 43; refine (colonnaderef15_short.calls _ sh _ hsh.out).mono ?_; rintro e w2 ⟨v2, rfl, hv2, hb2⟩; obtain ⟨A2, c2, hvs2⟩ := Kd.R_slice hv2; subst hvs2; have hvb := Aside0.mk (Kd.R_below hv.out hb2); replace hb2 := Aside0.mk (below_then hB.out hB.out.size hb2); replace hv2 := Aside0.mk hv2; clear x0 x1 x2; obtain ⟨x0, x1, x2⟩ := hX.out _ hb2.out) | (at_builtin; refine Kd.R_append_rows (Kd.int .u8) (w0 := w) w.heap.size rfl (.tmp 18) (.tmp 25) 22 5 (.int .u8 0) 1 rfl Try.underlying22 i5 rfl (by decide) (by omega) (.slice A6 b.length c6) b sh A2 sh.length c2 (fun _ => True) (fun _ => False) rfl rfl hvb.out (Kd.R_reads' hv2.out).2.2 (fun _ _ h => h) (fun _ h => h.elim) (fun _ _ => trivial) hb2.out hb2.out.size ?aL ?_; (case aL => have := hG.out; omega); intro v3 w3 hv3 hb3 hg3 hat3; rw [← hy1.out] at hv3; replace hv3 := Aside0.mk hv3; replace hb3 := Aside0.mk hb3; clear hg3 hat3 x0 x1 x2; obtain ⟨x0, x1, x2⟩ := hX.out _ hb3.out; obtain ⟨A3, c3, hvs3⟩ := Kd.R_slice hv3.out; subst hvs3) | (at_builtin; refine print_append_str (w0 := w) w.heap.size rfl (.tmp 27) (.tmp 32) 22 9 5 rfl Try.underlying22 Try.underlying9 i5 (.slice A3 y1.length c3) y1 nm rfl rfl (Kd.own_of_R hv3.out) hb3.out hb3.out.size ?aL ?_; (case aL => have := hG.out; omega); intro v4 w4 ho4 hb4 hg4; rw [← hy2.out] at ho4; have hv4 := Aside0.mk (Kd.R_of_own (h1 := fun _ => rfl) (ok := fun _ => True) ho4 (fun _ _ => trivial)); replace hb4 := Aside0.mk hb4; clear ho4 hg4 x0 x1 x2; obtain ⟨x0, x1, x2⟩ := hX.out _ hb4.out; obtain ⟨A4, c4, hvs4⟩ := Kd.R_slice hv4.out; subst hvs4) | (at_builtin; refine Kd.R_append (Kd.int .u8) (w0 := w) w.heap.size rfl (.tmp 46) (.tmp 49) 22 5 (.int .u8 0) 1 rfl Try.underlying22 i5 rfl (by decide) (by omega) (.slice A4 y2.length c4) y2 (ty % 256) [.int .u8 (ty % 256)] (fun _ => True) (fun _ => False) rfl rfl ?aP (fun _ hk => hk.elim) (fun _ _ => trivial) hv4.out hb4.out hb4.out.size ?aL ?_; (case aP => rfl); (case aL => have := hG.out; omega); intro v5 w5 hv5 hb5 hg5 hat5; replace hv5 := Aside0.mk hv5; replace hb5 := Aside0.mk hb5; clear hg5 hat5))
            go_roundg (l0.length - (i + 1))
            case measure => have := hi.out.1; omega
            case rel => exact ⟨i + 1, _, by simp, ⟨rfl, by omega, HL.out⟩, hv5, hb5⟩
          · simp only [if_true] at HL
            replace HL := Aside0.mk HL
            go_wp2_with (first | (go_at_call 43; refine (colonnaderef15_short.calls _ sh _ hsh.out).mono ?_; rintro e w2 ⟨v2, rfl, hv2, hb2⟩; obtain ⟨A2, c2, hvs2⟩ := Kd.R_slice hv2; subst hvs2; have hvb := Aside0.mk (Kd.R_below hv.out hb2); replace hb2 := Aside0.mk (below_then hB.out hB.out.size hb2); replace hv2 := Aside0.mk hv2; clear x0 x1 x2; obtain ⟨x0, x1, x2⟩ := hX.out _ hb2.out) | (at_builtin; refine Kd.R_append_rows (Kd.int .u8) (w0 := w) w.heap.size rfl (.tmp 18) (.tmp 25) 22 5 (.int .u8 0) 1 rfl Try.underlying22 i5 rfl (by decide) (by omega) (.slice A6 b.length c6) b sh A2 sh.length c2 (fun _ => True) (fun _ => False) rfl rfl hvb.out (Kd.R_reads' hv2.out).2.2 (fun _ _ h => h) (fun _ h => h.elim) (fun _ _ => trivial) hb2.out hb2.out.size ?aL ?_; (case aL => have := hG.out; omega); intro v3 w3 hv3 hb3 hg3 hat3; rw [← hy1.out] at hv3; replace hv3 := Aside0.mk hv3; replace hb3 := Aside0.mk hb3; clear hg3 hat3 x0 x1 x2; obtain ⟨x0, x1, x2⟩ := hX.out _ hb3.out; obtain ⟨A3, c3, hvs3⟩ := Kd.R_slice hv3.out; subst hvs3) | (at_builtin; refine print_append_str (w0 := w) w.heap.size rfl (.tmp 27) (.tmp 32) 22 9 5 rfl Try.underlying22 Try.underlying9 i5 (.slice A3 y1.length c3) y1 nm rfl rfl (Kd.own_of_R hv3.out) hb3.out hb3.out.size ?aL ?_; (case aL => have := hG.out; omega); intro v4 w4 ho4 hb4 hg4; rw [← hy2.out] at ho4; have hv4 := Aside0.mk (Kd.R_of_own (h1 := fun _ => rfl) (ok := fun _ => True) ho4 (fun _ _ => trivial)); replace hb4 := Aside0.mk hb4; clear ho4 hg4 x0 x1 x2; obtain ⟨x0, x1, x2⟩ := hX.out _ hb4.out; obtain ⟨A4, c4, hvs4⟩ := Kd.R_slice hv4.out; subst hvs4) | (at_builtin; refine Kd.R_append (Kd.int .u8) (w0 := w) w.heap.size rfl (.tmp 46) (.tmp 49) 22 5 (.int .u8 0) 1 rfl Try.underlying22 i5 rfl (by decide) (by omega) (.slice A4 y2.length c4) y2 ((wrap64 (ty + 4)) % 256) [.int .u8 ((wrap64 (ty + 4)) % 256)] (fun _ => True) (fun _ => False) rfl rfl ?aP (fun _ hk => hk.elim) (fun _ _ => trivial) hv4.out hb4.out hb4.out.size ?aL ?_; (case aP => rfl); (case aL => have := hG.out; omega); intro v5 w5 hv5 hb5 hg5 hat5; replace hv5 := Aside0.mk hv5; replace hb5 := Aside0.mk hb5; clear hg5 hat5))
            go_roundg (l0.length - (i + 1))
            case measure => have := hi.out.1; omega
            case rel => exact ⟨i + 1, _, by simp, ⟨rfl, by omega, HL.out⟩, hv5, hb5⟩
        · cases HL
      · have he : i = l0.length := by have := hi.out.2.1; omega
        rw [List.drop_eq_nil_of_le (by omega), colonnaderef15_Put.l] at HL
        obtain rfl := Option.some.inj HL
        clear HL
        subst he
        go_wp2_with (fail)
        all_goals (go_ret; exact ⟨_, rfl, hv.out, hB.out⟩)
  · rw [if_neg hz] at h
    obtain rfl := Option.some.inj h
    have dC : (ck != 0) = true := by simpa using hz
    clear hz h
    go_enter Try.func24, Try.ntmps24
    go_wp2_with (first | (go_at_call 19; refine hCk.out.mono ?_; rintro e w1 ⟨rfl, hb1⟩))
    all_goals (go_ret; exact ⟨_, rfl, Kd.R_nil _ _ _ _ _, hb1.below⟩)
end Go.Proofs.Ytdiabhfphonciaa.Pa
