/- schema.Take, its walk by hand over the reader's. -/
import Derived.Test.YtdiabhfphonciaaPa0
import Derived.Test.YtdiabhfphonciaaL
import Derived.Test.YtdiabhfphonciaaRdK
import Derived.Test.YtdiabhfphonciaaCk
import Derived.Test.YtdiabhfphonciaaCl
import Derived.Defers
import Derived.Recover
import Derived.Laws.Pointers
import Derived.WalkLawsBesides
import Derived.RegionDies
import Derived.OpenShut
import Derived.Handy
import Derived.Lib.BitFns
import Derived.Laws.Bits64b
import Derived.Deep.QuietTactic
import Derived.Deep.RegionWith
namespace Go.Proofs.Ytdiabhfphonciaa.Pa
open Go.Proofs.Ytdiabhfphonciaa.L Go.RowKit Go.Proofs.YtdiabhfphonciaaW.PrintWords Go.Proofs.YtdiabhfphonciaaW.PrintLast Go.Proofs.YtdiabhfphonciaaW.PrintMore
set_option linter.unusedVariables false
set_option linter.unusedSimpArgs false
variable {B : Nat}

theorem below_low {w W W1 : World} {b : Nat} (h : Below w.heap.size w W) (k : Below b W W1) (hb : w.heap.size ≤ b) : Below w.heap.size w W1 :=
  ⟨k.os.trans h.os, k.tape.trans h.tape, k.output.trans h.output, Nat.le_trans h.size k.size, fun i hi => (k.block i (by omega)).trans (h.block i hi)⟩
theorem bits8_range (op : BinOp) (x y : Int) : 0 ≤ Go.bits op .u8 x y ∧ Go.bits op .u8 x y < 256 := by
  have := wf_bits op .u8 x y
  have h1 : IntKind.min .u8 = 0 := by rfl
  have h2 : IntKind.max .u8 = 255 := by rfl
  unfold Lit.wf at this
  simp only [h1, h2, Bool.and_eq_true, decide_eq_true_eq] at this
  omega
/-- Take's rounds: the columns so far, the reader's place and fault. -/
def takeL (bs : List Int) : Nat → Int → Int → List S42 → List S42 × Int × Int
  | 0, at_, fault, cols => (cols, at_, fault)
  | n + 1, at_, fault, cols =>
    let p := blkR bs at_ fault 64
    let q := tkR bs p.2.1 p.2.2
    takeL bs n q.2.1 q.2.2 (cols ++ [(⟨strOfNums p.1, Go.bits .andNot .u8 q.1 4, Go.bits .and .u8 q.1 4 != 0⟩ : S42)])
theorem uvR_at {bs : List Int} {at_ fault : Int} (h0 : 0 ≤ at_) (h1 : at_ ≤ bs.length) : 0 ≤ (uvR bs at_ fault).2.1 ∧ (uvR bs at_ fault).2.1 ≤ bs.length ∧ 0 ≤ (uvR bs at_ fault).1 ∧ (uvR bs at_ fault).1 < 18446744073709551616 := by
  unfold uvR
  split
  · exact ⟨h0, h1, by simp, by simp⟩
  · split
    · rename_i v rest hv
      obtain ⟨⟨k, hk1, hk2⟩, hv0, hv1⟩ := numF_rest _ _ _ _ _ hv
      have := (drop_back hk2 hk1).2
      exact ⟨by simp only; omega, by simp only; omega, hv0, hv1⟩
    · exact ⟨h0, h1, by simp, by simp⟩
theorem blkR_at {bs : List Int} {at_ fault most : Int} (h0 : 0 ≤ at_) (h1 : at_ ≤ bs.length) : 0 ≤ (blkR bs at_ fault most).2.1 ∧ (blkR bs at_ fault most).2.1 ≤ bs.length := by
  unfold blkR
  split
  · exact ⟨h0, h1⟩
  · split
    · exact ⟨h0, h1⟩
    · split
      · rename_i p rest hv
        obtain ⟨_, _, k, hk1, hk2⟩ := blockF_len hv
        have := (drop_back hk2 hk1).2
        exact ⟨by simp only; omega, by simp only; omega⟩
      · exact ⟨h0, h1⟩
theorem tkR_at {bs : List Int} {at_ fault : Int} (h0 : 0 ≤ at_) (h1 : at_ ≤ bs.length) : 0 ≤ (tkR bs at_ fault).2.1 ∧ (tkR bs at_ fault).2.1 ≤ bs.length := by
  unfold tkR
  split
  · exact ⟨h0, h1⟩
  · split
    · rename_i c l hv
      have e : (bs.drop at_.toNat).length = bs.length - at_.toNat := List.length_drop
      rw [hv] at e
      simp at e
      exact ⟨by simp only; omega, by simp only; omega⟩
    · exact ⟨h0, h1⟩
theorem takeL_at (bs : List Int) : ∀ (n : Nat) (at_ fault : Int) (cols : List S42), 0 ≤ at_ → at_ ≤ bs.length → 0 ≤ (takeL bs n at_ fault cols).2.1 ∧ (takeL bs n at_ fault cols).2.1 ≤ bs.length
  | 0, _, _, _, h0, h1 => ⟨h0, h1⟩
  | n + 1, at_, fault, cols, h0, h1 => by
    rw [takeL]
    have hb := blkR_at (fault := fault) (most := 64) h0 h1
    have ht := tkR_at (fault := (blkR bs at_ fault 64).2.2) hb.1 hb.2
    exact takeL_at bs n _ _ _ ht.1 ht.2
def schema_Take.f (k : Nat) (bs : List Int) : Option (List S42 × Int) :=
  if bs.length < 140737488355328 ∧ (∀ x ∈ bs, 0 ≤ x ∧ x < 256) then
    (if (uvR bs 0 0).1 > 256 then some ([], 150) else
      (if endR bs (takeL bs (uvR bs 0 0).1.toNat (uvR bs 0 0).2.1 (uvR bs 0 0).2.2 []).2.1 (takeL bs (uvR bs 0 0).1.toNat (uvR bs 0 0).2.1 (uvR bs 0 0).2.2 []).2.2 = 0 then
        (schema_Check.f k (takeL bs (uvR bs 0 0).1.toNat (uvR bs 0 0).2.1 (uvR bs 0 0).2.2 []).1).bind fun e => if e = 0 then some ((takeL bs (uvR bs 0 0).1.toNat (uvR bs 0 0).2.1 (uvR bs 0 0).2.2 []).1, 0) else some ([], 150)
      else some ([], 150)))
  else none
theorem schema_Take.mono : ∀ l k, LeO (schema_Take.f k l) (schema_Take.f (k + 1) l) := by
  intro l k
  unfold schema_Take.f
  exact LeO.ite (LeO.ite (LeO.refl _) (LeO.ite (LeO.bind (schema_Check.mono _ _) (fun _ => LeO.refl _)) (LeO.refl _))) (LeO.none _)
set_option maxHeartbeats 8000000 in
theorem schema_Take.calls (k : Nat) (A0 : Option Addr) (c0 : Nat) (l0 : List Int) (r1 : List S42) (r2 : Int) (w : World) (hr0 : Kd.C (Kd.int .u8) w A0 l0.length l0) (hc0 : l0.length ≤ c0) (h : schema_Take.f k l0 = some (r1, r2)) :
    Calls Try.prog 14 #[.slice A0 l0.length c0] w fun e w' => ∃ v0_ : Value, e = .returned (.tuple #[v0_, .int .i64 r2]) ∧ Kd.R k42 42 w' w.heap.size (fun _ => True) v0_ r1 ∧ Below w.heap.size w w' := by
  unfold schema_Take.f at h
  split at h
  · rename_i hg
    obtain ⟨hl, hbs⟩ := hg
    have hO := Aside0.mk (open_calls A0 c0 l0 w hr0 hc0 hl)
    have hu := uvR_at (bs := l0) (at_ := 0) (fault := 0) (by omega) (by omega)
    rcases hU : uvR l0 0 0 with ⟨n, a0, f0⟩
    rw [hU] at h hu
    simp only at h hu
    replace hbs := Aside0.mk hbs
    replace hU := Aside0.mk hU
    split at h
    · rename_i hgt
      have hd : decide (256 < n) = true := by simpa using hgt
      obtain ⟨rfl, rfl⟩ : ([] : List S42) = r1 ∧ (150 : Int) = r2 := by have := Option.some.inj h; exact ⟨congrArg Prod.fst this, congrArg Prod.snd this⟩
      clear h hgt hu hr0
      go_enter Try.func14, Try.ntmps14
      go_wp2_with (first | (go_at_call 34; refine hO.out.mono ?_; rintro e w1 ⟨g, rfl, hg1, hR1, hB1⟩) | (go_at_call 35; refine (uvarint_calls g l0 0 0 _ (by omega) (by omega) hR1.out).mono ?_; rw [hU.out]; rintro e w2 ⟨rfl, hR2, hK2⟩))
      all_goals (go_ret2; exact ⟨_, rfl, Kd.R_nil _ _ _ _ _, below_keeps hB1.out hK2.out hg1.out⟩)
    · rename_i hle
      have hd : decide (256 < n) = false := by simpa using hle
      have hn0 := hu.2.2.1
      have hA0 := Aside0.mk (And.intro hu.1 hu.2.1)
      replace h := Aside0.mk h
      clear hu hr0
      go_enter Try.func14, Try.ntmps14
      go_wp2_with (first | (go_at_call 34; refine hO.out.mono ?_; rintro e w1 ⟨g, rfl, hg1, hR1, hB1⟩) | (go_at_call 35; refine (uvarint_calls g l0 0 0 _ (by omega) (by omega) hR1.out).mono ?_; rw [hU.out]; rintro e w2 ⟨rfl, hR2, hK2⟩))
      go_loopg [6, 16] n.toNat (fun kq v6 v16 w' => ∃ (i : Nat) (cols : List S42) (a f : Int), v16 = .int .u64 i ∧ Aside0 (kq = n.toNat - i ∧ i ≤ n.toNat ∧ cols.length = i ∧ 0 ≤ a ∧ a ≤ l0.length ∧ takeL l0 n.toNat a0 f0 [] = takeL l0 (n.toNat - i) a f cols) ∧ Aside0 (Kd.R k42 42 w' w1.heap.size (fun _ => True) v6 cols) ∧ Aside0 (Rd w' w1.heap.size g l0 a f) ∧ Aside0 (Below w.heap.size w w'))
      case atStart => exact ⟨0, [], a0, f0, rfl, ⟨by omega, by omega, rfl, hA0.out.1, hA0.out.2, by simp⟩, ⟨Kd.R_nil _ _ _ _ _⟩, hR2, ⟨below_keeps hB1.out hK2.out hg1.out⟩⟩
      case round =>
        obtain ⟨i, cols, a, f, rfl, hi, hv, hRd, hB⟩ := hrel
        obtain ⟨A6, c6, hvs⟩ := Kd.R_slice hv.out
        subst hvs
        rcases Nat.lt_or_ge i n.toNat with hlt | hge
        · have hd2 : decide ((i : Int) < n) = true := by simp; omega
          have hBk := Aside0.mk (blk_calls g l0 a f 64 wr (by omega) (by omega) hi.out.2.2.2.1 hi.out.2.2.2.2.1 hRd.out)
          have hiB := blkR_at (bs := l0) (at_ := a) (fault := f) (most := 64) hi.out.2.2.2.1 hi.out.2.2.2.2.1
          have hTL := hi.out.2.2.2.2.2
          rw [show n.toNat - i = (n.toNat - (i + 1)) + 1 by omega, takeL] at hTL
          rcases hp : blkR l0 a f 64 with ⟨p, a1, f1⟩
          rw [hp] at hBk hiB hTL
          simp only at hBk hiB hTL
          have hiT := tkR_at (bs := l0) (at_ := a1) (fault := f1) hiB.1 hiB.2
          rcases hq : tkR l0 a1 f1 with ⟨q, a2, f2⟩
          rw [hq] at hTL hiT
          simp only at hTL hiT
          have hTk := Aside0.mk (fun (W : World) (hW : Rd W w1.heap.size g l0 a1 f1) => take8_calls g l0 a1 f1 W hbs.out hiB.1 hiB.2 hW)
          rw [hq] at hTk
          have hX := Aside0.mk (And.intro hTL hiT)
          clear hTL hiT hiB hp hq
          have hgw := Aside0.mk (Nat.lt_of_lt_of_le hRd.out.lt hRd.out.le)
          have hwg : IntKind.i64.wrap (Go.bits .andNot .u8 q 4) = Go.bits .andNot .u8 q 4 := by have := bits8_range .andNot q 4; rw [wrapEq]; exact wrap64_in (by omega) (by omega)
          go_wp2_with (first | (go_at_call 36; refine hBk.out.mono ?_; rintro e w3 ⟨vp, rfl, hvp, hR3, hK3⟩; replace hvp := Aside0.mk hvp) | (go_at_call 37; refine (hTk.out _ hR3.out).mono ?_; rintro e w4 ⟨rfl, hR4, hK4⟩; have hcv := own_string (P := Try.prog) Try.underlying22 Try.underlying5 Try.underlying9 (Kd.own_of_R (R_keeps_old hvp.out hK4.out hgw.out)); have hv4 := Aside0.mk (R_keeps_old (R_keeps_old hv.out hK3.out hRd.out.lt) hK4.out hRd.out.lt)) | ((with_reducible refine gate_builtin (b := .append) (xs := #[.tmp 22, .tmp 32]) rfl ?_); at_builtin; refine Kd.R_append k42 (w0 := w4) w1.heap.size rfl (.tmp 22) (.tmp 32) 26 42 (.agg #[(.string ⟨#[]⟩), (.int .i64 0), (.bool false)]) 32 rfl Try.underlying26 info42 rfl (by decide) (by omega) (.slice A6 cols.length c6) cols (⟨strOfNums p, Go.bits .andNot .u8 q 4, Go.bits .and .u8 q 4 != 0⟩ : S42) [.string (strOfNums p), .int .i64 (Go.bits .andNot .u8 q 4), .bool (Go.bits .and .u8 q 4 != 0)] (fun _ => True) (fun _ => False) rfl rfl ?aP (fun _ hk => hk.elim) (fun _ _ => trivial) hv4.out (Below.refl _ _) hR4.out.le ?aL ?_; (case aP => exact k42_mkM _ _ _ _); (case aL => have := hi.out.2.2.1; have := hi.out.2.1; omega); intro v5 w5 hv5 hb5 hg5 hat5; replace hv5 := Aside0.mk hv5; replace hb5 := Aside0.mk hb5; clear hg5 hat5))
          go_roundg (n.toNat - (i + 1))
          case measure => have := hi.out.1; omega
          case rel =>
            refine ⟨i + 1, _, a2, f2, by simp, ⟨rfl, by omega, by simp; exact hi.out.2.2.1, hX.out.2.1, hX.out.2.2, hX.out.1⟩, hv5, ⟨hR4.out.far hb5.out.size (fun j hj => hb5.out.block j hj)⟩, ⟨?_⟩⟩
            exact below_low (below_keeps (below_keeps hB.out hK3.out hg1.out) hK4.out hg1.out) hb5.out hB1.out.size
        · have hd2 : decide ((i : Int) < n) = false := by simp; omega
          have hTL := hi.out.2.2.2.2.2
          rw [show n.toNat - i = 0 by omega, takeL] at hTL
          have H := h.out
          rw [hTL] at H
          simp only at H
          clear hTL
          by_cases hE : endR l0 a f = 0
          · rw [if_pos hE] at H
            obtain ⟨ck, hck, H⟩ := Option.bind_eq_some_iff.mp H
            replace hck := Aside0.mk hck
            have dE : (endR l0 a f != 0) = false := by simpa using hE
            by_cases hz : ck = 0
            · rw [if_pos hz] at H
              obtain ⟨rfl, rfl⟩ : cols = r1 ∧ (0 : Int) = r2 := by have := Option.some.inj H; exact ⟨congrArg Prod.fst this, congrArg Prod.snd this⟩
              have dC : (ck != 0) = false := by simpa using hz
              clear H hE hz
              go_wp2_with (first | (go_at_call 38; refine (end_calls g l0 a f _ hi.out.2.2.2.1 hi.out.2.2.2.2.1 hRd.out).mono ?_; rintro e w3 ⟨rfl, hb3⟩) | (go_at_call 16; refine (schema_Check.calls k A6 c6 cols ck _ (Kd.R_reads' (Kd.R_below hv.out hb3.out)).2.2 (Kd.R_reads' hv.out).2.1 hck.out).mono ?_; rintro e w4 ⟨rfl, hb4⟩; replace hb4 := Aside0.mk hb4))
              all_goals (go_ret2; exact ⟨_, rfl, Kd.R_lower (Kd.R_below (Kd.R_below hv.out hb3.out) hb4.out) hB1.out.size, below_then (below_then hB.out hB.out.size hb3.out) (Nat.le_trans hB.out.size hb3.out.size) hb4.out⟩)
            · rw [if_neg hz] at H
              obtain ⟨rfl, rfl⟩ : ([] : List S42) = r1 ∧ (150 : Int) = r2 := by have := Option.some.inj H; exact ⟨congrArg Prod.fst this, congrArg Prod.snd this⟩
              have dC : (ck != 0) = true := by simpa using hz
              clear H hE hz
              go_wp2_with (first | (go_at_call 38; refine (end_calls g l0 a f _ hi.out.2.2.2.1 hi.out.2.2.2.2.1 hRd.out).mono ?_; rintro e w3 ⟨rfl, hb3⟩) | (go_at_call 16; refine (schema_Check.calls k A6 c6 cols ck _ (Kd.R_reads' (Kd.R_below hv.out hb3.out)).2.2 (Kd.R_reads' hv.out).2.1 hck.out).mono ?_; rintro e w4 ⟨rfl, hb4⟩; replace hb4 := Aside0.mk hb4))
              all_goals (go_ret2; exact ⟨_, rfl, Kd.R_nil _ _ _ _ _, below_then (below_then hB.out hB.out.size hb3.out) (Nat.le_trans hB.out.size hb3.out.size) hb4.out⟩)
          · rw [if_neg hE] at H
            obtain ⟨rfl, rfl⟩ : ([] : List S42) = r1 ∧ (150 : Int) = r2 := by have := Option.some.inj H; exact ⟨congrArg Prod.fst this, congrArg Prod.snd this⟩
            have dE : (endR l0 a f != 0) = true := by simpa using hE
            clear H hE
            go_wp2_with (first | (go_at_call 38; refine (end_calls g l0 a f _ hi.out.2.2.2.1 hi.out.2.2.2.2.1 hRd.out).mono ?_; rintro e w3 ⟨rfl, hb3⟩))
            all_goals (go_ret2; exact ⟨_, rfl, Kd.R_nil _ _ _ _ _, below_then hB.out hB.out.size hb3.out⟩)
  · cases h
end Go.Proofs.Ytdiabhfphonciaa.Pa
